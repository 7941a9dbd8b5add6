/-
  Contracts of functions that MuxesWrong reaches, and plain facts (part D). Conditions: the hypotheses of each theorem.
-/
import Derived.Test.YtndcgfnlgcincaaQC
import Derived.Laws.CopyRow
namespace Go.Proofs.Ytndcgfnlgcincaa
open Go.RowKit Go.Mem Go.Aig
attribute [local go_sem] Oper.semAt_some
section
variable {w : World} {g m : Nat} {G : Gra} {F : List Nat}
set_option maxRecDepth 100000 in
set_option maxHeartbeats 4000000 in
theorem mWrite1_is [Nonempty Unit] (h : MIn w g m (G, 0) F) {Ls : List WV} {lb nl lc n yc width fitv cr : Nat} {y : List Nat} {ya : Option Addr} {x : WV} (hL : WL w (m :: F) lb nl Ls) (hW : ∀ x ∈ Ls, WOf G width x.l) (hnl : 1 ≤ nl ∧ nl ≤ 256) (hw : width ≤ 16)
    (hx : WVin w (m :: F) x) (hxw : WOf G width x.l) (hcr : cr < 2 * G.nodes.length)
    (hy : WVin w (m :: F) ⟨ya, natInts y, yc⟩) (hyl : y.length = n) (h1 : 1 ≤ n) (h16 : n ≤ 16) (hyr : ∀ r ∈ y, r < 2 * G.nodes.length) (hfit : fitN nl n = fitv)
    {bl b2 bg bc bx : Nat} (hbl : w.cell? ⟨bl, 0, none⟩ = some (.slice (some ⟨lb, 0, none⟩) nl lc)) (hby : w.cell? ⟨b2, 0, none⟩ = some (.slice ya n yc)) (hbg : w.cell? ⟨bg, 0, none⟩ = some (.pointer (some ⟨g, 0, none⟩))) (hbc : w.cell? ⟨bc, 0, none⟩ = some (.int .i64 cr)) (hbx : w.cell? ⟨bx, 0, none⟩ = some (.slice x.a width x.c))
    (hblF : bl ∉ m :: F) (hbyF : b2 ∉ m :: F) (hbgF : bg ∉ m :: F) (hbcF : bc ∉ m :: F) (hbxF : bx ∉ m :: F) :
    Calls Try.prog 34 (#[.pointer (some ⟨m, 0, none⟩)] ++ #[.pointer (some ⟨bl, 0, none⟩), .pointer (some ⟨b2, 0, none⟩), .pointer (some ⟨bg, 0, none⟩), .pointer (some ⟨bc, 0, none⟩), .pointer (some ⟨bx, 0, none⟩)]) w fun e W' => ∃ v, e = .returned v ∧ WA1 w g m G F width (writeF G cr (nats x.l) (Ls.map fun x => nats x.l) y n fitv) v W' := by
  show Calls Try.prog 34 #[.pointer (some ⟨m, 0, none⟩), .pointer (some ⟨bl, 0, none⟩), .pointer (some ⟨b2, 0, none⟩), .pointer (some ⟨bg, 0, none⟩), .pointer (some ⟨bc, 0, none⟩), .pointer (some ⟨bx, 0, none⟩)] w _
  have hml := h.bk.lt
  have hFl := h.gin.lt
  have hok := h.gin.ok
  have hpos := hok.wf.pos
  have hfl : fitv ≤ nl := by rw [← hfit]; exact Nat.min_le_left _ _
  obtain ⟨LN, hLN⟩ : ∃ LN, LN = Ls.map fun x => nats x.l := ⟨_, rfl⟩
  rw [← hLN]
  have hLg : ∀ (i : Nat) (x : WV), Ls[i]? = some x → LN[i]? = some (nats x.l) := fun i x hx => by rw [hLN, List.getElem?_map, hx]; rfl
  have hLl : LN.length = nl := by rw [hLN, List.length_map]; exact hL.len
  have H := Lib.hid h; clear h
  have HL := Lib.hid hL; clear hL
  have HW := Lib.hid hW; clear hW
  have HXW := Lib.hid hxw; clear hxw
  have HXV := Lib.hid hx; clear hx
  have HYW := Lib.hid hy; clear hy
  have HLG := Lib.hid hLg; clear hLg
  have HLL := Lib.hid hLl; clear hLl
  have hbllt := cell_lt hbl
  have hbylt := cell_lt hby
  have hbglt := cell_lt hbg
  have hbclt := cell_lt hbc
  have hbxlt := cell_lt hbx
  simp only at hbllt hbylt hbglt hbclt hbxlt
  have HBL := Lib.hid hbl
  have HBY := Lib.hid hby
  have HBG := Lib.hid hbg
  have HBC := Lib.hid hbc
  have HBX := Lib.hid hbx
  have HOK := Lib.hid hok; clear hok
  obtain ⟨RQ, hRQ⟩ : ∃ RQ : Nat → Mk × List (List Nat), ∀ k, RQ k = writeF G cr (nats x.l) LN y n k := ⟨_, fun _ => rfl⟩
  have hR0 : RQ 0 = ((G, 0), LN) := by rw [hRQ]; rfl
  have hRS : ∀ k, RQ (k + 1) = writeS cr (nats x.l) LN y n (RQ k) k := fun k => by rw [hRQ, hRQ, writeF_succ]
  have hRB : ∀ k, (isR (RQ k).1 y n k).1.2 ≠ 0 → ∀ j, k < j → (RQ j).1 = (isR (RQ k).1 y n k).1 := fun k hk j hj => by
    rw [hRQ] at hk
    rw [hRQ, hRQ]; exact writeF_bad hk j hj
  rw [← hRQ]
  have HR0 := Lib.hid hR0; clear hR0
  have HRS := Lib.hid hRS; clear hRS
  have HRB := Lib.hid hRB; clear hRB
  clear hLN hRQ
  refine (callsIn_wide (n := 4)).1 ?_
  refine callsIn_of_wp_marks Try.func34 rfl trivial ?_ rfl
  simp only [Try.ntmps34, List.size_toArray, List.length_cons, List.length_nil, Nat.reduceAdd, Nat.reduceSub, Array.replicate_succ, Array.replicate_zero, List.push_toArray, List.append_toArray, List.nil_append, List.cons_append]
  refine wpIn_wide.2 ?_
  go_upto_region 2 with fail
  refine wp_named fun W1 hW1 => ?_
  have hc1 : Ch [] w W1 := by rw [hW1]; exact ((Ch.refl _ _).alloc _).alloc _
  have hbm : blk W1 w.heap.size [.pointer (some ⟨m, 0, none⟩)] := by rw [hW1]; exact (blk.new' _ _ (by simp)).alloc _
  have hbo : blk W1 (w.heap.size + 1) [.slice none 0 0] := by rw [hW1]; exact blk.new' _ _ (by simp)
  clear hW1
  have c_l := (hc1.cell (cell_lt hbl) (by simp)).trans hbl
  have hcp : CpI w m w.heap.size (w.heap.size + 1) width Ls W1 (.slice none 0 0) 0 [] := ⟨hc1, hbo, hbm, ⟨rfl, .inl ⟨rfl, rfl⟩⟩, by simp [Value.ownBlock], by simp⟩
  generalize hob : w.heap.size + 1 = ob at *
  have hob1 : w.heap.size < ob := by omega
  clear hob hbo hbm hbl hby hbg hbc hbx
  have HC1 := Lib.hid hc1; clear hc1
  have HCP := Lib.hid hcp; clear hcp
  go_wp2_with fail
  clear c_l
  go_loopw [17] (fun i wr => ∃ (k : Nat) (v : Value) (vs : List Value), k ≤ nl ∧ i = .int .i64 k ∧ CpI w m w.heap.size ob width Ls wr v k vs) (fun i _ => nl - (intOf i).toNat)
  case atStart => exact ⟨0, _, [], Nat.zero_le _, rfl, HCP.out⟩
  case round =>
    clear HCP
    obtain ⟨k, v, vs, hk, rfl, hcp⟩ := hrel
    obtain ⟨oa, oc, rfl⟩ := row.shape hcp.arr
    by_cases hlt : k < nl
    · obtain ⟨z, hz⟩ : ∃ z, Ls[k]? = some z := ⟨_, List.getElem?_eq_getElem (by rw [HL.out.len]; exact hlt)⟩
      have hzm := List.mem_of_getElem? hz
      have hzw := HW.out z hzm
      have c_z := (hcp.ch.cell (cell_lt (HL.out.cells k z hz)) (by simp)).trans (HL.out.cells k z hz)
      have hcl := fun (W : World) (hW : Ch [] wr W) => Clref_w ((HL.out.words z hzm).ok.ch (hcp.ch.trans hW (by simp)) (by simp)) width hzw.len
      have hil : (intCells z.l).length = width := by rw [show (intCells z.l).length = z.l.length by simp [intCells]]; exact hzw.len
      unfold WV.val at c_z
      rw [hzw.len] at c_z
      have hbo := hcp.bx
      have hobl := hbo.lt
      have HCL := Lib.hid hcl; clear hcl
      have HCP := Lib.hid hcp; clear hcp
      have HZ := Lib.hid hz; clear hz
      clear hzm hzw
      obtain ⟨za, zl, zc⟩ := z
      simp only at c_z hil HZ HCL
      have HIL := Lib.hid hil; clear hil
      go_wp2_with fail
      refine Ord.St.door (fun w' => w'.cell? ⟨ob, 0, none⟩ = some (.slice oa k oc)) [.ho, .fl, .ef, .ef, .ef, .ef] [0, 0, 2, 6, 15, 31] [0, 1, 2, 3, 4, 5] mixed (by kernel_rfl) rfl ?_
      obtain ⟨Wc, hWc⟩ : ∃ Wc, Wc = wr.drew := ⟨_, rfl⟩
      rw [← hWc]
      have hcur : Ch [] wr Wc := by rw [hWc]; exact (Ch.refl _ _).drew
      clear hWc
      replace hbo := hbo.ch hcur (by simp)
      have HCC := Lib.hid (HCL.out Wc hcur)
      have HCUR := Lib.hid hcur; clear hcur HCL
      refine Ord.St.ho2 (T' := ?_) 0 [1, 2, 3, 4, 5] _ _ rfl (by kernel_rfl) rfl rfl rfl rfl ?_ (fun K w' hw' hk => ?_) ?_
      rotate_left
      · exact hbo.cell rfl
      · have q1 := hw'; go_step; exact hk
      refine Ord.St.fl2 (T' := ?_) 1 [2, 3, 4, 5] _ _ rfl (by kernel_rfl) rfl rfl rfl rfl (fun K w' hk => ?_) ?_
      rotate_left
      · go_step; exact hk
      refine Ord.St.efC 2 [3, 4, 5] _ rfl (by kernel_rfl) (fun K hK => ?_)
      go_wp2_with fail
      refine HCC.out.mono ?_
      rintro e w1 ⟨u, rfl, hru, hou, hcu⟩
      rw [HIL.out] at hru
      obtain ⟨ua, uc, rfl⟩ := row.shape hru
      replace hbo := hbo.ch hcu (by simp)
      have hnb : blk (w1.alloc (.cells #[.slice ua width uc] 25)) w1.heap.size [.slice ua width uc] := blk.new' _ _ rfl
      have hcA : Ch [] wr (w1.alloc (.cells #[.slice ua width uc] 25)) := (HCUR.out.trans hcu (by simp)).alloc _
      have harrA := HCP.out.arr.ch hcA (by simp)
      have hruA := hru.ch ((Ch.refl [] w1).alloc (.cells #[.slice ua width uc] 25)) (by simp)
      have HNB := Lib.hid hnb; clear hnb
      have HARR := Lib.hid harrA; clear harrA
      have HRUA := Lib.hid hruA; clear hruA hru
      have HCA := Lib.hid hcA; clear hcA
      have HOU := Lib.hid hou; clear hou
      have HCU := Lib.hid hcu; clear hcu HCC
      go_wp2_with fail
      refine ⟨rfl, hK _ _ ?_ ?_⟩
      · exact hbo.cell rfl
      clear hK K
      refine Ord.St.efC 3 [4, 5] _ rfl (by kernel_rfl) (fun K hK => ?_)
      go_wp2_with fail
      replace hbo := hbo.alloc (.cells #[.slice ua width uc] 25)
      refine ⟨rfl, hK _ _ ?_ ?_⟩
      · exact hbo.cell rfl
      clear hK K
      refine Ord.St.ef 4 [5] _ rfl (by kernel_rfl) (fun K hK => ?_)
      go_wp2_with (at_builtin; go_loud (refine wpList_append_row slRows rfl _ _ rfl (v := .slice oa k oc) (n := k) (xs := vs) rfl HARR.out (ad := ⟨w1.heap.size, 0, none⟩) (m := 1) (c := 1) (news := [.slice ua width uc]) rfl rfl (news_blk HNB.out) (by simp [Value.oneCell']) (by omega) (by omega) ?_; intro v' w4 hown4 hC4 hf4; obtain ⟨gb, gc, rfl⟩ := row.parts hown4 (by omega); have HO4 := Lib.hid hown4; clear hown4; have HC4 := Lib.hid hC4; clear hC4; have HF4 := Lib.hid hf4; clear hf4))
      replace hbo := hbo.ch HC4.out (fun hk => (HCP.out.own _ (by simpa using hk)).2.1 rfl)
      have k1 := hbo.cell (i := 0) rfl
      have k2 := hbo.frozen (i := 0)
      refine ⟨rfl, hK _ _ ?_⟩; clear hK K
      refine Ord.St.ef 5 [] _ rfl (by kernel_rfl) (fun K hK => ?_)
      go_wp2_with fail
      refine ⟨rfl, hK _ _ ?_⟩; clear hK K
      refine Ord.St.nil ?_
      go_wp2_with fail
      go_roundw
      case rel =>
        have hsn := HCP.out.snoc (by omega) (by omega) HZ.out HCA.out HRUA.out (fun q hq => Nat.le_trans HCUR.out.size (HOU.out q (by simpa using hq))) HO4.out HC4.out HF4.out
        exact ⟨k + 1, _, _, by omega, by go_num, hsn⟩
      case measure => simp [intOf]; omega
    · have hkn : k = nl := by omega
      obtain ⟨ab, acap, e⟩ := hcp.arr.parts (by omega)
      cases e
      rw [hkn] at hcp ⊢
      clear hkn hk
      have c_l := (hcp.ch.cell (cell_lt HBL.out) (by simp)).trans HBL.out
      have c_y := (hcp.ch.cell (cell_lt HBY.out) (by simp)).trans HBY.out
      have c_m := hcp.mbx.cell (i := 0) rfl
      have HCP := Lib.hid hcp; clear hcp
      go_wp2_with fail
      refine (mfitting_is (m := m) nl ya n yc).mono ?_
      rintro e W0 ⟨rfl, hW0⟩
      have hc0 : Ch [] wr W0 := by rw [hW0]; exact (((Ch.refl _ _).alloc _).alloc _).alloc _
      have hbm0 : blk W0 wr.heap.size [.pointer (some ⟨m, 0, none⟩)] := by rw [hW0]; exact ((blk.new' _ _ (by simp)).alloc _).alloc _
      have hbn0 : blk W0 (wr.heap.size + 1) [.int .i64 nl] := by rw [hW0]; exact (blk.new' _ _ (by simp)).alloc _
      have hby0 : blk W0 (wr.heap.size + 2) [.slice ya n yc] := by rw [hW0]; exact blk.new' _ _ (by simp)
      clear hW0 c_l c_y c_m
      go_wp2_with fail
      have hcw : Ch [] w W0 := HCP.out.ch.trans hc0 (by simp)
      have habo := HCP.out.own ab rfl
      have habl := (HCP.out.arr.lt ab rfl).2
      have hobl := HCP.out.bx.lt
      have hz0 := hc0.size
      have hbml := HCP.out.mbx.lt
      have key : ∀ k, k < w.heap.size → k ∉ m :: F → k ∉ m :: ab :: F := fun k hk hn => by
        simp only [List.mem_cons, not_or] at hn ⊢
        exact ⟨hn.1, by omega, hn.2⟩
      have hFR : FR W0 m F ab := ⟨fun k hk => by
        have hz := hcw.size
        simp only [List.mem_cons] at hk
        rcases hk with rfl | hk
        · omega
        · have := hFl k hk; omega, by omega, by omega, fun hin => by have := hFl _ hin; omega⟩
      have hL0 : WL W0 (m :: ab :: F) lb nl Ls := by
        have h0 := HL.out.ch hcw
        exact ⟨h0.len, h0.cells, fun x hx => ⟨(h0.words x hx).ok, fun k hk => ⟨key k ((HL.out.words x hx).apart k hk).2 ((h0.words x hx).apart k hk).1, ((h0.words x hx).apart k hk).2⟩⟩, key _ HL.out.apart.2 h0.apart.1, h0.apart.2⟩
      have hvin : ∀ {z : WV}, WVin w (m :: F) z → WVin W0 (m :: ab :: F) z := fun hz => ⟨(hz.ch hcw).ok, fun k hk => ⟨key k (hz.apart k hk).2 (hz.apart k hk).1, ((hz.ch hcw).apart k hk).2⟩⟩
      have hY0 := hvin HYW.out
      have hX0 := hvin HXV.out
      have hbl0 := (hcw.cell (cell_lt HBL.out) (by simp)).trans HBL.out
      have hbg0 := (hcw.cell (cell_lt HBG.out) (by simp)).trans HBG.out
      have hbc0 := (hcw.cell (cell_lt HBC.out) (by simp)).trans HBC.out
      have hbx0 := (hcw.cell (cell_lt HBX.out) (by simp)).trans HBX.out
      have hnin : ∀ b, w.heap.size ≤ b → b ≠ ab → b ∉ m :: ab :: F := fun b hb hne => by
        simp only [List.mem_cons, not_or]
        exact ⟨by omega, hne, fun hin => by have := hFl _ hin; omega⟩
      have hbo0 := (HCP.out.bx.ch hc0 (by simp)).cell (i := 0) rfl
      have hmb0 := (HCP.out.mbx.ch hc0 (by simp)).cell (i := 0) rfl
      have hRI0 : WT W0 w.heap.size g m G F ab nl oc width (fun i => (RQ i).2) 0 (RQ 0).1 W0 (G, 0) F := by
        rw [HR0.out]
        refine ⟨vs, LN, Sim.start HOK.out, fun _ => by show _ = (RQ 0).2; rw [HR0.out], H.out.same hcw (by simp), Ch.refl _ _, fun k hk => .inl hk, rfl, HCP.out.arr.ch hc0 (by simp), HLL.out, fun i u hu => ?_⟩
        obtain ⟨z, k1, k2, k3⟩ := HCP.out.words i u hu
        have hzw := HW.out z (List.mem_of_getElem? k1)
        refine ⟨nats z.l, HLG.out i z k1, by rw [nats_len]; exact hzw.len, hzw.lt, by rw [refs_natInts, hzw.cast]; exact k2.ch hc0 (by simp), fun k hk => ?_⟩
        obtain ⟨f1, f2, f3, f4⟩ := k3 k hk
        have f5 := (k2.lt k hk).2
        refine ⟨f1, ?_, by omega, by omega⟩
        simp only [List.mem_cons, not_or]
        exact ⟨by omega, fun e => f4 (by rw [e]; rfl), fun hin => by have := hFl _ hin; omega⟩
      have hFT := WT.ft (lo := w.heap.size) (g := g) (G := G) (nl := nl) (cap := oc) (width := width) (O := fun i => (RQ i).2) hFR hY0 (hbn0.cell (i := 0) rfl) (hby0.cell (i := 0) rfl) (hbm0.cell (i := 0) rfl) (hnin _ (by omega) (by omega)) (hnin _ (by omega) (by omega)) (hnin _ (by omega) (by omega))
      have HFR := Lib.hid hFR; clear hFR
      have HFT := Lib.hid hFT; clear hFT
      have HL0 := Lib.hid hL0; clear hL0
      have HX0 := Lib.hid hX0; clear hX0
      have HRI0 := Lib.hid hRI0; clear hRI0
      have HCW := Lib.hid hcw; clear hcw
      have HBL0 := Lib.hid hbl0; clear hbl0
      have HBG0 := Lib.hid hbg0; clear hbg0
      have HBC0 := Lib.hid hbc0; clear hbc0
      have HBX0 := Lib.hid hbx0; clear hbx0
      have HBO0 := Lib.hid hbo0; clear hbo0
      have HMB0 := Lib.hid hmb0; clear hmb0
      have hblN := key bl hbllt hblF
      have hbgN := key bg hbglt hbgF
      have hbcN := key bc hbclt hbcF
      have hbxN := key bx hbxlt hbxF
      have hobN := hnin ob (by omega) (fun e => habo.2.1 e.symm)
      have hmbN := hnin w.heap.size (Nat.le_refl _) (fun e => habo.2.2 e.symm)
      have HBLN := Lib.hid hblN; clear hblN hblF
      have HBGN := Lib.hid hbgN; clear hbgN hbgF
      have HBCN := Lib.hid hbcN; clear hbcN hbcF
      have HBXN := Lib.hid hbxN; clear hbxN hbxF
      have HOBN := Lib.hid hobN; clear hobN
      have HMBN := Lib.hid hmbN; clear hmbN
      clear hbm0 hbn0 hby0 hY0 key hvin hnin hbyF hc0
      refine (wpIn_wide (n := 4)).1 ?_
      refine wpIn_rangeFunc_Q (n := 4) W0.heap.size rfl rfl (by omega) rfl trivial (fun args w => fnvmfitting1 args w) (encs := fitEnc) (fun _ => rfl)
        (FInv (WT W0 w.heap.size g m G F ab nl oc width (fun i => (RQ i).2)) (fun i => (RQ i).1) 0)
        (FKx (WT W0 w.heap.size g m G F ab nl oc width (fun i => (RQ i).2)) (fun i => isR (RQ i).1 y n i) fitv)
        (fun x => FInv (WT W0 w.heap.size g m G F ab nl oc width (fun i => (RQ i).2)) (fun i => (RQ i).1) (x.1 + 1))
        (FInv (WT W0 w.heap.size g m G F ab nl oc width (fun i => (RQ i).2)) (fun i => (RQ i).1) fitv)
        ?seq ?j0 ?k ?j ?d ⟨_, _, HRI0.out⟩ ?a1 ?assign ?body ?done
      case assign =>
        intro q x W K hK
        simp only [fitEnc]
        gi_wp2
        exact hK
      case j0 =>
        rintro A A' ⟨P, F', h⟩ hc
        exact ⟨P, F', HFT.out.same h hc⟩
      case k =>
        rintro x A A' ⟨hx, P, F', hp, h, h2⟩ hc
        exact ⟨hx, P, F', hp, HFT.out.same h hc, h2⟩
      case j =>
        rintro x A A' ⟨P, F', h⟩ hc
        exact ⟨P, F', HFT.out.same h hc⟩
      case d =>
        rintro A A' ⟨P, F', h⟩ hc
        exact ⟨P, F', HFT.out.same h hc⟩
      case seq =>
        intro lp X hX hXB hY W hI hXW
        refine fit_seq (T := WT W0 w.heap.size g m G F ab nl oc width (fun i => (RQ i).2)) (RF := fun i => (RQ i).1) (IS := fun i => isR (RQ i).1 y n i) 3 (by omega) HFT.out hyl h1 h16 (by omega) hyr hfit (fun _ => rfl) ?_ lp X hX hXB hY W hI hXW
        rintro i hi hb W P F' ⟨vs, ls, h⟩
        have e := HRB.out i hb fitv hi
        refine ⟨vs, ls, ?_⟩
        rw [e]
        exact ⟨h.sim, fun h9 => absurd h9 hb, h.mem, h.ch, h.own, h.map, h.arr, h.len, h.words⟩
      case body =>
        rintro q ⟨i, r⟩ W ⟨hxf, P, F', hP, ⟨vs2, ls, hE⟩, hr, hrl⟩ hWl
        simp only at hxf hE hr hrl
        obtain ⟨z, hz⟩ : ∃ z, Ls[i]? = some z := ⟨_, List.getElem?_eq_getElem (by rw [HL0.out.len]; omega)⟩
        have hmem := List.mem_of_getElem? hz
        have hzo := HW.out z hmem
        have hlg := HLG.out i z hz
        have hzc0 := HL0.out.cells i z hz
        have hzv := HL0.out.words z hmem
        have hcrl : cr < 2 * P.1.nodes.length := hE.sim.ext.lt hcr
        have hst := hE.sim.step (and_full hE.mem.gin.ok hcrl hrl) (Y := and (isR (RQ i).1 y n i).1.1 cr r) (fun _ e => by rw [e])
        have hAND := And_g hE.mem.gin cr r (by have := hE.mem.gin.ok.small; omega) (by have := hE.mem.gin.ok.small; omega)
        rw [doAnd_r hcrl hrl] at hAND
        obtain ⟨X, hX⟩ : ∃ X, and P.1 cr r = X := ⟨_, rfl⟩
        rw [hX] at hst hAND
        have hSQ : RQ (i + 1) = ((chF (rstep (isR (RQ i).1 y n i).1 (and (isR (RQ i).1 y n i).1.1 cr r)).2 (rstep (isR (RQ i).1 y n i).1 (and (isR (RQ i).1 y n i).1.1 cr r)).1 ((nats x.l).zip (nats z.l))).1, (RQ i).2.set i (chF (rstep (isR (RQ i).1 y n i).1 (and (isR (RQ i).1 y n i).1.1 cr r)).2 (rstep (isR (RQ i).1 y n i).1 (and (isR (RQ i).1 y n i).1.1 cr r)).1 ((nats x.l).zip (nats z.l))).2) := by
          rw [HRS.out]
          unfold writeS
          rw [← hr, show LN.getD i [] = nats z.l by rw [List.getD_eq_getElem?_getD, hlg]; rfl]
        obtain ⟨R2, hR2⟩ : ∃ R2, rstep (isR (RQ i).1 y n i).1 (and (isR (RQ i).1 y n i).1.1 cr r) = R2 := ⟨_, rfl⟩
        rw [hR2] at hst hSQ
        have hil : i < nl := by omega
        have hkeep : ∀ {b j : Nat} {v : Value}, W0.cell? ⟨b, j, none⟩ = some v → b ∉ m :: ab :: F → ∀ W', Ch (m :: F') W W' → W'.cell? ⟨b, j, none⟩ = some v := fun {b j v} hv hb W' hW' => by
          have h8 := hE.cell hv hb
          refine (hW'.cell (cell_lt h8) ?_).trans h8
          simp only [List.mem_cons, not_or] at hb ⊢
          refine ⟨hb.1, fun hin => (hE.own _ hin).elim hb.2.2 (fun e => ?_)⟩
          have := cell_lt hv
          simp only at this
          omega
        have hb0 := hE.mem.bk
        have hchoose : ∀ (W6 : World) (P6 : Mk) (F6 : List Nat), WI W0 w.heap.size g m G F ab nl oc width R2.1 (RQ i).2 W6 vs2 P6 ls F6 → P6 = (mput P X).1 → Calls Try.prog 32 #[.pointer (some ⟨m, 0, none⟩), .int .i64 X.2.1, .slice x.a width x.c, .slice z.a width z.c] W6 fun e w' => ∃ v, e = .returned v ∧ CH W6 g m G P6 F6 (chF R2.2 R2.1 ((nats x.l).zip (nats z.l))) width v w' := fun W6 P6 F6 hE6 hP6 => by
          obtain ⟨a1, a2⟩ := hE6.word HX0.out
          obtain ⟨b1, b2⟩ := hE6.word hzv
          have hcl : X.2.1 < 2 * P6.1.nodes.length := by rw [hP6]; exact hst.2.1
          refine (mchoose_is hE6.mem hE6.sim hcl (x := nats x.l) (y := nats z.l) width x.c z.c (by rw [nats_len]; exact HXW.out.len) (by rw [nats_len]; exact hzo.len) (by omega) (by rw [show ((nats x.l).map fun (r : Nat) => (r : Int)) = x.l from HXW.out.cast]; exact a1.ok.sl) (by rw [show ((nats z.l).map fun (r : Nat) => (r : Int)) = z.l from hzo.cast]; exact b1.ok.sl) a2 b2 (fun q hq => hE6.sim.ext.lt (HXW.out.lt q hq)) (fun q hq => hE6.sim.ext.lt (hzo.lt q hq))).mono ?_
          rintro e w' ⟨v, rfl, hch⟩
          refine ⟨v, rfl, hch.cong ?_ ?_⟩
          · by_cases h0 : R2.1.2 = 0
            · rw [show X.2.1 = R2.2 from hst.2.2.2.1 h0]
            · rw [chF_bad0 h0, chF_bad0 h0]
          · intro h9
            by_cases h0 : R2.1.2 = 0
            · rw [show X.2.1 = R2.2 from hst.2.2.2.1 h0]
            · rw [chF_bad0 h0] at h9; exact absurd h9 h0
        have hSR : (chF R2.2 R2.1 ((nats x.l).zip (nats z.l))).1.2 = 0 → R2.1.2 = 0 := fun h9 => by
          by_cases h0 : R2.1.2 = 0
          · exact h0
          · rw [chF_bad0 h0] at h9; exact absurd h9 h0
        obtain ⟨S, hS⟩ : ∃ S, chF R2.2 R2.1 ((nats x.l).zip (nats z.l)) = S := ⟨_, rfl⟩
        rw [hS] at hSQ hSR
        simp only [hS] at hchoose
        have c_g := hE.cell HBG0.out HBGN.out
        have c_c := hE.cell HBC0.out HBCN.out
        unfold WV.val at hzc0
        rw [hzo.len] at hzc0
        have hlbN := HL0.out.apart.1
        have hvl : vs2.length = nl := by have := hE.arr.1; omega
        have HE := Lib.hid hE; clear hE
        have HST := Lib.hid hst; clear hst
        have HAND := Lib.hid hAND; clear hAND
        have HSQ := Lib.hid hSQ; clear hSQ
        have HKEEP := Lib.hid (fun b j v => @hkeep b j v); clear hkeep
        have HCHO := Lib.hid hchoose; clear hchoose
        have HSR := Lib.hid hSR; clear hSR
        have HZC := Lib.hid hzc0; clear hzc0
        have HLBN := Lib.hid hlbN; clear hlbN
        have HB0 := Lib.hid hb0; clear hb0
        clear hz hmem hzo hlg hzv hX hR2 hS hr hP hcrl hrl
        obtain ⟨za, zl, zc⟩ := z
        obtain ⟨xa, xl, xc⟩ := x
        simp only at HZC HCHO
        gi_wp2
        refine ⟨trivial, (CallsIn.inRound q ((callsIn_wide (n := _)).2 HAND.out)).mono ?_⟩
        rintro e w1 ⟨rfl, hto⟩
        have hc1 := hto.choose_spec.2.1
        have hc1m : Ch (m :: F') W w1 := hc1.mono (fun k hk => .inl (by simp [hk]))
        have HTO := Lib.hid hto; clear hto
        have hb1 := HB0.out.ch hc1 HE.out.mem.apart
        have HC1M := Lib.hid hc1m; clear hc1m hc1 HAND c_g c_c
        have HB1 := Lib.hid hb1; clear hb1
        gi_wp2
        refine Ord.St.doorR (fun w' => w'.cell? ⟨ob, 0, none⟩ = some (.slice (some ⟨ab, 0, none⟩) nl oc) ∧ w'.cell? ⟨w.heap.size, 0, none⟩ = some (.pointer (some ⟨m, 0, none⟩)) ∧ w'.cell? ⟨bx, 0, none⟩ = some (.slice xa width xc) ∧ w'.cell? ⟨bl, 0, none⟩ = some (.slice (some ⟨lb, 0, none⟩) nl lc) ∧ w'.cell? ⟨lb, i, none⟩ = some (.slice za width zc)) [.ho, .fl, .ho, .rd, .fl, .fl, .ef, .ho, .ho, .fl, .fl, .ho, .ef, .fl, .ef] [0, 0, 0, 0, 0, 0, 56, 0, 0, 0, 768, 1792, 4092, 8191, 16383] [0, 1, 2, 3, 4, 5, 6, 7, 8, 9, 10, 11, 12, 13, 14] mixed (by kernel_rfl) (by kernel_rfl) rfl ?_
        obtain ⟨Wc, hWc⟩ : ∃ Wc, Wc = w1.drew := ⟨_, rfl⟩
        rw [← hWc]
        have hcur : Ch [] w1 Wc := by rw [hWc]; exact (Ch.refl _ _).drew
        clear hWc
        have hcc : Ch (m :: F') W Wc := HC1M.out.trans hcur (by simp)
        have c_h := HKEEP.out _ _ _ HBO0.out HOBN.out Wc hcc
        have c_m := HKEEP.out _ _ _ HMB0.out HMBN.out Wc hcc
        have c_x := HKEEP.out _ _ _ HBX0.out HBXN.out Wc hcc
        have c_l := HKEEP.out _ _ _ HBL0.out HBLN.out Wc hcc
        have c_z := HKEEP.out _ _ _ HZC.out HLBN.out Wc hcc
        have HNT := Lib.hid (mnote_is (HB1.out.ch hcur (by simp)) X.2.1 X.2.2)
        have HCUR := Lib.hid hcur; clear hcur hcc HB1
        refine Ord.St.ho2 (T' := ?_) 0 [1, 2, 3, 4, 5, 6, 7, 8, 9, 10, 11, 12, 13, 14] _ _ rfl (by kernel_rfl) rfl rfl rfl rfl ?_ (fun K w' hw' hk => ?_) ?_
        rotate_left
        · exact ⟨c_h, c_m, c_x, c_l, c_z⟩
        · obtain ⟨q1, q2, q3, q4, q5⟩ := hw'; go_step; exact hk
        refine Ord.St.fl2 (T' := ?_) 1 [2, 3, 4, 5, 6, 7, 8, 9, 10, 11, 12, 13, 14] _ _ rfl (by kernel_rfl) rfl rfl rfl rfl (fun K w' hk => ?_) ?_
        rotate_left
        · go_step; exact hk
        refine Ord.St.ho2 (T' := ?_) 2 [3, 4, 5, 6, 7, 8, 9, 10, 11, 12, 13, 14] _ _ rfl (by kernel_rfl) rfl rfl rfl rfl ?_ (fun K w' hw' hk => ?_) ?_
        rotate_left
        · exact ⟨c_h, c_m, c_x, c_l, c_z⟩
        · obtain ⟨q1, q2, q3, q4, q5⟩ := hw'; go_step; exact hk
        refine Ord.St.rd2 (T' := ?_) 3 [4, 5, 6, 7, 8, 9, 10, 11, 12, 13, 14] _ _ rfl (by kernel_rfl) rfl rfl rfl rfl (fun K hk => ?_) ?_
        rotate_left
        · go_step; exact hk
        refine Ord.St.fl2 (T' := ?_) 4 [5, 6, 7, 8, 9, 10, 11, 12, 13, 14] _ _ rfl (by kernel_rfl) rfl rfl rfl rfl (fun K w' hk => ?_) ?_
        rotate_left
        · go_step; exact hk
        refine Ord.St.fl2 (T' := ?_) 5 [6, 7, 8, 9, 10, 11, 12, 13, 14] _ _ rfl (by kernel_rfl) rfl rfl rfl rfl (fun K w' hk => ?_) ?_
        rotate_left
        · go_step; exact hk
        refine Ord.St.ho2 (T' := ?_) 7 [6, 8, 9, 10, 11, 12, 13, 14] _ _ rfl (by kernel_rfl) rfl rfl rfl rfl ?_ (fun K w' hw' hk => ?_) ?_
        rotate_left
        · exact ⟨c_h, c_m, c_x, c_l, c_z⟩
        · obtain ⟨q1, q2, q3, q4, q5⟩ := hw'; go_step; exact hk
        refine Ord.St.ho2 (T' := ?_) 8 [6, 9, 10, 11, 12, 13, 14] _ _ rfl (by kernel_rfl) rfl rfl rfl rfl ?_ (fun K w' hw' hk => ?_) ?_
        rotate_left
        · exact ⟨c_h, c_m, c_x, c_l, c_z⟩
        · obtain ⟨q1, q2, q3, q4, q5⟩ := hw'; go_step; exact hk
        refine Ord.St.fl2 (T' := ?_) 9 [6, 10, 11, 12, 13, 14] _ _ rfl (by kernel_rfl) rfl rfl rfl rfl (fun K w' hk => ?_) ?_
        rotate_left
        · go_step; exact hk
        refine Ord.St.fl2 (T' := ?_) 10 [6, 11, 12, 13, 14] _ _ rfl (by kernel_rfl) rfl rfl rfl rfl (fun K w' hk => ?_) ?_
        rotate_left
        · go_step; exact hk
        refine Ord.St.ho2 (T' := ?_) 11 [6, 12, 13, 14] _ _ rfl (by kernel_rfl) rfl rfl rfl rfl ?_ (fun K w' hw' hk => ?_) ?_
        rotate_left
        · exact ⟨c_h, c_m, c_x, c_l, c_z⟩
        · obtain ⟨q1, q2, q3, q4, q5⟩ := hw'; go_step; exact hk
        refine Ord.St.efC 6 [12, 13, 14] _ rfl (by kernel_rfl) (fun K hK => ?_)
        go_wp2_with fail
        refine HNT.out.mono ?_
        rintro e w6 ⟨rfl, hb6, hc6⟩
        have hmt := MTo.of (P' := (mput P X).1) HE.out.mem HTO.out (fun _ => hb6) ((HCUR.out.mono (by simp)).trans hc6 (fun k hk => .inl hk))
        have hch6 : Ch (m :: F') W w6 := hmt.choose_spec.2.1
        obtain ⟨F6, hE6⟩ := HE.out.to HFR.out hWl hmt HST.out.1 HST.out.2.2.2.2.1 HST.out.2.2.2.2.2.2
        clear c_h c_m c_x c_l c_z hb6 hc6 hmt
        have c_h := HKEEP.out _ _ _ HBO0.out HOBN.out w6 hch6
        have c_m := HKEEP.out _ _ _ HMB0.out HMBN.out w6 hch6
        have c_x := HKEEP.out _ _ _ HBX0.out HBXN.out w6 hch6
        have c_l := HKEEP.out _ _ _ HBL0.out HBLN.out w6 hch6
        have c_z := HKEEP.out _ _ _ HZC.out HLBN.out w6 hch6
        have HCC := Lib.hid (HCHO.out w6 _ F6 hE6 rfl)
        have HBK6 := Lib.hid (Books.of_ch (B := W0.heap.size) hch6 hWl (fun k hk => HE.out.noB HFR.out k hk))
        have hW6 : W0.heap.size + 2 ≤ w6.heap.size := Nat.le_trans hWl hch6.size
        have HE6 := Lib.hid hE6; clear hE6 HCHO HNT
        have HCH6 := Lib.hid hch6; clear hch6
        go_wp2_with fail
        refine ⟨rfl, hK _ _ ?_ ?_⟩
        · exact ⟨c_h, c_m, c_x, c_l, c_z⟩
        clear hK K
        refine Ord.St.efC 12 [13, 14] _ rfl (by kernel_rfl) (fun K hK => ?_)
        go_wp2_with fail
        refine HCC.out.mono ?_
        rintro e w7 ⟨v, rfl, hch⟩
        obtain ⟨va1, vc1, rfl⟩ := hch.shape
        have hp := HE6.out.put HFR.out hW6 (by omega) hch hil HSR.out
        have harr7 := HE6.out.arr.ch hch.choose_spec.choose_spec.2.2.2.2.2.choose_spec.2.1 (fun k hk => by cases hk; have h9 := HE6.out.abF HFR.out; simpa using h9)
        have HPUT := Lib.hid hp; clear hp
        have hc7 := hch.choose_spec.choose_spec.2.2.2.2.2.choose_spec.2.1
        have hk7 : ∀ {b j : Nat} {v : Value}, W0.cell? ⟨b, j, none⟩ = some v → b ∉ m :: ab :: F → w7.cell? ⟨b, j, none⟩ = some v := fun {b j v} hv hb => by
          have h8 := HE6.out.cell hv hb
          refine (hc7.cell (cell_lt h8) ?_).trans h8
          simp only [List.nil_append, List.mem_cons, not_or] at hb ⊢
          refine ⟨hb.1, fun hin => (HE6.out.own _ hin).elim hb.2.2 (fun e => ?_)⟩
          have := cell_lt hv
          simp only at this
          omega
        clear c_h c_m c_x c_l c_z hch HCC hc7
        have c_h := hk7 HBO0.out HOBN.out
        have c_m := hk7 HMB0.out HMBN.out
        have c_x := hk7 HBX0.out HBXN.out
        have c_l := hk7 HBL0.out HBLN.out
        have c_z := hk7 HZC.out HLBN.out
        clear hk7
        obtain ⟨ov, hov⟩ : ∃ ov, vs2[i]? = some ov := ⟨_, List.getElem?_eq_getElem (by omega)⟩
        have k1 := row_at2 harr7 hov
        have k2 := row_fz harr7 (by omega) i
        clear harr7 hov
        go_wp2_with fail
        refine ⟨rfl, hK _ _ ?_ ?_⟩
        · exact ⟨c_h, c_m, c_x, c_l, c_z⟩
        clear hK K
        refine Ord.St.fl2 (T' := ?_) 13 [14] _ _ rfl (by kernel_rfl) rfl rfl rfl rfl (fun K w' hk => ?_) ?_
        rotate_left
        · go_step; exact hk
        refine Ord.St.ef 14 [] _ rfl (by kernel_rfl) (fun K hK => ?_)
        go_wp2_with fail
        refine ⟨rfl, hK _ _ ?_⟩; clear hK K
        refine Ord.St.nil ?_
        gi_wp2
        obtain ⟨P1, ls1, F1, hr1, hb1⟩ := HPUT.out
        refine ⟨HBK6.out.trans hb1, P1, F1, vs2.set i (.slice va1 width vc1), ls1, ?_⟩
        show WI W0 w.heap.size g m G F ab nl oc width (RQ (i + 1)).1 (RQ (i + 1)).2 _ _ _ _ _
        rw [HSQ.out]
        exact hr1
      case done =>
        rintro W ⟨P, F', vs2, ls, hE⟩ hK _
        have c_o := hE.cell HBO0.out HOBN.out
        have HE := Lib.hid hE; clear hE
        have HK := Lib.hid hK; clear hK
        go_wp2
        refine ⟨by simp, .inl ⟨_, _, rfl, run_takeDeferred HK.out, ?_⟩⟩
        have hE2 := HE.out.same HFR.out (A' := W.putObj W0.heap.size (.deferred none)) (ch_put (by simp))
        have hz9 := HCW.out.size
        refine ⟨_, results_tmp rfl _ _ _, _, rfl, P, vs2, ls, F', hE2.sim, hE2.out, hE2.mem, (HCW.out.mono (by simp)).trans hE2.ch (fun k hk => ?_), fun k hk => (hE2.own k hk).imp id (fun e => by omega), hE2.map, by rw [hE2.len]; exact hE2.arr, fun k hk => ?_, fun i u hu => ?_⟩
        · simp only [List.mem_cons] at hk ⊢
          rcases hk with hk | hk | hk
          · exact .inl (.inl hk)
          · exact .inr (by omega)
          · exact .inl (.inr hk)
        · cases hk
          refine ⟨habo.1, fun hin => (hE2.abF HFR.out) (by simp only [List.mem_cons]; exact .inr hin)⟩
        · obtain ⟨l, k1, k2, k3, k4, k5⟩ := hE2.words i u hu
          refine ⟨l, k1, k2, k3, k4, fun k hk => ?_⟩
          obtain ⟨f1, f2, _⟩ := k5 k hk
          simp only [List.mem_cons, not_or] at f2
          exact ⟨f1, f2.2.2, fun e => f2.2.1 (by cases e; rfl)⟩
end
end Go.Proofs.Ytndcgfnlgcincaa
namespace Go.Aig
def lres (G : Gra) (S : Mk × List (List Nat)) : Gra × List (List Nat) × Nat := if S.1.2 ≠ 0 then (G, [], S.1.2) else (S.1.1, S.2, 0)
theorem lres_e (G : Gra) (S : Mk × List (List Nat)) : (lres G S).2.2 = S.1.2 := by
  unfold lres
  by_cases h0 : S.1.2 = 0
  · rw [if_neg (by simp [h0])]; exact h0.symm
  · rw [if_pos h0]
def writeG (G : Gra) (L : List (List Int)) (c : Int) (y x : List Int) : Gra × List (List Nat) × Nat :=
  if array26 L.length = false then (G, [], 261) else if right26 y.length = false then (G, [], 260) else if chk26 G y [c] (L ++ [x]) ≠ 0 then (G, [], chk26 G y [c] (L ++ [x]))
  else lres G (writeF G c.toNat (nats x) (L.map nats) (nats y) y.length (fitN L.length y.length))
end Go.Aig
namespace Go.Proofs.Ytndcgfnlgcincaa
open Go.RowKit Go.Mem Go.Aig
def PostL (w : World) (G : Gra) (ls : List (List Nat)) (v : Value) (F' : List Nat) (w' : World) : Prop :=
  ∃ vs, row w' 25 1 v ls.length vs ∧ (∀ k, v.ownBlock = some k → w.heap.size ≤ k ∧ k ∉ F') ∧
    ∀ (i : Nat) (u : Value), vs[i]? = some u → ∃ l, ls[i]? = some l ∧ (∀ r ∈ l, r < 2 * G.nodes.length) ∧ row w' 26 1 u l.length (refsCells l) ∧ ∀ k, u.ownBlock = some k → w.heap.size ≤ k ∧ k ∉ F' ∧ v.ownBlock ≠ some k
def GLo (w : World) (g : Nat) (G : Gra) (F : List Nat) (v : Value) (ls : List (List Nat)) (w' : World) : Prop :=
  ∃ F', GIn w' g G F' ∧ Ch F w w' ∧ (∀ k ∈ F', k ∈ F ∨ w.heap.size ≤ k) ∧ F'[2]? = F[2]? ∧ PostL w G ls v F' w'
theorem PostL.nil {w w' : World} {G : Gra} {F' : List Nat} : PostL w G [] (.slice none 0 0) F' w' := ⟨[], ⟨rfl, .inl ⟨rfl, rfl⟩⟩, by simp [Value.ownBlock], by simp⟩
theorem GLo.none {w w' : World} {g : Nat} {G : Gra} {F : List Nat} (h : GIn w g G F) (hc : Ch [] w w') : GLo w g G F (.slice none 0 0) [] w' :=
  ⟨F, h.same hc (by simp), hc.mono (by simp), fun _ hk => .inl hk, rfl, PostL.nil⟩
theorem WA1.post {w W : World} {g m width : Nat} {G : Gra} {F : List Nat} {S : Mk × List (List Nat)} {v : Value} {W' : World} (h : WA1 W g m G F width S v W') (hc : Ch [] w W) : ∃ P F', Sim G P S.1 ∧ MIn W' g m P F' ∧ Ch (m :: F) W W' ∧ (∀ k ∈ F', k ∈ F ∨ W.heap.size ≤ k) ∧ F'[2]? = F[2]? ∧ (S.1.2 = 0 → PostL w S.1.1 S.2 v F' W') := by
  obtain ⟨P, vs, ls, F', hs, ho, k1, k2, k3, k4, k5, k6, k7⟩ := h
  refine ⟨P, F', hs, k1, k2, k3, k4, fun h0 => ?_⟩
  have e := ho h0
  subst e
  have eP : P = S.1 := by
    rcases hs.rel with ⟨_, e⟩ | ⟨e, _⟩
    · exact e
    · omega
  refine ⟨vs, k5, fun k hk => ⟨Nat.le_trans hc.size (k6 k hk).1, (k6 k hk).2⟩, fun i u hu => ?_⟩
  obtain ⟨l, q1, q2, q3, q4, q5⟩ := k7 i u hu
  exact ⟨l, q1, by rw [← eP]; exact q3, by rw [q2]; exact q4, fun k hk => ⟨Nat.le_trans hc.size (q5 k hk).1, (q5 k hk).2⟩⟩
theorem MB.glo {w w1 w' : World} {g : Nat} {G : Gra} {F : List Nat} {S : Mk × List (List Nat)} {v : Value} (hc : Ch [] w w1) (h : MB w1 g G F S.1 (PostL w S.1.1 S.2) mzL v w') : GLo w g (lres G S).1 F v (lres G S).2.1 w' := by
  obtain ⟨F', k1, k2, k3, k4, k5, k6⟩ := h
  have hch : Ch F w w' := (hc.mono (by simp)).trans k2 (fun k hk => .inl hk)
  have hown : ∀ k ∈ F', k ∈ F ∨ w.heap.size ≤ k := fun k hk => (k3 k hk).imp id (fun e => Nat.le_trans hc.size e)
  unfold lres
  by_cases h0 : S.1.2 = 0
  · rw [if_pos h0] at k1
    rw [if_neg (by simp [h0])]
    exact ⟨F', k1, hch, hown, k4, k5 h0⟩
  · rw [if_neg h0] at k1
    rw [if_pos h0, k6 h0]
    exact ⟨F', k1, hch, hown, k4, PostL.nil⟩
theorem LS.two' {w : World} {F : List Nat} {q la lb n k ac bc : Nat} {As Bs : List WV} (hA : WL w F la n As) (hk : Bs.length = k) (hB : ∀ (i : Nat) (x : WV), Bs[i]? = some x → w.cell? ⟨lb, i, none⟩ = some x.val ∧ WVok w x) (hq : blk w q [.slice (some ⟨la, 0, none⟩) n ac, .slice (some ⟨lb, 0, none⟩) k bc]) : LS w q 2 [(la, ac, As), (lb, bc, Bs)] := by
  have h1 := hA.len
  subst h1
  subst hk
  refine ⟨rfl, fun j b' c' ws' hj => ?_, fun j b' c' ws' hj => ?_⟩ <;> rcases j with _ | _ | j
  · cases hj; exact hq.cell rfl
  · cases hj; exact hq.cell rfl
  · simp at hj
  · cases hj; exact fun i x hx => ⟨hA.cells i x hx, (hA.words x (List.mem_of_getElem? hx)).ok⟩
  · cases hj; exact hB
  · simp at hj
section
variable {w : World} {g : Nat} {G : Gra} {F : List Nat}
set_option maxRecDepth 100000 in
set_option maxHeartbeats 4000000 in
theorem mWrite_is [Nonempty Unit] (h : GIn w g G F) {la : Option Addr} {nl lc : Nat} {Ls : List WV} (hA : WA w F la nl Ls) (c : Int) (hc : I64' c) {y x : WV} (hy : WVin w F y) (hyc : y.l.length ≤ y.c) (hx : WVin w F x) :
    Calls Try.prog 11 #[.pointer (some ⟨g, 0, none⟩), .slice la nl lc, .int .i64 c, y.val, x.val] w fun e w' => ∃ v, e = .returned (.tuple #[v, .int .i64 (writeG G (Ls.map WV.l) c y.l x.l).2.2]) ∧ GLo w g (writeG G (Ls.map WV.l) c y.l x.l).1 F v (writeG G (Ls.map WV.l) c y.l x.l).2.1 w' := by
  have hpos := h.ok.wf.pos
  have hroom := h.ok.room
  have hmost := h.ok.most
  have hL := fun (W : World) (hW : Ch [] w W) => Len_g (h.same hW (by simp))
  have hAr := fun (W : World) => marray_is (w := W) nl
  have hRr := fun (W : World) => mright_is (w := W) y.l.length
  have hok := chk26_ok (G := G) (idx := y.l) (refs := [c]) (ws := Ls.map WV.l ++ [x.l])
  have hlt := chk26_lt G y.l [c] (Ls.map WV.l ++ [x.l])
  have hlen := hA.len
  have hll : (Ls.map WV.l).length = nl := by rw [List.length_map]; exact hlen
  unfold writeG
  rw [hll]
  obtain ⟨cc, hcc⟩ : ∃ cc, chk26 G y.l [c] (Ls.map WV.l ++ [x.l]) = cc := ⟨_, rfl⟩
  rw [hcc] at hok hlt ⊢
  obtain ⟨S, hS⟩ : ∃ S, writeF G c.toNat (nats x.l) ((Ls.map WV.l).map nats) (nats y.l) y.l.length (fitN nl y.l.length) = S := ⟨_, rfl⟩
  rw [hS]
  generalize hWW : (if array26 nl = false then (G, [], 261) else if right26 y.l.length = false then (G, [], 260) else if cc ≠ 0 then (G, [], cc) else lres G S : Gra × List (List Nat) × Nat) = WW
  have hylen := hy.ok.len
  have hxlen := hx.ok.len
  cases ha : array26 nl
  · rw [ha, if_pos rfl] at hWW
    simp only [ha] at hAr
    subst hWW
    obtain ⟨ya, yl, yc⟩ := y
    obtain ⟨xa, xl, xc⟩ := x
    simp only [WV.val] at *
    clear hok hcc hS hRr hA hy hx
    have HL := Lib.hid hL; clear hL
    have HAR := Lib.hid hAr; clear hAr
    have H := Lib.hid h; clear h
    have hn0 : ((G.nodes.length : Int) == 0) = false := beqN (by omega)
    go_enter Try.func11, Try.ntmps11
    go_upto_region 1 with fail
    refine wp_named fun W0 hW0 => ?_
    have hc0 : Ch [] w W0 := by rw [hW0]; exact (((((Ch.refl _ _).alloc _).alloc _).alloc _).alloc _).alloc _
    have hb0 : blk W0 w.heap.size [.pointer (some ⟨g, 0, none⟩)] := by rw [hW0]; exact ((((blk.new' _ _ (by simp)).alloc _).alloc _).alloc _).alloc _
    have hb1 : blk W0 (w.heap.size + 1) [.slice la nl lc] := by rw [hW0]; exact (((blk.new' _ _ (by simp)).alloc _).alloc _).alloc _
    have hb2 : blk W0 (w.heap.size + 2) [.int .i64 c] := by rw [hW0]; exact ((blk.new' _ _ (by simp)).alloc _).alloc _
    have hb3 : blk W0 (w.heap.size + 3) [.slice ya yl.length yc] := by rw [hW0]; exact (blk.new' _ _ (by simp)).alloc _
    have hb4 : blk W0 (w.heap.size + 4) [.slice xa xl.length xc] := by rw [hW0]; exact blk.new' _ _ (by simp)
    have d0 := hb0.cell (i := 0) rfl
    have d1 := hb1.cell (i := 0) rfl
    have d2 := hb2.cell (i := 0) rfl
    have d3 := hb3.cell (i := 0) rfl
    have d4 := hb4.cell (i := 0) rfl
    have l0 := hb0.lt
    have l1 := hb1.lt
    have l2 := hb2.lt
    have l3 := hb3.lt
    have l4 := hb4.lt
    clear hW0
    have hLL := HL.out W0 hc0
    have HC0 := Lib.hid hc0; clear hc0
    have HB0 := Lib.hid hb0; clear hb0
    have HB1 := Lib.hid hb1; clear hb1
    have HB2 := Lib.hid hb2; clear hb2
    have HB3 := Lib.hid hb3; clear hb3
    have HB4 := Lib.hid hb4; clear hb4
    go_wp2_with fail
    refine hLL.mono ?_
    rintro e w' ⟨rfl, rfl⟩
    clear hLL
    go_wp2_with fail
    refine (HAR.out _).mono ?_
    rintro e w' ⟨rfl, rfl⟩
    go_wp2_with fail
    go_ret2
    exact ⟨_, rfl, GLo.none H.out HC0.out⟩
  · rw [ha, if_neg (by simp)] at hWW
    simp only [ha] at hAr
    have hnl : 1 ≤ nl ∧ nl ≤ 256 := by unfold array26 at ha; simp at ha; omega
    obtain ⟨lb, rfl, hWL⟩ := hA.at_ hnl.1
    cases hr : right26 y.l.length
    · rw [hr, if_pos rfl] at hWW
      simp only [hr] at hRr
      subst hWW
      obtain ⟨ya, yl, yc⟩ := y
      obtain ⟨xa, xl, xc⟩ := x
      simp only [WV.val] at *
      clear hok hcc hS hA hWL hy hx
      have HL := Lib.hid hL; clear hL
      have HAR := Lib.hid hAr; clear hAr
      have HRR := Lib.hid hRr; clear hRr
      have H := Lib.hid h; clear h
      have hn0 : ((G.nodes.length : Int) == 0) = false := beqN (by omega)
      go_enter Try.func11, Try.ntmps11
      go_upto_region 1 with fail
      refine wp_named fun W0 hW0 => ?_
      have hc0 : Ch [] w W0 := by rw [hW0]; exact (((((Ch.refl _ _).alloc _).alloc _).alloc _).alloc _).alloc _
      have hb0 : blk W0 w.heap.size [.pointer (some ⟨g, 0, none⟩)] := by rw [hW0]; exact ((((blk.new' _ _ (by simp)).alloc _).alloc _).alloc _).alloc _
      have hb1 : blk W0 (w.heap.size + 1) [.slice (some ⟨lb, 0, none⟩) nl lc] := by rw [hW0]; exact (((blk.new' _ _ (by simp)).alloc _).alloc _).alloc _
      have hb2 : blk W0 (w.heap.size + 2) [.int .i64 c] := by rw [hW0]; exact ((blk.new' _ _ (by simp)).alloc _).alloc _
      have hb3 : blk W0 (w.heap.size + 3) [.slice ya yl.length yc] := by rw [hW0]; exact (blk.new' _ _ (by simp)).alloc _
      have hb4 : blk W0 (w.heap.size + 4) [.slice xa xl.length xc] := by rw [hW0]; exact blk.new' _ _ (by simp)
      have d0 := hb0.cell (i := 0) rfl
      have d1 := hb1.cell (i := 0) rfl
      have d2 := hb2.cell (i := 0) rfl
      have d3 := hb3.cell (i := 0) rfl
      have d4 := hb4.cell (i := 0) rfl
      have l0 := hb0.lt
      have l1 := hb1.lt
      have l2 := hb2.lt
      have l3 := hb3.lt
      have l4 := hb4.lt
      clear hW0
      have hLL := HL.out W0 hc0
      have HC0 := Lib.hid hc0; clear hc0
      have HB0 := Lib.hid hb0; clear hb0
      have HB1 := Lib.hid hb1; clear hb1
      have HB2 := Lib.hid hb2; clear hb2
      have HB3 := Lib.hid hb3; clear hb3
      have HB4 := Lib.hid hb4; clear hb4
      go_wp2_with fail
      refine hLL.mono ?_
      rintro e w' ⟨rfl, rfl⟩
      clear hLL
      go_wp2_with fail
      refine (HAR.out _).mono ?_
      rintro e w' ⟨rfl, rfl⟩
      go_wp2_with fail
      refine (HRR.out _).mono ?_
      rintro e w' ⟨rfl, rfl⟩
      go_wp2_with fail
      go_ret2
      exact ⟨_, rfl, GLo.none H.out HC0.out⟩
    · rw [hr, if_neg (by simp)] at hWW
      simp only [hr] at hRr
      have hyb : 1 ≤ y.l.length ∧ y.l.length ≤ 16 := by unfold right26 at hr; simp at hr; omega
      have hchk := fun (W : World) (q xb rb : Nat) (hW : Ch [] w W) (hq : blk W q [.slice (some ⟨lb, 0, none⟩) nl lc, .slice (some ⟨xb, 0, none⟩) 1 1]) (hxb : blk W xb [x.val]) (hrb : blk W rb [.int .i64 c]) =>
        mcheck_is (h.same hW (by simp)) (LS.two' (hWL.ch hW) (Bs := [x]) rfl (at1 hxb (hx.ch hW).ok) hq) (n := 2) (c := 2) (by omega) (by rw [lsW_two, List.length_append, hlen]; omega) (by rw [lsW_two, List.length_append, hlen]; simp; omega) (RS.wv (hy.ch hW) hyc) (RS.blk (n := 1) (R := [c]) hrb rfl (by omega)) (by omega) (by omega) (by
          intro z hz
          rcases List.mem_append.1 hz with hz | hz
          · exact hy.ok.bd z hz
          · rw [List.mem_singleton.1 hz]; exact hc)
      simp only [lsW_two, List.map_append, List.map_cons, List.map_nil, hcc] at hchk
      have hbuild : cc = 0 → ∀ (W1 : World), Ch [] w W1 → blk W1 w.heap.size [.pointer (some ⟨g, 0, none⟩)] → blk W1 (w.heap.size + 1) [.slice (some ⟨lb, 0, none⟩) nl lc] → blk W1 (w.heap.size + 2) [.int .i64 c] → blk W1 (w.heap.size + 3) [y.val] → blk W1 (w.heap.size + 4) [x.val] →
          Calls Try.prog 33 #[.pointer (some ⟨g, 0, none⟩), .func (.func 34) #[] #[.pointer (some ⟨w.heap.size + 1, 0, none⟩), .pointer (some ⟨w.heap.size + 3, 0, none⟩), .pointer (some ⟨w.heap.size, 0, none⟩), .pointer (some ⟨w.heap.size + 2, 0, none⟩), .pointer (some ⟨w.heap.size + 4, 0, none⟩)]] W1 fun e w' => ∃ v, e = .returned (.tuple #[v, .int .i64 S.1.2]) ∧ MB W1 g G F S.1 (PostL w S.1.1 S.2) mzL v w' := fun h0 W1 hW1 k0 k1 k2 k3 k4 => by
        obtain ⟨o1, o2, o3, o4, o5⟩ := hok h0
        have hne : Ls.map WV.l ++ [x.l] ≠ [] := by simp
        have hc0 : ((c.toNat : Nat) : Int) = c := by have := o5.cast; simpa [natInts, nats] using this
        have hcl : c.toNat < 2 * G.nodes.length := o5.lt c.toNat (by simp [nats])
        refine mbuildL_is (h.same hW1 (by simp)) 34 _ fnvmWrite1 S.1 _ (fun W m hm hW hM => ?_)
        have hall := hW1.trans hW (by simp)
        have hm2 : w.heap.size ≤ m := Nat.le_trans hW1.size hm
        have hyw : WVin W (m :: F) ⟨y.a, natInts (nats y.l), y.c⟩ := by
          rw [o4.cast]
          exact ⟨(hy.ch hall).ok, hy.blks hall hm2⟩
        have hxw : WVin W (m :: F) x := ⟨(hx.ch hall).ok, hx.blks hall hm2⟩
        have hxo := o1 x.l (by simp)
        have c0 := (k0.ch hW (by simp)).cell (i := 0) rfl
        have c1 := (k1.ch hW (by simp)).cell (i := 0) rfl
        have c2 := (k2.ch hW (by simp)).cell (i := 0) rfl
        have c3 := (k3.ch hW (by simp)).cell (i := 0) (v := y.val) rfl
        have c4 := (k4.ch hW (by simp)).cell (i := 0) (v := x.val) rfl
        unfold WV.val at c3 c4
        rw [hxo.len] at c4
        rw [← hc0] at c2
        have l0 := k0.lt
        have l1 := k1.lt
        have l2 := k2.lt
        have l3 := k3.lt
        have l4 := k4.lt
        have hnF : ∀ b, w.heap.size ≤ b → b < W1.heap.size → b ∉ m :: F := fun b hb hb2 hin => by
          simp only [List.mem_cons] at hin
          rcases hin with e | hin
          · omega
          · have := h.lt b hin; omega
        have h1 := mWrite1_is hM (Ls := Ls) (lc := lc) (width := ((Ls.map WV.l ++ [x.l]).headD []).length) (x := x) (hWL.up hall hm2) (fun z hz => o1 z.l (List.mem_append_left _ (List.mem_map.2 ⟨z, hz, rfl⟩))) hnl (o3 hne) hxw hxo hcl hyw (by rw [nats_len]) hyb.1 hyb.2 o4.lt rfl c1 c3 c0 c2 c4 (hnF _ (by omega) l1) (hnF _ (by omega) l3) (hnF _ (by omega) l0) (hnF _ (by omega) l2) (hnF _ (by omega) l4)
        rw [show (Ls.map fun x => nats x.l) = (Ls.map WV.l).map nats by rw [List.map_map]; rfl, hS] at h1
        refine h1.mono ?_
        rintro e W' ⟨v, rfl, hrw⟩
        obtain ⟨P, F', q1, q2, q3, q4, q5, q6⟩ := hrw.post hall
        exact ⟨v, P, F', rfl, q1, q2, q3, q4, q5, q6⟩
      obtain ⟨ya, yl, yc⟩ := y
      obtain ⟨xa, xl, xc⟩ := x
      simp only [WV.val] at *
      clear hok hcc hS hA hWL
      have HL := Lib.hid hL; clear hL
      have HAR := Lib.hid hAr; clear hAr
      have HRR := Lib.hid hRr; clear hRr
      have HCHK := Lib.hid hchk; clear hchk
      have HBU := Lib.hid hbuild; clear hbuild
      have H := Lib.hid h; clear h
      have HWW := Lib.hid hWW; clear hWW
      have hn0 : ((G.nodes.length : Int) == 0) = false := beqN (by omega)
      clear hy hx hc
      go_enter Try.func11, Try.ntmps11
      go_upto_region 1 with fail
      refine wp_named fun W0 hW0 => ?_
      have hc0 : Ch [] w W0 := by rw [hW0]; exact (((((Ch.refl _ _).alloc _).alloc _).alloc _).alloc _).alloc _
      have hb0 : blk W0 w.heap.size [.pointer (some ⟨g, 0, none⟩)] := by rw [hW0]; exact ((((blk.new' _ _ (by simp)).alloc _).alloc _).alloc _).alloc _
      have hb1 : blk W0 (w.heap.size + 1) [.slice (some ⟨lb, 0, none⟩) nl lc] := by rw [hW0]; exact (((blk.new' _ _ (by simp)).alloc _).alloc _).alloc _
      have hb2 : blk W0 (w.heap.size + 2) [.int .i64 c] := by rw [hW0]; exact ((blk.new' _ _ (by simp)).alloc _).alloc _
      have hb3 : blk W0 (w.heap.size + 3) [.slice ya yl.length yc] := by rw [hW0]; exact (blk.new' _ _ (by simp)).alloc _
      have hb4 : blk W0 (w.heap.size + 4) [.slice xa xl.length xc] := by rw [hW0]; exact blk.new' _ _ (by simp)
      have d0 := hb0.cell (i := 0) rfl
      have d1 := hb1.cell (i := 0) rfl
      have d2 := hb2.cell (i := 0) rfl
      have d3 := hb3.cell (i := 0) rfl
      have d4 := hb4.cell (i := 0) rfl
      have l0 := hb0.lt
      have l1 := hb1.lt
      have l2 := hb2.lt
      have l3 := hb3.lt
      have l4 := hb4.lt
      clear hW0
      have hLL := HL.out W0 hc0
      have HC0 := Lib.hid hc0; clear hc0
      have HB0 := Lib.hid hb0; clear hb0
      have HB1 := Lib.hid hb1; clear hb1
      have HB2 := Lib.hid hb2; clear hb2
      have HB3 := Lib.hid hb3; clear hb3
      have HB4 := Lib.hid hb4; clear hb4
      go_wp2_with fail
      refine hLL.mono ?_
      rintro e w' ⟨rfl, rfl⟩
      clear hLL
      go_wp2_with fail
      refine (HAR.out _).mono ?_
      rintro e w' ⟨rfl, rfl⟩
      go_wp2_with fail
      refine (HRR.out _).mono ?_
      rintro e w' ⟨rfl, rfl⟩
      go_wp2_with fail
      refine calls_named fun W1 hW1 => ?_
      have hc1 : Ch [] W0 W1 := by rw [hW1]; exact (((Ch.refl _ _).alloc _).alloc _).alloc _
      have e0 : blk W1 W0.heap.size [.int .i64 c] := by rw [hW1]; exact ((blk.new' _ _ (by simp)).alloc _).alloc _
      have e1 : blk W1 (W0.heap.size + 1) [.slice xa xl.length xc] := by rw [hW1]; exact (blk.new' _ _ (by simp)).alloc _
      have e2 : blk W1 (W0.heap.size + 1 + 1) [.slice (some ⟨lb, 0, none⟩) nl lc, .slice (some ⟨W0.heap.size + 1, 0, none⟩) 1 1] := by rw [hW1]; exact blk.new' _ _ (by simp)
      clear hW1
      refine (HCHK.out W1 _ _ _ (HC0.out.trans hc1 (by simp)) e2 e1 e0).mono ?_
      rintro e w2 ⟨rfl, hc2⟩
      have hc02 := hc1.trans hc2 (by simp)
      have HC2 := Lib.hid (HC0.out.trans hc02 (by simp))
      have hb0' := HB0.out.ch hc02 (by simp)
      have d0' := hb0'.cell (i := 0) rfl
      have HB0' := Lib.hid hb0'; clear hb0'
      have HB1' := Lib.hid (HB1.out.ch hc02 (by simp))
      have HB2' := Lib.hid (HB2.out.ch hc02 (by simp))
      have HB3' := Lib.hid (HB3.out.ch hc02 (by simp))
      have HB4' := Lib.hid (HB4.out.ch hc02 (by simp))
      clear e0 e1 e2 hc1 hc2 hc02 d0 d1 d2 d3 d4 HB0 HB1 HB2 HB3 HB4 HCHK
      by_cases hz : cc = 0
      · have hBB := HBU.out hz w2 HC2.out HB0'.out HB1'.out HB2'.out HB3'.out HB4'.out
        have hww := HWW.out
        rw [if_neg (by simp [hz])] at hww
        subst hz
        have HBB := Lib.hid hBB; clear hBB HBU
        have HW2 := Lib.hid hww; clear hww
        go_wp2_with fail
        refine HBB.out.mono ?_
        rintro e w3 ⟨v, rfl, hmb⟩
        have hgv := MB.glo HC2.out hmb
        rw [HW2.out] at hgv
        have HGV := Lib.hid hgv; clear hgv hmb
        go_wp2_with fail
        go_ret2
        exact ⟨_, by rw [← HW2.out, lres_e]; rfl, HGV.out⟩
      · have hq : ((cc : Int) != 0) = true := by simp; omega
        have hww := HWW.out
        rw [if_pos hz] at hww
        have HW2 := Lib.hid hww; clear hww
        have HZ := Lib.hid hz; clear hz
        go_wp2_with fail
        go_ret2
        exact ⟨_, by rw [← HW2.out]; rfl, by rw [← HW2.out]; exact GLo.none H.out HC2.out⟩
end
end Go.Proofs.Ytndcgfnlgcincaa
namespace Go.Aig
theorem array_of {n : Nat} (h1 : 1 ≤ n) (h2 : n ≤ 256) : array26 n = true := by unfold array26; simp; omega
theorem right_of26 {n : Nat} (h1 : 1 ≤ n) (h2 : n ≤ 16) : right26 n = true := by unfold right26; simp; omega
section
variable {G : Gra} {L : List (List Nat)} {y : List Nat} {n width : Nat}
end
end Go.Aig
namespace Go.Proofs.Ytndcgfnlgcincaa
open Go.RowKit Go.Mem Go.Aig
section
variable {w0 : Base} {w : World} {g : Nat} {G : Gra} {F : List Nat} {L : List (Value × List Int)}
theorem Hold.wa (h : Hold w0 w g G F L) {b n : Nat} {Ls : List WV} (hb : (b, Ls.map WV.val) ∈ w0.K) (hL : ∀ x ∈ Ls, (x.val, x.l) ∈ L) (hn : Ls.length = n) : WA w F (some ⟨b, 0, none⟩) n Ls := by
  obtain ⟨k1, k2, k3⟩ := h.kept _ hb
  exact ⟨hn, fun _ => ⟨b, rfl, hn, fun i x hx => k1.cell (by rw [List.getElem?_map, hx]; rfl), fun x hx => by
    have := h.at (hL x hx) rfl
    exact this, k3, k1.lt⟩⟩
theorem mChoose_h (h : Hold w0 w g G F L) (c : Int) (hc : I64' c) {xa ya : Option Addr} {xl yl : List Int} {n m xc yc : Nat} (hx : (.slice xa n xc, xl) ∈ L) (hxn : xl.length = n) (hy : (.slice ya m yc, yl) ∈ L) (hym : yl.length = m) {G' : Gra} {l : List Nat} {e k : Nat} (hR : chooseG G c xl yl = (G', l, e)) (hk : l.length = k) (hb : ∀ r ∈ l, r ≤ 1000000) (hl : k ≤ 1000000) :
    Calls Try.prog 14 #[.pointer (some ⟨g, 0, none⟩), .int .i64 c, .slice xa n xc, .slice ya m yc] w fun en w' => ∃ a c F', en = .returned (.tuple #[.slice a k c, .int .i64 e]) ∧ Hold w0 w' g G' F' ((.slice a k c, natInts l) :: L) := by
  have hcc := mChoose_is h.own.gin c hc (h.at hx hxn) (h.at hy hym)
  simp only [WV.val, hxn, hym] at hcc
  exact Calls.word h hcc hR hk hb hl
theorem mRead_h [Nonempty Unit] (h : Hold w0 w g G F L) {la : Option Addr} {nl lc : Nat} {Ls : List WV} (hA : WA w F la nl Ls) {ya : Option Addr} {yl : List Int} {m yc : Nat} (hy : (.slice ya m yc, yl) ∈ L) (hym : yl.length = m) {G' : Gra} {l : List Nat} {e k : Nat} (hR : readG G (Ls.map WV.l) yl = (G', l, e)) (hk : l.length = k) (hb : ∀ r ∈ l, r ≤ 1000000) (hl : k ≤ 1000000) :
    Calls Try.prog 10 #[.pointer (some ⟨g, 0, none⟩), .slice la nl lc, .slice ya m yc] w fun en w' => ∃ a c F', en = .returned (.tuple #[.slice a k c, .int .i64 e]) ∧ Hold w0 w' g G' F' ((.slice a k c, natInts l) :: L) := by
  have hcc := mRead_is h.own.gin (lc := lc) hA (h.at hy hym) (by have := (h.held _ hy).cap; rw [hym]; exact this)
  simp only [WV.val, hym] at hcc
  exact Calls.word h hcc hR hk hb hl
theorem mPick_h (h : Hold w0 w g G F L) {la : Option Addr} {nl lc : Nat} {Ls : List WV} (hA : WA w F la nl Ls) {y : WV} (hy : WVin w F y) (hyc : y.l.length ≤ y.c) {G' : Gra} {l : List Nat} {e k : Nat} (hR : pickG G y.l (Ls.map WV.l) = (G', l, e)) (hk : l.length = k) (hb : ∀ r ∈ l, r ≤ 1000000) (hl : k ≤ 1000000) :
    Calls Try.prog 13 #[.pointer (some ⟨g, 0, none⟩), y.val, .slice la nl lc] w fun en w' => ∃ a c F', en = .returned (.tuple #[.slice a k c, .int .i64 e]) ∧ Hold w0 w' g G' F' ((.slice a k c, natInts l) :: L) := by
  exact Calls.word h (mPick_is h.own.gin (lc := lc) hA hy hyc) hR hk hb hl
theorem mEqual_h (h : Hold w0 w g G F L) {la lb : Option Addr} {nl ac n2 bc : Nat} {As Bs : List WV} (hA : WA w F la nl As) (hB : WA w F lb n2 Bs) (hn2 : n2 ≤ 1000000) {G' : Gra} {r e : Nat} (hR : equalG G (As.map WV.l) (Bs.map WV.l) = (G', r, e)) :
    Calls Try.prog 12 #[.pointer (some ⟨g, 0, none⟩), .slice la nl ac, .slice lb n2 bc] w fun en w' => ∃ F', en = .returned (.tuple #[.int .i64 r, .int .i64 e]) ∧ Hold w0 w' g G' F' L :=
  Calls.ref h (mEqual_is h.own.gin hA hB hn2) hR
theorem harr_ws {Pr : Value → List Int → Prop} : ∀ {vs : List Value} {ls : List (List Nat)}, vs.length = ls.length → (∀ (i : Nat) (u : Value), vs[i]? = some u → ∃ l, ls[i]? = some l ∧ Pr u (natInts l) ∧ ∃ ua uc, u = .slice ua l.length uc) → ∃ ws : List WV, ws.map WV.val = vs ∧ ws.map WV.l = ls.map natInts ∧ ∀ x ∈ ws, Pr x.val x.l
  | [], [], _, _ => ⟨[], rfl, rfl, by simp⟩
  | [], _ :: _, h, _ => by simp at h
  | _ :: _, [], h, _ => by simp at h
  | v :: vs, l :: ls, h, hf => by
    obtain ⟨ws, h1, h2, h3⟩ := harr_ws (vs := vs) (ls := ls) (by simpa using h) (fun i u hu => hf (i + 1) u hu)
    obtain ⟨l', e, hp, ua, uc, rfl⟩ := hf 0 v rfl
    cases e
    refine ⟨⟨ua, natInts l, uc⟩ :: ws, by rw [List.map_cons, h1]; simp [WV.val], by rw [List.map_cons, List.map_cons, h2], fun x hx => ?_⟩
    rcases List.mem_cons.1 hx with rfl | hx
    · simpa [WV.val] using hp
    · exact h3 x hx
theorem mWrite_h [Nonempty Unit] (h : Hold w0 w g G F L) {la : Option Addr} {nl lc : Nat} {Ls : List WV} (hA : WA w F la nl Ls) (c : Int) (hc : I64' c) {xa ya : Option Addr} {xl yl : List Int} {n m xc yc : Nat} (hy : (.slice ya m yc, yl) ∈ L) (hym : yl.length = m) (hx : (.slice xa n xc, xl) ∈ L) (hxn : xl.length = n) {G' : Gra} {ls : List (List Nat)} {e k : Nat} (hR : writeG G (Ls.map WV.l) c yl xl = (G', ls, e)) (hk : ls.length = k) (hk0 : 0 < k) (hl : ∀ l ∈ ls, l.length ≤ 1000000) :
    Calls Try.prog 11 #[.pointer (some ⟨g, 0, none⟩), .slice la nl lc, .int .i64 c, .slice ya m yc, .slice xa n xc] w fun en w' => ∃ (b c : Nat) (F' : List Nat) (cs : List Value) (ws : List WV), en = .returned (.tuple #[.slice (some ⟨b, 0, none⟩) k c, .int .i64 e]) ∧ Hold (w0.add b cs) w' g G' F' ((ws.map fun x => (WV.val x, WV.l x)) ++ L) ∧ (∀ (i : Nat) (x : WV), ws[i]? = some x → cs[i]? = some x.val) ∧ ws.map WV.l = ls.map natInts := by
  have hcc := mWrite_is h.own.gin (lc := lc) hA c hc (h.at hy hym) (by have := (h.held _ hy).cap; rw [hym]; exact this) (h.at hx hxn)
  simp only [WV.val, hxn, hym, hR] at hcc
  subst hk
  refine hcc.mono ?_
  rintro en w' ⟨v, rfl, F', k1, k2, k3, k4, vs, k5, k6, k7⟩
  obtain ⟨b, c, rfl⟩ := k5.parts hk0
  have hsm := k1.ok.small
  have hz := h.own.ch.size
  obtain ⟨ws, q1, q2, q3⟩ := harr_ws (vs := vs) (ls := ls) (Pr := fun u l => Held w0.w w' F' u l) (by have h9 : vs.length = ls.length * 1 := k5.1; omega) (fun i u hu => by
    obtain ⟨l, r1, r2, r3, r4⟩ := k7 i u hu
    obtain ⟨ua, uc, rfl⟩ := row.shape r3
    refine ⟨l, r1, ⟨by rw [natInts_len, ← refs_natInts]; exact r3, by rw [natInts_len]; exact hl l (List.mem_of_getElem? r1), fun r hr => ?_, fun k hk => ⟨Nat.le_trans hz (r4 k hk).1, (r4 k hk).2.1⟩⟩, ua, uc, rfl⟩
    obtain ⟨z, hzz, rfl⟩ := List.mem_map.1 hr
    have := r2 z hzz
    omega)
  have k5' := k5
  rcases k5'.2 with ⟨e, _⟩ | ⟨b', cap, cur, e, _, hb, _, _, _, ht⟩
  · cases e
  · cases e
    have hown := k6 b rfl
    have hH : Hold w0 w' g G' F' ((ws.map fun x => (WV.val x, WV.l x)) ++ L) := ⟨⟨k1, fun k hk => (k3 k hk).elim (h.own.own k) (fun e => Nat.le_trans hz e), h.own.ch.trans k2 (fun k hk => .inr (h.own.own k hk))⟩, fun p hp => by
      rcases List.mem_append.1 hp with hp | hp
      · obtain ⟨x, hx, rfl⟩ := List.mem_map.1 hp
        exact q3 x hx
      · exact (h.held p hp).keep k2 k3, h.keptTo k2 k3⟩
    refine ⟨b, c, F', cur.toList, ws, rfl, hH.keepB (b := b) (xs := cur.toList) ?_ (Nat.le_trans hz hown.1) hown.2, fun i x hx => ?_, q2⟩
    · exact ⟨_, by rw [Array.toArray_toList]; exact hb⟩
    · have h1 : vs[i]? = some x.val := by rw [← q1, List.getElem?_map, hx]; rfl
      rw [← ht] at h1
      have h2 := (List.getElem?_eq_some_iff.1 h1).1
      rw [List.length_take] at h2
      rw [List.getElem?_take_of_lt (by omega)] at h1
      exact h1
end
structure AR (w : World) (a : Option Addr) (L : List WV) : Prop where
  cells : ∀ (i : Nat) (x : WV), L[i]? = some x → ∃ b, a = some ⟨b, 0, none⟩ ∧ w.cell? ⟨b, i, none⟩ = some x.val ∧ WVok w x
theorem Hold.ar {w0 : Base} {w : World} {g : Nat} {G : Gra} {F : List Nat} {L : List (Value × List Int)} (h : Hold w0 w g G F L) {b : Nat} {cs : List Value} {ws : List WV} (hb : (b, cs) ∈ w0.K) (hc : ∀ (i : Nat) (x : WV), ws[i]? = some x → cs[i]? = some x.val) (hL : ∀ x ∈ ws, (x.val, x.l) ∈ L) : AR w (some ⟨b, 0, none⟩) ws :=
  ⟨fun i x hx => ⟨b, rfl, (h.kept _ hb).1.cell (hc i x hx), (h.at (hL x (List.mem_of_getElem? hx)) rfl).ok⟩⟩
theorem AR.ch {w w' : World} {a : Option Addr} {L : List WV} (h : AR w a L) (hc : Ch [] w w') : AR w' a L :=
  ⟨fun i x hx => by
    obtain ⟨b, e, h1, h2⟩ := h.cells i x hx
    exact ⟨b, e, (hc.cell (cell_lt h1) (by simp)).trans h1, h2.ch hc (by simp)⟩⟩
theorem fnvEqref : Fnv 21 := fnv_of Try.func21 (by simp [Try.f21]) (by simp [Try.f21])
set_option maxRecDepth 100000 in
set_option maxHeartbeats 2000000 in
theorem EFlst_yes {w : World} {a b : Option Addr} {As Bs : List WV} (n ca cb : Nat) (hn : n ≤ 1000000) (hA : AR w a As) (hB : AR w b Bs) (ha : As.length = n) (hb : Bs.length = n) (heq : ∀ (i : Nat) (x y : WV), As[i]? = some x → Bs[i]? = some y → x.l = y.l) :
    Calls Try.prog 22 #[.slice a n ca, .slice b n cb, .func (.func 21) #[] #[]] w fun e w' => e = .returned (.bool true) ∧ Ch [] w w' := by
  have hcf : ∀ args w, (callFunc 21 args).run Try.prog w = .ok (.enter 21 args) w := fnvEqref
  have HA := Lib.hid hA; clear hA
  have HB := Lib.hid hB; clear hB
  have HEQ := Lib.hid heq; clear heq
  go_enter Try.func22, Try.ntmps22
  go_wp2_with fail
  go_loopw [17] (fun i wr => ∃ k : Nat, k ≤ n ∧ i = .int .i64 k ∧ Ch [] w wr) (fun i _ => n - (intOf i).toNat)
  case atStart => exact ⟨0, Nat.zero_le _, rfl, Ch.refl _ _⟩
  case round =>
    obtain ⟨k, hk, rfl, hc⟩ := hrel
    by_cases hlt : k < n
    · obtain ⟨x, hx⟩ : ∃ x, As[k]? = some x := ⟨_, List.getElem?_eq_getElem (by omega)⟩
      obtain ⟨y, hy⟩ : ∃ y, Bs[k]? = some y := ⟨_, List.getElem?_eq_getElem (by omega)⟩
      have he := HEQ.out k x y hx hy
      obtain ⟨ab, rfl, c0, hxo⟩ := (HA.out.ch hc).cells k x hx
      obtain ⟨bb, rfl, c1, hyo⟩ := (HB.out.ch hc).cells k y hy
      have hE := Eqref_is (w := wr) x.c y.c hxo.sl hyo.sl
      rw [decide_eq_true he] at hE
      unfold WV.val at c0 c1
      obtain ⟨xa, xl, xc⟩ := x
      obtain ⟨ya, yl, yc⟩ := y
      simp only at c0 c1 hE
      have HE := Lib.hid hE; clear hE
      have HC := Lib.hid hc; clear hc
      clear hx hy he hxo hyo
      go_wp2_with fail
      refine HE.out.mono ?_
      rintro e w1 ⟨rfl, hc1⟩
      have HC1 := Lib.hid hc1; clear hc1 HE
      go_wp2_with fail
      go_roundw
      case rel => exact ⟨k + 1, by omega, by go_num, HC.out.trans HC1.out (by simp)⟩
      case measure => simp [intOf]; omega
    · have HC := Lib.hid hc; clear hc
      go_wp2_with fail
      go_ret
      exact ⟨rfl, HC.out⟩
end Go.Proofs.Ytndcgfnlgcincaa
namespace Go.Proofs.Ytndcgfnlgcincaa
open Go.RowKit Go.Mem Go.Aig
theorem fnvbegin261 : Fnv 23 := fnv_of Try.func23 (by simp [Try.f23]) (by simp [Try.f23])
section
variable {w : World} {g : Nat} {F : List Nat}
set_option maxRecDepth 100000 in
set_option maxHeartbeats 2000000 in
theorem begin261_is {s k b8 b9 : Nat} (h : GIn w g (gIn 8000 s) F) (hk : 1 ≤ k) (hk3 : k ≤ 3) (hs : s + k < 8000) (c8 : w.cell? ⟨b8, 0, none⟩ = some (.pointer (some ⟨g, 0, none⟩))) :
    Calls Try.prog 23 (#[.int .i64 k] ++ #[.pointer (some ⟨b8, 0, none⟩), .pointer (some ⟨b9, 0, none⟩)]) w fun e w' => ∃ v, e = .returned v ∧ GVo w g (gIn 8000 (s + k)) [] F v (rIn s k) w' := by
  show Calls Try.prog 23 #[.int .i64 k, .pointer (some ⟨b8, 0, none⟩), .pointer (some ⟨b9, 0, none⟩)] w _
  have hI := sInput_is h k
  rw [inG_gIn hk (by omega) hs] at hI
  have hl : (rIn s k).length = k := by simp [rIn]
  have HL := Lib.hid hl; clear hl
  clear h
  go_enter Try.func23, Try.ntmps23
  go_wp2_with fail
  refine hI.mono ?_
  rintro e w1 ⟨v, rfl, hg⟩
  obtain ⟨F', k1, k2, k3, k4, k5, k6⟩ := hg
  rw [HL.out] at k5
  obtain ⟨a, c, rfl⟩ := row.shape k5
  have HG := Lib.hid (show GVo w g (gIn 8000 (s + k)) [] F (.slice a k c) (rIn s k) w1 from ⟨F', k1, k2, k3, k4, by rw [HL.out]; exact k5, k6⟩)
  clear k1 k2 k3 k4 k5 k6
  go_wp2_with fail
  go_ret
  exact ⟨_, rfl, HG.out⟩
end
structure XB (w : World) (g s : Nat) (F : List Nat) (b8 b9 bx W : Nat) (wr : World) (v : Value) (k : Nat) (vs xs : List Value) : Prop where
  gin : GIn wr g (gIn 8000 s) F
  own : ∀ q ∈ F, w.heap.size ≤ q
  ch : Ch [] w wr
  k8 : blk wr b8 [.pointer (some ⟨g, 0, none⟩)]
  k9 : blk wr b9 [.int .i64 0]
  kx : blk wr bx xs
  nF : b8 ∉ F ∧ b9 ∉ F ∧ bx ∉ F
  arr : row wr 25 1 v k vs
  ownv : ∀ q, v.ownBlock = some q → w.heap.size ≤ q ∧ q ∉ F ∧ q ≠ b8 ∧ q ≠ b9 ∧ q ≠ bx
  words : ∀ (i : Nat) (u : Value), vs[i]? = some u → row wr 26 1 u W (refsCells (rIn (i * W) W)) ∧ ∀ q, u.ownBlock = some q → w.heap.size ≤ q ∧ q ∉ F ∧ q ≠ b8 ∧ q ≠ b9 ∧ q ≠ bx ∧ v.ownBlock ≠ some q
theorem XB.ch0 {w : World} {g s : Nat} {F : List Nat} {b8 b9 bx W : Nat} {wr wr' : World} {v : Value} {k : Nat} {vs xs : List Value} (h : XB w g s F b8 b9 bx W wr v k vs xs) (hc : Ch [] wr wr') : XB w g s F b8 b9 bx W wr' v k vs xs :=
  ⟨h.gin.same hc (by simp), h.own, h.ch.trans hc (by simp), h.k8.ch hc (by simp), h.k9.ch hc (by simp), h.kx.ch hc (by simp), h.nF, h.arr.ch hc (by simp), h.ownv, fun i u hu => ⟨(h.words i u hu).1.ch hc (by simp), (h.words i u hu).2⟩⟩
theorem XB.to {w : World} {g s s' : Nat} {F F' : List Nat} {b8 b9 bx W : Nat} {wr wr' : World} {v : Value} {k : Nat} {vs xs : List Value} (h : XB w g s F b8 b9 bx W wr v k vs xs) (hg : GIn wr' g (gIn 8000 s') F') (hc : Ch F wr wr') (hF : ∀ q ∈ F', q ∈ F ∨ wr.heap.size ≤ q) : XB w g s' F' b8 b9 bx W wr' v k vs xs := by
  have l8 := h.k8.lt
  have l9 := h.k9.lt
  have lx := h.kx.lt
  have hz := h.ch.size
  obtain ⟨n8, n9, nx⟩ := h.nF
  have hn : ∀ b, b < wr.heap.size → b ∉ F → b ∉ F' := fun b hb hn hin => (hF b hin).elim hn (fun e => by omega)
  refine ⟨hg, fun q hq => (hF q hq).elim (h.own q) (fun e => by omega), h.ch.trans hc (fun q hq => .inr (h.own q hq)), h.k8.ch hc n8, h.k9.ch hc n9, h.kx.ch hc nx, ⟨hn _ l8 n8, hn _ l9 n9, hn _ lx nx⟩, h.arr.ch hc (fun q hq => (h.ownv q hq).2.1), fun q hq => ?_, fun i u hu => ?_⟩
  · obtain ⟨f1, f2, f3⟩ := h.ownv q hq
    exact ⟨f1, hn q (h.arr.lt q hq).2 f2, f3⟩
  · obtain ⟨k1, k2⟩ := h.words i u hu
    refine ⟨k1.ch hc (fun q hq => (k2 q hq).2.1), fun q hq => ?_⟩
    obtain ⟨f1, f2, f3⟩ := k2 q hq
    exact ⟨f1, hn q (k1.lt q hq).2 f2, f3⟩
theorem XB.snoc {w : World} {g s : Nat} {F : List Nat} {b8 b9 bx W : Nat} {wr w2 : World} {v : Value} {k : Nat} {vs xs : List Value} (h : XB w g s F b8 b9 bx W wr v k vs xs) (hne : b8 ≠ bx ∧ b9 ≠ bx) (hbx : w.heap.size ≤ bx) {u v' : Value}
    (hu : row wr 26 1 u W (refsCells (rIn (k * W) W))) (hown : ∀ q, u.ownBlock = some q → w.heap.size ≤ q ∧ q ∉ F ∧ q ≠ b8 ∧ q ≠ b9 ∧ q ≠ bx ∧ v.ownBlock ≠ some q) (h4 : row w2 25 1 v' (k + 1) (vs ++ [u])) (hC : Ch v.ownBlock.toList wr w2) (hf : ∀ q, v'.ownBlock = some q → v.ownBlock = some q ∨ wr.heap.size ≤ q) :
    XB w g s F b8 b9 bx W (w2.setCell ⟨bx, 1, none⟩ v') v' (k + 1) (vs ++ [u]) (xs.set 1 v') := by
  have hcs : Ch [bx] w2 (w2.setCell ⟨bx, 1, none⟩ v') := (Ch.refl _ _).setCell (by simp) _
  have l8 := h.k8.lt
  have l9 := h.k9.lt
  have lx := h.kx.lt
  have hz := h.ch.size
  obtain ⟨n8, n9, nx⟩ := h.nF
  have hFl := h.gin.lt
  have hvk : vs.length = k := by have := h.arr.1; omega
  have hcv : ∀ q ∈ v.ownBlock.toList, w.heap.size ≤ q ∧ q ∉ F ∧ q ≠ b8 ∧ q ≠ b9 ∧ q ≠ bx := fun q hq => h.ownv q (by simpa using hq)
  have hown' : ∀ q, v'.ownBlock = some q → w.heap.size ≤ q ∧ q ∉ F ∧ q ≠ b8 ∧ q ≠ b9 ∧ q ≠ bx := fun q hq => by
    rcases hf q hq with e | e
    · exact h.ownv q e
    · exact ⟨by omega, fun hin => by have := hFl q hin; omega, by omega, by omega, by omega⟩
  refine ⟨(h.gin.same hC (fun q hq hin => (hcv q hin).2.1 hq)).same hcs (fun q hq hin => nx (by rw [List.mem_singleton.1 hin] at hq; exact hq)), h.own, (h.ch.trans hC (fun q hq => .inr (hcv q hq).1)).trans hcs (by simp; omega), (h.k8.ch hC (fun hin => (hcv _ hin).2.2.1 rfl)).ch hcs (by simpa using hne.1), (h.k9.ch hC (fun hin => (hcv _ hin).2.2.2.1 rfl)).ch hcs (by simpa using hne.2), ?_, h.nF, h4.ch hcs (fun q hq => by have := (hown' q hq).2.2.2.2; simpa using this), hown', fun i z hz' => ?_⟩
  · have := (h.kx.ch hC (fun hin => (hcv _ hin).2.2.2.2 rfl)).set (i := 1) v'
    exact this
  · by_cases hi : i < k
    · rw [List.getElem?_append_left (by omega)] at hz'
      obtain ⟨k2, k3⟩ := h.words i z hz'
      refine ⟨(k2.ch hC (fun q hq hin => (k3 q hq).2.2.2.2.2 (by simpa using hin))).ch hcs (fun q hq => by have := (k3 q hq).2.2.2.2.1; simpa using this), fun q hq => ?_⟩
      obtain ⟨f1, f2, f3, f4, f5, f6⟩ := k3 q hq
      refine ⟨f1, f2, f3, f4, f5, fun e => ?_⟩
      rcases hf q e with e2 | e2
      · exact f6 e2
      · have := (k2.lt q hq).2; omega
    · have hik : i = k := by
        have := (List.getElem?_eq_some_iff.1 hz').1
        rw [List.length_append] at this
        simp at this; omega
      subst hik
      rw [List.getElem?_append_right (by omega), hvk, Nat.sub_self] at hz'
      cases hz'
      refine ⟨(hu.ch hC (fun q hq hin => (hown q hq).2.2.2.2.2 (by simpa using hin))).ch hcs (fun q hq => by have := (hown q hq).2.2.2.2.1; simpa using this), fun q hq => ?_⟩
      obtain ⟨f1, f2, f3, f4, f5, f6⟩ := hown q hq
      refine ⟨f1, f2, f3, f4, f5, fun e => ?_⟩
      rcases hf q e with e2 | e2
      · exact f6 e2
      · have := (hu.lt q hq).2; omega
theorem XB.setx {w : World} {g s : Nat} {F : List Nat} {b8 b9 bx W : Nat} {wr : World} {v : Value} {k : Nat} {vs xs : List Value} (h : XB w g s F b8 b9 bx W wr v k vs xs) (hne : b8 ≠ bx ∧ b9 ≠ bx) (hbx : w.heap.size ≤ bx) (i : Nat) (u : Value) : XB w g s F b8 b9 bx W (wr.setCell ⟨bx, i, none⟩ u) v k vs (xs.set i u) := by
  have hcs : Ch [bx] wr (wr.setCell ⟨bx, i, none⟩ u) := (Ch.refl _ _).setCell (by simp) _
  obtain ⟨n8, n9, nx⟩ := h.nF
  exact ⟨h.gin.same hcs (fun q hq hin => nx (by rw [List.mem_singleton.1 hin] at hq; exact hq)), h.own, h.ch.trans hcs (by simp; omega), h.k8.ch hcs (by simpa using hne.1), h.k9.ch hcs (by simpa using hne.2), h.kx.set (i := i) u, h.nF, h.arr.ch hcs (fun q hq => by have := (h.ownv q hq).2.2.2.2; simpa using this), h.ownv, fun i u hu => ⟨(h.words i u hu).1.ch hcs (fun q hq => by have := ((h.words i u hu).2 q hq).2.2.2.2.1; simpa using this), (h.words i u hu).2⟩⟩
def BG (w w' : World) (g N W V : Nat) (F : List Nat) (ab : Nat) (cs : List Value) (ws : List WV) (wa ia : Option Addr) (wc ic : Nat) : Prop :=
  Hold ((w : Base).add ab cs) w' g (gIn 8000 (N * W + W + V + 1)) F ((ws.map fun x => (WV.val x, WV.l x)) ++ [(.slice wa W wc, natInts (rIn (N * W) W)), (.slice ia V ic, natInts (rIn (N * W + W) V))]) ∧
    (∀ (i : Nat) (x : WV), ws[i]? = some x → cs[i]? = some x.val) ∧ ws.map WV.l = (List.range N).map fun i => natInts (rIn (i * W) W)
theorem rIn_held {s k : Nat} (hs : s + k ≤ 1000) : (natInts (rIn s k)).length ≤ 1000000 ∧ ∀ r ∈ natInts (rIn s k), -9223372036854775808 ≤ r ∧ r ≤ 9223372036854775807 := by
  refine ⟨by rw [natInts_len, rIn_len]; omega, fun r hr => ?_⟩
  obtain ⟨z, hz, rfl⟩ := List.mem_map.1 hr
  have := rIn_le hz
  omega
theorem XB.world {w : World} {g N W V : Nat} {F : List Nat} {b8 b9 bx : Nat} {wr : World} {v : Value} {vs xs : List Value} (h : XB w g (N * W + W + V + 1) F b8 b9 bx W wr v N vs xs) (hN : 1 ≤ N ∧ N ≤ 4) (hW : W ≤ 3) (_hV : V ≤ 3) {wa ia : Option Addr} {wc ic : Nat}
    (h1 : Held w wr F (.slice wa W wc) (natInts (rIn (N * W) W))) (h2 : Held w wr F (.slice ia V ic) (natInts (rIn (N * W + W) V))) :
    ∃ ab ac cs ws, v = .slice (some ⟨ab, 0, none⟩) N ac ∧ BG w wr g N W V F ab cs ws wa ia wc ic := by
  have hNW : N * W ≤ 12 := Nat.mul_le_mul hN.2 hW
  obtain ⟨ab, ac, rfl⟩ := h.arr.parts (by omega)
  have hlen : vs.length = N := by have := h.arr.1; omega
  obtain ⟨ws, q1, q2, q3⟩ := harr_ws (vs := vs) (ls := (List.range N).map fun i => rIn (i * W) W) (Pr := fun u l => Held w wr F u l) (by rw [hlen]; simp) (fun i u hu => by
    obtain ⟨k1, k2⟩ := h.words i u hu
    have hi : i < N := by have := (List.getElem?_eq_some_iff.1 hu).1; omega
    have hiW : i * W ≤ 12 := Nat.le_trans (Nat.mul_le_mul_right W (by omega : i ≤ N)) hNW
    obtain ⟨ua, uc, rfl⟩ := row.shape k1
    obtain ⟨b1, b2⟩ := rIn_held (s := i * W) (k := W) (by omega)
    refine ⟨rIn (i * W) W, by rw [List.getElem?_map, List.getElem?_range hi]; rfl, ⟨by rw [natInts_len, rIn_len, ← refs_natInts]; exact k1, b1, b2, fun k hk => ⟨(k2 k hk).1, (k2 k hk).2.1⟩⟩, ua, uc, by rw [rIn_len]⟩)
  have harr := h.arr
  rcases harr.2 with ⟨e, _⟩ | ⟨b', cap, cur, e, _, hb, _, _, _, ht⟩
  · cases e
  · cases e
    have hown := h.ownv ab rfl
    have hH : Hold (w : Base) wr g (gIn 8000 (N * W + W + V + 1)) F ((ws.map fun x => (WV.val x, WV.l x)) ++ [(.slice wa W wc, natInts (rIn (N * W) W)), (.slice ia V ic, natInts (rIn (N * W + W) V))]) := ⟨⟨h.gin, h.own, h.ch⟩, fun p hp => by
      rcases List.mem_append.1 hp with hp | hp
      · obtain ⟨x, hx, rfl⟩ := List.mem_map.1 hp
        exact q3 x hx
      · simp only [List.mem_cons, List.not_mem_nil, or_false] at hp
        rcases hp with rfl | rfl
        · exact h1
        · exact h2, fun p hp => by cases hp⟩
    refine ⟨ab, ac, cur.toList, ws, rfl, hH.keepB (b := ab) (xs := cur.toList) ?_ hown.1 hown.2.1, fun i x hx => ?_, by rw [q2, List.map_map]; rfl⟩
    · exact ⟨_, by rw [Array.toArray_toList]; exact hb⟩
    · have h1 : vs[i]? = some x.val := by rw [← q1, List.getElem?_map, hx]; rfl
      rw [← ht] at h1
      have h2 := (List.getElem?_eq_some_iff.1 h1).1
      rw [List.length_take] at h2
      rw [List.getElem?_take_of_lt (by omega)] at h1
      exact h1
theorem BG.fin {w W1 wp w' : World} {g N W V : Nat} {F : List Nat} {ab : Nat} {cs : List Value} {ws : List WV} {wa ia : Option Addr} {wc ic b6 : Nat} (h : BG W1 wp g N W V F ab cs ws wa ia wc ic) (hc1 : Ch [] w W1) (hb1 : w.heap.size ≤ b6) (hb2 : b6 < W1.heap.size) (hc : Ch [b6] wp w') : BG w w' g N W V F ab cs ws wa ia wc ic := by
  obtain ⟨hH, h2, h3⟩ := h
  have hz := hc1.size
  have hown := hH.own.own
  refine ⟨⟨⟨hH.own.gin.same hc (fun q hq hin => ?_), fun q hq => Nat.le_trans hz (hown q hq), (hc1.trans hH.own.ch (by simp)).trans hc (fun q hq => .inr (by rw [List.mem_singleton.1 hq]; exact hb1))⟩, fun p hp => ?_, fun p hp => ?_⟩, h2, h3⟩
  · have := hown q hq
    rw [List.mem_singleton.1 hin] at this
    exact absurd this (by show ¬ W1.heap.size ≤ b6; omega)
  · have h9 := hH.held p hp
    exact ⟨h9.row.ch hc (fun q hq hin => by
      have := (h9.own q hq).1
      rw [List.mem_singleton.1 hin] at this
      exact absurd this (by show ¬ W1.heap.size ≤ b6; omega)), h9.len, h9.bd, fun q hq => ⟨Nat.le_trans hz (h9.own q hq).1, (h9.own q hq).2⟩⟩
  · have h9 := hH.kept p hp
    exact ⟨h9.1.ch hc (fun hin => by
      have := h9.2.1
      rw [List.mem_singleton.1 hin] at this
      exact absurd this (by show ¬ W1.heap.size ≤ b6; omega)), Nat.le_trans hz h9.2.1, h9.2.2⟩
end Go.Proofs.Ytndcgfnlgcincaa
namespace Go.Proofs.Ytndcgfnlgcincaa
open Go.RowKit Go.Mem Go.Aig
attribute [local go_sem] Oper.semAt_some
section
set_option maxRecDepth 100000 in
set_option maxHeartbeats 4000000 in
theorem begin26_is (w : World) (n wd v N W V : Nat) (hN : n % 4 + 1 = N) (hW : wd % 3 + 1 = W) (hV : v % 3 + 1 = V) :
    Calls Try.prog 5 #[.int .u8 n, .int .u8 wd, .int .u8 v] w fun e w' => ∃ g F ab ac cs ws wa wc ia ic, e = .returned (.tuple #[.agg #[.pointer (some ⟨g, 0, none⟩), .slice (some ⟨ab, 0, none⟩) N ac, .slice wa W wc, .slice ia V ic, .int .i64 (2 * (N * W + W + V + 1) : Nat)], .bool true]) ∧ BG w w' g N W V F ab cs ws wa ia wc ic := by
  have hN4 : 1 ≤ N ∧ N ≤ 4 := by omega
  have hW3 : 1 ≤ W ∧ W ≤ 3 := by omega
  have hV3 : 1 ≤ V ∧ V ≤ 3 := by omega
  have qN : 1 + (n : Int) % 4 = (N : Int) := by omega
  have qW : 1 + (wd : Int) % 3 = (W : Int) := by omega
  have qV : 1 + (v : Int) % 3 = (V : Int) := by omega
  have hcf : ∀ args w, (callFunc 23 args).run Try.prog w = .ok (.enter 23 args) w := fnvbegin261
  have hNew := fun W => New_yes (w := W) 8000 (by decide) (by decide)
  have HNEW := Lib.hid hNew; clear hNew
  have QN := Lib.hid qN; clear qN
  have QW := Lib.hid qW; clear qW
  have QV := Lib.hid qV; clear qV
  clear hN hW hV
  go_enter Try.func5, Try.ntmps5
  go_wp2_with fail
  refine calls_named fun W1 hW1 => ?_
  have hc1 := alw_ch hW1
  have hb6 := alw_blk (xs := [.pointer none, .slice none 0 0, .slice none 0 0, .slice none 0 0, .int .i64 0]) hW1
  clear hW1
  have h6W := hb6.lt
  refine (HNEW.out W1).mono ?_
  rintro e w2 ⟨g, F1, rfl, hg1, hF1, hc2⟩
  have hb6 := hb6.ch hc2 (by simp)
  have hg0 : GIn w2 g (gIn 8000 0) F1 := hg1
  have hz1 := hc1.size
  have HB6 := Lib.hid hb6; clear hb6
  have HG := Lib.hid hg0; clear hg0 hg1
  have HF1 := Lib.hid (fun k (hk : k ∈ F1) => hF1 k hk); clear hF1
  have H6W := Lib.hid h6W; clear h6W
  have HC01 := Lib.hid hc1
  have HC2 := Lib.hid hc2; clear hc1 hc2
  go_upto_region 6 with fail
  refine wp_named fun W3 hW3' => ?_
  have hc3 : Ch [] w2 W3 := by rw [hW3']; exact (((Ch.refl _ _).alloc _).alloc _).alloc _
  have k8 : blk W3 w2.heap.size [.pointer (some ⟨g, 0, none⟩)] := by rw [hW3']; exact ((blk.new' _ _ (by simp)).alloc _).alloc _
  have k9 : blk W3 (w2.heap.size + 1) [.int .i64 0] := by rw [hW3']; exact (blk.new' _ _ (by simp)).alloc _
  have kx : blk W3 (w2.heap.size + 1 + 1) [.pointer (some ⟨g, 0, none⟩), .slice none 0 0, .slice none 0 0, .slice none 0 0, .int .i64 0] := by rw [hW3']; exact blk.new' _ _ (by simp)
  clear hW3'
  have hFl := HG.out.lt
  have hzw := HC2.out.size
  have h6l := HB6.out.lt
  have hxb : XB W1 g 0 F1 w2.heap.size (w2.heap.size + 1) (w2.heap.size + 1 + 1) W W3 (.slice none 0 0) 0 [] [.pointer (some ⟨g, 0, none⟩), .slice none 0 0, .slice none 0 0, .slice none 0 0, .int .i64 0] :=
    ⟨HG.out.same hc3 (by simp), fun q hq => HF1.out q hq, HC2.out.trans hc3 (by simp), k8, k9, kx, ⟨fun hin => by have := hFl _ hin; omega, fun hin => by have := hFl _ hin; omega, fun hin => by have := hFl _ hin; omega⟩, ⟨rfl, .inl ⟨rfl, rfl⟩⟩, by simp [Value.ownBlock], by simp⟩
  have hne : w2.heap.size ≠ w2.heap.size + 1 + 1 ∧ w2.heap.size + 1 ≠ w2.heap.size + 1 + 1 := ⟨by omega, by omega⟩
  have hlx : W1.heap.size ≤ w2.heap.size + 1 + 1 := by omega
  have h6W := H6W.out
  have h6n : w.heap.size ∉ F1 ∧ w.heap.size ≠ w2.heap.size ∧ w.heap.size ≠ w2.heap.size + 1 ∧ w.heap.size ≠ w2.heap.size + 1 + 1 := ⟨fun hin => by have := HF1.out _ hin; omega, by omega, by omega, by omega⟩
  clear h6W
  have hb6 := HB6.out.ch hc3 (by simp)
  generalize w2.heap.size + 1 + 1 = bx at *
  generalize w2.heap.size + 1 = b9 at *
  generalize w2.heap.size = b8 at *
  clear k8 k9 kx hFl hzw h6l hc3 HG HF1 HC2 HB6
  have HXB := Lib.hid hxb; clear hxb
  have HB6 := Lib.hid hb6; clear hb6
  have HNE := Lib.hid hne; clear hne
  have HLX := Lib.hid hlx; clear hlx
  have H6N := Lib.hid h6n; clear h6n
  go_wp2_with fail
  rw [QN.out]
  go_loopw [30] (fun i wr => ∃ (k : Nat) (F : List Nat) (vv : Value) (vs : List Value), k ≤ N ∧ i = .int .u8 k ∧ XB W1 g (k * W) F b8 b9 bx W wr vv k vs [.pointer (some ⟨g, 0, none⟩), vv, .slice none 0 0, .slice none 0 0, .int .i64 0] ∧ blk wr w.heap.size [.pointer none, .slice none 0 0, .slice none 0 0, .slice none 0 0, .int .i64 0] ∧ w.heap.size ∉ F ∧ vv.ownBlock ≠ some w.heap.size) (fun i _ => N - (intOf i).toNat)
  case atStart => exact ⟨0, F1, _, [], Nat.zero_le _, rfl, by rw [Nat.zero_mul]; exact HXB.out, HB6.out, H6N.out.1, by simp [Value.ownBlock]⟩
  case round =>
    clear HXB HB6
    obtain ⟨k, F, vv, vs, hk, rfl, hxb, hb6, h6F, h6v⟩ := hrel
    obtain ⟨oa, oc, rfl⟩ := row.shape hxb.arr
    by_cases hlt : k < N
    · have hkx := hxb.kx
      have HXB := Lib.hid hxb; clear hxb
      have HB6 := Lib.hid hb6; clear hb6
      have H6F := Lib.hid h6F; clear h6F
      have H6V := Lib.hid h6v; clear h6v
      have hs8 : k * W + W < 8000 := by
        have : k * W ≤ 4 * W := Nat.mul_le_mul_right W (by omega)
        omega
      go_wp2_with fail
      refine Ord.St.door (fun w' => w'.cell? ⟨bx, 1, none⟩ = some (.slice oa k oc)) [.fl, .ho, .fl, .fl, .fl, .fl, .fl, .ef, .ef, .ef, .fl, .ef] [0, 1, 0, 0, 8, 24, 56, 124, 252, 511, 1023, 2047] [0, 1, 2, 3, 4, 5, 6, 7, 8, 9, 10, 11] mixed (by kernel_rfl) rfl ?_
      obtain ⟨Wc, hWc⟩ : ∃ Wc, Wc = wr.drew := ⟨_, rfl⟩
      rw [← hWc]
      have hcur : Ch [] wr Wc := by rw [hWc]; exact (Ch.refl _ _).drew
      clear hWc
      have hxb := HXB.out.ch0 hcur
      replace hkx := hxb.kx
      have hbg := begin261_is (b9 := b9) hxb.gin hW3.1 hW3.2 hs8 (hxb.k8.cell (i := 0) rfl)
      rw [← QW.out] at hbg
      have HBG := Lib.hid hbg; clear hbg
      have hb6c := HB6.out.ch hcur (by simp)
      have HB6c := Lib.hid hb6c; clear hb6c HB6
      have HXBc := Lib.hid hxb; clear hxb HXB hcur
      refine Ord.St.fl2 (T' := ?_) 0 [1, 2, 3, 4, 5, 6, 7, 8, 9, 10, 11] _ _ rfl (by kernel_rfl) rfl rfl rfl rfl (fun K w' hk => ?_) ?_
      rotate_left
      · go_step; exact hk
      refine Ord.St.ho2 (T' := ?_) 1 [2, 3, 4, 5, 6, 7, 8, 9, 10, 11] _ _ rfl (by kernel_rfl) rfl rfl rfl rfl ?_ (fun K w' hw' hk => ?_) ?_
      rotate_left
      · exact hkx.cell (i := 1) rfl
      · have q1 := hw'; go_step; exact hk
      refine Ord.St.fl2 (T' := ?_) 2 [3, 4, 5, 6, 7, 8, 9, 10, 11] _ _ rfl (by kernel_rfl) rfl rfl rfl rfl (fun K w' hk => ?_) ?_
      rotate_left
      · go_step; exact hk
      refine Ord.St.fl2 (T' := ?_) 3 [4, 5, 6, 7, 8, 9, 10, 11] _ _ rfl (by kernel_rfl) rfl rfl rfl rfl (fun K w' hk => ?_) ?_
      rotate_left
      · go_step; exact hk
      refine Ord.St.fl2 (T' := ?_) 4 [5, 6, 7, 8, 9, 10, 11] _ _ rfl (by kernel_rfl) rfl rfl rfl rfl (fun K w' hk => ?_) ?_
      rotate_left
      · go_step; exact hk
      refine Ord.St.fl2 (T' := ?_) 5 [6, 7, 8, 9, 10, 11] _ _ rfl (by kernel_rfl) rfl rfl rfl rfl (fun K w' hk => ?_) ?_
      rotate_left
      · go_step; exact hk
      refine Ord.St.fl2 (T' := ?_) 6 [7, 8, 9, 10, 11] _ _ rfl (by kernel_rfl) rfl rfl rfl rfl (fun K w' hk => ?_) ?_
      rotate_left
      · go_step; exact hk
      refine Ord.St.efC 7 [8, 9, 10, 11] _ rfl (by kernel_rfl) (fun K hK => ?_)
      go_wp2_with fail
      refine HBG.out.mono ?_
      rintro e w1 ⟨u, rfl, F2, g1, g2, g3, g4, g5, g6⟩
      rw [rIn_len] at g5
      obtain ⟨ua, uc, rfl⟩ := row.shape g5
      have g2' : Ch F Wc w1 := by simpa using g2
      have hx1 := HXBc.out.to g1 g2' g3
      have hb61 := HB6c.out.ch g2' H6F.out
      have h6F2 : w.heap.size ∉ F2 := fun hin => (g3 _ hin).elim H6F.out (fun e => by have := HB6c.out.lt; omega)
      have hc8 : Ch [] w1 (w1.alloc (.cells #[.slice ua W uc] 25)) := (Ch.refl _ _).alloc _
      have hx2 := hx1.ch0 hc8
      have hrw2 := g5.ch hc8 (by simp)
      have hnb : blk (w1.alloc (.cells #[.slice ua W uc] 25)) w1.heap.size [.slice ua W uc] := blk.new' _ _ rfl
      have hul : ∀ q, (Value.slice ua W uc).ownBlock = some q → W1.heap.size ≤ q ∧ q ∉ F2 ∧ q ≠ b8 ∧ q ≠ b9 ∧ q ≠ bx ∧ (Value.slice oa k oc).ownBlock ≠ some q := fun q hq => by
        obtain ⟨f1, f2⟩ := g6 q hq
        have := HXBc.out.k8.lt
        have := HXBc.out.k9.lt
        have := HXBc.out.kx.lt
        have := HXBc.out.ch.size
        refine ⟨by omega, f2, by omega, by omega, by omega, fun e => ?_⟩
        have := (HXBc.out.arr.lt q e).2
        omega
      replace hkx := hx1.kx
      have HX2 := Lib.hid hx2; clear hx2 hx1
      have HRW2 := Lib.hid hrw2; clear hrw2
      have HNB := Lib.hid hnb; clear hnb
      have HUL := Lib.hid hul; clear hul
      have HB61 := Lib.hid (hb61.ch hc8 (by simp)); clear hb61
      have H6F2 := Lib.hid h6F2; clear h6F2
      have hz6 := HB6c.out.lt
      have hzz := g2'.size
      clear g1 g2 g2' g3 g4 g5 g6 HBG HXBc HB6c hc8
      go_wp2_with fail
      refine ⟨rfl, hK _ _ ?_ ?_⟩
      · exact hkx.cell (i := 1) rfl
      clear hK K
      refine Ord.St.efC 8 [9, 10, 11] _ rfl (by kernel_rfl) (fun K hK => ?_)
      go_wp2_with fail
      replace hkx := hkx.alloc (.cells #[.slice ua W uc] 25)
      refine ⟨rfl, hK _ _ ?_ ?_⟩
      · exact hkx.cell (i := 1) rfl
      clear hK K
      refine Ord.St.ef 9 [10, 11] _ rfl (by kernel_rfl) (fun K hK => ?_)
      go_wp2_with (at_builtin; go_loud (refine wpList_append_row slRows rfl _ _ rfl (v := .slice oa k oc) (n := k) (xs := vs) rfl HX2.out.arr (ad := ⟨w1.heap.size, 0, none⟩) (m := 1) (c := 1) (news := [.slice ua W uc]) rfl rfl (news_blk HNB.out) (by simp [Value.oneCell']) (by omega) (by omega) ?_; intro v' w4 hown4 hC4 hf4; obtain ⟨gb, gc, rfl⟩ := row.parts hown4 (by omega); have HO4 := Lib.hid hown4; clear hown4; have HC4 := Lib.hid hC4; clear hC4; have HF4 := Lib.hid hf4; clear hf4))
      replace hkx := hkx.ch HC4.out (fun hk => (HX2.out.ownv _ (by simpa using hk)).2.2.2.2 rfl)
      have k1 := hkx.cell (i := 1) rfl
      have k2 := hkx.frozen (i := 1)
      refine ⟨rfl, hK _ _ ?_⟩; clear hK K
      refine Ord.St.fl2 (T' := ?_) 10 [11] _ _ rfl (by kernel_rfl) rfl rfl rfl rfl (fun K w' hk => ?_) ?_
      rotate_left
      · go_step; exact hk
      refine Ord.St.ef 11 [] _ rfl (by kernel_rfl) (fun K hK => ?_)
      go_wp2_with fail
      refine ⟨rfl, hK _ _ ?_⟩; clear hK K
      refine Ord.St.nil ?_
      go_wp2_with fail
      go_roundw
      case rel =>
        have hsn := HX2.out.snoc HNE.out HLX.out HRW2.out HUL.out HO4.out HC4.out HF4.out
        have hcs : Ch [bx] w4 (w4.setCell ⟨bx, 1, none⟩ (.slice (some ⟨gb, 0, none⟩) (k + 1) gc)) := (Ch.refl _ _).setCell (by simp) _
        refine ⟨k + 1, F2, .slice (some ⟨gb, 0, none⟩) (k + 1) gc, vs ++ [.slice ua W uc], by omega, by go_num, ?_, (HB61.out.ch HC4.out (fun hin => H6V.out (by simpa using hin))).ch hcs (by have := H6N.out.2.2.2; simpa using this), H6F2.out, fun e => ?_⟩
        · rw [Nat.succ_mul]; exact hsn
        · rcases HF4.out _ e with e2 | e2
          · exact H6V.out e2
          · simp at e2; omega
      case measure => simp [intOf]; omega
    · have hkN : k = N := by omega
      rw [hkN] at hxb ⊢
      clear hkN hk
      have hNW : N * W ≤ 12 := Nat.mul_le_mul hN4.2 hW3.2
      have hB1 := begin261_is (b9 := b9) hxb.gin hW3.1 hW3.2 (by omega) (hxb.k8.cell (i := 0) rfl)
      rw [← QW.out] at hB1
      have HB1 := Lib.hid hB1; clear hB1
      have HXB := Lib.hid hxb; clear hxb
      have HB6 := Lib.hid hb6; clear hb6
      have H6F := Lib.hid h6F; clear h6F
      clear h6v
      go_wp2_with fail
      refine HB1.out.mono ?_
      rintro e w3 ⟨u1, rfl, F3, g1, g2, g3, g4, g5, g6⟩
      have g2' : Ch F wr w3 := by simpa using g2
      have hx3 := HXB.out.to g1 g2' g3
      have hz3 := HXB.out.ch.size
      have hlx := HXB.out.kx.lt
      rw [rIn_len] at g5
      obtain ⟨wa, wc, rfl⟩ := row.shape g5
      obtain ⟨p1, p2⟩ := rIn_held (s := N * W) (k := W) (by omega)
      have hu1 : Held W1 w3 F3 (.slice wa W wc) (natInts (rIn (N * W) W)) := ⟨by rw [natInts_len, rIn_len, ← refs_natInts]; exact g5, p1, p2, fun q hq => ⟨by have := (g6 q hq).1; omega, (g6 q hq).2⟩⟩
      have hu1x : ∀ q, (Value.slice wa W wc).ownBlock = some q → q ≠ bx := fun q hq => by have := (g6 q hq).1; omega
      have hB2 := begin261_is (b9 := b9) g1 hV3.1 hV3.2 (by omega) (hx3.k8.cell (i := 0) rfl)
      rw [← QV.out] at hB2
      have HB2 := Lib.hid hB2; clear hB2
      have hb63 := HB6.out.ch g2' H6F.out
      have h6F3 : w.heap.size ∉ F3 := fun hin => (g3 _ hin).elim H6F.out (fun e => by have := HB6.out.lt; omega)
      have HX3 := Lib.hid hx3; clear hx3
      have HU1 := Lib.hid hu1; clear hu1
      have HU1X := Lib.hid hu1x; clear hu1x
      have HB63 := Lib.hid hb63; clear hb63
      have H6F3 := Lib.hid h6F3; clear h6F3
      clear g1 g2 g2' g3 g4 g5 g6 p1 p2 HXB HB6 H6F hlx hz3
      go_wp2_with fail
      refine HB2.out.mono ?_
      rintro e w4 ⟨u2, rfl, F4, g1, g2, g3, g4, g5, g6⟩
      have g2' : Ch F3 w3 w4 := by simpa using g2
      have hx4 := HX3.out.to g1 g2' g3
      have hz3 := HX3.out.ch.size
      have hlx := HX3.out.kx.lt
      rw [rIn_len] at g5
      obtain ⟨ia, ic, rfl⟩ := row.shape g5
      obtain ⟨p1, p2⟩ := rIn_held (s := N * W + W) (k := V) (by omega)
      have hu2 : Held W1 w4 F4 (.slice ia V ic) (natInts (rIn (N * W + W) V)) := ⟨by rw [natInts_len, rIn_len, ← refs_natInts]; exact g5, p1, p2, fun q hq => ⟨by have := (g6 q hq).1; omega, (g6 q hq).2⟩⟩
      have hu2x : ∀ q, (Value.slice ia V ic).ownBlock = some q → q ≠ bx := fun q hq => by have := (g6 q hq).1; omega
      have hu1 := HU1.out.keep g2' g3
      have hb64 := HB63.out.ch g2' H6F3.out
      have h6F4 : w.heap.size ∉ F4 := fun hin => (g3 _ hin).elim H6F3.out (fun e => by have := HB63.out.lt; omega)
      have kx := hx4.kx
      have x2 := kx.cell (i := 2) rfl
      have x3 := kx.cell (i := 3) rfl
      have f2 := kx.frozen (i := 2)
      have f3 := kx.frozen (i := 3)
      have HX4 := Lib.hid hx4; clear hx4
      have HU1b := Lib.hid hu1; clear hu1
      have HU2 := Lib.hid hu2; clear hu2
      have HU2X := Lib.hid hu2x; clear hu2x
      have HB64 := Lib.hid hb64; clear hb64
      have H6F4 := Lib.hid h6F4; clear h6F4
      clear g1 g2 g2' g3 g4 g5 g6 p1 p2 HX3 HB63 H6F3 hlx hz3 HU1 kx
      go_upto_region 11 with fail
      refine wp_named fun W5 hW5 => ?_
      have hx5 : XB W1 g (N * W + W + V) F4 b8 b9 bx W W5 (.slice oa N oc) N vs [.pointer (some ⟨g, 0, none⟩), .slice oa N oc, .slice wa W wc, .slice ia V ic, .int .i64 0] := by rw [hW5]; exact (HX4.out.setx HNE.out HLX.out 2 _).setx HNE.out HLX.out 3 _
      have hcs : Ch [bx] w4 W5 := by rw [hW5]; exact ((Ch.refl _ _).setCell (by simp) _).setCell (by simp) _
      clear hW5
      have hh := fun (z : Value) (l : List Int) (h : Held W1 w4 F4 z l) (hz : ∀ q, z.ownBlock = some q → q ≠ bx) => (⟨h.row.ch hcs (fun q hq => by have := hz q hq; simpa using this), h.len, h.bd, h.own⟩ : Held W1 W5 F4 z l)
      have hu1 := hh _ _ HU1b.out HU1X.out
      have hu2 := hh _ _ HU2.out HU2X.out
      have hb65 := HB64.out.ch hcs (by have := H6N.out.2.2.2; simpa using this)
      have hB3 := begin261_is (b9 := b9) (k := 1) hx5.gin (by omega) (by omega) (by omega) (hx5.k8.cell (i := 0) rfl)
      have HB3 := Lib.hid hB3; clear hB3
      have HX5 := Lib.hid hx5; clear hx5
      have HU1c := Lib.hid hu1; clear hu1 HU1b
      have HU2c := Lib.hid hu2; clear hu2 HU2
      have HB65 := Lib.hid hb65; clear hb65 HB64
      clear hcs hh x2 x3 f2 f3 HX4
      go_wp2_with fail
      refine HB3.out.mono ?_
      rintro e w6 ⟨u3, rfl, F6, g1, g2, g3, g4, g5, g6⟩
      have g2' : Ch F4 W5 w6 := by simpa using g2
      have hx6 := HX5.out.to g1 g2' g3
      have hu1 := HU1c.out.keep g2' g3
      have hu2 := HU2c.out.keep g2' g3
      have hb66 := HB65.out.ch g2' H6F4.out
      rw [rIn_len] at g5
      obtain ⟨ub, uc, rfl⟩ := g5.parts (by omega)
      have c_u := row_at2 g5 (k := 0) (v := .int .i64 (2 * (N * W + W + V + 1) : Nat)) rfl
      have c_e := hx6.k9.cell (i := 0) rfl
      have kx := hx6.kx
      have x0 := kx.cell (i := 0) rfl
      have x1 := kx.cell (i := 1) rfl
      have x2 := kx.cell (i := 2) rfl
      have x3 := kx.cell (i := 3) rfl
      have x4 := kx.cell (i := 4) rfl
      have f4 := kx.frozen (i := 4)
      have HX6 := Lib.hid hx6; clear hx6
      have HU1d := Lib.hid hu1; clear hu1 HU1c
      have HU2d := Lib.hid hu2; clear hu2 HU2c
      have HB66 := Lib.hid hb66; clear hb66 HB65
      clear g1 g2 g2' g3 g4 g5 g6 kx HX5
      go_upto_region 15 with fail
      refine wp_named fun W7 hW7 => ?_
      have hx7 : XB W1 g (N * W + W + V + 1) F6 b8 b9 bx W W7 (.slice oa N oc) N vs [.pointer (some ⟨g, 0, none⟩), .slice oa N oc, .slice wa W wc, .slice ia V ic, .int .i64 (2 * ((N : Int) * W + W + V + 1))] := by rw [hW7]; exact HX6.out.setx HNE.out HLX.out 4 _
      have hcs : Ch [bx] w6 W7 := by rw [hW7]; exact (Ch.refl _ _).setCell (by simp) _
      clear hW7
      have hh := fun (z : Value) (l : List Int) (h : Held W1 w6 F6 z l) (hz : ∀ q, z.ownBlock = some q → q ≠ bx) => (⟨h.row.ch hcs (fun q hq => by have := hz q hq; simpa using this), h.len, h.bd, h.own⟩ : Held W1 W7 F6 z l)
      have hu1 := hh _ _ HU1d.out HU1X.out
      have hu2 := hh _ _ HU2d.out HU2X.out
      have hb67 := HB66.out.ch hcs (by have := H6N.out.2.2.2; simpa using this)
      obtain ⟨ab, ac, cs, ws, e1, hbg⟩ := hx7.world hN4 hW3.2 hV3.2 hu1 hu2
      cases e1
      have kx := hx7.kx
      clear x0 x1 x2 x3 x4 f4 c_u c_e hh hcs hu1 hu2
      have x0 := kx.cell (i := 0) rfl
      have x1 := kx.cell (i := 1) rfl
      have x2 := kx.cell (i := 2) rfl
      have x3 := kx.cell (i := 3) rfl
      have x4 := kx.cell (i := 4) rfl
      have z0 := hb67.cell (i := 0) rfl
      have z1 := hb67.cell (i := 1) rfl
      have z2 := hb67.cell (i := 2) rfl
      have z3 := hb67.cell (i := 3) rfl
      have z4 := hb67.cell (i := 4) rfl
      have f0 := hb67.frozen (i := 0)
      have f1 := hb67.frozen (i := 1)
      have f2 := hb67.frozen (i := 2)
      have f3 := hb67.frozen (i := 3)
      have f4 := hb67.frozen (i := 4)
      have HBG := Lib.hid hbg; clear hbg
      clear kx hb67 hx7 HX6 HU1d HU2d HB66
      go_wp2_with fail
      refine bodyPost_ret (v := .tuple #[.agg #[.pointer (some ⟨g, 0, none⟩), .slice (some ⟨ab, 0, none⟩) N oc, .slice wa W wc, .slice ia V ic, .int .i64 (2 * ((N : Int) * W + W + V + 1))], .bool true]) (by simp [results, Try.results5, go_sem, z0, z1, z2, z3, z4]) rfl ?_
      have hcs : Ch [w.heap.size] W7 (((((W7.setCell ⟨w.heap.size, 0, none⟩ (.pointer (some ⟨g, 0, none⟩))).setCell ⟨w.heap.size, 1, none⟩ (.slice (some ⟨ab, 0, none⟩) N oc)).setCell ⟨w.heap.size, 2, none⟩ (.slice wa W wc)).setCell ⟨w.heap.size, 3, none⟩ (.slice ia V ic)).setCell ⟨w.heap.size, 4, none⟩ (.int .i64 (2 * ((N : Int) * W + W + V + 1)))) := (((((Ch.refl _ _).setCell (by simp) _).setCell (by simp) _).setCell (by simp) _).setCell (by simp) _).setCell (by simp) _
      refine ⟨g, F6, ab, oc, cs, ws, wa, wc, ia, ic, ?_, BG.fin HBG.out HC01.out (Nat.le_refl _) H6W.out hcs⟩
      rw [show ((2 * (N * W + W + V + 1) : Nat) : Int) = 2 * ((N : Int) * W + W + V + 1) by push_cast; rfl]
end
end Go.Proofs.Ytndcgfnlgcincaa
namespace Go.Proofs.Ytndcgfnlgcincaa
open Go.RowKit Go.Mem Go.Aig
theorem fnvmIs1 : Fnv 44 := fnv_of Try.func44 (by simp [Try.f44]) (by simp [Try.f44])
section
variable {w : World} {g m : Nat} {G : Gra} {F : List Nat}
set_option maxRecDepth 100000 in
set_option maxHeartbeats 2000000 in
theorem mIs1_is {by' bn i n yc : Nat} {ya : Option Addr} {r : Nat} {Rs : World → Prop} (hI : Calls Try.prog 45 #[.pointer (some ⟨m, 0, none⟩), .slice ya n yc, .int .u32 i] w fun e w' => e = .returned (.int .i64 r) ∧ Rs w')
    (c1 : w.cell? ⟨by', 0, none⟩ = some (.slice ya n yc)) (c2 : w.cell? ⟨bn, 0, none⟩ = some (.int .u32 i)) :
    Calls Try.prog 44 (#[.pointer (some ⟨m, 0, none⟩)] ++ #[.pointer (some ⟨by', 0, none⟩), .pointer (some ⟨bn, 0, none⟩)]) w fun e w' => e = .returned (.int .i64 r) ∧ Rs w' := by
  show Calls Try.prog 44 #[.pointer (some ⟨m, 0, none⟩), .pointer (some ⟨by', 0, none⟩), .pointer (some ⟨bn, 0, none⟩)] w _
  go_enter Try.func44, Try.ntmps44
  go_wp2_with fail
  refine hI.mono ?_
  rintro e w1 ⟨rfl, h⟩
  go_wp2_with fail
  go_ret
  exact ⟨rfl, h⟩
set_option maxRecDepth 100000 in
set_option maxHeartbeats 4000000 in
theorem mIs_is (h : GIn w g G F) {y : WV} (hy : WVin w F y) (i : Nat) (hi : i < 4294967296) :
    Calls Try.prog 15 #[.pointer (some ⟨g, 0, none⟩), y.val, .int .u32 i] w fun e w' => e = .returned (.tuple #[.int .i64 (isG G y.l i).2.1, .int .i64 (isG G y.l i).2.2]) ∧ GTo w g (isG G y.l i).1 F w' := by
  have hpos := h.ok.wf.pos
  have hroom := h.ok.room
  have hmost := h.ok.most
  have hL := fun (W : World) (hW : Ch [] w W) => Len_g (h.same hW (by simp))
  have hok := chk26_ok (G := G) (idx := []) (refs := []) (ws := [y.l])
  have hlt := chk26_lt G [] [] [y.l]
  unfold isG
  obtain ⟨cc, hcc⟩ : ∃ cc, chk26 G [] [] [y.l] = cc := ⟨_, rfl⟩
  rw [hcc] at hok hlt ⊢
  obtain ⟨S, hS⟩ : ∃ S, isR (G, 0) (nats y.l) y.l.length i = S := ⟨_, rfl⟩
  rw [hS]
  generalize hWW : (if cc ≠ 0 then (G, 0, cc) else rres G S : Res) = WW
  have hylen := hy.ok.len
  have hchk := fun (W : World) (q lb : Nat) (hW : Ch [] w W) (hq : blk W q [.slice (some ⟨lb, 0, none⟩) 1 1]) (hl : blk W lb [y.val]) =>
    mcheck_is (h.same hW (by simp)) (LS.one (c := 1) (hq.cell (i := 0) rfl) rfl (at1 hl (hy.ch hW).ok)) (n := 1) (c := 1) (by omega) (by rw [lsW_one]; simp) (by rw [lsW_one]; simp) (RS.nil W) (RS.nil W) (by omega) (by omega) (by intro z hz; simp at hz)
  simp only [lsW_one, List.map_cons, List.map_nil, hcc] at hchk
  have hbuild : cc = 0 → ∀ (W1 : World), Ch [] w W1 → blk W1 w.heap.size [y.val] → blk W1 (w.heap.size + 1) [.int .u32 i] →
      Calls Try.prog 37 #[.pointer (some ⟨g, 0, none⟩), .func (.func 44) #[] #[.pointer (some ⟨w.heap.size, 0, none⟩), .pointer (some ⟨w.heap.size + 1, 0, none⟩)]] W1 fun e w' => ∃ v, e = .returned (.tuple #[v, .int .i64 S.1.2]) ∧ MB W1 g G F S.1 (PostR S.2) mzR v w' := fun h0 W1 hW1 k1 k2 => by
    obtain ⟨o1, o2, o3, _, _⟩ := hok h0
    have hyw := o1 y.l (by simp)
    have hn1 : 1 ≤ y.l.length := o2 (by simp)
    have hn16 : y.l.length ≤ 16 := o3 (by simp)
    refine mbuildR_is (h.same hW1 (by simp)) 44 _ fnvmIs1 S.1 _ (fun W m hm hW hM => ?_)
    have hall := hW1.trans hW (by simp)
    have hyW : WVin W F ⟨y.a, natInts (nats y.l), y.c⟩ := by rw [hyw.cast]; exact hy.ch hall
    have hyr : ∀ r ∈ nats y.l, r < 2 * G.nodes.length := hyw.lt
    have hI := mis_is hM y.l.length y.c i (by rw [nats_len]) hn1 (by omega) hi hyW hyr
    have hfull := eqW_full hM.gin.ok (n := y.l.length) (by rw [nats_len]) (constL_len i _) hn1 (by omega) hyr (fun r hr => by have := constL_le i _ r hr; show r < 2 * G.nodes.length; omega)
    have hst := (Sim.start hM.gin.ok).step hfull (Y := eqW G (nats y.l) (constL i y.l.length)) (fun _ _ => rfl)
    have e0 : rstep (G, 0) (eqW G (nats y.l) (constL i y.l.length)) = S := hS
    rw [e0] at hst
    have c1 := (k1.ch hW (by simp)).cell (i := 0) (v := y.val) rfl
    have c2 := (k2.ch hW (by simp)).cell (i := 0) rfl
    unfold WV.val at c1
    have h1 := mIs1_is hI c1 c2
    refine h1.mono ?_
    rintro e W' ⟨rfl, F', q1, q2, q3, q4⟩
    exact ⟨_, _, F', rfl, hst.1, q1, q2, q3, q4, fun hz => by show _ = _; rw [hst.2.2.2.1 hz]⟩
  obtain ⟨ya, yl, yc⟩ := y
  simp only [WV.val] at *
  clear hok hcc hS hy
  have HL := Lib.hid hL; clear hL
  have HCHK := Lib.hid hchk; clear hchk
  have HBU := Lib.hid hbuild; clear hbuild
  have H := Lib.hid h; clear h
  have HWW := Lib.hid hWW; clear hWW
  have hn0 : ((G.nodes.length : Int) == 0) = false := beqN (by omega)
  go_enter Try.func15, Try.ntmps15
  go_upto_region 1 with fail
  refine wp_named fun W0 hW0 => ?_
  have hc0 : Ch [] w W0 := by rw [hW0]; exact ((Ch.refl _ _).alloc _).alloc _
  have hb0 : blk W0 w.heap.size [.slice ya yl.length yc] := by rw [hW0]; exact (blk.new' _ _ (by simp)).alloc _
  have hb1 : blk W0 (w.heap.size + 1) [.int .u32 i] := by rw [hW0]; exact blk.new' _ _ (by simp)
  have d0 := hb0.cell (i := 0) rfl
  have l0 := hb0.lt
  have l1 := hb1.lt
  clear hW0
  have hLL := HL.out W0 hc0
  have HC0 := Lib.hid hc0; clear hc0
  have HB0 := Lib.hid hb0; clear hb0
  have HB1 := Lib.hid hb1; clear hb1
  go_wp2_with fail
  refine hLL.mono ?_
  rintro e w' ⟨rfl, rfl⟩
  clear hLL
  go_wp2_with fail
  refine calls_named fun W1 hW1 => ?_
  have hc1 : Ch [] W0 W1 := by rw [hW1]; exact ((Ch.refl _ _).alloc _).alloc _
  have e1 : blk W1 W0.heap.size [.slice ya yl.length yc] := by rw [hW1]; exact (blk.new' _ _ (by simp)).alloc _
  have e2 : blk W1 (W0.heap.size + 1) [.slice (some ⟨W0.heap.size, 0, none⟩) 1 1] := by rw [hW1]; exact blk.new' _ _ (by simp)
  clear hW1
  refine (HCHK.out W1 _ _ (HC0.out.trans hc1 (by simp)) e2 e1).mono ?_
  rintro e w2 ⟨rfl, hc2⟩
  have hc02 := hc1.trans hc2 (by simp)
  have HC2 := Lib.hid (HC0.out.trans hc02 (by simp))
  have HB0' := Lib.hid (HB0.out.ch hc02 (by simp))
  have HB1' := Lib.hid (HB1.out.ch hc02 (by simp))
  clear e1 e2 hc1 hc2 hc02 d0 HB0 HB1 HCHK
  by_cases hz : cc = 0
  · have hBB := HBU.out hz w2 HC2.out HB0'.out HB1'.out
    have hww := HWW.out
    rw [if_neg (by simp [hz])] at hww
    subst hz
    have HBB := Lib.hid hBB; clear hBB HBU
    have HW2 := Lib.hid hww; clear hww
    go_wp2_with fail
    refine HBB.out.mono ?_
    rintro e w3 ⟨v, rfl, hmb⟩
    obtain ⟨rfl, hgt⟩ := MB.gto HC2.out hmb
    rw [HW2.out] at hgt ⊢
    have HGT := Lib.hid hgt; clear hgt hmb
    go_wp2_with fail
    go_ret2
    exact ⟨by rw [← HW2.out, rres_e]; rfl, HGT.out⟩
  · have hq : ((cc : Int) != 0) = true := by simp; omega
    have hww := HWW.out
    rw [if_pos hz] at hww
    have HW2 := Lib.hid hww; clear hww
    have HZ := Lib.hid hz; clear hz
    go_wp2_with fail
    go_ret2
    exact ⟨by rw [← HW2.out]; rfl, by rw [← HW2.out]; exact GTo.same H.out HC2.out⟩
end
section
variable {w0 : Base} {w : World} {g : Nat} {G : Gra} {F : List Nat} {L : List (Value × List Int)}
end
end Go.Proofs.Ytndcgfnlgcincaa
namespace Go.Aig
def shL (side : Nat) (x : List Int) (n : Nat) : List Int := (List.range x.length).map fun i => if side = 1 then (if n ≤ i then x.getD (i - n) 0 else 0) else x.getD (i + n) 0
@[simp] theorem shL_len (side : Nat) (x : List Int) (n : Nat) : (shL side x n).length = x.length := by simp [shL]
end Go.Aig
namespace Go.Proofs.Ytndcgfnlgcincaa
open Go.RowKit Go.Mem Go.Aig
section
variable {w : World}
end
end Go.Proofs.Ytndcgfnlgcincaa
namespace Go.Aig
def turnL (x : List Int) (n : Int) : List Int := let k := (n.emod x.length).toNat; x.drop k ++ x.take k
end Go.Aig
namespace Go.Proofs.Ytndcgfnlgcincaa
open Go.RowKit Go.Mem Go.Aig
section
variable {w : World}
end
end Go.Proofs.Ytndcgfnlgcincaa
namespace Go.Proofs.Ytndcgfnlgcincaa
open Go.RowKit Go.Mem Go.Aig
attribute [local go_sem] Oper.semAt_some
section
variable {w A A' : World} {g c : Nat} {G Gp : Gra} {F F' : List Nat} {v : Value} {l : List Nat}
end
end Go.Proofs.Ytndcgfnlgcincaa
namespace Go.Aig
def shN (side : Nat) (x : List Nat) (n : Nat) : List Nat := (List.range x.length).map fun i => if side = 1 then (if n ≤ i then x.getD (i - n) 0 else 0) else x.getD (i + n) 0
@[simp] theorem shN_len (side : Nat) (x : List Nat) (n : Nat) : (shN side x n).length = x.length := by simp [shN]
end Go.Aig
namespace Go.Aig
@[simp] theorem turnL_len (x : List Int) (n : Int) : (turnL x n).length = x.length := by
  unfold turnL
  dsimp only
  by_cases hx : 0 < x.length
  · have h1 := Int.emod_nonneg n (show (x.length : Int) ≠ 0 by omega)
    have h2 := Int.emod_lt_of_pos n (show (0 : Int) < x.length by omega)
    have e : n.emod x.length = n % x.length := rfl
    rw [List.length_append, List.length_drop, List.length_take]
    omega
  · have : x = [] := List.eq_nil_of_length_eq_zero (by omega)
    subst this
    simp
/-! ### shifts by constants -/
instance : DecidableEq Gra := fun a b => decidable_of_iff (a.most = b.most ∧ a.nodes = b.nodes) ⟨fun h => by cases a; cases b; simp_all, fun h => by subst h; exact ⟨rfl, rfl⟩⟩
end Go.Aig
namespace Go.Aig
def wldL (N W : Nat) : List (List Int) := (List.range N).map fun i => natInts (rIn (i * W) W)
end Go.Aig
namespace Go.Proofs.Ytndcgfnlgcincaa
open Go.RowKit Go.Mem Go.Aig
theorem Hold.wa2 {w0 : Base} {w : World} {g : Nat} {G : Gra} {F : List Nat} {L : List (Value × List Int)} (h : Hold w0 w g G F L) {b n : Nat} {cs : List Value} {ws : List WV} (hb : (b, cs) ∈ w0.K) (hc : ∀ (i : Nat) (x : WV), ws[i]? = some x → cs[i]? = some x.val) (hL : ∀ x ∈ ws, (x.val, x.l) ∈ L) (hn : ws.length = n) : WA w F (some ⟨b, 0, none⟩) n ws := by
  obtain ⟨k1, k2, k3⟩ := h.kept _ hb
  exact ⟨hn, fun _ => ⟨b, rfl, hn, fun i x hx => k1.cell (hc i x hx), fun x hx => h.at (hL x hx) rfl, k3, k1.lt⟩⟩
theorem wld_len {N W : Nat} {ws : List WV} (h : ws.map WV.l = (List.range N).map fun i => natInts (rIn (i * W) W)) : ws.length = N := by
  have := congrArg List.length h
  simpa using this
end Go.Proofs.Ytndcgfnlgcincaa
namespace Go.Aig
end Go.Aig
namespace Go.Proofs.Ytndcgfnlgcincaa
open Go.RowKit Go.Mem Go.Aig
section
variable {w : World}
end
theorem rnd_val (k : Nat) : Value.int .i64 ((k : Int) + 1) = .int .i64 ((k + 1 : Nat) : Int) := by rw [Int.natCast_add]; rfl
theorem rnd_meas {N k : Nat} (h : k < N) : N - (intOf (.int .i64 ((k : Int) + 1))).toNat < N - (intOf (.int .i64 (k : Int))).toNat := by simp [intOf]; omega
theorem begin26_T (w : World) (n wd v N W V T gd : Nat) (hN : n % 4 + 1 = N) (hW : wd % 3 + 1 = W) (hV : v % 3 + 1 = V) (hT : N * W + W + V + 1 = T) (hgd : 2 * T = gd) :
    Calls Try.prog 5 #[.int .u8 n, .int .u8 wd, .int .u8 v] w fun e w' => ∃ (g : Nat) (F : List Nat) (ab ac : Nat) (cs : List Value) (ws : List WV) (wa : Option Addr) (wc : Nat) (ia : Option Addr) (ic : Nat), e = .returned (.tuple #[.agg #[.pointer (some ⟨g, 0, none⟩), .slice (some ⟨ab, 0, none⟩) N ac, .slice wa W wc, .slice ia V ic, .int .i64 (gd : Int)], .bool true]) ∧
      Hold ((w : Base).add ab cs) w' g (gIn 8000 T) F ((ws.map fun x => (WV.val x, WV.l x)) ++ [(.slice wa W wc, natInts (rIn (N * W) W)), (.slice ia V ic, natInts (rIn (N * W + W) V))]) ∧ (∀ (i : Nat) (x : WV), ws[i]? = some x → cs[i]? = some x.val) ∧ ws.map WV.l = wldL N W := by
  refine (begin26_is w n wd v N W V hN hW hV).mono ?_
  rintro e w' ⟨g, F, ab, ac, cs, ws, wa, wc, ia, ic, he, ho, hcs, hws⟩
  refine ⟨g, F, ab, ac, cs, ws, wa, wc, ia, ic, ?_, ?_, hcs, hws⟩
  · rw [he, ← hgd, ← hT]
  · rw [← hT]; exact ho
end Go.Proofs.Ytndcgfnlgcincaa
namespace Go.Aig
abbrev SlV := Option Addr × Nat × Nat
def slv (p : SlV) : Value := .slice p.1 p.2.1 p.2.2
def slvs (l : List SlV) : List Value := l.map slv
end Go.Aig
namespace Go.Proofs.Ytndcgfnlgcincaa
open Go.RowKit Go.Mem Go.Aig
theorem eqSliceNil_CLlst (w : World) (a : Option Addr) (n c : Nat) : (binOp .eql 24 (.slice a n c) (.slice none 0 0)).run Try.prog w = .ok (.bool a.isNone) w := by
  have h : Try.prog.underlying 24 = some (.slice 25) := Try.underlying24
  simp only [binOp]
  simp [run_equal_slice_nil w _ _ a n c h]
section
attribute [local go_sem] eqSliceNil_CLlst
variable {w : World}
set_option maxRecDepth 100000 in
set_option maxHeartbeats 1000000 in
theorem CLlst_is {a : Option Addr} {l : List SlV} (n c : Nat) (hn : l.length = n) (h : Sv w a (slvs l)) (hm : n ≤ 1000000) : Calls Try.prog 7 #[.slice a n c] w fun e w' => ∃ v, e = .returned v ∧ row w' 25 1 v n (slvs l) ∧ (∀ q ∈ v.ownBlock.toList, w.heap.size ≤ q) ∧ Ch [] w w' := by
  subst hn
  cases a with
  | none =>
    have hl : l = [] := by
      cases l with
      | nil => rfl
      | cons y l =>
        obtain ⟨b, o, e, _⟩ := h.cells 0 (slv y) rfl
        cases e
    subst hl
    clear h
    go_enter Try.func7, Try.ntmps7
    go_wp2_with fail
    go_ret
    exact ⟨_, rfl, ⟨rfl, .inl ⟨rfl, rfl⟩⟩, by simp, Ch.refl _ _⟩
  | some p =>
    have hO : row (w.alloc (.cells #[] 25)) 25 1 (.slice (some ⟨w.heap.size, 0, none⟩) 0 0) 0 [] := ⟨rfl, .inr ⟨w.heap.size, 0, #[], rfl, by omega, heap_alloc_new w _, by omega, by unfold maxLen; omega, rfl, rfl⟩⟩
    have hN : ∀ j u, (slvs l)[j]? = some u → (w.alloc (.cells #[] 25)).cell? (p.add j) = some u := fun j u hu => by
      obtain ⟨b, o, e, hc⟩ := h.cells j u hu
      cases e
      rw [Addr.add_lit]
      exact (((Ch.refl [] w).alloc _).cell (cell_lt hc) (by simp)).trans hc
    have h1 : ∀ u ∈ slvs l, u.oneCell' = true := fun u hu => by
      obtain ⟨r, _, rfl⟩ := List.mem_map.1 hu
      rfl
    have HO := Lib.hid hO; clear hO
    have HN := Lib.hid hN; clear hN h
    have H1 := Lib.hid h1; clear h1
    go_enter Try.func7, Try.ntmps7
    go_wp2_with (at_builtin; go_loud (refine wpList_append_row slRows rfl _ _ rfl (v := .slice (some ⟨w.heap.size, 0, none⟩) 0 0) (n := 0) (xs := []) rfl HO.out (ad := p) (m := l.length) (c := c) (news := slvs l) rfl (by simp [slvs]) HN.out H1.out (by omega) (by omega) ?_; intro v' w5 hown hC2 hf2; have HOWN := Lib.hid hown; clear hown; have HC2 := Lib.hid hC2; clear hC2; have HFR := Lib.hid hf2; clear hf2))
    go_ret
    have hown := HOWN.out
    rw [Nat.zero_add, List.nil_append] at hown
    refine ⟨_, rfl, hown, fun k hk => ?_, (((Ch.refl [] w).alloc (.cells #[] 25))).trans HC2.out (by simp)⟩
    rcases HFR.out k (by simpa using hk) with e | e
    · simp at e; omega
    · simp at e; omega
end
section
variable {w : World}
end
section
variable {w : World}
end
end Go.Proofs.Ytndcgfnlgcincaa
namespace Go.Mem
open Go.RowKit
def blkT (w : World) (b : Nat) (T : TypeId) (xs : List Value) : Prop := w.heap[b]? = some (.cells xs.toArray T (0, 0))
theorem blkT.blk {w : World} {b : Nat} {T : TypeId} {xs : List Value} (h : blkT w b T xs) : Mem.blk w b xs := ⟨T, h⟩
theorem blkT.ch {F : List Nat} {a w : World} {b : Nat} {T : TypeId} {xs : List Value} (h : blkT a b T xs) (hc : Ch F a w) (hn : b ∉ F) : blkT w b T xs := (hc.block b h.blk.lt hn).trans h
theorem blkT.new (w : World) (xs : List Value) (T : TypeId) : blkT (w.alloc (.cells xs.toArray T)) w.heap.size T xs := heap_alloc_new w _
theorem blkT.row {w : World} {b n : Nat} {T : TypeId} {xs : List Value} (h : blkT w b T xs) (hn : xs.length = n) (hm : n ≤ 1000000) : Mem.row w T 1 (.slice (some ⟨b, 0, none⟩) n n) n xs :=
  ⟨by omega, .inr ⟨b, n, xs.toArray, rfl, Nat.zero_le _, h, Nat.le_refl _, by unfold maxLen; omega, by simp [hn], by simp [← hn]⟩⟩
theorem blkT.copy {P : Program} {w : World} {b : Nat} {T : TypeId} {xs : List Value} (h : blkT w b T xs) (dT sT ty elem : TypeId) (o dLen dCap : Nat) (a : Addr) (sLen sCap : Nat) (cs : List Value)
    (hu : P.underlying dT = some (.slice elem)) (hs : (P.info? elem).map (·.size) = some 1) (hn : cs.length = Nat.min sLen dLen) (hsrc : ∀ j v, cs[j]? = some v → w.cell? (a.add j) = some v) (hfit : o + cs.length ≤ xs.length) (h1 : ∀ v ∈ cs, v.oneCell' = true) :
    ∃ w', (Builtin.copy_ #[dT, sT] ty #[.slice (some ⟨b, o, none⟩) dLen dCap, .slice (some a) sLen sCap]).run P w = .ok (goInt cs.length) w' ∧ blkT w' b T (xs.take o ++ cs ++ xs.drop (o + cs.length)) ∧ Ch [b] w w' := by
  have hr := run_copy_row P w dT sT ty elem b o dLen dCap a sLen sCap xs.toArray T cs hu hs h hn hsrc (by simpa using hfit) h1
  refine ⟨_, hr, ?_, ⟨rfl, rfl, rfl, by simp [World.setRow], fun k hk hn => ?_⟩⟩
  · exact setRow_heap w b xs.toArray _ T _ h
  · simp only [World.setRow, Array.getElem?_modify]
    rw [if_neg (fun e => hn (by simp [e]))]
end Go.Mem
namespace Go.Proofs.Ytndcgfnlgcincaa
open Go.RowKit Go.Mem Go.Aig
theorem rep_fill (v : Int) (n k m : Nat) : (intCells (List.replicate k v ++ List.replicate (n - k) 0)).take k ++ intCells (List.replicate m v) ++ (intCells (List.replicate k v ++ List.replicate (n - k) 0)).drop (k + (intCells (List.replicate m v)).length) = intCells (List.replicate (k + m) v ++ List.replicate (n - (k + m)) 0) := by
  have hm : (intCells (List.replicate m v)).length = m := by simp [intCells]
  rw [hm]
  unfold intCells
  rw [← List.map_take, ← List.map_drop, ← List.map_append, ← List.map_append]
  congr 1
  rw [List.take_append_of_le_length (by simp), List.take_of_length_le (by simp), List.drop_append, List.drop_of_length_le (by simp), List.nil_append, List.length_replicate, List.drop_replicate, List.replicate_append_replicate, show k + m - k = m by omega, show n - k - m = n - (k + m) by omega]
theorem refUnder : Try.prog.underlying 25 = some (.slice 26) := Try.underlying25
theorem refSize : (Try.prog.info? 26).map (·.size) = some 1 := by kernel_rfl
section
variable {w : World}
set_option maxRecDepth 100000 in
set_option maxHeartbeats 1000000 in
theorem Mul64_is (n : Nat) (hn : n ≤ 1000) : Calls Try.prog 54 #[.int .u64 1, .int .u64 n] w fun e w' => e = .returned (.tuple #[.int .u64 0, .int .u64 n]) ∧ w = w' := by
  have e1 : bits .and .u64 (n : Int) 4294967295 = (n : Int) := by
    have h := bits_and_u64_nat n 4294967295 (by omega) (by omega)
    rw [show (4294967295 : Nat) = 2 ^ 32 - 1 from rfl, Nat.and_two_pow_sub_one_eq_mod, Nat.mod_eq_of_lt (by omega)] at h
    exact h
  have e2 : bits .and .u64 (1 : Int) 4294967295 = 1 := by kernel_rfl
  have e3 : bits .and .u64 (0 : Int) 4294967295 = 0 := by kernel_rfl
  have e4 : (n : Int) / 4294967296 = 0 := by omega
  go_enter Try.func54, Try.ntmps54
  go_wp2_with fail
  go_ret2
  exact ⟨rfl, rfl⟩
set_option maxRecDepth 100000 in
set_option maxHeartbeats 1000000 in
theorem BMul_is (n : Nat) (hn : n ≤ 1000) : Calls Try.prog 25 #[.int .u64 1, .int .u64 n] w fun e w' => e = .returned (.tuple #[.int .u64 0, .int .u64 n]) ∧ w = w' := by
  go_enter Try.func25, Try.ntmps25
  go_wp2_with fail
  refine (Mul64_is n hn).mono ?_
  rintro e w' ⟨rfl, rfl⟩
  go_wp2_with fail
  go_ret2
  exact ⟨rfl, rfl⟩
set_option maxRecDepth 100000 in
set_option maxHeartbeats 4000000 in
theorem Repref_is {b c : Nat} {v : Int} (n : Nat) (hn : n ≤ 1000) (hb : w.cell? ⟨b, 0, none⟩ = some (.int .i64 v)) :
    Calls Try.prog 9 #[.slice (some ⟨b, 0, none⟩) 1 c, .int .i64 n] w fun e w' => e = .returned (.slice (some ⟨w.heap.size, 0, none⟩) n n) ∧ blkT w' w.heap.size 26 (intCells (List.replicate n v)) ∧ Ch [] w w' := by
  have hmk := run_make_refs w n (by omega)
  have hbl := cell_lt hb
  have HBW := Lib.hid hb; clear hb
  go_enter Try.func9, Try.ntmps9
  go_wp2_with fail
  refine (BMul_is n hn).mono ?_
  rintro e w' ⟨rfl, rfl⟩
  go_upto_region 7 with fail
  refine wp_named fun W1 hW1 => ?_
  have hb1 : blkT W1 w.heap.size 26 (intCells (List.replicate n 0)) := by
    rw [hW1]
    have := blkT.new w (intCells (List.replicate n 0)) 26
    simpa [refsCells, intCells] using this
  have hc1 : Ch [] w W1 := by rw [hW1]; exact (Ch.refl _ _).alloc _
  clear hW1 hmk
  obtain ⟨m0, hm0⟩ : ∃ m0, m0 = min 1 n := ⟨_, rfl⟩
  have hcp := fun ty => hb1.copy (P := Try.prog) 25 25 ty 26 0 n n ⟨b, 0, none⟩ 1 c (intCells (List.replicate m0 v)) refUnder refSize (by simp [intCells, hm0]; try rfl) (fun j u hu => by
    have hj : j < m0 := by have := (List.getElem?_eq_some_iff.1 hu).1; simpa [intCells] using this
    have h0 : j = 0 := by omega
    subst h0
    have hu' : u = .int .i64 v := by
      unfold intCells at hu
      rw [List.getElem?_map, List.getElem?_replicate, if_pos hj] at hu
      exact (Option.some.inj hu).symm
    rw [hu', Addr.add_lit]
    exact (hc1.cell (p := ⟨b, 0, none⟩) hbl (by simp)).trans HBW.out) (by simp [intCells, hm0]; omega) (fun u hu => by
    obtain ⟨z, _, rfl⟩ := List.mem_map.1 hu
    rfl)
  have hlen0 : (intCells (List.replicate m0 v)).length = m0 := by simp [intCells]
  have hm1 : n = 0 ∨ 1 ≤ m0 := by omega
  have hm2 : m0 ≤ n := by omega
  clear hm0
  have hB0 : w.heap.size < W1.heap.size := hb1.blk.lt
  obtain ⟨W2, hr2, hb2, hc2⟩ := hcp 3
  rw [hlen0] at hr2
  have HC1 := Lib.hid hc1; clear hc1 hb1 hcp
  go_wp2_with fail
  have hf := rep_fill v n 0 m0
  have hb3 : blkT W2 w.heap.size 26 (intCells (List.replicate m0 v ++ List.replicate (n - m0) 0)) := by
    have h5 := hf
    simp only [List.replicate_zero, List.nil_append, Nat.sub_zero, Nat.zero_add] at h5
    rw [← h5, ← hlen0]
    simpa [hlen0] using hb2
  have hc3 : Ch [] w W2 := HC1.out.trans hc2 (by simp)
  have HB3 := Lib.hid hb3; clear hb3 hb2
  have HC3 := Lib.hid hc3; clear hc3 hc2 HC1 hf hr2
  go_loopw [8] (fun i wr => ∃ k : Nat, k ≤ n ∧ (n = 0 ∨ 1 ≤ k) ∧ i = .int .i64 k ∧ blkT wr w.heap.size 26 (intCells (List.replicate k v ++ List.replicate (n - k) 0)) ∧ Ch [] w wr) (fun i _ => n - (intOf i).toNat)
  case atStart => exact ⟨m0, hm2, hm1, rfl, HB3.out, HC3.out⟩
  case round =>
    clear HB3 HC3
    obtain ⟨k, hk, hk1, rfl, hbk, hc⟩ := hrel
    by_cases hlt : k < n
    · obtain ⟨m, hm⟩ : ∃ m, m = min k (n - k) := ⟨_, rfl⟩
      have hlb := hbk.blk.lt
      have hcp := fun (WZ : World) (hz : blkT WZ w.heap.size 26 (intCells (List.replicate k v ++ List.replicate (n - k) 0))) ty => hz.copy (P := Try.prog) 25 25 ty 26 k (n - k) (n - k) ⟨w.heap.size, 0, none⟩ k n (intCells (List.replicate m v)) refUnder refSize (by simp [intCells, hm]; try rfl) (fun j u hu => by
        have hj : j < m := by have := (List.getElem?_eq_some_iff.1 hu).1; simpa [intCells] using this
        have hu' : u = .int .i64 v := by
          unfold intCells at hu
          rw [List.getElem?_map, List.getElem?_replicate, if_pos hj] at hu
          exact (Option.some.inj hu).symm
        rw [hu', Addr.add_lit, Nat.zero_add]
        refine hz.blk.cell ?_
        unfold intCells
        rw [List.getElem?_map, List.getElem?_append_left (by simp; omega), List.getElem?_replicate, if_pos (by omega)]
        rfl) (by simp [intCells]; omega) (fun u hu => by
        obtain ⟨z, _, rfl⟩ := List.mem_map.1 hu
        rfl)
      have hlen1 : (intCells (List.replicate m v)).length = m := by simp [intCells]
      have hf := rep_fill v n k m
      rw [hlen1] at hf
      simp only [hlen1, hf] at hcp
      have HCP := Lib.hid hcp; clear hcp hf
      have HBK := Lib.hid hbk; clear hbk
      have HC := Lib.hid hc; clear hc
      have hm1 : 1 ≤ m := by omega
      have hm2 : k + m ≤ n := by omega
      clear hm hlen1
      go_wp2_with fail
      refine Ord.St.door (fun _ => True) [.fl, .fl, .fl, .fl, .fl, .fl, .fl, .ef, .fl, .fl] [0, 0, 0, 6, 0, 0, 48, 126, 255, 511] [0, 1, 2, 3, 4, 5, 6, 7, 8, 9] mixed (by kernel_rfl) rfl ?_
      obtain ⟨Wc, hWc⟩ : ∃ Wc, Wc = wr.drew := ⟨_, rfl⟩
      rw [← hWc]
      have hcc : Ch [] wr Wc := by rw [hWc]; exact (Ch.refl _ _).drew
      have HBC := Lib.hid (HBK.out.ch hcc (by simp))
      have HCC := Lib.hid (HC.out.trans hcc (by simp))
      clear hWc hcc
      refine Ord.St.fl2 (T' := ?_) 0 [1, 2, 3, 4, 5, 6, 7, 8, 9] _ _ rfl (by kernel_rfl) rfl rfl rfl rfl (fun K w' hk => ?_) ?_
      rotate_left
      · go_step; exact hk
      refine Ord.St.fl2 (T' := ?_) 1 [2, 3, 4, 5, 6, 7, 8, 9] _ _ rfl (by kernel_rfl) rfl rfl rfl rfl (fun K w' hk => ?_) ?_
      rotate_left
      · go_step; exact hk
      refine Ord.St.fl2 (T' := ?_) 2 [3, 4, 5, 6, 7, 8, 9] _ _ rfl (by kernel_rfl) rfl rfl rfl rfl (fun K w' hk => ?_) ?_
      rotate_left
      · go_step; exact hk
      refine Ord.St.fl2 (T' := ?_) 3 [4, 5, 6, 7, 8, 9] _ _ rfl (by kernel_rfl) rfl rfl rfl rfl (fun K w' hk => ?_) ?_
      rotate_left
      · go_step; exact hk
      refine Ord.St.fl2 (T' := ?_) 4 [5, 6, 7, 8, 9] _ _ rfl (by kernel_rfl) rfl rfl rfl rfl (fun K w' hk => ?_) ?_
      rotate_left
      · go_step; exact hk
      refine Ord.St.fl2 (T' := ?_) 5 [6, 7, 8, 9] _ _ rfl (by kernel_rfl) rfl rfl rfl rfl (fun K w' hk => ?_) ?_
      rotate_left
      · go_step; exact hk
      refine Ord.St.fl2 (T' := ?_) 6 [7, 8, 9] _ _ rfl (by kernel_rfl) rfl rfl rfl rfl (fun K w' hk => ?_) ?_
      rotate_left
      · go_step; exact hk
      refine Ord.St.ef 7 [8, 9] _ rfl (by kernel_rfl) (fun K hK => ?_)
      obtain ⟨W2, hr2, hb2, hc2⟩ := HCP.out Wc HBC.out 3
      go_wp2_with fail
      have HB2 := Lib.hid hb2; clear hb2
      have HC2 := Lib.hid hc2; clear hc2 hr2
      refine ⟨rfl, hK _ _ ?_⟩; clear hK K
      refine Ord.St.fl2 (T' := ?_) 8 [9] _ _ rfl (by kernel_rfl) rfl rfl rfl rfl (fun K w' hk => ?_) ?_
      rotate_left
      · go_step; exact hk
      refine Ord.St.fl2 (T' := ?_) 9 [] _ _ rfl (by kernel_rfl) rfl rfl rfl rfl (fun K w' hk => ?_) ?_
      rotate_left
      · go_step; exact hk
      refine Ord.St.nil ?_
      go_wp2_with fail
      go_roundw
      case rel => exact ⟨k + m, by omega, by omega, by go_num, HB2.out, HCC.out.trans HC2.out (by simp)⟩
      case measure => simp [intOf]; omega
    · have hkn : k = n := by omega
      subst hkn
      have HBK := Lib.hid hbk; clear hbk
      have HC := Lib.hid hc; clear hc
      go_wp2_with fail
      go_ret
      refine ⟨rfl, ?_, HC.out⟩
      have := HBK.out
      rwa [Nat.sub_self, List.replicate_zero, List.append_nil] at this
end
end Go.Proofs.Ytndcgfnlgcincaa
namespace Go.Proofs.Ytndcgfnlgcincaa
open Go.RowKit Go.Mem Go.Aig
section
variable {w0 : Base} {w : World} {g : Nat} {G : Gra} {F : List Nat} {L : List (Value × List Int)}
theorem Hold.toV {w' : World} {G' : Gra} {v : Value} {l : List Nat} (h : Hold w0 w g G F L) (ht : GVo w g G' [] F v l w') : ∃ F', Hold w0 w' g G' F' L := by
  obtain ⟨F', h1, h2, h3, h4, _⟩ := ht
  exact h.to ⟨F', h1, h2, h3, h4⟩
theorem mReadE_h [Nonempty Unit] (h : Hold w0 w g G F L) {la : Option Addr} {nl lc : Nat} {Ls : List WV} (hA : WA w F la nl Ls) {y : WV} (hy : WVin w F y) (hyc : y.l.length ≤ y.c) {G' : Gra} {l : List Nat} {e : Nat} (hR : readG G (Ls.map WV.l) y.l = (G', l, e)) :
    Calls Try.prog 10 #[.pointer (some ⟨g, 0, none⟩), .slice la nl lc, y.val] w fun en w' => ∃ v F', en = .returned (.tuple #[v, .int .i64 e]) ∧ Hold w0 w' g G' F' L := by
  have hcc := mRead_is h.own.gin (lc := lc) hA hy hyc
  rw [hR] at hcc
  refine hcc.mono ?_
  rintro en w' ⟨v, rfl, ht⟩
  obtain ⟨F', ho⟩ := h.toV ht
  exact ⟨v, F', rfl, ho⟩
theorem mPickE_h [Nonempty Unit] (h : Hold w0 w g G F L) {la : Option Addr} {nl lc : Nat} {Ls : List WV} (hA : WA w F la nl Ls) {y : WV} (hy : WVin w F y) (hyc : y.l.length ≤ y.c) {G' : Gra} {l : List Nat} {e : Nat} (hR : pickG G y.l (Ls.map WV.l) = (G', l, e)) :
    Calls Try.prog 13 #[.pointer (some ⟨g, 0, none⟩), y.val, .slice la nl lc] w fun en w' => ∃ v F', en = .returned (.tuple #[v, .int .i64 e]) ∧ Hold w0 w' g G' F' L := by
  have hcc := mPick_is h.own.gin (lc := lc) hA hy hyc
  rw [hR] at hcc
  refine hcc.mono ?_
  rintro en w' ⟨v, rfl, ht⟩
  obtain ⟨F', ho⟩ := h.toV ht
  exact ⟨v, F', rfl, ho⟩
theorem mChooseE_h [Nonempty Unit] (h : Hold w0 w g G F L) (c : Int) (hc : I64' c) {x y : WV} (hx : WVin w F x) (hy : WVin w F y) {G' : Gra} {l : List Nat} {e : Nat} (hR : chooseG G c x.l y.l = (G', l, e)) :
    Calls Try.prog 14 #[.pointer (some ⟨g, 0, none⟩), .int .i64 c, x.val, y.val] w fun en w' => ∃ v F', en = .returned (.tuple #[v, .int .i64 e]) ∧ Hold w0 w' g G' F' L := by
  have hcc := mChoose_is h.own.gin c hc hx hy
  rw [hR] at hcc
  refine hcc.mono ?_
  rintro en w' ⟨v, rfl, ht⟩
  obtain ⟨F', ho⟩ := h.toV ht
  exact ⟨v, F', rfl, ho⟩
theorem mWriteE_h [Nonempty Unit] (h : Hold w0 w g G F L) {la : Option Addr} {nl lc : Nat} {Ls : List WV} (hA : WA w F la nl Ls) (c : Int) (hc : I64' c) {x y : WV} (hy : WVin w F y) (hyc : y.l.length ≤ y.c) (hx : WVin w F x) {G' : Gra} {ls : List (List Nat)} {e : Nat} (hR : writeG G (Ls.map WV.l) c y.l x.l = (G', ls, e)) :
    Calls Try.prog 11 #[.pointer (some ⟨g, 0, none⟩), .slice la nl lc, .int .i64 c, y.val, x.val] w fun en w' => ∃ v F', en = .returned (.tuple #[v, .int .i64 e]) ∧ Hold w0 w' g G' F' L := by
  have hcc := mWrite_is h.own.gin (lc := lc) hA c hc hy hyc hx
  rw [hR] at hcc
  refine hcc.mono ?_
  rintro en w' ⟨v, rfl, F', k1, k2, k3, k4, _⟩
  obtain ⟨F2, ho⟩ := h.to ⟨F', k1, k2, k3, k4⟩
  exact ⟨v, F2, rfl, ho⟩
theorem mIsE_h [Nonempty Unit] (h : Hold w0 w g G F L) {y : WV} (hy : WVin w F y) (i : Nat) (hi : i < 4294967296) {G' : Gra} {r e : Nat} (hR : isG G y.l i = (G', r, e)) :
    Calls Try.prog 15 #[.pointer (some ⟨g, 0, none⟩), y.val, .int .u32 i] w fun en w' => ∃ F', en = .returned (.tuple #[.int .i64 r, .int .i64 e]) ∧ Hold w0 w' g G' F' L :=
  Calls.ref h (mIs_is h.own.gin hy i hi) hR
theorem WVin.nil (w : World) (F : List Nat) : WVin w F ⟨none, [], 0⟩ := ⟨⟨⟨by simp, by simp⟩, by simp, by simp⟩, by simp [ablk]⟩
theorem WA.nil (w : World) (F : List Nat) : WA w F none 0 [] := ⟨rfl, fun h => by omega⟩
end
end Go.Proofs.Ytndcgfnlgcincaa
namespace Go.Aig
theorem chk26_width {G : Gra} {idx refs : List Int} {ws : List (List Int)} (h : ∃ x ∈ ws, bad26 (ws.headD []).length x = true) : chk26 G idx refs ws = 260 := by
  unfold chk26
  rw [if_pos (List.any_eq_true.2 h)]
theorem chk26_ref {G : Gra} {idx refs : List Int} {ws : List (List Int)} {width : Nat} (hw : ∀ x ∈ ws, x.length = width) (h1 : 1 ≤ width) (h16 : width ≤ 16) (hr : ∃ r ∈ refs ++ ws.flatten ++ idx, right G.nodes r = false) : chk26 G idx refs ws = 200 := by
  unfold chk26
  rw [if_neg, if_pos]
  · unfold badIn
    obtain ⟨r, hr, e⟩ := hr
    exact List.any_eq_true.2 ⟨r, hr, by simp [e]⟩
  · rw [Bool.not_eq_true, List.any_eq_false]
    intro x hx
    have hh : (ws.headD []).length = width := by
      cases ws with
      | nil => cases hx
      | cons a ws => exact hw a (List.mem_cons_self ..)
    rw [hh]
    unfold bad26 right26
    rw [hw x hx]
    simp
    omega
theorem bad_width {n0 : Nat} {x : List Int} (h : x.length ≠ n0) : bad26 n0 x = true := by
  unfold bad26
  simp only [Bool.or_eq_true, bne_iff_ne, ne_eq]
  exact .inr (by omega)
theorem bad_empty (n0 : Nat) : bad26 n0 [] = true := by
  unfold bad26 right26
  simp
structure Refused (G : Gra) (gd : Int) (idx word : List Int) (A : List (List Int)) (e : Nat) : Prop where
  rd : readG G A idx = (G, [], e)
  wr : writeG G A gd idx word = (G, [], e)
  eq : equalG G A A = (G, 0, e)
  pk : pickG G (List.replicate (A.length - 1) gd) A = (G, [], e)
theorem refused_nil (G : Gra) (gd : Int) (idx word : List Int) : Refused G gd idx word [] 261 := ⟨rfl, rfl, rfl, rfl⟩
theorem refused_of {G : Gra} {gd : Int} {idx word : List Int} {A : List (List Int)} {e : Nat} (he : e ≠ 0) (h1 : 1 ≤ A.length) (h256 : A.length ≤ 256) (hi : right26 idx.length = true) (hr : chk26 G idx [] A = e) (hw : chk26 G idx [gd] (A ++ [word]) = e) (hq : chk26 G [] [] (A ++ A) = e) (hp : chk26 G [] (List.replicate (A.length - 1) gd) A = e) : Refused G gd idx word A e := by
  refine ⟨?_, ?_, ?_, ?_⟩
  · unfold readG
    rw [array_of h1 h256, hi, if_neg (by simp), if_neg (by simp), hr, if_pos he]
  · unfold writeG
    rw [array_of h1 h256, hi, if_neg (by simp), if_neg (by simp), hw, if_pos he]
  · unfold equalG
    rw [array_of h1 h256, if_neg (by simp), if_neg (by simp), hq, if_pos he]
  · unfold pickG
    rw [array_of h1 h256, if_neg (by simp), if_neg (by simp; omega), hp, if_pos he]
theorem right_no {ns : List Nd} {r : Int} (h : r < 0 ∨ 2 * (ns.length : Int) ≤ r) : right ns r = false := by unfold right; simp; omega
theorem wldL_mem {N W : Nat} {x : List Int} (h : x ∈ wldL N W) : x.length = W := by
  unfold wldL at h
  obtain ⟨i, _, rfl⟩ := List.mem_map.1 h
  simp [rIn]
theorem wldL_len' (N W : Nat) : (wldL N W).length = N := by simp [wldL]
theorem head_app {A B : List (List Int)} (h : 1 ≤ A.length) : (A ++ B).headD [] = A.headD [] := by
  cases A with
  | nil => simp at h
  | cons a A => rfl
section
variable {N W V T : Nat} (hN : 1 ≤ N ∧ N ≤ 4) (hW : 1 ≤ W ∧ W ≤ 3) (hV : 1 ≤ V ∧ V ≤ 3)
include hN hW
omit hW in
theorem wld_head : ((wldL N W).headD []).length = W := by
  have h := wldL_len' N W
  rcases hL : wldL N W with _ | ⟨a, L⟩
  · rw [hL] at h; simp at h; omega
  · exact wldL_mem (N := N) (by rw [hL]; exact List.mem_cons_self ..)
include hV
omit hW in
theorem refused_wide (gd : Int) {u : List Int} (hu : u.length = W + 1) {word : List Int} {G : Gra} : Refused G gd (natInts (rIn (N * W + W) V)) word (wldL N W ++ [u]) 260 := by
  have hl := wldL_len' N W
  have hh := wld_head (W := W) hN
  have hb : ∀ B : List (List Int), ∃ x ∈ wldL N W ++ [u] ++ B, bad26 ((wldL N W ++ [u] ++ B).headD []).length x = true := fun B => ⟨u, by simp, by
    rw [head_app (by simp), head_app (by omega), hh]
    exact bad_width (by omega)⟩
  have hb0 := hb []
  rw [List.append_nil] at hb0
  refine refused_of (by decide) (by simp) (by simp [hl]; omega) (by simp only [natInts_len, rIn, List.length_map, List.length_range]; exact right_of26 hV.1 (by omega)) (chk26_width hb0) (chk26_width (hb _)) (chk26_width (hb _)) (chk26_width hb0)
theorem refused_spoilt (gd bad : Int) {G : Gra} (hbad : 2 * (G.nodes.length : Int) ≤ bad) : Refused G gd (natInts (rIn (N * W + W) V)) (natInts (rIn (N * W) W)) (wldL N W ++ [List.replicate W bad]) 200 := by
  have hl := wldL_len' N W
  have hw : ∀ B : List (List Int), (∀ x ∈ B, x.length = W) → ∀ x ∈ wldL N W ++ [List.replicate W bad] ++ B, x.length = W := fun B hB x hx => by
    simp only [List.mem_append, List.mem_singleton] at hx
    rcases hx with (hx | rfl) | hx
    · exact wldL_mem hx
    · simp
    · exact hB x hx
  have hr : ∀ (idx refs : List Int) (B : List (List Int)), ∃ r ∈ refs ++ (wldL N W ++ [List.replicate W bad] ++ B).flatten ++ idx, right G.nodes r = false := fun idx refs B => ⟨bad, by
    simp only [List.mem_append, List.mem_flatten]
    exact .inl (.inr ⟨List.replicate W bad, .inl (.inr (by simp)), List.mem_replicate.2 ⟨by omega, rfl⟩⟩), right_no (.inr hbad)⟩
  have hw0 := hw [] (by simp)
  have hr0 := fun idx refs => hr idx refs []
  rw [List.append_nil] at hw0
  simp only [List.append_nil] at hr0
  refine refused_of (by decide) (by simp) (by simp [hl]; omega) (by simp only [natInts_len, rIn, List.length_map, List.length_range]; exact right_of26 hV.1 (by omega)) (chk26_ref hw0 hW.1 (by omega) (hr0 _ _)) (chk26_ref (hw _ (by simp [rIn])) hW.1 (by omega) (hr _ _ _)) (chk26_ref (hw _ hw0) hW.1 (by omega) (hr _ _ _)) (chk26_ref hw0 hW.1 (by omega) (hr0 _ _))
omit hV
omit hN in
theorem choose_bad {G : Gra} {bad : Int} (hbad : 2 * (G.nodes.length : Int) ≤ bad) : chooseG G bad (natInts (rIn (N * W) W)) (natInts (rIn (N * W) W)) = (G, [], 200) := by
  unfold chooseG
  rw [chk26_ref (width := W) (by simp [rIn]) hW.1 (by omega) ⟨bad, by simp, right_no (.inr hbad)⟩, if_pos (by decide)]
omit hN hW in
theorem choose_nil {G : Gra} {c : Int} : chooseG G c (natInts (rIn (N * W) W)) [] = (G, [], 260) := by
  unfold chooseG
  rw [chk26_width ⟨[], by simp, bad_empty _⟩, if_pos (by decide)]
omit hN hW
theorem is_nil {G : Gra} {i : Nat} : isG G [] i = (G, 0, 260) := by
  unfold isG
  rw [chk26_width ⟨[], by simp, bad_empty _⟩, if_pos (by decide)]
include hN hW
omit hW in
theorem read_nil {G : Gra} : readG G (wldL N W) [] = (G, [], 260) := by
  unfold readG
  rw [wldL_len', array_of hN.1 (by omega), if_neg (by simp), if_pos (by rfl)]
theorem read_less {G : Gra} {less : Int} (hl : less < 0) : readG G (wldL N W) [less] = (G, [], 200) := by
  unfold readG
  rw [wldL_len', array_of hN.1 (by omega), if_neg (by simp), if_neg (by show ¬ right26 (1 : Int) = false; decide), chk26_ref (width := W) (fun x hx => wldL_mem hx) hW.1 (by omega) ⟨less, by simp, right_no (.inl hl)⟩, if_pos (by decide)]
include hV
theorem write_bad {G : Gra} {bad : Int} (hbad : 2 * (G.nodes.length : Int) ≤ bad) : writeG G (wldL N W) bad (natInts (rIn (N * W + W) V)) (natInts (rIn (N * W) W)) = (G, [], 200) := by
  unfold writeG
  rw [wldL_len', array_of hN.1 (by omega), if_neg (by simp), if_neg (by simp only [natInts_len, rIn, List.length_map, List.length_range]; rw [right_of26 hV.1 (by omega)]; simp), chk26_ref (width := W) (fun x hx => by
    rcases List.mem_append.1 hx with hx | hx
    · exact wldL_mem hx
    · rw [List.mem_singleton.1 hx]; simp [rIn]) hW.1 (by omega) ⟨bad, by simp, right_no (.inr hbad)⟩, if_pos (by decide)]
omit hV
omit hW in
theorem pick_many {G : Gra} (gd : Int) : pickG G (List.replicate N gd) (wldL N W) = (G, [], 261) := by
  unfold pickG
  rw [wldL_len', array_of hN.1 (by omega), if_neg (by simp), if_pos (by simp)]
omit hW in
theorem equal_long {G : Gra} {u : List Int} : equalG G (wldL N W) (wldL N W ++ [u]) = (G, 0, 261) := by
  unfold equalG
  rw [wldL_len', array_of hN.1 (by omega), if_neg (by simp), if_pos (by simp [wldL_len'])]
end
theorem fit_less {k : Int} (h : k ≤ 0) : fitG k 3 = (0, 261) := by
  unfold fitG array26
  rw [if_pos (by simp; omega)]
theorem fit_more {k : Int} (h : 17 ≤ k) : fitG 3 k = (0, 260) := by
  unfold fitG array26 right26
  rw [if_neg (by simp), if_pos (by simp; omega)]
end Go.Aig
namespace Go.Proofs.Ytndcgfnlgcincaa
open Go.RowKit Go.Mem Go.Aig
def sb6 : Gra := ⟨4000, [⟨1, 0, 0, 0⟩, ⟨2, 0, 0, 0⟩, ⟨2, 0, 0, 0⟩, ⟨2, 0, 0, 0⟩, ⟨2, 0, 0, 0⟩, ⟨2, 0, 0, 0⟩, ⟨2, 0, 0, 0⟩]⟩
def sb7 : Gra := ⟨4000, [⟨1, 0, 0, 0⟩, ⟨2, 0, 0, 0⟩, ⟨2, 0, 0, 0⟩, ⟨2, 0, 0, 0⟩, ⟨2, 0, 0, 0⟩, ⟨2, 0, 0, 0⟩, ⟨2, 0, 0, 0⟩, ⟨3, 11, 13, 1⟩, ⟨3, 10, 13, 1⟩, ⟨3, 11, 12, 1⟩]⟩
section
theorem Pair1_is (w : World) : Calls Try.prog 19 #[.int .u8 1] w fun e w' => ∃ g F xa xc ya yc, e = .returned (.tuple #[.pointer (some ⟨g, 0, none⟩), .slice xa 2 xc, .slice ya 2 yc]) ∧ Hold w w' g (gIn 4000 4) F [(.slice ya 2 yc, natInts [6, 8]), (.slice xa 2 xc, natInts [2, 4])] := Pair_is w 1 (by decide)
theorem mFit31_is [Nonempty Unit] (w : World) : Calls Try.prog 16 #[.int .i64 3, .int .i64 1] w fun e w' => e = .returned (.tuple #[.int .i64 2, .int .i64 0]) ∧ w = w' := by
  have h := mFit_is (w := w) 3 1
  rw [show fitG 3 1 = (2, 0) by decide] at h
  exact h
set_option maxRecDepth 100000 in
set_option maxHeartbeats 4000000 in
theorem awake26_is [Nonempty Unit] (w : World) : Calls Try.prog 4 #[] w fun e w' => e = .returned (.bool true) ∧ Ch [] w w' := by
  have hN := Pair1_is w
  have HN := Lib.hid hN; clear hN
  go_enter Try.func4, Try.ntmps4
  go_wp2_with fail
  refine HN.out.mono ?_
  rintro e w1 ⟨g, F1, a1, c1, a2, c2, rfl, ho⟩
  have HO := Lib.hid ho; clear ho HN
  go_wp2_with fail
  refine (sInput_h HO.out 2 (G' := sb6) (l := [10, 12]) (e := 0) (k := 2) (by kernel_rfl) rfl (by decide) (by decide)).mono ?_
  rintro e w2 ⟨a3, c3, F2, rfl, ho⟩
  clear HO; have HO := Lib.hid ho; clear ho
  go_wp2_with fail
  refine (mChoose_h HO.out 1 (by decide) (xa := a1) (xc := c1) (n := 2) (xl := natInts [2, 4]) (by simp) rfl (ya := a2) (yc := c2) (m := 2) (yl := natInts [6, 8]) (by simp) rfl (G' := sb6) (l := [2, 4]) (e := 0) (k := 2) (by kernel_rfl) rfl (by decide) (by decide)).mono ?_
  rintro e w3 ⟨a4, c4, F3, rfl, ho⟩
  clear HO; have HO := Lib.hid ho; clear ho
  go_wp2_with fail
  refine (mChoose_h HO.out 0 (by decide) (xa := a1) (xc := c1) (n := 2) (xl := natInts [2, 4]) (by simp) rfl (ya := a2) (yc := c2) (m := 2) (yl := natInts [6, 8]) (by simp) rfl (G' := sb6) (l := [6, 8]) (e := 0) (k := 2) (by kernel_rfl) rfl (by decide) (by decide)).mono ?_
  rintro e w4 ⟨a5, c5, F4, rfl, ho⟩
  clear HO; have HO := Lib.hid ho; clear ho
  go_wp2_with fail
  refine (sConst_h HO.out 1 (by decide) 2 rfl).mono ?_
  rintro e w5 ⟨a6, c6, rfl, ho⟩
  clear HO; have HO := Lib.hid ho; clear ho
  go_wp2_with fail
  refine (sConst_h HO.out 3 (by decide) 2 rfl).mono ?_
  rintro e w6 ⟨a7, c7, rfl, ho⟩
  clear HO; have HO := Lib.hid ho; clear ho
  go_wp2_with fail
  refine calls_named fun WA hWA => ?_
  have hlb := alw_blk (xs := [.slice a1 2 c1, .slice a2 2 c2, .slice a3 2 c3]) hWA
  have ho := HO.out.keepN (alw_ch hWA) hlb
  clear hWA hlb HO
  generalize w6.heap.size = lb at *
  have HO := Lib.hid ho; clear ho
  refine (mRead_h HO.out (lc := 3) (HO.out.wa (b := lb) (Ls := [⟨a1, natInts [2, 4], c1⟩, ⟨a2, natInts [6, 8], c2⟩, ⟨a3, natInts [10, 12], c3⟩]) (by exact List.mem_cons_self ..) (by intro x hx; simp only [List.mem_cons, List.not_mem_nil, or_false] at hx; rcases hx with rfl | rfl | rfl <;> simp [WV.val]) (n := 3) rfl) (ya := a6) (yc := c6) (m := 2) (yl := natInts (constL 1 2)) (by simp) rfl (G' := sb6) (l := [6, 8]) (e := 0) (k := 2) (by kernel_rfl) rfl (by decide) (by decide)).mono ?_
  rintro e w7 ⟨a8, c8, F5, rfl, ho⟩
  clear HO; have HO := Lib.hid ho; clear ho
  go_wp2_with fail
  refine (mRead_h HO.out (lc := 3) (HO.out.wa (b := lb) (Ls := [⟨a1, natInts [2, 4], c1⟩, ⟨a2, natInts [6, 8], c2⟩, ⟨a3, natInts [10, 12], c3⟩]) (by exact List.mem_cons_self ..) (by intro x hx; simp only [List.mem_cons, List.not_mem_nil, or_false] at hx; rcases hx with rfl | rfl | rfl <;> simp [WV.val]) (n := 3) rfl) (ya := a7) (yc := c7) (m := 2) (yl := natInts (constL 3 2)) (by simp) rfl (G' := sb6) (l := [0, 0]) (e := 0) (k := 2) (by kernel_rfl) rfl (by decide) (by decide)).mono ?_
  rintro e w8 ⟨a9, c9, F6, rfl, ho⟩
  clear HO; have HO := Lib.hid ho; clear ho
  go_wp2_with fail
  refine (mFit31_is _).mono ?_
  rintro e w' ⟨rfl, rfl⟩
  go_wp2_with fail
  refine (Eqref_h HO.out (xa := a4) (xc := c4) (n := 2) (xl := natInts [2, 4]) (by simp) rfl (ya := a1) (yc := c1) (m := 2) (yl := natInts [2, 4]) (by simp) rfl (q := true) (by decide)).mono ?_
  rintro e w9 ⟨rfl, ho⟩
  clear HO; have HO := Lib.hid ho; clear ho
  go_wp2_with fail
  refine (Eqref_h HO.out (xa := a5) (xc := c5) (n := 2) (xl := natInts [6, 8]) (by simp) rfl (ya := a2) (yc := c2) (m := 2) (yl := natInts [6, 8]) (by simp) rfl (q := true) (by decide)).mono ?_
  rintro e w10 ⟨rfl, ho⟩
  clear HO; have HO := Lib.hid ho; clear ho
  go_wp2_with fail
  refine (Eqref_h HO.out (xa := a8) (xc := c8) (n := 2) (xl := natInts [6, 8]) (by simp) rfl (ya := a2) (yc := c2) (m := 2) (yl := natInts [6, 8]) (by simp) rfl (q := true) (by decide)).mono ?_
  rintro e w11 ⟨rfl, ho⟩
  clear HO; have HO := Lib.hid ho; clear ho
  go_wp2_with fail
  have ho := HO.out.same ((Ch.refl [] w11).alloc (.cells #[.int .i64 0, .int .i64 0] 26))
  clear HO; have HO := Lib.hid ho; clear ho
  refine (Eqref_c HO.out (xa := a9) (xc := c9) (n := 2) (xl := natInts [0, 0]) (by simp) rfl (b := w11.heap.size) (m := 2) (ys := [0, 0]) (blk.new' _ _ rfl) rfl (by decide) (q := true) (by decide)).mono ?_
  rintro e w12 ⟨rfl, ho⟩
  clear HO; have HO := Lib.hid ho; clear ho
  go_wp2_with fail
  refine (mWrite_h HO.out (lc := 3) (HO.out.wa (b := lb) (Ls := [⟨a1, natInts [2, 4], c1⟩, ⟨a2, natInts [6, 8], c2⟩, ⟨a3, natInts [10, 12], c3⟩]) (by exact List.mem_cons_self ..) (by intro x hx; simp only [List.mem_cons, List.not_mem_nil, or_false] at hx; rcases hx with rfl | rfl | rfl <;> simp [WV.val]) (n := 3) rfl) 0 (by decide) (ya := a3) (yc := c3) (m := 2) (yl := natInts [10, 12]) (by simp) rfl (xa := a1) (xc := c1) (n := 2) (xl := natInts [2, 4]) (by simp) rfl (G' := sb7) (ls := [[2, 4], [6, 8], [10, 12]]) (e := 0) (k := 3) (by kernel_rfl) rfl (by decide) (by decide)).mono ?_
  rintro e w13 ⟨b10, c10, F7, cs, ws, rfl, ho, hcs, hws⟩
  clear HO; have HO := Lib.hid ho; clear ho
  have HCS := Lib.hid hcs; clear hcs
  have HWS := Lib.hid hws; clear hws
  go_wp2_with fail
  refine calls_named fun WB hWB => ?_
  have hlb := alw_blk (xs := [.slice a3 2 c3]) hWB
  have ho := HO.out.keepN (alw_ch hWB) hlb
  clear hWB hlb HO
  generalize w13.heap.size = lc at *
  have HO := Lib.hid ho; clear ho
  refine (mPick_h HO.out (lc := 1) (HO.out.wa (b := lc) (Ls := [⟨a3, natInts [10, 12], c3⟩]) (by exact List.mem_cons_self ..) (by intro x hx; simp only [List.mem_cons, List.not_mem_nil, or_false] at hx; rcases hx with rfl <;> simp [WV.val]) (n := 1) rfl) (y := ⟨none, [], 0⟩) ⟨⟨⟨by simp, by simp⟩, by simp, by simp⟩, by simp [ablk]⟩ (by simp) (G' := sb7) (l := [10, 12]) (e := 0) (k := 2) (by kernel_rfl) rfl (by decide) (by decide)).mono ?_
  rintro e w14 ⟨a11, c11, F8, rfl, ho⟩
  clear HO; have HO := Lib.hid ho; clear ho
  go_wp2_with fail
  refine (mEqual_h HO.out (HO.out.wa (b := lb) (Ls := [⟨a1, natInts [2, 4], c1⟩, ⟨a2, natInts [6, 8], c2⟩, ⟨a3, natInts [10, 12], c3⟩]) (by exact List.mem_cons_of_mem _ (List.mem_cons_of_mem _ (List.mem_cons_self ..))) (by intro x hx; simp only [List.mem_cons, List.not_mem_nil, or_false] at hx; rcases hx with rfl | rfl | rfl <;> simp [WV.val]) (n := 3) rfl) (HO.out.wa (b := lb) (Ls := [⟨a1, natInts [2, 4], c1⟩, ⟨a2, natInts [6, 8], c2⟩, ⟨a3, natInts [10, 12], c3⟩]) (by exact List.mem_cons_of_mem _ (List.mem_cons_of_mem _ (List.mem_cons_self ..))) (by intro x hx; simp only [List.mem_cons, List.not_mem_nil, or_false] at hx; rcases hx with rfl | rfl | rfl <;> simp [WV.val]) (n := 3) rfl) (by decide) (G' := sb7) (r := 1) (e := 0) (by kernel_rfl)).mono ?_
  rintro e w15 ⟨F9, rfl, ho⟩
  clear HO; have HO := Lib.hid ho; clear ho
  go_wp2_with fail
  have hA := HO.out.ar (b := b10) (cs := cs) (ws := ws) (by exact List.mem_cons_of_mem _ (List.mem_cons_self ..)) HCS.out (fun x hx => by simp only [List.mem_cons, List.mem_append]; exact .inr (.inl (List.mem_map.2 ⟨x, hx, rfl⟩)))
  have hcl : ∀ (i : Nat) (x : WV), ([⟨a1, natInts [2, 4], c1⟩, ⟨a2, natInts [6, 8], c2⟩, ⟨a3, natInts [10, 12], c3⟩] : List WV)[i]? = some x → ([.slice a1 2 c1, .slice a2 2 c2, .slice a3 2 c3] : List Value)[i]? = some x.val := fun i x hx => by
    rcases i with _ | _ | _ | i
    · cases hx; rfl
    · cases hx; rfl
    · cases hx; rfl
    · simp at hx
  have hB := HO.out.ar (b := lb) (ws := [⟨a1, natInts [2, 4], c1⟩, ⟨a2, natInts [6, 8], c2⟩, ⟨a3, natInts [10, 12], c3⟩]) (cs := [.slice a1 2 c1, .slice a2 2 c2, .slice a3 2 c3]) (by exact List.mem_cons_of_mem _ (List.mem_cons_of_mem _ (List.mem_cons_self ..))) hcl (by intro x hx; simp only [List.mem_cons, List.not_mem_nil, or_false] at hx; rcases hx with rfl | rfl | rfl <;> simp [WV.val])
  clear hcl
  have hwl : ws.length = 3 := by have := congrArg List.length HWS.out; simpa using this
  refine (EFlst_yes (As := ws) 3 c10 3 (by decide) hA hB hwl rfl (fun i x y hx hy => ?_)).mono ?_
  · have h1 : (ws.map WV.l)[i]? = some x.l := by rw [List.getElem?_map, hx]; rfl
    rw [HWS.out] at h1
    rcases i with _ | _ | _ | i
    · cases hy; exact (Option.some.inj h1).symm
    · cases hy; exact (Option.some.inj h1).symm
    · cases hy; exact (Option.some.inj h1).symm
    · simp at hy
  rintro e wz ⟨rfl, hcz⟩
  have ho := HO.out.same hcz
  clear HO hcz hA hB hwl; have HO := Lib.hid ho; clear ho
  go_wp2_with fail
  refine (Eqref_h HO.out (xa := a11) (xc := c11) (n := 2) (xl := natInts [10, 12]) (by simp) rfl (ya := a3) (yc := c3) (m := 2) (yl := natInts [10, 12]) (by simp) rfl (q := true) (by decide)).mono ?_
  rintro e w16 ⟨rfl, ho⟩
  clear HO; have HO := Lib.hid ho; clear ho
  go_wp2_with fail
  go_ret
  exact ⟨rfl, HO.out.own.ch⟩
end
end Go.Proofs.Ytndcgfnlgcincaa
