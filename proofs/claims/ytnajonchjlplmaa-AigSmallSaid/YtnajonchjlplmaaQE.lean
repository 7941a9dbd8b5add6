/-
  Walks over build. Conditions: room for the inputs and for what is made; a slice of small ones.
  The words of the nodes, plainly, and their bits. No program in sight. Conditions: none beyond the hypotheses.
  Walks over values. Conditions: a graph in memory with at most four inputs.
-/
import Derived.Test.YtnajonchjlplmaaQD
namespace Go.Proofs.Ytnajonchjlplmaa
open Go.RowKit Go.Mem Go.Aig
section
variable {w : World}
set_option maxRecDepth 100000 in
set_option maxHeartbeats 8000000 in
theorem build_is (most : Nat) (h5 : 5 ≤ most) (hm : most ≤ 65536) {a : Option Addr} {n cap : Nat} {l : List Sm} (hS : SmS w a n cap l) (hroom : 5 + 3 * (l.take 60).length ≤ most) :
    Calls Try.prog 12 #[.slice a n cap, .int .i64 most] w fun e w' => ∃ g F ra rc wa wc, e = .returned (.tuple #[.agg #[.pointer (some ⟨g, 0, none⟩), .slice ra (builtB most (l.take 60)).refs.length rc, .slice wa (builtB most (l.take 60)).want.length wc], .bool true]) ∧ BM w w' g F (.slice ra (builtB most (l.take 60)).refs.length rc) (.slice wa (builtB most (l.take 60)).want.length wc) (builtB most (l.take 60)) := by
  have hN := New_c (w0 := w.alloc (.cells #[.pointer none, .slice none 0 0, .slice none 0 0] 28)) (w := w.alloc (.cells #[.pointer none, .slice none 0 0, .slice none 0 0] 28)) most (by omega) hm (Ch.refl _ _)
  have HN := Lib.hid hN; clear hN
  have hb0 := bd0_ok h5 hm
  have HB0 := Lib.hid hb0; clear hb0
  have HS := Lib.hid hS; clear hS
  generalize hB : builtB most (l.take 60) = B
  have HB := Lib.hid hB; clear hB
  go_enter Try.func12, Try.ntmps12
  go_wp2_with fail
  refine HN.out.mono ?_
  rintro e w1 ⟨g, F1, rfl, ho⟩
  have HO := Lib.hid ho; clear ho
  go_wp2_with fail
  have hBB := BB.new HO.out
  clear HO
  refine (words_is _).mono ?_
  rintro e w' ⟨rfl, rfl⟩
  replace hBB := hBB.keep (.cells (u64s inWords).toArray 35)
  have hwd : blk ((((w1.alloc (.cells #[.int .i64 0] 33)).alloc (.cells #[.int .u64 0] 35)).alloc (.cells #[.pointer (some ⟨g, 0, none⟩), .slice (some ⟨w1.heap.size, 0, none⟩) 1 1, .slice (some ⟨w1.heap.size + 1, 0, none⟩) 1 1] 28)).alloc (.cells (u64s inWords).toArray 35)) _ (u64s inWords) := blk.new' _ _ rfl
  generalize hwb : (((w1.alloc (.cells #[.int .i64 0] 33)).alloc (.cells #[.int .u64 0] 35)).alloc (.cells #[.pointer (some ⟨g, 0, none⟩), .slice (some ⟨w1.heap.size, 0, none⟩) 1 1, .slice (some ⟨w1.heap.size + 1, 0, none⟩) 1 1] 28)).heap.size = wb at *
  have hwb3 : w1.heap.size + 1 + 1 + 1 = wb := by simpa using hwb
  clear hwb
  generalize htb : w1.heap.size + 1 + 1 = tb at *
  clear htb
  generalize (((w1.alloc (.cells #[.int .i64 0] 33)).alloc (.cells #[.int .u64 0] 35)).alloc (.cells #[.pointer (some ⟨g, 0, none⟩), .slice (some ⟨w1.heap.size, 0, none⟩) 1 1, .slice (some ⟨w1.heap.size + 1, 0, none⟩) 1 1] 28)).alloc (.cells (u64s inWords).toArray 35) = W0 at *
  have HBB := Lib.hid hBB; clear hBB
  have HWD := Lib.hid hwd; clear hwd
  go_wp2_with fail
  go_loopw [36] (fun i wr => ∃ k : Nat, k ≤ 4 ∧ i = .int .i64 k ∧ blk wr wb (u64s inWords) ∧ ∃ F ra rc wa wc, BB [wb] (w.alloc (.cells #[.pointer none, .slice none 0 0, .slice none 0 0] 28)) wr tb g F (.slice ra (bd0 most k).refs.length rc) (.slice wa (bd0 most k).want.length wc) (bd0 most k)) (fun i _ => 4 - (intOf i).toNat)
  case atStart => exact ⟨0, by omega, rfl, HWD.out, _, _, _, _, _, HBB.out⟩
  case round =>
    obtain ⟨k, hk, rfl, hwd, F, ra, rc, wa, wc, hBB⟩ := hrel
    by_cases hlt : k < 4
    · obtain ⟨x, hx⟩ : ∃ x, inWords[k]? = some x := ⟨_, List.getElem?_eq_getElem (by simpa [inWords] using hlt)⟩
      have hw4 : inWords.take k ++ [x] = inWords.take (k + 1) := by rw [List.take_add_one, hx]; rfl
      have hwc := hwd.cell (i := k) (v := .int .u64 x) (by simp [u64s, hx])
      have hnext : (⟨⟨most, inNodes (k + 1)⟩, (bd0 most k).refs ++ [2 * (k + 1)], (bd0 most k).want ++ [x]⟩ : Bd) = bd0 most (k + 1) := by
        unfold bd0
        rw [List.range_succ, ← hw4]; simp
      clear hw4 hx
      have hI := Input_g hBB.bm.own.gin
      rw [show (bd0 most k).G = ⟨most, inNodes k⟩ from rfl, doInput_in (show k + 1 < most by omega)] at hI
      have hl1 : (bd0 most k).refs.length ≤ 100 := by simp [bd0]; omega
      have hl2 : (bd0 most k).want.length ≤ 100 := by simp [bd0, inWords]; omega
      have HNX := Lib.hid hnext; clear hnext
      have HI := Lib.hid hI; clear hI
      have HBB := Lib.hid hBB; clear hBB
      have HWD := Lib.hid hwd; clear hwd
      generalize bd0 most k = b at *
      go_wp2_with fail
      refine HI.out.mono ?_
      rintro e w2 ⟨rfl, hto⟩
      obtain ⟨F2, hBB, hkk⟩ := HBB.out.to hto
      have hwd := HWD.out.of_heap (hkk wb (by simp))
      clear hto hkk HBB HWD HI
      go_wp2_with fail
      refine Ord.St.door (fun w' => w'.cell? ⟨tb, 1, none⟩ = some (.slice ra b.refs.length rc) ∧ w'.cell? ⟨tb, 2, none⟩ = some (.slice wa b.want.length wc)) [.fl, .ho, .fl, .ef, .ef, .fl, .ho, .fl, .ef, .ef, .fl, .ef, .fl, .ef] [0, 1, 0, 4, 15, 0, 32, 0, 128, 511, 127, 2047, 4095, 8191] [0, 1, 2, 3, 4, 5, 6, 7, 8, 9, 10, 11, 12, 13] mixed (by kernel_rfl) rfl ?_
      obtain ⟨Wc, hWc⟩ : ∃ Wc, Wc = w2.drew := ⟨_, rfl⟩
      rw [← hWc]
      have hc0 : Ch [] w2 Wc := by rw [hWc]; exact (Ch.refl _ _).drew
      clear hWc
      replace hBB := hBB.same hc0
      have hbk := hBB.bk
      try replace hwd := hwd.ch hc0 (by simp)
      clear hc0
      refine Ord.St.fl2 (T' := ?_) 0 [1, 2, 3, 4, 5, 6, 7, 8, 9, 10, 11, 12, 13] _ _ rfl (by kernel_rfl) rfl rfl rfl rfl (fun K w' hk => ?_) ?_
      rotate_left
      · go_step; exact hk
      refine Ord.St.ho2 (T' := ?_) 1 [2, 3, 4, 5, 6, 7, 8, 9, 10, 11, 12, 13] _ _ rfl (by kernel_rfl) rfl rfl rfl rfl ?_ (fun K w' hw' hk => ?_) ?_
      rotate_left
      · exact ⟨hbk.cell rfl, hbk.cell rfl⟩
      · obtain ⟨q1, q2⟩ := hw'; go_step; exact hk
      refine Ord.St.fl2 (T' := ?_) 2 [3, 4, 5, 6, 7, 8, 9, 10, 11, 12, 13] _ _ rfl (by kernel_rfl) rfl rfl rfl rfl (fun K w' hk => ?_) ?_
      rotate_left
      · go_step; exact hk
      refine Ord.St.fl2 (T' := ?_) 5 [3, 4, 6, 7, 8, 9, 10, 11, 12, 13] _ _ rfl (by kernel_rfl) rfl rfl rfl rfl (fun K w' hk => ?_) ?_
      rotate_left
      · go_step; exact hk
      refine Ord.St.ho2 (T' := ?_) 6 [3, 4, 7, 8, 9, 10, 11, 12, 13] _ _ rfl (by kernel_rfl) rfl rfl rfl rfl ?_ (fun K w' hw' hk => ?_) ?_
      rotate_left
      · exact ⟨hbk.cell rfl, hbk.cell rfl⟩
      · obtain ⟨q1, q2⟩ := hw'; go_step; exact hk
      refine Ord.St.fl2 (T' := ?_) 7 [3, 4, 8, 9, 10, 11, 12, 13] _ _ rfl (by kernel_rfl) rfl rfl rfl rfl (fun K w' hk => ?_) ?_
      rotate_left
      · go_step; exact hk
      refine Ord.St.two 3 8 [4, 8, 9, 10, 11, 12, 13] [3, 4, 9, 10, 11, 12, 13] _ _ (by kernel_rfl) rfl rfl (by kernel_rfl) (by kernel_rfl) (fun K hK => ?_) (fun K hK => ?_)
      · go_wp2_with fail
        refine ⟨rfl, hK _ _ ?_ ?_⟩
        · exact ⟨(hbk.alloc _).cell rfl, (hbk.alloc _).cell rfl⟩
        clear hK K
        refine Ord.St.alw ?_; intro Wn hWn
        have hcn := alw_ch hWn
        have hb3 := alw_blk (xs := [.int .i64 (2 * (k + 1) : Nat)]) hWn
        clear hWn
        try replace hb8 := hb8.ch hcn (by simp)
        try replace hwd := hwd.ch hcn (by simp)
        replace hbk := hbk.ch hcn (by simp)
        first | (replace hBB := hBB.same hcn) | (replace hc3 := hc3.trans hcn (by simp))
        clear hcn
        refine Ord.St.two 4 8 [8, 9, 10, 11, 12, 13] [4, 9, 10, 11, 12, 13] _ _ (by kernel_rfl) rfl rfl (by kernel_rfl) (by kernel_rfl) (fun K hK => ?_) (fun K hK => ?_)
        · go_wp2_with (at_builtin; go_loud (refine wpList_append_row slRefs rfl _ _ rfl (v := (.slice ra b.refs.length rc)) (n := b.refs.length) (xs := refsCells b.refs) rfl hBB.bm.rr (ad := ⟨_, 0, none⟩) (m := 1) (c := 1) (news := [.int .i64 (2 * (k + 1) : Nat)]) rfl rfl (news_blk hb3) (by simp [Value.oneCell']) (by omega) (by omega) ?_; intro v1 wA hr1 hcA hfA; obtain ⟨ba, rca, rfl⟩ := row.parts hr1 (by omega); have HR1 := Lib.hid hr1; clear hr1; have HFA := Lib.hid hfA; clear hfA))
          refine ⟨rfl, hK _ _ ?_ ?_⟩
          · exact ⟨(hbk.ch hcA (by simpa using hBB.tr)).cell rfl, (hbk.ch hcA (by simpa using hBB.tr)).cell rfl⟩
          clear hK K
          replace hbk := hbk.ch hcA (by simpa using hBB.tr)
          try replace hb8 := hb8.ch hcA (by simpa using hnB)
          have hc3 := Ch.refl [] wA
          refine Ord.St.fl2 (T' := ?_) 10 [8, 9, 11, 12, 13] _ _ rfl (by kernel_rfl) rfl rfl rfl rfl (fun K w' hk => ?_) ?_
          rotate_left
          · go_step; exact hk
          refine Ord.St.efC 8 [9, 11, 12, 13] _ rfl (by kernel_rfl) (fun K hK => ?_)
          go_wp2_with fail
          refine ⟨rfl, hK _ _ ?_ ?_⟩
          · exact ⟨(hbk.alloc _).cell rfl, (hbk.alloc _).cell rfl⟩
          clear hK K
          refine Ord.St.alw ?_; intro Wn hWn
          have hcn := alw_ch hWn
          have hb8 := alw_blk (xs := [.int .u64 (x : Nat)]) hWn
          clear hWn
          have hnB := hBB.freshR
          try replace hb3 := hb3.ch hcn (by simp)
          try replace hwd := hwd.ch hcn (by simp)
          replace hbk := hbk.ch hcn (by simp)
          first | (replace hBB := hBB.same hcn) | (replace hc3 := hc3.trans hcn (by simp))
          clear hcn
          refine Ord.St.ef 9 [11, 12, 13] _ rfl (by kernel_rfl) (fun K hK => ?_)
          go_wp2_with (at_builtin; go_loud (refine wpList_append_row slWords rfl _ _ rfl (v := (.slice wa b.want.length wc)) (n := b.want.length) (xs := u64s b.want) rfl ((hBB.bm.ww.ch hcA (by intro k hk hin; exact (hBB.bm.wo k hk).2.2 (by simpa using hin))).ch hc3 (by simp)) (ad := ⟨_, 0, none⟩) (m := 1) (c := 1) (news := [.int .u64 (x : Nat)]) rfl rfl (news_blk hb8) (by simp [Value.oneCell']) (by omega) (by omega) ?_; intro v2 wB hr2 hcB hfB; obtain ⟨bb, rcb, rfl⟩ := row.parts hr2 (by omega); have k1 := (hbk.ch hcB (by simpa using hBB.tw)).cell (i := 1) rfl; have k2 := (hbk.ch hcB (by simpa using hBB.tw)).cell (i := 2) rfl; have g1 := (hbk.ch hcB (by simpa using hBB.tw)).frozen (i := 1); have g2 := (hbk.ch hcB (by simpa using hBB.tw)).frozen (i := 2); have HR2 := Lib.hid hr2; clear hr2; have HFB := Lib.hid hfB; clear hfB))
          refine ⟨rfl, hK _ _ ?_⟩; clear hK K
          refine Ord.St.ef 11 [12, 13] _ rfl (by kernel_rfl) (fun K hK => ?_)
          go_wp2_with fail
          refine ⟨rfl, hK _ _ ?_⟩; clear hK K
          refine Ord.St.fl2 (T' := ?_) 12 [13] _ _ rfl (by kernel_rfl) rfl rfl rfl rfl (fun K w' hk => ?_) ?_
          rotate_left
          · go_step; exact hk
          refine Ord.St.ef 13 [] _ rfl (by kernel_rfl) (fun K hK => ?_)
          go_wp2_with fail
          refine ⟨rfl, hK _ _ ?_⟩; clear hK K
          refine Ord.St.nil ?_
          obtain ⟨hBB2, hkk⟩ := BB.app hBB (Ch.refl _ _) HR1.out hcA HFA.out hc3 HR2.out hcB HFB.out
          have hwd2 := hwd.of_heap (hkk wb (by simp))
          have e1 : b.refs.length + 1 = (bd0 most (k + 1)).refs.length := by rw [← HNX.out]; simp
          have e2 : b.want.length + 1 = (bd0 most (k + 1)).want.length := by rw [← HNX.out]; simp
          change BB _ _ _ _ _ _ _ _ (⟨⟨most, inNodes (k + 1)⟩, b.refs ++ [2 * (k + 1)], b.want ++ [x]⟩ : Bd) at hBB2
          rw [HNX.out] at hBB2
          have HE1 := Lib.hid e1; clear e1
          have HE2 := Lib.hid e2; clear e2
          have HBB2 := Lib.hid hBB2
          have HWD2 := Lib.hid hwd2
          clear hBB2 hkk hwd2 hBB hwd hb3 hb8 hbk k1 k2 g1 g2 hcA hcB hc3 HR1 HR2 HFA HFB
          go_wp2_with fail
          go_roundw
          case rel =>
            have hBB3 := HBB2.out
            rw [HE1.out, HE2.out] at hBB3
            have hwd3 := HWD2.out
            rw [HE1.out, HE2.out] at hwd3
            rw [HE1.out, HE2.out]
            exact ⟨k + 1, by omega, by go_num, hwd3, _, _, _, _, _, hBB3⟩
          case measure => simp [intOf]; omega
        · go_wp2_with fail
          refine ⟨rfl, hK _ _ ?_ ?_⟩
          · exact ⟨(hbk.alloc _).cell rfl, (hbk.alloc _).cell rfl⟩
          clear hK K
          refine Ord.St.alw ?_; intro Wn hWn
          have hcn := alw_ch hWn
          have hb8 := alw_blk (xs := [.int .u64 (x : Nat)]) hWn
          clear hWn
          have hnB := hBB.freshR
          try replace hb3 := hb3.ch hcn (by simp)
          try replace hwd := hwd.ch hcn (by simp)
          replace hbk := hbk.ch hcn (by simp)
          first | (replace hBB := hBB.same hcn) | (replace hc3 := hc3.trans hcn (by simp))
          clear hcn
          refine Ord.St.efC 4 [9, 10, 11, 12, 13] _ rfl (by kernel_rfl) (fun K hK => ?_)
          go_wp2_with (at_builtin; go_loud (refine wpList_append_row slRefs rfl _ _ rfl (v := (.slice ra b.refs.length rc)) (n := b.refs.length) (xs := refsCells b.refs) rfl hBB.bm.rr (ad := ⟨_, 0, none⟩) (m := 1) (c := 1) (news := [.int .i64 (2 * (k + 1) : Nat)]) rfl rfl (news_blk hb3) (by simp [Value.oneCell']) (by omega) (by omega) ?_; intro v1 wA hr1 hcA hfA; obtain ⟨ba, rca, rfl⟩ := row.parts hr1 (by omega); have HR1 := Lib.hid hr1; clear hr1; have HFA := Lib.hid hfA; clear hfA))
          refine ⟨rfl, hK _ _ ?_ ?_⟩
          · exact ⟨(hbk.ch hcA (by simpa using hBB.tr)).cell rfl, (hbk.ch hcA (by simpa using hBB.tr)).cell rfl⟩
          clear hK K
          replace hbk := hbk.ch hcA (by simpa using hBB.tr)
          try replace hb8 := hb8.ch hcA (by simpa using hnB)
          have hc3 := Ch.refl [] wA
          refine Ord.St.fl2 (T' := ?_) 10 [9, 11, 12, 13] _ _ rfl (by kernel_rfl) rfl rfl rfl rfl (fun K w' hk => ?_) ?_
          rotate_left
          · go_step; exact hk
          refine Ord.St.ef 9 [11, 12, 13] _ rfl (by kernel_rfl) (fun K hK => ?_)
          go_wp2_with (at_builtin; go_loud (refine wpList_append_row slWords rfl _ _ rfl (v := (.slice wa b.want.length wc)) (n := b.want.length) (xs := u64s b.want) rfl ((hBB.bm.ww.ch hcA (by intro k hk hin; exact (hBB.bm.wo k hk).2.2 (by simpa using hin))).ch hc3 (by simp)) (ad := ⟨_, 0, none⟩) (m := 1) (c := 1) (news := [.int .u64 (x : Nat)]) rfl rfl (news_blk hb8) (by simp [Value.oneCell']) (by omega) (by omega) ?_; intro v2 wB hr2 hcB hfB; obtain ⟨bb, rcb, rfl⟩ := row.parts hr2 (by omega); have k1 := (hbk.ch hcB (by simpa using hBB.tw)).cell (i := 1) rfl; have k2 := (hbk.ch hcB (by simpa using hBB.tw)).cell (i := 2) rfl; have g1 := (hbk.ch hcB (by simpa using hBB.tw)).frozen (i := 1); have g2 := (hbk.ch hcB (by simpa using hBB.tw)).frozen (i := 2); have HR2 := Lib.hid hr2; clear hr2; have HFB := Lib.hid hfB; clear hfB))
          refine ⟨rfl, hK _ _ ?_⟩; clear hK K
          refine Ord.St.ef 11 [12, 13] _ rfl (by kernel_rfl) (fun K hK => ?_)
          go_wp2_with fail
          refine ⟨rfl, hK _ _ ?_⟩; clear hK K
          refine Ord.St.fl2 (T' := ?_) 12 [13] _ _ rfl (by kernel_rfl) rfl rfl rfl rfl (fun K w' hk => ?_) ?_
          rotate_left
          · go_step; exact hk
          refine Ord.St.ef 13 [] _ rfl (by kernel_rfl) (fun K hK => ?_)
          go_wp2_with fail
          refine ⟨rfl, hK _ _ ?_⟩; clear hK K
          refine Ord.St.nil ?_
          obtain ⟨hBB2, hkk⟩ := BB.app hBB (Ch.refl _ _) HR1.out hcA HFA.out hc3 HR2.out hcB HFB.out
          have hwd2 := hwd.of_heap (hkk wb (by simp))
          have e1 : b.refs.length + 1 = (bd0 most (k + 1)).refs.length := by rw [← HNX.out]; simp
          have e2 : b.want.length + 1 = (bd0 most (k + 1)).want.length := by rw [← HNX.out]; simp
          change BB _ _ _ _ _ _ _ _ (⟨⟨most, inNodes (k + 1)⟩, b.refs ++ [2 * (k + 1)], b.want ++ [x]⟩ : Bd) at hBB2
          rw [HNX.out] at hBB2
          have HE1 := Lib.hid e1; clear e1
          have HE2 := Lib.hid e2; clear e2
          have HBB2 := Lib.hid hBB2
          have HWD2 := Lib.hid hwd2
          clear hBB2 hkk hwd2 hBB hwd hb3 hb8 hbk k1 k2 g1 g2 hcA hcB hc3 HR1 HR2 HFA HFB
          go_wp2_with fail
          go_roundw
          case rel =>
            have hBB3 := HBB2.out
            rw [HE1.out, HE2.out] at hBB3
            have hwd3 := HWD2.out
            rw [HE1.out, HE2.out] at hwd3
            rw [HE1.out, HE2.out]
            exact ⟨k + 1, by omega, by go_num, hwd3, _, _, _, _, _, hBB3⟩
          case measure => simp [intOf]; omega
      · go_wp2_with fail
        refine ⟨rfl, hK _ _ ?_ ?_⟩
        · exact ⟨(hbk.alloc _).cell rfl, (hbk.alloc _).cell rfl⟩
        clear hK K
        refine Ord.St.alw ?_; intro Wn hWn
        have hcn := alw_ch hWn
        have hb8 := alw_blk (xs := [.int .u64 (x : Nat)]) hWn
        clear hWn
        have hnB := hBB.freshR
        try replace hb3 := hb3.ch hcn (by simp)
        try replace hwd := hwd.ch hcn (by simp)
        replace hbk := hbk.ch hcn (by simp)
        first | (replace hBB := hBB.same hcn) | (replace hc3 := hc3.trans hcn (by simp))
        clear hcn
        refine Ord.St.efC 3 [4, 9, 10, 11, 12, 13] _ rfl (by kernel_rfl) (fun K hK => ?_)
        go_wp2_with fail
        refine ⟨rfl, hK _ _ ?_ ?_⟩
        · exact ⟨(hbk.alloc _).cell rfl, (hbk.alloc _).cell rfl⟩
        clear hK K
        refine Ord.St.alw ?_; intro Wn hWn
        have hcn := alw_ch hWn
        have hb3 := alw_blk (xs := [.int .i64 (2 * (k + 1) : Nat)]) hWn
        clear hWn
        try replace hb8 := hb8.ch hcn (by simp)
        try replace hwd := hwd.ch hcn (by simp)
        replace hbk := hbk.ch hcn (by simp)
        first | (replace hBB := hBB.same hcn) | (replace hc3 := hc3.trans hcn (by simp))
        clear hcn
        refine Ord.St.efC 4 [9, 10, 11, 12, 13] _ rfl (by kernel_rfl) (fun K hK => ?_)
        go_wp2_with (at_builtin; go_loud (refine wpList_append_row slRefs rfl _ _ rfl (v := (.slice ra b.refs.length rc)) (n := b.refs.length) (xs := refsCells b.refs) rfl hBB.bm.rr (ad := ⟨_, 0, none⟩) (m := 1) (c := 1) (news := [.int .i64 (2 * (k + 1) : Nat)]) rfl rfl (news_blk hb3) (by simp [Value.oneCell']) (by omega) (by omega) ?_; intro v1 wA hr1 hcA hfA; obtain ⟨ba, rca, rfl⟩ := row.parts hr1 (by omega); have HR1 := Lib.hid hr1; clear hr1; have HFA := Lib.hid hfA; clear hfA))
        refine ⟨rfl, hK _ _ ?_ ?_⟩
        · exact ⟨(hbk.ch hcA (by simpa using hBB.tr)).cell rfl, (hbk.ch hcA (by simpa using hBB.tr)).cell rfl⟩
        clear hK K
        replace hbk := hbk.ch hcA (by simpa using hBB.tr)
        try replace hb8 := hb8.ch hcA (by simpa using hnB)
        have hc3 := Ch.refl [] wA
        refine Ord.St.fl2 (T' := ?_) 10 [9, 11, 12, 13] _ _ rfl (by kernel_rfl) rfl rfl rfl rfl (fun K w' hk => ?_) ?_
        rotate_left
        · go_step; exact hk
        refine Ord.St.ef 9 [11, 12, 13] _ rfl (by kernel_rfl) (fun K hK => ?_)
        go_wp2_with (at_builtin; go_loud (refine wpList_append_row slWords rfl _ _ rfl (v := (.slice wa b.want.length wc)) (n := b.want.length) (xs := u64s b.want) rfl ((hBB.bm.ww.ch hcA (by intro k hk hin; exact (hBB.bm.wo k hk).2.2 (by simpa using hin))).ch hc3 (by simp)) (ad := ⟨_, 0, none⟩) (m := 1) (c := 1) (news := [.int .u64 (x : Nat)]) rfl rfl (news_blk hb8) (by simp [Value.oneCell']) (by omega) (by omega) ?_; intro v2 wB hr2 hcB hfB; obtain ⟨bb, rcb, rfl⟩ := row.parts hr2 (by omega); have k1 := (hbk.ch hcB (by simpa using hBB.tw)).cell (i := 1) rfl; have k2 := (hbk.ch hcB (by simpa using hBB.tw)).cell (i := 2) rfl; have g1 := (hbk.ch hcB (by simpa using hBB.tw)).frozen (i := 1); have g2 := (hbk.ch hcB (by simpa using hBB.tw)).frozen (i := 2); have HR2 := Lib.hid hr2; clear hr2; have HFB := Lib.hid hfB; clear hfB))
        refine ⟨rfl, hK _ _ ?_⟩; clear hK K
        refine Ord.St.ef 11 [12, 13] _ rfl (by kernel_rfl) (fun K hK => ?_)
        go_wp2_with fail
        refine ⟨rfl, hK _ _ ?_⟩; clear hK K
        refine Ord.St.fl2 (T' := ?_) 12 [13] _ _ rfl (by kernel_rfl) rfl rfl rfl rfl (fun K w' hk => ?_) ?_
        rotate_left
        · go_step; exact hk
        refine Ord.St.ef 13 [] _ rfl (by kernel_rfl) (fun K hK => ?_)
        go_wp2_with fail
        refine ⟨rfl, hK _ _ ?_⟩; clear hK K
        refine Ord.St.nil ?_
        obtain ⟨hBB2, hkk⟩ := BB.app hBB (Ch.refl _ _) HR1.out hcA HFA.out hc3 HR2.out hcB HFB.out
        have hwd2 := hwd.of_heap (hkk wb (by simp))
        have e1 : b.refs.length + 1 = (bd0 most (k + 1)).refs.length := by rw [← HNX.out]; simp
        have e2 : b.want.length + 1 = (bd0 most (k + 1)).want.length := by rw [← HNX.out]; simp
        change BB _ _ _ _ _ _ _ _ (⟨⟨most, inNodes (k + 1)⟩, b.refs ++ [2 * (k + 1)], b.want ++ [x]⟩ : Bd) at hBB2
        rw [HNX.out] at hBB2
        have HE1 := Lib.hid e1; clear e1
        have HE2 := Lib.hid e2; clear e2
        have HBB2 := Lib.hid hBB2
        have HWD2 := Lib.hid hwd2
        clear hBB2 hkk hwd2 hBB hwd hb3 hb8 hbk k1 k2 g1 g2 hcA hcB hc3 HR1 HR2 HFA HFB
        go_wp2_with fail
        go_roundw
        case rel =>
          have hBB3 := HBB2.out
          rw [HE1.out, HE2.out] at hBB3
          have hwd3 := HWD2.out
          rw [HE1.out, HE2.out] at hwd3
          rw [HE1.out, HE2.out]
          exact ⟨k + 1, by omega, by go_num, hwd3, _, _, _, _, _, hBB3⟩
        case measure => simp [intOf]; omega
    · have hk4 : k = 4 := by omega
      have hBB' := hBB.drop
      rw [hk4] at hBB'
      clear hBB hwd HWD HBB hk4
      have hw0 := hBB'.bm.own.ch
      have hmin : min n 60 = (l.take 60).length := by rw [List.length_take, HS.out.len, Nat.min_comm]
      have hmn : ∀ (ats : Array TypeId) (ty : TypeId), Builtin.min_ ats ty #[.int .i64 (n : Int), .int .i64 60] = pure (.int .i64 ((l.take 60).length : Nat)) := fun ats ty => min_nat n 60 _ hmin ats ty
      have hml : (l.take 60).length ≤ cap := by rw [← hmin]; have := HS.out.le; omega
      have hle := HS.out.le
      have hmx := HS.out.max
      have HBB := Lib.hid hBB'; clear hBB'
      have HMIN := Lib.hid hmin; clear hmin
      have hlm : (l.take 60).length ≤ 60 := by rw [List.length_take]; omega
      generalize hL : l.take 60 = L at *
      generalize hML : L.length = m at *
      have HL := Lib.hid hL; clear hL
      have HML := Lib.hid hML; clear hML
      have HW0 := Lib.hid hw0; clear hw0
      go_wp2_with fail
      have hrk : ∀ k, k ≤ m → BOk ((L.take k).foldl stepB (bd0 most 4)) ∧ ((L.take k).foldl stepB (bd0 most 4)).G.nodes.length ≤ 5 + 3 * k ∧ ((L.take k).foldl stepB (bd0 most 4)).refs.length = 5 + k ∧ ((L.take k).foldl stepB (bd0 most 4)).G.most = most := fun k hk => by
        have hlk : (L.take k).length = k := by rw [List.length_take, HML.out]; omega
        have hn0 : (bd0 most 4).G.nodes.length = 5 := rfl
        have hr0 : (bd0 most 4).refs.length = 5 := rfl
        obtain ⟨r1, r2, r3, r4⟩ := run_ok (L.take k) HB0.out (by rw [hlk, hn0]; show 5 + 3 * k ≤ most; omega)
        rw [hlk] at r3 r4
        rw [hn0] at r3
        rw [hr0] at r4
        exact ⟨r1, r3, r4, r2.most⟩
      have HRK := Lib.hid hrk; clear hrk
      go_loopw [67] (fun i wr => ∃ k : Nat, k ≤ m ∧ i = .int .i64 k ∧ ∃ F ra rc wa wc, BB [] (w.alloc (.cells #[.pointer none, .slice none 0 0, .slice none 0 0] 28)) wr tb g F (.slice ra (5 + k) rc) (.slice wa (5 + k) wc) ((L.take k).foldl stepB (bd0 most 4))) (fun i _ => m - (intOf i).toNat)
      case atStart => exact ⟨0, by omega, rfl, _, _, _, _, _, HBB.out⟩
      case round =>
        clear HBB HW0
        clear hlt hk
        obtain ⟨k, hk, rfl, F, ra, rc, wa, wc, hBB⟩ := hrel
        obtain ⟨hok, hnl, hrl, hmo⟩ := HRK.out k hk
        have hwl := hok.len
        by_cases hlt : k < m
        · obtain ⟨x, hx⟩ : ∃ x, L[k]? = some x := ⟨_, List.getElem?_eq_getElem (by rw [HML.out]; exact hlt)⟩
          have hxl : l[k]? = some x := by
            have := hx
            rw [← HL.out, List.getElem?_take] at this
            split at this
            · exact this
            · cases this
          obtain ⟨bk, bo, rfl, d0, d1, d2, d3⟩ := HS.out.cells k x hxl
          obtain ⟨x1, x2, x3, x4⟩ := HS.out.bd x (List.mem_of_getElem? hxl)
          have hcw : Ch [] w wr := ((Ch.refl [] w).alloc _).trans hBB.bm.own.ch (by simp)
          have d0 := (hcw.cell (cell_lt d0) (by simp)).trans d0
          have d1 := (hcw.cell (cell_lt d1) (by simp)).trans d1
          have d2 := (hcw.cell (cell_lt d2) (by simp)).trans d2
          have d3 := (hcw.cell (cell_lt d3) (by simp)).trans d3
          have hnext : stepB ((L.take k).foldl stepB (bd0 most 4)) x = (L.take (k + 1)).foldl stepB (bd0 most 4) := by
            rw [List.take_add_one, hx, List.foldl_append]; rfl
          generalize (L.take k).foldl stepB (bd0 most 4) = b at *
          obtain ⟨se, _, _, _⟩ := stepB_ok hok x (by omega)
          have hA : Ch [] wr (wr.alloc (.cells #[.int .u8 x.k, .int .u8 x.a, .int .u8 x.b, .int .u8 x.c] 48)) := (Ch.refl _ _).alloc _
          have hBA := hBB.same hA
          have ⟨y0, y1, y2⟩ := blk3 hBA.bk
          have hT : Told (wr.alloc (.cells #[.int .u8 x.k, .int .u8 x.a, .int .u8 x.b, .int .u8 x.c] 48)) g b.G F ra wa (5 + k) b.refs b.want := by
            obtain ⟨hl1, hl2⟩ := hBA.bm.lt
            exact ⟨hBA.bm.own.gin, row.sv hBA.bm.rr rfl (by omega), row.sv hBA.bm.ww rfl (by omega), hrl, by omega, by omega, by omega, fun p hp => by subst hp; exact ⟨hl1 _ rfl, (hBA.bm.ro _ rfl).2⟩, fun p hp => by subst hp; exact ⟨hl2 _ rfl, (hBA.bm.wo _ rfl).2.1⟩, hok.words, hok.refs⟩
          have hST := step_is hT rc wc x x1 x2 x3 x4
          rw [se] at hST
          have hnx : (⟨(stepRes b.G b.refs x).1, b.refs ++ [(stepRes b.G b.refs x).2.1], b.want ++ [stepW b.want x]⟩ : Bd) = (L.take (k + 1)).foldl stepB (bd0 most 4) := hnext
          clear hT hA hBB hcw hx hxl hnext se hok
          generalize (stepRes b.G b.refs x).1 = G2 at *
          generalize (stepRes b.G b.refs x).2.1 = r2 at *
          generalize stepW b.want x = x2 at *
          have HST := Lib.hid hST; clear hST
          have HBA := Lib.hid hBA; clear hBA
          have HNX := Lib.hid hnx; clear hnx
          have HRL := Lib.hid hrl; clear hrl
          have HWL := Lib.hid hwl; clear hwl
          have HMO := Lib.hid hmo; clear hmo
          have hb1 : b.refs.length ≤ 100 := by have := HRL.out; omega
          have hb2 : b.want.length ≤ 100 := by have := HRL.out; have := HWL.out; omega
          clear hnl
          go_wp2_with fail
          refine HST.out.mono ?_
          rintro e w2 ⟨rfl, hto⟩
          obtain ⟨F2, hBB, _⟩ := HBA.out.to hto
          clear hto HBA HST y0 y1 y2 d0 d1 d2 d3
          go_wp2_with fail
          refine Ord.St.door (fun w' => w'.cell? ⟨tb, 1, none⟩ = some (.slice ra (5 + k) rc) ∧ w'.cell? ⟨tb, 2, none⟩ = some (.slice wa (5 + k) wc)) [.fl, .ho, .fl, .ef, .ef, .fl, .ho, .fl, .ef, .ef, .fl, .ef, .fl, .ef] [0, 1, 0, 4, 15, 0, 32, 0, 128, 511, 127, 2047, 4095, 8191] [0, 1, 2, 3, 4, 5, 6, 7, 8, 9, 10, 11, 12, 13] mixed (by kernel_rfl) rfl ?_
          obtain ⟨Wc, hWc⟩ : ∃ Wc, Wc = w2.drew := ⟨_, rfl⟩
          rw [← hWc]
          have hc0 : Ch [] w2 Wc := by rw [hWc]; exact (Ch.refl _ _).drew
          clear hWc
          replace hBB := hBB.same hc0
          have hbk := hBB.bk
          try replace hwd := hwd.ch hc0 (by simp)
          clear hc0
          refine Ord.St.fl2 (T' := ?_) 0 [1, 2, 3, 4, 5, 6, 7, 8, 9, 10, 11, 12, 13] _ _ rfl (by kernel_rfl) rfl rfl rfl rfl (fun K w' hk => ?_) ?_
          rotate_left
          · go_step; exact hk
          refine Ord.St.ho2 (T' := ?_) 1 [2, 3, 4, 5, 6, 7, 8, 9, 10, 11, 12, 13] _ _ rfl (by kernel_rfl) rfl rfl rfl rfl ?_ (fun K w' hw' hk => ?_) ?_
          rotate_left
          · exact ⟨hbk.cell rfl, hbk.cell rfl⟩
          · obtain ⟨q1, q2⟩ := hw'; go_step; exact hk
          refine Ord.St.fl2 (T' := ?_) 2 [3, 4, 5, 6, 7, 8, 9, 10, 11, 12, 13] _ _ rfl (by kernel_rfl) rfl rfl rfl rfl (fun K w' hk => ?_) ?_
          rotate_left
          · go_step; exact hk
          refine Ord.St.fl2 (T' := ?_) 5 [3, 4, 6, 7, 8, 9, 10, 11, 12, 13] _ _ rfl (by kernel_rfl) rfl rfl rfl rfl (fun K w' hk => ?_) ?_
          rotate_left
          · go_step; exact hk
          refine Ord.St.ho2 (T' := ?_) 6 [3, 4, 7, 8, 9, 10, 11, 12, 13] _ _ rfl (by kernel_rfl) rfl rfl rfl rfl ?_ (fun K w' hw' hk => ?_) ?_
          rotate_left
          · exact ⟨hbk.cell rfl, hbk.cell rfl⟩
          · obtain ⟨q1, q2⟩ := hw'; go_step; exact hk
          refine Ord.St.fl2 (T' := ?_) 7 [3, 4, 8, 9, 10, 11, 12, 13] _ _ rfl (by kernel_rfl) rfl rfl rfl rfl (fun K w' hk => ?_) ?_
          rotate_left
          · go_step; exact hk
          refine Ord.St.two 3 8 [4, 8, 9, 10, 11, 12, 13] [3, 4, 9, 10, 11, 12, 13] _ _ (by kernel_rfl) rfl rfl (by kernel_rfl) (by kernel_rfl) (fun K hK => ?_) (fun K hK => ?_)
          · go_wp2_with fail
            refine ⟨rfl, hK _ _ ?_ ?_⟩
            · exact ⟨(hbk.alloc _).cell rfl, (hbk.alloc _).cell rfl⟩
            clear hK K
            refine Ord.St.alw ?_; intro Wn hWn
            have hcn := alw_ch hWn
            have hb3 := alw_blk (xs := [.int .i64 (r2 : Nat)]) hWn
            clear hWn
            try replace hb8 := hb8.ch hcn (by simp)
            try replace hwd := hwd.ch hcn (by simp)
            replace hbk := hbk.ch hcn (by simp)
            first | (replace hBB := hBB.same hcn) | (replace hc3 := hc3.trans hcn (by simp))
            clear hcn
            refine Ord.St.two 4 8 [8, 9, 10, 11, 12, 13] [4, 9, 10, 11, 12, 13] _ _ (by kernel_rfl) rfl rfl (by kernel_rfl) (by kernel_rfl) (fun K hK => ?_) (fun K hK => ?_)
            · go_wp2_with (at_builtin; go_loud (refine wpList_append_row slRefs rfl _ _ rfl (v := (.slice ra (5 + k) rc)) (n := b.refs.length) (xs := refsCells b.refs) rfl hBB.bm.rr (ad := ⟨_, 0, none⟩) (m := 1) (c := 1) (news := [.int .i64 (r2 : Nat)]) rfl rfl (news_blk hb3) (by simp [Value.oneCell']) (by omega) (by omega) ?_; intro v1 wA hr1 hcA hfA; obtain ⟨ba, rca, rfl⟩ := row.parts hr1 (by omega); have HR1 := Lib.hid hr1; clear hr1; have HFA := Lib.hid hfA; clear hfA))
              refine ⟨rfl, hK _ _ ?_ ?_⟩
              · exact ⟨(hbk.ch hcA (by simpa using hBB.tr)).cell rfl, (hbk.ch hcA (by simpa using hBB.tr)).cell rfl⟩
              clear hK K
              replace hbk := hbk.ch hcA (by simpa using hBB.tr)
              try replace hb8 := hb8.ch hcA (by simpa using hnB)
              have hc3 := Ch.refl [] wA
              refine Ord.St.fl2 (T' := ?_) 10 [8, 9, 11, 12, 13] _ _ rfl (by kernel_rfl) rfl rfl rfl rfl (fun K w' hk => ?_) ?_
              rotate_left
              · go_step; exact hk
              refine Ord.St.efC 8 [9, 11, 12, 13] _ rfl (by kernel_rfl) (fun K hK => ?_)
              go_wp2_with fail
              refine ⟨rfl, hK _ _ ?_ ?_⟩
              · exact ⟨(hbk.alloc _).cell rfl, (hbk.alloc _).cell rfl⟩
              clear hK K
              refine Ord.St.alw ?_; intro Wn hWn
              have hcn := alw_ch hWn
              have hb8 := alw_blk (xs := [.int .u64 (x2 : Nat)]) hWn
              clear hWn
              have hnB := hBB.freshR
              try replace hb3 := hb3.ch hcn (by simp)
              try replace hwd := hwd.ch hcn (by simp)
              replace hbk := hbk.ch hcn (by simp)
              first | (replace hBB := hBB.same hcn) | (replace hc3 := hc3.trans hcn (by simp))
              clear hcn
              refine Ord.St.ef 9 [11, 12, 13] _ rfl (by kernel_rfl) (fun K hK => ?_)
              go_wp2_with (at_builtin; go_loud (refine wpList_append_row slWords rfl _ _ rfl (v := (.slice wa (5 + k) wc)) (n := b.want.length) (xs := u64s b.want) rfl ((hBB.bm.ww.ch hcA (by intro k hk hin; exact (hBB.bm.wo k hk).2.2 (by simpa using hin))).ch hc3 (by simp)) (ad := ⟨_, 0, none⟩) (m := 1) (c := 1) (news := [.int .u64 (x2 : Nat)]) rfl rfl (news_blk hb8) (by simp [Value.oneCell']) (by omega) (by omega) ?_; intro v2 wB hr2 hcB hfB; obtain ⟨bb, rcb, rfl⟩ := row.parts hr2 (by omega); have k1 := (hbk.ch hcB (by simpa using hBB.tw)).cell (i := 1) rfl; have k2 := (hbk.ch hcB (by simpa using hBB.tw)).cell (i := 2) rfl; have g1 := (hbk.ch hcB (by simpa using hBB.tw)).frozen (i := 1); have g2 := (hbk.ch hcB (by simpa using hBB.tw)).frozen (i := 2); have HR2 := Lib.hid hr2; clear hr2; have HFB := Lib.hid hfB; clear hfB))
              refine ⟨rfl, hK _ _ ?_⟩; clear hK K
              refine Ord.St.ef 11 [12, 13] _ rfl (by kernel_rfl) (fun K hK => ?_)
              go_wp2_with fail
              refine ⟨rfl, hK _ _ ?_⟩; clear hK K
              refine Ord.St.fl2 (T' := ?_) 12 [13] _ _ rfl (by kernel_rfl) rfl rfl rfl rfl (fun K w' hk => ?_) ?_
              rotate_left
              · go_step; exact hk
              refine Ord.St.ef 13 [] _ rfl (by kernel_rfl) (fun K hK => ?_)
              go_wp2_with fail
              refine ⟨rfl, hK _ _ ?_⟩; clear hK K
              refine Ord.St.nil ?_
              obtain ⟨hBB2, _⟩ := BB.app hBB (Ch.refl _ _) HR1.out hcA HFA.out hc3 HR2.out hcB HFB.out
              have e1 : b.refs.length + 1 = 5 + (k + 1) := by have := HRL.out; omega
              have e2 : b.want.length + 1 = 5 + (k + 1) := by have := HRL.out; have := HWL.out; omega
              change BB _ _ _ _ _ _ _ _ (⟨G2, b.refs ++ [r2], b.want ++ [x2]⟩ : Bd) at hBB2
              rw [HNX.out] at hBB2
              have HE1 := Lib.hid e1; clear e1
              have HE2 := Lib.hid e2; clear e2
              have HBB2 := Lib.hid hBB2
              clear hBB2 hBB hb3 hb8 hbk k1 k2 g1 g2 hcA hcB hc3 HR1 HR2 HFA HFB
              go_wp2_with fail
              go_roundw
              case rel =>
                have hBB3 := HBB2.out
                rw [HE1.out, HE2.out] at hBB3
                rw [HE1.out, HE2.out]
                exact ⟨k + 1, by omega, by go_num, _, _, _, _, _, hBB3⟩
              case measure => simp [intOf]; omega
            · go_wp2_with fail
              refine ⟨rfl, hK _ _ ?_ ?_⟩
              · exact ⟨(hbk.alloc _).cell rfl, (hbk.alloc _).cell rfl⟩
              clear hK K
              refine Ord.St.alw ?_; intro Wn hWn
              have hcn := alw_ch hWn
              have hb8 := alw_blk (xs := [.int .u64 (x2 : Nat)]) hWn
              clear hWn
              have hnB := hBB.freshR
              try replace hb3 := hb3.ch hcn (by simp)
              try replace hwd := hwd.ch hcn (by simp)
              replace hbk := hbk.ch hcn (by simp)
              first | (replace hBB := hBB.same hcn) | (replace hc3 := hc3.trans hcn (by simp))
              clear hcn
              refine Ord.St.efC 4 [9, 10, 11, 12, 13] _ rfl (by kernel_rfl) (fun K hK => ?_)
              go_wp2_with (at_builtin; go_loud (refine wpList_append_row slRefs rfl _ _ rfl (v := (.slice ra (5 + k) rc)) (n := b.refs.length) (xs := refsCells b.refs) rfl hBB.bm.rr (ad := ⟨_, 0, none⟩) (m := 1) (c := 1) (news := [.int .i64 (r2 : Nat)]) rfl rfl (news_blk hb3) (by simp [Value.oneCell']) (by omega) (by omega) ?_; intro v1 wA hr1 hcA hfA; obtain ⟨ba, rca, rfl⟩ := row.parts hr1 (by omega); have HR1 := Lib.hid hr1; clear hr1; have HFA := Lib.hid hfA; clear hfA))
              refine ⟨rfl, hK _ _ ?_ ?_⟩
              · exact ⟨(hbk.ch hcA (by simpa using hBB.tr)).cell rfl, (hbk.ch hcA (by simpa using hBB.tr)).cell rfl⟩
              clear hK K
              replace hbk := hbk.ch hcA (by simpa using hBB.tr)
              try replace hb8 := hb8.ch hcA (by simpa using hnB)
              have hc3 := Ch.refl [] wA
              refine Ord.St.fl2 (T' := ?_) 10 [9, 11, 12, 13] _ _ rfl (by kernel_rfl) rfl rfl rfl rfl (fun K w' hk => ?_) ?_
              rotate_left
              · go_step; exact hk
              refine Ord.St.ef 9 [11, 12, 13] _ rfl (by kernel_rfl) (fun K hK => ?_)
              go_wp2_with (at_builtin; go_loud (refine wpList_append_row slWords rfl _ _ rfl (v := (.slice wa (5 + k) wc)) (n := b.want.length) (xs := u64s b.want) rfl ((hBB.bm.ww.ch hcA (by intro k hk hin; exact (hBB.bm.wo k hk).2.2 (by simpa using hin))).ch hc3 (by simp)) (ad := ⟨_, 0, none⟩) (m := 1) (c := 1) (news := [.int .u64 (x2 : Nat)]) rfl rfl (news_blk hb8) (by simp [Value.oneCell']) (by omega) (by omega) ?_; intro v2 wB hr2 hcB hfB; obtain ⟨bb, rcb, rfl⟩ := row.parts hr2 (by omega); have k1 := (hbk.ch hcB (by simpa using hBB.tw)).cell (i := 1) rfl; have k2 := (hbk.ch hcB (by simpa using hBB.tw)).cell (i := 2) rfl; have g1 := (hbk.ch hcB (by simpa using hBB.tw)).frozen (i := 1); have g2 := (hbk.ch hcB (by simpa using hBB.tw)).frozen (i := 2); have HR2 := Lib.hid hr2; clear hr2; have HFB := Lib.hid hfB; clear hfB))
              refine ⟨rfl, hK _ _ ?_⟩; clear hK K
              refine Ord.St.ef 11 [12, 13] _ rfl (by kernel_rfl) (fun K hK => ?_)
              go_wp2_with fail
              refine ⟨rfl, hK _ _ ?_⟩; clear hK K
              refine Ord.St.fl2 (T' := ?_) 12 [13] _ _ rfl (by kernel_rfl) rfl rfl rfl rfl (fun K w' hk => ?_) ?_
              rotate_left
              · go_step; exact hk
              refine Ord.St.ef 13 [] _ rfl (by kernel_rfl) (fun K hK => ?_)
              go_wp2_with fail
              refine ⟨rfl, hK _ _ ?_⟩; clear hK K
              refine Ord.St.nil ?_
              obtain ⟨hBB2, _⟩ := BB.app hBB (Ch.refl _ _) HR1.out hcA HFA.out hc3 HR2.out hcB HFB.out
              have e1 : b.refs.length + 1 = 5 + (k + 1) := by have := HRL.out; omega
              have e2 : b.want.length + 1 = 5 + (k + 1) := by have := HRL.out; have := HWL.out; omega
              change BB _ _ _ _ _ _ _ _ (⟨G2, b.refs ++ [r2], b.want ++ [x2]⟩ : Bd) at hBB2
              rw [HNX.out] at hBB2
              have HE1 := Lib.hid e1; clear e1
              have HE2 := Lib.hid e2; clear e2
              have HBB2 := Lib.hid hBB2
              clear hBB2 hBB hb3 hb8 hbk k1 k2 g1 g2 hcA hcB hc3 HR1 HR2 HFA HFB
              go_wp2_with fail
              go_roundw
              case rel =>
                have hBB3 := HBB2.out
                rw [HE1.out, HE2.out] at hBB3
                rw [HE1.out, HE2.out]
                exact ⟨k + 1, by omega, by go_num, _, _, _, _, _, hBB3⟩
              case measure => simp [intOf]; omega
          · go_wp2_with fail
            refine ⟨rfl, hK _ _ ?_ ?_⟩
            · exact ⟨(hbk.alloc _).cell rfl, (hbk.alloc _).cell rfl⟩
            clear hK K
            refine Ord.St.alw ?_; intro Wn hWn
            have hcn := alw_ch hWn
            have hb8 := alw_blk (xs := [.int .u64 (x2 : Nat)]) hWn
            clear hWn
            have hnB := hBB.freshR
            try replace hb3 := hb3.ch hcn (by simp)
            try replace hwd := hwd.ch hcn (by simp)
            replace hbk := hbk.ch hcn (by simp)
            first | (replace hBB := hBB.same hcn) | (replace hc3 := hc3.trans hcn (by simp))
            clear hcn
            refine Ord.St.efC 3 [4, 9, 10, 11, 12, 13] _ rfl (by kernel_rfl) (fun K hK => ?_)
            go_wp2_with fail
            refine ⟨rfl, hK _ _ ?_ ?_⟩
            · exact ⟨(hbk.alloc _).cell rfl, (hbk.alloc _).cell rfl⟩
            clear hK K
            refine Ord.St.alw ?_; intro Wn hWn
            have hcn := alw_ch hWn
            have hb3 := alw_blk (xs := [.int .i64 (r2 : Nat)]) hWn
            clear hWn
            try replace hb8 := hb8.ch hcn (by simp)
            try replace hwd := hwd.ch hcn (by simp)
            replace hbk := hbk.ch hcn (by simp)
            first | (replace hBB := hBB.same hcn) | (replace hc3 := hc3.trans hcn (by simp))
            clear hcn
            refine Ord.St.efC 4 [9, 10, 11, 12, 13] _ rfl (by kernel_rfl) (fun K hK => ?_)
            go_wp2_with (at_builtin; go_loud (refine wpList_append_row slRefs rfl _ _ rfl (v := (.slice ra (5 + k) rc)) (n := b.refs.length) (xs := refsCells b.refs) rfl hBB.bm.rr (ad := ⟨_, 0, none⟩) (m := 1) (c := 1) (news := [.int .i64 (r2 : Nat)]) rfl rfl (news_blk hb3) (by simp [Value.oneCell']) (by omega) (by omega) ?_; intro v1 wA hr1 hcA hfA; obtain ⟨ba, rca, rfl⟩ := row.parts hr1 (by omega); have HR1 := Lib.hid hr1; clear hr1; have HFA := Lib.hid hfA; clear hfA))
            refine ⟨rfl, hK _ _ ?_ ?_⟩
            · exact ⟨(hbk.ch hcA (by simpa using hBB.tr)).cell rfl, (hbk.ch hcA (by simpa using hBB.tr)).cell rfl⟩
            clear hK K
            replace hbk := hbk.ch hcA (by simpa using hBB.tr)
            try replace hb8 := hb8.ch hcA (by simpa using hnB)
            have hc3 := Ch.refl [] wA
            refine Ord.St.fl2 (T' := ?_) 10 [9, 11, 12, 13] _ _ rfl (by kernel_rfl) rfl rfl rfl rfl (fun K w' hk => ?_) ?_
            rotate_left
            · go_step; exact hk
            refine Ord.St.ef 9 [11, 12, 13] _ rfl (by kernel_rfl) (fun K hK => ?_)
            go_wp2_with (at_builtin; go_loud (refine wpList_append_row slWords rfl _ _ rfl (v := (.slice wa (5 + k) wc)) (n := b.want.length) (xs := u64s b.want) rfl ((hBB.bm.ww.ch hcA (by intro k hk hin; exact (hBB.bm.wo k hk).2.2 (by simpa using hin))).ch hc3 (by simp)) (ad := ⟨_, 0, none⟩) (m := 1) (c := 1) (news := [.int .u64 (x2 : Nat)]) rfl rfl (news_blk hb8) (by simp [Value.oneCell']) (by omega) (by omega) ?_; intro v2 wB hr2 hcB hfB; obtain ⟨bb, rcb, rfl⟩ := row.parts hr2 (by omega); have k1 := (hbk.ch hcB (by simpa using hBB.tw)).cell (i := 1) rfl; have k2 := (hbk.ch hcB (by simpa using hBB.tw)).cell (i := 2) rfl; have g1 := (hbk.ch hcB (by simpa using hBB.tw)).frozen (i := 1); have g2 := (hbk.ch hcB (by simpa using hBB.tw)).frozen (i := 2); have HR2 := Lib.hid hr2; clear hr2; have HFB := Lib.hid hfB; clear hfB))
            refine ⟨rfl, hK _ _ ?_⟩; clear hK K
            refine Ord.St.ef 11 [12, 13] _ rfl (by kernel_rfl) (fun K hK => ?_)
            go_wp2_with fail
            refine ⟨rfl, hK _ _ ?_⟩; clear hK K
            refine Ord.St.fl2 (T' := ?_) 12 [13] _ _ rfl (by kernel_rfl) rfl rfl rfl rfl (fun K w' hk => ?_) ?_
            rotate_left
            · go_step; exact hk
            refine Ord.St.ef 13 [] _ rfl (by kernel_rfl) (fun K hK => ?_)
            go_wp2_with fail
            refine ⟨rfl, hK _ _ ?_⟩; clear hK K
            refine Ord.St.nil ?_
            obtain ⟨hBB2, _⟩ := BB.app hBB (Ch.refl _ _) HR1.out hcA HFA.out hc3 HR2.out hcB HFB.out
            have e1 : b.refs.length + 1 = 5 + (k + 1) := by have := HRL.out; omega
            have e2 : b.want.length + 1 = 5 + (k + 1) := by have := HRL.out; have := HWL.out; omega
            change BB _ _ _ _ _ _ _ _ (⟨G2, b.refs ++ [r2], b.want ++ [x2]⟩ : Bd) at hBB2
            rw [HNX.out] at hBB2
            have HE1 := Lib.hid e1; clear e1
            have HE2 := Lib.hid e2; clear e2
            have HBB2 := Lib.hid hBB2
            clear hBB2 hBB hb3 hb8 hbk k1 k2 g1 g2 hcA hcB hc3 HR1 HR2 HFA HFB
            go_wp2_with fail
            go_roundw
            case rel =>
              have hBB3 := HBB2.out
              rw [HE1.out, HE2.out] at hBB3
              rw [HE1.out, HE2.out]
              exact ⟨k + 1, by omega, by go_num, _, _, _, _, _, hBB3⟩
            case measure => simp [intOf]; omega
        · obtain rfl : k = m := by omega
          have hkl : L.take k = L := List.take_of_length_le (by rw [HML.out]; omega)
          rw [hkl] at hBB hok hrl hnl hwl
          have hBe : L.foldl stepB (bd0 most 4) = B := by rw [← HB.out, ← HL.out]; rfl
          rw [hBe] at hBB hok hrl hnl hwl
          have ⟨y0, y1, y2⟩ := blk3 hBB.bk
          have hz : blk wr w.heap.size [.pointer none, .slice none 0 0, .slice none 0 0] := (blk.new' (w := w) [.pointer none, .slice none 0 0, .slice none 0 0] 28 rfl).ch hBB.bm.own.ch (by simp)
          have ⟨z0, z1, z2⟩ := blk3 hz
          have f0 : wr.frozen? ⟨w.heap.size, 0, none⟩ = false := hz.frozen
          have f1 : wr.frozen? ⟨w.heap.size, 1, none⟩ = false := hz.frozen
          have f2 : wr.frozen? ⟨w.heap.size, 2, none⟩ = false := hz.frozen
          have e1 : 5 + k = B.refs.length := by omega
          have e2 : 5 + k = B.want.length := by omega
          have HE1 := Lib.hid e1; clear e1
          have HE2 := Lib.hid e2; clear e2
          have hbm := hBB.bm.rebase (wr' := ((wr.setCell ⟨w.heap.size, 0, none⟩ (.pointer (some ⟨g, 0, none⟩))).setCell ⟨w.heap.size, 1, none⟩ (.slice ra (5 + k) rc)).setCell ⟨w.heap.size, 2, none⟩ (.slice wa (5 + k) wc)) ((((Ch.refl _ _).setCell (by simp) _).setCell (by simp) _).setCell (by simp) _)
          have HBM := Lib.hid hbm
          clear hBB hbm hz hok hrl hnl hwl hkl hBe hmo
          go_wp2_with fail
          refine bodyPost_ret (v := .tuple #[.agg #[.pointer (some ⟨g, 0, none⟩), .slice ra (5 + k) rc, .slice wa (5 + k) wc], .bool true]) (by simp [results, Try.results12, go_sem, z0, z1, z2]) rfl ?_
          rw [← HE1.out, ← HE2.out]
          exact ⟨g, F, ra, rc, wa, wc, rfl, HBM.out⟩
end
end Go.Proofs.Ytnajonchjlplmaa
namespace Go.Proofs.Ytnajonchjlplmaa
open Go.Aig
def wvStep (s : List Nat × Nat) (x : Nd) : List Nat × Nat :=
  if x.k = 3 then (s.1 ++ [wv s.1 x.l &&& wv s.1 x.r], s.2) else if x.k = 2 then (s.1 ++ [inWords.getD s.2 0], s.2 + 1) else (s.1 ++ [0], s.2)
def wvs (ns : List Nd) : List Nat × Nat := ns.foldl wvStep ([], 0)
theorem wvs_snoc (ns : List Nd) (x : Nd) : wvs (ns ++ [x]) = wvStep (wvs ns) x := by unfold wvs; rw [List.foldl_append]; rfl
theorem inWords_lt (k : Nat) : inWords.getD k 0 < 65536 := by
  rcases k with _ | _ | _ | _ | k <;> simp [inWords]
theorem wv_lt {vs : List Nat} (h : ∀ x ∈ vs, x < 65536) (r : Nat) : wv vs r < 65536 := by
  have hd : vs.getD (r / 2) 0 < 65536 := by
    rw [List.getD_eq_getElem?_getD]
    cases hi : vs[r / 2]? with
    | none => simp
    | some x => exact h x (List.mem_of_getElem? hi)
  unfold wv; split
  · exact xor_lt hd
  · exact hd
/-- the words go with the bits -/
structure WB (ns : List Nd) : Prop where
  len : (wvs ns).1.length = ns.length
  cnt : ∀ env, (wvs ns).2 = (nv env ns).2
  lt : ∀ x ∈ (wvs ns).1, x < 65536
  bit : ∀ j, j < 16 → ∀ i, ((wvs ns).1.getD i 0).testBit j = (nv (envOf j) ns).1.getD i false
theorem wv_bit {ns : List Nd} (h : WB ns) {j : Nat} (hj : j < 16) (r : Nat) : (wv (wvs ns).1 r).testBit j = bv (envOf j) ns r := by
  unfold wv bv rv
  split
  · rename_i h1
    rw [Nat.testBit_xor, h.bit j hj, show (65535 : Nat) = 2 ^ 16 - 1 from rfl, Nat.testBit_two_pow_sub_one]
    simp [hj, h1]
  · rename_i h1
    rw [h.bit j hj]
    simp [h1]
theorem getD_snoc {α : Type} (l : List α) (x d : α) (i : Nat) : (l ++ [x]).getD i d = if i < l.length then l.getD i d else if i = l.length then x else d := by
  simp only [List.getD_eq_getElem?_getD]
  by_cases h : i < l.length
  · rw [if_pos h, List.getElem?_append_left h]
  · rw [if_neg h]
    by_cases h2 : i = l.length
    · subst h2; rw [if_pos rfl, List.getElem?_append_right (Nat.le_refl _)]; simp
    · rw [if_neg h2, List.getElem?_eq_none (by simp; omega)]; rfl
theorem wb_nil : WB [] := ⟨rfl, fun _ => rfl, by simp [wvs], by intro j _ i; simp [wvs, nv]⟩
theorem wb_snoc {ns : List Nd} (h : WB ns) (x : Nd) : WB (ns ++ [x]) := by
  have hl : ∀ env, (nv env ns).1.length = (wvs ns).1.length := fun env => by rw [nv_len, h.len]
  refine ⟨?_, fun env => ?_, fun y hy => ?_, fun j hj i => ?_⟩
  · rw [wvs_snoc]; unfold wvStep; (repeat' split) <;> simp [h.len]
  · rw [wvs_snoc, nv_snoc]; unfold wvStep nvStep; (repeat' split) <;> simp [h.cnt env]
  · rw [wvs_snoc] at hy
    unfold wvStep at hy
    (repeat' split at hy) <;> simp at hy <;> rcases hy with hy | rfl
    · exact h.lt y hy
    · exact Nat.and_lt_two_pow (n := 16) _ (wv_lt h.lt _)
    · exact h.lt y hy
    · have := inWords_lt (wvs ns).2; simpa using this
    · exact h.lt y hy
    · omega
  · rw [wvs_snoc, nv_snoc]
    have e := h.cnt (envOf j)
    unfold wvStep nvStep
    split
    · rw [getD_snoc, getD_snoc, hl]
      (repeat' split)
      · exact h.bit j hj i
      · rw [Nat.testBit_and, wv_bit h hj, wv_bit h hj]; rfl
      · simp
    · split
      · rw [getD_snoc, getD_snoc, hl]
        (repeat' split)
        · exact h.bit j hj i
        · rw [e]; rfl
        · simp
      · rw [getD_snoc, getD_snoc, hl]
        (repeat' split)
        · exact h.bit j hj i
        · simp
        · simp
theorem wb_all : ∀ (ms ns : List Nd), WB ns → WB (ns ++ ms)
  | [], ns, h => by simpa using h
  | x :: ms, ns, h => by
    rw [List.append_cons]
    exact wb_all ms (ns ++ [x]) (wb_snoc h x)
theorem wb (ns : List Nd) : WB ns := by simpa using wb_all ns [] wb_nil
theorem cnt_mono (ns : List Nd) (k : Nat) : (wvs (ns.take k)).2 ≤ (wvs ns).2 := by
  rw [(wb _).cnt (fun _ => false), (wb _).cnt (fun _ => false)]
  have := nv_count (fun _ => false) (ns.drop k) (ns.take k)
  rw [List.take_append_drop] at this
  omega
/-- what the laws compare: the words of the references -/
theorem want_is {b : Bd} (h : BOk b) {i r x : Nat} (hr : b.refs[i]? = some r) (hx : b.want[i]? = some x) : wv (wvs b.G.nodes).1 r = x := by
  apply Nat.eq_of_testBit_eq
  intro j
  have hxl := h.words x (List.mem_of_getElem? hx)
  by_cases hj : j < 16
  · rw [wv_bit (wb _) hj, h.sem j hj i r x hr hx]
  · have hp : 2 ^ 16 ≤ 2 ^ j := Nat.pow_le_pow_right (by omega) (by omega)
    rw [Nat.testBit_lt_two_pow (Nat.lt_of_lt_of_le (wv_lt (wb _).lt r) hp), Nat.testBit_lt_two_pow (Nat.lt_of_lt_of_le hxl hp)]
end Go.Proofs.Ytnajonchjlplmaa
namespace Go.Proofs.Ytnajonchjlplmaa
open Go.RowKit Go.Mem Go.Aig
/-- a slice of the walk's own grows by one: its blocks stay new, a block that is kept stays -/
theorem own_step {w wr W1 W2 : World} {v v' : Value} {xs : List Value} (hc : Ch [] w wr) (hl : w.heap.size < wr.heap.size) (hown : ∀ k, v.ownBlock = some k → w.heap.size < k) (hwd : blk wr w.heap.size xs) (c1 : Ch [] wr W1) (c2 : Ch v.ownBlock.toList W1 W2)
    (f : ∀ k, v'.ownBlock = some k → v.ownBlock = some k ∨ W1.heap.size ≤ k) : (∀ k, v'.ownBlock = some k → w.heap.size < k) ∧ blk W2 w.heap.size xs ∧ Ch [] w W2 := by
  have s1 := c1.size
  refine ⟨fun k hk => (f k hk).elim (hown k) (fun e => by omega), (hwd.ch c1 (by simp)).ch c2 (fun hin => ?_), (hc.trans c1 (by simp)).trans c2 (fun k hk => .inr ?_)⟩
  · have := hown _ (by simpa using hin); omega
  · have := hown k (by simpa using hk); omega
section
variable {w : World} {g : Nat} {G : Gra} {F : List Nat}
set_option maxRecDepth 100000 in
set_option maxHeartbeats 8000000 in
theorem values_is (h : GIn w g G F) (hc4 : (wvs G.nodes).2 ≤ 4) :
    Calls Try.prog 13 #[.pointer (some ⟨g, 0, none⟩)] w fun e w' => ∃ v, e = .returned (.tuple #[v, .bool true]) ∧ row w' 35 1 v G.nodes.length (u64s (wvs G.nodes).1) ∧ (∀ k, v.ownBlock = some k → w.heap.size ≤ k) ∧ Ch [] w w' := by
  have hlen := h.ok.room
  have hmost := h.ok.most
  have hwf := h.ok.wf
  have hsz : G.nodes.length ≤ 65536 := by omega
  clear hlen hmost
  have HWF := Lib.hid hwf; clear hwf
  have H := Lib.hid h; clear h
  go_enter Try.func13, Try.ntmps13
  go_wp2_with fail
  refine (words_is _).mono ?_
  rintro e w' ⟨rfl, rfl⟩
  have hwd : blk (w.alloc (.cells (u64s inWords).toArray 35)) w.heap.size (u64s inWords) := blk.new' _ _ rfl
  have hc0 : Ch [] w (w.alloc (.cells (u64s inWords).toArray 35)) := (Ch.refl _ _).alloc _
  have HWD := Lib.hid hwd; clear hwd
  have HC0 := Lib.hid hc0; clear hc0
  have hL := Len_g (H.out.same HC0.out (by simp))
  generalize w.alloc (.cells (u64s inWords).toArray 35) = W0 at *
  go_wp2_with fail
  refine hL.mono ?_
  rintro e w' ⟨rfl, rfl⟩
  clear hL
  go_wp2_with fail
  go_loopw [4, 6, 14] (fun o kk i wr => ∃ n : Nat, n ≤ G.nodes.length ∧ i = .int .i64 n ∧ kk = .int .i64 (wvs (G.nodes.take n)).2 ∧ row wr 35 1 o n (u64s (wvs (G.nodes.take n)).1) ∧ (∀ k, o.ownBlock = some k → w.heap.size < k) ∧ blk wr w.heap.size (u64s inWords) ∧ Ch [] w wr) (fun _ _ i _ => G.nodes.length - (intOf i).toNat)
  case atStart => exact ⟨0, by omega, rfl, rfl, ⟨rfl, .inl ⟨rfl, rfl⟩⟩, by simp, HWD.out, HC0.out⟩
  case round =>
    obtain ⟨n, hn, rfl, rfl, hrow, hown, hwd, hc⟩ := hrel
    clear HWD HC0
    have hnl : (G.nodes.take n).length = n := by simp; omega
    by_cases hlt : n < G.nodes.length
    · obtain ⟨x, hx⟩ : ∃ x, G.nodes[n]? = some x := ⟨_, List.getElem?_eq_getElem hlt⟩
      have htk : G.nodes.take (n + 1) = G.nodes.take n ++ [x] := by rw [List.take_add_one, hx]; rfl
      have hnx : wvs (G.nodes.take (n + 1)) = wvStep (wvs (G.nodes.take n)) x := by rw [htk, wvs_snoc]
      have hcm := cnt_mono G.nodes (n + 1)
      have hwb := wb (G.nodes.take n)
      have hvl := hwb.len
      rw [hnl] at hvl
      have hna : nodeAt G.nodes (2 * n : Int) = some x := by
        unfold nodeAt
        rw [if_pos (by omega), show ((2 * n : Int).toNat / 2) = n from by omega, hx]
      have hS := Sides_g (H.out.same hc (by simp)) (2 * n) (by omega)
      have hkk : kindOf G.nodes (2 * n : Int) = x.k := by unfold kindOf; rw [hna]
      have hll : lOf G.nodes (2 * n : Int) = if x.k = 3 then x.l else 0 := by unfold lOf; rw [hna]
      have hrr : rOf G.nodes (2 * n : Int) = if x.k = 3 then x.r else 0 := by unfold rOf; rw [hna]
      have hii : isAndAt G.nodes (2 * n : Int) = (x.k == 3) := by unfold isAndAt; rw [hkk]
      rw [hll, hrr, hii] at hS
      have hK := fun (W : World) (hW : Ch [] wr W) => Kind_g (H.out.same (hc.trans hW (by simp)) (by simp)) (2 * n) (by omega)
      rw [hkk] at hK
      clear hkk hll hrr hii hna htk hnl
      obtain ⟨oa, oc, rfl⟩ := row.shape hrow
      have HROW := Lib.hid hrow; clear hrow
      have HOWN := Lib.hid hown; clear hown
      have HWD := Lib.hid hwd; clear hwd
      have HC := Lib.hid hc; clear hc
      have HNX := Lib.hid hnx; clear hnx
      have HWB := Lib.hid hwb; clear hwb
      have HVL := Lib.hid hvl; clear hvl
      have HK := Lib.hid hK; clear hK
      have hcb : (wvs (G.nodes.take n)).2 ≤ 4 := by have := cnt_mono G.nodes n; omega
      by_cases h3 : x.k = 3
      · obtain ⟨s1, s2, s3, s4, s5⟩ := HWF.out.sides hx h3
        clear s3 s5
        have hstep : wvStep (wvs (G.nodes.take n)) x = ((wvs (G.nodes.take n)).1 ++ [wv (wvs (G.nodes.take n)).1 x.l &&& wv (wvs (G.nodes.take n)).1 x.r], (wvs (G.nodes.take n)).2) := by unfold wvStep; rw [if_pos h3]
        have hb3 : (x.k == 3) = true := by simp [h3]
        rw [if_pos h3, if_pos h3, hb3] at hS
        have HS := Lib.hid hS; clear hS
        clear hb3 h3 hcm
        have hwl := wv_lt HWB.out.lt x.l
        have hwr := wv_lt HWB.out.lt x.r
        generalize hV : wvs (G.nodes.take n) = V at *
        have HSTEP := Lib.hid hstep; clear hstep
        have HV := Lib.hid hV; clear hV
        go_wp2_with fail
        refine HS.out.mono ?_
        rintro e w2 ⟨rfl, hc2⟩
        have HC2 := Lib.hid hc2; clear hc2
        have hrow2 := HROW.out.ch HC2.out (by simp)
        have hsv := row.sv hrow2 rfl (by omega)
        have hq1 : decide ((x.l : Int) < 0) = false := decide_eq_false (by omega)
        have hq2 : decide ((x.r : Int) < 0) = false := decide_eq_false (by omega)
        have hq3 : decide ((n : Int) ≤ (x.l : Int) / 2) = false := decide_eq_false (by omega)
        have hq4 : decide ((n : Int) ≤ (x.r : Int) / 2) = false := decide_eq_false (by omega)
        have hv1 := value_is n oc hsv HVL.out (by omega) (by have := HWB.out.lt; rw [HV.out] at this; exact this) x.l (by have := HVL.out; omega)
        have hv2 := value_is n oc hsv HVL.out (by omega) (by have := HWB.out.lt; rw [HV.out] at this; exact this) x.r (by have := HVL.out; omega)
        have HV1 := Lib.hid hv1; clear hv1
        have HV2 := Lib.hid hv2; clear hv2
        have HR2 := Lib.hid hrow2; clear hrow2 hsv
        have hand := and_words _ _ hwl hwr
        generalize wv V.1 x.l = p at *
        generalize wv V.1 x.r = q at *
        go_wp2_with fail
        refine HV1.out.mono ?_
        rintro e w' ⟨rfl, rfl⟩
        clear HV1
        go_wp2_with fail
        refine HV2.out.mono ?_
        rintro e w' ⟨rfl, rfl⟩
        clear HV2
        have hal : Ch [] w2 (w2.alloc (.cells #[.int .u64 (p &&& q : Nat)] 35)) := (Ch.refl _ _).alloc _
        have hrowA := HR2.out.ch hal (by simp)
        have hblA : blk (w2.alloc (.cells #[.int .u64 (p &&& q : Nat)] 35)) w2.heap.size [.int .u64 (p &&& q : Nat)] := blk.new' _ _ rfl
        have HAL := Lib.hid hal; clear hal
        have HRA := Lib.hid hrowA; clear hrowA
        have HBA := Lib.hid hblA; clear hblA
        go_wp2_with (at_builtin; go_loud (refine wpList_append_row slWords rfl _ _ rfl (v := .slice oa n oc) (n := n) (xs := u64s V.1) rfl HRA.out (ad := ⟨w2.heap.size, 0, none⟩) (m := 1) (c := 1) (news := [.int .u64 (p &&& q : Nat)]) rfl rfl (news_blk HBA.out) (by simp [Value.oneCell']) (by omega) (by omega) ?_; intro v' w4 hown4 hC4 hf4; have HO4 := Lib.hid hown4; clear hown4; have HC4 := Lib.hid hC4; clear hC4; have HF4 := Lib.hid hf4; clear hf4))
        go_roundw
        case rel =>
          obtain ⟨o1, o2, o3⟩ := own_step HC.out HWD.out.lt HOWN.out HWD.out (HC2.out.trans HAL.out (by simp)) HC4.out HF4.out
          have hnx := HNX.out
          rw [HSTEP.out] at hnx
          refine ⟨n + 1, by omega, by go_num, by rw [hnx]; first | done | rfl | go_num, ?_, o1, o2, o3⟩
          rw [hnx]
          have := HO4.out
          simpa [u64s] using this
        case measure => simp [intOf]; omega
      · have hb3 : (x.k == 3) = false := by simp [h3]
        rw [if_neg h3, if_neg h3, hb3] at hS
        have HS := Lib.hid hS; clear hS
        clear hb3
        by_cases h2 : x.k = 2
        · have hstep : wvStep (wvs (G.nodes.take n)) x = ((wvs (G.nodes.take n)).1 ++ [inWords.getD (wvs (G.nodes.take n)).2 0], (wvs (G.nodes.take n)).2 + 1) := by unfold wvStep; rw [if_neg h3, if_pos h2]
          rw [HNX.out, hstep] at hcm
          have hlk : (wvs (G.nodes.take n)).2 < 4 := by have : (wvs (G.nodes.take n)).2 + 1 ≤ (wvs G.nodes).2 := hcm; omega
          have ht2 : ((x.k : Int) == 2) = true := by simp [h2]
          clear hcm h3 h2
          generalize hV : wvs (G.nodes.take n) = V at *
          have HSTEP := Lib.hid hstep; clear hstep
          have HV := Lib.hid hV; clear hV
          obtain ⟨y, hy⟩ : ∃ y, inWords[V.2]? = some y := ⟨_, List.getElem?_eq_getElem (by simpa [inWords] using hlk)⟩
          have hyd : inWords.getD V.2 0 = y := by rw [List.getD_eq_getElem?_getD, hy]; rfl
          rw [hyd] at HSTEP
          clear hyd
          have HY := Lib.hid hy; clear hy
          have hd4 : decide ((4 : Int) ≤ (V.2 : Int)) = false := decide_eq_false (by omega)
          go_wp2_with fail
          refine HS.out.mono ?_
          rintro e w2 ⟨rfl, hc2⟩
          have HC2 := Lib.hid hc2; clear hc2
          have hrow2 := HROW.out.ch HC2.out (by simp)
          have HR2 := Lib.hid hrow2; clear hrow2
          have hk := HK.out w2 HC2.out
          have hwc := (HWD.out.ch HC2.out (by simp)).cell (i := V.2) (v := .int .u64 y) (by simp [u64s, HY.out])
          go_wp2_with fail
          refine hk.mono ?_
          rintro e w' ⟨rfl, rfl⟩
          clear hk
          have hal : Ch [] w2 (w2.alloc (.cells #[.int .u64 (y : Nat)] 35)) := (Ch.refl _ _).alloc _
          have hrowA := HR2.out.ch hal (by simp)
          have hblA : blk (w2.alloc (.cells #[.int .u64 (y : Nat)] 35)) w2.heap.size [.int .u64 (y : Nat)] := blk.new' _ _ rfl
          have HAL := Lib.hid hal; clear hal
          have HRA := Lib.hid hrowA; clear hrowA
          have HBA := Lib.hid hblA; clear hblA
          go_wp2_with (at_builtin; go_loud (refine wpList_append_row slWords rfl _ _ rfl (v := .slice oa n oc) (n := n) (xs := u64s V.1) rfl HRA.out (ad := ⟨w2.heap.size, 0, none⟩) (m := 1) (c := 1) (news := [.int .u64 (y : Nat)]) rfl rfl (news_blk HBA.out) (by simp [Value.oneCell']) (by omega) (by omega) ?_; intro v' w4 hown4 hC4 hf4; have HO4 := Lib.hid hown4; clear hown4; have HC4 := Lib.hid hC4; clear hC4; have HF4 := Lib.hid hf4; clear hf4))
          go_roundw
          case rel =>
            obtain ⟨o1, o2, o3⟩ := own_step HC.out HWD.out.lt HOWN.out HWD.out (HC2.out.trans HAL.out (by simp)) HC4.out HF4.out
            have hnx := HNX.out
            rw [HSTEP.out] at hnx
            refine ⟨n + 1, by omega, by go_num, by rw [hnx]; first | done | rfl | go_num, ?_, o1, o2, o3⟩
            rw [hnx]
            have := HO4.out
            simpa [u64s] using this
          case measure => simp [intOf]; omega
        · have hstep : wvStep (wvs (G.nodes.take n)) x = ((wvs (G.nodes.take n)).1 ++ [0], (wvs (G.nodes.take n)).2) := by unfold wvStep; rw [if_neg h3, if_neg h2]
          have ht2 : ((x.k : Int) == 2) = false := by simp; omega
          clear hcm h3 h2
          generalize hV : wvs (G.nodes.take n) = V at *
          have HSTEP := Lib.hid hstep; clear hstep
          have HV := Lib.hid hV; clear hV
          go_wp2_with fail
          refine HS.out.mono ?_
          rintro e w2 ⟨rfl, hc2⟩
          have HC2 := Lib.hid hc2; clear hc2
          have hrow2 := HROW.out.ch HC2.out (by simp)
          have HR2 := Lib.hid hrow2; clear hrow2
          have hk := HK.out w2 HC2.out
          go_wp2_with fail
          refine hk.mono ?_
          rintro e w' ⟨rfl, rfl⟩
          clear hk
          have hal : Ch [] w2 (w2.alloc (.cells #[.int .u64 0] 35)) := (Ch.refl _ _).alloc _
          have hrowA := HR2.out.ch hal (by simp)
          have hblA : blk (w2.alloc (.cells #[.int .u64 0] 35)) w2.heap.size [.int .u64 0] := blk.new' _ _ rfl
          have HAL := Lib.hid hal; clear hal
          have HRA := Lib.hid hrowA; clear hrowA
          have HBA := Lib.hid hblA; clear hblA
          go_wp2_with (at_builtin; go_loud (refine wpList_append_row slWords rfl _ _ rfl (v := .slice oa n oc) (n := n) (xs := u64s V.1) rfl HRA.out (ad := ⟨w2.heap.size, 0, none⟩) (m := 1) (c := 1) (news := [.int .u64 0]) rfl rfl (news_blk HBA.out) (by simp [Value.oneCell']) (by omega) (by omega) ?_; intro v' w4 hown4 hC4 hf4; have HO4 := Lib.hid hown4; clear hown4; have HC4 := Lib.hid hC4; clear hC4; have HF4 := Lib.hid hf4; clear hf4))
          go_roundw
          case rel =>
            obtain ⟨o1, o2, o3⟩ := own_step HC.out HWD.out.lt HOWN.out HWD.out (HC2.out.trans HAL.out (by simp)) HC4.out HF4.out
            have hnx := HNX.out
            rw [HSTEP.out] at hnx
            refine ⟨n + 1, by omega, by go_num, by rw [hnx]; first | done | rfl | go_num, ?_, o1, o2, o3⟩
            rw [hnx]
            have := HO4.out
            simpa [u64s] using this
          case measure => simp [intOf]; omega
    · have hnn : n = G.nodes.length := by omega
      have htk : G.nodes.take n = G.nodes := List.take_of_length_le (by omega)
      rw [htk] at hrow
      rw [hnn] at hrow
      have HROW := Lib.hid hrow; clear hrow
      have HOWN := Lib.hid hown; clear hown
      have HC := Lib.hid hc; clear hc
      clear hwd htk hnn hnl
      go_wp2_with fail
      go_ret2
      exact ⟨_, rfl, HROW.out, fun k hk => Nat.le_of_lt (HOWN.out k hk), HC.out⟩
end
end Go.Proofs.Ytnajonchjlplmaa
