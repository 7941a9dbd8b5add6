/-
  Walk over AigValues: true. Conditions: a slice of small ones.
-/
import Derived.Test.YtnajonchjlplmaaQE
namespace Go.Proofs.Ytnajonchjlplmaa
open Go.RowKit Go.Mem Go.Aig
section
variable {w : World}
theorem blkC {w : World} {b : Nat} {x y z : Value} (h : blk w b [x, y, z]) : w.cell? ⟨b, 0, none⟩ = some x ∧ w.cell? ⟨b, 1, none⟩ = some y ∧ w.cell? ⟨b, 2, none⟩ = some z := blk3 h
/-- what a built graph of the laws is good for -/
theorem built_ok (l : List Sm) : BOk (builtB 4000 (l.take 60)) ∧ (builtB 4000 (l.take 60)).G.nodes.length ≤ 5 + 3 * (l.take 60).length ∧ (builtB 4000 (l.take 60)).refs.length = 5 + (l.take 60).length ∧ (l.take 60).length ≤ 60 ∧ (builtB 4000 (l.take 60)).G.most = 4000 := by
  have hl : (l.take 60).length ≤ 60 := by rw [List.length_take]; omega
  have hn0 : (bd0 4000 4).G.nodes.length = 5 := rfl
  have hr0 : (bd0 4000 4).refs.length = 5 := rfl
  obtain ⟨h1, h2, h3, h4⟩ := run_ok (l.take 60) (bd0_ok (most := 4000) (by omega) (by omega)) (by rw [hn0]; show 5 + 3 * _ ≤ 4000; omega)
  rw [hn0] at h3; rw [hr0] at h4
  exact ⟨h1, h3, h4, hl, h2.most⟩
set_option maxRecDepth 100000 in
set_option maxHeartbeats 8000000 in
theorem AigValues_walk {a : Option Addr} {n cap : Nat} {l : List Sm} (hS : SmS w a n cap l) :
    Calls Try.prog 3 #[.slice a n cap] w fun e w' => e = .returned (.bool true) ∧ Ch [] w w' := by
  obtain ⟨hok, hnl, hrl, h60, hmo⟩ := built_ok l
  have hwl := hok.len
  have HS := Lib.hid hS; clear hS
  have hB := fun (W : World) (hW : Ch [] w W) => build_is (w := W) 4000 (by omega) (by omega) (HS.out.ch hW (by simp)) (by omega)
  generalize builtB 4000 (l.take 60) = b at *
  have HB := Lib.hid hB; clear hB
  have HOK := Lib.hid hok; clear hok
  have HRL := Lib.hid hrl; clear hrl
  have HWL := Lib.hid hwl; clear hwl
  have HMO := Lib.hid hmo; clear hmo
  go_enter Try.func3, Try.ntmps3
  go_wp2_with fail
  refine (awake_is w).mono ?_
  rintro e w1 ⟨rfl, hc1⟩
  have HC1 := Lib.hid hc1; clear hc1
  go_wp2_with fail
  refine (HB.out w1 HC1.out).mono ?_
  rintro e w2 ⟨g, F, ra, rc, wa, wc, rfl, hbm⟩
  have hbx : blk (w2.alloc (.cells #[.pointer (some ⟨g, 0, none⟩), .slice ra b.refs.length rc, .slice wa b.want.length wc] 28)) w2.heap.size [.pointer (some ⟨g, 0, none⟩), .slice ra b.refs.length rc, .slice wa b.want.length wc] := blk.new' _ _ rfl
  have hal : Ch [] w2 (w2.alloc (.cells #[.pointer (some ⟨g, 0, none⟩), .slice ra b.refs.length rc, .slice wa b.want.length wc] 28)) := (Ch.refl _ _).alloc _
  have hbm2 := hbm.same hal
  have hcw : Ch [] w (w2.alloc (.cells #[.pointer (some ⟨g, 0, none⟩), .slice ra b.refs.length rc, .slice wa b.want.length wc] 28)) := HC1.out.trans hbm2.own.ch (by simp)
  have HV := values_is hbm2.own.gin (by rw [(wb _).cnt (fun _ => false), HOK.out.ins]; omega)
  have HBX := Lib.hid hbx; clear hbx
  have HBM := Lib.hid hbm2; clear hbm2 hbm
  have HCW := Lib.hid hcw; clear hcw hal
  have HVV := Lib.hid HV; clear HV
  go_wp2_with fail
  refine HVV.out.mono ?_
  rintro e w3 ⟨v, rfl, hvr, hvo, hc3⟩
  obtain ⟨va, vc, rfl⟩ := row.shape hvr
  have ⟨x0, x1, x2⟩ := blkC (HBX.out.ch hc3 (by simp))
  have hbx3 := HBX.out.ch hc3 (by simp)
  have HBX3 := Lib.hid hbx3; clear hbx3
  have HBM3 := Lib.hid (HBM.out.same hc3); clear HBM
  have HCW3 := Lib.hid (HCW.out.trans hc3 (by simp)); clear HCW
  have HVR := Lib.hid hvr; clear hvr
  clear hvo hc3 HVV HBX
  go_wp2_with fail
  have hb65 : b.refs.length ≤ 1000 := by have := HRL.out; omega
  clear x0 x1 x2
  go_loopw [31] (fun i wr => ∃ k : Nat, k ≤ b.refs.length ∧ i = .int .i64 k ∧ Ch [] w3 wr) (fun i _ => b.refs.length - (intOf i).toNat)
  case atStart => exact ⟨0, Nat.zero_le _, rfl, Ch.refl _ _⟩
  case round =>
    obtain ⟨k, hk, rfl, hc⟩ := hrel
    by_cases hlt : k < b.refs.length
    · obtain ⟨r, hr⟩ : ∃ r, b.refs[k]? = some r := ⟨_, List.getElem?_eq_getElem hlt⟩
      obtain ⟨x, hx⟩ : ∃ x, b.want[k]? = some x := ⟨_, List.getElem?_eq_getElem (by rw [← HWL.out]; exact hlt)⟩
      have hBM := HBM3.out.same hc
      have hrb := HOK.out.refs r (List.mem_of_getElem? hr)
      have hsz : b.G.nodes.length ≤ 65536 := by have := HOK.out.ok.room; have := HOK.out.ok.most; omega
      have hwx := want_is HOK.out hr hx
      have hR := Right_g (HBM3.out.same hc.drew).own.gin r (by omega)
      rw [right_of hrb] at hR
      have hvs : Sv wr.drew va (u64s (wvs b.G.nodes).1) := row.sv (HVR.out.ch hc.drew (by simp)) rfl (by omega)
      have hV := value_is b.G.nodes.length vc hvs (wb _).len (by omega) (wb _).lt r (by rw [(wb _).len]; exact hrb)
      rw [hwx] at hV
      obtain ⟨rb, ro, rfl, d1⟩ := (row.sv hBM.rr rfl (by omega)).cells k (.int .i64 r) (by simp [refsCells, hr])
      obtain ⟨wb', wo, rfl, d2⟩ := (row.sv hBM.ww rfl (by have := HWL.out; omega)).cells k (.int .u64 x) (by simp [u64s, hx])
      have ⟨x0, x1, x2⟩ := blkC (HBX3.out.ch hc (by simp))
      have hwl2 : b.refs.length = b.want.length := HWL.out
      have hlt2 : k < b.want.length := by omega
      have HW2 := Lib.hid hwl2; clear hwl2
      have HR := Lib.hid hR; clear hR
      have HV := Lib.hid hV; clear hV
      have HC := Lib.hid hc; clear hc
      clear hBM hvs hwx hr hx hrb hsz
      go_wp2_with fail
      refine Ord.St.door (fun _ => True) [.fl, .rd, .fl, .rd, .fl, .fl, .fl, .fl, .rd, .fl, .rd, .fl, .fl, .rd, .fl, .fl] [0, 1, 0, 7, 15, 31, 63, 63, 255, 63, 575, 63, 3647, 7743, 16383, 32767] [0, 1, 2, 3, 4, 5, 6, 7, 8, 9, 10, 11, 12, 13, 14, 15] mixed (by kernel_rfl) rfl ?_
      refine Ord.St.fl2 (T' := ?_) 0 [1, 2, 3, 4, 5, 6, 7, 8, 9, 10, 11, 12, 13, 14, 15] _ _ rfl (by kernel_rfl) rfl rfl rfl rfl (fun K w' hk => ?_) ?_
      rotate_left
      · go_step; exact hk
      refine Ord.St.rd2 (T' := ?_) 1 [2, 3, 4, 5, 6, 7, 8, 9, 10, 11, 12, 13, 14, 15] _ _ rfl (by kernel_rfl) rfl rfl rfl rfl (fun K hk => ?_) ?_
      rotate_left
      · go_step; exact hk
      refine Ord.St.fl2 (T' := ?_) 2 [3, 4, 5, 6, 7, 8, 9, 10, 11, 12, 13, 14, 15] _ _ rfl (by kernel_rfl) rfl rfl rfl rfl (fun K w' hk => ?_) ?_
      rotate_left
      · go_step; exact hk
      refine Ord.St.rd2 (T' := ?_) 3 [4, 5, 6, 7, 8, 9, 10, 11, 12, 13, 14, 15] _ _ rfl (by kernel_rfl) rfl rfl rfl rfl (fun K hk => ?_) ?_
      rotate_left
      · go_step; refine HR.out.mono ?_; rintro e w' ⟨rfl, rfl⟩; exact hk
      refine Ord.St.fl2 (T' := ?_) 4 [5, 6, 7, 8, 9, 10, 11, 12, 13, 14, 15] _ _ rfl (by kernel_rfl) rfl rfl rfl rfl (fun K w' hk => ?_) ?_
      rotate_left
      · go_step; exact hk
      refine Ord.St.fl2 (T' := ?_) 5 [6, 7, 8, 9, 10, 11, 12, 13, 14, 15] _ _ rfl (by kernel_rfl) rfl rfl rfl rfl (fun K w' hk => ?_) ?_
      rotate_left
      · go_step; exact hk
      first | (refine Ord.St.fl2 (T' := ?_) 6 [7, 8, 9, 10, 11, 12, 13, 14, 15] _ _ rfl (by kernel_rfl) ?_ rfl rfl rfl (fun K w' hk => ?_) ?_; rotate_left; (first | rfl | (simp [Region.wanted, yielded, *]; done)); focus (go_step; exact hk)) | (refine Ord.St.skip 6 [7, 8, 9, 10, 11, 12, 13, 14, 15] _ rfl (by kernel_rfl) ?_ (fun K hK => ?_); (first | rfl | (simp [Region.wanted, yielded, *]; done)); go_simp; refine hK _ ?_; clear hK K)
      first | (refine Ord.St.fl2 (T' := ?_) 7 [8, 9, 10, 11, 12, 13, 14, 15] _ _ rfl (by kernel_rfl) ?_ rfl rfl rfl (fun K w' hk => ?_) ?_; rotate_left; (first | rfl | (simp [Region.wanted, yielded, *]; done)); focus (go_step; exact hk)) | (refine Ord.St.skip 7 [8, 9, 10, 11, 12, 13, 14, 15] _ rfl (by kernel_rfl) ?_ (fun K hK => ?_); (first | rfl | (simp [Region.wanted, yielded, *]; done)); go_simp; refine hK _ ?_; clear hK K)
      first | (refine Ord.St.rd2 (T' := ?_) 8 [9, 10, 11, 12, 13, 14, 15] _ _ rfl (by kernel_rfl) ?_ rfl rfl rfl (fun K hk => ?_) ?_; rotate_left; (first | rfl | (simp [Region.wanted, yielded, *]; done)); focus (go_step; refine HV.out.mono ?_; rintro e w' ⟨rfl, rfl⟩; exact hk)) | (refine Ord.St.skipr 8 [9, 10, 11, 12, 13, 14, 15] _ rfl (by kernel_rfl) ?_ (fun K hK => ?_); (first | rfl | (simp [Region.wanted, yielded, *]; done)); go_simp; refine hK _ ?_; clear hK K)
      first | (refine Ord.St.fl2 (T' := ?_) 9 [10, 11, 12, 13, 14, 15] _ _ rfl (by kernel_rfl) ?_ rfl rfl rfl (fun K w' hk => ?_) ?_; rotate_left; (first | rfl | (simp [Region.wanted, yielded, *]; done)); focus (go_step; exact hk)) | (refine Ord.St.skip 9 [10, 11, 12, 13, 14, 15] _ rfl (by kernel_rfl) ?_ (fun K hK => ?_); (first | rfl | (simp [Region.wanted, yielded, *]; done)); go_simp; refine hK _ ?_; clear hK K)
      first | (refine Ord.St.rd2 (T' := ?_) 10 [11, 12, 13, 14, 15] _ _ rfl (by kernel_rfl) ?_ rfl rfl rfl (fun K hk => ?_) ?_; rotate_left; (first | rfl | (simp [Region.wanted, yielded, *]; done)); focus (go_step; exact hk)) | (refine Ord.St.skipr 10 [11, 12, 13, 14, 15] _ rfl (by kernel_rfl) ?_ (fun K hK => ?_); (first | rfl | (simp [Region.wanted, yielded, *]; done)); go_simp; refine hK _ ?_; clear hK K)
      first | (refine Ord.St.fl2 (T' := ?_) 11 [12, 13, 14, 15] _ _ rfl (by kernel_rfl) ?_ rfl rfl rfl (fun K w' hk => ?_) ?_; rotate_left; (first | rfl | (simp [Region.wanted, yielded, *]; done)); focus (go_step; exact hk)) | (refine Ord.St.skip 11 [12, 13, 14, 15] _ rfl (by kernel_rfl) ?_ (fun K hK => ?_); (first | rfl | (simp [Region.wanted, yielded, *]; done)); go_simp; refine hK _ ?_; clear hK K)
      first | (refine Ord.St.fl2 (T' := ?_) 12 [13, 14, 15] _ _ rfl (by kernel_rfl) ?_ rfl rfl rfl (fun K w' hk => ?_) ?_; rotate_left; (first | rfl | (simp [Region.wanted, yielded, *]; done)); focus (go_step; exact hk)) | (refine Ord.St.skip 12 [13, 14, 15] _ rfl (by kernel_rfl) ?_ (fun K hK => ?_); (first | rfl | (simp [Region.wanted, yielded, *]; done)); go_simp; refine hK _ ?_; clear hK K)
      first | (refine Ord.St.rd2 (T' := ?_) 13 [14, 15] _ _ rfl (by kernel_rfl) ?_ rfl rfl rfl (fun K hk => ?_) ?_; rotate_left; (first | rfl | (simp [Region.wanted, yielded, *]; done)); focus (go_step; exact hk)) | (refine Ord.St.skipr 13 [14, 15] _ rfl (by kernel_rfl) ?_ (fun K hK => ?_); (first | rfl | (simp [Region.wanted, yielded, *]; done)); go_simp; refine hK _ ?_; clear hK K)
      first | (refine Ord.St.fl2 (T' := ?_) 14 [15] _ _ rfl (by kernel_rfl) ?_ rfl rfl rfl (fun K w' hk => ?_) ?_; rotate_left; (first | rfl | (simp [Region.wanted, yielded, *]; done)); focus (go_step; exact hk)) | (refine Ord.St.skip 14 [15] _ rfl (by kernel_rfl) ?_ (fun K hK => ?_); (first | rfl | (simp [Region.wanted, yielded, *]; done)); go_simp; refine hK _ ?_; clear hK K)
      refine Ord.St.fl2 (T' := ?_) 15 [] _ _ rfl (by kernel_rfl) rfl rfl rfl rfl (fun K w' hk => ?_) ?_
      rotate_left
      · go_step; exact hk
      refine Ord.St.nil ?_
      go_wp2_with fail
      go_roundw
      case rel => exact ⟨k + 1, by omega, by go_num, HC.out.drew⟩
      case measure => simp [intOf]; omega
    · have HC := Lib.hid hc; clear hc
      go_wp2_with fail
      go_ret
      exact ⟨rfl, HCW3.out.trans HC.out (by simp)⟩
end
end Go.Proofs.Ytnajonchjlplmaa
