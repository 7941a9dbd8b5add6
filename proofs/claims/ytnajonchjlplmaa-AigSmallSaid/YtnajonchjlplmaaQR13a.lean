/-
  Walks over do, kind by kind (1, 1, 2, 2). Conditions: a graph in memory, the reference's of the same nodes, an act.
-/
import Derived.Test.YtnajonchjlplmaaQR13
namespace Go.Proofs.Ytnajonchjlplmaa
open Go.RowKit Go.Mem Go.Aig
section
set_option maxRecDepth 100000 in
set_option maxHeartbeats 8000000 in
theorem do_And_yes {w : World} {g : Nat} {G : Gra} {F : List Nat} (h : GIn w g G F) {rb cap : Nat} (hr : RG w rb cap G) (hF : rb ∉ F) {la : Option Addr} {n lcap kind : Nat} {A B C : Int} {L : List Int} (ha : ActV w F la n lcap kind A B C L) (hk : kind % 8 = 1) (hrt : ∀ x ∈ [A, B], right G.nodes x = true) :
    Calls Try.prog 61 #[.pointer (some ⟨g, 0, none⟩), .agg #[.int .i64 G.most, .slice (some ⟨rb, 0, none⟩) G.nodes.length cap], .agg #[.int .u8 kind, .int .i64 A, .int .i64 B, .int .i64 C, .slice la n lcap]] w (DoTo w g rb F (doAnd G A B).1) := by
  obtain ⟨hl, hp, hmo⟩ := hr.len
  have hle := hr.le
  have hmx := hr.mx
  have hrb := hr.lt
  have hFl := h.lt
  obtain ⟨hkb, hA, hB, hC, hLb, hLs, hLn, hLm, hLf⟩ := ha
  have q0 : ((kind : Int) % 8 == 0) = false := by simp; omega
  have q1 : ((kind : Int) % 8 == 1) = true := by simp; omega
  have q2 : ((kind : Int) % 8 == 2) = false := by simp; omega
  have q3 : ((kind : Int) % 8 == 3) = false := by simp; omega
  have q4 : ((kind : Int) % 8 == 4) = false := by simp; omega
  have q5 : ((kind : Int) % 8 == 5) = false := by simp; omega
  have q6 : ((kind : Int) % 8 == 6) = false := by simp; omega
  have q7 : ((kind : Int) % 8 == 7) = false := by simp; omega
  obtain ⟨a, rfl, ha'⟩ := right_nat (hrt A (by simp))
  obtain ⟨b, rfl, hb'⟩ := right_nat (hrt B (by simp))
  have hRR : doAnd G (a : Int) (b : Int) = Aig.and G a b := by unfold doAnd; simp only [Int.toNat_natCast]; exact whole_and hrt a b
  have hRef := fun (W : World) (hW : RG W rb cap G) => rAnd_is hW ha' hb'
  have hany : (([(a : Int), (b : Int)]).any fun x => !right G.nodes x) = false := any_no hrt
  have HANY := Lib.hid hany; clear hany
  have H := Lib.hid h; clear h
  have HR := Lib.hid hr; clear hr
  have HLS := Lib.hid hLs; clear hLs
  have HLB := Lib.hid hLb; clear hLb
  have HLF := Lib.hid hLf; clear hLf
  have HLN := Lib.hid hLn; clear hLn
  have HFL := Lib.hid hFl; clear hFl
  have HREF := Lib.hid hRef; clear hRef
  have HRR := Lib.hid hRR; clear hRR
  clear hk hrt
  go_enter Try.func61, Try.ntmps61
  go_upto_region 5 with fail
  refine wp_alw ?_
  intro W9 hW9
  have hc9 : Ch [] w W9 := by rw [hW9]; exact ((((Ch.refl _ _).alloc _).alloc _).alloc _).alloc _
  have b4 : blk W9 w.heap.size [.int .i64 G.most, .slice (some ⟨rb, 0, none⟩) G.nodes.length cap] := by rw [hW9]; exact (((blk.new' (w := w) [.int .i64 G.most, .slice (some ⟨rb, 0, none⟩) G.nodes.length cap] 105 rfl).alloc _).alloc _).alloc _
  have b5 : blk W9 (w.heap.size + 1) [.int .u8 kind, .int .i64 (a : Int), .int .i64 (b : Int), .int .i64 C, .slice la n lcap] := by rw [hW9]; exact ((blk.new' [.int .u8 kind, .int .i64 (a : Int), .int .i64 (b : Int), .int .i64 C, .slice la n lcap] 67 (by simp)).alloc _).alloc _
  have b6 : blk W9 (w.heap.size + 1 + 1) [.int .i64 0, .slice none 0 0] := by rw [hW9]; exact (blk.new' [.int .i64 0, .slice none 0 0] 105 (by simp)).alloc _
  have bAB : row W9 3 1 (.slice (some ⟨w.heap.size + 1 + 1 + 1, 0, none⟩) 2 2) 2 [.int .i64 (a : Int), .int .i64 (b : Int)] := ⟨rfl, .inr ⟨_, 2, #[.int .i64 (a : Int), .int .i64 (b : Int)], rfl, Nat.zero_le _, by rw [hW9]; exact (heap_alloc_at _ (by simp)), Nat.le_refl _, by unfold maxLen; omega, rfl, rfl⟩⟩
  clear hW9
  have x50 := b5.cell (i := 0) rfl
  have x51 := b5.cell (i := 1) rfl
  have x52 := b5.cell (i := 2) rfl
  have x53 := b5.cell (i := 3) rfl
  have x54 := b5.cell (i := 4) rfl
  have HC9 := Lib.hid hc9; clear hc9
  have B4 := Lib.hid b4; clear b4
  have B5 := Lib.hid b5; clear b5
  have B6 := Lib.hid b6; clear b6
  have BAB := Lib.hid bAB; clear bAB
  go_upto_region 14 with fail
  clear x50 x51 x52 x53 x54
  obtain ⟨W1, rfl⟩ : ∃ W1 : World, W1 = W9 := ⟨_, rfl⟩
  have b4 := B4.out
  have b5 := B5.out
  have b6 := B6.out
  have hc1 : Ch [] w W1 := HC9.out
  have hasl : Sl W1 (some ⟨w.heap.size + 1 + 1 + 1, 0, none⟩) [(a : Int), (b : Int)] := Sl.of_ints (n := 2) (cap := 2) (e := 3) BAB.out (by omega)
  have haln : ([(a : Int), (b : Int)]).length = 2 := rfl
  have hCF := CFint_ch 2 2 72 #[.pointer (some ⟨w.heap.size, 0, none⟩)] (fun x => !right G.nodes x) haln hasl (fun W hW x _ => do1_is (HR.out.ch (hc1.trans hW (by simp)) (by simp)) (b4.ch hW (by simp)) x) fnvDo1
  rw [HANY.out] at hCF
  have HCF := Lib.hid hCF; clear hCF hasl haln
  have BB4 := Lib.hid b4; clear b4
  have BB5 := Lib.hid b5; clear b5
  have BB6 := Lib.hid b6; clear b6
  have HC1 := Lib.hid hc1; clear hc1
  go_wp2_with fail
  refine HCF.out.mono ?_
  rintro e w2 ⟨rfl, hc2⟩
  have b4 := BB4.out.ch hc2 (by simp)
  have b5 := BB5.out.ch hc2 (by simp)
  have y40 := b4.cell (i := 0) rfl
  have y41 := b4.cell (i := 1) rfl
  have x54 := b5.cell (i := 4) rfl
  have hb5l := b5.lt
  have hcA2 : Ch [] w2 (w2.alloc (.cells #[.int .i64 G.most, .slice (some ⟨rb, 0, none⟩) G.nodes.length cap] 105)) := (Ch.refl _ _).alloc _
  have b14 : blk (w2.alloc (.cells #[.int .i64 G.most, .slice (some ⟨rb, 0, none⟩) G.nodes.length cap] 105)) w2.heap.size [.int .i64 G.most, .slice (some ⟨rb, 0, none⟩) G.nodes.length cap] := blk.new' [.int .i64 G.most, .slice (some ⟨rb, 0, none⟩) G.nodes.length cap] 105 rfl
  have hcw2 := (HC1.out.trans hc2 (by simp)).trans hcA2 (by simp)
  have hRf := refs20_is n lcap HLN.out (HLS.out.ch hcw2 (by simp)) hLm
  have HRF := Lib.hid hRf; clear hRf b4 b5
  have HC2 := Lib.hid hc2; clear hc2
  have HCA2 := Lib.hid hcA2; clear hcA2
  have HCW2 := Lib.hid hcw2; clear hcw2
  have B14 := Lib.hid b14; clear b14
  clear HCF
  go_wp2_with fail
  refine HRF.out.mono ?_
  rintro e w3 ⟨v, rfl, hrow, hlo, hc3⟩
  obtain ⟨oa, oc, rfl⟩ := row.shape hrow
  have hcw3 := HCW2.out.trans hc3 (by simp)
  have hg3 := H.out.same hcw3 (by simp)
  have b4 := ((BB4.out.ch HC2.out (by simp)).ch HCA2.out (by simp)).ch hc3 (by simp)
  have b5 := ((BB5.out.ch HC2.out (by simp)).ch HCA2.out (by simp)).ch hc3 (by simp)
  have b6 := ((BB6.out.ch HC2.out (by simp)).ch HCA2.out (by simp)).ch hc3 (by simp)
  have b14 := B14.out.ch hc3 (by simp)
  have hos := Sl.of_ints hrow hLm
  have h14 : w.heap.size + 1 + 1 < w2.heap.size := Nat.lt_of_lt_of_le BB6.out.lt HC2.out.size
  have hof : ∀ p, oa = some p → p.block < w3.heap.size ∧ p.block ∉ F := fun p hp => by
    subst hp
    have h1 := (hrow.lt p.block rfl).2
    have h2 := hlo p.block (by simp)
    refine ⟨h1, fun hin => ?_⟩
    have := HFL.out _ hin
    simp at h2
    omega
  have hLb := HLB.out
  have hLn := HLN.out
  have hP := And_g hg3 (a : Int) (b : Int) hA.2 hB.2
  rw [HRR.out] at hP
  clear hLb hLn
  obtain ⟨R, hR⟩ : ∃ R, R = Aig.and G a b := ⟨_, rfl⟩
  rw [← hR] at hP
  have HRE := Lib.hid hR; clear hR
  have h5F : ∀ q, w.heap.size ≤ q → q ∉ F := fun q hq hin => by have := HFL.out q hin; omega
  have HP := Lib.hid hP; clear hP
  have x50 := b5.cell (i := 0) rfl
  have x51 := b5.cell (i := 1) rfl
  have x52 := b5.cell (i := 2) rfl
  have x53 := b5.cell (i := 3) rfl
  have x54' := b5.cell (i := 4) rfl
  have HOS := Lib.hid hos; clear hos
  have hoo : ∀ p, oa = some p → w2.heap.size < p.block := fun p hp => by subst hp; have := hlo p.block (by simp); simp at this; omega
  have HOO := Lib.hid hoo; clear hoo
  have HOF := Lib.hid hof; clear hof
  have HC3 := Lib.hid hcw3; clear hcw3 hc3 hg3
  have B43 := Lib.hid b4; clear b4
  have B53 := Lib.hid b5; clear b5
  have B63 := Lib.hid b6; clear b6
  have B143 := Lib.hid b14; clear b14
  have H5F := Lib.hid h5F; clear h5F
  clear hrow hlo y40 y41 x54 HRF B14 BB4 BB5 BB6 HCW2 HCA2 HC2
  go_wp2_with fail
  refine HP.out.mono ?_
  rintro e w4 ⟨rfl, hto⟩
  obtain ⟨F', hg4, hc34, hF4⟩ := hto
  have b4 := B43.out.ch hc34 (H5F.out _ (by omega))
  have b5 := B53.out.ch hc34 (H5F.out _ (by omega))
  have b6 := B63.out.ch hc34 (H5F.out _ (by omega))
  have b14 := B143.out.ch hc34 (H5F.out _ (by omega))
  have hos := HOS.out.ch hc34 (fun p hp => (HOF.out p hp).2)
  have hrg := (HR.out.ch HC3.out (by simp)).ch hc34 hF
  have hls := (HLS.out.ch HC3.out (by simp)).ch2 hc34 (fun hn p hp => (HLF.out (by rw [← HLN.out]; exact hn) p hp).2)
  have hcw4 := (HC3.out.mono (F' := F) (by simp)).trans hc34 (fun k hk => .inl hk)
  have hs4 := hcw4.size
  have hs34 := hc34.size
  have hFl4 : ∀ k ∈ F', k ∈ F ∨ w.heap.size ≤ k := fun k hk => (hF4 k hk).imp id (fun e => by have := HC3.out.size; omega)
  have hFn : ∀ q, q < w3.heap.size → q ∉ F → q ∉ F' := fun q h1 h2 hin => (hF4 q hin).elim h2 (by omega)
  have hrF : rb ∉ F' := hFn rb (by have := HC3.out.size; omega) hF
  have h6F : w.heap.size + 1 + 1 ∉ F' := hFn _ B63.out.lt (H5F.out _ (by omega))
  have h14F : w2.heap.size ∉ F' := hFn _ B143.out.lt (H5F.out _ (by omega))
  have hgl : ∀ k ∈ F', k < w4.heap.size := hg4.lt
  have z40 := b4.cell (i := 0) rfl
  have z41 := b4.cell (i := 1) rfl
  have z51 := b5.cell (i := 1) rfl
  have z52 := b5.cell (i := 2) rfl
  have z53 := b5.cell (i := 3) rfl
  have z54 := b5.cell (i := 4) rfl
  have z60 := b6.cell (i := 0) rfl
  have z61 := b6.cell (i := 1) rfl
  have f60 := b6.frozen (i := 0)
  have f61 := b6.frozen (i := 1)
  have B44 := Lib.hid b4; clear b4
  have B54 := Lib.hid b5; clear b5
  have B64 := Lib.hid b6; clear b6
  have B144 := Lib.hid b14; clear b14
  have HOS4 := Lib.hid hos; clear hos
  have HRG := Lib.hid hrg; clear hrg
  have HLS4 := Lib.hid hls; clear hls
  have HCW4 := Lib.hid hcw4; clear hcw4
  have HG4 := Lib.hid hg4; clear hg4
  have HF4' := Lib.hid hFl4; clear hFl4
  have HGL := Lib.hid hgl; clear hgl
  clear hc34 hF4 hFn HP HOS HC3 B43 B53 B63 B143 x50 x51 x52 x53 x54'
  have hQ := HREF.out _ HRG.out
  rw [← HRE.out] at hQ
  have HQ := Lib.hid hQ; clear hQ
  go_wp2_with fail
  refine HQ.out.mono ?_
  rintro e w5 ⟨rb1, cap1, rfl, hrg1, hc5, hfr1⟩
  have b5 := B54.out.ch hc5 (by simp)
  have b6 := B64.out.ch hc5 (by simp)
  have b14 := B144.out.ch hc5 (by simp)
  have u0 := b14.cell (i := 0) rfl
  have u1 := b14.cell (i := 1) rfl
  have e0 := b14.frozen (i := 0)
  have e1 := b14.frozen (i := 1)
  have h1F : rb1 ∉ F' := fun hin => by have := HGL.out _ hin; rcases hfr1 with e | e; (exact hrF (e ▸ hin)); omega
  have h1w : rb1 = rb ∨ w.heap.size ≤ rb1 := hfr1.imp id (fun e => by omega)
  have h6r : rb1 ≠ w.heap.size + 1 + 1 := by have := B64.out.lt; rcases hfr1 with e | e <;> omega
  have h14r : rb1 ≠ w2.heap.size := by have := B144.out.lt; rcases hfr1 with e | e <;> omega
  have B55 := Lib.hid b5; clear b5
  have B65 := Lib.hid b6; clear b6
  have B145 := Lib.hid b14; clear b14
  have HC5 := Lib.hid hc5; clear hc5
  have HRG1 := Lib.hid hrg1; clear hrg1
  clear hfr1 z40 z41 z51 z52 z53 z54 z60 z61 f60 f61
  go_upto_region 47 with fail
  refine wp_alw ?_
  intro W6 hW6
  have b14 : blk W6 w2.heap.size [.int .i64 R.1.most, .slice (some ⟨rb1, 0, none⟩) R.1.nodes.length cap1] := by rw [hW6]; exact (B145.out.set (i := 0) _).set (i := 1) _
  have hc56 := set2_ch hW6
  have hc46 : Ch [w2.heap.size] w4 W6 := (HC5.out.mono (by simp)).trans hc56 (by simp)
  have b5 := B55.out.ch hc56 (by simp; omega)
  have b6 := B65.out.ch hc56 (by simp; omega)
  have hrg6 := HRG1.out.ch hc56 (by simpa using h14r)
  clear hW6
  have v54 := b5.cell (i := 4) rfl
  have BX5 := Lib.hid b5; clear b5
  have BX6 := Lib.hid b6; clear b6
  have BX14 := Lib.hid b14; clear b14
  have HRG6 := Lib.hid hrg6; clear hrg6
  have H46 := Lib.hid hc46; clear hc46
  have hwd : Ch [] W6 W6.drew := (Ch.refl _ _).drew
  have hls6 := HLS4.out.ch2 H46.out (fun hn p hp => by have := (HLF.out (by rw [← HLN.out]; exact hn) p hp).1; simp; omega)
  have hos6 := HOS4.out.ch H46.out (fun p hp => by have := HOO.out p hp; simp; omega)
  have hRf := refs20_is n lcap HLN.out (hls6.ch hwd (by simp)) hLm
  have HRF := Lib.hid hRf; clear hRf hls6
  have HOS6 := Lib.hid hos6; clear hos6
  clear B55 B65 B145 HRG1 u0 u1 e0 e1 hc56
  go_wp2_with fail
  refine Ord.St.door (fun w' => Ch [] W6 w') [.ho, .fl, .fl, .fl, .fl, .fl, .fl, .fl, .fl, .fl, .fl, .fl, .rd, .ef, .ef, .fl, .ef, .fl] [0, 0, 0, 6, 14, 30, 30, 126, 254, 510, 1022, 1022, 3070, 7166, 16382, 32766, 32767, 131071] [0, 1, 2, 3, 4, 5, 6, 7, 8, 9, 10, 11, 12, 13, 14, 15, 16, 17] mixed (by kernel_rfl) rfl ?_
  refine Ord.St.ho2 (T' := ?_) 0 [1, 2, 3, 4, 5, 6, 7, 8, 9, 10, 11, 12, 13, 14, 15, 16, 17] _ _ rfl (by kernel_rfl) rfl rfl rfl rfl ?_ (fun K w' hw' hk => ?_) ?_
  rotate_left
  · trivial
  · have y0 := (BX14.out.ch hw' (by simp)).cell (i := 0) rfl; have y1 := (BX14.out.ch hw' (by simp)).cell (i := 1) rfl; go_step; exact hk
  refine Ord.St.fl2 (T' := ?_) 1 [2, 3, 4, 5, 6, 7, 8, 9, 10, 11, 12, 13, 14, 15, 16, 17] _ _ rfl (by kernel_rfl) rfl rfl rfl rfl (fun K w' hk => ?_) ?_
  rotate_left
  · go_step; exact hk
  refine Ord.St.fl2 (T' := ?_) 2 [3, 4, 5, 6, 7, 8, 9, 10, 11, 12, 13, 14, 15, 16, 17] _ _ rfl (by kernel_rfl) rfl rfl rfl rfl (fun K w' hk => ?_) ?_
  rotate_left
  · go_step; exact hk
  refine Ord.St.fl2 (T' := ?_) 3 [4, 5, 6, 7, 8, 9, 10, 11, 12, 13, 14, 15, 16, 17] _ _ rfl (by kernel_rfl) rfl rfl rfl rfl (fun K w' hk => ?_) ?_
  rotate_left
  · go_step; exact hk
  refine Ord.St.fl2 (T' := ?_) 4 [5, 6, 7, 8, 9, 10, 11, 12, 13, 14, 15, 16, 17] _ _ rfl (by kernel_rfl) rfl rfl rfl rfl (fun K w' hk => ?_) ?_
  rotate_left
  · go_step; exact hk
  first | (refine Ord.St.fl2 (T' := ?_) 5 [6, 7, 8, 9, 10, 11, 12, 13, 14, 15, 16, 17] _ _ rfl (by kernel_rfl) ?_ rfl rfl rfl (fun K w' hk => ?_) ?_; rotate_left; (first | rfl | (simp [Region.wanted, yielded, *]; done)); focus (go_step; exact hk)) | (refine Ord.St.skip 5 [6, 7, 8, 9, 10, 11, 12, 13, 14, 15, 16, 17] _ rfl (by kernel_rfl) ?_ (fun K hK => ?_); (first | rfl | (simp [Region.wanted, yielded, *]; done)); go_simp; refine hK _ ?_; clear hK K)
  first | (refine Ord.St.fl2 (T' := ?_) 6 [7, 8, 9, 10, 11, 12, 13, 14, 15, 16, 17] _ _ rfl (by kernel_rfl) ?_ rfl rfl rfl (fun K w' hk => ?_) ?_; rotate_left; (first | rfl | (simp [Region.wanted, yielded, *]; done)); focus (go_step; exact hk)) | (refine Ord.St.skip 6 [7, 8, 9, 10, 11, 12, 13, 14, 15, 16, 17] _ rfl (by kernel_rfl) ?_ (fun K hK => ?_); (first | rfl | (simp [Region.wanted, yielded, *]; done)); go_simp; refine hK _ ?_; clear hK K)
  first | (refine Ord.St.fl2 (T' := ?_) 7 [8, 9, 10, 11, 12, 13, 14, 15, 16, 17] _ _ rfl (by kernel_rfl) ?_ rfl rfl rfl (fun K w' hk => ?_) ?_; rotate_left; (first | rfl | (simp [Region.wanted, yielded, *]; done)); focus (go_step; exact hk)) | (refine Ord.St.skip 7 [8, 9, 10, 11, 12, 13, 14, 15, 16, 17] _ rfl (by kernel_rfl) ?_ (fun K hK => ?_); (first | rfl | (simp [Region.wanted, yielded, *]; done)); go_simp; refine hK _ ?_; clear hK K)
  refine Ord.St.fl2 (T' := ?_) 8 [9, 10, 11, 12, 13, 14, 15, 16, 17] _ _ rfl (by kernel_rfl) rfl rfl rfl rfl (fun K w' hk => ?_) ?_
  rotate_left
  · go_step; exact hk
  refine Ord.St.fl2 (T' := ?_) 9 [10, 11, 12, 13, 14, 15, 16, 17] _ _ rfl (by kernel_rfl) rfl rfl rfl rfl (fun K w' hk => ?_) ?_
  rotate_left
  · go_step; exact hk
  first | (refine Ord.St.fl2 (T' := ?_) 10 [11, 12, 13, 14, 15, 16, 17] _ _ rfl (by kernel_rfl) ?_ rfl rfl rfl (fun K w' hk => ?_) ?_; rotate_left; (first | rfl | (simp [Region.wanted, yielded, *]; done)); focus (go_step; exact hk)) | (refine Ord.St.skip 10 [11, 12, 13, 14, 15, 16, 17] _ rfl (by kernel_rfl) ?_ (fun K hK => ?_); (first | rfl | (simp [Region.wanted, yielded, *]; done)); go_simp; refine hK _ ?_; clear hK K)
  first | (refine Ord.St.fl2 (T' := ?_) 11 [12, 13, 14, 15, 16, 17] _ _ rfl (by kernel_rfl) ?_ rfl rfl rfl (fun K w' hk => ?_) ?_; rotate_left; (first | rfl | (simp [Region.wanted, yielded, *]; done)); focus (go_step; exact hk)) | (refine Ord.St.skip 11 [12, 13, 14, 15, 16, 17] _ rfl (by kernel_rfl) ?_ (fun K hK => ?_); (first | rfl | (simp [Region.wanted, yielded, *]; done)); go_simp; refine hK _ ?_; clear hK K)
  first | (refine Ord.St.rd2 (T' := ?_) 12 [13, 14, 15, 16, 17] _ _ rfl (by kernel_rfl) ?_ rfl rfl rfl (fun K hk => ?_) ?_; rotate_left; (first | rfl | (simp [Region.wanted, yielded, *]; done)); focus (go_step; exact hk)) | (refine Ord.St.skipr 12 [13, 14, 15, 16, 17] _ rfl (by kernel_rfl) ?_ (fun K hK => ?_); (first | rfl | (simp [Region.wanted, yielded, *]; done)); go_simp; refine hK _ ?_; clear hK K)
  refine Ord.St.efC 13 [14, 15, 16, 17] _ rfl (by kernel_rfl) (fun K hK => ?_)
  go_wp2_with fail
  refine HRF.out.mono ?_
  rintro e w7 ⟨v, rfl, hrow, hlo, hc7⟩
  obtain ⟨pa, pc, rfl⟩ := row.shape hrow
  have hcur : Ch [] W6 w7 := hwd.trans hc7 (by simp)
  have hE := Eqref_same (n := n) oc pc HLN.out (HOS6.out.ch hcur (by simp)) (Sl.of_ints hrow hLm)
  have HE := Lib.hid hE; clear hE hrow hlo hc7 v54
  go_wp2_with fail
  refine ⟨rfl, hK _ _ ?_ ?_⟩
  · exact hcur
  clear hK K
  refine Ord.St.efC 14 [15, 16, 17] _ rfl (by kernel_rfl) (fun K hK => ?_)
  go_wp2_with fail
  refine HE.out.mono ?_
  rintro e w8 ⟨rfl, hc8⟩
  have hcur5 := hcur.trans hc8 (by simp)
  have b6 := BX6.out.ch hcur5 (by simp)
  have v60 := b6.cell (i := 0) rfl
  have v61 := b6.cell (i := 1) rfl
  have g60 := b6.frozen (i := 0)
  have g61 := b6.frozen (i := 1)
  clear b6
  go_wp2_with fail
  refine ⟨rfl, hK _ _ ?_ ?_⟩
  · exact hcur5
  clear hK K
  refine Ord.St.fl2 (T' := ?_) 15 [16, 17] _ _ rfl (by kernel_rfl) rfl rfl rfl rfl (fun K w' hk => ?_) ?_
  rotate_left
  · go_step; exact hk
  refine Ord.St.ef 16 [17] _ rfl (by kernel_rfl) (fun K hK => ?_)
  go_wp2_with fail
  refine ⟨rfl, hK _ _ ?_⟩; clear hK K
  refine Ord.St.fl2 (T' := ?_) 17 [] _ _ rfl (by kernel_rfl) rfl rfl rfl rfl (fun K w' hk => ?_) ?_
  rotate_left
  · go_step; exact hk
  refine Ord.St.nil ?_
  go_wp2_with fail
  have hcc := set2_ch (w := w8) (b := w.heap.size + 1 + 1) (u := .int .i64 R.1.most) (v := .slice (some ⟨rb1, 0, none⟩) R.1.nodes.length cap1) rfl
  refine bodyPost_ret (v := .tuple #[.agg #[.int .i64 R.1.most, .slice (some ⟨rb1, 0, none⟩) R.1.nodes.length cap1], .bool true]) (by simp [results, Try.results61, go_sem, v60, v61]) rfl ?_
  rw [HRR.out, ← HRE.out]
  exact ⟨rb1, cap1, F', rfl, ((HG4.out.same H46.out (fun k hk => by simp; intro e; subst e; exact h14F hk)).same hcur5 (by simp)).same hcc (fun k hk => by simp; intro e; subst e; exact h6F hk), (HRG6.out.ch hcur5 (by simp)).ch hcc (by simpa using h6r), h1F, ((HCW4.out.trans H46.out (fun k hk => .inr (by simp at hk; omega))).trans hcur5 (by simp)).trans hcc (fun k hk => .inr (by simp at hk; omega)), HF4'.out, h1w⟩
set_option maxRecDepth 100000 in
set_option maxHeartbeats 8000000 in
theorem do_And_no {w : World} {g : Nat} {G : Gra} {F : List Nat} (h : GIn w g G F) {rb cap : Nat} (hr : RG w rb cap G) (hF : rb ∉ F) {la : Option Addr} {n lcap kind : Nat} {A B C : Int} {L : List Int} (ha : ActV w F la n lcap kind A B C L) (hk : kind % 8 = 1) (hrt : ∃ x ∈ [A, B], right G.nodes x = false) :
    Calls Try.prog 61 #[.pointer (some ⟨g, 0, none⟩), .agg #[.int .i64 G.most, .slice (some ⟨rb, 0, none⟩) G.nodes.length cap], .agg #[.int .u8 kind, .int .i64 A, .int .i64 B, .int .i64 C, .slice la n lcap]] w (DoTo w g rb F G) := by
  obtain ⟨hl, hp, hmo⟩ := hr.len
  have hle := hr.le
  have hmx := hr.mx
  have hrb := hr.lt
  have hFl := h.lt
  obtain ⟨hkb, hA, hB, hC, hLb, hLs, hLn, hLm, hLf⟩ := ha
  have q0 : ((kind : Int) % 8 == 0) = false := by simp; omega
  have q1 : ((kind : Int) % 8 == 1) = true := by simp; omega
  have q2 : ((kind : Int) % 8 == 2) = false := by simp; omega
  have q3 : ((kind : Int) % 8 == 3) = false := by simp; omega
  have q4 : ((kind : Int) % 8 == 4) = false := by simp; omega
  have q5 : ((kind : Int) % 8 == 5) = false := by simp; omega
  have q6 : ((kind : Int) % 8 == 6) = false := by simp; omega
  have q7 : ((kind : Int) % 8 == 7) = false := by simp; omega
  have hRR : doAnd G A B = (G, 0, 200) := by obtain ⟨x, hx, hxr⟩ := hrt; exact whole_no hx hxr
  have hany : (([A, B]).any fun x => !right G.nodes x) = true := by
    obtain ⟨x, hx, hxr⟩ := hrt
    rw [List.any_eq_true]
    exact ⟨x, hx, by rw [hxr]; rfl⟩
  have HANY := Lib.hid hany; clear hany
  have H := Lib.hid h; clear h
  have HR := Lib.hid hr; clear hr
  have HLS := Lib.hid hLs; clear hLs
  have HLB := Lib.hid hLb; clear hLb
  have HLF := Lib.hid hLf; clear hLf
  have HLN := Lib.hid hLn; clear hLn
  have HFL := Lib.hid hFl; clear hFl
  have HRR := Lib.hid hRR; clear hRR
  clear hk hrt
  go_enter Try.func61, Try.ntmps61
  go_upto_region 5 with fail
  refine wp_alw ?_
  intro W9 hW9
  have hc9 : Ch [] w W9 := by rw [hW9]; exact ((((Ch.refl _ _).alloc _).alloc _).alloc _).alloc _
  have b4 : blk W9 w.heap.size [.int .i64 G.most, .slice (some ⟨rb, 0, none⟩) G.nodes.length cap] := by rw [hW9]; exact (((blk.new' (w := w) [.int .i64 G.most, .slice (some ⟨rb, 0, none⟩) G.nodes.length cap] 105 rfl).alloc _).alloc _).alloc _
  have b5 : blk W9 (w.heap.size + 1) [.int .u8 kind, .int .i64 A, .int .i64 B, .int .i64 C, .slice la n lcap] := by rw [hW9]; exact ((blk.new' [.int .u8 kind, .int .i64 A, .int .i64 B, .int .i64 C, .slice la n lcap] 67 (by simp)).alloc _).alloc _
  have b6 : blk W9 (w.heap.size + 1 + 1) [.int .i64 0, .slice none 0 0] := by rw [hW9]; exact (blk.new' [.int .i64 0, .slice none 0 0] 105 (by simp)).alloc _
  have bAB : row W9 3 1 (.slice (some ⟨w.heap.size + 1 + 1 + 1, 0, none⟩) 2 2) 2 [.int .i64 A, .int .i64 B] := ⟨rfl, .inr ⟨_, 2, #[.int .i64 A, .int .i64 B], rfl, Nat.zero_le _, by rw [hW9]; exact (heap_alloc_at _ (by simp)), Nat.le_refl _, by unfold maxLen; omega, rfl, rfl⟩⟩
  clear hW9
  have x50 := b5.cell (i := 0) rfl
  have x51 := b5.cell (i := 1) rfl
  have x52 := b5.cell (i := 2) rfl
  have x53 := b5.cell (i := 3) rfl
  have x54 := b5.cell (i := 4) rfl
  have HC9 := Lib.hid hc9; clear hc9
  have B4 := Lib.hid b4; clear b4
  have B5 := Lib.hid b5; clear b5
  have B6 := Lib.hid b6; clear b6
  have BAB := Lib.hid bAB; clear bAB
  go_upto_region 14 with fail
  clear x50 x51 x52 x53 x54
  obtain ⟨W1, rfl⟩ : ∃ W1 : World, W1 = W9 := ⟨_, rfl⟩
  have b4 := B4.out
  have b5 := B5.out
  have b6 := B6.out
  have hc1 : Ch [] w W1 := HC9.out
  have hasl : Sl W1 (some ⟨w.heap.size + 1 + 1 + 1, 0, none⟩) [A, B] := Sl.of_ints (n := 2) (cap := 2) (e := 3) BAB.out (by omega)
  have haln : ([A, B]).length = 2 := rfl
  have hCF := CFint_ch 2 2 72 #[.pointer (some ⟨w.heap.size, 0, none⟩)] (fun x => !right G.nodes x) haln hasl (fun W hW x _ => do1_is (HR.out.ch (hc1.trans hW (by simp)) (by simp)) (b4.ch hW (by simp)) x) fnvDo1
  rw [HANY.out] at hCF
  have HCF := Lib.hid hCF; clear hCF hasl haln
  have BB4 := Lib.hid b4; clear b4
  have BB5 := Lib.hid b5; clear b5
  have BB6 := Lib.hid b6; clear b6
  have HC1 := Lib.hid hc1; clear hc1
  go_wp2_with fail
  refine HCF.out.mono ?_
  rintro e w2 ⟨rfl, hc2⟩
  have b4 := BB4.out.ch hc2 (by simp)
  have b5 := BB5.out.ch hc2 (by simp)
  have y40 := b4.cell (i := 0) rfl
  have y41 := b4.cell (i := 1) rfl
  have x54 := b5.cell (i := 4) rfl
  have hb5l := b5.lt
  have hcA2 : Ch [] w2 (w2.alloc (.cells #[.int .i64 G.most, .slice (some ⟨rb, 0, none⟩) G.nodes.length cap] 105)) := (Ch.refl _ _).alloc _
  have b14 : blk (w2.alloc (.cells #[.int .i64 G.most, .slice (some ⟨rb, 0, none⟩) G.nodes.length cap] 105)) w2.heap.size [.int .i64 G.most, .slice (some ⟨rb, 0, none⟩) G.nodes.length cap] := blk.new' [.int .i64 G.most, .slice (some ⟨rb, 0, none⟩) G.nodes.length cap] 105 rfl
  have hcw2 := (HC1.out.trans hc2 (by simp)).trans hcA2 (by simp)
  have hRf := refs20_is n lcap HLN.out (HLS.out.ch hcw2 (by simp)) hLm
  have HRF := Lib.hid hRf; clear hRf b4 b5
  have HC2 := Lib.hid hc2; clear hc2
  have HCA2 := Lib.hid hcA2; clear hcA2
  have HCW2 := Lib.hid hcw2; clear hcw2
  have B14 := Lib.hid b14; clear b14
  clear HCF
  go_wp2_with fail
  refine HRF.out.mono ?_
  rintro e w3 ⟨v, rfl, hrow, hlo, hc3⟩
  obtain ⟨oa, oc, rfl⟩ := row.shape hrow
  have hcw3 := HCW2.out.trans hc3 (by simp)
  have hg3 := H.out.same hcw3 (by simp)
  have b4 := ((BB4.out.ch HC2.out (by simp)).ch HCA2.out (by simp)).ch hc3 (by simp)
  have b5 := ((BB5.out.ch HC2.out (by simp)).ch HCA2.out (by simp)).ch hc3 (by simp)
  have b6 := ((BB6.out.ch HC2.out (by simp)).ch HCA2.out (by simp)).ch hc3 (by simp)
  have b14 := B14.out.ch hc3 (by simp)
  have hos := Sl.of_ints hrow hLm
  have h14 : w.heap.size + 1 + 1 < w2.heap.size := Nat.lt_of_lt_of_le BB6.out.lt HC2.out.size
  have hof : ∀ p, oa = some p → p.block < w3.heap.size ∧ p.block ∉ F := fun p hp => by
    subst hp
    have h1 := (hrow.lt p.block rfl).2
    have h2 := hlo p.block (by simp)
    refine ⟨h1, fun hin => ?_⟩
    have := HFL.out _ hin
    simp at h2
    omega
  have hLb := HLB.out
  have hLn := HLN.out
  have hP := And_g hg3 A B hA.2 hB.2
  rw [HRR.out] at hP
  clear hLb hLn
  have h5F : ∀ q, w.heap.size ≤ q → q ∉ F := fun q hq hin => by have := HFL.out q hin; omega
  have HP := Lib.hid hP; clear hP
  have x50 := b5.cell (i := 0) rfl
  have x51 := b5.cell (i := 1) rfl
  have x52 := b5.cell (i := 2) rfl
  have x53 := b5.cell (i := 3) rfl
  have x54' := b5.cell (i := 4) rfl
  have HOS := Lib.hid hos; clear hos
  have hoo : ∀ p, oa = some p → w2.heap.size < p.block := fun p hp => by subst hp; have := hlo p.block (by simp); simp at this; omega
  have HOO := Lib.hid hoo; clear hoo
  have HOF := Lib.hid hof; clear hof
  have HC3 := Lib.hid hcw3; clear hcw3 hc3 hg3
  have B43 := Lib.hid b4; clear b4
  have B53 := Lib.hid b5; clear b5
  have B63 := Lib.hid b6; clear b6
  have B143 := Lib.hid b14; clear b14
  have H5F := Lib.hid h5F; clear h5F
  clear hrow hlo y40 y41 x54 HRF B14 BB4 BB5 BB6 HCW2 HCA2 HC2
  go_wp2_with fail
  refine HP.out.mono ?_
  rintro e w4 ⟨rfl, hto⟩
  obtain ⟨F', hg4, hc34, hF4⟩ := hto
  have b4 := B43.out.ch hc34 (H5F.out _ (by omega))
  have b5 := B53.out.ch hc34 (H5F.out _ (by omega))
  have b6 := B63.out.ch hc34 (H5F.out _ (by omega))
  have b14 := B143.out.ch hc34 (H5F.out _ (by omega))
  have hos := HOS.out.ch hc34 (fun p hp => (HOF.out p hp).2)
  have hrg := (HR.out.ch HC3.out (by simp)).ch hc34 hF
  have hls := (HLS.out.ch HC3.out (by simp)).ch2 hc34 (fun hn p hp => (HLF.out (by rw [← HLN.out]; exact hn) p hp).2)
  have hcw4 := (HC3.out.mono (F' := F) (by simp)).trans hc34 (fun k hk => .inl hk)
  have hs4 := hcw4.size
  have hs34 := hc34.size
  have hFl4 : ∀ k ∈ F', k ∈ F ∨ w.heap.size ≤ k := fun k hk => (hF4 k hk).imp id (fun e => by have := HC3.out.size; omega)
  have hFn : ∀ q, q < w3.heap.size → q ∉ F → q ∉ F' := fun q h1 h2 hin => (hF4 q hin).elim h2 (by omega)
  have hrF : rb ∉ F' := hFn rb (by have := HC3.out.size; omega) hF
  have h6F : w.heap.size + 1 + 1 ∉ F' := hFn _ B63.out.lt (H5F.out _ (by omega))
  have h14F : w2.heap.size ∉ F' := hFn _ B143.out.lt (H5F.out _ (by omega))
  have hgl : ∀ k ∈ F', k < w4.heap.size := hg4.lt
  have z40 := b4.cell (i := 0) rfl
  have z41 := b4.cell (i := 1) rfl
  have z51 := b5.cell (i := 1) rfl
  have z52 := b5.cell (i := 2) rfl
  have z53 := b5.cell (i := 3) rfl
  have z54 := b5.cell (i := 4) rfl
  have z60 := b6.cell (i := 0) rfl
  have z61 := b6.cell (i := 1) rfl
  have f60 := b6.frozen (i := 0)
  have f61 := b6.frozen (i := 1)
  have B44 := Lib.hid b4; clear b4
  have B54 := Lib.hid b5; clear b5
  have B64 := Lib.hid b6; clear b6
  have B144 := Lib.hid b14; clear b14
  have HOS4 := Lib.hid hos; clear hos
  have HRG := Lib.hid hrg; clear hrg
  have HLS4 := Lib.hid hls; clear hls
  have HCW4 := Lib.hid hcw4; clear hcw4
  have HG4 := Lib.hid hg4; clear hg4
  have HF4' := Lib.hid hFl4; clear hFl4
  have HGL := Lib.hid hgl; clear hgl
  clear hc34 hF4 hFn HP HOS HC3 B43 B53 B63 B143 x50 x51 x52 x53 x54'
  have hwd : Ch [] w4 w4.drew := (Ch.refl _ _).drew
  have hRf := refs20_is n lcap HLN.out (HLS4.out.ch hwd (by simp)) hLm
  have HRF := Lib.hid hRf; clear hRf
  go_wp2_with fail
  refine Ord.St.door (fun w' => Ch [] w4 w') [.ho, .fl, .fl, .fl, .fl, .fl, .fl, .fl, .fl, .fl, .rd, .ef, .ef, .fl, .ef, .fl] [0, 0, 2, 6, 14, 30, 62, 126, 254, 254, 766, 1790, 4094, 8190, 8191, 32767] [0, 1, 2, 3, 4, 5, 6, 7, 8, 9, 10, 11, 12, 13, 14, 15] mixed (by kernel_rfl) rfl ?_
  refine Ord.St.ho2 (T' := ?_) 0 [1, 2, 3, 4, 5, 6, 7, 8, 9, 10, 11, 12, 13, 14, 15] _ _ rfl (by kernel_rfl) rfl rfl rfl rfl ?_ (fun K w' hw' hk => ?_) ?_
  rotate_left
  · trivial
  · have y0 := (B44.out.ch hw' (by simp)).cell (i := 0) rfl; have y1 := (B44.out.ch hw' (by simp)).cell (i := 1) rfl; go_step; exact hk
  refine Ord.St.fl2 (T' := ?_) 1 [2, 3, 4, 5, 6, 7, 8, 9, 10, 11, 12, 13, 14, 15] _ _ rfl (by kernel_rfl) rfl rfl rfl rfl (fun K w' hk => ?_) ?_
  rotate_left
  · go_step; exact hk
  refine Ord.St.fl2 (T' := ?_) 2 [3, 4, 5, 6, 7, 8, 9, 10, 11, 12, 13, 14, 15] _ _ rfl (by kernel_rfl) rfl rfl rfl rfl (fun K w' hk => ?_) ?_
  rotate_left
  · go_step; exact hk
  refine Ord.St.fl2 (T' := ?_) 3 [4, 5, 6, 7, 8, 9, 10, 11, 12, 13, 14, 15] _ _ rfl (by kernel_rfl) rfl rfl rfl rfl (fun K w' hk => ?_) ?_
  rotate_left
  · go_step; exact hk
  first | (refine Ord.St.fl2 (T' := ?_) 4 [5, 6, 7, 8, 9, 10, 11, 12, 13, 14, 15] _ _ rfl (by kernel_rfl) ?_ rfl rfl rfl (fun K w' hk => ?_) ?_; rotate_left; (first | rfl | (simp [Region.wanted, yielded, *]; done)); focus (go_step; exact hk)) | (refine Ord.St.skip 4 [5, 6, 7, 8, 9, 10, 11, 12, 13, 14, 15] _ rfl (by kernel_rfl) ?_ (fun K hK => ?_); (first | rfl | (simp [Region.wanted, yielded, *]; done)); go_simp; refine hK _ ?_; clear hK K)
  first | (refine Ord.St.fl2 (T' := ?_) 5 [6, 7, 8, 9, 10, 11, 12, 13, 14, 15] _ _ rfl (by kernel_rfl) ?_ rfl rfl rfl (fun K w' hk => ?_) ?_; rotate_left; (first | rfl | (simp [Region.wanted, yielded, *]; done)); focus (go_step; exact hk)) | (refine Ord.St.skip 5 [6, 7, 8, 9, 10, 11, 12, 13, 14, 15] _ rfl (by kernel_rfl) ?_ (fun K hK => ?_); (first | rfl | (simp [Region.wanted, yielded, *]; done)); go_simp; refine hK _ ?_; clear hK K)
  refine Ord.St.fl2 (T' := ?_) 6 [7, 8, 9, 10, 11, 12, 13, 14, 15] _ _ rfl (by kernel_rfl) rfl rfl rfl rfl (fun K w' hk => ?_) ?_
  rotate_left
  · go_step; exact hk
  refine Ord.St.fl2 (T' := ?_) 7 [8, 9, 10, 11, 12, 13, 14, 15] _ _ rfl (by kernel_rfl) rfl rfl rfl rfl (fun K w' hk => ?_) ?_
  rotate_left
  · go_step; exact hk
  first | (refine Ord.St.fl2 (T' := ?_) 8 [9, 10, 11, 12, 13, 14, 15] _ _ rfl (by kernel_rfl) ?_ rfl rfl rfl (fun K w' hk => ?_) ?_; rotate_left; (first | rfl | (simp [Region.wanted, yielded, *]; done)); focus (go_step; exact hk)) | (refine Ord.St.skip 8 [9, 10, 11, 12, 13, 14, 15] _ rfl (by kernel_rfl) ?_ (fun K hK => ?_); (first | rfl | (simp [Region.wanted, yielded, *]; done)); go_simp; refine hK _ ?_; clear hK K)
  first | (refine Ord.St.fl2 (T' := ?_) 9 [10, 11, 12, 13, 14, 15] _ _ rfl (by kernel_rfl) ?_ rfl rfl rfl (fun K w' hk => ?_) ?_; rotate_left; (first | rfl | (simp [Region.wanted, yielded, *]; done)); focus (go_step; exact hk)) | (refine Ord.St.skip 9 [10, 11, 12, 13, 14, 15] _ rfl (by kernel_rfl) ?_ (fun K hK => ?_); (first | rfl | (simp [Region.wanted, yielded, *]; done)); go_simp; refine hK _ ?_; clear hK K)
  first | (refine Ord.St.rd2 (T' := ?_) 10 [11, 12, 13, 14, 15] _ _ rfl (by kernel_rfl) ?_ rfl rfl rfl (fun K hk => ?_) ?_; rotate_left; (first | rfl | (simp [Region.wanted, yielded, *]; done)); focus (go_step; exact hk)) | (refine Ord.St.skipr 10 [11, 12, 13, 14, 15] _ rfl (by kernel_rfl) ?_ (fun K hK => ?_); (first | rfl | (simp [Region.wanted, yielded, *]; done)); go_simp; refine hK _ ?_; clear hK K)
  refine Ord.St.efC 11 [12, 13, 14, 15] _ rfl (by kernel_rfl) (fun K hK => ?_)
  go_wp2_with fail
  refine HRF.out.mono ?_
  rintro e w5 ⟨v, rfl, hrow, hlo, hc5⟩
  obtain ⟨pa, pc, rfl⟩ := row.shape hrow
  have hcur : Ch [] w4 w5 := hwd.trans hc5 (by simp)
  have hE := Eqref_same (n := n) oc pc HLN.out (HOS4.out.ch hcur (by simp)) (Sl.of_ints hrow hLm)
  have HE := Lib.hid hE; clear hE hrow hlo hc5
  go_wp2_with fail
  refine ⟨rfl, hK _ _ ?_ ?_⟩
  · exact hcur
  clear hK K
  refine Ord.St.efC 12 [13, 14, 15] _ rfl (by kernel_rfl) (fun K hK => ?_)
  go_wp2_with fail
  refine HE.out.mono ?_
  rintro e w6 ⟨rfl, hc6⟩
  have hcur5 := hcur.trans hc6 (by simp)
  have b6 := B64.out.ch hcur5 (by simp)
  have v60 := b6.cell (i := 0) rfl
  have v61 := b6.cell (i := 1) rfl
  have g60 := b6.frozen (i := 0)
  have g61 := b6.frozen (i := 1)
  clear z60 z61 f60 f61 b6
  go_wp2_with fail
  refine ⟨rfl, hK _ _ ?_ ?_⟩
  · exact hcur5
  clear hK K
  refine Ord.St.fl2 (T' := ?_) 13 [14, 15] _ _ rfl (by kernel_rfl) rfl rfl rfl rfl (fun K w' hk => ?_) ?_
  rotate_left
  · go_step; exact hk
  refine Ord.St.ef 14 [15] _ rfl (by kernel_rfl) (fun K hK => ?_)
  go_wp2_with fail
  refine ⟨rfl, hK _ _ ?_⟩; clear hK K
  refine Ord.St.fl2 (T' := ?_) 15 [] _ _ rfl (by kernel_rfl) rfl rfl rfl rfl (fun K w' hk => ?_) ?_
  rotate_left
  · go_step; exact hk
  refine Ord.St.nil ?_
  go_wp2_with fail
  have hcc := set2_ch (w := w6) (b := w.heap.size + 1 + 1) (u := .int .i64 G.most) (v := .slice (some ⟨rb, 0, none⟩) G.nodes.length cap) rfl
  refine bodyPost_ret (v := .tuple #[.agg #[.int .i64 G.most, .slice (some ⟨rb, 0, none⟩) G.nodes.length cap], .bool true]) (by simp [results, Try.results61, go_sem, v60, v61]) rfl ?_
  exact ⟨rb, cap, F', rfl, (HG4.out.same hcur5 (by simp)).same hcc (fun k hk => by simp; intro e; subst e; exact h6F hk), (HRG.out.ch hcur5 (by simp)).ch hcc (by simp; omega), hrF, (HCW4.out.trans hcur5 (by simp)).trans hcc (fun k hk => .inr (by simp at hk; omega)), HF4'.out, .inl rfl⟩
set_option maxRecDepth 100000 in
set_option maxHeartbeats 8000000 in
theorem do_Or_yes {w : World} {g : Nat} {G : Gra} {F : List Nat} (h : GIn w g G F) {rb cap : Nat} (hr : RG w rb cap G) (hF : rb ∉ F) {la : Option Addr} {n lcap kind : Nat} {A B C : Int} {L : List Int} (ha : ActV w F la n lcap kind A B C L) (hk : kind % 8 = 2) (hrt : ∀ x ∈ [A, B], right G.nodes x = true) :
    Calls Try.prog 61 #[.pointer (some ⟨g, 0, none⟩), .agg #[.int .i64 G.most, .slice (some ⟨rb, 0, none⟩) G.nodes.length cap], .agg #[.int .u8 kind, .int .i64 A, .int .i64 B, .int .i64 C, .slice la n lcap]] w (DoTo w g rb F (doOr G A B).1) := by
  obtain ⟨hl, hp, hmo⟩ := hr.len
  have hle := hr.le
  have hmx := hr.mx
  have hrb := hr.lt
  have hFl := h.lt
  obtain ⟨hkb, hA, hB, hC, hLb, hLs, hLn, hLm, hLf⟩ := ha
  have q0 : ((kind : Int) % 8 == 0) = false := by simp; omega
  have q1 : ((kind : Int) % 8 == 1) = false := by simp; omega
  have q2 : ((kind : Int) % 8 == 2) = true := by simp; omega
  have q3 : ((kind : Int) % 8 == 3) = false := by simp; omega
  have q4 : ((kind : Int) % 8 == 4) = false := by simp; omega
  have q5 : ((kind : Int) % 8 == 5) = false := by simp; omega
  have q6 : ((kind : Int) % 8 == 6) = false := by simp; omega
  have q7 : ((kind : Int) % 8 == 7) = false := by simp; omega
  obtain ⟨a, rfl, ha'⟩ := right_nat (hrt A (by simp))
  obtain ⟨b, rfl, hb'⟩ := right_nat (hrt B (by simp))
  have hRR : doOr G (a : Int) (b : Int) = rOr G a b := by unfold doOr; simp only [Int.toNat_natCast]; exact whole_or hrt a b
  have hRef := fun (W : World) (hW : RG W rb cap G) => rOr_is hW ha' hb'
  have hany : (([(a : Int), (b : Int)]).any fun x => !right G.nodes x) = false := any_no hrt
  have HANY := Lib.hid hany; clear hany
  have H := Lib.hid h; clear h
  have HR := Lib.hid hr; clear hr
  have HLS := Lib.hid hLs; clear hLs
  have HLB := Lib.hid hLb; clear hLb
  have HLF := Lib.hid hLf; clear hLf
  have HLN := Lib.hid hLn; clear hLn
  have HFL := Lib.hid hFl; clear hFl
  have HREF := Lib.hid hRef; clear hRef
  have HRR := Lib.hid hRR; clear hRR
  clear hk hrt
  go_enter Try.func61, Try.ntmps61
  go_upto_region 5 with fail
  refine wp_alw ?_
  intro W9 hW9
  have hc9 : Ch [] w W9 := by rw [hW9]; exact ((((Ch.refl _ _).alloc _).alloc _).alloc _).alloc _
  have b4 : blk W9 w.heap.size [.int .i64 G.most, .slice (some ⟨rb, 0, none⟩) G.nodes.length cap] := by rw [hW9]; exact (((blk.new' (w := w) [.int .i64 G.most, .slice (some ⟨rb, 0, none⟩) G.nodes.length cap] 105 rfl).alloc _).alloc _).alloc _
  have b5 : blk W9 (w.heap.size + 1) [.int .u8 kind, .int .i64 (a : Int), .int .i64 (b : Int), .int .i64 C, .slice la n lcap] := by rw [hW9]; exact ((blk.new' [.int .u8 kind, .int .i64 (a : Int), .int .i64 (b : Int), .int .i64 C, .slice la n lcap] 67 (by simp)).alloc _).alloc _
  have b6 : blk W9 (w.heap.size + 1 + 1) [.int .i64 0, .slice none 0 0] := by rw [hW9]; exact (blk.new' [.int .i64 0, .slice none 0 0] 105 (by simp)).alloc _
  have bAB : row W9 3 1 (.slice (some ⟨w.heap.size + 1 + 1 + 1, 0, none⟩) 2 2) 2 [.int .i64 (a : Int), .int .i64 (b : Int)] := ⟨rfl, .inr ⟨_, 2, #[.int .i64 (a : Int), .int .i64 (b : Int)], rfl, Nat.zero_le _, by rw [hW9]; exact (heap_alloc_at _ (by simp)), Nat.le_refl _, by unfold maxLen; omega, rfl, rfl⟩⟩
  clear hW9
  have x50 := b5.cell (i := 0) rfl
  have x51 := b5.cell (i := 1) rfl
  have x52 := b5.cell (i := 2) rfl
  have x53 := b5.cell (i := 3) rfl
  have x54 := b5.cell (i := 4) rfl
  have HC9 := Lib.hid hc9; clear hc9
  have B4 := Lib.hid b4; clear b4
  have B5 := Lib.hid b5; clear b5
  have B6 := Lib.hid b6; clear b6
  have BAB := Lib.hid bAB; clear bAB
  go_upto_region 14 with fail
  clear x50 x51 x52 x53 x54
  obtain ⟨W1, rfl⟩ : ∃ W1 : World, W1 = W9 := ⟨_, rfl⟩
  have b4 := B4.out
  have b5 := B5.out
  have b6 := B6.out
  have hc1 : Ch [] w W1 := HC9.out
  have hasl : Sl W1 (some ⟨w.heap.size + 1 + 1 + 1, 0, none⟩) [(a : Int), (b : Int)] := Sl.of_ints (n := 2) (cap := 2) (e := 3) BAB.out (by omega)
  have haln : ([(a : Int), (b : Int)]).length = 2 := rfl
  have hCF := CFint_ch 2 2 72 #[.pointer (some ⟨w.heap.size, 0, none⟩)] (fun x => !right G.nodes x) haln hasl (fun W hW x _ => do1_is (HR.out.ch (hc1.trans hW (by simp)) (by simp)) (b4.ch hW (by simp)) x) fnvDo1
  rw [HANY.out] at hCF
  have HCF := Lib.hid hCF; clear hCF hasl haln
  have BB4 := Lib.hid b4; clear b4
  have BB5 := Lib.hid b5; clear b5
  have BB6 := Lib.hid b6; clear b6
  have HC1 := Lib.hid hc1; clear hc1
  go_wp2_with fail
  refine HCF.out.mono ?_
  rintro e w2 ⟨rfl, hc2⟩
  have b4 := BB4.out.ch hc2 (by simp)
  have b5 := BB5.out.ch hc2 (by simp)
  have y40 := b4.cell (i := 0) rfl
  have y41 := b4.cell (i := 1) rfl
  have x54 := b5.cell (i := 4) rfl
  have hb5l := b5.lt
  have hcA2 : Ch [] w2 (w2.alloc (.cells #[.int .i64 G.most, .slice (some ⟨rb, 0, none⟩) G.nodes.length cap] 105)) := (Ch.refl _ _).alloc _
  have b14 : blk (w2.alloc (.cells #[.int .i64 G.most, .slice (some ⟨rb, 0, none⟩) G.nodes.length cap] 105)) w2.heap.size [.int .i64 G.most, .slice (some ⟨rb, 0, none⟩) G.nodes.length cap] := blk.new' [.int .i64 G.most, .slice (some ⟨rb, 0, none⟩) G.nodes.length cap] 105 rfl
  have hcw2 := (HC1.out.trans hc2 (by simp)).trans hcA2 (by simp)
  have hRf := refs20_is n lcap HLN.out (HLS.out.ch hcw2 (by simp)) hLm
  have HRF := Lib.hid hRf; clear hRf b4 b5
  have HC2 := Lib.hid hc2; clear hc2
  have HCA2 := Lib.hid hcA2; clear hcA2
  have HCW2 := Lib.hid hcw2; clear hcw2
  have B14 := Lib.hid b14; clear b14
  clear HCF
  go_wp2_with fail
  refine HRF.out.mono ?_
  rintro e w3 ⟨v, rfl, hrow, hlo, hc3⟩
  obtain ⟨oa, oc, rfl⟩ := row.shape hrow
  have hcw3 := HCW2.out.trans hc3 (by simp)
  have hg3 := H.out.same hcw3 (by simp)
  have b4 := ((BB4.out.ch HC2.out (by simp)).ch HCA2.out (by simp)).ch hc3 (by simp)
  have b5 := ((BB5.out.ch HC2.out (by simp)).ch HCA2.out (by simp)).ch hc3 (by simp)
  have b6 := ((BB6.out.ch HC2.out (by simp)).ch HCA2.out (by simp)).ch hc3 (by simp)
  have b14 := B14.out.ch hc3 (by simp)
  have hos := Sl.of_ints hrow hLm
  have h14 : w.heap.size + 1 + 1 < w2.heap.size := Nat.lt_of_lt_of_le BB6.out.lt HC2.out.size
  have hof : ∀ p, oa = some p → p.block < w3.heap.size ∧ p.block ∉ F := fun p hp => by
    subst hp
    have h1 := (hrow.lt p.block rfl).2
    have h2 := hlo p.block (by simp)
    refine ⟨h1, fun hin => ?_⟩
    have := HFL.out _ hin
    simp at h2
    omega
  have hLb := HLB.out
  have hLn := HLN.out
  have hP := Or_g hg3 (a : Int) (b : Int) hA.2 hB.2
  rw [HRR.out] at hP
  clear hLb hLn
  obtain ⟨R, hR⟩ : ∃ R, R = rOr G a b := ⟨_, rfl⟩
  rw [← hR] at hP
  have HRE := Lib.hid hR; clear hR
  have h5F : ∀ q, w.heap.size ≤ q → q ∉ F := fun q hq hin => by have := HFL.out q hin; omega
  have HP := Lib.hid hP; clear hP
  have x50 := b5.cell (i := 0) rfl
  have x51 := b5.cell (i := 1) rfl
  have x52 := b5.cell (i := 2) rfl
  have x53 := b5.cell (i := 3) rfl
  have x54' := b5.cell (i := 4) rfl
  have HOS := Lib.hid hos; clear hos
  have hoo : ∀ p, oa = some p → w2.heap.size < p.block := fun p hp => by subst hp; have := hlo p.block (by simp); simp at this; omega
  have HOO := Lib.hid hoo; clear hoo
  have HOF := Lib.hid hof; clear hof
  have HC3 := Lib.hid hcw3; clear hcw3 hc3 hg3
  have B43 := Lib.hid b4; clear b4
  have B53 := Lib.hid b5; clear b5
  have B63 := Lib.hid b6; clear b6
  have B143 := Lib.hid b14; clear b14
  have H5F := Lib.hid h5F; clear h5F
  clear hrow hlo y40 y41 x54 HRF B14 BB4 BB5 BB6 HCW2 HCA2 HC2
  go_wp2_with fail
  refine HP.out.mono ?_
  rintro e w4 ⟨rfl, hto⟩
  obtain ⟨F', hg4, hc34, hF4⟩ := hto
  have b4 := B43.out.ch hc34 (H5F.out _ (by omega))
  have b5 := B53.out.ch hc34 (H5F.out _ (by omega))
  have b6 := B63.out.ch hc34 (H5F.out _ (by omega))
  have b14 := B143.out.ch hc34 (H5F.out _ (by omega))
  have hos := HOS.out.ch hc34 (fun p hp => (HOF.out p hp).2)
  have hrg := (HR.out.ch HC3.out (by simp)).ch hc34 hF
  have hls := (HLS.out.ch HC3.out (by simp)).ch2 hc34 (fun hn p hp => (HLF.out (by rw [← HLN.out]; exact hn) p hp).2)
  have hcw4 := (HC3.out.mono (F' := F) (by simp)).trans hc34 (fun k hk => .inl hk)
  have hs4 := hcw4.size
  have hs34 := hc34.size
  have hFl4 : ∀ k ∈ F', k ∈ F ∨ w.heap.size ≤ k := fun k hk => (hF4 k hk).imp id (fun e => by have := HC3.out.size; omega)
  have hFn : ∀ q, q < w3.heap.size → q ∉ F → q ∉ F' := fun q h1 h2 hin => (hF4 q hin).elim h2 (by omega)
  have hrF : rb ∉ F' := hFn rb (by have := HC3.out.size; omega) hF
  have h6F : w.heap.size + 1 + 1 ∉ F' := hFn _ B63.out.lt (H5F.out _ (by omega))
  have h14F : w2.heap.size ∉ F' := hFn _ B143.out.lt (H5F.out _ (by omega))
  have hgl : ∀ k ∈ F', k < w4.heap.size := hg4.lt
  have z40 := b4.cell (i := 0) rfl
  have z41 := b4.cell (i := 1) rfl
  have z51 := b5.cell (i := 1) rfl
  have z52 := b5.cell (i := 2) rfl
  have z53 := b5.cell (i := 3) rfl
  have z54 := b5.cell (i := 4) rfl
  have z60 := b6.cell (i := 0) rfl
  have z61 := b6.cell (i := 1) rfl
  have f60 := b6.frozen (i := 0)
  have f61 := b6.frozen (i := 1)
  have B44 := Lib.hid b4; clear b4
  have B54 := Lib.hid b5; clear b5
  have B64 := Lib.hid b6; clear b6
  have B144 := Lib.hid b14; clear b14
  have HOS4 := Lib.hid hos; clear hos
  have HRG := Lib.hid hrg; clear hrg
  have HLS4 := Lib.hid hls; clear hls
  have HCW4 := Lib.hid hcw4; clear hcw4
  have HG4 := Lib.hid hg4; clear hg4
  have HF4' := Lib.hid hFl4; clear hFl4
  have HGL := Lib.hid hgl; clear hgl
  clear hc34 hF4 hFn HP HOS HC3 B43 B53 B63 B143 x50 x51 x52 x53 x54'
  have hQ := HREF.out _ HRG.out
  rw [← HRE.out] at hQ
  have HQ := Lib.hid hQ; clear hQ
  go_wp2_with fail
  refine HQ.out.mono ?_
  rintro e w5 ⟨rb1, cap1, rfl, hrg1, hc5, hfr1⟩
  have b5 := B54.out.ch hc5 (by simp)
  have b6 := B64.out.ch hc5 (by simp)
  have b14 := B144.out.ch hc5 (by simp)
  have u0 := b14.cell (i := 0) rfl
  have u1 := b14.cell (i := 1) rfl
  have e0 := b14.frozen (i := 0)
  have e1 := b14.frozen (i := 1)
  have h1F : rb1 ∉ F' := fun hin => by have := HGL.out _ hin; rcases hfr1 with e | e; (exact hrF (e ▸ hin)); omega
  have h1w : rb1 = rb ∨ w.heap.size ≤ rb1 := hfr1.imp id (fun e => by omega)
  have h6r : rb1 ≠ w.heap.size + 1 + 1 := by have := B64.out.lt; rcases hfr1 with e | e <;> omega
  have h14r : rb1 ≠ w2.heap.size := by have := B144.out.lt; rcases hfr1 with e | e <;> omega
  have B55 := Lib.hid b5; clear b5
  have B65 := Lib.hid b6; clear b6
  have B145 := Lib.hid b14; clear b14
  have HC5 := Lib.hid hc5; clear hc5
  have HRG1 := Lib.hid hrg1; clear hrg1
  clear hfr1 z40 z41 z51 z52 z53 z54 z60 z61 f60 f61
  go_upto_region 47 with fail
  refine wp_alw ?_
  intro W6 hW6
  have b14 : blk W6 w2.heap.size [.int .i64 R.1.most, .slice (some ⟨rb1, 0, none⟩) R.1.nodes.length cap1] := by rw [hW6]; exact (B145.out.set (i := 0) _).set (i := 1) _
  have hc56 := set2_ch hW6
  have hc46 : Ch [w2.heap.size] w4 W6 := (HC5.out.mono (by simp)).trans hc56 (by simp)
  have b5 := B55.out.ch hc56 (by simp; omega)
  have b6 := B65.out.ch hc56 (by simp; omega)
  have hrg6 := HRG1.out.ch hc56 (by simpa using h14r)
  clear hW6
  have v54 := b5.cell (i := 4) rfl
  have BX5 := Lib.hid b5; clear b5
  have BX6 := Lib.hid b6; clear b6
  have BX14 := Lib.hid b14; clear b14
  have HRG6 := Lib.hid hrg6; clear hrg6
  have H46 := Lib.hid hc46; clear hc46
  have hwd : Ch [] W6 W6.drew := (Ch.refl _ _).drew
  have hls6 := HLS4.out.ch2 H46.out (fun hn p hp => by have := (HLF.out (by rw [← HLN.out]; exact hn) p hp).1; simp; omega)
  have hos6 := HOS4.out.ch H46.out (fun p hp => by have := HOO.out p hp; simp; omega)
  have hRf := refs20_is n lcap HLN.out (hls6.ch hwd (by simp)) hLm
  have HRF := Lib.hid hRf; clear hRf hls6
  have HOS6 := Lib.hid hos6; clear hos6
  clear B55 B65 B145 HRG1 u0 u1 e0 e1 hc56
  go_wp2_with fail
  refine Ord.St.door (fun w' => Ch [] W6 w') [.ho, .fl, .fl, .fl, .fl, .fl, .fl, .fl, .fl, .fl, .fl, .fl, .rd, .ef, .ef, .fl, .ef, .fl] [0, 0, 0, 6, 14, 30, 30, 126, 254, 510, 1022, 1022, 3070, 7166, 16382, 32766, 32767, 131071] [0, 1, 2, 3, 4, 5, 6, 7, 8, 9, 10, 11, 12, 13, 14, 15, 16, 17] mixed (by kernel_rfl) rfl ?_
  refine Ord.St.ho2 (T' := ?_) 0 [1, 2, 3, 4, 5, 6, 7, 8, 9, 10, 11, 12, 13, 14, 15, 16, 17] _ _ rfl (by kernel_rfl) rfl rfl rfl rfl ?_ (fun K w' hw' hk => ?_) ?_
  rotate_left
  · trivial
  · have y0 := (BX14.out.ch hw' (by simp)).cell (i := 0) rfl; have y1 := (BX14.out.ch hw' (by simp)).cell (i := 1) rfl; go_step; exact hk
  refine Ord.St.fl2 (T' := ?_) 1 [2, 3, 4, 5, 6, 7, 8, 9, 10, 11, 12, 13, 14, 15, 16, 17] _ _ rfl (by kernel_rfl) rfl rfl rfl rfl (fun K w' hk => ?_) ?_
  rotate_left
  · go_step; exact hk
  refine Ord.St.fl2 (T' := ?_) 2 [3, 4, 5, 6, 7, 8, 9, 10, 11, 12, 13, 14, 15, 16, 17] _ _ rfl (by kernel_rfl) rfl rfl rfl rfl (fun K w' hk => ?_) ?_
  rotate_left
  · go_step; exact hk
  refine Ord.St.fl2 (T' := ?_) 3 [4, 5, 6, 7, 8, 9, 10, 11, 12, 13, 14, 15, 16, 17] _ _ rfl (by kernel_rfl) rfl rfl rfl rfl (fun K w' hk => ?_) ?_
  rotate_left
  · go_step; exact hk
  refine Ord.St.fl2 (T' := ?_) 4 [5, 6, 7, 8, 9, 10, 11, 12, 13, 14, 15, 16, 17] _ _ rfl (by kernel_rfl) rfl rfl rfl rfl (fun K w' hk => ?_) ?_
  rotate_left
  · go_step; exact hk
  first | (refine Ord.St.fl2 (T' := ?_) 5 [6, 7, 8, 9, 10, 11, 12, 13, 14, 15, 16, 17] _ _ rfl (by kernel_rfl) ?_ rfl rfl rfl (fun K w' hk => ?_) ?_; rotate_left; (first | rfl | (simp [Region.wanted, yielded, *]; done)); focus (go_step; exact hk)) | (refine Ord.St.skip 5 [6, 7, 8, 9, 10, 11, 12, 13, 14, 15, 16, 17] _ rfl (by kernel_rfl) ?_ (fun K hK => ?_); (first | rfl | (simp [Region.wanted, yielded, *]; done)); go_simp; refine hK _ ?_; clear hK K)
  first | (refine Ord.St.fl2 (T' := ?_) 6 [7, 8, 9, 10, 11, 12, 13, 14, 15, 16, 17] _ _ rfl (by kernel_rfl) ?_ rfl rfl rfl (fun K w' hk => ?_) ?_; rotate_left; (first | rfl | (simp [Region.wanted, yielded, *]; done)); focus (go_step; exact hk)) | (refine Ord.St.skip 6 [7, 8, 9, 10, 11, 12, 13, 14, 15, 16, 17] _ rfl (by kernel_rfl) ?_ (fun K hK => ?_); (first | rfl | (simp [Region.wanted, yielded, *]; done)); go_simp; refine hK _ ?_; clear hK K)
  first | (refine Ord.St.fl2 (T' := ?_) 7 [8, 9, 10, 11, 12, 13, 14, 15, 16, 17] _ _ rfl (by kernel_rfl) ?_ rfl rfl rfl (fun K w' hk => ?_) ?_; rotate_left; (first | rfl | (simp [Region.wanted, yielded, *]; done)); focus (go_step; exact hk)) | (refine Ord.St.skip 7 [8, 9, 10, 11, 12, 13, 14, 15, 16, 17] _ rfl (by kernel_rfl) ?_ (fun K hK => ?_); (first | rfl | (simp [Region.wanted, yielded, *]; done)); go_simp; refine hK _ ?_; clear hK K)
  refine Ord.St.fl2 (T' := ?_) 8 [9, 10, 11, 12, 13, 14, 15, 16, 17] _ _ rfl (by kernel_rfl) rfl rfl rfl rfl (fun K w' hk => ?_) ?_
  rotate_left
  · go_step; exact hk
  refine Ord.St.fl2 (T' := ?_) 9 [10, 11, 12, 13, 14, 15, 16, 17] _ _ rfl (by kernel_rfl) rfl rfl rfl rfl (fun K w' hk => ?_) ?_
  rotate_left
  · go_step; exact hk
  first | (refine Ord.St.fl2 (T' := ?_) 10 [11, 12, 13, 14, 15, 16, 17] _ _ rfl (by kernel_rfl) ?_ rfl rfl rfl (fun K w' hk => ?_) ?_; rotate_left; (first | rfl | (simp [Region.wanted, yielded, *]; done)); focus (go_step; exact hk)) | (refine Ord.St.skip 10 [11, 12, 13, 14, 15, 16, 17] _ rfl (by kernel_rfl) ?_ (fun K hK => ?_); (first | rfl | (simp [Region.wanted, yielded, *]; done)); go_simp; refine hK _ ?_; clear hK K)
  first | (refine Ord.St.fl2 (T' := ?_) 11 [12, 13, 14, 15, 16, 17] _ _ rfl (by kernel_rfl) ?_ rfl rfl rfl (fun K w' hk => ?_) ?_; rotate_left; (first | rfl | (simp [Region.wanted, yielded, *]; done)); focus (go_step; exact hk)) | (refine Ord.St.skip 11 [12, 13, 14, 15, 16, 17] _ rfl (by kernel_rfl) ?_ (fun K hK => ?_); (first | rfl | (simp [Region.wanted, yielded, *]; done)); go_simp; refine hK _ ?_; clear hK K)
  first | (refine Ord.St.rd2 (T' := ?_) 12 [13, 14, 15, 16, 17] _ _ rfl (by kernel_rfl) ?_ rfl rfl rfl (fun K hk => ?_) ?_; rotate_left; (first | rfl | (simp [Region.wanted, yielded, *]; done)); focus (go_step; exact hk)) | (refine Ord.St.skipr 12 [13, 14, 15, 16, 17] _ rfl (by kernel_rfl) ?_ (fun K hK => ?_); (first | rfl | (simp [Region.wanted, yielded, *]; done)); go_simp; refine hK _ ?_; clear hK K)
  refine Ord.St.efC 13 [14, 15, 16, 17] _ rfl (by kernel_rfl) (fun K hK => ?_)
  go_wp2_with fail
  refine HRF.out.mono ?_
  rintro e w7 ⟨v, rfl, hrow, hlo, hc7⟩
  obtain ⟨pa, pc, rfl⟩ := row.shape hrow
  have hcur : Ch [] W6 w7 := hwd.trans hc7 (by simp)
  have hE := Eqref_same (n := n) oc pc HLN.out (HOS6.out.ch hcur (by simp)) (Sl.of_ints hrow hLm)
  have HE := Lib.hid hE; clear hE hrow hlo hc7 v54
  go_wp2_with fail
  refine ⟨rfl, hK _ _ ?_ ?_⟩
  · exact hcur
  clear hK K
  refine Ord.St.efC 14 [15, 16, 17] _ rfl (by kernel_rfl) (fun K hK => ?_)
  go_wp2_with fail
  refine HE.out.mono ?_
  rintro e w8 ⟨rfl, hc8⟩
  have hcur5 := hcur.trans hc8 (by simp)
  have b6 := BX6.out.ch hcur5 (by simp)
  have v60 := b6.cell (i := 0) rfl
  have v61 := b6.cell (i := 1) rfl
  have g60 := b6.frozen (i := 0)
  have g61 := b6.frozen (i := 1)
  clear b6
  go_wp2_with fail
  refine ⟨rfl, hK _ _ ?_ ?_⟩
  · exact hcur5
  clear hK K
  refine Ord.St.fl2 (T' := ?_) 15 [16, 17] _ _ rfl (by kernel_rfl) rfl rfl rfl rfl (fun K w' hk => ?_) ?_
  rotate_left
  · go_step; exact hk
  refine Ord.St.ef 16 [17] _ rfl (by kernel_rfl) (fun K hK => ?_)
  go_wp2_with fail
  refine ⟨rfl, hK _ _ ?_⟩; clear hK K
  refine Ord.St.fl2 (T' := ?_) 17 [] _ _ rfl (by kernel_rfl) rfl rfl rfl rfl (fun K w' hk => ?_) ?_
  rotate_left
  · go_step; exact hk
  refine Ord.St.nil ?_
  go_wp2_with fail
  have hcc := set2_ch (w := w8) (b := w.heap.size + 1 + 1) (u := .int .i64 R.1.most) (v := .slice (some ⟨rb1, 0, none⟩) R.1.nodes.length cap1) rfl
  refine bodyPost_ret (v := .tuple #[.agg #[.int .i64 R.1.most, .slice (some ⟨rb1, 0, none⟩) R.1.nodes.length cap1], .bool true]) (by simp [results, Try.results61, go_sem, v60, v61]) rfl ?_
  rw [HRR.out, ← HRE.out]
  exact ⟨rb1, cap1, F', rfl, ((HG4.out.same H46.out (fun k hk => by simp; intro e; subst e; exact h14F hk)).same hcur5 (by simp)).same hcc (fun k hk => by simp; intro e; subst e; exact h6F hk), (HRG6.out.ch hcur5 (by simp)).ch hcc (by simpa using h6r), h1F, ((HCW4.out.trans H46.out (fun k hk => .inr (by simp at hk; omega))).trans hcur5 (by simp)).trans hcc (fun k hk => .inr (by simp at hk; omega)), HF4'.out, h1w⟩
set_option maxRecDepth 100000 in
set_option maxHeartbeats 8000000 in
theorem do_Or_no {w : World} {g : Nat} {G : Gra} {F : List Nat} (h : GIn w g G F) {rb cap : Nat} (hr : RG w rb cap G) (hF : rb ∉ F) {la : Option Addr} {n lcap kind : Nat} {A B C : Int} {L : List Int} (ha : ActV w F la n lcap kind A B C L) (hk : kind % 8 = 2) (hrt : ∃ x ∈ [A, B], right G.nodes x = false) :
    Calls Try.prog 61 #[.pointer (some ⟨g, 0, none⟩), .agg #[.int .i64 G.most, .slice (some ⟨rb, 0, none⟩) G.nodes.length cap], .agg #[.int .u8 kind, .int .i64 A, .int .i64 B, .int .i64 C, .slice la n lcap]] w (DoTo w g rb F G) := by
  obtain ⟨hl, hp, hmo⟩ := hr.len
  have hle := hr.le
  have hmx := hr.mx
  have hrb := hr.lt
  have hFl := h.lt
  obtain ⟨hkb, hA, hB, hC, hLb, hLs, hLn, hLm, hLf⟩ := ha
  have q0 : ((kind : Int) % 8 == 0) = false := by simp; omega
  have q1 : ((kind : Int) % 8 == 1) = false := by simp; omega
  have q2 : ((kind : Int) % 8 == 2) = true := by simp; omega
  have q3 : ((kind : Int) % 8 == 3) = false := by simp; omega
  have q4 : ((kind : Int) % 8 == 4) = false := by simp; omega
  have q5 : ((kind : Int) % 8 == 5) = false := by simp; omega
  have q6 : ((kind : Int) % 8 == 6) = false := by simp; omega
  have q7 : ((kind : Int) % 8 == 7) = false := by simp; omega
  have hRR : doOr G A B = (G, 0, 200) := by obtain ⟨x, hx, hxr⟩ := hrt; exact whole_no hx hxr
  have hany : (([A, B]).any fun x => !right G.nodes x) = true := by
    obtain ⟨x, hx, hxr⟩ := hrt
    rw [List.any_eq_true]
    exact ⟨x, hx, by rw [hxr]; rfl⟩
  have HANY := Lib.hid hany; clear hany
  have H := Lib.hid h; clear h
  have HR := Lib.hid hr; clear hr
  have HLS := Lib.hid hLs; clear hLs
  have HLB := Lib.hid hLb; clear hLb
  have HLF := Lib.hid hLf; clear hLf
  have HLN := Lib.hid hLn; clear hLn
  have HFL := Lib.hid hFl; clear hFl
  have HRR := Lib.hid hRR; clear hRR
  clear hk hrt
  go_enter Try.func61, Try.ntmps61
  go_upto_region 5 with fail
  refine wp_alw ?_
  intro W9 hW9
  have hc9 : Ch [] w W9 := by rw [hW9]; exact ((((Ch.refl _ _).alloc _).alloc _).alloc _).alloc _
  have b4 : blk W9 w.heap.size [.int .i64 G.most, .slice (some ⟨rb, 0, none⟩) G.nodes.length cap] := by rw [hW9]; exact (((blk.new' (w := w) [.int .i64 G.most, .slice (some ⟨rb, 0, none⟩) G.nodes.length cap] 105 rfl).alloc _).alloc _).alloc _
  have b5 : blk W9 (w.heap.size + 1) [.int .u8 kind, .int .i64 A, .int .i64 B, .int .i64 C, .slice la n lcap] := by rw [hW9]; exact ((blk.new' [.int .u8 kind, .int .i64 A, .int .i64 B, .int .i64 C, .slice la n lcap] 67 (by simp)).alloc _).alloc _
  have b6 : blk W9 (w.heap.size + 1 + 1) [.int .i64 0, .slice none 0 0] := by rw [hW9]; exact (blk.new' [.int .i64 0, .slice none 0 0] 105 (by simp)).alloc _
  have bAB : row W9 3 1 (.slice (some ⟨w.heap.size + 1 + 1 + 1, 0, none⟩) 2 2) 2 [.int .i64 A, .int .i64 B] := ⟨rfl, .inr ⟨_, 2, #[.int .i64 A, .int .i64 B], rfl, Nat.zero_le _, by rw [hW9]; exact (heap_alloc_at _ (by simp)), Nat.le_refl _, by unfold maxLen; omega, rfl, rfl⟩⟩
  clear hW9
  have x50 := b5.cell (i := 0) rfl
  have x51 := b5.cell (i := 1) rfl
  have x52 := b5.cell (i := 2) rfl
  have x53 := b5.cell (i := 3) rfl
  have x54 := b5.cell (i := 4) rfl
  have HC9 := Lib.hid hc9; clear hc9
  have B4 := Lib.hid b4; clear b4
  have B5 := Lib.hid b5; clear b5
  have B6 := Lib.hid b6; clear b6
  have BAB := Lib.hid bAB; clear bAB
  go_upto_region 14 with fail
  clear x50 x51 x52 x53 x54
  obtain ⟨W1, rfl⟩ : ∃ W1 : World, W1 = W9 := ⟨_, rfl⟩
  have b4 := B4.out
  have b5 := B5.out
  have b6 := B6.out
  have hc1 : Ch [] w W1 := HC9.out
  have hasl : Sl W1 (some ⟨w.heap.size + 1 + 1 + 1, 0, none⟩) [A, B] := Sl.of_ints (n := 2) (cap := 2) (e := 3) BAB.out (by omega)
  have haln : ([A, B]).length = 2 := rfl
  have hCF := CFint_ch 2 2 72 #[.pointer (some ⟨w.heap.size, 0, none⟩)] (fun x => !right G.nodes x) haln hasl (fun W hW x _ => do1_is (HR.out.ch (hc1.trans hW (by simp)) (by simp)) (b4.ch hW (by simp)) x) fnvDo1
  rw [HANY.out] at hCF
  have HCF := Lib.hid hCF; clear hCF hasl haln
  have BB4 := Lib.hid b4; clear b4
  have BB5 := Lib.hid b5; clear b5
  have BB6 := Lib.hid b6; clear b6
  have HC1 := Lib.hid hc1; clear hc1
  go_wp2_with fail
  refine HCF.out.mono ?_
  rintro e w2 ⟨rfl, hc2⟩
  have b4 := BB4.out.ch hc2 (by simp)
  have b5 := BB5.out.ch hc2 (by simp)
  have y40 := b4.cell (i := 0) rfl
  have y41 := b4.cell (i := 1) rfl
  have x54 := b5.cell (i := 4) rfl
  have hb5l := b5.lt
  have hcA2 : Ch [] w2 (w2.alloc (.cells #[.int .i64 G.most, .slice (some ⟨rb, 0, none⟩) G.nodes.length cap] 105)) := (Ch.refl _ _).alloc _
  have b14 : blk (w2.alloc (.cells #[.int .i64 G.most, .slice (some ⟨rb, 0, none⟩) G.nodes.length cap] 105)) w2.heap.size [.int .i64 G.most, .slice (some ⟨rb, 0, none⟩) G.nodes.length cap] := blk.new' [.int .i64 G.most, .slice (some ⟨rb, 0, none⟩) G.nodes.length cap] 105 rfl
  have hcw2 := (HC1.out.trans hc2 (by simp)).trans hcA2 (by simp)
  have hRf := refs20_is n lcap HLN.out (HLS.out.ch hcw2 (by simp)) hLm
  have HRF := Lib.hid hRf; clear hRf b4 b5
  have HC2 := Lib.hid hc2; clear hc2
  have HCA2 := Lib.hid hcA2; clear hcA2
  have HCW2 := Lib.hid hcw2; clear hcw2
  have B14 := Lib.hid b14; clear b14
  clear HCF
  go_wp2_with fail
  refine HRF.out.mono ?_
  rintro e w3 ⟨v, rfl, hrow, hlo, hc3⟩
  obtain ⟨oa, oc, rfl⟩ := row.shape hrow
  have hcw3 := HCW2.out.trans hc3 (by simp)
  have hg3 := H.out.same hcw3 (by simp)
  have b4 := ((BB4.out.ch HC2.out (by simp)).ch HCA2.out (by simp)).ch hc3 (by simp)
  have b5 := ((BB5.out.ch HC2.out (by simp)).ch HCA2.out (by simp)).ch hc3 (by simp)
  have b6 := ((BB6.out.ch HC2.out (by simp)).ch HCA2.out (by simp)).ch hc3 (by simp)
  have b14 := B14.out.ch hc3 (by simp)
  have hos := Sl.of_ints hrow hLm
  have h14 : w.heap.size + 1 + 1 < w2.heap.size := Nat.lt_of_lt_of_le BB6.out.lt HC2.out.size
  have hof : ∀ p, oa = some p → p.block < w3.heap.size ∧ p.block ∉ F := fun p hp => by
    subst hp
    have h1 := (hrow.lt p.block rfl).2
    have h2 := hlo p.block (by simp)
    refine ⟨h1, fun hin => ?_⟩
    have := HFL.out _ hin
    simp at h2
    omega
  have hLb := HLB.out
  have hLn := HLN.out
  have hP := Or_g hg3 A B hA.2 hB.2
  rw [HRR.out] at hP
  clear hLb hLn
  have h5F : ∀ q, w.heap.size ≤ q → q ∉ F := fun q hq hin => by have := HFL.out q hin; omega
  have HP := Lib.hid hP; clear hP
  have x50 := b5.cell (i := 0) rfl
  have x51 := b5.cell (i := 1) rfl
  have x52 := b5.cell (i := 2) rfl
  have x53 := b5.cell (i := 3) rfl
  have x54' := b5.cell (i := 4) rfl
  have HOS := Lib.hid hos; clear hos
  have hoo : ∀ p, oa = some p → w2.heap.size < p.block := fun p hp => by subst hp; have := hlo p.block (by simp); simp at this; omega
  have HOO := Lib.hid hoo; clear hoo
  have HOF := Lib.hid hof; clear hof
  have HC3 := Lib.hid hcw3; clear hcw3 hc3 hg3
  have B43 := Lib.hid b4; clear b4
  have B53 := Lib.hid b5; clear b5
  have B63 := Lib.hid b6; clear b6
  have B143 := Lib.hid b14; clear b14
  have H5F := Lib.hid h5F; clear h5F
  clear hrow hlo y40 y41 x54 HRF B14 BB4 BB5 BB6 HCW2 HCA2 HC2
  go_wp2_with fail
  refine HP.out.mono ?_
  rintro e w4 ⟨rfl, hto⟩
  obtain ⟨F', hg4, hc34, hF4⟩ := hto
  have b4 := B43.out.ch hc34 (H5F.out _ (by omega))
  have b5 := B53.out.ch hc34 (H5F.out _ (by omega))
  have b6 := B63.out.ch hc34 (H5F.out _ (by omega))
  have b14 := B143.out.ch hc34 (H5F.out _ (by omega))
  have hos := HOS.out.ch hc34 (fun p hp => (HOF.out p hp).2)
  have hrg := (HR.out.ch HC3.out (by simp)).ch hc34 hF
  have hls := (HLS.out.ch HC3.out (by simp)).ch2 hc34 (fun hn p hp => (HLF.out (by rw [← HLN.out]; exact hn) p hp).2)
  have hcw4 := (HC3.out.mono (F' := F) (by simp)).trans hc34 (fun k hk => .inl hk)
  have hs4 := hcw4.size
  have hs34 := hc34.size
  have hFl4 : ∀ k ∈ F', k ∈ F ∨ w.heap.size ≤ k := fun k hk => (hF4 k hk).imp id (fun e => by have := HC3.out.size; omega)
  have hFn : ∀ q, q < w3.heap.size → q ∉ F → q ∉ F' := fun q h1 h2 hin => (hF4 q hin).elim h2 (by omega)
  have hrF : rb ∉ F' := hFn rb (by have := HC3.out.size; omega) hF
  have h6F : w.heap.size + 1 + 1 ∉ F' := hFn _ B63.out.lt (H5F.out _ (by omega))
  have h14F : w2.heap.size ∉ F' := hFn _ B143.out.lt (H5F.out _ (by omega))
  have hgl : ∀ k ∈ F', k < w4.heap.size := hg4.lt
  have z40 := b4.cell (i := 0) rfl
  have z41 := b4.cell (i := 1) rfl
  have z51 := b5.cell (i := 1) rfl
  have z52 := b5.cell (i := 2) rfl
  have z53 := b5.cell (i := 3) rfl
  have z54 := b5.cell (i := 4) rfl
  have z60 := b6.cell (i := 0) rfl
  have z61 := b6.cell (i := 1) rfl
  have f60 := b6.frozen (i := 0)
  have f61 := b6.frozen (i := 1)
  have B44 := Lib.hid b4; clear b4
  have B54 := Lib.hid b5; clear b5
  have B64 := Lib.hid b6; clear b6
  have B144 := Lib.hid b14; clear b14
  have HOS4 := Lib.hid hos; clear hos
  have HRG := Lib.hid hrg; clear hrg
  have HLS4 := Lib.hid hls; clear hls
  have HCW4 := Lib.hid hcw4; clear hcw4
  have HG4 := Lib.hid hg4; clear hg4
  have HF4' := Lib.hid hFl4; clear hFl4
  have HGL := Lib.hid hgl; clear hgl
  clear hc34 hF4 hFn HP HOS HC3 B43 B53 B63 B143 x50 x51 x52 x53 x54'
  have hwd : Ch [] w4 w4.drew := (Ch.refl _ _).drew
  have hRf := refs20_is n lcap HLN.out (HLS4.out.ch hwd (by simp)) hLm
  have HRF := Lib.hid hRf; clear hRf
  go_wp2_with fail
  refine Ord.St.door (fun w' => Ch [] w4 w') [.ho, .fl, .fl, .fl, .fl, .fl, .fl, .fl, .fl, .fl, .rd, .ef, .ef, .fl, .ef, .fl] [0, 0, 2, 6, 14, 30, 62, 126, 254, 254, 766, 1790, 4094, 8190, 8191, 32767] [0, 1, 2, 3, 4, 5, 6, 7, 8, 9, 10, 11, 12, 13, 14, 15] mixed (by kernel_rfl) rfl ?_
  refine Ord.St.ho2 (T' := ?_) 0 [1, 2, 3, 4, 5, 6, 7, 8, 9, 10, 11, 12, 13, 14, 15] _ _ rfl (by kernel_rfl) rfl rfl rfl rfl ?_ (fun K w' hw' hk => ?_) ?_
  rotate_left
  · trivial
  · have y0 := (B44.out.ch hw' (by simp)).cell (i := 0) rfl; have y1 := (B44.out.ch hw' (by simp)).cell (i := 1) rfl; go_step; exact hk
  refine Ord.St.fl2 (T' := ?_) 1 [2, 3, 4, 5, 6, 7, 8, 9, 10, 11, 12, 13, 14, 15] _ _ rfl (by kernel_rfl) rfl rfl rfl rfl (fun K w' hk => ?_) ?_
  rotate_left
  · go_step; exact hk
  refine Ord.St.fl2 (T' := ?_) 2 [3, 4, 5, 6, 7, 8, 9, 10, 11, 12, 13, 14, 15] _ _ rfl (by kernel_rfl) rfl rfl rfl rfl (fun K w' hk => ?_) ?_
  rotate_left
  · go_step; exact hk
  refine Ord.St.fl2 (T' := ?_) 3 [4, 5, 6, 7, 8, 9, 10, 11, 12, 13, 14, 15] _ _ rfl (by kernel_rfl) rfl rfl rfl rfl (fun K w' hk => ?_) ?_
  rotate_left
  · go_step; exact hk
  first | (refine Ord.St.fl2 (T' := ?_) 4 [5, 6, 7, 8, 9, 10, 11, 12, 13, 14, 15] _ _ rfl (by kernel_rfl) ?_ rfl rfl rfl (fun K w' hk => ?_) ?_; rotate_left; (first | rfl | (simp [Region.wanted, yielded, *]; done)); focus (go_step; exact hk)) | (refine Ord.St.skip 4 [5, 6, 7, 8, 9, 10, 11, 12, 13, 14, 15] _ rfl (by kernel_rfl) ?_ (fun K hK => ?_); (first | rfl | (simp [Region.wanted, yielded, *]; done)); go_simp; refine hK _ ?_; clear hK K)
  first | (refine Ord.St.fl2 (T' := ?_) 5 [6, 7, 8, 9, 10, 11, 12, 13, 14, 15] _ _ rfl (by kernel_rfl) ?_ rfl rfl rfl (fun K w' hk => ?_) ?_; rotate_left; (first | rfl | (simp [Region.wanted, yielded, *]; done)); focus (go_step; exact hk)) | (refine Ord.St.skip 5 [6, 7, 8, 9, 10, 11, 12, 13, 14, 15] _ rfl (by kernel_rfl) ?_ (fun K hK => ?_); (first | rfl | (simp [Region.wanted, yielded, *]; done)); go_simp; refine hK _ ?_; clear hK K)
  refine Ord.St.fl2 (T' := ?_) 6 [7, 8, 9, 10, 11, 12, 13, 14, 15] _ _ rfl (by kernel_rfl) rfl rfl rfl rfl (fun K w' hk => ?_) ?_
  rotate_left
  · go_step; exact hk
  refine Ord.St.fl2 (T' := ?_) 7 [8, 9, 10, 11, 12, 13, 14, 15] _ _ rfl (by kernel_rfl) rfl rfl rfl rfl (fun K w' hk => ?_) ?_
  rotate_left
  · go_step; exact hk
  first | (refine Ord.St.fl2 (T' := ?_) 8 [9, 10, 11, 12, 13, 14, 15] _ _ rfl (by kernel_rfl) ?_ rfl rfl rfl (fun K w' hk => ?_) ?_; rotate_left; (first | rfl | (simp [Region.wanted, yielded, *]; done)); focus (go_step; exact hk)) | (refine Ord.St.skip 8 [9, 10, 11, 12, 13, 14, 15] _ rfl (by kernel_rfl) ?_ (fun K hK => ?_); (first | rfl | (simp [Region.wanted, yielded, *]; done)); go_simp; refine hK _ ?_; clear hK K)
  first | (refine Ord.St.fl2 (T' := ?_) 9 [10, 11, 12, 13, 14, 15] _ _ rfl (by kernel_rfl) ?_ rfl rfl rfl (fun K w' hk => ?_) ?_; rotate_left; (first | rfl | (simp [Region.wanted, yielded, *]; done)); focus (go_step; exact hk)) | (refine Ord.St.skip 9 [10, 11, 12, 13, 14, 15] _ rfl (by kernel_rfl) ?_ (fun K hK => ?_); (first | rfl | (simp [Region.wanted, yielded, *]; done)); go_simp; refine hK _ ?_; clear hK K)
  first | (refine Ord.St.rd2 (T' := ?_) 10 [11, 12, 13, 14, 15] _ _ rfl (by kernel_rfl) ?_ rfl rfl rfl (fun K hk => ?_) ?_; rotate_left; (first | rfl | (simp [Region.wanted, yielded, *]; done)); focus (go_step; exact hk)) | (refine Ord.St.skipr 10 [11, 12, 13, 14, 15] _ rfl (by kernel_rfl) ?_ (fun K hK => ?_); (first | rfl | (simp [Region.wanted, yielded, *]; done)); go_simp; refine hK _ ?_; clear hK K)
  refine Ord.St.efC 11 [12, 13, 14, 15] _ rfl (by kernel_rfl) (fun K hK => ?_)
  go_wp2_with fail
  refine HRF.out.mono ?_
  rintro e w5 ⟨v, rfl, hrow, hlo, hc5⟩
  obtain ⟨pa, pc, rfl⟩ := row.shape hrow
  have hcur : Ch [] w4 w5 := hwd.trans hc5 (by simp)
  have hE := Eqref_same (n := n) oc pc HLN.out (HOS4.out.ch hcur (by simp)) (Sl.of_ints hrow hLm)
  have HE := Lib.hid hE; clear hE hrow hlo hc5
  go_wp2_with fail
  refine ⟨rfl, hK _ _ ?_ ?_⟩
  · exact hcur
  clear hK K
  refine Ord.St.efC 12 [13, 14, 15] _ rfl (by kernel_rfl) (fun K hK => ?_)
  go_wp2_with fail
  refine HE.out.mono ?_
  rintro e w6 ⟨rfl, hc6⟩
  have hcur5 := hcur.trans hc6 (by simp)
  have b6 := B64.out.ch hcur5 (by simp)
  have v60 := b6.cell (i := 0) rfl
  have v61 := b6.cell (i := 1) rfl
  have g60 := b6.frozen (i := 0)
  have g61 := b6.frozen (i := 1)
  clear z60 z61 f60 f61 b6
  go_wp2_with fail
  refine ⟨rfl, hK _ _ ?_ ?_⟩
  · exact hcur5
  clear hK K
  refine Ord.St.fl2 (T' := ?_) 13 [14, 15] _ _ rfl (by kernel_rfl) rfl rfl rfl rfl (fun K w' hk => ?_) ?_
  rotate_left
  · go_step; exact hk
  refine Ord.St.ef 14 [15] _ rfl (by kernel_rfl) (fun K hK => ?_)
  go_wp2_with fail
  refine ⟨rfl, hK _ _ ?_⟩; clear hK K
  refine Ord.St.fl2 (T' := ?_) 15 [] _ _ rfl (by kernel_rfl) rfl rfl rfl rfl (fun K w' hk => ?_) ?_
  rotate_left
  · go_step; exact hk
  refine Ord.St.nil ?_
  go_wp2_with fail
  have hcc := set2_ch (w := w6) (b := w.heap.size + 1 + 1) (u := .int .i64 G.most) (v := .slice (some ⟨rb, 0, none⟩) G.nodes.length cap) rfl
  refine bodyPost_ret (v := .tuple #[.agg #[.int .i64 G.most, .slice (some ⟨rb, 0, none⟩) G.nodes.length cap], .bool true]) (by simp [results, Try.results61, go_sem, v60, v61]) rfl ?_
  exact ⟨rb, cap, F', rfl, (HG4.out.same hcur5 (by simp)).same hcc (fun k hk => by simp; intro e; subst e; exact h6F hk), (HRG.out.ch hcur5 (by simp)).ch hcc (by simp; omega), hrF, (HCW4.out.trans hcur5 (by simp)).trans hcc (fun k hk => .inr (by simp at hk; omega)), HF4'.out, .inl rfl⟩
end
end Go.Proofs.Ytnajonchjlplmaa
