/-
  Contracts of functions that MuxesSmall reaches, and plain facts (part F). Conditions: the hypotheses of each theorem.
-/
import Derived.Test.YtehljgigebhddaaGreatQE
import Derived.Deep.DeepCutAuto
import Derived.Deep.CutBlock
import Derived.Laws.Bits64b
import Derived.Laws.CopyRow
set_option maxRecDepth 100000
set_option maxHeartbeats 16000000
namespace Go.Proofs.YtehljgigebhddaaGreat
open Go.RowKit Go.Mem Go.Aig
structure Both (w0 w : World) (g rb cap : Nat) (G : Gra) (F : List Nat) : Prop where
 gin : GIn w g G F
 rg : RG w rb cap G
 ap : rb ∉ F
 own : ∀ k ∈ F, w0.heap.size ≤ k
 rlo : w0.heap.size ≤ rb
 ch : Ch [] w0 w
theorem Both.same {w0 w w' : World} {g rb cap : Nat} {G : Gra} {F : List Nat} (h : Both w0 w g rb cap G F) (hc : Ch [] w w') : Both w0 w' g rb cap G F :=
 ⟨h.gin.same hc (by simp), h.rg.ch hc (by simp), h.ap, h.own, h.rlo, h.ch.trans hc (by simp)⟩
theorem Both.next {w0 w w1 w2 : World} {g rb cap : Nat} {G G' : Gra} {F F' : List Nat} (h : Both w0 w g rb cap G F) (hg : GIn w1 g G' F') (hc1 : Ch F w w1) (hF : ∀ k ∈ F', k ∈ F ∨ w.heap.size ≤ k) {rb' cap' : Nat} (hr : RG w2 rb' cap' G') (hc2 : Ch [] w1 w2) (hb : rb' = rb ∨ w1.heap.size ≤ rb') : Both w0 w2 g rb' cap' G' F' := by
 have hrl := h.rg.lt
 have hz := hc1.size
 refine ⟨hg.same hc2 (by simp), hr, fun hin => ?_, fun k hk => (hF k hk).elim (h.own k) (fun e => Nat.le_trans h.ch.size e), ?_, (h.ch.trans hc1 (fun k hk => .inr (h.own k hk))).trans hc2 (by simp)⟩
 ·have hlt := hg.lt _ hin
  rcases hb with rfl | e
  ·rcases hF _ hin with e | e
   ·exact h.ap e
   ·omega
  ·omega
 ·rcases hb with rfl | e
  ·exact h.rlo
  ·have := h.ch.size; omega
theorem Both.set {w0 w w' : World} {g rb cap b : Nat} {G : Gra} {F : List Nat} (h : Both w0 w g rb cap G F) (hc : Ch [b] w w') (hb : b ∉ F) (hr : rb ≠ b) (hlo : w0.heap.size ≤ b) : Both w0 w' g rb cap G F :=
 ⟨h.gin.same hc (fun k hk hk2 => hb (by rw [List.mem_singleton.1 hk2] at hk; exact hk)), h.rg.ch hc (by simpa using hr), h.ap, h.own, h.rlo, h.ch.trans hc (fun k hk => .inr (by rw [List.mem_singleton.1 hk]; exact hlo))⟩
section
theorem Begin23_no (w : World) (M : Int) (N : Nat) (hM : M < 1 ∨ 65536 < M) : Calls Tryz.prog 73 #[.agg #[.int .i64 M, .int .u8 N]] w fun e w' => e = .returned (.tuple #[.pointer none, .agg #[.int .i64 0, .slice none 0 0]]) ∧ Ch [] w w' := by
 have hN := fun W => New_no (w := W) M hM
 have hR := fun W => rNew_no W M hM
 clear hM
 go_enter Tryz.func73, Tryz.ntmps73
 go_wp2_with fail
 refine (hN _).mono ?_
 rintro e w' ⟨rfl, rfl⟩
 go_wp2_with fail
 refine calls_named fun W hW => ?_
 have b1 : blk W w.heap.size [.int .i64 M, .int .u8 N] := by rw [hW]; exact (blk.new' _ _ (by simp)).alloc _
 have b3 : blk W (w.heap.size + 1) [.int .i64 0, .slice none 0 0] := by rw [hW]; exact blk.new' _ _ (by simp)
 have hc : Ch [] w W := by rw [hW]; exact ((Ch.refl _ _).alloc _).alloc _
 clear hW
 refine (hR W).mono ?_
 rintro e w1 ⟨rfl, hc1⟩
 have b3 := b3.ch hc1 (by simp)
 have z0 := b3.cell (i := 0) rfl
 have z1 := b3.cell (i := 1) rfl
 have f0 := b3.frozen (i := 0)
 have f1 := b3.frozen (i := 1)
 have hz1 := b3.lt
 have HC := Hi9 (hc.trans hc1 (by simp)); clear hc hc1 b3 b1
 go_wp2_with fail
 refine bodyPost_ret (v := .tuple #[.pointer none, .agg #[.int .i64 0, .slice none 0 0]]) (by simp [results, Tryz.results73, go_sem, z0, z1, hz1]) rfl ?_
 refine ⟨rfl, ?_⟩
 refine Ch.trans HC.out (F' := [w.heap.size + 1]) ?_ (fun k hk => .inr (by simp at hk; omega))
 repeat (first | exact Ch.refl _ _ | refine Ch.alloc ?_ _ | refine Ch.setCell ?_ (.inl (by simp)) _)
theorem Begin23_yes (w : World) (M N : Nat) (h1 : 1 ≤ M) (h2 : M ≤ 65536) (_hN : N ≤ 255) : Calls Tryz.prog 73 #[.agg #[.int .i64 M, .int .u8 N]] w fun e w' => ∃ g F rb cap G, e = .returned (.tuple #[.pointer (some ⟨g, 0, none⟩), .agg #[.int .i64 G.most, .slice (some ⟨rb, 0, none⟩) G.nodes.length cap]]) ∧ Both w w' g rb cap G F := by
 have hN := fun W => New_yes (w := W) M h1 h2
 have hR := fun W => rNew_yes W M h1 h2
 obtain ⟨n, hn, hn40⟩ : ∃ n, N % 40 = n ∧ n < 40 := ⟨_, rfl, by omega⟩
 have hni : (N : Int) % 40 = n := by omega
 clear hn
 have HN := Hi9 hN; clear hN
 have HR := Hi9 hR; clear hR
 go_enter Tryz.func73, Tryz.ntmps73
 go_wp2_with fail
 refine calls_named fun W hW => ?_
 have b1 : blk W w.heap.size [.int .i64 M, .int .u8 N] := by rw [hW]; exact (blk.new' _ _ (by simp)).alloc _
 have b3 : blk W (w.heap.size + 1) [.int .i64 0, .slice none 0 0] := by rw [hW]; exact blk.new' _ _ (by simp)
 have hc : Ch [] w W := by rw [hW]; exact ((Ch.refl _ _).alloc _).alloc _
 have hz : W.heap.size = w.heap.size + 2 := by rw [hW]; simp
 clear hW
 refine (HN.out W).mono ?_
 rintro e w1 ⟨g, F1, rfl, hg1, hF1, hc1⟩
 have b1 := b1.ch hc1 (by simp)
 have b3 := b3.ch hc1 (by simp)
 have hc := hc.trans hc1 (by simp)
 have x0 := b1.cell (i := 0) rfl
 have x1 := b1.cell (i := 1) rfl
 have hF2 : ∀ k ∈ F1, w.heap.size + 2 ≤ k ∧ k < w1.heap.size := fun k hk => ⟨by have := hF1 k hk; omega, hg1.lt k hk⟩
 have HF2 := Hi9 hF2; clear hF2 hF1 hc1
 have HC := Hi9 hc; clear hc
 have HG1 := Hi9 hg1; clear hg1
 have B1 := Hi9 b1; clear b1
 have B3 := Hi9 b3; clear b3
 go_wp2_with fail
 refine (HR.out _).mono ?_
 rintro e w2 ⟨rb, cap, rfl, hrg, hc2, hlo⟩
 have hz2 := hc2.size
 have hz3 := B3.out.lt
 have hbt : Both w w2 g rb cap (newG M) F1 := ⟨HG1.out.same hc2 (by simp), hrg, fun hin => by have := HF2.out _ hin; omega, fun k hk => by have := HF2.out k hk; omega, by omega, HC.out.trans hc2 (by simp)⟩
 have b1 := B1.out.ch hc2 (by simp)
 have b3 := B3.out.ch hc2 (by simp)
 generalize newG M = G0 at *
 have HBT := Hi9 hbt; clear hbt hrg hc2 HC HG1 x0 x1
 clear B1 B3
 have B1 := Hi9 b1; clear b1
 have B3 := Hi9 b3; clear b3
 go_upto_region 3 with fail
 refine wp_alw ?_
 intro W3 hW3
 have hb6 := alw_blk (xs := [.int .i64 G0.most, .slice (some ⟨rb, 0, none⟩) G0.nodes.length cap]) hW3
 have hc3 := alw_ch hW3
 have hbt := HBT.out.same hc3
 have b1 := B1.out.ch hc3 (by simp)
 have b3 := B3.out.ch hc3 (by simp)
 have hrb6 : rb ≠ w2.heap.size := rg_ne HBT.out.rg
 have hlo2 : w.heap.size + 2 ≤ rb := by omega
 have h6F : w2.heap.size ∉ F1 := fun hin => by have := HF2.out _ hin; omega
 have h3F : w.heap.size + 1 ∉ F1 := fun hin => by have := HF2.out _ hin; omega
 have h6lo : w.heap.size + 2 ≤ w2.heap.size := by omega
 clear hW3 hc3 HBT B1 B3 hlo
 generalize w2.heap.size = b6 at *
 have x0 := b1.cell (i := 0) rfl
 have x1 := b1.cell (i := 1) rfl
 have HBT := Hi9 hbt; clear hbt
 have B6 := Hi9 hb6; clear hb6
 have B3 := Hi9 b3; clear b3 b1
 go_wp2_with fail
 clear hni
 go_loopw [39] (fun i wr => ∃ (k : Nat) (G : Gra) (F : List Nat) (rb cap : Nat), k ≤ n ∧ i = .int .i64 k ∧ Both w wr g rb cap G F ∧ b6 ∉ F ∧ w.heap.size + 1 ∉ F ∧ rb ≠ b6 ∧ w.heap.size + 2 ≤ rb ∧ blk wr b6 [.int .i64 G.most, .slice (some ⟨rb, 0, none⟩) G.nodes.length cap] ∧ blk wr (w.heap.size + 1) [.int .i64 0, .slice none 0 0]) (fun i _ => n - (intOf i).toNat)
 case atStart => exact ⟨0, G0, F1, rb, cap, by omega, rfl, HBT.out, h6F, h3F, hrb6, hlo2, B6.out, B3.out⟩
 case round =>
  clear HBT B6 B3 h6F h3F hrb6 hlo2 x0 x1 HN HR
  obtain ⟨k, G, F, rb, cap, hk, rfl, hbt, h6F, h3F, hrb6, hlo2, b6c, b3⟩ := hrel
  have hwr6 := b6c.lt
  by_cases hlt : k < n
  ·have hI := Input_g hbt.gin
   have HI := Hi9 hI; clear hI
   have HBT := Hi9 hbt; clear hbt
   have B6 := Hi9 b6c; clear b6c
   have B3 := Hi9 b3; clear b3
   go_wp2_with fail
   refine HI.out.mono ?_
   rintro e w4 ⟨rfl, F', hg4, hc4, hF4, _⟩
   have hp := rPut_is (HBT.out.rg.ch hc4 HBT.out.ap) ⟨2, 0, 0, 0⟩ (fun hm => by
    have hok := hg4.ok
    unfold doInput put at hok
    rw [if_neg (by omega)] at hok
    exact hok)
   have b6c := B6.out.ch hc4 h6F
   have b3 := B3.out.ch hc4 h3F
   have y0 := b6c.cell (i := 0) rfl
   have y1 := b6c.cell (i := 1) rfl
   have h6F' : b6 ∉ F' := fun hin => by rcases hF4 _ hin with e | e; exact h6F e; omega
   have h3F' : w.heap.size + 1 ∉ F' := fun hin => by rcases hF4 _ hin with e | e; exact h3F e; have := B3.out.lt; omega
   have hz4 := b6c.lt
   have HP := Hi9 hp; clear hp
   have HG4 := Hi9 hg4; clear hg4
   have HC4 := Hi9 hc4; clear hc4
   have HF4 := Hi9 hF4; clear hF4
   have BB6 := Hi9 b6c; clear b6c
   have BB3 := Hi9 b3; clear b3
   go_wp2_with fail
   refine HP.out.mono ?_
   rintro e w5 ⟨rb', cap', rfl, hrg5, hc5, hfr⟩
   have hbt5 := HBT.out.next (G' := (put G ⟨2, 0, 0, 0⟩).1) HG4.out HC4.out HF4.out hrg5 hc5 hfr
   have hrb' : rb' ≠ b6 := by rcases hfr with e | e <;> omega
   have hlo' : w.heap.size + 2 ≤ rb' := by rcases hfr with e | e <;> omega
   generalize (put G ⟨2, 0, 0, 0⟩).1 = G1 at *
   have b6c := BB6.out.ch hc5 (by simp)
   have b3 := BB3.out.ch hc5 (by simp)
   have f0 := b6c.frozen (i := 0)
   have f1 := b6c.frozen (i := 1)
   have y0 := b6c.cell (i := 0) rfl
   have y1 := b6c.cell (i := 1) rfl
   have HBT5 := Hi9 hbt5; clear hbt5
   have BC6 := Hi9 b6c; clear b6c
   have BC3 := Hi9 b3; clear b3
   clear HP HG4 HC4 HF4 BB6 BB3 hrg5 hc5 hfr HI
   go_wp2_with fail
   go_roundw
   case rel =>
    have hcs := set2_ch (w := w5) (b := b6) (u := .int .i64 G1.most) (v := .slice (some ⟨rb', 0, none⟩) G1.nodes.length cap') rfl
    exact ⟨k + 1, G1, F', rb', cap', by omega, by go_num, HBT5.out.set hcs h6F' hrb' (by omega), h6F', h3F', hrb', hlo', (BC6.out.set (i := 0) _).set (i := 1) _, BC3.out.ch hcs (by simp; omega)⟩
   case measure => simp [intOf]; omega
  ·have HBT := Hi9 hbt; clear hbt
   have B6 := Hi9 b6c; clear b6c
   have B3 := Hi9 b3; clear b3
   go_wp2_with fail
   go_loopw [9] (fun i wr => ∃ (k : Nat) (G : Gra) (F : List Nat) (rb cap : Nat), 1 ≤ k ∧ k ≤ n + 1 ∧ i = .int .i64 k ∧ Both w wr g rb cap G F ∧ b6 ∉ F ∧ w.heap.size + 1 ∉ F ∧ rb ≠ b6 ∧ w.heap.size + 2 ≤ rb ∧ blk wr b6 [.int .i64 G.most, .slice (some ⟨rb, 0, none⟩) G.nodes.length cap] ∧ blk wr (w.heap.size + 1) [.int .i64 0, .slice none 0 0]) (fun i _ => n - (intOf i).toNat)
   case atStart => exact ⟨1, G, F, rb, cap, by omega, by omega, rfl, HBT.out, h6F, h3F, hrb6, hlo2, B6.out, B3.out⟩
   case round =>
    clear HBT B6 B3 h6F h3F hrb6 hlo2 hwr6
    obtain ⟨k, G, F, rb, cap, hk1, hk, rfl, hbt, h6F, h3F, hrb6, hlo2, b6c, b3⟩ := hrel
    have hwr6 := b6c.lt
    have y0 := b6c.cell (i := 0) rfl
    have y1 := b6c.cell (i := 1) rfl
    by_cases hlt : k < n
    ·have hRt := rRight_is hbt.rg (2 * (k : Int) + 2)
     have hrt : right G.nodes (2 * (k : Int) + 2) = true → 2 * k + 3 < 2 * G.nodes.length := fun e => by
      unfold right at e
      have := of_decide_eq_true e
      omega
     cases hq : right G.nodes (2 * (k : Int) + 2)
     ·rw [hq] at hRt
      have HRT := Hi9 hRt; clear hRt hrt hq
      have HBT := Hi9 hbt; clear hbt
      have B6 := Hi9 b6c; clear b6c
      have B3 := Hi9 b3; clear b3
      go_wp2_with fail
      refine HRT.out.mono ?_
      rintro e w4 ⟨rfl, hc4⟩
      have HC4 := Hi9 hc4; clear hc4 HRT
      go_wp2_with fail
      go_roundw
      case rel => exact ⟨k + 1, G, F, rb, cap, by omega, by omega, by go_num, HBT.out.same HC4.out, h6F, h3F, hrb6, hlo2, B6.out.ch HC4.out (by simp), B3.out.ch HC4.out (by simp)⟩
      case measure => simp [intOf]; omega
     ·rw [hq] at hRt
      have hv := hrt hq
      have HRT := Hi9 hRt; clear hRt hrt hq
      have HBT := Hi9 hbt; clear hbt
      have B6 := Hi9 b6c; clear b6c
      have B3 := Hi9 b3; clear b3
      have hA := fun (W : World) (hW : Ch [] wr W) => And_r (HBT.out.same hW).gin (a := 2 * k) (b := 2 * k + 3) (by omega) hv
      have hB := fun (W : World) (F9 : List Nat) (hW : Ch F9 wr W) (hF : rb ∉ F9) => rAnd_is (HBT.out.rg.ch hW hF) (a := 2 * k) (b := 2 * k + 3) (by omega) hv
      rw [show ((2 * k : Nat) : Int) = 2 * (k : Int) by omega, show ((2 * k + 3 : Nat) : Int) = 2 * (k : Int) + 3 by omega] at hA hB
      generalize and G (2 * k) (2 * k + 3) = X at hA hB
      have HA := Hi9 hA; clear hA
      have HB := Hi9 hB; clear hB
      go_wp2_with fail
      refine HRT.out.mono ?_
      rintro e w4 ⟨rfl, hc4⟩
      have hA := HA.out w4 hc4
      have HA4 := Hi9 hA; clear hA HA
      have HC4 := Hi9 hc4; clear hc4 HRT
      go_wp2_with fail
      refine HA4.out.mono ?_
      rintro e w5 ⟨rfl, F', hg5, hc5, hF5, _⟩
      have hB5 := HB.out w5 F (HC4.out.mono (by simp) |>.trans hc5 (fun k hk => .inl hk)) HBT.out.ap
      have hwb := HBT.out.same HC4.out
      have b6c := (B6.out.ch HC4.out (by simp)).ch hc5 h6F
      have b3 := (B3.out.ch HC4.out (by simp)).ch hc5 h3F
      have y0 := b6c.cell (i := 0) rfl
      have y1 := b6c.cell (i := 1) rfl
      have hz4 := HC4.out.size
      have h6F' : b6 ∉ F' := fun hin => by rcases hF5 _ hin with e | e; exact h6F e; omega
      have h3F' : w.heap.size + 1 ∉ F' := fun hin => by rcases hF5 _ hin with e | e; exact h3F e; have := B3.out.lt; omega
      have hz5 := b6c.lt
      have HB5 := Hi9 hB5; clear hB5 HB
      have HWB := Hi9 hwb; clear hwb
      have HG5 := Hi9 hg5; clear hg5
      have HC5 := Hi9 hc5; clear hc5
      have HF5 := Hi9 hF5; clear hF5
      have BB6 := Hi9 b6c; clear b6c
      have BB3 := Hi9 b3; clear b3
      go_wp2_with fail
      refine HB5.out.mono ?_
      rintro e w6 ⟨rb', cap', rfl, hrg6, hc6, hfr⟩
      have hbt6 := HWB.out.next (G' := X.1) HG5.out HC5.out HF5.out hrg6 hc6 hfr
      have hrb' : rb' ≠ b6 := by rcases hfr with e | e <;> omega
      have hlo' : w.heap.size + 2 ≤ rb' := by rcases hfr with e | e <;> omega
      obtain ⟨G1, r1, e1⟩ := X
      simp only at hbt6 hrg6
      have b6c := BB6.out.ch hc6 (by simp)
      have b3 := BB3.out.ch hc6 (by simp)
      have f0 := b6c.frozen (i := 0)
      have f1 := b6c.frozen (i := 1)
      have y0 := b6c.cell (i := 0) rfl
      have y1 := b6c.cell (i := 1) rfl
      have HBT6 := Hi9 hbt6; clear hbt6
      have BC6 := Hi9 b6c; clear b6c
      have BC3 := Hi9 b3; clear b3
      clear HB5 HG5 HC5 HF5 BB6 BB3 hrg6 hc6 hfr HA4 HWB
      go_wp2_with fail
      go_roundw
      case rel =>
       have hcs := set2_ch (w := w6) (b := b6) (u := .int .i64 G1.most) (v := .slice (some ⟨rb', 0, none⟩) G1.nodes.length cap') rfl
       exact ⟨k + 1, G1, F', rb', cap', by omega, by omega, by go_num, HBT6.out.set hcs h6F' hrb' (by omega), h6F', h3F', hrb', hlo', (BC6.out.set (i := 0) _).set (i := 1) _, BC3.out.ch hcs (by simp; omega)⟩
      case measure => simp [intOf]; omega
    ·have HBT := Hi9 hbt; clear hbt
     have z0 := b3.cell (i := 0) rfl
     have z1 := b3.cell (i := 1) rfl
     have g0 := b3.frozen (i := 0)
     have g1 := b3.frozen (i := 1)
     clear b6c b3
     go_wp2_with fail
     refine Ord.St.door (fun _ => True) [.fl, .rd, .fl, .ef] [0, 0, 1, 7] [0, 1, 2, 3] mixed (by kernel_rfl) rfl ?_
     (refine Ord.F9 ?_ (fun K w' hk => ?_) ?_; rotate_left; focus (go_step; exact hk))
     (refine Ord.Q9 ?_ (fun K hk => ?_) ?_; rotate_left; focus (go_step; exact hk))
     (refine Ord.F9 ?_ (fun K w' hk => ?_) ?_; rotate_left; focus (go_step; exact hk))
     refine Ord.St.ef 3 [] _ rfl (by kernel_rfl) (fun K hK => ?_)
     go_wp2_with fail
     refine ⟨rfl, hK _ _ ?_⟩; clear hK K
     refine Ord.St.nil ?_
     go_wp2_with fail
     have hcs : Ch [w.heap.size + 1] wr ((wr.setCell ⟨w.heap.size + 1, 0, none⟩ (.int .i64 G.most)).setCell ⟨w.heap.size + 1, 1, none⟩ (.slice (some ⟨rb, 0, none⟩) G.nodes.length cap)).drew := (((Ch.refl _ _).setCell (by simp) _).setCell (by simp) _).drew
     refine bodyPost_ret (v := .tuple #[.pointer (some ⟨g, 0, none⟩), .agg #[.int .i64 G.most, .slice (some ⟨rb, 0, none⟩) G.nodes.length cap]]) (by simp [results, Tryz.results73, go_sem, z0, z1]) rfl ?_
     exact ⟨g, F, rb, cap, G, rfl, HBT.out.set hcs h3F (by omega) (by omega)⟩
end
def ShqB (w w' : World) : Prop := ∀ b ys, blk w b ys → ∃ ys', blk w' b ys' ∧ ys'.length = ys.length
theorem ShqB.refl (w : World) : ShqB w w := fun _ ys h => ⟨ys, h, rfl⟩
theorem ShqB.set {w w' : World} (h : ShqB w w') (b k : Nat) (v : Value) : ShqB w (w'.setCell ⟨b, k, none⟩ v) := fun c ys hc => by
 obtain ⟨zs, h1, h2⟩ := h c ys hc
 by_cases e : c = b
 ·subst e; exact ⟨_, h1.set (i := k) v, by simpa using h2⟩
 ·exact ⟨zs, h1.other e v, h2⟩
theorem ShqB.cell {w w' : World} {e : TypeId} {a : Option Addr} {n c k : Nat} {xs : List Value} (h : ShqB w w') (hr : row w e 1 (.slice a n c) n xs) (hk : k < n) : ∃ (b : Nat) (old : Value), a = some ⟨b, 0, none⟩ ∧ w'.cell? ⟨b, k, none⟩ = some old ∧ w'.frozen? ⟨b, k, none⟩ = false := by
 obtain ⟨b, ys, e1, hb, hl⟩ := rowBlk hr k hk
 obtain ⟨zs, h1, h2⟩ := h b ys hb
 exact ⟨b, _, e1, h1.cell (List.getElem?_eq_getElem (show k < zs.length by omega)), h1.frozen⟩
def ATo (W w : World) (g rb : Nat) (F : List Nat) (e : Ending) (w' : World) : Prop := ∃ G' F' rb' cap', e = .returned (.tuple #[.agg #[.int .i64 G'.most, .slice (some ⟨rb', 0, none⟩) G'.nodes.length cap'], .bool true]) ∧ Both W w' g rb' cap' G' F' ∧ (∀ q ∈ F', q ∈ F ∨ w.heap.size ≤ q) ∧ (rb' = rb ∨ w.heap.size ≤ rb') ∧ Ch F w w'
theorem ATo.of {W w w' : World} {g rb cap : Nat} {G : Gra} {F : List Nat} (hb : Both W w g rb cap G F) {G' : Gra} {F' : List Nat} {rb' cap' : Nat} (hg : GIn w' g G' F') (hr : RG w' rb' cap' G') (hap : rb' ∉ F') (hfn : ∀ q ∈ F', q ∈ F ∨ w.heap.size ≤ q) (hfr : rb' = rb ∨ w.heap.size ≤ rb') (hc : Ch F w w') :
  ATo W w g rb F (.returned (.tuple #[.agg #[.int .i64 G'.most, .slice (some ⟨rb', 0, none⟩) G'.nodes.length cap'], .bool true])) w' := by
 have hz := hb.ch.size
 have hlo := hb.rlo
 refine ⟨G', F', rb', cap', rfl, ⟨hg, hr, hap, fun q hq => ?_, by omega, hb.ch.trans hc (fun q hq => .inr (hb.own q hq))⟩, hfn, hfr, hc⟩
 rcases hfn q hq with e | e
 ·exact hb.own q e
 ·omega
section
end
end Go.Proofs.YtehljgigebhddaaGreat
namespace Go.Aig
theorem eachF_len9 (op : Mk → Nat → Nat → Mk × Nat) (s : Mk) (l : List (Nat × Nat)) : (eachF op s l).2.length = l.length := by
 unfold eachF
 have : ∀ (l : List (Nat × Nat)) (q : Mk × List Nat), (l.foldl (eachS op) q).2.length = q.2.length + l.length := by
  intro l
  induction l with
  | nil => intro q; rfl
  | cons p l ih => intro q; rw [List.foldl_cons, ih]; simp [eachS]; omega
 rw [this]; simp
theorem chF_len9 (c : Nat) (s : Mk) (l : List (Nat × Nat)) : (chF c s l).2.length = l.length := eachF_len9 _ _ _
theorem rreadF_small (s : Mk) (L : List (List Nat)) (y : List Nat) (n width k : Nat) : (rreadF s L y n width k).2.length ≤ width := by
 induction k with
 | zero => simp [rreadF]
 | succ k ih =>
  rw [rreadF_succ]
  unfold rreadS
  rw [chF_len9, List.length_zip]
  omega
theorem pickF_small (L : List (List Nat)) (l : List (Nat × Nat)) : ∀ s : Mk × List Nat, (pickF L s l).2.length ≤ s.2.length := by
 induction l with
 | nil => intro s; exact Nat.le_refl _
 | cons p l ih =>
  intro s
  have h1 := ih (pickS L s p)
  have h2 : (pickS L s p).2.length ≤ s.2.length := by
   unfold pickS
   rw [chF_len9, List.length_zip]
   omega
  exact Nat.le_trans h1 h2
theorem rwriteF_small (s : Mk) (c : Nat) (x : List Nat) (L : List (List Nat)) (y : List Nat) (n B : Nat) (hx : x.length ≤ B) (hL : ∀ l ∈ L, l.length ≤ B) (k : Nat) : (∀ l ∈ (rwriteF s c x L y n k).2, l.length ≤ B) ∧ (rwriteF s c x L y n k).2.length = L.length := by
 induction k with
 | zero => exact ⟨hL, rfl⟩
 | succ k ih =>
  rw [rwriteF_succ]
  unfold rwriteS
  refine ⟨fun l hl => ?_, by simp only [List.length_set]; exact ih.2⟩
  rcases List.mem_or_eq_of_mem_set hl with h | h
  ·exact ih.1 l h
  ·rw [h, chF_len9, List.length_zip]
   omega
theorem RF26_small {k : Nat} {G : Gra} {a : MxA} (hX : a.X.length ≤ 1000) (hL : ∀ l ∈ a.L, l.length ≤ 1000) (hl : a.L.length ≤ 1000) : (∀ l ∈ (RF26 k G a).2.1, l.length ≤ 1000) ∧ (RF26 k G a).2.1.length ≤ 1000 := by
 have hLn : ∀ l ∈ a.L.map nats, l.length ≤ 1000 := fun l h => by
  obtain ⟨x, hx, rfl⟩ := List.mem_map.1 h
  rw [nats_len26]; exact hL x hx
 unfold RF26
 split
 ·refine ⟨fun l h => ?_, by simp⟩
  rw [List.mem_singleton.1 h, chF_len9, List.length_zip, nats_len26]
  omega
 ·exact ⟨by simp, by simp⟩
 ·refine ⟨fun l h => ?_, by simp⟩
  rw [List.mem_singleton.1 h]
  refine Nat.le_trans (rreadF_small _ _ _ _ _ _) ?_
  cases hh : a.L with
  | nil => simp
  | cons z zs => exact hL z (by rw [hh]; simp)
 ·have h9 := rwriteF_small (G, 0) a.C.toNat (nats a.X) (a.L.map nats) (nats a.Y) a.Y.length 1000 (by rw [nats_len26]; exact hX) hLn (min a.L.length (2 ^ a.Y.length))
  exact ⟨h9.1, by show (rwriteF _ _ _ _ _ _ _).2.length ≤ 1000; rw [h9.2, List.length_map]; exact hl⟩
 ·refine ⟨fun l h => ?_, by simp⟩
  rw [List.mem_singleton.1 h]
  refine Nat.le_trans (pickF_small _ _ _) ?_
  show ((a.L.map nats).getD a.gs.length []).length ≤ 1000
  rw [List.getD_eq_getElem?_getD]
  cases hh : (a.L.map nats)[a.gs.length]? with
  | none => simp
  | some z => exact hLn z (List.mem_of_getElem? hh)
 ·exact ⟨by simp, by simp⟩
end Go.Aig
namespace Go.Proofs.YtehljgigebhddaaGreat
open Go.RowKit Go.Mem Go.Aig
theorem IW.ch2 {F : List Nat} {w w' : World} {la : Option Addr} {nl : Nat} {Ls : List WV} (h : IW w la nl Ls) (hc : Ch F w w') (hA : 0 < Ls.length → ∀ p, la = some p → p.block ∉ F) (hW : ∀ x ∈ Ls, 0 < x.l.length → ∀ p, x.a = some p → p.block ∉ F) : IW w' la nl Ls :=
 ⟨h.len, fun i x hx => by
  obtain ⟨b, o, e, hcl⟩ := h.cells i x hx
  exact ⟨b, o, e, (hc.cell (cell_lt hcl) (by have := hA (by have := (List.getElem?_eq_some_iff.1 hx).1; omega) _ e; exact this)).trans hcl⟩, fun x hx => (h.sl x hx).ch2 hc (hW x hx), h.sm⟩
structure MxK (w : World) (v : MxV) (B0 : Nat) : Prop where
 inn : MxIn w v B0
 lx : 0 < v.x.l.length → ∀ p, v.x.a = some p → p.block < B0
 ly : 0 < v.y.l.length → ∀ p, v.y.a = some p → p.block < B0
 lg : 0 < v.gs.l.length → ∀ p, v.gs.a = some p → p.block < B0
 lla : 0 < v.Ls.length → ∀ p, v.la = some p → p.block < B0
 lma : 0 < v.Ms.length → ∀ p, v.ma = some p → p.block < B0
theorem MxK.ch {F : List Nat} {w w' : World} {v : MxV} {B0 : Nat} (h : MxK w v B0) (hc : Ch F w w') (hF : ∀ k ∈ F, B0 ≤ k) : MxK w' v B0 := by
 have key : ∀ {P : Prop} {a : Option Addr}, (P → ∀ p, a = some p → p.block < B0) → P → ∀ p, a = some p → p.block ∉ F := fun h hp p e hin => by
  have h1 := h hp p e
  have h2 := hF _ hin
  omega
 obtain ⟨⟨k1, k2, k3, k4, k5, k6⟩, h1, h2, h3, h4, h5⟩ := h
 exact ⟨⟨k1.ch2 hc (key h1), k2.ch2 hc (key h2), k3.ch2 hc (key h3), k4.ch2 hc (key h4) (fun x hx => key (k6 x (List.mem_append_left _ hx))), k5.ch2 hc (key h5) (fun x hx => key (k6 x (List.mem_append_right _ hx))), k6⟩, h1, h2, h3, h4, h5⟩
structure MxB (v : MxV) : Prop where
 N : v.N < 4294967296
 C : I64' v.C
 bx : ∀ r ∈ v.x.l, -9223372036854775808 ≤ r ∧ r ≤ 9223372036854775807
 by_ : ∀ r ∈ v.y.l, -9223372036854775808 ≤ r ∧ r ≤ 9223372036854775807
 bg : ∀ r ∈ v.gs.l, -9223372036854775808 ≤ r ∧ r ≤ 9223372036854775807
 bl : ∀ x ∈ v.Ls, ∀ r ∈ x.l, -9223372036854775808 ≤ r ∧ r ≤ 9223372036854775807
 bm : ∀ x ∈ v.Ms, ∀ r ∈ x.l, -9223372036854775808 ≤ r ∧ r ≤ 9223372036854775807
 xn : v.x.l.length ≤ 1000
 yn : v.y.l.length ≤ 1000
 gn : v.gs.l.length ≤ 1000
 ln : v.Ls.length ≤ 900
 mn : v.Ms.length ≤ 900
theorem CpW.ch9 {F : List Nat} {w w' : World} {lo hi : Nat} {x : WV} (h : CpW w lo x) (ht : ∀ q, x.val.ownBlock = some q → q < hi) (hc : Ch F w w') (hF : ∀ k ∈ F, k < lo ∨ hi ≤ k) : CpW w' lo x :=
 ⟨h.row.ch hc (fun k hk hin => by have := h.own k hk; have := ht k hk; have := hF k hin; omega), h.own, h.bd, h.len⟩
theorem CpW.top {w : World} {lo : Nat} {x : WV} (h : CpW w lo x) : ∀ q, x.val.ownBlock = some q → q < w.heap.size := fun q hq => (h.row.lt q hq).2
theorem CpA.top {w : World} {lo : Nat} {v : Value} {ws : List WV} (h : CpA w lo v ws) : ∀ q, v.ownBlock = some q → q < w.heap.size := fun q hq => (h.row.lt q hq).2
theorem CpA.ch9 {F : List Nat} {w w' : World} {lo hi : Nat} {v : Value} {ws : List WV} (h : CpA w lo v ws) (ht : ∀ q, v.ownBlock = some q → q < hi) (ht2 : ∀ x ∈ ws, ∀ q, x.val.ownBlock = some q → q < hi) (hc : Ch F w w') (hF : ∀ k ∈ F, k < lo ∨ hi ≤ k) : CpA w' lo v ws :=
 ⟨h.row.ch hc (fun k hk hin => by have := h.own k hk; have := ht k hk; have := hF k hin; omega), h.own, fun x hx => (h.ws x hx).ch9 (ht2 x hx) hc hF, h.ap⟩
structure K26 (W : World) (n0 hi : Nat) (v : MxV) (G : Gra) (rb cap : Nat) (cx cy cg : WV) (lv mv : Value) (ls ms : List WV) (w : World) : Prop where
 b4 : blk w n0 [.int .i64 G.most, .slice (some ⟨rb, 0, none⟩) G.nodes.length cap]
 b5 : blk w (n0 + 1) v.cells
 b6 : blk w (n0 + 2) [.int .i64 0, .slice none 0 0]
 rg : RG w rb cap G
 mx : MxK w v W.heap.size
 x : CpW w (n0 + 3) cx
 y : CpW w (n0 + 3) cy
 gs : CpW w (n0 + 3) cg
 l : CpA w (n0 + 3) lv ls
 m : CpA w (n0 + 3) mv ms
 tx : ∀ q, cx.val.ownBlock = some q → q < hi
 ty : ∀ q, cy.val.ownBlock = some q → q < hi
 tg : ∀ q, cg.val.ownBlock = some q → q < hi
 tl : ∀ q, lv.ownBlock = some q → q < hi
 tm : ∀ q, mv.ownBlock = some q → q < hi
 tls : ∀ z ∈ ls, ∀ q, z.val.ownBlock = some q → q < hi
 tms : ∀ z ∈ ms, ∀ q, z.val.ownBlock = some q → q < hi
 top : n0 + 3 ≤ hi
theorem K26.ch {F : List Nat} {W w w' : World} {n0 hi : Nat} {v : MxV} {G : Gra} {rb cap : Nat} {x y gs : WV} {lv mv : Value} {ls ms : List WV} (h : K26 W n0 hi v G rb cap x y gs lv mv ls ms w) (hc : Ch F w w') (hF : ∀ k ∈ F, W.heap.size ≤ k ∧ (k < n0 ∨ hi ≤ k) ∧ k ≠ rb) : K26 W n0 hi v G rb cap x y gs lv mv ls ms w' := by
 have hF2 : ∀ k ∈ F, k < n0 + 3 ∨ hi ≤ k := fun k hk => by have := hF k hk; omega
 have ht := h.top
 exact ⟨h.b4.ch hc (fun hin => by have := hF _ hin; omega), h.b5.ch hc (fun hin => by have := hF _ hin; omega), h.b6.ch hc (fun hin => by have := hF _ hin; omega), h.rg.ch hc (fun hin => (hF _ hin).2.2 rfl), h.mx.ch hc (fun k hk => (hF k hk).1),
  h.x.ch9 h.tx hc hF2, h.y.ch9 h.ty hc hF2, h.gs.ch9 h.tg hc hF2, h.l.ch9 h.tl h.tls hc hF2, h.m.ch9 h.tm h.tms hc hF2, h.tx, h.ty, h.tg, h.tl, h.tm, h.tls, h.tms, h.top⟩
theorem K26.same {W w w' : World} {n0 hi : Nat} {v : MxV} {G : Gra} {rb cap : Nat} {x y gs : WV} {lv mv : Value} {ls ms : List WV} (h : K26 W n0 hi v G rb cap x y gs lv mv ls ms w) (hc : Ch [] w w') : K26 W n0 hi v G rb cap x y gs lv mv ls ms w' := h.ch hc (by simp)
theorem K26.b5x {W w : World} {n0 hi : Nat} {v : MxV} {G : Gra} {rb cap : Nat} {x y gs : WV} {lv mv : Value} {ls ms : List WV} (h : K26 W n0 hi v G rb cap x y gs lv mv ls ms w) : blk w (n0 + 1) [.int .u8 v.kind, .int .i64 v.C, .slice v.x.a v.x.l.length v.x.c, .slice v.y.a v.y.l.length v.y.c, .int .u32 v.N, .slice v.gs.a v.gs.l.length v.gs.c, .slice v.la v.Ls.length v.lc, .slice v.ma v.Ms.length v.mc] := h.b5
theorem Refs23_cp {w : World} (x : WV) (h : Sl w x.a x.l) (hm : x.l.length ≤ 1000) (hb : ∀ r ∈ x.l, -9223372036854775808 ≤ r ∧ r ≤ 9223372036854775807) : Calls Tryz.prog 197 #[.slice x.a x.l.length x.c] w fun e w' => ∃ a c, e = .returned (.slice a x.l.length c) ∧ Ch [] w w' ∧ CpW w' w.heap.size ⟨a, x.l, c⟩ := by
 refine (Refs23_is x.l.length x.c rfl h (by omega)).mono ?_
 rintro e w' ⟨v, rfl, hro, hlo, hc⟩
 obtain ⟨a, c, rfl⟩ := row.shape hro
 exact ⟨a, c, rfl, hc, hro, fun q hq => hlo q (by simpa [WV.val] using hq), hb, by show x.l.length ≤ 1000000; omega⟩
theorem row_blk9 {w : World} {e : TypeId} {b n c : Nat} {vs : List Value} (h : row w e 1 (.slice (some ⟨b, 0, none⟩) n c) n vs) : ∃ ys, blk w b ys ∧ ∀ (k : Nat) (u : Value), vs[k]? = some u → ys[k]? = some u := by
 rcases h.2 with ⟨e1, _⟩ | ⟨g, cap, cur, e1, _, hg, hle, _, hs, ht⟩
 ·cases e1
 ·cases e1
  refine ⟨cur.toList, ⟨_, by rw [Array.toArray_toList]; exact hg⟩, fun k u hu => ?_⟩
  rw [← ht] at hu
  have h2 := (List.getElem?_eq_some_iff.1 hu).1
  rw [List.length_take] at h2
  rw [List.getElem?_take_of_lt (by omega)] at hu
  exact hu
theorem CpW.up {w : World} {lo lo' : Nat} {x : WV} (h : CpW w lo x) (hl : lo' ≤ lo) : CpW w lo' x := ⟨h.row, fun q hq => Nat.le_trans hl (h.own q hq), h.bd, h.len⟩
section
theorem act26_is {W w : World} {g rb cap : Nat} {G : Gra} {F : List Nat} (hbt : Both W w g rb cap G F) (v : MxV) (hm : MxK w v W.heap.size) (hb : MxB v) :
  Calls Tryz.prog 74 #[.pointer (some ⟨g, 0, none⟩), .agg #[.int .i64 G.most, .slice (some ⟨rb, 0, none⟩) G.nodes.length cap], .agg #[.int .u8 v.kind, .int .i64 v.C, .slice v.x.a v.x.l.length v.x.c, .slice v.y.a v.y.l.length v.y.c, .int .u32 v.N, .slice v.gs.a v.gs.l.length v.gs.c, .slice v.la v.Ls.length v.lc, .slice v.ma v.Ms.length v.mc]] w (ATo W w g rb F) := by
 obtain ⟨K, hK⟩ : ∃ K, v.kind % 6 = K := ⟨_, rfl⟩
 have hFw : ∀ q ∈ F, q < w.heap.size := hbt.gin.lt
 have hWw := hbt.ch.size
 have hrbw := hbt.rg.lt
 obtain ⟨hN, hC, hbx, hby, hbg, hbl, hbm, hxn, hyn, hgn, hln, hmn⟩ := hb
 have HM := Hi9 hm; clear hm
 have HBX := Hi9 hbx; clear hbx
 have HBY := Hi9 hby; clear hby
 have HBG := Hi9 hbg; clear hbg
 have HBL := Hi9 hbl; clear hbl
 have HBM := Hi9 hbm; clear hbm
 have HN := Hi9 hN; clear hN
 have HCI := Hi9 hC; clear hC
 have HBT0 := Hi9 hbt; clear hbt
 have HFW := Hi9 hFw; clear hFw
 have HKK := Hi9 hK; clear hK
 go_enter Tryz.func74, Tryz.ntmps74
 go_upto_region 1 with fail
 refine wp_alw ?_
 intro W1 hW1
 have hb4 : blk W1 w.heap.size [.int .i64 G.most, .slice (some ⟨rb, 0, none⟩) G.nodes.length cap] := by rw [hW1]; exact ((blk.new' _ _ rfl).alloc _).alloc _
 have hb5 : blk W1 (w.heap.size + 1) [.int .u8 v.kind, .int .i64 v.C, .slice v.x.a v.x.l.length v.x.c, .slice v.y.a v.y.l.length v.y.c, .int .u32 v.N, .slice v.gs.a v.gs.l.length v.gs.c, .slice v.la v.Ls.length v.lc, .slice v.ma v.Ms.length v.mc] := by rw [hW1]; exact (blk.new' _ _ (by simp)).alloc _
 have hb6 : blk W1 (w.heap.size + 2) [.int .i64 0, .slice none 0 0] := by rw [hW1]; exact blk.new' _ _ (by simp)
 have hc01 : Ch [] w W1 := by rw [hW1]; exact (((Ch.refl _ _).alloc _).alloc _).alloc _
 clear hW1
 have hn3 : w.heap.size + 3 ≤ W1.heap.size := hb6.lt
 have hRX := fun (W' : World) (hc : Ch [] W1 W') => Refs23_cp v.x ((HM.out.ch (hc01.trans hc (by simp)) (by simp)).inn.x) hxn HBX.out
 have hRY := fun (W' : World) (hc : Ch [] W1 W') => Refs23_cp v.y ((HM.out.ch (hc01.trans hc (by simp)) (by simp)).inn.y) hyn HBY.out
 have hRG := fun (W' : World) (hc : Ch [] W1 W') => Refs23_cp v.gs ((HM.out.ch (hc01.trans hc (by simp)) (by simp)).inn.gs) hgn HBG.out
 have hRL := fun (W' : World) (hc : Ch [] W1 W') => lists26_is (lc := v.lc) ((HM.out.ch (hc01.trans hc (by simp)) (by simp)).inn.ls) (by omega) HBL.out
 have hRM := fun (W' : World) (hc : Ch [] W1 W') => lists26_is (lc := v.mc) ((HM.out.ch (hc01.trans hc (by simp)) (by simp)).inn.ms) (by omega) HBM.out
 have y2 := hb5.cell (i := 2) rfl
 have HRX := Hi9 hRX; clear hRX
 have HRY := Hi9 hRY; clear hRY
 have HRG := Hi9 hRG; clear hRG
 have HRL := Hi9 hRL; clear hRL
 have HRM := Hi9 hRM; clear hRM
 have B4 := Hi9 hb4; clear hb4
 have B5 := Hi9 hb5; clear hb5
 have B6 := Hi9 hb6; clear hb6
 have HC01 := Hi9 hc01; clear hc01
 have hcur : Ch [] W1 W1.drew := (Ch.refl [] W1).drew
 refine Ord.St.door (fun w' => Ch [] W1 w') [.fl, .rd, .ef, .fl, .ho, .ef, .fl, .ho, .ef, .fl, .ho, .ef, .fl, .fl, .fl, .fl] [0, 1, 3, 0, 8, 31, 0, 64, 255, 0, 512, 2047, 4095, 8191, 16383, 32767] [0, 1, 2, 3, 4, 5, 6, 7, 8, 9, 10, 11, 12, 13, 14, 15] mixed (by kernel_rfl) rfl ?_
 (refine Ord.F9 ?_ (fun K w' hk => ?_) ?_; rotate_left; focus (go_step; exact hk))
 (refine Ord.Q9 ?_ (fun K hk => ?_) ?_; rotate_left; focus (go_step; exact hk))
 refine Ord.G9 ?_ 3 [2, 4, 5, 6, 7, 8, 9, 10, 11, 12, 13, 14, 15] (fun K w' hk => ?_) ?_
 rotate_left
 ·go_step; exact hk
 refine Ord.H9 ?_ 4 [2, 5, 6, 7, 8, 9, 10, 11, 12, 13, 14, 15] ?_ (fun K w' hw' hk => ?_) ?_
 rotate_left
 ·exact hcur
 ·have hq5 := B5.out.ch hw' (by simp); have z3 := hq5.cell (i := 3) rfl; have z6 := hq5.cell (i := 6) rfl; have z7 := hq5.cell (i := 7) rfl; go_step; exact hk
 refine Ord.G9 ?_ 6 [2, 5, 7, 8, 9, 10, 11, 12, 13, 14, 15] (fun K w' hk => ?_) ?_
 rotate_left
 ·go_step; exact hk
 refine Ord.H9 ?_ 7 [2, 5, 8, 9, 10, 11, 12, 13, 14, 15] ?_ (fun K w' hw' hk => ?_) ?_
 rotate_left
 ·exact hcur
 ·have hq5 := B5.out.ch hw' (by simp); have z3 := hq5.cell (i := 3) rfl; have z6 := hq5.cell (i := 6) rfl; have z7 := hq5.cell (i := 7) rfl; go_step; exact hk
 refine Ord.G9 ?_ 9 [2, 5, 8, 10, 11, 12, 13, 14, 15] (fun K w' hk => ?_) ?_
 rotate_left
 ·go_step; exact hk
 refine Ord.H9 ?_ 10 [2, 5, 8, 11, 12, 13, 14, 15] ?_ (fun K w' hw' hk => ?_) ?_
 rotate_left
 ·exact hcur
 ·have hq5 := B5.out.ch hw' (by simp); have z3 := hq5.cell (i := 3) rfl; have z6 := hq5.cell (i := 6) rfl; have z7 := hq5.cell (i := 7) rfl; go_step; exact hk
 refine Ord.St.efC 2 [5, 8, 11, 12, 13, 14, 15] _ rfl (by kernel_rfl) (fun K hK => ?_)
 go_wp2_with fail
 refine (HRX.out _ hcur).mono ?_
 rintro e w2 ⟨pa, pc, rfl, hc2, hcx⟩
 replace hcur : Ch [] W1 w2 := hcur.trans hc2 (by simp)
 have HCX := Hi9 (show CpW w2 (w.heap.size + 3) ⟨pa, v.x.l, pc⟩ from hcx.up (by simpa using hn3))
 clear hcx hc2 y2
 go_wp2_with fail
 refine ⟨rfl, hK _ _ ?_ ?_⟩
 ·exact hcur
 clear hK K
 refine Ord.St.efC 5 [8, 11, 12, 13, 14, 15] _ rfl (by kernel_rfl) (fun K hK => ?_)
 go_wp2_with fail
 refine (HRY.out _ hcur).mono ?_
 rintro e w3 ⟨qa, qc, rfl, hc3, hcy⟩
 have HCY := Hi9 (show CpW w3 (w.heap.size + 3) ⟨qa, v.y.l, qc⟩ from hcy.up (by have := hcur.size; omega))
 replace hcur : Ch [] W1 w3 := hcur.trans hc3 (by simp)
 replace HCX := Hi9 (HCX.out.ch hc3 (by simp))
 clear hcy hc3
 go_wp2_with fail
 refine ⟨rfl, hK _ _ ?_ ?_⟩
 ·exact hcur
 clear hK K
 refine Ord.St.efC 8 [11, 12, 13, 14, 15] _ rfl (by kernel_rfl) (fun K hK => ?_)
 go_wp2_with fail
 refine (HRL.out _ hcur).mono ?_
 rintro e w4 ⟨la2, lc2, ls2, rfl, hc4, hls, hcl⟩
 have HCL := Hi9 (show CpA w4 (w.heap.size + 3) (.slice la2 v.Ls.length lc2) ls2 from hcl.up (by have := hcur.size; omega))
 replace hcur : Ch [] W1 w4 := hcur.trans hc4 (by simp)
 replace HCX := Hi9 (HCX.out.ch hc4 (by simp))
 replace HCY := Hi9 (HCY.out.ch hc4 (by simp))
 have HLS := Hi9 hls
 clear hcl hc4 hls
 go_wp2_with fail
 refine ⟨rfl, hK _ _ ?_ ?_⟩
 ·exact hcur
 clear hK K
 refine Ord.St.ef 11 [12, 13, 14, 15] _ rfl (by kernel_rfl) (fun K hK => ?_)
 go_wp2_with fail
 refine (HRM.out _ hcur).mono ?_
 rintro e w5 ⟨ma2, mc2, ms2, rfl, hc5, hms, hcm⟩
 have HCM := Hi9 (show CpA w5 (w.heap.size + 3) (.slice ma2 v.Ms.length mc2) ms2 from hcm.up (by have := hcur.size; omega))
 replace hcur : Ch [] W1 w5 := hcur.trans hc5 (by simp)
 replace HCX := Hi9 (HCX.out.ch hc5 (by simp))
 replace HCY := Hi9 (HCY.out.ch hc5 (by simp))
 replace HCL := Hi9 (HCL.out.ch hc5 (by simp))
 have HMS := Hi9 hms
 clear hcm hc5 hms
 go_wp2_with fail
 refine ⟨rfl, hK _ _ ?_⟩; clear hK K
 iterate 4 (refine Ord.F9 ?_ (fun K w' hk => ?_) ?_; rotate_left; focus (go_step; exact hk))
 refine Ord.St.nil ?_
 have y5 := (B5.out.ch hcur (by simp)).cell (i := 5) rfl
 have HCUR := Hi9 hcur; clear hcur HRX HRY HRL HRM
 go_wp2_with fail
 refine (HRG.out _ HCUR.out).mono ?_
 rintro e w6 ⟨ga2, gc2, rfl, hc6, hcg⟩
 have hcur := HCUR.out.trans hc6 (by simp)
 have hcgu : CpW w6 (w.heap.size + 3) ⟨ga2, v.gs.l, gc2⟩ := hcg.up (by have := HCUR.out.size; omega)
 have hc06 := HC01.out.trans hcur (by simp)
 have hz6 := hc06.size
 have hz16 := hcur.size
 have hbt := HBT0.out.same hc06
 have hcx := HCX.out.ch hc6 (by simp)
 have hcy := HCY.out.ch hc6 (by simp)
 have hcl := HCL.out.ch hc6 (by simp)
 have hcm := HCM.out.ch hc6 (by simp)
 have hk6 : K26 W w.heap.size w6.heap.size v G rb cap ⟨pa, v.x.l, pc⟩ ⟨qa, v.y.l, qc⟩ ⟨ga2, v.gs.l, gc2⟩ (.slice la2 v.Ls.length lc2) (.slice ma2 v.Ms.length mc2) ls2 ms2 w6 :=
  ⟨B4.out.ch hcur (by simp), B5.out.ch hcur (by simp), B6.out.ch hcur (by simp), hbt.rg, HM.out.ch hc06 (by simp), hcx, hcy, hcgu, hcl, hcm, hcx.top, hcy.top, hcgu.top, hcl.top, hcm.top, fun z hz => (hcl.ws z hz).top, fun z hz => (hcm.ws z hz).top, by omega⟩
 have hFlt : ∀ k ∈ F, k < w.heap.size + 3 := fun k hk => by have := HFW.out k hk; omega
 have hlsn : ls2.length = v.Ls.length := by have := congrArg List.length HLS.out; simpa using this
 have hmsn : ms2.length = v.Ms.length := by have := congrArg List.length HMS.out; simpa using this
 have hPr := program26_is hbt.gin (hcx.wv hFlt) (hcy.wv hFlt) hcy.cap (hcgu.wv hFlt) hcgu.cap lc2 mc2 (hcl.wa hlsn hFlt) (hcm.wa hmsn hFlt) (by omega) v.C HCI.out v.N HN.out v.x.a v.x.l.length v.x.c v.y.a v.y.l.length v.y.c v.gs.a v.gs.l.length v.gs.c v.la v.Ls.length v.lc v.ma v.Ms.length v.mc v.kind
 rw [HLS.out, HMS.out, HKK.out] at hPr
 have hPE : P26 K G v.a = if f26 K G v.a ≠ 0 then (G, [], 0, f26 K G v.a) else fin26 G (RF26 K G v.a) := rfl
 replace hPr : Calls Tryz.prog 98 #[.pointer (some ⟨g, 0, none⟩), .agg #[.int .u8 v.kind, .int .i64 v.C, .slice v.x.a v.x.l.length v.x.c, .slice v.y.a v.y.l.length v.y.c, .int .u32 v.N, .slice v.gs.a v.gs.l.length v.gs.c, .slice v.la v.Ls.length v.lc, .slice v.ma v.Ms.length v.mc], .slice pa v.x.l.length pc, .slice qa v.y.l.length qc, .slice ga2 v.gs.l.length gc2, .slice la2 v.Ls.length lc2, .slice ma2 v.Ms.length mc2] w6 (PTo26 w6 g F (P26 K G v.a)) := hPr
 obtain ⟨⟨G1, ls1, r1, e1⟩, hPeq⟩ : ∃ B, B = P26 K G v.a := ⟨_, rfl⟩
 rw [← hPeq] at hPr hPE
 obtain ⟨fv, hfv⟩ : ∃ fv, fv = f26 K G v.a := ⟨_, rfl⟩
 rw [← hfv] at hPE
 have hq5 := hk6.b5x
 clear hcx hcy hcl hcm hcgu hcg hPeq y5 B4 B5 B6 HCX HCY HCL HCM HC01 HCUR HRG HM hc6 hcur
 have x0 := hq5.cell (i := 0) rfl
 have x1 := hq5.cell (i := 1) rfl
 have x2 := hq5.cell (i := 2) rfl
 have x3 := hq5.cell (i := 3) rfl
 have x4 := hq5.cell (i := 4) rfl
 have x5 := hq5.cell (i := 5) rfl
 have x6 := hq5.cell (i := 6) rfl
 have x7 := hq5.cell (i := 7) rfl
 have HBT := Hi9 hbt; clear hbt hq5
 have HC06 := Hi9 hc06; clear hc06
 have HK := Hi9 hk6; clear hk6
 have HPR := Hi9 hPr; clear hPr
 have HPE := Hi9 hPE; clear hPE
 have HFV := Hi9 hfv; clear hfv
 have HFL := Hi9 hFlt; clear hFlt
 have HLSN := Hi9 hlsn; clear hlsn
 have HMSN := Hi9 hmsn; clear hmsn
 go_wp2_with fail
 refine HPR.out.mono ?_
 rintro e w7 ⟨vv, rfl, F', hg', hc', hF', hF2, vs, hrv, hvo, hws⟩
 obtain ⟨va, vc, rfl⟩ := row.shape hrv
 have hc' : Ch F w6 w7 := hc'
 simp only at hg' hrv hvo hws
 have hk7 := HK.out.ch hc' (fun k hk => ⟨HBT0.out.own k hk, .inl (HFW.out k hk), fun e => HBT0.out.ap (by rw [← e]; exact hk)⟩)
 have hz67 := hc'.size
 have hc07 : Ch F w w7 := (HC06.out.mono (by simp)).trans hc' (fun q hq => .inl hq)
 have hFn : ∀ q ∈ F', q ∈ F ∨ w6.heap.size ≤ q := hF'
 have hF7 : ∀ q ∈ F', q < w7.heap.size := hg'.lt
 have hap : rb ∉ F' := fun hin => by rcases hFn _ hin with e | e; exact HBT0.out.ap e; omega
 have hvp : ∀ q, (Value.slice va ls1.length vc).ownBlock = some q → w6.heap.size ≤ q ∧ q < w7.heap.size ∧ q ∉ F' := fun q hq => ⟨(hvo q hq).1, (hrv.lt q hq).2, (hvo q hq).2⟩
 have hrlo := HBT0.out.rlo
 have hq4 := hk7.b4
 have hq5 := hk7.b5x
 have hWr := wrong26_is hk7.rg v hk7.mx.inn hxn hyn hgn hln (by omega)
 rw [HKK.out, ← HFV.out] at hWr
 clear x0 x1 x2 x3 x4 x5 x6 x7 hF' hF2 hvo hc' HPR HK HBT
 have u0 := hq4.cell (i := 0) rfl
 have u1 := hq4.cell (i := 1) rfl
 have x0 := hq5.cell (i := 0) rfl
 have x1 := hq5.cell (i := 1) rfl
 have x2 := hq5.cell (i := 2) rfl
 have x3 := hq5.cell (i := 3) rfl
 have x4 := hq5.cell (i := 4) rfl
 have x5 := hq5.cell (i := 5) rfl
 have x6 := hq5.cell (i := 6) rfl
 have x7 := hq5.cell (i := 7) rfl
 clear hq4 hq5
 have HG := Hi9 hg'; clear hg'
 have HK := Hi9 hk7; clear hk7
 have HRV := Hi9 hrv; clear hrv
 have HWS := Hi9 hws; clear hws
 have HVP := Hi9 hvp; clear hvp
 have HC07 := Hi9 hc07; clear hc07
 have HFN := Hi9 hFn; clear hFn
 have HF7 := Hi9 hF7; clear hF7
 have HWR := Hi9 hWr; clear hWr
 go_wp2_with fail
 refine HWR.out.mono ?_
 rintro e w8 ⟨rfl, hc8⟩
 have hk8 := HK.out.same hc8
 have hz78 := hc8.size
 have hq4 := hk8.b4
 clear u0 u1 x0 x1 x2 x3 x4 x5 x6 x7 HWR
 have u0 := hq4.cell (i := 0) rfl
 have u1 := hq4.cell (i := 1) rfl
 have HC8 := Hi9 hc8; clear hc8
 have HK8 := Hi9 hk8; clear hk8 hq4
 go_upto_region 6 with fail
 refine wp_alw ?_
 intro W9 hW9
 have hb17 : blk W9 w8.heap.size [.int .i64 G.most, .slice (some ⟨rb, 0, none⟩) G.nodes.length cap] := by rw [hW9]; exact blk.new' _ _ rfl
 have hc89 : Ch [] w8 W9 := by rw [hW9]; exact (Ch.refl _ _).alloc _
 clear hW9
 have hc79 := HC8.out.trans hc89 (by simp)
 have hk9 := HK8.out.same hc89
 have hg9 := HG.out.same hc79 (by simp)
 have hrv9 := HRV.out.ch hc79 (by simp)
 have hc09 := HC07.out.trans hc79 (by simp)
 have hz89 := hb17.lt
 have hq4 := hk9.b4
 have hq5 := hk9.b5x
 have hnil : e1 ≠ 0 → ls1 = [] ∧ G1 = G ∧ r1 = 0 := fun h0 => by
  have h9 := HPE.out
  by_cases hf : fv = 0
  ·rw [if_neg (by simp [hf])] at h9
   unfold fin26 at h9
   split at h9
   ·cases h9; exact ⟨rfl, rfl, rfl⟩
   ·simp only [Prod.mk.injEq] at h9
    exact absurd h9.2.2.2 h0
  ·rw [if_pos hf] at h9
   cases h9; exact ⟨rfl, rfl, rfl⟩
 have hLm : ∀ l ∈ v.a.L, l.length ≤ 1000 := fun l hl => by
  obtain ⟨z, hz, rfl⟩ := List.mem_map.1 (show l ∈ v.Ls.map WV.l from hl)
  exact hk9.mx.inn.ls.sm z hz
 have hsml : (∀ l ∈ ls1, l.length ≤ 1000) ∧ ls1.length ≤ 1000 := by
  have h9 := HPE.out
  have hs := RF26_small (k := K) (G := G) (a := v.a) hxn hLm (by rw [show v.a.L = v.Ls.map WV.l from rfl, List.length_map]; omega)
  split at h9
  ·cases h9; exact ⟨by simp, by simp⟩
  ·unfold fin26 at h9
   split at h9
   ·cases h9; exact ⟨by simp, by simp⟩
   ·simp only [Prod.mk.injEq] at h9
    rw [h9.2.1]; exact hs
 have hRef := fun (h0 : f26 (v.kind % 6) G v.a = 0) => reference26_is (B0 := W.heap.size) hk9.rg v HN.out hk9.mx.inn (by have := HC07.out.size; omega) h0
 rw [HKK.out, ← HFV.out] at hRef
 clear u0 u1
 have u0 := hq4.cell (i := 0) rfl
 have u1 := hq4.cell (i := 1) rfl
 have x0 := hq5.cell (i := 0) rfl
 have x1 := hq5.cell (i := 1) rfl
 have x2 := hq5.cell (i := 2) rfl
 have x3 := hq5.cell (i := 3) rfl
 have x4 := hq5.cell (i := 4) rfl
 have x5 := hq5.cell (i := 5) rfl
 have x6 := hq5.cell (i := 6) rfl
 have x7 := hq5.cell (i := 7) rfl
 have hWlo : W.heap.size ≤ w8.heap.size := by have := HC07.out.size; omega
 have h17F : w8.heap.size ∉ F' := fun hin => by have := HF7.out _ hin; omega
 have HWS9 := Hi9 (show ∀ (i : Nat) (u : Value), vs[i]? = some u → ∃ l, ls1[i]? = some l ∧ row W9 52 1 u l.length (refsCells l) ∧ ∀ k, u.ownBlock = some k → w6.heap.size ≤ k ∧ k < w7.heap.size ∧ k ∉ F' ∧ (Value.slice va ls1.length vc).ownBlock ≠ some k from fun i u hu => by
  obtain ⟨l, k1, k2, k3⟩ := HWS.out i u hu
  exact ⟨l, k1, k2.ch hc79 (by simp), fun k hk => ⟨(k3 k hk).1, (k2.lt k hk).2, (k3 k hk).2⟩⟩)
 clear hq4 hq5 HWS HK HK8 HG HRV HC07 HC8 hc89 hc79 hLm
 have HK := Hi9 hk9; clear hk9
 have HG := Hi9 hg9; clear hg9
 have HRV := Hi9 hrv9; clear hrv9
 have HC09 := Hi9 hc09; clear hc09
 have B17 := Hi9 hb17; clear hb17
 have HNIL := Hi9 hnil; clear hnil
 have HSML := Hi9 hsml; clear hsml
 have HREF := Hi9 hRef; clear hRef
 obtain ⟨fz, hfz⟩ : ∃ b, b = ((fv : Int) == 0) := ⟨_, rfl⟩
 go_upto_if 59 with fail
 rw [← hfz]
 have HFZ := Hi9 hfz; clear hfz
 go_cut [16, 18, 19] (fun f wn on wd => f = .int .i64 e1 ∧ on = .int .i64 r1 ∧ ArrR wd W.heap.size W9.heap.size wn ls1 ∧ ∃ rb2 cap2, blk wd w8.heap.size [.int .i64 G1.most, .slice (some ⟨rb2, 0, none⟩) G1.nodes.length cap2] ∧ RG wd rb2 cap2 G1 ∧ (rb2 = rb ∨ W9.heap.size ≤ rb2) ∧ Ch [w8.heap.size] W9 wd)
 case first =>
  cases fz
  ·have h0 : fv ≠ 0 := fun e => by have := HFZ.out; rw [e] at this; simp at this
   have h9 := HPE.out
   rw [if_pos h0] at h9
   simp only [Prod.mk.injEq] at h9
   obtain ⟨a1, a2, a3, a4⟩ := h9
   subst a1 a2 a3 a4
   go_wp2_with fail
   go_meet
   case rel => exact ⟨rfl, rfl, ArrR.nil _ _ _, rb, cap, B17.out, HK.out.rg, .inl rfl, Ch.refl _ _⟩
  ·have h0 : fv = 0 := by have := HFZ.out.symm; rw [beq_iff_eq] at this; omega
   have h9 := HPE.out
   rw [if_neg (by simp [h0])] at h9
   have hR := HREF.out h0
   obtain ⟨R, hRR⟩ : ∃ R, R = RF26 K G v.a := ⟨_, rfl⟩
   rw [← hRR] at hR h9
   obtain ⟨⟨G2, q2⟩, l2, b2⟩ := R
   simp only [WV.val] at hR
   have HR := Hi9 hR; clear hR hRR HREF
   have H9 := Hi9 h9; clear h9 h0
   go_wp2_with fail
   refine HR.out.mono ?_
   rintro e wr ⟨rb2, cap2, wv, rfl, hrg2, hch, hfr, harr⟩
   simp only at hrg2 harr
   have HRG2 := Hi9 hrg2; clear hrg2
   have HCH := Hi9 hch; clear hch
   have HAR := Hi9 harr; clear harr HR
   clear u0 u1 x0 x1 x2 x3 x4 x5 x6 x7
   go_upto_region 8 with fail
   refine wp_alw ?_
   intro W10 hW10
   have hb20 : blk W10 wr.heap.size [.int .i64 G2.most, .slice (some ⟨rb2, 0, none⟩) G2.nodes.length cap2, .int .i64 q2] := by rw [hW10]; exact blk.new' _ _ rfl
   have hcA : Ch [] wr W10 := by rw [hW10]; exact (Ch.refl _ _).alloc _
   clear hW10
   have hc90 := HCH.out.trans hcA (by simp)
   have hb17 := B17.out.ch hc90 (by simp)
   have x0 := hb20.cell (i := 0) rfl
   have x1 := hb20.cell (i := 1) rfl
   have x2 := hb20.cell (i := 2) rfl
   have y0 := hb17.cell (i := 0) rfl
   have y1 := hb17.cell (i := 1) rfl
   have f0 := hb17.frozen (i := 0)
   have f1 := hb17.frozen (i := 1)
   have hrg2 := HRG2.out.ch hcA (by simp)
   have harr := HAR.out.ch hcA (by simp)
   have B17' := Hi9 hb17; clear hb17 hb20
   have HC90 := Hi9 hc90; clear hc90 hcA
   clear HRG2 HAR HCH
   have HRG2 := Hi9 hrg2; clear hrg2
   have HAR := Hi9 harr; clear harr
   by_cases hq : q2 = 0
   ·have h9 := H9.out
    unfold fin26 at h9
    rw [if_neg (by simp [hq])] at h9
    simp only [Prod.mk.injEq] at h9
    obtain ⟨a1, a2, a3, a4⟩ := h9
    subst a1 a2 a3 a4
    subst hq
    clear H9
    go_wp2_with fail
    go_meet
    case rel =>
     have hcs := set2_ch (w := W10) (b := w8.heap.size) (u := .int .i64 G1.most) (v := .slice (some ⟨rb2, 0, none⟩) G1.nodes.length cap2) rfl
     exact ⟨rfl, rfl, HAR.out.ch hcs (fun k hk => by simp at hk; omega), rb2, cap2, (B17'.out.set (i := 0) _).set (i := 1) _, HRG2.out.ch hcs (by simp; omega), hfr, (HC90.out.mono (by simp)).trans hcs (fun k hk => .inl hk)⟩
   ·have h9 := H9.out
    unfold fin26 at h9
    rw [if_pos hq] at h9
    simp only [Prod.mk.injEq] at h9
    obtain ⟨a1, a2, a3, a4⟩ := h9
    subst a1 a2 a3 a4
    have e5 : ((e1 : Int) == 0) = false := beq_eq_false_iff_ne.2 (by omega)
    go_wp2_with fail
    go_meet
    case rel =>
     exact ⟨rfl, rfl, ArrR.nil _ _ _, rb, cap, B17'.out, HK.out.rg.ch HC90.out (by simp), .inl rfl, HC90.out.mono (by simp)⟩
 case rest =>
  obtain ⟨rfl, rfl, harr, rb2, cap2, hb17, hrg2, hfr, hc9d⟩ := hcut
  obtain ⟨na, nc, hwn, _⟩ := id harr
  subst hwn
  have hai := harr.ai
  have hg := HG.out.same hc9d (fun q hq hq2 => h17F (by rw [List.mem_singleton.1 hq2] at hq; exact hq))
  have hrv := HRV.out.ch hc9d (fun k hk hin => by have := HVP.out k hk; simp at hin; omega)
  have hk := HK.out.ch hc9d (fun k hk => by simp at hk; subst hk; exact ⟨hWlo, .inr (by omega), by omega⟩)
  have hws := Hi9 (show ∀ (i : Nat) (u : Value), vs[i]? = some u → ∃ l, ls1[i]? = some l ∧ row wc 52 1 u l.length (refsCells l) ∧ ∀ k, u.ownBlock = some k → w6.heap.size ≤ k ∧ k < w7.heap.size ∧ k ∉ F' ∧ (Value.slice va ls1.length vc).ownBlock ≠ some k from fun i u hu => by
   obtain ⟨l, k1, k2, k3⟩ := HWS9.out i u hu
   exact ⟨l, k1, k2.ch hc9d (fun k hk hin => by have := k3 k hk; simp at hin; omega), k3⟩)
  have hap2 : rb2 ∉ F' := fun hin => by rcases hfr with e | e; (rw [e] at hin; exact hap hin); (have := HF7.out _ hin; omega)
  have hc0d : Ch F w wc := HC09.out.trans hc9d (fun k hk => .inr (by simp at hk; omega))
  have hz9d := hc9d.size
  have hpai : AI wc va (ls1.map natInts) := fun i l hl => by
   rw [List.getElem?_map] at hl
   cases hx : ls1[i]? with
   | none => rw [hx] at hl; cases hl
   | some z =>
    rw [hx] at hl
    cases hl
    have hilt := (List.getElem?_eq_some_iff.1 hx).1
    obtain ⟨b, c', e⟩ := hrv.parts (by omega)
    injection e with q1 q2 q3
    subst q1
    have hvl : vs.length = ls1.length := by have := hrv.1; omega
    obtain ⟨u, hu⟩ : ∃ u, vs[i]? = some u := ⟨_, List.getElem?_eq_getElem (by omega)⟩
    obtain ⟨l, k1, k2, k3⟩ := hws.out i u hu
    rw [hx] at k1
    cases k1
    obtain ⟨xa, xc, rfl⟩ := row.shape k2
    have hsm := HSML.out.1 z (List.mem_of_getElem? hx)
    rw [refs_natInts] at k2
    exact ⟨b, 0, xa, xc, rfl, by rw [Nat.zero_add, natInts_len]; exact row.at9 hrv hu, Sl.of_ints k2 (by omega)⟩
  clear HK HG HRV HC09 HWS9 HREF B17 harr u0 u1 x0 x1 x2 x3 x4 x5 x6 x7 HFZ HPE hc9d
  have HSAME := Hi9 (fun (W' : World) (hc : Ch [] wc W') => same26_yes (a := va) (b := na) (P := ls1.map natInts) ls1.length vc nc (by have := HSML.out.2; omega) (hpai.ch hc) (hai.ch hc) (List.length_map ..) (fun l hl => by
   obtain ⟨z, hz, rfl⟩ := List.mem_map.1 hl
   rw [natInts_len]; have := HSML.out.1 z hz; omega))
  have HSM := Hi9 (fun (W' : World) (hc : Ch [] wc W') => Same23_is (hg.same hc (by simp)) (hrg2.ch hc (by simp)))
  have s0 := hb17.cell (i := 0) rfl
  have s1 := hb17.cell (i := 1) rfl
  clear hpai hai
  have HK := Hi9 hk; clear hk
  have HG := Hi9 hg; clear hg
  have HRV := Hi9 hrv; clear hrv
  have HC0 := Hi9 hc0d; clear hc0d
  have B17 := Hi9 hb17; clear hb17
  have HRG2 := Hi9 hrg2; clear hrg2
  go_upto_region 11 with fail
  go_cut [108] (fun t w2 => t = .bool false ∧ Ch [] wc w2)
  case first =>
   by_cases h0 : e1 = 0
   ·subst h0
    go_wp2_with fail
    refine (HSAME.out _ (Ch.refl _ _)).mono ?_
    rintro e wa ⟨rfl, hca⟩
    have hb17 := B17.out.ch hca (by simp)
    have q0 := hb17.cell (i := 0) rfl
    have q1 := hb17.cell (i := 1) rfl
    have HCA := Hi9 hca; clear hca hb17
    go_wp2_with fail
    refine (HSM.out _ HCA.out).mono ?_
    rintro e wb ⟨rfl, hcb⟩
    have HCB := Hi9 hcb; clear hcb
    go_wp2_with fail
    go_meet
    case rel => exact ⟨rfl, HCA.out.trans HCB.out (by simp)⟩
   ·obtain ⟨rfl, rfl, rfl⟩ := HNIL.out h0
    simp only [List.length_nil] at *
    have e4 : ((e1 : Int) != 0) = true := bne_iff_ne.2 (by omega)
    have e5 : ((e1 : Int) == 0) = false := beq_eq_false_iff_ne.2 (by omega)
    go_wp2_with fail
    refine (HSM.out _ (Ch.refl _ _)).mono ?_
    rintro e wb ⟨rfl, hcb⟩
    have HCB := Hi9 hcb; clear hcb
    go_wp2_with fail
    go_meet
    case rel => exact ⟨rfl, HCB.out⟩
  case rest =>
   obtain ⟨rfl, hcd2⟩ := hcut
   have hk := HK.out.same hcd2
   have hg := HG.out.same hcd2 (by simp)
   have hrv := HRV.out.ch hcd2 (by simp)
   have hws2 := Hi9 (show ∀ (i : Nat) (u : Value), vs[i]? = some u → ∃ l, ls1[i]? = some l ∧ row wc 52 1 u l.length (refsCells l) ∧ ∀ k, u.ownBlock = some k → w6.heap.size ≤ k ∧ k < w7.heap.size ∧ k ∉ F' ∧ (Value.slice va ls1.length vc).ownBlock ≠ some k from fun i u hu => by
    obtain ⟨l, k1, k2, k3⟩ := hws.out i u hu
    exact ⟨l, k1, k2.ch hcd2 (by simp), k3⟩)
   have hb17 := B17.out.ch hcd2 (by simp)
   have hrg2 := HRG2.out.ch hcd2 (by simp)
   have hc0 := HC0.out.trans hcd2 (by simp)
   have hz2 := hcd2.size
   have hvn : vs.length = ls1.length := by have := hrv.1; omega
   obtain ⟨FF, hFF⟩ : ∃ FF, FF = (Value.slice va ls1.length vc).ownBlock.toList ++ vs.flatMap (fun u => u.ownBlock.toList) := ⟨_, rfl⟩
   have hFFr : ∀ q ∈ FF, w6.heap.size ≤ q ∧ q < w7.heap.size ∧ q ∉ F' := fun q hq => by
    rw [hFF] at hq
    rcases List.mem_append.1 hq with hq | hq
    ·exact HVP.out q (by simpa using hq)
    ·obtain ⟨u, hu, hq⟩ := List.mem_flatMap.1 hq
     obtain ⟨i, hi⟩ := List.getElem?_of_mem hu
     obtain ⟨l, _, _, k3⟩ := hws2.out i u hi
     have := k3 q (by simpa using hq)
     exact ⟨this.1, this.2.1, this.2.2.1⟩
   have hFFv : ∀ q, (Value.slice va ls1.length vc).ownBlock = some q → q ∈ FF := fun q hq => by rw [hFF, hq]; simp
   have hFFu : ∀ (j : Nat) (u : Value), vs[j]? = some u → ∀ q ∈ u.ownBlock.toList, q ∈ FF := fun j u hu q hq => by
    rw [hFF]
    exact List.mem_append_right _ (List.mem_flatMap.2 ⟨u, List.mem_of_getElem? hu, hq⟩)
   clear HK HG HRV HC0 B17 HRG2 HSM HSAME hws hcd2 s0 s1 hFF
   have HK := Hi9 hk; clear hk
   have HG := Hi9 hg; clear hg
   have HRV := Hi9 hrv; clear hrv
   have HC0 := Hi9 hc0; clear hc0
   have B17 := Hi9 hb17; clear hb17
   have HRG2 := Hi9 hrg2; clear hrg2
   have HFR := Hi9 hFFr; clear hFFr
   have HFV2 := Hi9 hFFv; clear hFFv
   have HFU := Hi9 hFFu; clear hFFu
   have HVN := Hi9 hvn; clear hvn
   go_wp2_with fail
   go_loopw [112] (fun i wq => ∃ j : Nat, j ≤ ls1.length ∧ i = .int .i64 j ∧ Ch FF wc wq ∧ ShqB wc wq ∧ ∀ b, va = some ⟨b, 0, none⟩ → ∃ ys, blk wq b ys ∧ ∀ (k : Nat) (u : Value), j ≤ k → vs[k]? = some u → ys[k]? = some u) (fun i _ => ls1.length - (intOf i).toNat)
   case atStart => exact ⟨0, by omega, rfl, Ch.refl _ _, ShqB.refl _, fun b e => by
    have h9 := HRV.out
    rw [e] at h9
    obtain ⟨ys, k1, k2⟩ := row_blk9 h9
    exact ⟨ys, k1, fun k u _ hu => k2 k u hu⟩⟩
   case round =>
    obtain ⟨j, hj, rfl, hcv, hsh, hys⟩ := hrel
    by_cases hjn : j < ls1.length
    ·obtain ⟨u, hu⟩ : ∃ u, vs[j]? = some u := ⟨_, List.getElem?_eq_getElem (by rw [HVN.out]; exact hjn)⟩
     obtain ⟨l, hli, hur, huo⟩ := hws2.out j u hu
     have hll9 := HSML.out.1 l (List.mem_of_getElem? hli)
     have hln9 := HSML.out.2
     clear hli
     obtain ⟨ua, uc, rfl⟩ := row.shape hur
     obtain ⟨b0, old0, rfl, hx1, hx2⟩ := hsh.cell HRV.out hjn; clear hx1 hx2 old0
     obtain ⟨ys, hyb, hye⟩ := hys b0 rfl
     have z0 := hyb.cell (hye j _ (Nat.le_refl _) hu)
     have hne : ∀ q ∈ (Value.slice ua l.length uc).ownBlock.toList, q ≠ b0 := fun q hq e => (huo q (by simpa using hq)).2.2.2 (by rw [e]; rfl)
     have hjy : ys[j]? = some (.slice ua l.length uc) := hye j _ (Nat.le_refl _) hu
     have hfu := HFU.out j _ hu
     have HJY := Hi9 hjy; clear hjy
     have HFU1 := Hi9 hfu; clear hfu
     have HNE := Hi9 hne; clear hne
     have HYB := Hi9 hyb; clear hyb
     have HYE := Hi9 hye; clear hye hys
     have HUR := Hi9 hur; clear hur huo
     have HCV := Hi9 hcv; clear hcv
     have HSH := Hi9 hsh; clear hsh hu
     go_wp2_with fail
     go_loopw [119] (fun i wq => ∃ k : Nat, k ≤ l.length ∧ i = .int .i64 k ∧ Ch (Value.slice ua l.length uc).ownBlock.toList wr wq ∧ ShqB wc wq) (fun i _ => l.length - (intOf i).toNat)
     case atStart => exact ⟨0, by omega, rfl, Ch.refl _ _, HSH.out⟩
     case round =>
      obtain ⟨k, hk, rfl, hcu, hsu⟩ := hrel
      by_cases hkn : k < l.length
      ·obtain ⟨b, old, rfl, hcl, hfz⟩ := hsu.cell HUR.out hkn
       have HCU := Hi9 hcu; clear hcu
       have HSU := Hi9 hsu; clear hsu
       clear z0
       go_wp2_with fail
       go_roundw
       case rel => exact ⟨k + 1, by omega, by go_num, HCU.out.setCell (.inl (by simp)) _, HSU.out.set _ _ _⟩
       case measure => simp [intOf]; omega
      ·have hyb2 := HYB.out.ch hcu (fun hin => HNE.out b0 hin rfl)
       have y0 := hyb2.cell HJY.out
       have f0 := hyb2.frozen (i := j)
       have HYB2 := Hi9 hyb2; clear hyb2
       have HCU := Hi9 hcu; clear hcu
       have HSU := Hi9 hsu; clear hsu
       clear z0
       go_wp2_with fail
       go_roundw
       case rel =>
        refine ⟨j + 1, by omega, by go_num, (HCV.out.trans HCU.out (fun q hq => .inl (HFU1.out q hq))).setCell (.inl (HFV2.out b0 rfl)) _, HSU.out.set _ _ _, fun b e => ?_⟩
        injection e with e
        injection e with e
        subst e
        exact ⟨_, HYB2.out.set (i := j) _, fun k u hk hu => by rw [List.getElem?_set_ne (by omega)]; exact HYE.out k u (by omega) hu⟩
       case measure => simp [intOf]; omega
    ·have hk := HK.out.ch hcv (fun k hk => by have := HFR.out k hk; exact ⟨by omega, .inr this.1, by omega⟩)
     have hg := HG.out.same hcv (fun q hq hq2 => (HFR.out q hq2).2.2 hq)
     have hrg2 := HRG2.out.ch hcv (fun hin => by have := HFR.out _ hin; rcases hfr with e | e <;> omega)
     have hb17 := B17.out.ch hcv (fun hin => by have := HFR.out _ hin; omega)
     have hc0 := HC0.out.trans hcv (fun q hq => .inr (by have := HFR.out q hq; omega))
     have hR1 := Refs23_cp v.x hk.mx.inn.x hxn HBX.out
     have hq5 := hk.b5x
     have x2 := hq5.cell (i := 2) rfl
     clear HK HG HRG2 B17 HC0 hsh hys hcv hq5 HRV hws2
     have HK := Hi9 hk; clear hk
     have HG := Hi9 hg; clear hg
     have HC0 := Hi9 hc0; clear hc0
     have B17 := Hi9 hb17; clear hb17
     have HRG2 := Hi9 hrg2; clear hrg2
     have HR1 := Hi9 hR1; clear hR1
     go_wp2_with fail
     refine HR1.out.mono ?_
     rintro e wa0 ⟨a1, c1, rfl, hca, hc1⟩
     have hda := (Ch.refl [] wr).trans hca (by simp)
     have hE := Eqref_same (w := wa0) pc c1 rfl ((HK.out.same hda).x.sl) hc1.sl
     simp only at hE
     clear x2
     have HE := Hi9 hE; clear hE hc1 hca HR1
     have HDA := Hi9 hda; clear hda
     go_wp2_with fail
     refine HE.out.mono ?_
     rintro e wb0 ⟨rfl, hcb⟩
     have hd := HDA.out.trans hcb (by simp)
     have hk := HK.out.same hd
     have hq5 := hk.b5x
     have x3 := hq5.cell (i := 3) rfl
     have hR1 := Refs23_cp v.y hk.mx.inn.y hyn HBY.out
     have HR1 := Hi9 hR1; clear hR1 hk hq5 hcb HDA HE
     have HD1 := Hi9 hd; clear hd
     go_wp2_with fail
     refine HR1.out.mono ?_
     rintro e wa1 ⟨a1, c1, rfl, hca, hc1⟩
     have hda := HD1.out.trans hca (by simp)
     have hE := Eqref_same (w := wa1) qc c1 rfl ((HK.out.same hda).y.sl) hc1.sl
     simp only at hE
     clear x3
     have HE := Hi9 hE; clear hE hc1 hca HR1
     have HDA := Hi9 hda; clear hda
     go_wp2_with fail
     refine HE.out.mono ?_
     rintro e wb1 ⟨rfl, hcb⟩
     have hd := HDA.out.trans hcb (by simp)
     have hk := HK.out.same hd
     have hq5 := hk.b5x
     have x5 := hq5.cell (i := 5) rfl
     have hR1 := Refs23_cp v.gs hk.mx.inn.gs hgn HBG.out
     have HR1 := Hi9 hR1; clear hR1 hk hq5 hcb HDA HE
     have HD2 := Hi9 hd; clear hd
     go_wp2_with fail
     refine HR1.out.mono ?_
     rintro e wa2 ⟨a1, c1, rfl, hca, hc1⟩
     have hda := HD2.out.trans hca (by simp)
     have hE := Eqref_same (w := wa2) gc2 c1 rfl ((HK.out.same hda).gs.sl) hc1.sl
     simp only at hE
     clear x5
     have HE := Hi9 hE; clear hE hc1 hca HR1
     have HDA := Hi9 hda; clear hda
     go_wp2_with fail
     refine HE.out.mono ?_
     rintro e wb2 ⟨rfl, hcb⟩
     have hd := HDA.out.trans hcb (by simp)
     have hk := HK.out.same hd
     have hq5 := hk.b5x
     have x6 := hq5.cell (i := 6) rfl
     have hai := hk.l.ai
     rw [HLS.out] at hai
     have hS := same26_yes v.Ls.length lc2 v.lc (by omega) hai hk.mx.inn.ls.ai (by simp) (fun l hl => by
      obtain ⟨z, hz, rfl⟩ := List.mem_map.1 hl
      have := hk.mx.inn.ls.sm z hz
      omega)
     have HS := Hi9 hS; clear hS hk hq5 hcb HDA HE hai
     have HD3 := Hi9 hd; clear hd
     go_wp2_with fail
     refine HS.out.mono ?_
     rintro e wx ⟨rfl, hcb⟩
     have hd := HD3.out.trans hcb (by simp)
     have hk := HK.out.same hd
     have hq5 := hk.b5x
     clear x6
     have x7 := hq5.cell (i := 7) rfl
     have hai := hk.m.ai
     rw [HMS.out] at hai
     have hS := same26_yes v.Ms.length mc2 v.mc (by omega) hai hk.mx.inn.ms.ai (by simp) (fun l hl => by
      obtain ⟨z, hz, rfl⟩ := List.mem_map.1 hl
      have := hk.mx.inn.ms.sm z hz
      omega)
     clear HS
     have HS := Hi9 hS; clear hS hk hq5 hcb hai
     have HD4 := Hi9 hd; clear hd
     go_wp2_with fail
     refine HS.out.mono ?_
     rintro e wz ⟨rfl, hcb⟩
     have hd := HD4.out.trans hcb (by simp)
     have hb6 := (HK.out.same hd).b6
     have hb17 := B17.out.ch hd (by simp)
     clear x7
     have s0 := hb17.cell (i := 0) rfl
     have s1 := hb17.cell (i := 1) rfl
     have v0 := hb6.cell (i := 0) rfl
     have v1 := hb6.cell (i := 1) rfl
     have f0 := hb6.frozen (i := 0)
     have f1 := hb6.frozen (i := 1)
     have h6l9 := hb6.lt
     have HD := Hi9 hd; clear hd hcb hb6 hb17 HS
     go_wp2_with fail
     refine bodyPost_ret (v := .tuple #[.agg #[.int .i64 G1.most, .slice (some ⟨rb2, 0, none⟩) G1.nodes.length cap2], .bool true]) (by simp [results, Tryz.results74, go_sem, v0, v1]) rfl ?_
     have hcs := set2_ch (w := wz) (b := w.heap.size + 2) (u := .int .i64 G1.most) (v := .slice (some ⟨rb2, 0, none⟩) G1.nodes.length cap2) rfl
     have h6F : w.heap.size + 2 ∉ F' := fun hin => by rcases HFN.out _ hin with e | e; (have := HFW.out _ e; omega); omega
     exact ATo.of HBT0.out ((HG.out.same HD.out (by simp)).same hcs (fun q hq hq2 => h6F (by rw [List.mem_singleton.1 hq2] at hq; exact hq))) ((HRG2.out.ch HD.out (by simp)).ch hcs (by simp; rcases hfr with e | e <;> omega)) hap2 (fun q hq => (HFN.out q hq).imp id (fun e => by omega)) (by rcases hfr with e | e; exact .inl e; exact .inr (by omega)) ((HC0.out.trans HD.out (by simp)).trans hcs (fun q hq => .inr (by simp at hq; omega)))
end
def IR (w : World) (la : Option Addr) (Ls : List WV) : Prop := ∀ (i : Nat) x, Ls[i]? = some x → ∃ b o, la = some ⟨b, o, none⟩ ∧ w.cell? ⟨b, o + i, none⟩ = some (.slice x.a x.l.length x.c) ∧ Sl w x.a x.l
theorem IR.ch {w w' : World} {la : Option Addr} {Ls : List WV} (h : IR w la Ls) (hc : Ch [] w w') : IR w' la Ls := fun i x hx => by
 obtain ⟨b, o, e, h1, h2⟩ := h i x hx
 exact ⟨b, o, e, (hc.cell (cell_lt h1) (by simp)).trans h1, h2.ch hc (by simp)⟩
structure MxR (w : World) (v : MxV) : Prop where
 kind : v.kind ≤ 255
 N : v.N < 4294967296
 C : I64' v.C
 x : Sl w v.x.a v.x.l
 y : Sl w v.y.a v.y.l
 gs : Sl w v.gs.a v.gs.l
 ls : IR w v.la v.Ls
 ms : IR w v.ma v.Ms
 bx : ∀ r ∈ v.x.l, -9223372036854775808 ≤ r ∧ r ≤ 9223372036854775807
 by_ : ∀ r ∈ v.y.l, -9223372036854775808 ≤ r ∧ r ≤ 9223372036854775807
 bg : ∀ r ∈ v.gs.l, -9223372036854775808 ≤ r ∧ r ≤ 9223372036854775807
 bl : ∀ x ∈ v.Ls, ∀ r ∈ x.l, -9223372036854775808 ≤ r ∧ r ≤ 9223372036854775807
 bm : ∀ x ∈ v.Ms, ∀ r ∈ x.l, -9223372036854775808 ≤ r ∧ r ≤ 9223372036854775807
 nl : v.Ls.length ≤ 9223372036854775807
 nm : v.Ms.length ≤ 9223372036854775807
theorem MxR.ch {w w' : World} {v : MxV} (h : MxR w v) (hc : Ch [] w w') : MxR w' v :=
 ⟨h.kind, h.N, h.C, h.x.ch hc (by simp), h.y.ch hc (by simp), h.gs.ch hc (by simp), h.ls.ch hc, h.ms.ch hc, h.bx, h.by_, h.bg, h.bl, h.bm, h.nl, h.nm⟩
structure Lt26 (v : MxV) : Prop where
 xn : v.x.l.length ≤ 20
 yn : v.y.l.length ≤ 20
 gn : v.gs.l.length ≤ 260
 ln : v.Ls.length ≤ 260
 mn : v.Ms.length ≤ 260
 lw : ∀ x ∈ v.Ls, x.l.length ≤ 20
 mw : ∀ x ∈ v.Ms, x.l.length ≤ 20
theorem MxR.mxb {w : World} {v : MxV} (h : MxR w v) (hl : Lt26 v) : MxB v :=
 ⟨h.N, h.C, h.bx, h.by_, h.bg, h.bl, h.bm, by have := hl.xn; omega, by have := hl.yn; omega, by have := hl.gn; omega, by have := hl.ln; omega, by have := hl.mn; omega⟩
theorem sl_low {w : World} {a : Option Addr} {l : List Int} (h : Sl w a l) (B0 : Nat) (hB : w.heap.size ≤ B0) : 0 < l.length → ∀ p, a = some p → p.block < B0 := fun h0 p hp => by
 have := sl_lt' h h0 p hp
 omega
theorem IR.iw {w : World} {la : Option Addr} {Ls : List WV} (h : IR w la Ls) (hs : ∀ x ∈ Ls, x.l.length ≤ 20) : IW w la Ls.length Ls :=
 ⟨rfl, fun i x hx => by
  obtain ⟨b, o, e, h1, _⟩ := h i x hx
  exact ⟨b, o, e, h1⟩, fun x hx => by
  obtain ⟨i, hi⟩ := List.getElem?_of_mem hx
  obtain ⟨_, _, _, _, h2⟩ := h i x hi
  exact h2, fun x hx => by have := hs x hx; omega⟩
theorem IR.low {w : World} {la : Option Addr} {Ls : List WV} (h : IR w la Ls) (B0 : Nat) (hB : w.heap.size ≤ B0) : 0 < Ls.length → ∀ p, la = some p → p.block < B0 := fun h0 p hp => by
 obtain ⟨b, o, e, h1, _⟩ := h 0 _ (List.getElem?_eq_getElem h0)
 rw [e] at hp
 cases hp
 have := cell_lt h1
 simp only at this ⊢
 omega
theorem MxR.mxk {w w' : World} {v : MxV} (h : MxR w v) (hl : Lt26 v) (hc : Ch [] w w') (B0 : Nat) (hB : w.heap.size ≤ B0) : MxK w' v B0 := by
 have hw : ∀ z ∈ v.Ls ++ v.Ms, 0 < z.l.length → ∀ p, z.a = some p → p.block < B0 := fun z hz => by
  have key : ∀ {la : Option Addr} {Ls : List WV}, IR w la Ls → z ∈ Ls → Sl w z.a z.l := fun h hz => by
   obtain ⟨i, hi⟩ := List.getElem?_of_mem hz
   obtain ⟨_, _, _, _, h2⟩ := h i z hi
   exact h2
  rcases List.mem_append.1 hz with hz | hz
  ·exact sl_low (key h.ls hz) B0 hB
  ·exact sl_low (key h.ms hz) B0 hB
 exact (⟨⟨h.x, h.y, h.gs, h.ls.iw hl.lw, h.ms.iw hl.mw, hw⟩, sl_low h.x B0 hB, sl_low h.y B0 hB, sl_low h.gs B0 hB, h.ls.low B0 hB, h.ms.low B0 hB⟩ : MxK w v B0).ch hc (by simp)
structure MxActS (w : World) (a : Option Addr) (n cap : Nat) (l : List MxV) : Prop where
 len : l.length = n
 le : n ≤ cap
 max : cap ≤ 9223372036854775807
 cells : ∀ (i : Nat) (x : MxV), l[i]? = some x → ∃ b o, a = some ⟨b, o, none⟩ ∧ ∀ (j : Nat) u, x.cells[j]? = some u → w.cell? ⟨b, o + i * 8 + j, none⟩ = some u
 ok : ∀ x ∈ l, MxR w x
section
variable {w : World}
theorem makes26_no (M : Int) (N : Nat) (hM : M < 1 ∨ 65536 < M) (a : Option Addr) (n cap : Nat) : Calls Tryz.prog 16 #[.agg #[.int .i64 M, .int .u8 N], .slice a n cap] w fun e w' => e = .returned (.bool true) ∧ Ch [] w w' := by
 have hB := fun W => Begin23_no W M N hM
 clear hM
 go_enter Tryz.func16, Tryz.ntmps16
 go_wp2_with fail
 refine calls_named fun W hW => ?_
 have hc : Ch [] w W := by rw [hW]; exact (Ch.refl _ _).alloc _
 clear hW
 refine (hB W).mono ?_
 rintro e w1 ⟨rfl, hc1⟩
 have HC := Hi9 (hc.trans hc1 (by simp)); clear hc hc1 hB
 go_wp2_with fail
 go_ret
 exact ⟨rfl, HC.out.alloc _⟩
theorem makes26_yes (M N : Nat) (h1 : 1 ≤ M) (h2 : M ≤ 65536) (hN : N ≤ 255) {a : Option Addr} {n cap : Nat} {l : List MxV} (hS : MxActS w a n cap l) (hfew : ∀ x ∈ l, Lt26 x) :
  Calls Tryz.prog 16 #[.agg #[.int .i64 M, .int .u8 N], .slice a n cap] w fun e w' => e = .returned (.bool true) ∧ Ch [] w w' := by
 have hB := fun W => Begin23_yes W M N h1 h2 hN
 have hlen := hS.len
 have hle := hS.le
 have hmx := hS.max
 have HB := Hi9 hB; clear hB
 have HS := Hi9 hS; clear hS
 have HFEW := Hi9 hfew; clear hfew
 have HLEN := Hi9 hlen; clear hlen
 go_enter Tryz.func16, Tryz.ntmps16
 go_wp2_with fail
 refine calls_named fun W hW => ?_
 have hc0 : Ch [] w W := by rw [hW]; exact (Ch.refl _ _).alloc _
 clear hW
 refine (HB.out W).mono ?_
 rintro e w1 ⟨g, F, rb, cap0, G, rfl, hbt⟩
 have HC0 := Hi9 hc0; clear hc0
 have HBT := Hi9 hbt; clear hbt HB
 go_upto_region 2 with fail
 refine wp_alw ?_
 intro W3 hW3
 have hb6 := alw_blk (xs := [.int .i64 G.most, .slice (some ⟨rb, 0, none⟩) G.nodes.length cap0]) hW3
 have hbt := HBT.out.same (alw_ch hW3)
 have h6F : w1.heap.size ∉ F := fun hin => Nat.lt_irrefl _ (HBT.out.gin.lt _ hin)
 have hrb6 : rb ≠ w1.heap.size := rg_ne HBT.out.rg
 have h6lo : W.heap.size ≤ w1.heap.size := HBT.out.ch.size
 clear hW3 HBT
 generalize w1.heap.size = b6 at *
 have HBT := Hi9 hbt; clear hbt
 have B6 := Hi9 hb6; clear hb6
 go_wp2_with fail
 go_loopw [24] (fun i wr => ∃ (k : Nat) (G : Gra) (F : List Nat) (rb cap : Nat), k ≤ n ∧ i = .int .i64 k ∧ Both W wr g rb cap G F ∧ b6 ∉ F ∧ rb ≠ b6 ∧ blk wr b6 [.int .i64 G.most, .slice (some ⟨rb, 0, none⟩) G.nodes.length cap]) (fun i _ => n - (intOf i).toNat)
 case atStart => exact ⟨0, G, F, rb, cap0, by omega, rfl, HBT.out, h6F, hrb6, B6.out⟩
 case round =>
  clear HBT B6 h6F hrb6
  obtain ⟨k, G, F, rb, capr, hk, rfl, hbt, h6F, hrb6, hb6⟩ := hrel
  by_cases hlt : k < n
  ·obtain ⟨x, hx⟩ : ∃ x, l[k]? = some x := ⟨_, List.getElem?_eq_getElem (by rw [HLEN.out]; exact hlt)⟩
   have hxm := List.mem_of_getElem? hx
   obtain ⟨xb, xo, rfl, hcl⟩ := HS.out.cells k x hx
   have hcw := HC0.out.trans hbt.ch (by simp)
   have c0 : wr.cell? ⟨xb, xo + k * 8, none⟩ = some (.int .u8 x.kind) := (hcw.cell (cell_lt (hcl 0 _ rfl)) (by simp)).trans (hcl 0 _ rfl)
   have c1 : wr.cell? ⟨xb, xo + k * 8 + 1, none⟩ = some (.int .i64 x.C) := (hcw.cell (cell_lt (hcl 1 _ rfl)) (by simp)).trans (hcl 1 _ rfl)
   have c2 : wr.cell? ⟨xb, xo + k * 8 + 2, none⟩ = some (.slice x.x.a x.x.l.length x.x.c) := (hcw.cell (cell_lt (hcl 2 _ rfl)) (by simp)).trans (hcl 2 _ rfl)
   have c3 : wr.cell? ⟨xb, xo + k * 8 + 3, none⟩ = some (.slice x.y.a x.y.l.length x.y.c) := (hcw.cell (cell_lt (hcl 3 _ rfl)) (by simp)).trans (hcl 3 _ rfl)
   have c4 : wr.cell? ⟨xb, xo + k * 8 + 4, none⟩ = some (.int .u32 x.N) := (hcw.cell (cell_lt (hcl 4 _ rfl)) (by simp)).trans (hcl 4 _ rfl)
   have c5 : wr.cell? ⟨xb, xo + k * 8 + 5, none⟩ = some (.slice x.gs.a x.gs.l.length x.gs.c) := (hcw.cell (cell_lt (hcl 5 _ rfl)) (by simp)).trans (hcl 5 _ rfl)
   have c6 : wr.cell? ⟨xb, xo + k * 8 + 6, none⟩ = some (.slice x.la x.Ls.length x.lc) := (hcw.cell (cell_lt (hcl 6 _ rfl)) (by simp)).trans (hcl 6 _ rfl)
   have c7 : wr.cell? ⟨xb, xo + k * 8 + 7, none⟩ = some (.slice x.ma x.Ms.length x.mc) := (hcw.cell (cell_lt (hcl 7 _ rfl)) (by simp)).trans (hcl 7 _ rfl)
   have hxr := HS.out.ok x hxm
   have hxl := HFEW.out x hxm
   have hxb := hxr.mxb hxl
   have hwr6 := hb6.lt
   have hact := fun (W1 : World) (hcA : Ch [] wr W1) => act26_is (hbt.same hcA) x (hxr.mxk hxl (hcw.trans hcA (by simp)) W.heap.size (HC0.out.size)) hxb
   have HACT := Hi9 hact; clear hact hcl hxr hxl hxb hx hxm hcw
   have HBT := Hi9 hbt; clear hbt
   have B6 := Hi9 hb6; clear hb6
   go_upto_region 7 with fail
   refine wp_alw ?_
   intro W1 hW1
   have hb8 := alw_blk (xs := [.int .u8 x.kind, .int .i64 x.C, .slice x.x.a x.x.l.length x.x.c, .slice x.y.a x.y.l.length x.y.c, .int .u32 x.N, .slice x.gs.a x.gs.l.length x.gs.c, .slice x.la x.Ls.length x.lc, .slice x.ma x.Ms.length x.mc]) hW1
   have hcA := alw_ch hW1
   have hb6 := B6.out.ch hcA (by simp)
   have hA := HACT.out W1 hcA
   have h0 := hcA.size
   clear hW1 c0 c1 c2 c3 c4 c5 c6 c7
   have x0 := hb6.cell (i := 0) rfl
   have x1 := hb6.cell (i := 1) rfl
   have y0 := hb8.cell (i := 0) rfl
   have y1 := hb8.cell (i := 1) rfl
   have y2 := hb8.cell (i := 2) rfl
   have y3 := hb8.cell (i := 3) rfl
   have y4 := hb8.cell (i := 4) rfl
   have y5 := hb8.cell (i := 5) rfl
   have y6 := hb8.cell (i := 6) rfl
   have y7 := hb8.cell (i := 7) rfl
   have h6F1 : b6 ∉ F := h6F
   have hA1 := hb6.lt
   have HA := Hi9 hA; clear hA HACT
   have B6' := Hi9 hb6; clear hb6 hb8 B6
   go_wp2_with fail
   refine HA.out.mono ?_
   rintro e w2 ⟨G2, F2, rb2, cap2, rfl, hbt2, hF2, hfr2, hch⟩
   have hb6 := B6'.out.ch hch h6F
   have h6F2 : b6 ∉ F2 := fun hin => by rcases hF2 _ hin with e | e; exact h6F e; omega
   have hrb62 : rb2 ≠ b6 := by rcases hfr2 with e | e; (rw [e]; exact hrb6); omega
   have HBT2 := Hi9 hbt2; clear hbt2 hF2 hfr2 hch
   have B6'' := Hi9 hb6; clear hb6 B6' x0 x1 y0 y1 y2 y3 y4 y5 y6 y7 HA
   go_upto_region 8 with fail
   refine wp_alw ?_
   intro W5 hW5
   have hb9 := alw_blk (xs := [.int .i64 G2.most, .slice (some ⟨rb2, 0, none⟩) G2.nodes.length cap2]) hW5
   have hcA := alw_ch hW5
   have hbt := HBT2.out.same hcA
   have hb6 := B6''.out.ch hcA (by simp)
   clear hW5 HBT2 B6''
   have x0 := hb9.cell (i := 0) rfl
   have x1 := hb9.cell (i := 1) rfl
   have f0 := hb6.frozen (i := 0)
   have f1 := hb6.frozen (i := 1)
   have y0 := hb6.cell (i := 0) rfl
   have y1 := hb6.cell (i := 1) rfl
   have HBT := Hi9 hbt; clear hbt hcA hb9
   have B6 := Hi9 hb6; clear hb6
   go_wp2_with fail
   go_roundw
   case rel =>
    have hcs := set2_ch (w := W5) (b := b6) (u := .int .i64 G2.most) (v := .slice (some ⟨rb2, 0, none⟩) G2.nodes.length cap2) rfl
    exact ⟨k + 1, G2, F2, rb2, cap2, by omega, by go_num, HBT.out.set hcs h6F2 hrb62 h6lo, h6F2, hrb62, (B6.out.set (i := 0) _).set (i := 1) _⟩
   case measure => simp [intOf]; omega
  ·have hSm := Same23_is hbt.gin hbt.rg
   have x0 := hb6.cell (i := 0) rfl
   have x1 := hb6.cell (i := 1) rfl
   have HSM := Hi9 hSm; clear hSm
   have HC := Hi9 (HC0.out.trans hbt.ch (by simp)); clear hbt hb6
   go_wp2_with fail
   refine HSM.out.mono ?_
   rintro e w9 ⟨rfl, hc9⟩
   have HC9 := Hi9 hc9; clear hc9
   go_wp2_with fail
   go_ret
   exact ⟨rfl, HC.out.trans HC9.out (by simp)⟩
theorem makes26_is (M : Int) (N : Nat) (hN : N ≤ 255) {a : Option Addr} {n cap : Nat} {l : List MxV} (hS : MxActS w a n cap l) (hfew : ∀ x ∈ l, Lt26 x) :
  Calls Tryz.prog 16 #[.agg #[.int .i64 M, .int .u8 N], .slice a n cap] w fun e w' => e = .returned (.bool true) ∧ Ch [] w w' := by
 by_cases hM : M < 1 ∨ 65536 < M
 ·exact makes26_no M N hM a n cap
 ·obtain ⟨m, rfl⟩ : ∃ m : Nat, M = m := ⟨M.toNat, by omega⟩
  exact makes26_yes m N (by omega) (by omega) hN hS hfew
end
def NoGr (w : World) (v : Value) : Prop := ∀ W, Ch [] w W → Calls Tryz.prog 165 #[v] W fun e w' => e = .returned (.bool true) ∧ W = w'
theorem NoGr.ch {w W : World} {v : Value} (h : NoGr w v) (hc : Ch [] w W) : NoGr W v := fun U hU => h U (hc.trans hU (by simp))
section
theorem nogr_nil (w : World) : NoGr w (.pointer none) := fun W _ => by
 go_enter Tryz.func165, Tryz.ntmps165
 go_wp2_with fail
 go_ret
 exact ⟨rfl, rfl⟩
theorem nogr_zero {w : World} {g : Nat} (h : blk w g [.int .i64 0, .slice none 0 0, .map none, .slice none 0 0]) : NoGr w (.pointer (some ⟨g, 0, none⟩)) := fun W hW => by
 have c2 := (h.ch hW (by simp)).cell (i := 2) rfl
 clear h
 go_enter Tryz.func165, Tryz.ntmps165
 go_wp2_with fail
 go_ret
 exact ⟨rfl, rfl⟩
theorem Len_none {w : World} {p : Option Addr} (h : NoGr w (.pointer p)) : Calls Tryz.prog 49 #[.pointer p] w fun e w' => e = .returned (.int .i64 0) ∧ Ch [] w w' := by
 have H := Hi9 h; clear h
 go_enter Tryz.func49, Tryz.ntmps49
 go_wp2_with fail
 refine (H.out _ ?hc).mono ?_
 case hc => repeat (first | refine Ch.alloc ?_ _ | exact Ch.refl _ _)
 rintro e w' ⟨rfl, rfl⟩
 go_wp2_with fail
 go_ret
 exact ⟨rfl, by repeat (first | refine Ch.alloc ?_ _ | exact Ch.refl _ _)⟩
end
section
variable {w : World} {p : Option Addr}
theorem mChoose_none (h : NoGr w (.pointer p)) (C : Int) (xa ya : Option Addr) (n xc m yc : Nat) : Calls Tryz.prog 66 #[.pointer p, .int .i64 C, .slice xa n xc, .slice ya m yc] w fun e w' => e = .returned (.tuple #[.slice none 0 0, .int .i64 1]) ∧ Ch [] w w' := by
 have H := Hi9 h; clear h
 go_enter Tryz.func66, Tryz.ntmps66
 go_wp2_with fail
 refine calls_named fun W hW => ?_
 have hc : Ch [] w W := by rw [hW]; repeat (first | exact Ch.refl _ _ | refine Ch.alloc ?_ _)
 clear hW
 refine (Len_none (H.out.ch hc)).mono ?_
 rintro e w2 ⟨rfl, hc2⟩
 have HC2 := Hi9 (hc.trans hc2 (by simp)); clear hc2 hc
 go_wp2_with fail
 go_ret2
 exact ⟨rfl, HC2.out⟩
theorem mIs_none (h : NoGr w (.pointer p)) (ya : Option Addr) (m yc : Nat) (N : Int) : Calls Tryz.prog 151 #[.pointer p, .slice ya m yc, .int .u32 N] w fun e w' => e = .returned (.tuple #[.int .i64 0, .int .i64 1]) ∧ Ch [] w w' := by
 have H := Hi9 h; clear h
 go_enter Tryz.func151, Tryz.ntmps151
 go_wp2_with fail
 refine calls_named fun W hW => ?_
 have hc : Ch [] w W := by rw [hW]; repeat (first | exact Ch.refl _ _ | refine Ch.alloc ?_ _)
 clear hW
 refine (Len_none (H.out.ch hc)).mono ?_
 rintro e w2 ⟨rfl, hc2⟩
 have HC2 := Hi9 (hc.trans hc2 (by simp)); clear hc2 hc
 go_wp2_with fail
 go_ret2
 exact ⟨rfl, HC2.out⟩
theorem mRead_none (h : NoGr w (.pointer p)) (la ya : Option Addr) (n lc m yc : Nat) : Calls Tryz.prog 67 #[.pointer p, .slice la n lc, .slice ya m yc] w fun e w' => e = .returned (.tuple #[.slice none 0 0, .int .i64 1]) ∧ Ch [] w w' := by
 have H := Hi9 h; clear h
 go_enter Tryz.func67, Tryz.ntmps67
 go_wp2_with fail
 refine calls_named fun W hW => ?_
 have hc : Ch [] w W := by rw [hW]; repeat (first | exact Ch.refl _ _ | refine Ch.alloc ?_ _)
 clear hW
 refine (Len_none (H.out.ch hc)).mono ?_
 rintro e w2 ⟨rfl, hc2⟩
 have HC2 := Hi9 (hc.trans hc2 (by simp)); clear hc2 hc
 go_wp2_with fail
 go_ret2
 exact ⟨rfl, HC2.out⟩
theorem mWrite_none (h : NoGr w (.pointer p)) (la : Option Addr) (n lc : Nat) (C : Int) (ya xa : Option Addr) (m yc k xc : Nat) : Calls Tryz.prog 69 #[.pointer p, .slice la n lc, .int .i64 C, .slice ya m yc, .slice xa k xc] w fun e w' => e = .returned (.tuple #[.slice none 0 0, .int .i64 1]) ∧ Ch [] w w' := by
 have H := Hi9 h; clear h
 go_enter Tryz.func69, Tryz.ntmps69
 go_wp2_with fail
 refine calls_named fun W hW => ?_
 have hc : Ch [] w W := by rw [hW]; repeat (first | exact Ch.refl _ _ | refine Ch.alloc ?_ _)
 clear hW
 refine (Len_none (H.out.ch hc)).mono ?_
 rintro e w2 ⟨rfl, hc2⟩
 have HC2 := Hi9 (hc.trans hc2 (by simp)); clear hc2 hc
 go_wp2_with fail
 go_ret2
 exact ⟨rfl, HC2.out⟩
theorem mPick_none (h : NoGr w (.pointer p)) (ga la : Option Addr) (n gc m lc : Nat) : Calls Tryz.prog 70 #[.pointer p, .slice ga n gc, .slice la m lc] w fun e w' => e = .returned (.tuple #[.slice none 0 0, .int .i64 1]) ∧ Ch [] w w' := by
 have H := Hi9 h; clear h
 go_enter Tryz.func70, Tryz.ntmps70
 go_wp2_with fail
 refine calls_named fun W hW => ?_
 have hc : Ch [] w W := by rw [hW]; repeat (first | exact Ch.refl _ _ | refine Ch.alloc ?_ _)
 clear hW
 refine (Len_none (H.out.ch hc)).mono ?_
 rintro e w2 ⟨rfl, hc2⟩
 have HC2 := Hi9 (hc.trans hc2 (by simp)); clear hc2 hc
 go_wp2_with fail
 go_ret2
 exact ⟨rfl, HC2.out⟩
theorem mEqual_none (h : NoGr w (.pointer p)) (la ma : Option Addr) (n lc m mc : Nat) : Calls Tryz.prog 71 #[.pointer p, .slice la n lc, .slice ma m mc] w fun e w' => e = .returned (.tuple #[.int .i64 0, .int .i64 1]) ∧ Ch [] w w' := by
 have H := Hi9 h; clear h
 go_enter Tryz.func71, Tryz.ntmps71
 go_wp2_with fail
 refine calls_named fun W hW => ?_
 have hc : Ch [] w W := by rw [hW]; repeat (first | exact Ch.refl _ _ | refine Ch.alloc ?_ _)
 clear hW
 refine (Len_none (H.out.ch hc)).mono ?_
 rintro e w2 ⟨rfl, hc2⟩
 have HC2 := Hi9 (hc.trans hc2 (by simp)); clear hc2 hc
 go_wp2_with fail
 go_ret2
 exact ⟨rfl, HC2.out⟩
theorem program26_none_0 (h : NoGr w (.pointer p)) (kind : Nat) (C : Int) (N : Int) (a1 : Option Addr) (n1 c1 : Nat) (a2 : Option Addr) (n2 c2 : Nat) (a3 : Option Addr) (n3 c3 : Nat) (a4 : Option Addr) (n4 c4 : Nat) (a5 : Option Addr) (n5 c5 : Nat) (xa ya : Option Addr) (xc yc : Nat) (hk : (kind : Int) % 6 = 0) :
  Calls Tryz.prog 98 #[.pointer p, .agg #[.int .u8 kind, .int .i64 C, .slice a1 n1 c1, .slice a2 n2 c2, .int .u32 N, .slice a3 n3 c3, .slice a4 n4 c4, .slice a5 n5 c5], .slice xa 1 xc, .slice ya 1 yc, .slice none 0 0, .slice none 0 0, .slice none 0 0] w fun e w' => e = .returned (.tuple #[.slice none 0 0, .int .i64 0, .int .i64 1]) ∧ Ch [] w w' := by
 have H := Hi9 h; clear h
 go_enter Tryz.func98, Tryz.ntmps98
 go_wp2_with fail
 refine calls_named fun W hW => ?_
 have hc : Ch [] w W := by rw [hW]; exact (Ch.refl _ _).alloc _
 clear hW
 refine (mChoose_none (H.out.ch hc) C xa ya 1 xc 1 yc).mono ?_
 rintro e w2 ⟨rfl, hc2⟩
 have HC2 := Hi9 (hc.trans hc2 (by simp)); clear hc2 hc
 go_wp2_with fail
 go_ret3
 exact ⟨rfl, HC2.out⟩
theorem program26_none_1 (h : NoGr w (.pointer p)) (kind : Nat) (C : Int) (N : Int) (a1 : Option Addr) (n1 c1 : Nat) (a2 : Option Addr) (n2 c2 : Nat) (a3 : Option Addr) (n3 c3 : Nat) (a4 : Option Addr) (n4 c4 : Nat) (a5 : Option Addr) (n5 c5 : Nat) (xa ya : Option Addr) (xc yc : Nat) (hk : (kind : Int) % 6 = 1) :
  Calls Tryz.prog 98 #[.pointer p, .agg #[.int .u8 kind, .int .i64 C, .slice a1 n1 c1, .slice a2 n2 c2, .int .u32 N, .slice a3 n3 c3, .slice a4 n4 c4, .slice a5 n5 c5], .slice xa 1 xc, .slice ya 1 yc, .slice none 0 0, .slice none 0 0, .slice none 0 0] w fun e w' => e = .returned (.tuple #[.slice none 0 0, .int .i64 0, .int .i64 1]) ∧ Ch [] w w' := by
 have H := Hi9 h; clear h
 go_enter Tryz.func98, Tryz.ntmps98
 go_wp2_with fail
 refine calls_named fun W hW => ?_
 have hc : Ch [] w W := by rw [hW]; exact (Ch.refl _ _).alloc _
 clear hW
 refine (mIs_none (H.out.ch hc) ya 1 yc N).mono ?_
 rintro e w2 ⟨rfl, hc2⟩
 have HC2 := Hi9 (hc.trans hc2 (by simp)); clear hc2 hc
 go_wp2_with fail
 go_ret3
 exact ⟨rfl, HC2.out⟩
theorem program26_none_2 (h : NoGr w (.pointer p)) (kind : Nat) (C : Int) (N : Int) (a1 : Option Addr) (n1 c1 : Nat) (a2 : Option Addr) (n2 c2 : Nat) (a3 : Option Addr) (n3 c3 : Nat) (a4 : Option Addr) (n4 c4 : Nat) (a5 : Option Addr) (n5 c5 : Nat) (xa ya : Option Addr) (xc yc : Nat) (hk : (kind : Int) % 6 = 2) :
  Calls Tryz.prog 98 #[.pointer p, .agg #[.int .u8 kind, .int .i64 C, .slice a1 n1 c1, .slice a2 n2 c2, .int .u32 N, .slice a3 n3 c3, .slice a4 n4 c4, .slice a5 n5 c5], .slice xa 1 xc, .slice ya 1 yc, .slice none 0 0, .slice none 0 0, .slice none 0 0] w fun e w' => e = .returned (.tuple #[.slice none 0 0, .int .i64 0, .int .i64 1]) ∧ Ch [] w w' := by
 have H := Hi9 h; clear h
 go_enter Tryz.func98, Tryz.ntmps98
 go_wp2_with fail
 refine calls_named fun W hW => ?_
 have hc : Ch [] w W := by rw [hW]; exact (Ch.refl _ _).alloc _
 clear hW
 refine (mRead_none (H.out.ch hc) none ya 0 0 1 yc).mono ?_
 rintro e w2 ⟨rfl, hc2⟩
 have HC2 := Hi9 (hc.trans hc2 (by simp)); clear hc2 hc
 go_wp2_with fail
 go_ret3
 exact ⟨rfl, HC2.out⟩
theorem program26_none_3 (h : NoGr w (.pointer p)) (kind : Nat) (C : Int) (N : Int) (a1 : Option Addr) (n1 c1 : Nat) (a2 : Option Addr) (n2 c2 : Nat) (a3 : Option Addr) (n3 c3 : Nat) (a4 : Option Addr) (n4 c4 : Nat) (a5 : Option Addr) (n5 c5 : Nat) (xa ya : Option Addr) (xc yc : Nat) (hk : (kind : Int) % 6 = 3) :
  Calls Tryz.prog 98 #[.pointer p, .agg #[.int .u8 kind, .int .i64 C, .slice a1 n1 c1, .slice a2 n2 c2, .int .u32 N, .slice a3 n3 c3, .slice a4 n4 c4, .slice a5 n5 c5], .slice xa 1 xc, .slice ya 1 yc, .slice none 0 0, .slice none 0 0, .slice none 0 0] w fun e w' => e = .returned (.tuple #[.slice none 0 0, .int .i64 0, .int .i64 1]) ∧ Ch [] w w' := by
 have H := Hi9 h; clear h
 go_enter Tryz.func98, Tryz.ntmps98
 go_wp2_with fail
 refine calls_named fun W hW => ?_
 have hc : Ch [] w W := by rw [hW]; exact (Ch.refl _ _).alloc _
 clear hW
 refine (mWrite_none (H.out.ch hc) none 0 0 C ya xa 1 yc 1 xc).mono ?_
 rintro e w2 ⟨rfl, hc2⟩
 have HC2 := Hi9 (hc.trans hc2 (by simp)); clear hc2 hc
 go_wp2_with fail
 go_ret3
 exact ⟨rfl, HC2.out⟩
theorem program26_none_4 (h : NoGr w (.pointer p)) (kind : Nat) (C : Int) (N : Int) (a1 : Option Addr) (n1 c1 : Nat) (a2 : Option Addr) (n2 c2 : Nat) (a3 : Option Addr) (n3 c3 : Nat) (a4 : Option Addr) (n4 c4 : Nat) (a5 : Option Addr) (n5 c5 : Nat) (xa ya : Option Addr) (xc yc : Nat) (hk : (kind : Int) % 6 = 4) :
  Calls Tryz.prog 98 #[.pointer p, .agg #[.int .u8 kind, .int .i64 C, .slice a1 n1 c1, .slice a2 n2 c2, .int .u32 N, .slice a3 n3 c3, .slice a4 n4 c4, .slice a5 n5 c5], .slice xa 1 xc, .slice ya 1 yc, .slice none 0 0, .slice none 0 0, .slice none 0 0] w fun e w' => e = .returned (.tuple #[.slice none 0 0, .int .i64 0, .int .i64 1]) ∧ Ch [] w w' := by
 have H := Hi9 h; clear h
 go_enter Tryz.func98, Tryz.ntmps98
 go_wp2_with fail
 refine calls_named fun W hW => ?_
 have hc : Ch [] w W := by rw [hW]; exact (Ch.refl _ _).alloc _
 clear hW
 refine (mPick_none (H.out.ch hc) none none 0 0 0 0).mono ?_
 rintro e w2 ⟨rfl, hc2⟩
 have HC2 := Hi9 (hc.trans hc2 (by simp)); clear hc2 hc
 go_wp2_with fail
 go_ret3
 exact ⟨rfl, HC2.out⟩
theorem program26_none_5 (h : NoGr w (.pointer p)) (kind : Nat) (C : Int) (N : Int) (a1 : Option Addr) (n1 c1 : Nat) (a2 : Option Addr) (n2 c2 : Nat) (a3 : Option Addr) (n3 c3 : Nat) (a4 : Option Addr) (n4 c4 : Nat) (a5 : Option Addr) (n5 c5 : Nat) (xa ya : Option Addr) (xc yc : Nat) (hk : (kind : Int) % 6 = 5) :
  Calls Tryz.prog 98 #[.pointer p, .agg #[.int .u8 kind, .int .i64 C, .slice a1 n1 c1, .slice a2 n2 c2, .int .u32 N, .slice a3 n3 c3, .slice a4 n4 c4, .slice a5 n5 c5], .slice xa 1 xc, .slice ya 1 yc, .slice none 0 0, .slice none 0 0, .slice none 0 0] w fun e w' => e = .returned (.tuple #[.slice none 0 0, .int .i64 0, .int .i64 1]) ∧ Ch [] w w' := by
 have H := Hi9 h; clear h
 go_enter Tryz.func98, Tryz.ntmps98
 go_wp2_with fail
 refine calls_named fun W hW => ?_
 have hc : Ch [] w W := by rw [hW]; exact (Ch.refl _ _).alloc _
 clear hW
 refine (mEqual_none (H.out.ch hc) none none 0 0 0 0).mono ?_
 rintro e w2 ⟨rfl, hc2⟩
 have HC2 := Hi9 (hc.trans hc2 (by simp)); clear hc2 hc
 go_wp2_with fail
 go_ret3
 exact ⟨rfl, HC2.out⟩
theorem program26_none (h : NoGr w (.pointer p)) (kind : Nat) (C : Int) (N : Int) (a1 : Option Addr) (n1 c1 : Nat) (a2 : Option Addr) (n2 c2 : Nat) (a3 : Option Addr) (n3 c3 : Nat) (a4 : Option Addr) (n4 c4 : Nat) (a5 : Option Addr) (n5 c5 : Nat) (xa ya : Option Addr) (xc yc : Nat) (hk : kind < 6) :
  Calls Tryz.prog 98 #[.pointer p, .agg #[.int .u8 kind, .int .i64 C, .slice a1 n1 c1, .slice a2 n2 c2, .int .u32 N, .slice a3 n3 c3, .slice a4 n4 c4, .slice a5 n5 c5], .slice xa 1 xc, .slice ya 1 yc, .slice none 0 0, .slice none 0 0, .slice none 0 0] w fun e w' => e = .returned (.tuple #[.slice none 0 0, .int .i64 0, .int .i64 1]) ∧ Ch [] w w' := by
 obtain ⟨k, hk2⟩ : ∃ k, kind = k := ⟨_, rfl⟩
 have hki : (kind : Int) % 6 = k := by omega
 rw [hk2] at hk
 match k, hk, hki with
 | 0, _, hki => exact program26_none_0 h kind C N a1 n1 c1 a2 n2 c2 a3 n3 c3 a4 n4 c4 a5 n5 c5 xa ya xc yc hki
 | 1, _, hki => exact program26_none_1 h kind C N a1 n1 c1 a2 n2 c2 a3 n3 c3 a4 n4 c4 a5 n5 c5 xa ya xc yc hki
 | 2, _, hki => exact program26_none_2 h kind C N a1 n1 c1 a2 n2 c2 a3 n3 c3 a4 n4 c4 a5 n5 c5 xa ya xc yc hki
 | 3, _, hki => exact program26_none_3 h kind C N a1 n1 c1 a2 n2 c2 a3 n3 c3 a4 n4 c4 a5 n5 c5 xa ya xc yc hki
 | 4, _, hki => exact program26_none_4 h kind C N a1 n1 c1 a2 n2 c2 a3 n3 c3 a4 n4 c4 a5 n5 c5 xa ya xc yc hki
 | 5, _, hki => exact program26_none_5 h kind C N a1 n1 c1 a2 n2 c2 a3 n3 c3 a4 n4 c4 a5 n5 c5 xa ya xc yc hki
end
theorem IR.two8 {w : World} {b b1 b2 n1 n2 : Nat} {l1 l2 : List Int} (h : blk w b [.slice (some ⟨b1, 0, none⟩) n1 n1, .slice (some ⟨b2, 0, none⟩) n2 n2]) (h1 : blk w b1 (intCells l1)) (h2 : blk w b2 (intCells l2)) (e1 : l1.length = n1) (e2 : l2.length = n2) (s1 : n1 ≤ 1000) (s2 : n2 ≤ 1000) : IR w (some ⟨b, 0, none⟩) [⟨some ⟨b1, 0, none⟩, l1, n1⟩, ⟨some ⟨b2, 0, none⟩, l2, n2⟩] := fun i x hx => by
 subst e1 e2
 match i, hx with
 | 0, hx => cases hx; exact ⟨b, 0, rfl, h.cell (i := 0) rfl, Sl.blk9 h1 (by show l1.length ≤ 1000000; omega)⟩
 | 1, hx => cases hx; exact ⟨b, 0, rfl, h.cell (i := 1) rfl, Sl.blk9 h2 (by show l2.length ≤ 1000000; omega)⟩
theorem nil8 {w : World} : IR w none [] := fun i x hx => by simp at hx
structure Mut (w0 w : World) (b : Nat) (v : MxV) : Prop where
 k : blk w b v.cells
 r : MxR w0 v
 l : Lt26 v
 c : Ch [] w0 w
 lo : w0.heap.size ≤ b
def MutTo (w0 : World) (v : MxV) (w : World) (b : Nat) (e : Ending) (w' : World) : Prop := ∃ v', e = .returned (.tuple #[]) ∧ blk w' b v'.cells ∧ (∀ F : List Nat, (∀ k ∈ F, k < w.heap.size) → (∀ W, Ch F w0 W → MxR W v) → ∀ W, Ch F w' W → MxR W v') ∧ Lt26 v' ∧ Ch [b] w w'
section
variable {w0 w : World} {b : Nat} {v : MxV}
theorem fnvwr26_2 : Fnv 77 := fnv_of Tryz.func77 (by simp [Tryz.f77]) (by simp [Tryz.f77])
theorem wr26_2 (h : Mut w0 w b v) {bn : Nat} {n : Int} (hn : blk w bn [.int .i64 n]) (hI : I64' n) : Calls Tryz.prog 77 #[.pointer (some ⟨b, 0, none⟩), .pointer (some ⟨bn, 0, none⟩)] w (MutTo w0 v w b) := by
 have hlt := h.k.lt
 have hz := h.c.size
 have hlo := h.lo
 have c1 : w.cell? ⟨b, 1, none⟩ = _ := h.k.cell (i := 1) rfl
 have f1 := h.k.frozen (i := 1)
 have H := Hi9 h; clear h
 have n0 := hn.cell (i := 0) rfl
 go_enter Tryz.func77, Tryz.ntmps77
 go_wp2_with fail
 refine bodyPost_alw ?_
 intro W hW
 go_end0
 have hc : Ch [b] w W := by rw [hW]; exact (Ch.refl _ _).setCell (by simp) _
 have hc0 : Ch [b] w0 W := (H.out.c.mono (by simp)).trans hc (fun k hk => .inl hk)
 have hl := H.out.l
 refine ⟨{ v with C := n }, rfl, by rw [hW]; exact H.out.k.set (i := 1) _, fun F hFl hFr W2 hW2 => ?_, { hl with xn := hl.xn }, hc⟩
 have hr := hFr W2 ((hc0.mono (fun k hk => .inr (by simp at hk; omega))).trans hW2 (fun k hk => .inl hk))
 exact { hr with C := hI }
theorem fnvwr26_3 : Fnv 78 := fnv_of Tryz.func78 (by simp [Tryz.f78]) (by simp [Tryz.f78])
theorem wr26_3 (h : Mut w0 w b v) {bn : Nat} {n : Int} (hn : blk w bn [.int .i64 n]) (hI : I64' n) : Calls Tryz.prog 78 #[.pointer (some ⟨b, 0, none⟩), .pointer (some ⟨bn, 0, none⟩)] w (MutTo w0 v w b) := by
 have hlt := h.k.lt
 have hz := h.c.size
 have hlo := h.lo
 have n0 : w.cell? ⟨bn, 0, none⟩ = some (.int .i64 n) := (hn.ch (Ch.refl [] w) (by simp)).cell (i := 0) rfl
 have n1 : (w.alloc (.cells #[.int .i64 2, .int .i64 n] 3)).cell? ⟨bn, 0, none⟩ = some (.int .i64 n) := (hn.ch ((Ch.refl [] w).alloc _) (by simp)).cell (i := 0) rfl
 have hkA : blk (w.alloc (.cells #[.int .i64 2, .int .i64 n] 3)) b v.cells := h.k.ch ((Ch.refl [] w).alloc _) (by simp)
 have c0 : (w.alloc (.cells #[.int .i64 2, .int .i64 n] 3)).cell? ⟨b, 2, none⟩ = some (v.x.val) := hkA.cell (i := 2) rfl
 have f0 : (w.alloc (.cells #[.int .i64 2, .int .i64 n] 3)).frozen? ⟨b, 2, none⟩ = false := hkA.frozen (i := 2)
 have H := Hi9 h; clear h
 have HKA := Hi9 hkA; clear hkA
 go_enter Tryz.func78, Tryz.ntmps78
 go_wp2_with fail
 refine bodyPost_alw ?_
 intro W hW
 go_end0
 have d0 : blk W (w.heap.size) [.int .i64 2, .int .i64 n] := by rw [hW]; first | exact blk.new' _ _ (by simp) | exact (blk.new' _ _ (by simp)).other (show w.heap.size ≠ b by omega) _
 have hc : Ch [b] w W := by rw [hW]; first | exact ((Ch.refl [b] w).setCell (.inl (List.mem_singleton.2 rfl)) _).alloc _ | exact ((Ch.refl [b] w).alloc _).setCell (.inl (List.mem_singleton.2 rfl)) _
 have hc0 : Ch [b] w0 W := (H.out.c.mono (by simp)).trans hc (fun k hk => .inl hk)
 have hl := H.out.l
 refine ⟨{ v with x := ⟨some ⟨w.heap.size, 0, none⟩, [2, n], 2⟩ }, rfl, by rw [hW]; first | exact ((H.out.k).set (i := 2) _).alloc _ | exact (HKA.out).set (i := 2) _, fun F hFl hFr W2 hW2 => ?_, { hl with xn := by simp }, hc⟩
 have hr := hFr W2 ((hc0.mono (fun k hk => .inr (by simp at hk; omega))).trans hW2 (fun k hk => .inl hk))
 have d0 := d0.ch hW2 (fun hin => by have := hFl _ hin; omega)
 exact { hr with x := Sl.blk9 (c := [2, n]) d0 (by simp), bx := fun r hr => by simp at hr; rcases hr with rfl | rfl <;> first | exact hI | exact ⟨by omega, by omega⟩ }
theorem fnvwr26_4 : Fnv 79 := fnv_of Tryz.func79 (by simp [Tryz.f79]) (by simp [Tryz.f79])
theorem wr26_4 (h : Mut w0 w b v) {bn : Nat} {n : Int} (hn : blk w bn [.int .i64 n]) (hI : I64' n) : Calls Tryz.prog 79 #[.pointer (some ⟨b, 0, none⟩), .pointer (some ⟨bn, 0, none⟩)] w (MutTo w0 v w b) := by
 have hlt := h.k.lt
 have hz := h.c.size
 have hlo := h.lo
 have n0 : w.cell? ⟨bn, 0, none⟩ = some (.int .i64 n) := (hn.ch (Ch.refl [] w) (by simp)).cell (i := 0) rfl
 have n1 : (w.alloc (.cells #[.int .i64 n, .int .i64 3] 3)).cell? ⟨bn, 0, none⟩ = some (.int .i64 n) := (hn.ch ((Ch.refl [] w).alloc _) (by simp)).cell (i := 0) rfl
 have hkA : blk (w.alloc (.cells #[.int .i64 n, .int .i64 3] 3)) b v.cells := h.k.ch ((Ch.refl [] w).alloc _) (by simp)
 have c0 : (w.alloc (.cells #[.int .i64 n, .int .i64 3] 3)).cell? ⟨b, 3, none⟩ = some (v.y.val) := hkA.cell (i := 3) rfl
 have f0 : (w.alloc (.cells #[.int .i64 n, .int .i64 3] 3)).frozen? ⟨b, 3, none⟩ = false := hkA.frozen (i := 3)
 have H := Hi9 h; clear h
 have HKA := Hi9 hkA; clear hkA
 go_enter Tryz.func79, Tryz.ntmps79
 go_wp2_with fail
 refine bodyPost_alw ?_
 intro W hW
 go_end0
 have d0 : blk W (w.heap.size) [.int .i64 n, .int .i64 3] := by rw [hW]; first | exact blk.new' _ _ (by simp) | exact (blk.new' _ _ (by simp)).other (show w.heap.size ≠ b by omega) _
 have hc : Ch [b] w W := by rw [hW]; first | exact ((Ch.refl [b] w).setCell (.inl (List.mem_singleton.2 rfl)) _).alloc _ | exact ((Ch.refl [b] w).alloc _).setCell (.inl (List.mem_singleton.2 rfl)) _
 have hc0 : Ch [b] w0 W := (H.out.c.mono (by simp)).trans hc (fun k hk => .inl hk)
 have hl := H.out.l
 refine ⟨{ v with y := ⟨some ⟨w.heap.size, 0, none⟩, [n, 3], 2⟩ }, rfl, by rw [hW]; first | exact ((H.out.k).set (i := 3) _).alloc _ | exact (HKA.out).set (i := 3) _, fun F hFl hFr W2 hW2 => ?_, { hl with yn := by simp }, hc⟩
 have hr := hFr W2 ((hc0.mono (fun k hk => .inr (by simp at hk; omega))).trans hW2 (fun k hk => .inl hk))
 have d0 := d0.ch hW2 (fun hin => by have := hFl _ hin; omega)
 exact { hr with y := Sl.blk9 (c := [n, 3]) d0 (by simp), by_ := fun r hr => by simp at hr; rcases hr with rfl | rfl <;> first | exact hI | exact ⟨by omega, by omega⟩ }
theorem fnvwr26_5 : Fnv 80 := fnv_of Tryz.func80 (by simp [Tryz.f80]) (by simp [Tryz.f80])
theorem wr26_5 (h : Mut w0 w b v) {bn : Nat} {n : Int} (hn : blk w bn [.int .i64 n]) (hI : I64' n) : Calls Tryz.prog 80 #[.pointer (some ⟨b, 0, none⟩), .pointer (some ⟨bn, 0, none⟩)] w (MutTo w0 v w b) := by
 have hlt := h.k.lt
 have hz := h.c.size
 have hlo := h.lo
 have n0 : w.cell? ⟨bn, 0, none⟩ = some (.int .i64 n) := (hn.ch (Ch.refl [] w) (by simp)).cell (i := 0) rfl
 have n1 : (w.alloc (.cells #[.int .i64 n] 3)).cell? ⟨bn, 0, none⟩ = some (.int .i64 n) := (hn.ch ((Ch.refl [] w).alloc _) (by simp)).cell (i := 0) rfl
 have hkA : blk (w.alloc (.cells #[.int .i64 n] 3)) b v.cells := h.k.ch ((Ch.refl [] w).alloc _) (by simp)
 have c0 : (w.alloc (.cells #[.int .i64 n] 3)).cell? ⟨b, 5, none⟩ = some (v.gs.val) := hkA.cell (i := 5) rfl
 have f0 : (w.alloc (.cells #[.int .i64 n] 3)).frozen? ⟨b, 5, none⟩ = false := hkA.frozen (i := 5)
 have H := Hi9 h; clear h
 have HKA := Hi9 hkA; clear hkA
 go_enter Tryz.func80, Tryz.ntmps80
 go_wp2_with fail
 refine bodyPost_alw ?_
 intro W hW
 go_end0
 have d0 : blk W (w.heap.size) [.int .i64 n] := by rw [hW]; first | exact blk.new' _ _ (by simp) | exact (blk.new' _ _ (by simp)).other (show w.heap.size ≠ b by omega) _
 have hc : Ch [b] w W := by rw [hW]; first | exact ((Ch.refl [b] w).setCell (.inl (List.mem_singleton.2 rfl)) _).alloc _ | exact ((Ch.refl [b] w).alloc _).setCell (.inl (List.mem_singleton.2 rfl)) _
 have hc0 : Ch [b] w0 W := (H.out.c.mono (by simp)).trans hc (fun k hk => .inl hk)
 have hl := H.out.l
 refine ⟨{ v with gs := ⟨some ⟨w.heap.size, 0, none⟩, [n], 1⟩ }, rfl, by rw [hW]; first | exact ((H.out.k).set (i := 5) _).alloc _ | exact (HKA.out).set (i := 5) _, fun F hFl hFr W2 hW2 => ?_, { hl with gn := by simp }, hc⟩
 have hr := hFr W2 ((hc0.mono (fun k hk => .inr (by simp at hk; omega))).trans hW2 (fun k hk => .inl hk))
 have d0 := d0.ch hW2 (fun hin => by have := hFl _ hin; omega)
 exact { hr with gs := Sl.blk9 (c := [n]) d0 (by simp), bg := fun r hr => by simp at hr; subst hr; first | exact hI | exact ⟨by omega, by omega⟩ }
theorem fnvwr26_17 : Fnv 93 := fnv_of Tryz.func93 (by simp [Tryz.f93]) (by simp [Tryz.f93])
theorem wr26_17 (h : Mut w0 w b v) : Calls Tryz.prog 93 #[.pointer (some ⟨b, 0, none⟩)] w (MutTo w0 v w b) := by
 have hlt := h.k.lt
 have hz := h.c.size
 have hlo := h.lo
 have hkA : blk (w.alloc (.cells #[.int .i64 2, .int .i64 3] 3)) b v.cells := h.k.ch ((Ch.refl [] w).alloc _) (by simp)
 have c0 : (w.alloc (.cells #[.int .i64 2, .int .i64 3] 3)).cell? ⟨b, 5, none⟩ = some (v.gs.val) := hkA.cell (i := 5) rfl
 have f0 : (w.alloc (.cells #[.int .i64 2, .int .i64 3] 3)).frozen? ⟨b, 5, none⟩ = false := hkA.frozen (i := 5)
 have H := Hi9 h; clear h
 have HKA := Hi9 hkA; clear hkA
 go_enter Tryz.func93, Tryz.ntmps93
 go_wp2_with fail
 refine bodyPost_alw ?_
 intro W hW
 go_end0
 have d0 : blk W (w.heap.size) [.int .i64 2, .int .i64 3] := by rw [hW]; first | exact blk.new' _ _ (by simp) | exact (blk.new' _ _ (by simp)).other (show w.heap.size ≠ b by omega) _
 have hc : Ch [b] w W := by rw [hW]; first | exact ((Ch.refl [b] w).setCell (.inl (List.mem_singleton.2 rfl)) _).alloc _ | exact ((Ch.refl [b] w).alloc _).setCell (.inl (List.mem_singleton.2 rfl)) _
 have hc0 : Ch [b] w0 W := (H.out.c.mono (by simp)).trans hc (fun k hk => .inl hk)
 have hl := H.out.l
 refine ⟨{ v with gs := ⟨some ⟨w.heap.size, 0, none⟩, [2, 3], 2⟩ }, rfl, by rw [hW]; first | exact ((H.out.k).set (i := 5) _).alloc _ | exact (HKA.out).set (i := 5) _, fun F hFl hFr W2 hW2 => ?_, { hl with gn := by simp }, hc⟩
 have hr := hFr W2 ((hc0.mono (fun k hk => .inr (by simp at hk; omega))).trans hW2 (fun k hk => .inl hk))
 have d0 := d0.ch hW2 (fun hin => by have := hFl _ hin; omega)
 exact { hr with gs := Sl.blk9 (c := [2, 3]) d0 (by simp), bg := fun r hr => by simp at hr; rcases hr with rfl | rfl <;> first | exact hI | exact ⟨by omega, by omega⟩ }
theorem fnvwr26_9 : Fnv 84 := fnv_of Tryz.func84 (by simp [Tryz.f84]) (by simp [Tryz.f84])
theorem wr26_9 (h : Mut w0 w b v) : Calls Tryz.prog 84 #[.pointer (some ⟨b, 0, none⟩)] w (MutTo w0 v w b) := by
 have hlt := h.k.lt
 have hz := h.c.size
 have hlo := h.lo
 have hkA : blk w b v.cells := h.k.ch (Ch.refl [] w) (by simp)
 have c0 : w.cell? ⟨b, 2, none⟩ = some (v.x.val) := hkA.cell (i := 2) rfl
 have f0 : w.frozen? ⟨b, 2, none⟩ = false := hkA.frozen (i := 2)
 have H := Hi9 h; clear h
 have HKA := Hi9 hkA; clear hkA
 go_enter Tryz.func84, Tryz.ntmps84
 go_wp2_with fail
 refine bodyPost_alw ?_
 intro W hW
 go_end0
 have hc : Ch [b] w W := by rw [hW]; first | exact (Ch.refl [b] w).setCell (.inl (List.mem_singleton.2 rfl)) _ | exact (Ch.refl [b] w).setCell (.inl (List.mem_singleton.2 rfl)) _
 have hc0 : Ch [b] w0 W := (H.out.c.mono (by simp)).trans hc (fun k hk => .inl hk)
 have hl := H.out.l
 refine ⟨{ v with x := ⟨none, [], 0⟩ }, rfl, by rw [hW]; first | exact (H.out.k).set (i := 2) _ | exact (HKA.out).set (i := 2) _, fun F hFl hFr W2 hW2 => ?_, { hl with xn := by simp }, hc⟩
 have hr := hFr W2 ((hc0.mono (fun k hk => .inr (by simp at hk; omega))).trans hW2 (fun k hk => .inl hk))
 exact { hr with x := Sl.nil9, bx := by simp }
theorem fnvwr26_10 : Fnv 85 := fnv_of Tryz.func85 (by simp [Tryz.f85]) (by simp [Tryz.f85])
theorem wr26_10 (h : Mut w0 w b v) : Calls Tryz.prog 85 #[.pointer (some ⟨b, 0, none⟩)] w (MutTo w0 v w b) := by
 have hlt := h.k.lt
 have hz := h.c.size
 have hlo := h.lo
 have hkA : blk w b v.cells := h.k.ch (Ch.refl [] w) (by simp)
 have c0 : w.cell? ⟨b, 3, none⟩ = some (v.y.val) := hkA.cell (i := 3) rfl
 have f0 : w.frozen? ⟨b, 3, none⟩ = false := hkA.frozen (i := 3)
 have H := Hi9 h; clear h
 have HKA := Hi9 hkA; clear hkA
 go_enter Tryz.func85, Tryz.ntmps85
 go_wp2_with fail
 refine bodyPost_alw ?_
 intro W hW
 go_end0
 have hc : Ch [b] w W := by rw [hW]; first | exact (Ch.refl [b] w).setCell (.inl (List.mem_singleton.2 rfl)) _ | exact (Ch.refl [b] w).setCell (.inl (List.mem_singleton.2 rfl)) _
 have hc0 : Ch [b] w0 W := (H.out.c.mono (by simp)).trans hc (fun k hk => .inl hk)
 have hl := H.out.l
 refine ⟨{ v with y := ⟨none, [], 0⟩ }, rfl, by rw [hW]; first | exact (H.out.k).set (i := 3) _ | exact (HKA.out).set (i := 3) _, fun F hFl hFr W2 hW2 => ?_, { hl with yn := by simp }, hc⟩
 have hr := hFr W2 ((hc0.mono (fun k hk => .inr (by simp at hk; omega))).trans hW2 (fun k hk => .inl hk))
 exact { hr with y := Sl.nil9, by_ := by simp }
theorem fnvwr26_16 : Fnv 92 := fnv_of Tryz.func92 (by simp [Tryz.f92]) (by simp [Tryz.f92])
theorem wr26_16 (h : Mut w0 w b v) : Calls Tryz.prog 92 #[.pointer (some ⟨b, 0, none⟩)] w (MutTo w0 v w b) := by
 have hlt := h.k.lt
 have hz := h.c.size
 have hlo := h.lo
 have hkA : blk w b v.cells := h.k.ch (Ch.refl [] w) (by simp)
 have c0 : w.cell? ⟨b, 5, none⟩ = some (v.gs.val) := hkA.cell (i := 5) rfl
 have f0 : w.frozen? ⟨b, 5, none⟩ = false := hkA.frozen (i := 5)
 have H := Hi9 h; clear h
 have HKA := Hi9 hkA; clear hkA
 go_enter Tryz.func92, Tryz.ntmps92
 go_wp2_with fail
 refine bodyPost_alw ?_
 intro W hW
 go_end0
 have hc : Ch [b] w W := by rw [hW]; first | exact (Ch.refl [b] w).setCell (.inl (List.mem_singleton.2 rfl)) _ | exact (Ch.refl [b] w).setCell (.inl (List.mem_singleton.2 rfl)) _
 have hc0 : Ch [b] w0 W := (H.out.c.mono (by simp)).trans hc (fun k hk => .inl hk)
 have hl := H.out.l
 refine ⟨{ v with gs := ⟨none, [], 0⟩ }, rfl, by rw [hW]; first | exact (H.out.k).set (i := 5) _ | exact (HKA.out).set (i := 5) _, fun F hFl hFr W2 hW2 => ?_, { hl with gn := by simp }, hc⟩
 have hr := hFr W2 ((hc0.mono (fun k hk => .inr (by simp at hk; omega))).trans hW2 (fun k hk => .inl hk))
 exact { hr with gs := Sl.nil9, bg := by simp }
theorem fnvwr26_13 : Fnv 88 := fnv_of Tryz.func88 (by simp [Tryz.f88]) (by simp [Tryz.f88])
theorem wr26_13 (h : Mut w0 w b v) : Calls Tryz.prog 88 #[.pointer (some ⟨b, 0, none⟩)] w (MutTo w0 v w b) := by
 have hlt := h.k.lt
 have hz := h.c.size
 have hlo := h.lo
 have hkA : blk w b v.cells := h.k.ch (Ch.refl [] w) (by simp)
 have c0 : w.cell? ⟨b, 6, none⟩ = some (.slice v.la v.Ls.length v.lc) := hkA.cell (i := 6) rfl
 have f0 : w.frozen? ⟨b, 6, none⟩ = false := hkA.frozen (i := 6)
 have H := Hi9 h; clear h
 have HKA := Hi9 hkA; clear hkA
 go_enter Tryz.func88, Tryz.ntmps88
 go_wp2_with fail
 refine bodyPost_alw ?_
 intro W hW
 go_end0
 have hc : Ch [b] w W := by rw [hW]; first | exact (Ch.refl [b] w).setCell (.inl (List.mem_singleton.2 rfl)) _ | exact (Ch.refl [b] w).setCell (.inl (List.mem_singleton.2 rfl)) _
 have hc0 : Ch [b] w0 W := (H.out.c.mono (by simp)).trans hc (fun k hk => .inl hk)
 have hl := H.out.l
 refine ⟨{ v with la := none, Ls := [], lc := 0 }, rfl, by rw [hW]; first | exact (H.out.k).set (i := 6) _ | exact (HKA.out).set (i := 6) _, fun F hFl hFr W2 hW2 => ?_, { hl with ln := by simp, lw := by simp }, hc⟩
 have hr := hFr W2 ((hc0.mono (fun k hk => .inr (by simp at hk; omega))).trans hW2 (fun k hk => .inl hk))
 exact { hr with ls := nil8, bl := by simp, nl := by simp }
theorem fnvwr26_14 : Fnv 89 := fnv_of Tryz.func89 (by simp [Tryz.f89]) (by simp [Tryz.f89])
theorem wr26_14 (h : Mut w0 w b v) : Calls Tryz.prog 89 #[.pointer (some ⟨b, 0, none⟩)] w (MutTo w0 v w b) := by
 have hlt := h.k.lt
 have hz := h.c.size
 have hlo := h.lo
 have hkA : blk w b v.cells := h.k.ch (Ch.refl [] w) (by simp)
 have c0 : w.cell? ⟨b, 7, none⟩ = some (.slice v.ma v.Ms.length v.mc) := hkA.cell (i := 7) rfl
 have f0 : w.frozen? ⟨b, 7, none⟩ = false := hkA.frozen (i := 7)
 have H := Hi9 h; clear h
 have HKA := Hi9 hkA; clear hkA
 go_enter Tryz.func89, Tryz.ntmps89
 go_wp2_with fail
 refine bodyPost_alw ?_
 intro W hW
 go_end0
 have hc : Ch [b] w W := by rw [hW]; first | exact (Ch.refl [b] w).setCell (.inl (List.mem_singleton.2 rfl)) _ | exact (Ch.refl [b] w).setCell (.inl (List.mem_singleton.2 rfl)) _
 have hc0 : Ch [b] w0 W := (H.out.c.mono (by simp)).trans hc (fun k hk => .inl hk)
 have hl := H.out.l
 refine ⟨{ v with ma := none, Ms := [], mc := 0 }, rfl, by rw [hW]; first | exact (H.out.k).set (i := 7) _ | exact (HKA.out).set (i := 7) _, fun F hFl hFr W2 hW2 => ?_, { hl with mn := by simp, mw := by simp }, hc⟩
 have hr := hFr W2 ((hc0.mono (fun k hk => .inr (by simp at hk; omega))).trans hW2 (fun k hk => .inl hk))
 exact { hr with ms := nil8, bm := by simp, nm := by simp }
theorem fnvwr26_6 : Fnv 81 := fnv_of Tryz.func81 (by simp [Tryz.f81]) (by simp [Tryz.f81])
theorem wr26_6 (h : Mut w0 w b v) {bn : Nat} {n : Int} (hn : blk w bn [.int .i64 n]) (hI : I64' n) : Calls Tryz.prog 81 #[.pointer (some ⟨b, 0, none⟩), .pointer (some ⟨bn, 0, none⟩)] w (MutTo w0 v w b) := by
 have hlt := h.k.lt
 have hz := h.c.size
 have hlo := h.lo
 have n0 : w.cell? ⟨bn, 0, none⟩ = some (.int .i64 n) := (hn.ch (Ch.refl [] w) (by simp)).cell (i := 0) rfl
 have n1 : (w.alloc (.cells #[.int .i64 2, .int .i64 4] 3)).cell? ⟨bn, 0, none⟩ = some (.int .i64 n) := (hn.ch ((Ch.refl [] w).alloc _) (by simp)).cell (i := 0) rfl
 have n2 : ((w.alloc (.cells #[.int .i64 2, .int .i64 4] 3)).alloc (.cells #[.int .i64 n, .int .i64 3] 3)).cell? ⟨bn, 0, none⟩ = some (.int .i64 n) := (hn.ch (((Ch.refl [] w).alloc _).alloc _) (by simp)).cell (i := 0) rfl
 have n3 : (((w.alloc (.cells #[.int .i64 2, .int .i64 4] 3)).alloc (.cells #[.int .i64 n, .int .i64 3] 3)).alloc (.cells #[.slice (some ⟨w.heap.size, 0, none⟩) 2 2, .slice (some ⟨w.heap.size + 1, 0, none⟩) 2 2] 26)).cell? ⟨bn, 0, none⟩ = some (.int .i64 n) := (hn.ch ((((Ch.refl [] w).alloc _).alloc _).alloc _) (by simp)).cell (i := 0) rfl
 have hkA : blk (((w.alloc (.cells #[.int .i64 2, .int .i64 4] 3)).alloc (.cells #[.int .i64 n, .int .i64 3] 3)).alloc (.cells #[.slice (some ⟨w.heap.size, 0, none⟩) 2 2, .slice (some ⟨w.heap.size + 1, 0, none⟩) 2 2] 26)) b v.cells := h.k.ch ((((Ch.refl [] w).alloc _).alloc _).alloc _) (by simp)
 have c0 : (((w.alloc (.cells #[.int .i64 2, .int .i64 4] 3)).alloc (.cells #[.int .i64 n, .int .i64 3] 3)).alloc (.cells #[.slice (some ⟨w.heap.size, 0, none⟩) 2 2, .slice (some ⟨w.heap.size + 1, 0, none⟩) 2 2] 26)).cell? ⟨b, 6, none⟩ = some (.slice v.la v.Ls.length v.lc) := hkA.cell (i := 6) rfl
 have f0 : (((w.alloc (.cells #[.int .i64 2, .int .i64 4] 3)).alloc (.cells #[.int .i64 n, .int .i64 3] 3)).alloc (.cells #[.slice (some ⟨w.heap.size, 0, none⟩) 2 2, .slice (some ⟨w.heap.size + 1, 0, none⟩) 2 2] 26)).frozen? ⟨b, 6, none⟩ = false := hkA.frozen (i := 6)
 have H := Hi9 h; clear h
 have HKA := Hi9 hkA; clear hkA
 go_enter Tryz.func81, Tryz.ntmps81
 go_wp2_with fail
 refine bodyPost_alw ?_
 intro W hW
 go_end0
 have d0 : blk W (w.heap.size) [.int .i64 2, .int .i64 4] := by rw [hW]; first | exact ((blk.new' _ _ (by simp)).alloc _).alloc _ | exact (((blk.new' _ _ (by simp)).alloc _).alloc _).other (show w.heap.size ≠ b by omega) _
 have d1 : blk W (w.heap.size + 1) [.int .i64 n, .int .i64 3] := by rw [hW]; first | exact (blk.new' _ _ (by simp)).alloc _ | exact ((blk.new' _ _ (by simp)).alloc _).other (show w.heap.size + 1 ≠ b by omega) _
 have d2 : blk W (w.heap.size + 2) [.slice (some ⟨w.heap.size, 0, none⟩) 2 2, .slice (some ⟨w.heap.size + 1, 0, none⟩) 2 2] := by rw [hW]; first | exact blk.new' _ _ (by simp) | exact (blk.new' _ _ (by simp)).other (show w.heap.size + 2 ≠ b by omega) _
 have hc : Ch [b] w W := by rw [hW]; first | exact ((((Ch.refl [b] w).setCell (.inl (List.mem_singleton.2 rfl)) _).alloc _).alloc _).alloc _ | exact ((((Ch.refl [b] w).alloc _).alloc _).alloc _).setCell (.inl (List.mem_singleton.2 rfl)) _
 have hc0 : Ch [b] w0 W := (H.out.c.mono (by simp)).trans hc (fun k hk => .inl hk)
 have hl := H.out.l
 refine ⟨{ v with la := some ⟨w.heap.size + 2, 0, none⟩, Ls := [⟨some ⟨w.heap.size, 0, none⟩, [2, 4], 2⟩, ⟨some ⟨w.heap.size + 1, 0, none⟩, [n, 3], 2⟩], lc := 2 }, rfl, by rw [hW]; first | exact ((((H.out.k).set (i := 6) _).alloc _).alloc _).alloc _ | exact (HKA.out).set (i := 6) _, fun F hFl hFr W2 hW2 => ?_, { hl with ln := by simp, lw := fun x hx => by simp at hx; rcases hx with rfl | rfl <;> simp }, hc⟩
 have hr := hFr W2 ((hc0.mono (fun k hk => .inr (by simp at hk; omega))).trans hW2 (fun k hk => .inl hk))
 have d0 := d0.ch hW2 (fun hin => by have := hFl _ hin; omega)
 have d1 := d1.ch hW2 (fun hin => by have := hFl _ hin; omega)
 have d2 := d2.ch hW2 (fun hin => by have := hFl _ hin; omega)
 exact { hr with ls := IR.two8 (l1 := [2, 4]) (l2 := [n, 3]) d2 d0 d1 rfl rfl (by omega) (by omega), bl := fun x hx r hr => by simp at hx; rcases hx with rfl | rfl <;> simp at hr <;> (try rcases hr with rfl | rfl) <;> (try subst hr) <;> first | exact hI | exact ⟨by omega, by omega⟩, nl := by simp }
theorem fnvwr26_7 : Fnv 82 := fnv_of Tryz.func82 (by simp [Tryz.f82]) (by simp [Tryz.f82])
theorem wr26_7 (h : Mut w0 w b v) {bn : Nat} {n : Int} (hn : blk w bn [.int .i64 n]) (hI : I64' n) : Calls Tryz.prog 82 #[.pointer (some ⟨b, 0, none⟩), .pointer (some ⟨bn, 0, none⟩)] w (MutTo w0 v w b) := by
 have hlt := h.k.lt
 have hz := h.c.size
 have hlo := h.lo
 have n0 : w.cell? ⟨bn, 0, none⟩ = some (.int .i64 n) := (hn.ch (Ch.refl [] w) (by simp)).cell (i := 0) rfl
 have n1 : (w.alloc (.cells #[.int .i64 n, .int .i64 4] 3)).cell? ⟨bn, 0, none⟩ = some (.int .i64 n) := (hn.ch ((Ch.refl [] w).alloc _) (by simp)).cell (i := 0) rfl
 have n2 : ((w.alloc (.cells #[.int .i64 n, .int .i64 4] 3)).alloc (.cells #[.int .i64 2, .int .i64 3] 3)).cell? ⟨bn, 0, none⟩ = some (.int .i64 n) := (hn.ch (((Ch.refl [] w).alloc _).alloc _) (by simp)).cell (i := 0) rfl
 have n3 : (((w.alloc (.cells #[.int .i64 n, .int .i64 4] 3)).alloc (.cells #[.int .i64 2, .int .i64 3] 3)).alloc (.cells #[.slice (some ⟨w.heap.size, 0, none⟩) 2 2, .slice (some ⟨w.heap.size + 1, 0, none⟩) 2 2] 26)).cell? ⟨bn, 0, none⟩ = some (.int .i64 n) := (hn.ch ((((Ch.refl [] w).alloc _).alloc _).alloc _) (by simp)).cell (i := 0) rfl
 have hkA : blk (((w.alloc (.cells #[.int .i64 n, .int .i64 4] 3)).alloc (.cells #[.int .i64 2, .int .i64 3] 3)).alloc (.cells #[.slice (some ⟨w.heap.size, 0, none⟩) 2 2, .slice (some ⟨w.heap.size + 1, 0, none⟩) 2 2] 26)) b v.cells := h.k.ch ((((Ch.refl [] w).alloc _).alloc _).alloc _) (by simp)
 have c0 : (((w.alloc (.cells #[.int .i64 n, .int .i64 4] 3)).alloc (.cells #[.int .i64 2, .int .i64 3] 3)).alloc (.cells #[.slice (some ⟨w.heap.size, 0, none⟩) 2 2, .slice (some ⟨w.heap.size + 1, 0, none⟩) 2 2] 26)).cell? ⟨b, 7, none⟩ = some (.slice v.ma v.Ms.length v.mc) := hkA.cell (i := 7) rfl
 have f0 : (((w.alloc (.cells #[.int .i64 n, .int .i64 4] 3)).alloc (.cells #[.int .i64 2, .int .i64 3] 3)).alloc (.cells #[.slice (some ⟨w.heap.size, 0, none⟩) 2 2, .slice (some ⟨w.heap.size + 1, 0, none⟩) 2 2] 26)).frozen? ⟨b, 7, none⟩ = false := hkA.frozen (i := 7)
 have H := Hi9 h; clear h
 have HKA := Hi9 hkA; clear hkA
 go_enter Tryz.func82, Tryz.ntmps82
 go_wp2_with fail
 refine bodyPost_alw ?_
 intro W hW
 go_end0
 have d0 : blk W (w.heap.size) [.int .i64 n, .int .i64 4] := by rw [hW]; first | exact ((blk.new' _ _ (by simp)).alloc _).alloc _ | exact (((blk.new' _ _ (by simp)).alloc _).alloc _).other (show w.heap.size ≠ b by omega) _
 have d1 : blk W (w.heap.size + 1) [.int .i64 2, .int .i64 3] := by rw [hW]; first | exact (blk.new' _ _ (by simp)).alloc _ | exact ((blk.new' _ _ (by simp)).alloc _).other (show w.heap.size + 1 ≠ b by omega) _
 have d2 : blk W (w.heap.size + 2) [.slice (some ⟨w.heap.size, 0, none⟩) 2 2, .slice (some ⟨w.heap.size + 1, 0, none⟩) 2 2] := by rw [hW]; first | exact blk.new' _ _ (by simp) | exact (blk.new' _ _ (by simp)).other (show w.heap.size + 2 ≠ b by omega) _
 have hc : Ch [b] w W := by rw [hW]; first | exact ((((Ch.refl [b] w).setCell (.inl (List.mem_singleton.2 rfl)) _).alloc _).alloc _).alloc _ | exact ((((Ch.refl [b] w).alloc _).alloc _).alloc _).setCell (.inl (List.mem_singleton.2 rfl)) _
 have hc0 : Ch [b] w0 W := (H.out.c.mono (by simp)).trans hc (fun k hk => .inl hk)
 have hl := H.out.l
 refine ⟨{ v with ma := some ⟨w.heap.size + 2, 0, none⟩, Ms := [⟨some ⟨w.heap.size, 0, none⟩, [n, 4], 2⟩, ⟨some ⟨w.heap.size + 1, 0, none⟩, [2, 3], 2⟩], mc := 2 }, rfl, by rw [hW]; first | exact ((((H.out.k).set (i := 7) _).alloc _).alloc _).alloc _ | exact (HKA.out).set (i := 7) _, fun F hFl hFr W2 hW2 => ?_, { hl with mn := by simp, mw := fun x hx => by simp at hx; rcases hx with rfl | rfl <;> simp }, hc⟩
 have hr := hFr W2 ((hc0.mono (fun k hk => .inr (by simp at hk; omega))).trans hW2 (fun k hk => .inl hk))
 have d0 := d0.ch hW2 (fun hin => by have := hFl _ hin; omega)
 have d1 := d1.ch hW2 (fun hin => by have := hFl _ hin; omega)
 have d2 := d2.ch hW2 (fun hin => by have := hFl _ hin; omega)
 exact { hr with ms := IR.two8 (l1 := [n, 4]) (l2 := [2, 3]) d2 d0 d1 rfl rfl (by omega) (by omega), bm := fun x hx r hr => by simp at hx; rcases hx with rfl | rfl <;> simp at hr <;> (try rcases hr with rfl | rfl) <;> (try subst hr) <;> first | exact hI | exact ⟨by omega, by omega⟩, nm := by simp }
theorem fnvwr26_8 : Fnv 83 := fnv_of Tryz.func83 (by simp [Tryz.f83]) (by simp [Tryz.f83])
theorem wr26_8 (h : Mut w0 w b v) {bn : Nat} {n : Int} (hn : blk w bn [.int .i64 n]) (hI : I64' n) : Calls Tryz.prog 83 #[.pointer (some ⟨b, 0, none⟩), .pointer (some ⟨bn, 0, none⟩)] w (MutTo w0 v w b) := by
 have hlt := h.k.lt
 have hz := h.c.size
 have hlo := h.lo
 have n0 : w.cell? ⟨bn, 0, none⟩ = some (.int .i64 n) := (hn.ch (Ch.refl [] w) (by simp)).cell (i := 0) rfl
 have n1 : (w.alloc (.cells #[.int .i64 2, .int .i64 n] 3)).cell? ⟨bn, 0, none⟩ = some (.int .i64 n) := (hn.ch ((Ch.refl [] w).alloc _) (by simp)).cell (i := 0) rfl
 have n2 : ((w.alloc (.cells #[.int .i64 2, .int .i64 n] 3)).alloc (.cells #[.int .i64 3] 3)).cell? ⟨bn, 0, none⟩ = some (.int .i64 n) := (hn.ch (((Ch.refl [] w).alloc _).alloc _) (by simp)).cell (i := 0) rfl
 have n3 : (((w.alloc (.cells #[.int .i64 2, .int .i64 n] 3)).alloc (.cells #[.int .i64 3] 3)).alloc (.cells #[.slice (some ⟨w.heap.size, 0, none⟩) 2 2, .slice (some ⟨w.heap.size + 1, 0, none⟩) 1 1] 26)).cell? ⟨bn, 0, none⟩ = some (.int .i64 n) := (hn.ch ((((Ch.refl [] w).alloc _).alloc _).alloc _) (by simp)).cell (i := 0) rfl
 have hkA : blk (((w.alloc (.cells #[.int .i64 2, .int .i64 n] 3)).alloc (.cells #[.int .i64 3] 3)).alloc (.cells #[.slice (some ⟨w.heap.size, 0, none⟩) 2 2, .slice (some ⟨w.heap.size + 1, 0, none⟩) 1 1] 26)) b v.cells := h.k.ch ((((Ch.refl [] w).alloc _).alloc _).alloc _) (by simp)
 have c0 : (((w.alloc (.cells #[.int .i64 2, .int .i64 n] 3)).alloc (.cells #[.int .i64 3] 3)).alloc (.cells #[.slice (some ⟨w.heap.size, 0, none⟩) 2 2, .slice (some ⟨w.heap.size + 1, 0, none⟩) 1 1] 26)).cell? ⟨b, 6, none⟩ = some (.slice v.la v.Ls.length v.lc) := hkA.cell (i := 6) rfl
 have f0 : (((w.alloc (.cells #[.int .i64 2, .int .i64 n] 3)).alloc (.cells #[.int .i64 3] 3)).alloc (.cells #[.slice (some ⟨w.heap.size, 0, none⟩) 2 2, .slice (some ⟨w.heap.size + 1, 0, none⟩) 1 1] 26)).frozen? ⟨b, 6, none⟩ = false := hkA.frozen (i := 6)
 have hkA0 := hkA.set (i := 6) (.slice (some ⟨w.heap.size + 2, 0, none⟩) 2 2)
 have c1 : ((((w.alloc (.cells #[.int .i64 2, .int .i64 n] 3)).alloc (.cells #[.int .i64 3] 3)).alloc (.cells #[.slice (some ⟨w.heap.size, 0, none⟩) 2 2, .slice (some ⟨w.heap.size + 1, 0, none⟩) 1 1] 26)).setCell ⟨b, 6, none⟩ (.slice (some ⟨w.heap.size + 2, 0, none⟩) 2 2)).cell? ⟨b, 3, none⟩ = some (v.y.val) := hkA0.cell (i := 3) rfl
 have f1 : ((((w.alloc (.cells #[.int .i64 2, .int .i64 n] 3)).alloc (.cells #[.int .i64 3] 3)).alloc (.cells #[.slice (some ⟨w.heap.size, 0, none⟩) 2 2, .slice (some ⟨w.heap.size + 1, 0, none⟩) 1 1] 26)).setCell ⟨b, 6, none⟩ (.slice (some ⟨w.heap.size + 2, 0, none⟩) 2 2)).frozen? ⟨b, 3, none⟩ = false := hkA0.frozen (i := 3)
 have H := Hi9 h; clear h
 have HKA := Hi9 hkA; clear hkA
 go_enter Tryz.func83, Tryz.ntmps83
 go_wp2_with fail
 refine bodyPost_alw ?_
 intro W hW
 go_end0
 have d0 : blk W (w.heap.size) [.int .i64 2, .int .i64 n] := by rw [hW]; first | exact ((blk.new' _ _ (by simp)).alloc _).alloc _ | exact ((((blk.new' _ _ (by simp)).alloc _).alloc _).other (show w.heap.size ≠ b by omega) _).other (show w.heap.size ≠ b by omega) _
 have d1 : blk W (w.heap.size + 1) [.int .i64 3] := by rw [hW]; first | exact (blk.new' _ _ (by simp)).alloc _ | exact (((blk.new' _ _ (by simp)).alloc _).other (show w.heap.size + 1 ≠ b by omega) _).other (show w.heap.size + 1 ≠ b by omega) _
 have d2 : blk W (w.heap.size + 2) [.slice (some ⟨w.heap.size, 0, none⟩) 2 2, .slice (some ⟨w.heap.size + 1, 0, none⟩) 1 1] := by rw [hW]; first | exact blk.new' _ _ (by simp) | exact ((blk.new' _ _ (by simp)).other (show w.heap.size + 2 ≠ b by omega) _).other (show w.heap.size + 2 ≠ b by omega) _
 have hc : Ch [b] w W := by rw [hW]; first | exact (((((Ch.refl [b] w).setCell (.inl (List.mem_singleton.2 rfl)) _).setCell (.inl (List.mem_singleton.2 rfl)) _).alloc _).alloc _).alloc _ | exact (((((Ch.refl [b] w).alloc _).alloc _).alloc _).setCell (.inl (List.mem_singleton.2 rfl)) _).setCell (.inl (List.mem_singleton.2 rfl)) _
 have hc0 : Ch [b] w0 W := (H.out.c.mono (by simp)).trans hc (fun k hk => .inl hk)
 have hl := H.out.l
 refine ⟨{ v with la := some ⟨w.heap.size + 2, 0, none⟩, Ls := [⟨some ⟨w.heap.size, 0, none⟩, [2, n], 2⟩, ⟨some ⟨w.heap.size + 1, 0, none⟩, [3], 1⟩], lc := 2, y := ⟨none, [], 0⟩ }, rfl, by rw [hW]; first | exact (((((H.out.k).set (i := 6) _).set (i := 3) _).alloc _).alloc _).alloc _ | exact ((HKA.out).set (i := 6) _).set (i := 3) _, fun F hFl hFr W2 hW2 => ?_, { hl with ln := by simp, lw := fun x hx => by simp at hx; rcases hx with rfl | rfl <;> simp, yn := by simp }, hc⟩
 have hr := hFr W2 ((hc0.mono (fun k hk => .inr (by simp at hk; omega))).trans hW2 (fun k hk => .inl hk))
 have d0 := d0.ch hW2 (fun hin => by have := hFl _ hin; omega)
 have d1 := d1.ch hW2 (fun hin => by have := hFl _ hin; omega)
 have d2 := d2.ch hW2 (fun hin => by have := hFl _ hin; omega)
 exact { hr with ls := IR.two8 (l1 := [2, n]) (l2 := [3]) d2 d0 d1 rfl rfl (by omega) (by omega), bl := fun x hx r hr => by simp at hx; rcases hx with rfl | rfl <;> simp at hr <;> (try rcases hr with rfl | rfl) <;> (try subst hr) <;> first | exact hI | exact ⟨by omega, by omega⟩, nl := by simp, y := Sl.nil9, by_ := by simp }
theorem fnvwr26_18 : Fnv 94 := fnv_of Tryz.func94 (by simp [Tryz.f94]) (by simp [Tryz.f94])
theorem wr26_18 (h : Mut w0 w b v) : Calls Tryz.prog 94 #[.pointer (some ⟨b, 0, none⟩)] w (MutTo w0 v w b) := by
 have hlt := h.k.lt
 have hz := h.c.size
 have hlo := h.lo
 have hkA : blk (((w.alloc (.cells #[.int .i64 2] 3)).alloc (.cells #[.int .i64 6, .int .i64 9] 3)).alloc (.cells #[.slice (some ⟨w.heap.size, 0, none⟩) 1 1, .slice (some ⟨w.heap.size + 1, 0, none⟩) 2 2] 26)) b v.cells := h.k.ch ((((Ch.refl [] w).alloc _).alloc _).alloc _) (by simp)
 have c0 : (((w.alloc (.cells #[.int .i64 2] 3)).alloc (.cells #[.int .i64 6, .int .i64 9] 3)).alloc (.cells #[.slice (some ⟨w.heap.size, 0, none⟩) 1 1, .slice (some ⟨w.heap.size + 1, 0, none⟩) 2 2] 26)).cell? ⟨b, 6, none⟩ = some (.slice v.la v.Ls.length v.lc) := hkA.cell (i := 6) rfl
 have f0 : (((w.alloc (.cells #[.int .i64 2] 3)).alloc (.cells #[.int .i64 6, .int .i64 9] 3)).alloc (.cells #[.slice (some ⟨w.heap.size, 0, none⟩) 1 1, .slice (some ⟨w.heap.size + 1, 0, none⟩) 2 2] 26)).frozen? ⟨b, 6, none⟩ = false := hkA.frozen (i := 6)
 have H := Hi9 h; clear h
 have HKA := Hi9 hkA; clear hkA
 go_enter Tryz.func94, Tryz.ntmps94
 go_wp2_with fail
 refine bodyPost_alw ?_
 intro W hW
 go_end0
 have d0 : blk W (w.heap.size) [.int .i64 2] := by rw [hW]; first | exact ((blk.new' _ _ (by simp)).alloc _).alloc _ | exact (((blk.new' _ _ (by simp)).alloc _).alloc _).other (show w.heap.size ≠ b by omega) _
 have d1 : blk W (w.heap.size + 1) [.int .i64 6, .int .i64 9] := by rw [hW]; first | exact (blk.new' _ _ (by simp)).alloc _ | exact ((blk.new' _ _ (by simp)).alloc _).other (show w.heap.size + 1 ≠ b by omega) _
 have d2 : blk W (w.heap.size + 2) [.slice (some ⟨w.heap.size, 0, none⟩) 1 1, .slice (some ⟨w.heap.size + 1, 0, none⟩) 2 2] := by rw [hW]; first | exact blk.new' _ _ (by simp) | exact (blk.new' _ _ (by simp)).other (show w.heap.size + 2 ≠ b by omega) _
 have hc : Ch [b] w W := by rw [hW]; first | exact ((((Ch.refl [b] w).setCell (.inl (List.mem_singleton.2 rfl)) _).alloc _).alloc _).alloc _ | exact ((((Ch.refl [b] w).alloc _).alloc _).alloc _).setCell (.inl (List.mem_singleton.2 rfl)) _
 have hc0 : Ch [b] w0 W := (H.out.c.mono (by simp)).trans hc (fun k hk => .inl hk)
 have hl := H.out.l
 refine ⟨{ v with la := some ⟨w.heap.size + 2, 0, none⟩, Ls := [⟨some ⟨w.heap.size, 0, none⟩, [2], 1⟩, ⟨some ⟨w.heap.size + 1, 0, none⟩, [6, 9], 2⟩], lc := 2 }, rfl, by rw [hW]; first | exact ((((H.out.k).set (i := 6) _).alloc _).alloc _).alloc _ | exact (HKA.out).set (i := 6) _, fun F hFl hFr W2 hW2 => ?_, { hl with ln := by simp, lw := fun x hx => by simp at hx; rcases hx with rfl | rfl <;> simp }, hc⟩
 have hr := hFr W2 ((hc0.mono (fun k hk => .inr (by simp at hk; omega))).trans hW2 (fun k hk => .inl hk))
 have d0 := d0.ch hW2 (fun hin => by have := hFl _ hin; omega)
 have d1 := d1.ch hW2 (fun hin => by have := hFl _ hin; omega)
 have d2 := d2.ch hW2 (fun hin => by have := hFl _ hin; omega)
 exact { hr with ls := IR.two8 (l1 := [2]) (l2 := [6, 9]) d2 d0 d1 rfl rfl (by omega) (by omega), bl := fun x hx r hr => by simp at hx; rcases hx with rfl | rfl <;> simp at hr <;> (try rcases hr with rfl | rfl) <;> (try subst hr) <;> first | exact hI | exact ⟨by omega, by omega⟩, nl := by simp }
theorem fnvwr26_19 : Fnv 95 := fnv_of Tryz.func95 (by simp [Tryz.f95]) (by simp [Tryz.f95])
theorem wr26_19 (h : Mut w0 w b v) : Calls Tryz.prog 95 #[.pointer (some ⟨b, 0, none⟩)] w (MutTo w0 v w b) := by
 have hlt := h.k.lt
 have hz := h.c.size
 have hlo := h.lo
 have hkA : blk (((w.alloc (.cells #[] 3)).alloc (.cells #[] 3)).alloc (.cells #[.slice (some ⟨w.heap.size, 0, none⟩) 0 0, .slice (some ⟨w.heap.size + 1, 0, none⟩) 0 0] 26)) b v.cells := h.k.ch ((((Ch.refl [] w).alloc _).alloc _).alloc _) (by simp)
 have c0 : (((w.alloc (.cells #[] 3)).alloc (.cells #[] 3)).alloc (.cells #[.slice (some ⟨w.heap.size, 0, none⟩) 0 0, .slice (some ⟨w.heap.size + 1, 0, none⟩) 0 0] 26)).cell? ⟨b, 6, none⟩ = some (.slice v.la v.Ls.length v.lc) := hkA.cell (i := 6) rfl
 have f0 : (((w.alloc (.cells #[] 3)).alloc (.cells #[] 3)).alloc (.cells #[.slice (some ⟨w.heap.size, 0, none⟩) 0 0, .slice (some ⟨w.heap.size + 1, 0, none⟩) 0 0] 26)).frozen? ⟨b, 6, none⟩ = false := hkA.frozen (i := 6)
 have H := Hi9 h; clear h
 have HKA := Hi9 hkA; clear hkA
 go_enter Tryz.func95, Tryz.ntmps95
 go_wp2_with fail
 refine bodyPost_alw ?_
 intro W hW
 go_end0
 have d0 : blk W (w.heap.size) [] := by rw [hW]; first | exact ((blk.new' _ _ (by simp)).alloc _).alloc _ | exact (((blk.new' _ _ (by simp)).alloc _).alloc _).other (show w.heap.size ≠ b by omega) _
 have d1 : blk W (w.heap.size + 1) [] := by rw [hW]; first | exact (blk.new' _ _ (by simp)).alloc _ | exact ((blk.new' _ _ (by simp)).alloc _).other (show w.heap.size + 1 ≠ b by omega) _
 have d2 : blk W (w.heap.size + 2) [.slice (some ⟨w.heap.size, 0, none⟩) 0 0, .slice (some ⟨w.heap.size + 1, 0, none⟩) 0 0] := by rw [hW]; first | exact blk.new' _ _ (by simp) | exact (blk.new' _ _ (by simp)).other (show w.heap.size + 2 ≠ b by omega) _
 have hc : Ch [b] w W := by rw [hW]; first | exact ((((Ch.refl [b] w).setCell (.inl (List.mem_singleton.2 rfl)) _).alloc _).alloc _).alloc _ | exact ((((Ch.refl [b] w).alloc _).alloc _).alloc _).setCell (.inl (List.mem_singleton.2 rfl)) _
 have hc0 : Ch [b] w0 W := (H.out.c.mono (by simp)).trans hc (fun k hk => .inl hk)
 have hl := H.out.l
 refine ⟨{ v with la := some ⟨w.heap.size + 2, 0, none⟩, Ls := [⟨some ⟨w.heap.size, 0, none⟩, [], 0⟩, ⟨some ⟨w.heap.size + 1, 0, none⟩, [], 0⟩], lc := 2 }, rfl, by rw [hW]; first | exact ((((H.out.k).set (i := 6) _).alloc _).alloc _).alloc _ | exact (HKA.out).set (i := 6) _, fun F hFl hFr W2 hW2 => ?_, { hl with ln := by simp, lw := fun x hx => by simp at hx; rcases hx with rfl | rfl <;> simp }, hc⟩
 have hr := hFr W2 ((hc0.mono (fun k hk => .inr (by simp at hk; omega))).trans hW2 (fun k hk => .inl hk))
 have d0 := d0.ch hW2 (fun hin => by have := hFl _ hin; omega)
 have d1 := d1.ch hW2 (fun hin => by have := hFl _ hin; omega)
 have d2 := d2.ch hW2 (fun hin => by have := hFl _ hin; omega)
 exact { hr with ls := IR.two8 (l1 := []) (l2 := []) d2 d0 d1 rfl rfl (by omega) (by omega), bl := fun x hx r hr => by simp at hx; rcases hx with rfl | rfl <;> simp at hr <;> (try rcases hr with rfl | rfl) <;> (try subst hr) <;> first | exact hI | exact ⟨by omega, by omega⟩, nl := by simp }
theorem fnvwr26_20 : Fnv 96 := fnv_of Tryz.func96 (by simp [Tryz.f96]) (by simp [Tryz.f96])
theorem wr26_20 (h : Mut w0 w b v) : Calls Tryz.prog 96 #[.pointer (some ⟨b, 0, none⟩)] w (MutTo w0 v w b) := by
 have hlt := h.k.lt
 have hz := h.c.size
 have hlo := h.lo
 have hkA : blk (((w.alloc (.cells #[.int .i64 2] 3)).alloc (.cells #[.int .i64 6] 3)).alloc (.cells #[.slice (some ⟨w.heap.size, 0, none⟩) 1 1, .slice (some ⟨w.heap.size + 1, 0, none⟩) 1 1] 26)) b v.cells := h.k.ch ((((Ch.refl [] w).alloc _).alloc _).alloc _) (by simp)
 have c0 : (((w.alloc (.cells #[.int .i64 2] 3)).alloc (.cells #[.int .i64 6] 3)).alloc (.cells #[.slice (some ⟨w.heap.size, 0, none⟩) 1 1, .slice (some ⟨w.heap.size + 1, 0, none⟩) 1 1] 26)).cell? ⟨b, 7, none⟩ = some (.slice v.ma v.Ms.length v.mc) := hkA.cell (i := 7) rfl
 have f0 : (((w.alloc (.cells #[.int .i64 2] 3)).alloc (.cells #[.int .i64 6] 3)).alloc (.cells #[.slice (some ⟨w.heap.size, 0, none⟩) 1 1, .slice (some ⟨w.heap.size + 1, 0, none⟩) 1 1] 26)).frozen? ⟨b, 7, none⟩ = false := hkA.frozen (i := 7)
 have H := Hi9 h; clear h
 have HKA := Hi9 hkA; clear hkA
 go_enter Tryz.func96, Tryz.ntmps96
 go_wp2_with fail
 refine bodyPost_alw ?_
 intro W hW
 go_end0
 have d0 : blk W (w.heap.size) [.int .i64 2] := by rw [hW]; first | exact ((blk.new' _ _ (by simp)).alloc _).alloc _ | exact (((blk.new' _ _ (by simp)).alloc _).alloc _).other (show w.heap.size ≠ b by omega) _
 have d1 : blk W (w.heap.size + 1) [.int .i64 6] := by rw [hW]; first | exact (blk.new' _ _ (by simp)).alloc _ | exact ((blk.new' _ _ (by simp)).alloc _).other (show w.heap.size + 1 ≠ b by omega) _
 have d2 : blk W (w.heap.size + 2) [.slice (some ⟨w.heap.size, 0, none⟩) 1 1, .slice (some ⟨w.heap.size + 1, 0, none⟩) 1 1] := by rw [hW]; first | exact blk.new' _ _ (by simp) | exact (blk.new' _ _ (by simp)).other (show w.heap.size + 2 ≠ b by omega) _
 have hc : Ch [b] w W := by rw [hW]; first | exact ((((Ch.refl [b] w).setCell (.inl (List.mem_singleton.2 rfl)) _).alloc _).alloc _).alloc _ | exact ((((Ch.refl [b] w).alloc _).alloc _).alloc _).setCell (.inl (List.mem_singleton.2 rfl)) _
 have hc0 : Ch [b] w0 W := (H.out.c.mono (by simp)).trans hc (fun k hk => .inl hk)
 have hl := H.out.l
 refine ⟨{ v with ma := some ⟨w.heap.size + 2, 0, none⟩, Ms := [⟨some ⟨w.heap.size, 0, none⟩, [2], 1⟩, ⟨some ⟨w.heap.size + 1, 0, none⟩, [6], 1⟩], mc := 2 }, rfl, by rw [hW]; first | exact ((((H.out.k).set (i := 7) _).alloc _).alloc _).alloc _ | exact (HKA.out).set (i := 7) _, fun F hFl hFr W2 hW2 => ?_, { hl with mn := by simp, mw := fun x hx => by simp at hx; rcases hx with rfl | rfl <;> simp }, hc⟩
 have hr := hFr W2 ((hc0.mono (fun k hk => .inr (by simp at hk; omega))).trans hW2 (fun k hk => .inl hk))
 have d0 := d0.ch hW2 (fun hin => by have := hFl _ hin; omega)
 have d1 := d1.ch hW2 (fun hin => by have := hFl _ hin; omega)
 have d2 := d2.ch hW2 (fun hin => by have := hFl _ hin; omega)
 exact { hr with ms := IR.two8 (l1 := [2]) (l2 := [6]) d2 d0 d1 rfl rfl (by omega) (by omega), bm := fun x hx r hr => by simp at hx; rcases hx with rfl | rfl <;> simp at hr <;> (try rcases hr with rfl | rfl) <;> (try subst hr) <;> first | exact hI | exact ⟨by omega, by omega⟩, nm := by simp }
end
theorem st_named {P : Program} {l : List Oper} {ks : List Ord.Kd} {A : List Nat} {C : World → Prop} {Q : Act → World → Prop} {R : List Nat} {a : Act} {w : World} (h : ∀ W, W = w → Ord.St P l ks A C Q R a W) : Ord.St P l ks A C Q R a w := h w rfl
theorem make_ints9 (w : World) (n : Nat) (hn : n ≤ 65536) (q : Int) (hq : q = n) (l : List Int) (hl : l = List.replicate n 0) : (Instr.makeSlice 26 (.int .i64 q) (.int .i64 q)).run Tryz.prog w = .ok (.slice (some ⟨w.heap.size, 0, none⟩) n n) (w.alloc (.cells (intCells l).toArray 3)) := by
 have h := run_make_ints w n hn
 rw [metCells_ints] at h
 have e : natInts (List.replicate n 0) = List.replicate n 0 := by simp [natInts]
 rw [e] at h
 rw [hq, hl]
 exact h
section
variable {w0 w : World} {b : Nat} {v : MxV}
theorem fnvwr26_12 : Fnv 87 := fnv_of Tryz.func87 (by simp [Tryz.f87]) (by simp [Tryz.f87])
theorem wr26_12 (h : Mut w0 w b v) : Calls Tryz.prog 87 #[.pointer (some ⟨b, 0, none⟩)] w (MutTo w0 v w b) := by
 have hlt := h.k.lt
 have hz := h.c.size
 have hlo := h.lo
 obtain ⟨l, hl9⟩ : ∃ l : List Int, l = List.replicate 3 0 := ⟨_, rfl⟩
 have hmk := fun W => make_ints9 W 3 (by omega) 3 rfl l hl9
 have HL9 := Hi9 hl9; clear hl9
 have hkA : blk (w.alloc (.cells (intCells l).toArray 3)) b v.cells := h.k.ch ((Ch.refl [] w).alloc _) (by simp)
 have c0 : (w.alloc (.cells (intCells l).toArray 3)).cell? ⟨b, 2, none⟩ = some (v.x.val) := hkA.cell (i := 2) rfl
 have f0 : (w.alloc (.cells (intCells l).toArray 3)).frozen? ⟨b, 2, none⟩ = false := hkA.frozen (i := 2)
 have H := Hi9 h; clear h
 have HKA := Hi9 hkA; clear hkA
 go_enter Tryz.func87, Tryz.ntmps87
 go_wp2_with fail
 refine bodyPost_alw ?_
 intro W hW
 go_end0
 have hlen : l.length = 3 := by rw [HL9.out]; simp
 have d0 : blk W w.heap.size (intCells l) := by rw [hW]; first | exact blk.new' _ _ (by simp) | exact (blk.new' _ _ (by simp)).other (show w.heap.size ≠ b by omega) _
 have hc : Ch [b] w W := by rw [hW]; first | exact ((Ch.refl [b] w).setCell (.inl (List.mem_singleton.2 rfl)) _).alloc _ | exact ((Ch.refl [b] w).alloc _).setCell (.inl (List.mem_singleton.2 rfl)) _
 have hc0 : Ch [b] w0 W := (H.out.c.mono (by simp)).trans hc (fun k hk => .inl hk)
 have hl := H.out.l
 have hbd : ∀ r ∈ l, -9223372036854775808 ≤ r ∧ r ≤ 9223372036854775807 := fun r hr => by
  rw [HL9.out] at hr
  rw [(List.mem_replicate.1 hr).2]
  exact ⟨by omega, by omega⟩
 refine ⟨{ v with x := ⟨some ⟨w.heap.size, 0, none⟩, l, 3⟩ }, rfl, by rw [show (MxV.cells { v with x := ⟨some ⟨w.heap.size, 0, none⟩, l, 3⟩ }) = v.cells.set 2 (.slice (some ⟨w.heap.size, 0, none⟩) 3 3) from by simp [MxV.cells, WV.val, hlen], hW]; first | exact ((H.out.k).set (i := 2) _).alloc _ | exact (HKA.out).set (i := 2) _, fun F hFl hFr W2 hW2 => ?_, { hl with xn := by show l.length ≤ 20; omega }, hc⟩
 have hr := hFr W2 ((hc0.mono (fun k hk => .inr (by simp at hk; omega))).trans hW2 (fun k hk => .inl hk))
 have d0 := d0.ch hW2 (fun hin => by have := hFl _ hin; omega)
 exact { hr with x := Sl.blk9 d0 (by show l.length ≤ 1000000; omega), bx := hbd }
theorem mut_L {W : World} {la : Option Addr} {Ls : List WV} (hlo : w0.heap.size ≤ b) (hc0 : Ch [b] w0 W) (hl : Lt26 v) (hir : ∀ F : List Nat, (∀ k ∈ F, k < w.heap.size) → ∀ W2, Ch F W W2 → IR W2 la Ls) (hbd : ∀ x ∈ Ls, ∀ r ∈ x.l, -9223372036854775808 ≤ r ∧ r ≤ 9223372036854775807) (hle : ∀ x ∈ Ls, x.l.length ≤ 20) (h2 : Ls.length = 2) (hb : blk W b (v.cells.set 6 (.slice la 2 2))) (hc : Ch [b] w W) : MutTo w0 v w b (.returned (.tuple #[])) W :=
 ⟨{ v with la := la, Ls := Ls, lc := 2 }, rfl, by
  rw [show (MxV.cells { v with la := la, Ls := Ls, lc := 2 }) = v.cells.set 6 (.slice la 2 2) from by simp [MxV.cells, h2]]
  exact hb, fun F hFl hFr W2 hW2 => { hFr W2 ((hc0.mono (fun k hk => .inr (by simp at hk; omega))).trans hW2 (fun k hk => .inl hk)) with ls := hir F hFl W2 hW2, bl := hbd, nl := by show Ls.length ≤ _; omega }, { hl with ln := by show Ls.length ≤ _; omega, lw := hle }, hc⟩
theorem fnvwr26_21 : Fnv 97 := fnv_of Tryz.func97 (by simp [Tryz.f97]) (by simp [Tryz.f97])
theorem wr26_21 (h : Mut w0 w b v) : Calls Tryz.prog 97 #[.pointer (some ⟨b, 0, none⟩)] w (MutTo w0 v w b) := by
 have hlt := h.k.lt
 have hz := h.c.size
 have hlo := h.lo
 obtain ⟨l, hl9⟩ : ∃ l : List Int, l = List.replicate 17 0 := ⟨_, rfl⟩
 have hmk := fun W => make_ints9 W 17 (by omega) 17 rfl l hl9
 have hlen : l.length = 17 := by rw [hl9]; simp
 have hbd : ∀ r ∈ l, -9223372036854775808 ≤ r ∧ r ≤ 9223372036854775807 := fun r hr => by
  rw [hl9] at hr
  rw [(List.mem_replicate.1 hr).2]
  exact ⟨by omega, by omega⟩
 have HLEN := Hi9 hlen; clear hlen
 have HBD := Hi9 hbd; clear hbd hl9
 have H := Hi9 h; clear h
 go_enter Tryz.func97, Tryz.ntmps97
 go_upto_region 0 with fail
 refine Ord.St.door (fun _ => True) [.fl, .ef, .ef, .ef, .fl, .fl, .ef] [0, 0, 0, 6, 15, 31, 63] [0, 1, 2, 3, 4, 5, 6] mixed (by kernel_rfl) rfl ?_
 obtain ⟨Wd, hWd⟩ : ∃ Wd, Wd = w.drew := ⟨_, rfl⟩
 rw [← hWd]
 have hcur : Ch [] w Wd := by rw [hWd]; exact (Ch.refl _ _).drew
 clear hWd
 (refine Ord.F9 ?_ (fun K w' hk => ?_) ?_; rotate_left; focus (go_step; exact hk))
 refine Ord.St.two 1 2 [2, 3, 4, 5, 6] [1, 3, 4, 5, 6] _ _ (by kernel_rfl) rfl rfl (by kernel_rfl) (by kernel_rfl) (fun K hK => ?_) (fun K hK => ?_)
 ·go_wp2_with fail
  refine ⟨rfl, hK _ _ ?_ ?_⟩
  ·trivial
  clear hK K
  refine Ord.St.alw ?_; intro Wn hWn
  have hb1 := alw_blk (xs := intCells l) hWn
  have hlo1 := hcur.size
  try replace hb2 := hb2.ch (alw_ch hWn) (by simp)
  replace hcur := hcur.al9 hWn
  clear hWn
  refine Ord.St.ef 2 [3, 4, 5, 6] _ rfl (by kernel_rfl) (fun K hK => ?_)
  go_wp2_with fail
  refine ⟨rfl, hK _ _ ?_⟩; clear hK K
  refine Ord.St.alw ?_; intro Wn hWn
  have hb2 := alw_blk (xs := intCells l) hWn
  have hlo2 := hcur.size
  try replace hb1 := hb1.ch (alw_ch hWn) (by simp)
  replace hcur := hcur.al9 hWn
  clear hWn
  refine Ord.St.ef 3 [4, 5, 6] _ rfl (by kernel_rfl) (fun K hK => ?_)
  go_wp2_with fail
  refine ⟨rfl, hK _ _ ?_⟩; clear hK K
  refine Ord.St.alw ?_; intro Wn hWn
  have hb3 := alw_blk hWn
  have hlo3 := hcur.size
  replace hb1 := hb1.ch (alw_ch hWn) (by simp)
  replace hb2 := hb2.ch (alw_ch hWn) (by simp)
  replace hcur := hcur.al9 hWn
  clear hWn
  have hk0 := H.out.k.ch hcur (by simp)
  have c0 := hk0.cell (i := 6) rfl
  have f0 := hk0.frozen (i := 6)
  iterate 2 (refine Ord.F9 ?_ (fun K w' hk => ?_) ?_; rotate_left; focus (go_step; exact hk))
  refine Ord.St.ef 6 [] _ rfl (by kernel_rfl) (fun K hK => ?_)
  go_wp2_with fail
  refine ⟨rfl, hK _ _ ?_⟩; clear hK K
  refine Ord.St.nil ?_
  go_wp2_with fail
  refine bodyPost_alw ?_
  intro W hW
  go_end0
  have hc1 : Ch [b] Wn W := by rw [hW]; exact (Ch.refl [b] Wn).setCell (.inl (List.mem_singleton.2 rfl)) _
  have hc : Ch [b] w W := (hcur.mono (by simp)).trans hc1 (fun k hk => .inl hk)
  have hc0 : Ch [b] w0 W := (H.out.c.mono (by simp)).trans hc (fun k hk => .inl hk)
  have hl := H.out.l
  have d1 := hb1.ch hc1 (fun hin => by have := List.mem_singleton.1 hin; omega)
  have d2 := hb2.ch hc1 (fun hin => by have := List.mem_singleton.1 hin; omega)
  have d3 := hb3.ch hc1 (fun hin => by have := List.mem_singleton.1 hin; omega)
  have hir := fun (F : List Nat) (hFl : ∀ k ∈ F, k < w.heap.size) (W2 : World) (hW2 : Ch F W W2) => IR.two8 (l1 := l) (l2 := l) (n1 := 17) (n2 := 17) (d3.ch hW2 (fun hin => by have := hFl _ hin; omega)) (d1.ch hW2 (fun hin => by have := hFl _ hin; omega)) (d2.ch hW2 (fun hin => by have := hFl _ hin; omega)) HLEN.out HLEN.out (by omega) (by omega)
  have hl17 := HLEN.out
  exact mut_L H.out.lo hc0 hl hir (fun x hx => by simp at hx; rcases hx with rfl | rfl <;> exact HBD.out) (fun x hx => by simp at hx; rcases hx with rfl | rfl <;> (show l.length ≤ 20; omega)) rfl (by rw [hW]; exact hk0.set (i := 6) _) hc
 ·go_wp2_with fail
  refine ⟨rfl, hK _ _ ?_ ?_⟩
  ·trivial
  clear hK K
  refine Ord.St.alw ?_; intro Wn hWn
  have hb2 := alw_blk (xs := intCells l) hWn
  have hlo2 := hcur.size
  try replace hb1 := hb1.ch (alw_ch hWn) (by simp)
  replace hcur := hcur.al9 hWn
  clear hWn
  refine Ord.St.ef 1 [3, 4, 5, 6] _ rfl (by kernel_rfl) (fun K hK => ?_)
  go_wp2_with fail
  refine ⟨rfl, hK _ _ ?_⟩; clear hK K
  refine Ord.St.alw ?_; intro Wn hWn
  have hb1 := alw_blk (xs := intCells l) hWn
  have hlo1 := hcur.size
  try replace hb2 := hb2.ch (alw_ch hWn) (by simp)
  replace hcur := hcur.al9 hWn
  clear hWn
  refine Ord.St.ef 3 [4, 5, 6] _ rfl (by kernel_rfl) (fun K hK => ?_)
  go_wp2_with fail
  refine ⟨rfl, hK _ _ ?_⟩; clear hK K
  refine Ord.St.alw ?_; intro Wn hWn
  have hb3 := alw_blk hWn
  have hlo3 := hcur.size
  replace hb1 := hb1.ch (alw_ch hWn) (by simp)
  replace hb2 := hb2.ch (alw_ch hWn) (by simp)
  replace hcur := hcur.al9 hWn
  clear hWn
  have hk0 := H.out.k.ch hcur (by simp)
  have c0 := hk0.cell (i := 6) rfl
  have f0 := hk0.frozen (i := 6)
  iterate 2 (refine Ord.F9 ?_ (fun K w' hk => ?_) ?_; rotate_left; focus (go_step; exact hk))
  refine Ord.St.ef 6 [] _ rfl (by kernel_rfl) (fun K hK => ?_)
  go_wp2_with fail
  refine ⟨rfl, hK _ _ ?_⟩; clear hK K
  refine Ord.St.nil ?_
  go_wp2_with fail
  refine bodyPost_alw ?_
  intro W hW
  go_end0
  have hc1 : Ch [b] Wn W := by rw [hW]; exact (Ch.refl [b] Wn).setCell (.inl (List.mem_singleton.2 rfl)) _
  have hc : Ch [b] w W := (hcur.mono (by simp)).trans hc1 (fun k hk => .inl hk)
  have hc0 : Ch [b] w0 W := (H.out.c.mono (by simp)).trans hc (fun k hk => .inl hk)
  have hl := H.out.l
  have d1 := hb1.ch hc1 (fun hin => by have := List.mem_singleton.1 hin; omega)
  have d2 := hb2.ch hc1 (fun hin => by have := List.mem_singleton.1 hin; omega)
  have d3 := hb3.ch hc1 (fun hin => by have := List.mem_singleton.1 hin; omega)
  have hir := fun (F : List Nat) (hFl : ∀ k ∈ F, k < w.heap.size) (W2 : World) (hW2 : Ch F W W2) => IR.two8 (l1 := l) (l2 := l) (n1 := 17) (n2 := 17) (d3.ch hW2 (fun hin => by have := hFl _ hin; omega)) (d1.ch hW2 (fun hin => by have := hFl _ hin; omega)) (d2.ch hW2 (fun hin => by have := hFl _ hin; omega)) HLEN.out HLEN.out (by omega) (by omega)
  have hl17 := HLEN.out
  exact mut_L H.out.lo hc0 hl hir (fun x hx => by simp at hx; rcases hx with rfl | rfl <;> exact HBD.out) (fun x hx => by simp at hx; rcases hx with rfl | rfl <;> (show l.length ≤ 20; omega)) rfl (by rw [hW]; exact hk0.set (i := 6) _) hc
theorem set_ch9 {X W : World} {i : Nat} {u : Value} (h : W = X.setCell ⟨b, i, none⟩ u) : Ch [b] X W := by rw [h]; exact (Ch.refl [b] _).setCell (.inl (List.mem_singleton.2 rfl)) _
theorem set_blk9 {X W : World} {i : Nat} {u : Value} {xs : List Value} (h : W = X.setCell ⟨b, i, none⟩ u) (hb : blk X b xs) : blk W b (xs.set i u) := by rw [h]; exact hb.set (i := i) _
theorem mut_XY {W : World} {xa ya : Option Addr} {l : List Int} (hlo : w0.heap.size ≤ b) (hc0 : Ch [b] w0 W) (hl : Lt26 v) (h1 : ∀ F : List Nat, (∀ k ∈ F, k < w.heap.size) → ∀ W2, Ch F W W2 → Sl W2 xa l) (h2 : ∀ F : List Nat, (∀ k ∈ F, k < w.heap.size) → ∀ W2, Ch F W W2 → Sl W2 ya l) (hbd : ∀ r ∈ l, -9223372036854775808 ≤ r ∧ r ≤ 9223372036854775807) (h17 : l.length = 17) (hb : blk W b ((v.cells.set 2 (.slice xa 17 17)).set 3 (.slice ya 17 17))) (hc : Ch [b] w W) : MutTo w0 v w b (.returned (.tuple #[])) W :=
 ⟨{ v with x := ⟨xa, l, 17⟩, y := ⟨ya, l, 17⟩ }, rfl, by
  rw [show (MxV.cells { v with x := ⟨xa, l, 17⟩, y := ⟨ya, l, 17⟩ }) = (v.cells.set 2 (.slice xa 17 17)).set 3 (.slice ya 17 17) from by simp [MxV.cells, WV.val, h17]]
  exact hb, fun F hFl hFr W2 hW2 => { hFr W2 ((hc0.mono (fun k hk => .inr (by simp at hk; omega))).trans hW2 (fun k hk => .inl hk)) with x := h1 F hFl W2 hW2, y := h2 F hFl W2 hW2, bx := hbd, by_ := hbd }, { hl with xn := by show l.length ≤ 20; omega, yn := by show l.length ≤ 20; omega }, hc⟩
theorem fnvwr26_11 : Fnv 86 := fnv_of Tryz.func86 (by simp [Tryz.f86]) (by simp [Tryz.f86])
theorem wr26_11 (h : Mut w0 w b v) : Calls Tryz.prog 86 #[.pointer (some ⟨b, 0, none⟩)] w (MutTo w0 v w b) := by
 have hlt := h.k.lt
 have hz := h.c.size
 have hlo := h.lo
 obtain ⟨l, hl9⟩ : ∃ l : List Int, l = List.replicate 17 0 := ⟨_, rfl⟩
 have hmk := fun W => make_ints9 W 17 (by omega) 17 rfl l hl9
 have hlen : l.length = 17 := by rw [hl9]; simp
 have hbd : ∀ r ∈ l, -9223372036854775808 ≤ r ∧ r ≤ 9223372036854775807 := fun r hr => by
  rw [hl9] at hr
  rw [(List.mem_replicate.1 hr).2]
  exact ⟨by omega, by omega⟩
 have HLEN := Hi9 hlen; clear hlen
 have HBD := Hi9 hbd; clear hbd hl9
 have H := Hi9 h; clear h
 go_enter Tryz.func86, Tryz.ntmps86
 go_upto_region 0 with fail
 refine Ord.St.door (fun _ => True) [.fl, .fl, .ef, .ef, .fl, .fl, .ef, .fl, .fl, .ef] [0, 0, 0, 0, 5, 21, 53, 127, 255, 511] [0, 1, 2, 3, 4, 5, 6, 7, 8, 9] mixed (by kernel_rfl) rfl ?_
 obtain ⟨Wd, hWd⟩ : ∃ Wd, Wd = w.drew := ⟨_, rfl⟩
 rw [← hWd]
 have hcur : Ch [b] w Wd := by rw [hWd]; exact (Ch.refl _ _).drew
 have hkb : blk Wd b v.cells := by rw [hWd]; exact H.out.k.ch (Ch.refl [] _).drew (by simp)
 clear hWd
 iterate 2 (refine Ord.F9 ?_ (fun K w' hk => ?_) ?_; rotate_left; focus (go_step; exact hk))
 refine Ord.St.two 2 3 [3, 4, 5, 6, 7, 8, 9] [2, 4, 5, 6, 7, 8, 9] _ _ (by kernel_rfl) rfl rfl (by kernel_rfl) (by kernel_rfl) (fun K hK => ?_) (fun K hK => ?_)
 ·go_wp2_with fail
  refine ⟨rfl, hK _ _ ?_ ?_⟩
  ·trivial
  clear hK K
  refine Ord.St.alw ?_; intro Wn hWn
  have hb1 := alw_blk (xs := intCells l) hWn
  have hlo1 := hcur.size
  try replace hb2 := hb2.ch (alw_ch hWn) (by simp)
  replace hkb := hkb.ch (alw_ch hWn) (by simp)
  replace hcur := hcur.al9 hWn
  clear hWn
  refine Ord.G9 ?_ 4 [3, 5, 6, 7, 8, 9] (fun K w' hk => ?_) ?_
  rotate_left
  ·go_step; exact hk
  refine Ord.G9 ?_ 5 [3, 6, 7, 8, 9] (fun K w' hk => ?_) ?_
  rotate_left
  ·go_step; exact hk
  refine Ord.St.two 3 6 [6, 7, 8, 9] [3, 7, 8, 9] _ _ (by kernel_rfl) rfl rfl (by kernel_rfl) (by kernel_rfl) (fun K hK => ?_) (fun K hK => ?_)
  ·go_wp2_with fail
   refine ⟨rfl, hK _ _ ?_ ?_⟩
   ·trivial
   clear hK K
   refine Ord.St.alw ?_; intro Wn hWn
   have hb2 := alw_blk (xs := intCells l) hWn
   have hlo2 := hcur.size
   try replace hb1 := hb1.ch (alw_ch hWn) (by simp)
   replace hkb := hkb.ch (alw_ch hWn) (by simp)
   replace hcur := hcur.al9 hWn
   clear hWn
   refine Ord.St.ef 6 [7, 8, 9] _ rfl (by kernel_rfl) (fun K hK => ?_)
   have c0 := hkb.cell (i := 2) rfl
   have f0 := hkb.frozen (i := 2)
   go_wp2_with fail
   refine ⟨rfl, hK _ _ ?_⟩; clear hK K
   clear c0 f0
   refine st_named ?_; intro Wn hWn
   have hcS := set_ch9 hWn
   replace hkb := set_blk9 hWn hkb
   replace hb1 := hb1.ch hcS (fun hin => by have := List.mem_singleton.1 hin; omega)
   try replace hb2 := hb2.ch hcS (fun hin => by have := List.mem_singleton.1 hin; omega)
   replace hcur := hcur.trans hcS (fun k hk => .inl hk)
   clear hWn hcS
   iterate 2 (refine Ord.F9 ?_ (fun K w' hk => ?_) ?_; rotate_left; focus (go_step; exact hk))
   refine Ord.St.ef 9 [] _ rfl (by kernel_rfl) (fun K hK => ?_)
   have c0 := hkb.cell (i := 3) rfl
   have f0 := hkb.frozen (i := 3)
   go_wp2_with fail
   refine ⟨rfl, hK _ _ ?_⟩; clear hK K
   refine Ord.St.nil ?_
   go_wp2_with fail
   refine bodyPost_alw ?_
   intro W hW
   go_end0
   have hc1 := set_ch9 hW
   have hk3 := set_blk9 hW hkb
   have hc : Ch [b] w W := hcur.trans hc1 (fun k hk => .inl hk)
   have hc0 : Ch [b] w0 W := (H.out.c.mono (by simp)).trans hc (fun k hk => .inl hk)
   have hl := H.out.l
   have d1 := hb1.ch hc1 (fun hin => by have := List.mem_singleton.1 hin; omega)
   have d2 := hb2.ch hc1 (fun hin => by have := List.mem_singleton.1 hin; omega)
   have hl17 := HLEN.out
   exact mut_XY H.out.lo hc0 hl (fun F hFl W2 hW2 => Sl.blk9 (d1.ch hW2 (fun hin => by have := hFl _ hin; omega)) (by omega)) (fun F hFl W2 hW2 => Sl.blk9 (d2.ch hW2 (fun hin => by have := hFl _ hin; omega)) (by omega)) HBD.out hl17 hk3 hc
  ·have c0 := hkb.cell (i := 2) rfl
   have f0 := hkb.frozen (i := 2)
   go_wp2_with fail
   refine ⟨rfl, hK _ _ ?_ ?_⟩
   ·trivial
   clear hK K
   clear c0 f0
   refine st_named ?_; intro Wn hWn
   have hcS := set_ch9 hWn
   replace hkb := set_blk9 hWn hkb
   replace hb1 := hb1.ch hcS (fun hin => by have := List.mem_singleton.1 hin; omega)
   try replace hb2 := hb2.ch hcS (fun hin => by have := List.mem_singleton.1 hin; omega)
   replace hcur := hcur.trans hcS (fun k hk => .inl hk)
   clear hWn hcS
   refine Ord.St.ef 3 [7, 8, 9] _ rfl (by kernel_rfl) (fun K hK => ?_)
   go_wp2_with fail
   refine ⟨rfl, hK _ _ ?_⟩; clear hK K
   refine Ord.St.alw ?_; intro Wn hWn
   have hb2 := alw_blk (xs := intCells l) hWn
   have hlo2 := hcur.size
   try replace hb1 := hb1.ch (alw_ch hWn) (by simp)
   replace hkb := hkb.ch (alw_ch hWn) (by simp)
   replace hcur := hcur.al9 hWn
   clear hWn
   iterate 2 (refine Ord.F9 ?_ (fun K w' hk => ?_) ?_; rotate_left; focus (go_step; exact hk))
   refine Ord.St.ef 9 [] _ rfl (by kernel_rfl) (fun K hK => ?_)
   have c0 := hkb.cell (i := 3) rfl
   have f0 := hkb.frozen (i := 3)
   go_wp2_with fail
   refine ⟨rfl, hK _ _ ?_⟩; clear hK K
   refine Ord.St.nil ?_
   go_wp2_with fail
   refine bodyPost_alw ?_
   intro W hW
   go_end0
   have hc1 := set_ch9 hW
   have hk3 := set_blk9 hW hkb
   have hc : Ch [b] w W := hcur.trans hc1 (fun k hk => .inl hk)
   have hc0 : Ch [b] w0 W := (H.out.c.mono (by simp)).trans hc (fun k hk => .inl hk)
   have hl := H.out.l
   have d1 := hb1.ch hc1 (fun hin => by have := List.mem_singleton.1 hin; omega)
   have d2 := hb2.ch hc1 (fun hin => by have := List.mem_singleton.1 hin; omega)
   have hl17 := HLEN.out
   exact mut_XY H.out.lo hc0 hl (fun F hFl W2 hW2 => Sl.blk9 (d1.ch hW2 (fun hin => by have := hFl _ hin; omega)) (by omega)) (fun F hFl W2 hW2 => Sl.blk9 (d2.ch hW2 (fun hin => by have := hFl _ hin; omega)) (by omega)) HBD.out hl17 hk3 hc
 ·go_wp2_with fail
  refine ⟨rfl, hK _ _ ?_ ?_⟩
  ·trivial
  clear hK K
  refine Ord.St.alw ?_; intro Wn hWn
  have hb2 := alw_blk (xs := intCells l) hWn
  have hlo2 := hcur.size
  try replace hb1 := hb1.ch (alw_ch hWn) (by simp)
  replace hkb := hkb.ch (alw_ch hWn) (by simp)
  replace hcur := hcur.al9 hWn
  clear hWn
  refine Ord.St.ef 2 [4, 5, 6, 7, 8, 9] _ rfl (by kernel_rfl) (fun K hK => ?_)
  go_wp2_with fail
  refine ⟨rfl, hK _ _ ?_⟩; clear hK K
  refine Ord.St.alw ?_; intro Wn hWn
  have hb1 := alw_blk (xs := intCells l) hWn
  have hlo1 := hcur.size
  try replace hb2 := hb2.ch (alw_ch hWn) (by simp)
  replace hkb := hkb.ch (alw_ch hWn) (by simp)
  replace hcur := hcur.al9 hWn
  clear hWn
  iterate 2 (refine Ord.F9 ?_ (fun K w' hk => ?_) ?_; rotate_left; focus (go_step; exact hk))
  refine Ord.St.ef 6 [7, 8, 9] _ rfl (by kernel_rfl) (fun K hK => ?_)
  have c0 := hkb.cell (i := 2) rfl
  have f0 := hkb.frozen (i := 2)
  go_wp2_with fail
  refine ⟨rfl, hK _ _ ?_⟩; clear hK K
  clear c0 f0
  refine st_named ?_; intro Wn hWn
  have hcS := set_ch9 hWn
  replace hkb := set_blk9 hWn hkb
  replace hb1 := hb1.ch hcS (fun hin => by have := List.mem_singleton.1 hin; omega)
  try replace hb2 := hb2.ch hcS (fun hin => by have := List.mem_singleton.1 hin; omega)
  replace hcur := hcur.trans hcS (fun k hk => .inl hk)
  clear hWn hcS
  iterate 2 (refine Ord.F9 ?_ (fun K w' hk => ?_) ?_; rotate_left; focus (go_step; exact hk))
  refine Ord.St.ef 9 [] _ rfl (by kernel_rfl) (fun K hK => ?_)
  have c0 := hkb.cell (i := 3) rfl
  have f0 := hkb.frozen (i := 3)
  go_wp2_with fail
  refine ⟨rfl, hK _ _ ?_⟩; clear hK K
  refine Ord.St.nil ?_
  go_wp2_with fail
  refine bodyPost_alw ?_
  intro W hW
  go_end0
  have hc1 := set_ch9 hW
  have hk3 := set_blk9 hW hkb
  have hc : Ch [b] w W := hcur.trans hc1 (fun k hk => .inl hk)
  have hc0 : Ch [b] w0 W := (H.out.c.mono (by simp)).trans hc (fun k hk => .inl hk)
  have hl := H.out.l
  have d1 := hb1.ch hc1 (fun hin => by have := List.mem_singleton.1 hin; omega)
  have d2 := hb2.ch hc1 (fun hin => by have := List.mem_singleton.1 hin; omega)
  have hl17 := HLEN.out
  exact mut_XY H.out.lo hc0 hl (fun F hFl W2 hW2 => Sl.blk9 (d1.ch hW2 (fun hin => by have := hFl _ hin; omega)) (by omega)) (fun F hFl W2 hW2 => Sl.blk9 (d2.ch hW2 (fun hin => by have := hFl _ hin; omega)) (by omega)) HBD.out hl17 hk3 hc
end
theorem infoAct26 : (Tryz.prog.info? 31).map (fun i => (i.zero, i.size, i.bytes)) = some (some (.agg #[.int .u8 0, .int .i64 0, .slice none 0 0, .slice none 0 0, .int .u32 0, .slice none 0 0, .slice none 0 0, .slice none 0 0]), 8, 144) := by kernel_rfl
theorem slActs26 : SliceTy Tryz.prog 24 31 8 144 (.agg #[.int .u8 0, .int .i64 0, .slice none 0 0, .slice none 0 0, .int .u32 0, .slice none 0 0, .slice none 0 0, .slice none 0 0]) := ⟨Tryz.underlying24, infoAct26, rfl, by decide⟩
theorem news_blk26 {w : World} {b : Nat} {xs : List Value} (h : blk w b xs) : ∀ j u, xs[j]? = some u → w.cell? ((⟨b, 0, none⟩ : Addr).add j) = some u := fun j u hu => by
 rw [Addr.add_lit]
 simpa using h.cell hu
structure PW (w0 : World) (X : List (Nat × List Value)) (w : World) (ba : Nat) (good : MxV) (l : List MxV) (v : Value) : Prop where
 all : blk w ba [v]
 kept : ∀ p ∈ X, blk w p.1 p.2 ∧ p.1 ≠ ba ∧ v.ownBlock ≠ some p.1
 baN : v.ownBlock ≠ some ba
 row : Mem.row w 31 8 v l.length (l.flatMap MxV.cells)
 ok : ∀ x ∈ good :: l, (∀ W, Ch (ba :: v.ownBlock.toList) w W → MxR W x) ∧ Lt26 x
 ch : Ch [] w0 w
 loA : w0.heap.size ≤ ba
 lo : ∀ k, v.ownBlock = some k → w0.heap.size ≤ k
theorem PW.ownlt {w0 : World} {X : List (Nat × List Value)} {w : World} {ba : Nat} {good : MxV} {l : List MxV} {v : Value} (h : PW w0 X w ba good l v) : ∀ k, v.ownBlock = some k → k < w.heap.size := fun k hk => by
 rcases h.row.2 with ⟨rfl, _⟩ | ⟨g, cap, cur, rfl, _, hg, _⟩
 ·cases hk
 ·cases hk
  exact (Array.getElem?_eq_some_iff.1 hg).1
theorem PW.next {w0 : World} {X : List (Nat × List Value)} {w w2 w4 W : World} {ba : Nat} {good x : MxV} {l : List MxV} {v v' : Value} (h : PW w0 X w ba good l v) {b : Nat} (hb : w.heap.size ≤ b) {W1 : World} (h1 : Ch [] w W1) (hx : (∀ F : List Nat, (∀ k ∈ F, k < W1.heap.size) → (∀ W, Ch F w W → MxR W good) → ∀ W, Ch F w2 W → MxR W x)) (hl : Lt26 x) (h2 : Ch [b] W1 w2) (h4 : Ch v.ownBlock.toList w2 w4) (ho : ∀ k, v'.ownBlock = some k → v.ownBlock = some k ∨ w2.heap.size ≤ k) (hr : Mem.row w4 31 8 v' (l.length + 1) (l.flatMap MxV.cells ++ x.cells)) (hW : W = w4.setCell ⟨ba, 0, none⟩ v') : PW w0 X W ba good (l ++ [x]) v' := by
 have hal := h.all.lt
 have hol := h.ownlt
 have hz1 := h1.size
 have hz2 := h2.size
 have hz4 := h4.size
 have hbN : ba ∉ v.ownBlock.toList := fun hin => h.baN (Option.mem_toList.1 hin)
 have hb4 : blk w4 ba [v] := ((h.all.ch h1 (by simp)).ch h2 (fun hin => by have := List.mem_singleton.1 hin; omega)).ch h4 hbN
 have hcS : Ch [ba] w4 W := by rw [hW]; exact (Ch.refl [ba] _).setCell (.inl (List.mem_singleton.2 rfl)) _
 have hbN' : v'.ownBlock ≠ some ba := fun e => (ho _ e).elim h.baN (fun e => by omega)
 have hlo := h.loA
 have hw2 : Ch (ba :: v.ownBlock.toList) w w2 := (h1.mono (by simp)).trans h2 (fun k hk => .inr (by have := List.mem_singleton.1 hk; omega))
 have h2W : Ch (ba :: v.ownBlock.toList) w2 W := (h4.mono (fun k hk => .inl (List.mem_cons_of_mem _ hk))).trans hcS (fun k hk => .inl (by rw [List.mem_singleton.1 hk]; exact List.mem_cons_self ..))
 have hmem : ∀ k ∈ ba :: v'.ownBlock.toList, k ∈ ba :: v.ownBlock.toList ∨ w2.heap.size ≤ k := fun k hk => by
  rcases List.mem_cons.1 hk with rfl | hk
  ·exact .inl (List.mem_cons_self ..)
  ·rcases ho k (Option.mem_toList.1 hk) with e | e
   ·exact .inl (List.mem_cons_of_mem _ (Option.mem_toList.2 e))
   ·exact .inr e
 refine ⟨?_, fun p hp => ?_, hbN', ?_, fun y hy => ?_, ?_, hlo, fun k hk => ?_⟩
 ·rw [hW]; exact hb4.set (i := 0) v'
 ·obtain ⟨k1, k2, k3⟩ := h.kept p hp
  have hkl := k1.lt
  refine ⟨(((k1.ch h1 (by simp)).ch h2 (fun hin => by have := List.mem_singleton.1 hin; omega)).ch h4 (fun hin => k3 (Option.mem_toList.1 hin))).ch hcS (fun hin => k2 (List.mem_singleton.1 hin)), k2, fun e => (ho _ e).elim k3 (fun e => by omega)⟩
 ·have := hr.ch hcS (fun k hk hin => hbN' (by rw [hk, List.mem_singleton.1 hin]))
  rw [List.length_append, List.flatMap_append]
  simpa using this
 ·have old : ∀ y ∈ good :: l, (∀ V, Ch (ba :: v'.ownBlock.toList) W V → MxR V y) ∧ Lt26 y := fun y hy => by
   obtain ⟨q1, q2⟩ := h.ok y hy
   refine ⟨fun V hV => q1 V ?_, q2⟩
   exact (hw2.trans h2W (fun k hk => .inl hk)).trans hV (fun k hk => (hmem k hk).imp id (fun e => by omega))
  rcases List.mem_cons.1 hy with rfl | hy
  ·exact old _ (List.mem_cons_self ..)
  ·rcases List.mem_append.1 hy with hy | hy
   ·exact old _ (List.mem_cons_of_mem _ hy)
   ·rw [List.mem_singleton.1 hy]
    refine ⟨fun V hV => hx (ba :: v.ownBlock.toList) (fun k hk => ?_) (h.ok good (List.mem_cons_self ..)).1 V (h2W.trans hV hmem), hl⟩
    rcases List.mem_cons.1 hk with rfl | hk
    ·omega
    ·have := hol k (Option.mem_toList.1 hk); omega
 ·have hz0 := h.ch.size
  refine (h.ch.trans hw2 (fun k hk => .inr ?_)).trans h2W (fun k hk => .inr ?_) <;>
  ·rcases List.mem_cons.1 hk with rfl | hk
   ·exact hlo
   ·exact h.lo k (Option.mem_toList.1 hk)
 ·have hz0 := h.ch.size
  rcases ho k hk with e | e
  ·exact h.lo k e
  ·omega
section
variable {w0 w : World} {X : List (Nat × List Value)} {ba bg : Nat} {good : MxV} {l : List MxV} {v : Value}
theorem put0_is (h : PW w0 X w ba good l v) (hg : (bg, good.cells) ∈ X) (hl : l.length ≤ 1000) (fid : Nat) (hfn : Fnv fid) (hf : ∀ w1 b, Mut w w1 b good → Calls Tryz.prog fid #[.pointer (some ⟨b, 0, none⟩)] w1 (MutTo w good w1 b)) :
  Calls Tryz.prog 76 #[.func (.func fid) #[] #[], .pointer (some ⟨bg, 0, none⟩), .pointer (some ⟨ba, 0, none⟩)] w fun e w' => e = .returned (.tuple #[]) ∧ ∃ l' v', l'.length = l.length + 1 ∧ PW w0 X w' ba good l' v' := by
 obtain ⟨hgk, hgne, hgo⟩ := h.kept _ hg
 have hcf : ∀ args w, (callFunc fid args).run Tryz.prog w = .ok (.enter fid args) w := hfn
 have hok := h.ok good (List.mem_cons_self ..)
 have hal := h.all.lt
 have hol := h.ownlt
 have hbN : ba ∉ v.ownBlock.toList := fun hin => h.baN (Option.mem_toList.1 hin)
 have hbN2 := h.baN
 have c0 : w.cell? ⟨bg, 0, none⟩ = some (.int .u8 good.kind) := hgk.cell (i := 0) rfl
 have c1 : w.cell? ⟨bg, 1, none⟩ = some (.int .i64 good.C) := hgk.cell (i := 1) rfl
 have c2 : w.cell? ⟨bg, 2, none⟩ = some (.slice good.x.a good.x.l.length good.x.c) := hgk.cell (i := 2) rfl
 have c3 : w.cell? ⟨bg, 3, none⟩ = some (.slice good.y.a good.y.l.length good.y.c) := hgk.cell (i := 3) rfl
 have c4 : w.cell? ⟨bg, 4, none⟩ = some (.int .u32 good.N) := hgk.cell (i := 4) rfl
 have c5 : w.cell? ⟨bg, 5, none⟩ = some (.slice good.gs.a good.gs.l.length good.gs.c) := hgk.cell (i := 5) rfl
 have c6 : w.cell? ⟨bg, 6, none⟩ = some (.slice good.la good.Ls.length good.lc) := hgk.cell (i := 6) rfl
 have c7 : w.cell? ⟨bg, 7, none⟩ = some (.slice good.ma good.Ms.length good.mc) := hgk.cell (i := 7) rfl
 have HOK := Hi9 hok; clear hok
 have HF := Hi9 hf; clear hf
 have H := Hi9 h; clear h
 have HOL := Hi9 hol; clear hol
 have HBN := Hi9 hbN; clear hbN
 have HBN2 := Hi9 hbN2; clear hbN2
 clear hgk hgne hgo hg
 go_enter Tryz.func76, Tryz.ntmps76
 go_upto_region 1 with fail
 refine wp_alw ?_
 intro W1 hW1
 have hb := alw_blk (xs := [.int .u8 good.kind, .int .i64 good.C, .slice good.x.a good.x.l.length good.x.c, .slice good.y.a good.y.l.length good.y.c, .int .u32 good.N, .slice good.gs.a good.gs.l.length good.gs.c, .slice good.la good.Ls.length good.lc, .slice good.ma good.Ms.length good.mc]) hW1
 have hc1 := alw_ch hW1
 clear hW1 c0 c1 c2 c3 c4 c5 c6 c7
 have hM : Mut w W1 w.heap.size good := ⟨hb, HOK.out.1 w (Ch.refl _ _), HOK.out.2, hc1, Nat.le_refl _⟩
 have hCL := HF.out W1 _ hM
 have HCL := Hi9 hCL; clear hCL HF hM hb HOK
 have hz1 := hc1.size
 have HC1 := Hi9 hc1; clear hc1
 go_wp2_with fail
 refine HCL.out.mono ?_
 rintro e w2 ⟨x, rfl, hbx, hrx, hlx, hc2⟩
 have c0 : w2.cell? ⟨w.heap.size, 0, none⟩ = some (.int .u8 x.kind) := hbx.cell (i := 0) rfl
 have c1 : w2.cell? ⟨w.heap.size, 1, none⟩ = some (.int .i64 x.C) := hbx.cell (i := 1) rfl
 have c2 : w2.cell? ⟨w.heap.size, 2, none⟩ = some (.slice x.x.a x.x.l.length x.x.c) := hbx.cell (i := 2) rfl
 have c3 : w2.cell? ⟨w.heap.size, 3, none⟩ = some (.slice x.y.a x.y.l.length x.y.c) := hbx.cell (i := 3) rfl
 have c4 : w2.cell? ⟨w.heap.size, 4, none⟩ = some (.int .u32 x.N) := hbx.cell (i := 4) rfl
 have c5 : w2.cell? ⟨w.heap.size, 5, none⟩ = some (.slice x.gs.a x.gs.l.length x.gs.c) := hbx.cell (i := 5) rfl
 have c6 : w2.cell? ⟨w.heap.size, 6, none⟩ = some (.slice x.la x.Ls.length x.lc) := hbx.cell (i := 6) rfl
 have c7 : w2.cell? ⟨w.heap.size, 7, none⟩ = some (.slice x.ma x.Ms.length x.mc) := hbx.cell (i := 7) rfl
 have hz2 := hc2.size
 have hall2 : blk w2 ba [v] := (H.out.all.ch HC1.out (by simp)).ch hc2 (fun hin => by have := List.mem_singleton.1 hin; omega)
 have e2 := hall2.cell (i := 0) rfl
 have hrow2 : Mem.row w2 31 8 v l.length (l.flatMap MxV.cells) := (H.out.row.ch HC1.out (by simp)).ch hc2 (fun k hk hin => by have h1 := HOL.out k hk; have h2 := List.mem_singleton.1 hin; omega)
 obtain ⟨xs, hxs⟩ : ∃ xs : List Value, [.int .u8 x.kind, .int .i64 x.C, .slice x.x.a x.x.l.length x.x.c, .slice x.y.a x.y.l.length x.y.c, .int .u32 x.N, .slice x.gs.a x.gs.l.length x.gs.c, .slice x.la x.Ls.length x.lc, .slice x.ma x.Ms.length x.mc] = xs := ⟨_, rfl⟩
 have hA : blk (w2.alloc (.cells #[.int .u8 x.kind, .int .i64 x.C, .slice x.x.a x.x.l.length x.x.c, .slice x.y.a x.y.l.length x.y.c, .int .u32 x.N, .slice x.gs.a x.gs.l.length x.gs.c, .slice x.la x.Ls.length x.lc, .slice x.ma x.Ms.length x.mc] 31)) w2.heap.size xs := by rw [← hxs]; exact blk.new' _ _ rfl
 have hrowA := hrow2.ch ((Ch.refl [] w2).alloc (.cells #[.int .u8 x.kind, .int .i64 x.C, .slice x.x.a x.x.l.length x.x.c, .slice x.y.a x.y.l.length x.y.c, .int .u32 x.N, .slice x.gs.a x.gs.l.length x.gs.c, .slice x.la x.Ls.length x.lc, .slice x.ma x.Ms.length x.mc] 31)) (by simp)
 have hlen : xs.length = 1 * 8 := by rw [← hxs]; rfl
 have hone : ∀ u ∈ xs, u.oneCell' = true := by rw [← hxs]; simp [Value.oneCell']
 have hxc : xs = x.cells := hxs.symm
 have HA := Hi9 hA; clear hA hxs
 have HRA := Hi9 hrowA; clear hrowA hrow2
 have HALL := Hi9 hall2; clear hall2
 have HLEN := Hi9 hlen; clear hlen
 have HONE := Hi9 hone; clear hone
 have HXC := Hi9 hxc; clear hxc
 have HX := Hi9 hrx; clear hrx hbx HCL
 have HLX := Hi9 hlx; clear hlx
 have HC2 := Hi9 hc2; clear hc2
 go_wp2_with (at_builtin; go_loud (refine wpList_append_row slActs26 rfl _ _ rfl (v := v) (n := l.length) (xs := l.flatMap MxV.cells) rfl HRA.out (ad := ⟨w2.heap.size, 0, none⟩) (m := 1) (c := 1) (news := xs) rfl HLEN.out (news_blk26 HA.out) HONE.out (by omega) (by omega) ?_; intro v' w4 hr4 hcA hf4; obtain ⟨va', vc', rfl⟩ := row.shape hr4; have hcA2 := ((Ch.refl [] w2).alloc (.cells #[.int .u8 x.kind, .int .i64 x.C, .slice x.x.a x.x.l.length x.x.c, .slice x.y.a x.y.l.length x.y.c, .int .u32 x.N, .slice x.gs.a x.gs.l.length x.gs.c, .slice x.la x.Ls.length x.lc, .slice x.ma x.Ms.length x.mc] 31)); have h24 : Ch v.ownBlock.toList w2 w4 := (hcA2.mono (by simp)).trans hcA (fun k hk => .inl hk); have hall4 := HALL.out.ch h24 HBN.out; have e4 := hall4.cell (i := 0) rfl; have f4 := hall4.frozen (i := 0); have hf4' : ∀ k, (Value.slice va' (l.length + 1) vc').ownBlock = some k → v.ownBlock = some k ∨ w2.heap.size ≤ k := fun k hk => (hf4 k hk).imp id (fun e => Nat.le_trans hcA2.size e); have HR4 := Hi9 hr4; clear hr4; have H24 := Hi9 h24; clear h24 hcA hcA2 hf4; have HF4 := Hi9 hf4'; clear hf4' hall4 HALL))
 refine bodyPost_alw ?_
 intro W hW
 go_end0
 rw [HXC.out] at HR4
 exact ⟨rfl, l ++ [x], _, by simp, H.out.next (by omega) HC1.out HX.out HLX.out HC2.out H24.out HF4.out HR4.out hW⟩
theorem put1_is (h : PW w0 X w ba good l v) (hg : (bg, good.cells) ∈ X) (hl : l.length ≤ 1000) (fid : Nat) (bn : Nat) (hfn : Fnv fid) (hf : ∀ w1 b, Mut w w1 b good → Calls Tryz.prog fid #[.pointer (some ⟨b, 0, none⟩), .pointer (some ⟨bn, 0, none⟩)] w1 (MutTo w good w1 b)) :
  Calls Tryz.prog 76 #[.func (.func fid) #[] #[.pointer (some ⟨bn, 0, none⟩)], .pointer (some ⟨bg, 0, none⟩), .pointer (some ⟨ba, 0, none⟩)] w fun e w' => e = .returned (.tuple #[]) ∧ ∃ l' v', l'.length = l.length + 1 ∧ PW w0 X w' ba good l' v' := by
 obtain ⟨hgk, hgne, hgo⟩ := h.kept _ hg
 have hcf : ∀ args w, (callFunc fid args).run Tryz.prog w = .ok (.enter fid args) w := hfn
 have hok := h.ok good (List.mem_cons_self ..)
 have hal := h.all.lt
 have hol := h.ownlt
 have hbN : ba ∉ v.ownBlock.toList := fun hin => h.baN (Option.mem_toList.1 hin)
 have hbN2 := h.baN
 have c0 : w.cell? ⟨bg, 0, none⟩ = some (.int .u8 good.kind) := hgk.cell (i := 0) rfl
 have c1 : w.cell? ⟨bg, 1, none⟩ = some (.int .i64 good.C) := hgk.cell (i := 1) rfl
 have c2 : w.cell? ⟨bg, 2, none⟩ = some (.slice good.x.a good.x.l.length good.x.c) := hgk.cell (i := 2) rfl
 have c3 : w.cell? ⟨bg, 3, none⟩ = some (.slice good.y.a good.y.l.length good.y.c) := hgk.cell (i := 3) rfl
 have c4 : w.cell? ⟨bg, 4, none⟩ = some (.int .u32 good.N) := hgk.cell (i := 4) rfl
 have c5 : w.cell? ⟨bg, 5, none⟩ = some (.slice good.gs.a good.gs.l.length good.gs.c) := hgk.cell (i := 5) rfl
 have c6 : w.cell? ⟨bg, 6, none⟩ = some (.slice good.la good.Ls.length good.lc) := hgk.cell (i := 6) rfl
 have c7 : w.cell? ⟨bg, 7, none⟩ = some (.slice good.ma good.Ms.length good.mc) := hgk.cell (i := 7) rfl
 have HOK := Hi9 hok; clear hok
 have HF := Hi9 hf; clear hf
 have H := Hi9 h; clear h
 have HOL := Hi9 hol; clear hol
 have HBN := Hi9 hbN; clear hbN
 have HBN2 := Hi9 hbN2; clear hbN2
 clear hgk hgne hgo hg
 go_enter Tryz.func76, Tryz.ntmps76
 go_upto_region 1 with fail
 refine wp_alw ?_
 intro W1 hW1
 have hb := alw_blk (xs := [.int .u8 good.kind, .int .i64 good.C, .slice good.x.a good.x.l.length good.x.c, .slice good.y.a good.y.l.length good.y.c, .int .u32 good.N, .slice good.gs.a good.gs.l.length good.gs.c, .slice good.la good.Ls.length good.lc, .slice good.ma good.Ms.length good.mc]) hW1
 have hc1 := alw_ch hW1
 clear hW1 c0 c1 c2 c3 c4 c5 c6 c7
 have hM : Mut w W1 w.heap.size good := ⟨hb, HOK.out.1 w (Ch.refl _ _), HOK.out.2, hc1, Nat.le_refl _⟩
 have hCL := HF.out W1 _ hM
 have HCL := Hi9 hCL; clear hCL HF hM hb HOK
 have hz1 := hc1.size
 have HC1 := Hi9 hc1; clear hc1
 go_wp2_with fail
 refine HCL.out.mono ?_
 rintro e w2 ⟨x, rfl, hbx, hrx, hlx, hc2⟩
 have c0 : w2.cell? ⟨w.heap.size, 0, none⟩ = some (.int .u8 x.kind) := hbx.cell (i := 0) rfl
 have c1 : w2.cell? ⟨w.heap.size, 1, none⟩ = some (.int .i64 x.C) := hbx.cell (i := 1) rfl
 have c2 : w2.cell? ⟨w.heap.size, 2, none⟩ = some (.slice x.x.a x.x.l.length x.x.c) := hbx.cell (i := 2) rfl
 have c3 : w2.cell? ⟨w.heap.size, 3, none⟩ = some (.slice x.y.a x.y.l.length x.y.c) := hbx.cell (i := 3) rfl
 have c4 : w2.cell? ⟨w.heap.size, 4, none⟩ = some (.int .u32 x.N) := hbx.cell (i := 4) rfl
 have c5 : w2.cell? ⟨w.heap.size, 5, none⟩ = some (.slice x.gs.a x.gs.l.length x.gs.c) := hbx.cell (i := 5) rfl
 have c6 : w2.cell? ⟨w.heap.size, 6, none⟩ = some (.slice x.la x.Ls.length x.lc) := hbx.cell (i := 6) rfl
 have c7 : w2.cell? ⟨w.heap.size, 7, none⟩ = some (.slice x.ma x.Ms.length x.mc) := hbx.cell (i := 7) rfl
 have hz2 := hc2.size
 have hall2 : blk w2 ba [v] := (H.out.all.ch HC1.out (by simp)).ch hc2 (fun hin => by have := List.mem_singleton.1 hin; omega)
 have e2 := hall2.cell (i := 0) rfl
 have hrow2 : Mem.row w2 31 8 v l.length (l.flatMap MxV.cells) := (H.out.row.ch HC1.out (by simp)).ch hc2 (fun k hk hin => by have h1 := HOL.out k hk; have h2 := List.mem_singleton.1 hin; omega)
 obtain ⟨xs, hxs⟩ : ∃ xs : List Value, [.int .u8 x.kind, .int .i64 x.C, .slice x.x.a x.x.l.length x.x.c, .slice x.y.a x.y.l.length x.y.c, .int .u32 x.N, .slice x.gs.a x.gs.l.length x.gs.c, .slice x.la x.Ls.length x.lc, .slice x.ma x.Ms.length x.mc] = xs := ⟨_, rfl⟩
 have hA : blk (w2.alloc (.cells #[.int .u8 x.kind, .int .i64 x.C, .slice x.x.a x.x.l.length x.x.c, .slice x.y.a x.y.l.length x.y.c, .int .u32 x.N, .slice x.gs.a x.gs.l.length x.gs.c, .slice x.la x.Ls.length x.lc, .slice x.ma x.Ms.length x.mc] 31)) w2.heap.size xs := by rw [← hxs]; exact blk.new' _ _ rfl
 have hrowA := hrow2.ch ((Ch.refl [] w2).alloc (.cells #[.int .u8 x.kind, .int .i64 x.C, .slice x.x.a x.x.l.length x.x.c, .slice x.y.a x.y.l.length x.y.c, .int .u32 x.N, .slice x.gs.a x.gs.l.length x.gs.c, .slice x.la x.Ls.length x.lc, .slice x.ma x.Ms.length x.mc] 31)) (by simp)
 have hlen : xs.length = 1 * 8 := by rw [← hxs]; rfl
 have hone : ∀ u ∈ xs, u.oneCell' = true := by rw [← hxs]; simp [Value.oneCell']
 have hxc : xs = x.cells := hxs.symm
 have HA := Hi9 hA; clear hA hxs
 have HRA := Hi9 hrowA; clear hrowA hrow2
 have HALL := Hi9 hall2; clear hall2
 have HLEN := Hi9 hlen; clear hlen
 have HONE := Hi9 hone; clear hone
 have HXC := Hi9 hxc; clear hxc
 have HX := Hi9 hrx; clear hrx hbx HCL
 have HLX := Hi9 hlx; clear hlx
 have HC2 := Hi9 hc2; clear hc2
 go_wp2_with (at_builtin; go_loud (refine wpList_append_row slActs26 rfl _ _ rfl (v := v) (n := l.length) (xs := l.flatMap MxV.cells) rfl HRA.out (ad := ⟨w2.heap.size, 0, none⟩) (m := 1) (c := 1) (news := xs) rfl HLEN.out (news_blk26 HA.out) HONE.out (by omega) (by omega) ?_; intro v' w4 hr4 hcA hf4; obtain ⟨va', vc', rfl⟩ := row.shape hr4; have hcA2 := ((Ch.refl [] w2).alloc (.cells #[.int .u8 x.kind, .int .i64 x.C, .slice x.x.a x.x.l.length x.x.c, .slice x.y.a x.y.l.length x.y.c, .int .u32 x.N, .slice x.gs.a x.gs.l.length x.gs.c, .slice x.la x.Ls.length x.lc, .slice x.ma x.Ms.length x.mc] 31)); have h24 : Ch v.ownBlock.toList w2 w4 := (hcA2.mono (by simp)).trans hcA (fun k hk => .inl hk); have hall4 := HALL.out.ch h24 HBN.out; have e4 := hall4.cell (i := 0) rfl; have f4 := hall4.frozen (i := 0); have hf4' : ∀ k, (Value.slice va' (l.length + 1) vc').ownBlock = some k → v.ownBlock = some k ∨ w2.heap.size ≤ k := fun k hk => (hf4 k hk).imp id (fun e => Nat.le_trans hcA2.size e); have HR4 := Hi9 hr4; clear hr4; have H24 := Hi9 h24; clear h24 hcA hcA2 hf4; have HF4 := Hi9 hf4'; clear hf4' hall4 HALL))
 refine bodyPost_alw ?_
 intro W hW
 go_end0
 rw [HXC.out] at HR4
 exact ⟨rfl, l ++ [x], _, by simp, H.out.next (by omega) HC1.out HX.out HLX.out HC2.out H24.out HF4.out HR4.out hW⟩
end
def wv (vs : List Nat) (r : Nat) : Nat := if r % 2 = 1 then vs.getD (r / 2) 0 ^^^ 65535 else vs.getD (r / 2) 0
section
variable {w0 : Base} {w : World} {g : Nat} {G : Gra} {F : List Nat} {L : List (Value × List Int)}
theorem Hold.wa (h : Hold w0 w g G F L) {b n : Nat} {Ls : List WV} (hb : (b, Ls.map WV.val) ∈ w0.K) (hL : ∀ x ∈ Ls, (x.val, x.l) ∈ L) (hn : Ls.length = n) : WA w F (some ⟨b, 0, none⟩) n Ls := by
 obtain ⟨k1, k2, k3⟩ := h.kept _ hb
 exact ⟨hn, fun _ => ⟨b, rfl, hn, fun i x hx => k1.cell (by rw [List.getElem?_map, hx]; rfl), fun x hx => by
  have := h.at (hL x hx) rfl
  exact this, k3, k1.lt⟩⟩
theorem mChoose_h (h : Hold w0 w g G F L) (c : Int) (hc : I64' c) {xa ya : Option Addr} {xl yl : List Int} {n m xc yc : Nat} (hx : (.slice xa n xc, xl) ∈ L) (hxn : xl.length = n) (hy : (.slice ya m yc, yl) ∈ L) (hym : yl.length = m) {G' : Gra} {l : List Nat} {e k : Nat} (hR : chooseG G c xl yl = (G', l, e)) (hk : l.length = k) (hb : ∀ r ∈ l, r ≤ 1000000) (hl : k ≤ 1000000) :
  Calls Tryz.prog 66 #[.pointer (some ⟨g, 0, none⟩), .int .i64 c, .slice xa n xc, .slice ya m yc] w fun en w' => ∃ a c F', en = .returned (.tuple #[.slice a k c, .int .i64 e]) ∧ Hold w0 w' g G' F' ((.slice a k c, natInts l) :: L) := by
 have hcc := mChoose_is h.own.gin c hc (h.at hx hxn) (h.at hy hym)
 simp only [WV.val, hxn, hym] at hcc
 exact Calls.word h hcc hR hk hb hl
theorem mRead_h [Nonempty Unit] (h : Hold w0 w g G F L) {la : Option Addr} {nl lc : Nat} {Ls : List WV} (hA : WA w F la nl Ls) {ya : Option Addr} {yl : List Int} {m yc : Nat} (hy : (.slice ya m yc, yl) ∈ L) (hym : yl.length = m) {G' : Gra} {l : List Nat} {e k : Nat} (hR : readG G (Ls.map WV.l) yl = (G', l, e)) (hk : l.length = k) (hb : ∀ r ∈ l, r ≤ 1000000) (hl : k ≤ 1000000) :
  Calls Tryz.prog 67 #[.pointer (some ⟨g, 0, none⟩), .slice la nl lc, .slice ya m yc] w fun en w' => ∃ a c F', en = .returned (.tuple #[.slice a k c, .int .i64 e]) ∧ Hold w0 w' g G' F' ((.slice a k c, natInts l) :: L) := by
 have hcc := mRead_is h.own.gin (lc := lc) hA (h.at hy hym) (by have := (h.held _ hy).cap; rw [hym]; exact this)
 simp only [WV.val, hym] at hcc
 exact Calls.word h hcc hR hk hb hl
theorem mPick_h (h : Hold w0 w g G F L) {la : Option Addr} {nl lc : Nat} {Ls : List WV} (hA : WA w F la nl Ls) {y : WV} (hy : WVin w F y) (hyc : y.l.length ≤ y.c) {G' : Gra} {l : List Nat} {e k : Nat} (hR : pickG G y.l (Ls.map WV.l) = (G', l, e)) (hk : l.length = k) (hb : ∀ r ∈ l, r ≤ 1000000) (hl : k ≤ 1000000) :
  Calls Tryz.prog 70 #[.pointer (some ⟨g, 0, none⟩), y.val, .slice la nl lc] w fun en w' => ∃ a c F', en = .returned (.tuple #[.slice a k c, .int .i64 e]) ∧ Hold w0 w' g G' F' ((.slice a k c, natInts l) :: L) := by
 exact Calls.word h (mPick_is h.own.gin (lc := lc) hA hy hyc) hR hk hb hl
theorem mEqual_h (h : Hold w0 w g G F L) {la lb : Option Addr} {nl ac n2 bc : Nat} {As Bs : List WV} (hA : WA w F la nl As) (hB : WA w F lb n2 Bs) (hn2 : n2 ≤ 1000000) {G' : Gra} {r e : Nat} (hR : equalG G (As.map WV.l) (Bs.map WV.l) = (G', r, e)) :
  Calls Tryz.prog 71 #[.pointer (some ⟨g, 0, none⟩), .slice la nl ac, .slice lb n2 bc] w fun en w' => ∃ F', en = .returned (.tuple #[.int .i64 r, .int .i64 e]) ∧ Hold w0 w' g G' F' L :=
 Calls.ref h (mEqual_is h.own.gin hA hB hn2) hR
theorem harr_ws {Pr : Value → List Int → Prop} : ∀ {vs : List Value} {ls : List (List Nat)}, vs.length = ls.length → (∀ (i : Nat) (u : Value), vs[i]? = some u → ∃ l, ls[i]? = some l ∧ Pr u (natInts l) ∧ ∃ ua uc, u = .slice ua l.length uc) → ∃ ws : List WV, ws.map WV.val = vs ∧ ws.map WV.l = ls.map natInts ∧ ∀ x ∈ ws, Pr x.val x.l
 | [], [], _, _ => ⟨[], rfl, rfl, by simp⟩
 | [], _ :: _, h, _ => by simp at h
 | _ :: _, [], h, _ => by simp at h
 | v :: vs, l :: ls, h, hf => by
  obtain ⟨ws, h1, h2, h3⟩ := harr_ws (vs := vs) (ls := ls) (by simpa using h) (fun i u hu => hf (i + 1) u hu)
  obtain ⟨l', e, hp, ua, uc, rfl⟩ := hf 0 v rfl
  cases e
  refine ⟨⟨ua, natInts l, uc⟩ :: ws, by rw [List.map_cons, h1]; simp [WV.val], by rw [List.map_cons, List.map_cons, h2], fun x hx => ?_⟩
  rcases List.mem_cons.1 hx with rfl | hx
  ·simpa [WV.val] using hp
  ·exact h3 x hx
theorem mWrite_h [Nonempty Unit] (h : Hold w0 w g G F L) {la : Option Addr} {nl lc : Nat} {Ls : List WV} (hA : WA w F la nl Ls) (c : Int) (hc : I64' c) {xa ya : Option Addr} {xl yl : List Int} {n m xc yc : Nat} (hy : (.slice ya m yc, yl) ∈ L) (hym : yl.length = m) (hx : (.slice xa n xc, xl) ∈ L) (hxn : xl.length = n) {G' : Gra} {ls : List (List Nat)} {e k : Nat} (hR : writeG G (Ls.map WV.l) c yl xl = (G', ls, e)) (hk : ls.length = k) (hk0 : 0 < k) (hl : ∀ l ∈ ls, l.length ≤ 1000000) :
  Calls Tryz.prog 69 #[.pointer (some ⟨g, 0, none⟩), .slice la nl lc, .int .i64 c, .slice ya m yc, .slice xa n xc] w fun en w' => ∃ (b c : Nat) (F' : List Nat) (cs : List Value) (ws : List WV), en = .returned (.tuple #[.slice (some ⟨b, 0, none⟩) k c, .int .i64 e]) ∧ Hold (w0.add b cs) w' g G' F' ((ws.map fun x => (WV.val x, WV.l x)) ++ L) ∧ (∀ (i : Nat) (x : WV), ws[i]? = some x → cs[i]? = some x.val) ∧ ws.map WV.l = ls.map natInts := by
 have hcc := mWrite_is h.own.gin (lc := lc) hA c hc (h.at hy hym) (by have := (h.held _ hy).cap; rw [hym]; exact this) (h.at hx hxn)
 simp only [WV.val, hxn, hym, hR] at hcc
 subst hk
 refine hcc.mono ?_
 rintro en w' ⟨v, rfl, F', k1, k2, k3, k4, vs, k5, k6, k7⟩
 obtain ⟨b, c, rfl⟩ := k5.parts hk0
 have hsm := k1.ok.small
 have hz := h.own.ch.size
 obtain ⟨ws, q1, q2, q3⟩ := harr_ws (vs := vs) (ls := ls) (Pr := fun u l => Held w0.w w' F' u l) (by have h9 : vs.length = ls.length * 1 := k5.1; omega) (fun i u hu => by
  obtain ⟨l, r1, r2, r3, r4⟩ := k7 i u hu
  obtain ⟨ua, uc, rfl⟩ := row.shape r3
  refine ⟨l, r1, ⟨by rw [natInts_len, ← refs_natInts]; exact r3, by rw [natInts_len]; exact hl l (List.mem_of_getElem? r1), fun r hr => ?_, fun k hk => ⟨Nat.le_trans hz (r4 k hk).1, (r4 k hk).2.1⟩⟩, ua, uc, rfl⟩
  obtain ⟨z, hzz, rfl⟩ := List.mem_map.1 hr
  have := r2 z hzz
  omega)
 have k5' := k5
 rcases k5'.2 with ⟨e, _⟩ | ⟨b', cap, cur, e, _, hb, _, _, _, ht⟩
 ·cases e
 ·cases e
  have hown := k6 b rfl
  have hH : Hold w0 w' g G' F' ((ws.map fun x => (WV.val x, WV.l x)) ++ L) := ⟨⟨k1, fun k hk => (k3 k hk).elim (h.own.own k) (fun e => Nat.le_trans hz e), h.own.ch.trans k2 (fun k hk => .inr (h.own.own k hk))⟩, fun p hp => by
   rcases List.mem_append.1 hp with hp | hp
   ·obtain ⟨x, hx, rfl⟩ := List.mem_map.1 hp
    exact q3 x hx
   ·exact (h.held p hp).keep k2 k3, h.keptTo k2 k3⟩
  refine ⟨b, c, F', cur.toList, ws, rfl, hH.keepB (b := b) (xs := cur.toList) ?_ (Nat.le_trans hz hown.1) hown.2, fun i x hx => ?_, q2⟩
  ·exact ⟨_, by rw [Array.toArray_toList]; exact hb⟩
  ·have h1 : vs[i]? = some x.val := by rw [← q1, List.getElem?_map, hx]; rfl
   rw [← ht] at h1
   have h2 := (List.getElem?_eq_some_iff.1 h1).1
   rw [List.length_take] at h2
   rw [List.getElem?_take_of_lt (by omega)] at h1
   exact h1
end
structure AR (w : World) (a : Option Addr) (L : List WV) : Prop where
 cells : ∀ (i : Nat) (x : WV), L[i]? = some x → ∃ b, a = some ⟨b, 0, none⟩ ∧ w.cell? ⟨b, i, none⟩ = some x.val ∧ WVok w x
theorem Hold.ar {w0 : Base} {w : World} {g : Nat} {G : Gra} {F : List Nat} {L : List (Value × List Int)} (h : Hold w0 w g G F L) {b : Nat} {cs : List Value} {ws : List WV} (hb : (b, cs) ∈ w0.K) (hc : ∀ (i : Nat) (x : WV), ws[i]? = some x → cs[i]? = some x.val) (hL : ∀ x ∈ ws, (x.val, x.l) ∈ L) : AR w (some ⟨b, 0, none⟩) ws :=
 ⟨fun i x hx => ⟨b, rfl, (h.kept _ hb).1.cell (hc i x hx), (h.at (hL x (List.mem_of_getElem? hx)) rfl).ok⟩⟩
theorem AR.ch {w w' : World} {a : Option Addr} {L : List WV} (h : AR w a L) (hc : Ch [] w w') : AR w' a L :=
 ⟨fun i x hx => by
  obtain ⟨b, e, h1, h2⟩ := h.cells i x hx
  exact ⟨b, e, (hc.cell (cell_lt h1) (by simp)).trans h1, h2.ch hc (by simp)⟩⟩
theorem fnvEqref : Fnv 56 := fnv_of Tryz.func56 (by simp [Tryz.f56]) (by simp [Tryz.f56])
theorem EFlst_yes {w : World} {a b : Option Addr} {As Bs : List WV} (n ca cb : Nat) (hn : n ≤ 1000000) (hA : AR w a As) (hB : AR w b Bs) (ha : As.length = n) (hb : Bs.length = n) (heq : ∀ (i : Nat) (x y : WV), As[i]? = some x → Bs[i]? = some y → x.l = y.l) :
  Calls Tryz.prog 72 #[.slice a n ca, .slice b n cb, .func (.func 56) #[] #[]] w fun e w' => e = .returned (.bool true) ∧ Ch [] w w' := by
 have hcf : ∀ args w, (callFunc 56 args).run Tryz.prog w = .ok (.enter 56 args) w := fnvEqref
 have HA := Hi9 hA; clear hA
 have HB := Hi9 hB; clear hB
 have HEQ := Hi9 heq; clear heq
 go_enter Tryz.func72, Tryz.ntmps72
 go_wp2_with fail
 go_loopw [17] (fun i wr => ∃ k : Nat, k ≤ n ∧ i = .int .i64 k ∧ Ch [] w wr) (fun i _ => n - (intOf i).toNat)
 case atStart => exact ⟨0, Nat.zero_le _, rfl, Ch.refl _ _⟩
 case round =>
  obtain ⟨k, hk, rfl, hc⟩ := hrel
  by_cases hlt : k < n
  ·obtain ⟨x, hx⟩ : ∃ x, As[k]? = some x := ⟨_, List.getElem?_eq_getElem (by omega)⟩
   obtain ⟨y, hy⟩ : ∃ y, Bs[k]? = some y := ⟨_, List.getElem?_eq_getElem (by omega)⟩
   have he := HEQ.out k x y hx hy
   obtain ⟨ab, rfl, c0, hxo⟩ := (HA.out.ch hc).cells k x hx
   obtain ⟨bb, rfl, c1, hyo⟩ := (HB.out.ch hc).cells k y hy
   have hE := Eqref_is (w := wr) x.c y.c hxo.sl hyo.sl
   rw [decide_eq_true he] at hE
   unfold WV.val at c0 c1
   obtain ⟨xa, xl, xc⟩ := x
   obtain ⟨ya, yl, yc⟩ := y
   simp only at c0 c1 hE
   have HE := Hi9 hE; clear hE
   have HC := Hi9 hc; clear hc
   clear hx hy he hxo hyo
   go_wp2_with fail
   refine HE.out.mono ?_
   rintro e w1 ⟨rfl, hc1⟩
   have HC1 := Hi9 hc1; clear hc1 HE
   go_wp2_with fail
   go_roundw
   case rel => exact ⟨k + 1, by omega, by go_num, HC.out.trans HC1.out (by simp)⟩
   case measure => simp [intOf]; omega
  ·have HC := Hi9 hc; clear hc
   go_wp2_with fail
   go_ret
   exact ⟨rfl, HC.out⟩
section
variable {w : World} {g : Nat} {F : List Nat}
end
def BG (w w' : World) (g N W V : Nat) (F : List Nat) (ab : Nat) (cs : List Value) (ws : List WV) (wa ia : Option Addr) (wc ic : Nat) : Prop :=
 Hold ((w : Base).add ab cs) w' g (gIn 8000 (N * W + W + V + 1)) F ((ws.map fun x => (WV.val x, WV.l x)) ++ [(.slice wa W wc, natInts (rIn (N * W) W)), (.slice ia V ic, natInts (rIn (N * W + W) V))]) ∧
  (∀ (i : Nat) (x : WV), ws[i]? = some x → cs[i]? = some x.val) ∧ ws.map WV.l = (List.range N).map fun i => natInts (rIn (i * W) W)
attribute [local go_sem] Oper.semAt_some
section
end
end Go.Proofs.YtehljgigebhddaaGreat
namespace Go.Aig
end Go.Aig
namespace Go.Proofs.YtehljgigebhddaaGreat
open Go.RowKit Go.Mem Go.Aig
theorem eqSliceNil_CLlst (w : World) (a : Option Addr) (n c : Nat) : (binOp .eql 56 (.slice a n c) (.slice none 0 0)).run Tryz.prog w = .ok (.bool a.isNone) w := by
 have h : Tryz.prog.underlying 56 = some (.slice 45) := Tryz.underlying56
 simp only [binOp]
 simp [run_equal_slice_nil w _ _ a n c h]
section
attribute [local go_sem] eqSliceNil_CLlst
variable {w : World}
end
theorem eqSliceNil_CLw32 (w : World) (a : Option Addr) (n c : Nat) : (binOp .eql 88 (.slice a n c) (.slice none 0 0)).run Tryz.prog w = .ok (.bool a.isNone) w := by
 have h : Tryz.prog.underlying 88 = some (.slice 28) := Tryz.underlying88
 simp only [binOp]
 simp [run_equal_slice_nil w _ _ a n c h]
section
attribute [local go_sem] eqSliceNil_CLw32
variable {w : World}
end
section
variable {w : World}
end
end Go.Proofs.YtehljgigebhddaaGreat
namespace Go.Mem
open Go.RowKit
def blkT (w : World) (b : Nat) (T : TypeId) (xs : List Value) : Prop := w.heap[b]? = some (.cells xs.toArray T (0, 0))
theorem blkT.blk {w : World} {b : Nat} {T : TypeId} {xs : List Value} (h : blkT w b T xs) : Mem.blk w b xs := ⟨T, h⟩
theorem blkT.ch {F : List Nat} {a w : World} {b : Nat} {T : TypeId} {xs : List Value} (h : blkT a b T xs) (hc : Ch F a w) (hn : b ∉ F) : blkT w b T xs := (hc.block b h.blk.lt hn).trans h
theorem blkT.new (w : World) (xs : List Value) (T : TypeId) : blkT (w.alloc (.cells xs.toArray T)) w.heap.size T xs := heap_alloc_new w _
theorem blkT.copy {P : Program} {w : World} {b : Nat} {T : TypeId} {xs : List Value} (h : blkT w b T xs) (dT sT ty elem : TypeId) (o dLen dCap : Nat) (a : Addr) (sLen sCap : Nat) (cs : List Value)
  (hu : P.underlying dT = some (.slice elem)) (hs : (P.info? elem).map (·.size) = some 1) (hn : cs.length = Nat.min sLen dLen) (hsrc : ∀ j v, cs[j]? = some v → w.cell? (a.add j) = some v) (hfit : o + cs.length ≤ xs.length) (h1 : ∀ v ∈ cs, v.oneCell' = true) :
  ∃ w', (Builtin.copy_ #[dT, sT] ty #[.slice (some ⟨b, o, none⟩) dLen dCap, .slice (some a) sLen sCap]).run P w = .ok (goInt cs.length) w' ∧ blkT w' b T (xs.take o ++ cs ++ xs.drop (o + cs.length)) ∧ Ch [b] w w' := by
 have hr := run_copy_row P w dT sT ty elem b o dLen dCap a sLen sCap xs.toArray T cs hu hs h hn hsrc (by simpa using hfit) h1
 refine ⟨_, hr, ?_, ⟨rfl, rfl, rfl, by simp [World.setRow], fun k hk hn => ?_⟩⟩
 ·exact setRow_heap w b xs.toArray _ T _ h
 ·simp only [World.setRow, Array.getElem?_modify]
  rw [if_neg (fun e => hn (by simp [e]))]
end Go.Mem
namespace Go.Proofs.YtehljgigebhddaaGreat
open Go.RowKit Go.Mem Go.Aig
section
variable {w : World}
end
end Go.Proofs.YtehljgigebhddaaGreat
namespace Go.Mem
open Go.RowKit
def alt {α : Type} (u v : α) (k : Nat) : List α := (List.range k).map fun i => if i % 2 = 0 then u else v
theorem alt_len {α : Type} (u v : α) (k : Nat) : (alt u v k).length = k := by simp [alt]
theorem alt_get {α : Type} (u v : α) {k i : Nat} (h : i < k) : (alt u v k)[i]? = some (if i % 2 = 0 then u else v) := by
 unfold alt
 rw [List.getElem?_map, List.getElem?_range h]
 rfl
theorem alt_app {α : Type} (u v : α) {k : Nat} (m : Nat) (h : k % 2 = 0) : alt u v k ++ alt u v m = alt u v (k + m) := by
 unfold alt
 rw [List.range_add, List.map_append, List.map_map]
 congr 1
 apply List.map_congr_left
 intro i _
 show (if i % 2 = 0 then u else v) = if (k + i) % 2 = 0 then u else v
 rw [show (k + i) % 2 = i % 2 by omega]
theorem alt_mem {α : Type} {u v x : α} {k : Nat} (h : x ∈ alt u v k) : x = u ∨ x = v := by
 unfold alt at h
 obtain ⟨i, _, rfl⟩ := List.mem_map.1 h
 split <;> simp
theorem alt_fill {α : Type} (u v z : α) (n k m : Nat) (h : k % 2 = 0) : (alt u v k ++ List.replicate (n - k) z).take k ++ alt u v m ++ (alt u v k ++ List.replicate (n - k) z).drop (k + m) = alt u v (k + m) ++ List.replicate (n - (k + m)) z := by
 rw [List.take_append_of_le_length (by rw [alt_len]; omega), List.take_of_length_le (by rw [alt_len]; omega), alt_app u v m h, List.drop_append, List.drop_of_length_le (by rw [alt_len]; omega), List.nil_append, alt_len, List.drop_replicate, show n - k - (k + m - k) = n - (k + m) by omega]
end Go.Mem
namespace Go.Proofs.YtehljgigebhddaaGreat
open Go.RowKit Go.Mem Go.Aig
theorem intss_under : Tryz.prog.underlying 29 = some (.slice 26) := Tryz.underlying29
theorem intss_size : (Tryz.prog.info? 26).map (·.size) = some 1 := by kernel_rfl
theorem run_make_intss (w : World) (n : Nat) (hn : n ≤ 65536) : (Instr.makeSlice 29 (.int .i64 n) (.int .i64 n)).run Tryz.prog w = .ok (.slice (some ⟨w.heap.size, 0, none⟩) n n) (w.alloc (.cells (List.replicate n (.slice none 0 0)).toArray 26)) := by
 obtain ⟨i, hi, hz, hs, hb⟩ := info_parts infoInts9
 have := run_make (P := Tryz.prog) w 29 26 i (.slice none 0 0) Tryz.underlying29 hi hz .i64 .i64 n n (by omega) (by omega) (by rw [hb]; omega) (by omega)
 rw [this, hs]
 have e : madeCells (Value.slice none 0 0).cells ((n : Int).toNat * 1) = (List.replicate n (.slice none 0 0)).toArray := by
  apply Array.ext'
  have h := toList_madeCells_one (Value.slice none 0 0) ((n : Int).toNat * 1)
  simpa [Value.cells] using h
 rw [e]; simp
section
variable {w : World}
theorem Mul64_two : Calls Tryz.prog 288 #[.int .u64 2, .int .u64 129] w fun e w' => e = .returned (.tuple #[.int .u64 0, .int .u64 258]) ∧ w = w' := by
 have e1 : bits .and .u64 (129 : Int) 4294967295 = 129 := by kernel_rfl
 have e2 : bits .and .u64 (2 : Int) 4294967295 = 2 := by kernel_rfl
 have e3 : bits .and .u64 (0 : Int) 4294967295 = 0 := by kernel_rfl
 go_enter Tryz.func288, Tryz.ntmps288
 go_wp2_with fail
 go_ret2
 exact ⟨rfl, rfl⟩
theorem BMul_two : Calls Tryz.prog 205 #[.int .u64 2, .int .u64 129] w fun e w' => e = .returned (.tuple #[.int .u64 0, .int .u64 258]) ∧ w = w' := by
 go_enter Tryz.func205, Tryz.ntmps205
 go_wp2_with fail
 refine Mul64_two.mono ?_
 rintro e w' ⟨rfl, rfl⟩
 go_wp2_with fail
 go_ret2
 exact ⟨rfl, rfl⟩
theorem Repints_is {b o c : Nat} {u v : Value} (h0 : w.cell? ⟨b, o, none⟩ = some u) (h1 : w.cell? ⟨b, o + 1, none⟩ = some v) (hu1 : u.oneCell' = true) (hv1 : v.oneCell' = true) :
  Calls Tryz.prog 91 #[.slice (some ⟨b, o, none⟩) 2 c, .int .i64 129] w fun e w' => e = .returned (.slice (some ⟨w.heap.size, 0, none⟩) 258 258) ∧ blkT w' w.heap.size 26 (alt u v 258) ∧ Ch [] w w' := by
 obtain ⟨zs, hzs⟩ : ∃ zs : List Value, zs = List.replicate 258 (.slice none 0 0) := ⟨_, rfl⟩
 have hmk : (Instr.makeSlice 29 (.int .i64 258) (.int .i64 258)).run Tryz.prog w = .ok (.slice (some ⟨w.heap.size, 0, none⟩) 258 258) (w.alloc (.cells zs.toArray 26)) := by rw [hzs]; exact run_make_intss w 258 (by omega)
 have HZS := Hi9 hzs; clear hzs
 have hbl := cell_lt h0
 have hone : ∀ m, ∀ z ∈ alt u v m, z.oneCell' = true := fun m z hz => by rcases alt_mem hz with rfl | rfl <;> assumption
 have HONE := Hi9 hone; clear hone hu1 hv1
 have H0 := Hi9 h0; clear h0
 have H1 := Hi9 h1; clear h1
 go_enter Tryz.func91, Tryz.ntmps91
 go_wp2_with fail
 refine BMul_two.mono ?_
 rintro e w' ⟨rfl, rfl⟩
 go_upto_region 7 with fail
 refine wp_named fun W1 hW1 => ?_
 have hb1 : blkT W1 w.heap.size 26 zs := by
  rw [hW1]
  exact blkT.new w zs 26
 have hc1 : Ch [] w W1 := by rw [hW1]; exact (Ch.refl _ _).alloc _
 clear hW1 hmk
 have hcp := fun ty => hb1.copy (P := Tryz.prog) 29 29 ty 26 0 258 258 ⟨b, o, none⟩ 2 c (alt u v 2) intss_under intss_size (by rw [alt_len]; rfl) (fun j x hx => by
  have hj : j < 2 := by have := (List.getElem?_eq_some_iff.1 hx).1; rwa [alt_len] at this
  rw [alt_get _ _ hj] at hx
  rw [Addr.add_lit]
  rcases (by omega : j = 0 ∨ j = 1) with rfl | rfl
  ·cases hx; exact (hc1.cell (p := ⟨b, o, none⟩) hbl (by simp)).trans H0.out
  ·cases hx; exact (hc1.cell (p := ⟨b, o + 1, none⟩) hbl (by simp)).trans H1.out) (by rw [alt_len, HZS.out, List.length_replicate]; omega) (HONE.out 2)
 have hB0 : w.heap.size < W1.heap.size := hb1.blk.lt
 obtain ⟨W2, hr2, hb2, hc2⟩ := hcp 3
 rw [alt_len] at hr2 hb2
 have HC1 := Hi9 hc1; clear hc1 hb1 hcp
 go_wp2_with fail
 have hb3 : blkT W2 w.heap.size 26 (alt u v 2 ++ List.replicate (258 - 2) (.slice none 0 0)) := by
  have e : zs.take 0 ++ alt u v 2 ++ zs.drop (0 + 2) = alt u v 2 ++ List.replicate (258 - 2) (.slice none 0 0) := by
   rw [HZS.out, List.take_zero, List.nil_append, List.drop_replicate]
  rw [← e]; exact hb2
 have hc3 : Ch [] w W2 := HC1.out.trans hc2 (by simp)
 have HB3 := Hi9 hb3; clear hb3 hb2
 have HC3 := Hi9 hc3; clear hc3 hc2 HC1 hr2
 go_loopw [8] (fun i wr => ∃ k : Nat, k ≤ 258 ∧ 2 ≤ k ∧ k % 2 = 0 ∧ i = .int .i64 k ∧ blkT wr w.heap.size 26 (alt u v k ++ List.replicate (258 - k) (.slice none 0 0)) ∧ Ch [] w wr) (fun i _ => 258 - (intOf i).toNat)
 case atStart => exact ⟨2, by omega, by omega, rfl, rfl, HB3.out, HC3.out⟩
 case round =>
  clear HB3 HC3
  obtain ⟨k, hk, hk2, hke, rfl, hbk, hc⟩ := hrel
  by_cases hlt : k < 258
  ·obtain ⟨m, hm⟩ : ∃ m, m = min k (258 - k) := ⟨_, rfl⟩
   have hlb := hbk.blk.lt
   have hcp := fun (WZ : World) (hz : blkT WZ w.heap.size 26 (alt u v k ++ List.replicate (258 - k) (.slice none 0 0))) ty => hz.copy (P := Tryz.prog) 29 29 ty 26 k (258 - k) (258 - k) ⟨w.heap.size, 0, none⟩ k 258 (alt u v m) intss_under intss_size (by rw [alt_len, hm]; try rfl) (fun j x hx => by
    have hj : j < m := by have := (List.getElem?_eq_some_iff.1 hx).1; rwa [alt_len] at this
    rw [alt_get _ _ hj] at hx
    rw [Addr.add_lit, Nat.zero_add]
    refine hz.blk.cell ?_
    rw [List.getElem?_append_left (by rw [alt_len]; omega), alt_get _ _ (by omega)]
    exact hx) (by simp only [alt_len, List.length_append, List.length_replicate]; omega) (HONE.out m)
   have hf := alt_fill u v (.slice none 0 0) 258 k m hke
   simp only [alt_len, hf] at hcp
   have HCP := Hi9 hcp; clear hcp hf
   have HBK := Hi9 hbk; clear hbk
   have HC := Hi9 hc; clear hc
   have hm1 : 1 ≤ m := by omega
   have hm2 : k + m ≤ 258 := by omega
   have hm3 : (k + m) % 2 = 0 := by omega
   clear hm
   go_wp2_with fail
   refine Ord.St.door (fun _ => True) [.fl, .fl, .fl, .fl, .fl, .fl, .fl, .ef, .fl, .fl] [0, 0, 0, 6, 0, 0, 48, 126, 255, 511] [0, 1, 2, 3, 4, 5, 6, 7, 8, 9] mixed (by kernel_rfl) rfl ?_
   obtain ⟨Wc, hWc⟩ : ∃ Wc, Wc = wr.drew := ⟨_, rfl⟩
   rw [← hWc]
   have hcc : Ch [] wr Wc := by rw [hWc]; exact (Ch.refl _ _).drew
   have HBC := Hi9 (HBK.out.ch hcc (by simp))
   have HCC := Hi9 (HC.out.trans hcc (by simp))
   clear hWc hcc
   iterate 7 (refine Ord.F9 ?_ (fun K w' hk => ?_) ?_; rotate_left; focus (go_step; exact hk))
   refine Ord.St.ef 7 [8, 9] _ rfl (by kernel_rfl) (fun K hK => ?_)
   obtain ⟨W2, hr2, hb2, hc2⟩ := HCP.out Wc HBC.out 3
   go_wp2_with fail
   have HB2 := Hi9 hb2; clear hb2
   have HC2 := Hi9 hc2; clear hc2 hr2
   refine ⟨rfl, hK _ _ ?_⟩; clear hK K
   iterate 2 (refine Ord.F9 ?_ (fun K w' hk => ?_) ?_; rotate_left; focus (go_step; exact hk))
   refine Ord.St.nil ?_
   go_wp2_with fail
   go_roundw
   case rel => exact ⟨k + m, by omega, by omega, hm3, by go_num, HB2.out, HCC.out.trans HC2.out (by simp)⟩
   case measure => simp [intOf]; omega
  ·have hkn : k = 258 := by omega
   subst hkn
   have HBK := Hi9 hbk; clear hbk
   have HC := Hi9 hc; clear hc
   go_wp2_with fail
   go_ret
   refine ⟨rfl, ?_, HC.out⟩
   have := HBK.out
   rwa [Nat.sub_self, List.replicate_zero, List.append_nil] at this
end
theorem wv_one (x : WV) : x.val.oneCell' = true := rfl
section
variable {w0 w : World} {b : Nat} {v : MxV}
theorem ir_alt {W : World} {la : Option Addr} {p q : WV} {r : Nat} (h : IR W la [p, q]) (hb : blk W r (alt p.val q.val 258)) : IR W (some ⟨r, 0, none⟩) (alt p q 258) := fun i x hx => by
 have hi : i < 258 := by have := (List.getElem?_eq_some_iff.1 hx).1; rwa [alt_len] at this
 rw [alt_get _ _ hi] at hx
 have hcell : W.cell? ⟨r, 0 + i, none⟩ = some (if i % 2 = 0 then p.val else q.val) := by
  rw [Nat.zero_add]
  exact hb.cell (alt_get _ _ hi)
 refine ⟨r, 0, rfl, ?_, ?_⟩
 ·rw [hcell]
  by_cases hp : i % 2 = 0
  ·rw [if_pos hp] at hx ⊢; cases hx; rfl
  ·rw [if_neg hp] at hx ⊢; cases hx; rfl
 ·by_cases hp : i % 2 = 0
  ·rw [if_pos hp] at hx
   cases hx
   obtain ⟨_, _, _, _, h2⟩ := h 0 p rfl
   exact h2
  ·rw [if_neg hp] at hx
   cases hx
   obtain ⟨_, _, _, _, h2⟩ := h 1 q rfl
   exact h2
theorem mut_LMG {W : World} {r1 r2 r3 : Nat} {l : List Int} {p q : WV} (hlo : w0.heap.size ≤ b) (hc0 : Ch [b] w0 W) (hl : Lt26 v) (hLs : v.Ls = [p, q]) (h1 : blk W r1 (alt p.val q.val 258)) (h2 : blk W r2 (alt p.val q.val 258)) (h3 : blk W r3 (intCells l)) (g1 : w.heap.size ≤ r1) (g2 : w.heap.size ≤ r2) (g3 : w.heap.size ≤ r3) (hll : l = List.replicate 257 0)
  (hbl : ∀ x ∈ v.Ls, ∀ r ∈ x.l, -9223372036854775808 ≤ r ∧ r ≤ 9223372036854775807) (hb : blk W b (((v.cells.set 6 (.slice (some ⟨r1, 0, none⟩) 258 258)).set 7 (.slice (some ⟨r2, 0, none⟩) 258 258)).set 5 (.slice (some ⟨r3, 0, none⟩) 257 257))) (hc : Ch [b] w W) : MutTo w0 v w b (.returned (.tuple #[])) W := by
 have hlen : l.length = 257 := by rw [hll, List.length_replicate]
 have hpq : ∀ x ∈ alt p q 258, x ∈ v.Ls := fun x hx => by
  rw [hLs]
  rcases alt_mem hx with rfl | rfl <;> simp
 refine ⟨{ v with la := some ⟨r1, 0, none⟩, Ls := alt p q 258, lc := 258, ma := some ⟨r2, 0, none⟩, Ms := alt p q 258, mc := 258, gs := ⟨some ⟨r3, 0, none⟩, l, 257⟩ }, rfl, ?_, fun F hFl hFr W2 hW2 => ?_, { hl with ln := ?_, mn := ?_, gn := ?_, lw := fun x hx => hl.lw x (hpq x hx), mw := fun x hx => hl.lw x (hpq x hx) }, hc⟩
 ·rw [show (MxV.cells { v with la := some ⟨r1, 0, none⟩, Ls := alt p q 258, lc := 258, ma := some ⟨r2, 0, none⟩, Ms := alt p q 258, mc := 258, gs := ⟨some ⟨r3, 0, none⟩, l, 257⟩ }) = ((v.cells.set 6 (.slice (some ⟨r1, 0, none⟩) 258 258)).set 7 (.slice (some ⟨r2, 0, none⟩) 258 258)).set 5 (.slice (some ⟨r3, 0, none⟩) 257 257) from by simp [MxV.cells, WV.val, alt_len, hlen]]
  exact hb
 ·have hr := hFr W2 ((hc0.mono (fun k hk => .inr (by simp at hk; omega))).trans hW2 (fun k hk => .inl hk))
  have n1 : r1 ∉ F := fun hin => by have := hFl _ hin; omega
  have n2 : r2 ∉ F := fun hin => by have := hFl _ hin; omega
  have n3 : r3 ∉ F := fun hin => by have := hFl _ hin; omega
  have hls := hr.ls
  rw [hLs] at hls
  exact { hr with
   ls := ir_alt hls (h1.ch hW2 n1)
   ms := ir_alt hls (h2.ch hW2 n2)
   gs := Sl.blk9 (h3.ch hW2 n3) (by show l.length ≤ 1000000; omega)
   bg := fun r hr => by
    rw [show ({ v with la := some ⟨r1, 0, none⟩, Ls := alt p q 258, lc := 258, ma := some ⟨r2, 0, none⟩, Ms := alt p q 258, mc := 258, gs := ⟨some ⟨r3, 0, none⟩, l, 257⟩ } : MxV).gs.l = List.replicate 257 0 from hll] at hr
    rw [(List.mem_replicate.1 hr).2]
    exact ⟨by omega, by omega⟩
   bl := fun x hx => hbl x (hpq x hx)
   bm := fun x hx => hbl x (hpq x hx)
   nl := by show (alt p q 258).length ≤ _; rw [alt_len]; omega
   nm := by show (alt p q 258).length ≤ _; rw [alt_len]; omega }
 ·show l.length ≤ 260; omega
 ·show (alt p q 258).length ≤ 260; rw [alt_len]; omega
 ·show (alt p q 258).length ≤ 260; rw [alt_len]; omega
theorem fnvwr26_15 : Fnv 90 := fnv_of Tryz.func90 (by simp [Tryz.f90]) (by simp [Tryz.f90])
theorem wr26_15 (h : Mut w0 w b v) {bt : Nat} {p q : WV} (hLs : v.Ls = [p, q]) (ht : blk w bt [.slice v.la 2 v.lc]) (hbt : bt ≠ b) : Calls Tryz.prog 90 #[.pointer (some ⟨b, 0, none⟩), .pointer (some ⟨bt, 0, none⟩)] w (MutTo w0 v w b) := by
 have hlt := h.k.lt
 have hz := h.c.size
 have hlo := h.lo
 have hbl := h.r.bl
 obtain ⟨l, hl9⟩ : ∃ l : List Int, l = List.replicate 257 0 := ⟨_, rfl⟩
 have hmk := fun W => make_ints9 W 257 (by omega) 257 rfl l hl9
 have hrep : ∀ W, Ch [b] w W → Calls Tryz.prog 91 #[.slice v.la 2 v.lc, .int .i64 129] W fun e w' => ∃ r, e = .returned (.slice (some ⟨r, 0, none⟩) 258 258) ∧ blk w' r (alt p.val q.val 258) ∧ W.heap.size ≤ r ∧ Ch [] W w' := fun W hW => by
  have hir := h.r.ls
  rw [hLs] at hir
  obtain ⟨rb, ro, e1, k1, _⟩ := hir 0 p rfl
  obtain ⟨rb', ro', e2, k2, _⟩ := hir 1 q rfl
  rw [e1] at e2
  cases e2
  have hlb := cell_lt k1
  have hcw : Ch [b] w0 W := (h.c.mono (by simp)).trans hW (fun k hk => .inl hk)
  have nb : rb ∉ [b] := fun hin => by have := List.mem_singleton.1 hin; simp only at hlb; omega
  rw [e1]
  refine (Repints_is (c := v.lc) ((hcw.cell (cell_lt k1) nb).trans k1) ((hcw.cell (cell_lt k2) nb).trans k2) (wv_one p) (wv_one q)).mono ?_
  rintro e w' ⟨rfl, hb, hc⟩
  exact ⟨W.heap.size, rfl, hb.blk, Nat.le_refl _, hc⟩
 have hnb : bt ∉ [b] := fun hin => hbt (List.mem_singleton.1 hin)
 have HNB := Hi9 hnb; clear hnb hbt
 have HREP := Hi9 hrep; clear hrep
 have HLL := Hi9 hl9; clear hl9
 have HLS := Hi9 hLs; clear hLs
 have HT := Hi9 ht; clear ht
 have HBL := Hi9 hbl; clear hbl
 have H := Hi9 h; clear h
 go_enter Tryz.func90, Tryz.ntmps90
 go_upto_region 0 with fail
 refine Ord.St.door (fun w' => Ch [b] w w') [.fl, .fl, .fl, .ho, .ef, .ho, .ef, .ef, .fl, .fl, .ef, .fl, .fl, .ef, .fl, .fl, .ef] [0, 0, 0, 0, 8, 0, 56, 0, 121, 377, 889, 1915, 3963, 8059, 16383, 32767, 65535] [0, 1, 2, 3, 4, 5, 6, 7, 8, 9, 10, 11, 12, 13, 14, 15, 16] mixed (by kernel_rfl) rfl ?_
 obtain ⟨Wd, hWd⟩ : ∃ Wd, Wd = w.drew := ⟨_, rfl⟩
 rw [← hWd]
 have hcur : Ch [b] w Wd := by rw [hWd]; exact (Ch.refl _ _).drew
 have hkb : blk Wd b v.cells := by rw [hWd]; exact H.out.k.ch (Ch.refl [] _).drew (by simp)
 clear hWd
 iterate 3 (refine Ord.F9 ?_ (fun K w' hk => ?_) ?_; rotate_left; focus (go_step; exact hk))
 refine Ord.H9 ?_ 3 [4, 5, 6, 7, 8, 9, 10, 11, 12, 13, 14, 15, 16] ?_ (fun K w' hw' hk => ?_) ?_
 rotate_left
 ·first | exact hcur | exact hcur.alloc _ | exact hcur.setCell (.inl (List.mem_singleton.2 rfl)) _
 ·have q1 := (HT.out.ch hw' HNB.out).cell (i := 0) rfl; go_step; exact hk
 refine Ord.H9 ?_ 5 [4, 6, 7, 8, 9, 10, 11, 12, 13, 14, 15, 16] ?_ (fun K w' hw' hk => ?_) ?_
 rotate_left
 ·first | exact hcur | exact hcur.alloc _ | exact hcur.setCell (.inl (List.mem_singleton.2 rfl)) _
 ·have q1 := (HT.out.ch hw' HNB.out).cell (i := 0) rfl; go_step; exact hk
 refine Ord.St.two 4 7 [6, 7, 8, 9, 10, 11, 12, 13, 14, 15, 16] [4, 6, 8, 9, 10, 11, 12, 13, 14, 15, 16] _ _ (by kernel_rfl) rfl rfl (by kernel_rfl) (by kernel_rfl) (fun K hK => ?_) (fun K hK => ?_)
 ·go_wp2_with fail
  refine (HREP.out _ hcur).mono ?_
  rintro e W4 ⟨r1, rfl, hb1, hr1, hc4⟩
  have hlo1 := hcur.size
  replace hkb := hkb.ch hc4 (by simp)
  try replace hb3 := hb3.ch hc4 (by simp)
  replace hcur := hcur.trans hc4 (by simp)
  clear hc4
  go_wp2_with fail
  refine ⟨rfl, hK _ _ ?_ ?_⟩
  ·first | exact hcur | exact hcur.alloc _ | exact hcur.setCell (.inl (List.mem_singleton.2 rfl)) _
  clear hK K
  refine Ord.St.two 6 7 [7, 8, 9, 10, 11, 12, 13, 14, 15, 16] [6, 8, 9, 10, 11, 12, 13, 14, 15, 16] _ _ (by kernel_rfl) rfl rfl (by kernel_rfl) (by kernel_rfl) (fun K hK => ?_) (fun K hK => ?_)
  ·go_wp2_with fail
   refine (HREP.out _ hcur).mono ?_
   rintro e W6 ⟨r2, rfl, hb2, hr2, hc6⟩
   have hlo2 := hcur.size
   replace hkb := hkb.ch hc6 (by simp)
   replace hb1 := hb1.ch hc6 (by simp)
   try replace hb3 := hb3.ch hc6 (by simp)
   replace hcur := hcur.trans hc6 (by simp)
   clear hc6
   go_wp2_with fail
   refine ⟨rfl, hK _ _ ?_ ?_⟩
   ·first | exact hcur | exact hcur.alloc _ | exact hcur.setCell (.inl (List.mem_singleton.2 rfl)) _
   clear hK K
   refine Ord.G9 ?_ 8 [7, 9, 10, 11, 12, 13, 14, 15, 16] (fun K w' hk => ?_) ?_
   rotate_left
   ·go_step; exact hk
   refine Ord.G9 ?_ 9 [7, 10, 11, 12, 13, 14, 15, 16] (fun K w' hk => ?_) ?_
   rotate_left
   ·go_step; exact hk
   refine Ord.St.two 7 10 [10, 11, 12, 13, 14, 15, 16] [7, 11, 12, 13, 14, 15, 16] _ _ (by kernel_rfl) rfl rfl (by kernel_rfl) (by kernel_rfl) (fun K hK => ?_) (fun K hK => ?_)
   ·go_wp2_with fail
    refine ⟨rfl, hK _ _ ?_ ?_⟩
    ·first | exact hcur | exact hcur.alloc _ | exact hcur.setCell (.inl (List.mem_singleton.2 rfl)) _
    clear hK K
    refine Ord.St.alw ?_; intro Wn hWn
    have hb3 := alw_blk (xs := intCells l) hWn
    have hlo3 := hcur.size
    try replace hb1 := hb1.ch (alw_ch hWn) (by simp)
    try replace hb2 := hb2.ch (alw_ch hWn) (by simp)
    replace hkb := hkb.ch (alw_ch hWn) (by simp)
    replace hcur := hcur.al9 hWn
    clear hWn
    refine Ord.St.ef 10 [11, 12, 13, 14, 15, 16] _ rfl (by kernel_rfl) (fun K hK => ?_)
    have c0 := hkb.cell (i := 6) rfl
    have f0 := hkb.frozen (i := 6)
    go_wp2_with fail
    refine ⟨rfl, hK _ _ ?_⟩; clear hK K
    clear c0 f0
    refine st_named ?_; intro Wn hWn
    have hcS := set_ch9 hWn
    replace hkb := set_blk9 hWn hkb
    replace hb1 := hb1.ch hcS (fun hin => by have := List.mem_singleton.1 hin; omega)
    replace hb2 := hb2.ch hcS (fun hin => by have := List.mem_singleton.1 hin; omega)
    try replace hb3 := hb3.ch hcS (fun hin => by have := List.mem_singleton.1 hin; omega)
    replace hcur := hcur.trans hcS (fun k hk => .inl hk)
    clear hWn hcS
    iterate 2 (refine Ord.F9 ?_ (fun K w' hk => ?_) ?_; rotate_left; focus (go_step; exact hk))
    refine Ord.St.ef 13 [14, 15, 16] _ rfl (by kernel_rfl) (fun K hK => ?_)
    have c0 := hkb.cell (i := 7) rfl
    have f0 := hkb.frozen (i := 7)
    go_wp2_with fail
    refine ⟨rfl, hK _ _ ?_⟩; clear hK K
    clear c0 f0
    refine st_named ?_; intro Wn hWn
    have hcS := set_ch9 hWn
    replace hkb := set_blk9 hWn hkb
    replace hb1 := hb1.ch hcS (fun hin => by have := List.mem_singleton.1 hin; omega)
    replace hb2 := hb2.ch hcS (fun hin => by have := List.mem_singleton.1 hin; omega)
    try replace hb3 := hb3.ch hcS (fun hin => by have := List.mem_singleton.1 hin; omega)
    replace hcur := hcur.trans hcS (fun k hk => .inl hk)
    clear hWn hcS
    iterate 2 (refine Ord.F9 ?_ (fun K w' hk => ?_) ?_; rotate_left; focus (go_step; exact hk))
    refine Ord.St.ef 16 [] _ rfl (by kernel_rfl) (fun K hK => ?_)
    have c0 := hkb.cell (i := 5) rfl
    have f0 := hkb.frozen (i := 5)
    go_wp2_with fail
    refine ⟨rfl, hK _ _ ?_⟩; clear hK K
    refine Ord.St.nil ?_
    go_wp2_with fail
    refine bodyPost_alw ?_
    intro W hW
    go_end0
    have hc1 := set_ch9 hW
    have hk3 := set_blk9 hW hkb
    have hc : Ch [b] w W := hcur.trans hc1 (fun k hk => .inl hk)
    have hc0 : Ch [b] w0 W := (H.out.c.mono (by simp)).trans hc (fun k hk => .inl hk)
    have d1 := hb1.ch hc1 (fun hin => by have := List.mem_singleton.1 hin; omega)
    have d2 := hb2.ch hc1 (fun hin => by have := List.mem_singleton.1 hin; omega)
    have d3 := hb3.ch hc1 (fun hin => by have := List.mem_singleton.1 hin; omega)
    exact mut_LMG H.out.lo hc0 H.out.l HLS.out d1 d2 d3 (by omega) (by omega) (by omega) HLL.out HBL.out hk3 hc
   ·have c0 := hkb.cell (i := 6) rfl
    have f0 := hkb.frozen (i := 6)
    go_wp2_with fail
    refine ⟨rfl, hK _ _ ?_ ?_⟩
    ·first | exact hcur | exact hcur.alloc _ | exact hcur.setCell (.inl (List.mem_singleton.2 rfl)) _
    clear hK K
    clear c0 f0
    refine st_named ?_; intro Wn hWn
    have hcS := set_ch9 hWn
    replace hkb := set_blk9 hWn hkb
    replace hb1 := hb1.ch hcS (fun hin => by have := List.mem_singleton.1 hin; omega)
    replace hb2 := hb2.ch hcS (fun hin => by have := List.mem_singleton.1 hin; omega)
    try replace hb3 := hb3.ch hcS (fun hin => by have := List.mem_singleton.1 hin; omega)
    replace hcur := hcur.trans hcS (fun k hk => .inl hk)
    clear hWn hcS
    refine Ord.G9 ?_ 11 [7, 12, 13, 14, 15, 16] (fun K w' hk => ?_) ?_
    rotate_left
    ·go_step; exact hk
    refine Ord.G9 ?_ 12 [7, 13, 14, 15, 16] (fun K w' hk => ?_) ?_
    rotate_left
    ·go_step; exact hk
    refine Ord.St.two 7 13 [13, 14, 15, 16] [7, 14, 15, 16] _ _ (by kernel_rfl) rfl rfl (by kernel_rfl) (by kernel_rfl) (fun K hK => ?_) (fun K hK => ?_)
    ·go_wp2_with fail
     refine ⟨rfl, hK _ _ ?_ ?_⟩
     ·first | exact hcur | exact hcur.alloc _ | exact hcur.setCell (.inl (List.mem_singleton.2 rfl)) _
     clear hK K
     refine Ord.St.alw ?_; intro Wn hWn
     have hb3 := alw_blk (xs := intCells l) hWn
     have hlo3 := hcur.size
     try replace hb1 := hb1.ch (alw_ch hWn) (by simp)
     try replace hb2 := hb2.ch (alw_ch hWn) (by simp)
     replace hkb := hkb.ch (alw_ch hWn) (by simp)
     replace hcur := hcur.al9 hWn
     clear hWn
     refine Ord.St.ef 13 [14, 15, 16] _ rfl (by kernel_rfl) (fun K hK => ?_)
     have c0 := hkb.cell (i := 7) rfl
     have f0 := hkb.frozen (i := 7)
     go_wp2_with fail
     refine ⟨rfl, hK _ _ ?_⟩; clear hK K
     clear c0 f0
     refine st_named ?_; intro Wn hWn
     have hcS := set_ch9 hWn
     replace hkb := set_blk9 hWn hkb
     replace hb1 := hb1.ch hcS (fun hin => by have := List.mem_singleton.1 hin; omega)
     replace hb2 := hb2.ch hcS (fun hin => by have := List.mem_singleton.1 hin; omega)
     try replace hb3 := hb3.ch hcS (fun hin => by have := List.mem_singleton.1 hin; omega)
     replace hcur := hcur.trans hcS (fun k hk => .inl hk)
     clear hWn hcS
     iterate 2 (refine Ord.F9 ?_ (fun K w' hk => ?_) ?_; rotate_left; focus (go_step; exact hk))
     refine Ord.St.ef 16 [] _ rfl (by kernel_rfl) (fun K hK => ?_)
     have c0 := hkb.cell (i := 5) rfl
     have f0 := hkb.frozen (i := 5)
     go_wp2_with fail
     refine ⟨rfl, hK _ _ ?_⟩; clear hK K
     refine Ord.St.nil ?_
     go_wp2_with fail
     refine bodyPost_alw ?_
     intro W hW
     go_end0
     have hc1 := set_ch9 hW
     have hk3 := set_blk9 hW hkb
     have hc : Ch [b] w W := hcur.trans hc1 (fun k hk => .inl hk)
     have hc0 : Ch [b] w0 W := (H.out.c.mono (by simp)).trans hc (fun k hk => .inl hk)
     have d1 := hb1.ch hc1 (fun hin => by have := List.mem_singleton.1 hin; omega)
     have d2 := hb2.ch hc1 (fun hin => by have := List.mem_singleton.1 hin; omega)
     have d3 := hb3.ch hc1 (fun hin => by have := List.mem_singleton.1 hin; omega)
     exact mut_LMG H.out.lo hc0 H.out.l HLS.out d1 d2 d3 (by omega) (by omega) (by omega) HLL.out HBL.out hk3 hc
    ·have c0 := hkb.cell (i := 7) rfl
     have f0 := hkb.frozen (i := 7)
     go_wp2_with fail
     refine ⟨rfl, hK _ _ ?_ ?_⟩
     ·first | exact hcur | exact hcur.alloc _ | exact hcur.setCell (.inl (List.mem_singleton.2 rfl)) _
     clear hK K
     clear c0 f0
     refine st_named ?_; intro Wn hWn
     have hcS := set_ch9 hWn
     replace hkb := set_blk9 hWn hkb
     replace hb1 := hb1.ch hcS (fun hin => by have := List.mem_singleton.1 hin; omega)
     replace hb2 := hb2.ch hcS (fun hin => by have := List.mem_singleton.1 hin; omega)
     try replace hb3 := hb3.ch hcS (fun hin => by have := List.mem_singleton.1 hin; omega)
     replace hcur := hcur.trans hcS (fun k hk => .inl hk)
     clear hWn hcS
     refine Ord.St.efC 7 [14, 15, 16] _ rfl (by kernel_rfl) (fun K hK => ?_)
     go_wp2_with fail
     refine ⟨rfl, hK _ _ ?_ ?_⟩
     ·first | exact hcur | exact hcur.alloc _ | exact hcur.setCell (.inl (List.mem_singleton.2 rfl)) _
     clear hK K
     refine Ord.St.alw ?_; intro Wn hWn
     have hb3 := alw_blk (xs := intCells l) hWn
     have hlo3 := hcur.size
     try replace hb1 := hb1.ch (alw_ch hWn) (by simp)
     try replace hb2 := hb2.ch (alw_ch hWn) (by simp)
     replace hkb := hkb.ch (alw_ch hWn) (by simp)
     replace hcur := hcur.al9 hWn
     clear hWn
     iterate 2 (refine Ord.F9 ?_ (fun K w' hk => ?_) ?_; rotate_left; focus (go_step; exact hk))
     refine Ord.St.ef 16 [] _ rfl (by kernel_rfl) (fun K hK => ?_)
     have c0 := hkb.cell (i := 5) rfl
     have f0 := hkb.frozen (i := 5)
     go_wp2_with fail
     refine ⟨rfl, hK _ _ ?_⟩; clear hK K
     refine Ord.St.nil ?_
     go_wp2_with fail
     refine bodyPost_alw ?_
     intro W hW
     go_end0
     have hc1 := set_ch9 hW
     have hk3 := set_blk9 hW hkb
     have hc : Ch [b] w W := hcur.trans hc1 (fun k hk => .inl hk)
     have hc0 : Ch [b] w0 W := (H.out.c.mono (by simp)).trans hc (fun k hk => .inl hk)
     have d1 := hb1.ch hc1 (fun hin => by have := List.mem_singleton.1 hin; omega)
     have d2 := hb2.ch hc1 (fun hin => by have := List.mem_singleton.1 hin; omega)
     have d3 := hb3.ch hc1 (fun hin => by have := List.mem_singleton.1 hin; omega)
     exact mut_LMG H.out.lo hc0 H.out.l HLS.out d1 d2 d3 (by omega) (by omega) (by omega) HLL.out HBL.out hk3 hc
  ·go_wp2_with fail
   refine ⟨rfl, hK _ _ ?_ ?_⟩
   ·first | exact hcur | exact hcur.alloc _ | exact hcur.setCell (.inl (List.mem_singleton.2 rfl)) _
   clear hK K
   refine Ord.St.alw ?_; intro Wn hWn
   have hb3 := alw_blk (xs := intCells l) hWn
   have hlo3 := hcur.size
   try replace hb1 := hb1.ch (alw_ch hWn) (by simp)
   try replace hb2 := hb2.ch (alw_ch hWn) (by simp)
   replace hkb := hkb.ch (alw_ch hWn) (by simp)
   replace hcur := hcur.al9 hWn
   clear hWn
   refine Ord.St.ef 6 [8, 9, 10, 11, 12, 13, 14, 15, 16] _ rfl (by kernel_rfl) (fun K hK => ?_)
   go_wp2_with fail
   refine (HREP.out _ hcur).mono ?_
   rintro e W6 ⟨r2, rfl, hb2, hr2, hc6⟩
   have hlo2 := hcur.size
   replace hkb := hkb.ch hc6 (by simp)
   replace hb1 := hb1.ch hc6 (by simp)
   try replace hb3 := hb3.ch hc6 (by simp)
   replace hcur := hcur.trans hc6 (by simp)
   clear hc6
   go_wp2_with fail
   refine ⟨rfl, hK _ _ ?_⟩; clear hK K
   iterate 2 (refine Ord.F9 ?_ (fun K w' hk => ?_) ?_; rotate_left; focus (go_step; exact hk))
   refine Ord.St.ef 10 [11, 12, 13, 14, 15, 16] _ rfl (by kernel_rfl) (fun K hK => ?_)
   have c0 := hkb.cell (i := 6) rfl
   have f0 := hkb.frozen (i := 6)
   go_wp2_with fail
   refine ⟨rfl, hK _ _ ?_⟩; clear hK K
   clear c0 f0
   refine st_named ?_; intro Wn hWn
   have hcS := set_ch9 hWn
   replace hkb := set_blk9 hWn hkb
   replace hb1 := hb1.ch hcS (fun hin => by have := List.mem_singleton.1 hin; omega)
   replace hb2 := hb2.ch hcS (fun hin => by have := List.mem_singleton.1 hin; omega)
   try replace hb3 := hb3.ch hcS (fun hin => by have := List.mem_singleton.1 hin; omega)
   replace hcur := hcur.trans hcS (fun k hk => .inl hk)
   clear hWn hcS
   iterate 2 (refine Ord.F9 ?_ (fun K w' hk => ?_) ?_; rotate_left; focus (go_step; exact hk))
   refine Ord.St.ef 13 [14, 15, 16] _ rfl (by kernel_rfl) (fun K hK => ?_)
   have c0 := hkb.cell (i := 7) rfl
   have f0 := hkb.frozen (i := 7)
   go_wp2_with fail
   refine ⟨rfl, hK _ _ ?_⟩; clear hK K
   clear c0 f0
   refine st_named ?_; intro Wn hWn
   have hcS := set_ch9 hWn
   replace hkb := set_blk9 hWn hkb
   replace hb1 := hb1.ch hcS (fun hin => by have := List.mem_singleton.1 hin; omega)
   replace hb2 := hb2.ch hcS (fun hin => by have := List.mem_singleton.1 hin; omega)
   try replace hb3 := hb3.ch hcS (fun hin => by have := List.mem_singleton.1 hin; omega)
   replace hcur := hcur.trans hcS (fun k hk => .inl hk)
   clear hWn hcS
   iterate 2 (refine Ord.F9 ?_ (fun K w' hk => ?_) ?_; rotate_left; focus (go_step; exact hk))
   refine Ord.St.ef 16 [] _ rfl (by kernel_rfl) (fun K hK => ?_)
   have c0 := hkb.cell (i := 5) rfl
   have f0 := hkb.frozen (i := 5)
   go_wp2_with fail
   refine ⟨rfl, hK _ _ ?_⟩; clear hK K
   refine Ord.St.nil ?_
   go_wp2_with fail
   refine bodyPost_alw ?_
   intro W hW
   go_end0
   have hc1 := set_ch9 hW
   have hk3 := set_blk9 hW hkb
   have hc : Ch [b] w W := hcur.trans hc1 (fun k hk => .inl hk)
   have hc0 : Ch [b] w0 W := (H.out.c.mono (by simp)).trans hc (fun k hk => .inl hk)
   have d1 := hb1.ch hc1 (fun hin => by have := List.mem_singleton.1 hin; omega)
   have d2 := hb2.ch hc1 (fun hin => by have := List.mem_singleton.1 hin; omega)
   have d3 := hb3.ch hc1 (fun hin => by have := List.mem_singleton.1 hin; omega)
   exact mut_LMG H.out.lo hc0 H.out.l HLS.out d1 d2 d3 (by omega) (by omega) (by omega) HLL.out HBL.out hk3 hc
 ·go_wp2_with fail
  refine ⟨rfl, hK _ _ ?_ ?_⟩
  ·first | exact hcur | exact hcur.alloc _ | exact hcur.setCell (.inl (List.mem_singleton.2 rfl)) _
  clear hK K
  refine Ord.St.alw ?_; intro Wn hWn
  have hb3 := alw_blk (xs := intCells l) hWn
  have hlo3 := hcur.size
  try replace hb1 := hb1.ch (alw_ch hWn) (by simp)
  try replace hb2 := hb2.ch (alw_ch hWn) (by simp)
  replace hkb := hkb.ch (alw_ch hWn) (by simp)
  replace hcur := hcur.al9 hWn
  clear hWn
  refine Ord.St.efC 4 [6, 8, 9, 10, 11, 12, 13, 14, 15, 16] _ rfl (by kernel_rfl) (fun K hK => ?_)
  go_wp2_with fail
  refine (HREP.out _ hcur).mono ?_
  rintro e W4 ⟨r1, rfl, hb1, hr1, hc4⟩
  have hlo1 := hcur.size
  replace hkb := hkb.ch hc4 (by simp)
  try replace hb3 := hb3.ch hc4 (by simp)
  replace hcur := hcur.trans hc4 (by simp)
  clear hc4
  go_wp2_with fail
  refine ⟨rfl, hK _ _ ?_ ?_⟩
  ·first | exact hcur | exact hcur.alloc _ | exact hcur.setCell (.inl (List.mem_singleton.2 rfl)) _
  clear hK K
  refine Ord.St.ef 6 [8, 9, 10, 11, 12, 13, 14, 15, 16] _ rfl (by kernel_rfl) (fun K hK => ?_)
  go_wp2_with fail
  refine (HREP.out _ hcur).mono ?_
  rintro e W6 ⟨r2, rfl, hb2, hr2, hc6⟩
  have hlo2 := hcur.size
  replace hkb := hkb.ch hc6 (by simp)
  replace hb1 := hb1.ch hc6 (by simp)
  try replace hb3 := hb3.ch hc6 (by simp)
  replace hcur := hcur.trans hc6 (by simp)
  clear hc6
  go_wp2_with fail
  refine ⟨rfl, hK _ _ ?_⟩; clear hK K
  iterate 2 (refine Ord.F9 ?_ (fun K w' hk => ?_) ?_; rotate_left; focus (go_step; exact hk))
  refine Ord.St.ef 10 [11, 12, 13, 14, 15, 16] _ rfl (by kernel_rfl) (fun K hK => ?_)
  have c0 := hkb.cell (i := 6) rfl
  have f0 := hkb.frozen (i := 6)
  go_wp2_with fail
  refine ⟨rfl, hK _ _ ?_⟩; clear hK K
  clear c0 f0
  refine st_named ?_; intro Wn hWn
  have hcS := set_ch9 hWn
  replace hkb := set_blk9 hWn hkb
  replace hb1 := hb1.ch hcS (fun hin => by have := List.mem_singleton.1 hin; omega)
  replace hb2 := hb2.ch hcS (fun hin => by have := List.mem_singleton.1 hin; omega)
  try replace hb3 := hb3.ch hcS (fun hin => by have := List.mem_singleton.1 hin; omega)
  replace hcur := hcur.trans hcS (fun k hk => .inl hk)
  clear hWn hcS
  iterate 2 (refine Ord.F9 ?_ (fun K w' hk => ?_) ?_; rotate_left; focus (go_step; exact hk))
  refine Ord.St.ef 13 [14, 15, 16] _ rfl (by kernel_rfl) (fun K hK => ?_)
  have c0 := hkb.cell (i := 7) rfl
  have f0 := hkb.frozen (i := 7)
  go_wp2_with fail
  refine ⟨rfl, hK _ _ ?_⟩; clear hK K
  clear c0 f0
  refine st_named ?_; intro Wn hWn
  have hcS := set_ch9 hWn
  replace hkb := set_blk9 hWn hkb
  replace hb1 := hb1.ch hcS (fun hin => by have := List.mem_singleton.1 hin; omega)
  replace hb2 := hb2.ch hcS (fun hin => by have := List.mem_singleton.1 hin; omega)
  try replace hb3 := hb3.ch hcS (fun hin => by have := List.mem_singleton.1 hin; omega)
  replace hcur := hcur.trans hcS (fun k hk => .inl hk)
  clear hWn hcS
  iterate 2 (refine Ord.F9 ?_ (fun K w' hk => ?_) ?_; rotate_left; focus (go_step; exact hk))
  refine Ord.St.ef 16 [] _ rfl (by kernel_rfl) (fun K hK => ?_)
  have c0 := hkb.cell (i := 5) rfl
  have f0 := hkb.frozen (i := 5)
  go_wp2_with fail
  refine ⟨rfl, hK _ _ ?_⟩; clear hK K
  refine Ord.St.nil ?_
  go_wp2_with fail
  refine bodyPost_alw ?_
  intro W hW
  go_end0
  have hc1 := set_ch9 hW
  have hk3 := set_blk9 hW hkb
  have hc : Ch [b] w W := hcur.trans hc1 (fun k hk => .inl hk)
  have hc0 : Ch [b] w0 W := (H.out.c.mono (by simp)).trans hc (fun k hk => .inl hk)
  have d1 := hb1.ch hc1 (fun hin => by have := List.mem_singleton.1 hin; omega)
  have d2 := hb2.ch hc1 (fun hin => by have := List.mem_singleton.1 hin; omega)
  have d3 := hb3.ch hc1 (fun hin => by have := List.mem_singleton.1 hin; omega)
  exact mut_LMG H.out.lo hc0 H.out.l HLS.out d1 d2 d3 (by omega) (by omega) (by omega) HLL.out HBL.out hk3 hc
end
theorem PW.same {w0 : World} {X : List (Nat × List Value)} {w w' : World} {ba : Nat} {good : MxV} {l : List MxV} {v : Value} (h : PW w0 X w ba good l v) (hc : Ch [] w w') : PW w0 X w' ba good l v :=
 ⟨h.all.ch hc (by simp), fun p hp => ⟨(h.kept p hp).1.ch hc (by simp), (h.kept p hp).2⟩, h.baN, h.row.ch hc (by simp), fun x hx => ⟨fun W hW => (h.ok x hx).1 W ((hc.mono (by simp)).trans hW (fun k hk => .inl hk)), (h.ok x hx).2⟩, h.ch.trans hc (by simp), h.loA, h.lo⟩
theorem PW.addX {w0 : World} {X : List (Nat × List Value)} {w : World} {ba : Nat} {good : MxV} {l : List MxV} {v : Value} (h : PW w0 X w ba good l v) {b : Nat} {xs : List Value} (hb : blk w b xs) (h1 : b ≠ ba) (h2 : v.ownBlock ≠ some b) : PW w0 ((b, xs) :: X) w ba good l v :=
 ⟨h.all, fun p hp => by
  rcases List.mem_cons.1 hp with rfl | hp
  ·exact ⟨hb, h1, h2⟩
  ·exact h.kept p hp, h.baN, h.row, h.ok, h.ch, h.loA, h.lo⟩
theorem PW.dropX {w0 : World} {X : List (Nat × List Value)} {p : Nat × List Value} {w : World} {ba : Nat} {good : MxV} {l : List MxV} {v : Value} (h : PW w0 (p :: X) w ba good l v) : PW w0 X w ba good l v :=
 ⟨h.all, fun p hp => h.kept p (List.mem_cons_of_mem _ hp), h.baN, h.row, h.ok, h.ch, h.loA, h.lo⟩
theorem mx_len8 (x : MxV) : x.cells.length = 8 := rfl
theorem flat8 {l : List MxV} : ∀ {i j : Nat} {x : MxV} {u : Value}, l[i]? = some x → x.cells[j]? = some u → (l.flatMap MxV.cells)[i * 8 + j]? = some u := by
 induction l with
 | nil => intro i j x u h _; simp at h
 | cons y l ih =>
  intro i j x u h hu
  have hj : j < 8 := by have := (List.getElem?_eq_some_iff.1 hu).1; rwa [mx_len8] at this
  rw [List.flatMap_cons]
  cases i with
  | zero =>
   cases h
   rw [List.getElem?_append_left (by rw [mx_len8]; omega), Nat.zero_mul, Nat.zero_add]
   exact hu
  | succ i =>
   rw [List.getElem?_append_right (by rw [mx_len8]; omega), mx_len8, show (i + 1) * 8 + j - 8 = i * 8 + j by omega]
   exact ih h hu
theorem PW.acts {w0 : World} {X : List (Nat × List Value)} {w : World} {ba : Nat} {good : MxV} {l : List MxV} {a : Option Addr} {n c : Nat} (h : PW w0 X w ba good l (.slice a n c)) (hn : l.length = n) : MxActS w a n c l := by
 have hle : n ≤ c ∧ c ≤ 9223372036854775807 := by
  rcases h.row.2 with ⟨e, h0⟩ | ⟨g, cap, cur, e, _, hg, h1, h2, _⟩
  ·cases e; exact ⟨Nat.le_refl _, by omega⟩
  ·cases e; exact ⟨by omega, by simp only [maxLen] at h2; omega⟩
 refine ⟨hn, hle.1, hle.2, fun i x hx => ?_, fun x hx => (h.ok x (List.mem_cons_of_mem _ hx)).1 w (Ch.refl _ _)⟩
 have hil : i < l.length := (List.getElem?_eq_some_iff.1 hx).1
 rcases h.row.2 with ⟨e, h0⟩ | ⟨g, cap, cur, e, _⟩
 ·omega
 ·cases e
  refine ⟨g, 0, rfl, fun j u hu => ?_⟩
  have := h.row.cells (g := g) rfl (i * 8 + j) u (flat8 hx hu)
  rw [Addr.add_lit] at this
  rw [show 0 + i * 8 + j = 0 + (i * 8 + j) by omega]
  exact this
theorem mxacts2 {w : World} {b : Nat} {x z : MxV} (h : blk w b (x.cells ++ z.cells)) (hx : MxR w x) (hz : MxR w z) : MxActS w (some ⟨b, 0, none⟩) 2 2 [x, z] :=
 ⟨rfl, Nat.le_refl _, by omega, fun i y hy => by
  refine ⟨b, 0, rfl, fun j u hu => ?_⟩
  rw [show 0 + i * 8 + j = i * 8 + j by omega]
  refine h.cell ?_
  have := flat8 (l := [x, z]) hy hu
  simpa using this, fun y hy => by
  rcases List.mem_cons.1 hy with rfl | hy
  ·exact hx
  ·rw [List.mem_singleton.1 hy]; exact hz⟩
def ends26 : List Int := [-9223372036854775808, -1, 100, 9223372036854775807]
theorem ends26_bd : ∀ z ∈ ends26, -9223372036854775808 ≤ z ∧ z ≤ 9223372036854775807 := by decide
theorem fnvput26 : Fnv 76 := fnv_of Tryz.func76 (by simp [Tryz.f76]) (by simp [Tryz.f76])
section
variable {w : World}
theorem wrongs26_is (kd : Nat) (hkd : kd < 6) : Calls Tryz.prog 17 #[.int .u8 kd] w fun e w' => e = .returned (.bool true) ∧ Ch [] w w' := by
 have hcp : ∀ args w, (callFunc 76 args).run Tryz.prog w = .ok (.enter 76 args) w := fnvput26
 go_enter Tryz.func17, Tryz.ntmps17
 go_upto_region 6 with fail
 refine wp_named fun W1 hW1 => ?_
 obtain ⟨B, hB⟩ : ∃ B, w.heap.size = B := ⟨_, rfl⟩
 rw [hB] at hW1 ⊢
 have g0 : blk W1 (B) [.int .i64 400, .int .u8 6] := by rw [hW1]; exact (((((((((blk.new' _ _ (by simp [hB])).alloc _).alloc _).alloc _).alloc _).alloc _).alloc _).alloc _).alloc _).alloc _
 have g1 : blk W1 (B + 1) [.int .i64 2, .int .i64 4] := by rw [hW1]; exact ((((((((blk.new' _ _ (by simp [hB])).alloc _).alloc _).alloc _).alloc _).alloc _).alloc _).alloc _).alloc _
 have g2 : blk W1 (B + 1 + 1) [.int .i64 6, .int .i64 9] := by rw [hW1]; exact (((((((blk.new' _ _ (by simp [hB])).alloc _).alloc _).alloc _).alloc _).alloc _).alloc _).alloc _
 have g3 : blk W1 (B + 1 + 1 + 1) [.slice (some ⟨B + 1, 0, none⟩) 2 2, .slice (some ⟨B + 1 + 1, 0, none⟩) 2 2] := by rw [hW1]; exact ((((((blk.new' _ _ (by simp [hB])).alloc _).alloc _).alloc _).alloc _).alloc _).alloc _
 have g4 : blk W1 (B + 1 + 1 + 1 + 1) [.slice (some ⟨B + 1 + 1 + 1, 0, none⟩) 2 2] := by rw [hW1]; exact (((((blk.new' _ _ (by simp [hB])).alloc _).alloc _).alloc _).alloc _).alloc _
 have g5 : blk W1 (B + 1 + 1 + 1 + 1 + 1) [.int .i64 2, .int .i64 7] := by rw [hW1]; exact ((((blk.new' _ _ (by simp [hB])).alloc _).alloc _).alloc _).alloc _
 have g6 : blk W1 (B + 1 + 1 + 1 + 1 + 1 + 1) [.int .i64 4, .int .i64 6] := by rw [hW1]; exact (((blk.new' _ _ (by simp [hB])).alloc _).alloc _).alloc _
 have g7 : blk W1 (B + 1 + 1 + 1 + 1 + 1 + 1 + 1) [.int .i64 5] := by rw [hW1]; exact ((blk.new' _ _ (by simp [hB])).alloc _).alloc _
 have g8 : blk W1 (B + 1 + 1 + 1 + 1 + 1 + 1 + 1 + 1) [.int .u8 kd, .int .i64 2, .slice (some ⟨B + 1 + 1 + 1 + 1 + 1, 0, none⟩) 2 2, .slice (some ⟨B + 1 + 1 + 1 + 1 + 1 + 1, 0, none⟩) 2 2, .int .u32 0, .slice (some ⟨B + 1 + 1 + 1 + 1 + 1 + 1 + 1, 0, none⟩) 1 1, .slice (some ⟨B + 1 + 1 + 1, 0, none⟩) 2 2, .slice (some ⟨B + 1 + 1 + 1, 0, none⟩) 2 2] := by rw [hW1]; exact (blk.new' _ _ (by simp [hB])).alloc _
 have g9 : blk W1 (B + 1 + 1 + 1 + 1 + 1 + 1 + 1 + 1 + 1) [.slice none 0 0] := by rw [hW1]; exact blk.new' _ _ (by simp [hB])
 have hc1 : Ch [] w W1 := by rw [hW1]; repeat (first | exact Ch.refl _ _ | refine Ch.alloc ?_ _)
 clear hW1
 obtain ⟨good, hgood⟩ : ∃ good : MxV, good = { kind := kd, C := 2, x := ⟨some ⟨B + 1 + 1 + 1 + 1 + 1, 0, none⟩, [2, 7], 2⟩, y := ⟨some ⟨B + 1 + 1 + 1 + 1 + 1 + 1, 0, none⟩, [4, 6], 2⟩, N := 0, gs := ⟨some ⟨B + 1 + 1 + 1 + 1 + 1 + 1 + 1, 0, none⟩, [5], 1⟩, la := some ⟨B + 1 + 1 + 1, 0, none⟩, lc := 2, Ls := [⟨some ⟨B + 1, 0, none⟩, [2, 4], 2⟩, ⟨some ⟨B + 1 + 1, 0, none⟩, [6, 9], 2⟩], ma := some ⟨B + 1 + 1 + 1, 0, none⟩, mc := 2, Ms := [⟨some ⟨B + 1, 0, none⟩, [2, 4], 2⟩, ⟨some ⟨B + 1 + 1, 0, none⟩, [6, 9], 2⟩] } := ⟨_, rfl⟩
 have hgl : Lt26 good := by
  rw [hgood]
  exact ⟨by simp, by simp, by simp, by simp, by simp, fun x hx => by simp at hx; rcases hx with rfl | rfl <;> simp, fun x hx => by simp at hx; rcases hx with rfl | rfl <;> simp⟩
 have hgr : ∀ W, Ch [B + 1 + 1 + 1 + 1 + 1 + 1 + 1 + 1 + 1] W1 W → MxR W good := fun W hW => by
  have n1 : ∀ k, k ≠ B + 1 + 1 + 1 + 1 + 1 + 1 + 1 + 1 + 1 → k ∉ [B + 1 + 1 + 1 + 1 + 1 + 1 + 1 + 1 + 1] := fun k hk hin => hk (List.mem_singleton.1 hin)
  have ir := IR.two8 (l1 := [2, 4]) (l2 := [6, 9]) (g3.ch hW (n1 _ (by omega))) (g1.ch hW (n1 _ (by omega))) (g2.ch hW (n1 _ (by omega))) rfl rfl (by omega) (by omega)
  rw [hgood]
  exact ⟨by show kd ≤ 255; omega, by show 0 < 4294967296; omega, ⟨by show (-9223372036854775808 : Int) ≤ 2; omega, by show (2 : Int) ≤ 9223372036854775807; omega⟩, Sl.blk9 (c := [2, 7]) (g5.ch hW (n1 _ (by omega))) (by simp), Sl.blk9 (c := [4, 6]) (g6.ch hW (n1 _ (by omega))) (by simp), Sl.blk9 (c := [5]) (g7.ch hW (n1 _ (by omega))) (by simp), ir, ir,
   fun r hr => by simp at hr; omega, fun r hr => by simp at hr; omega, fun r hr => by simp at hr; omega,
   fun x hx r hr => by simp at hx; rcases hx with rfl | rfl <;> simp at hr <;> omega, fun x hx r hr => by simp at hx; rcases hx with rfl | rfl <;> simp at hr <;> omega, by simp, by simp⟩
 have g8' : blk W1 (B + 1 + 1 + 1 + 1 + 1 + 1 + 1 + 1) good.cells := by rw [hgood]; exact g8
 have hP : PW w [(B + 1 + 1 + 1 + 1 + 1 + 1 + 1 + 1, good.cells), (B, [.int .i64 400, .int .u8 6]), (B + 1 + 1 + 1 + 1, [.slice (some ⟨B + 1 + 1 + 1, 0, none⟩) 2 2])] W1 (B + 1 + 1 + 1 + 1 + 1 + 1 + 1 + 1 + 1) good [] (.slice none 0 0) := by
  refine ⟨g9, fun p hp => ?_, by simp, ⟨rfl, .inl ⟨rfl, rfl⟩⟩, fun x hx => ?_, hc1, by omega, by simp⟩
  ·simp only [List.mem_cons, List.not_mem_nil, or_false] at hp
   rcases hp with rfl | rfl | rfl
   ·exact ⟨g8', by (try simp) <;> (try omega), by simp⟩
   ·exact ⟨g0, by (try simp) <;> (try omega), by simp⟩
   ·exact ⟨g4, by (try simp) <;> (try omega), by simp⟩
  ·rw [List.mem_singleton.1 hx]
   exact ⟨fun W hW => hgr W (by simpa using hW), hgl⟩
 have hgLs : ∃ p q, good.Ls = [p, q] ∧ good.la = some ⟨B + 1 + 1 + 1, 0, none⟩ ∧ good.lc = 2 ∧ good.kind = kd := by rw [hgood]; exact ⟨_, _, rfl, rfl, rfl, rfl⟩
 obtain ⟨p, q, hLs, hla, hlc, hgk⟩ := hgLs
 have hgm : ∀ Y : List (Nat × List Value), (B + 1 + 1 + 1 + 1 + 1 + 1 + 1 + 1, good.cells) ∈ (B + 1 + 1 + 1 + 1 + 1 + 1 + 1 + 1, good.cells) :: Y := fun Y => List.mem_cons_self ..
 clear g0 g1 g2 g3 g4 g5 g6 g7 g8 g9 g8' hgr hgl hgood
 have HLS := Hi9 hLs; clear hLs
 have HLA := Hi9 hla; clear hla
 have HLC := Hi9 hlc; clear hlc
 have HGK := Hi9 hgk; clear hgk
 have HP := Hi9 hP; clear hP
 clear hc1
 obtain ⟨B4, hB4⟩ : ∃ k, k = B + 1 + 1 + 1 + 1 := ⟨_, rfl⟩
 obtain ⟨B8, hB8⟩ : ∃ k, k = B + 1 + 1 + 1 + 1 + 1 + 1 + 1 + 1 := ⟨_, rfl⟩
 obtain ⟨B9, hB9⟩ : ∃ k, k = B + 1 + 1 + 1 + 1 + 1 + 1 + 1 + 1 + 1 := ⟨_, rfl⟩
 rw [← hB9, ← hB8, ← hB4] at HP
 rw [← hB8] at hgm
 obtain ⟨S4, hS4⟩ : ∃ S : Value, S = .slice (some ⟨B + 1 + 1 + 1, 0, none⟩) 2 2 := ⟨_, rfl⟩
 rw [← hS4] at HP
 have hS : S4 = .slice good.la 2 good.lc := by rw [HLA.out, HLC.out]; exact hS4
 have HS4 := Hi9 hS; clear hS hS4
 rw [← hB9, ← hB8, ← hB4]
 clear hB9 hB8 hB4 HLA HLC
 generalize B + 1 + 1 + 1 = B3
 clear hB
 go_wp2_with fail
 refine wp_alw ?_
 intro W2 hW2
 have hbe := alw_blk (xs := intCells ends26) hW2
 have hP := HP.out.same (alw_ch hW2)
 have hb9 := HP.out.all.lt
 have hP := hP.addX hbe (by omega) (by simp)
 clear hW2 HP hbe
 generalize W1.heap.size = be at *
 have HP := Hi9 hP; clear hP
 go_loopw [31] (fun i wr => ∃ (k : Nat) (l : List MxV) (v : Value), k ≤ 4 ∧ i = .int .i64 k ∧ l.length = 7 * k ∧ PW w [(be, intCells ends26), (B8, good.cells), (B, [.int .i64 400, .int .u8 6]), (B4, [S4])] wr B9 good l v) (fun i _ => 4 - (intOf i).toNat)
 case atStart => exact ⟨0, [], _, by omega, rfl, rfl, HP.out⟩
 case round =>
  obtain ⟨k, l, v, hk, rfl, hlen, hP⟩ := hrel
  clear HP
  by_cases hk4 : k < 4
  ·have dk : decide ((k : Int) < 4) = true := decide_eq_true (by omega)
   obtain ⟨z, hz⟩ : ∃ z, ends26[k]? = some z := ⟨_, List.getElem?_eq_getElem (show k < ends26.length from hk4)⟩
   have hzb := ends26_bd z (List.mem_of_getElem? hz)
   have c0 : wr.cell? ⟨be, k, none⟩ = some (.int .i64 z) := (hP.kept _ (List.mem_cons_self ..)).1.cell (by simp [intCells, hz])
   clear hz
   have HZB := Hi9 hzb; clear hzb
   have HP := Hi9 hP; clear hP
   go_upto_region 9 with fail
   refine wp_alw ?_
   intro W3 hW3
   have hbn := alw_blk (xs := [.int .i64 z]) hW3
   have hb9 := HP.out.all.lt
   have hol := HP.out.ownlt
   have hP := (HP.out.same (alw_ch hW3)).addX hbn (by omega) (fun e => by have := hol _ e; omega)
   clear hW3 HP hbn hol c0 hb9
   generalize wr.heap.size = bn at *
   have HP := Hi9 hP; clear hP
   go_wp2_with fail
   refine (put1_is HP.out (List.mem_cons_of_mem _ (List.mem_cons_of_mem _ (List.mem_cons_self ..))) (by omega) 77 bn fnvwr26_2 (fun w1 b hM => wr26_2 hM ((HP.out.kept _ (List.mem_cons_self ..)).1.ch hM.c (by simp)) HZB.out)).mono ?_
   rintro e w2 ⟨rfl, l2, v2, hl2, hP⟩
   clear HP; have HP := Hi9 hP; clear hP
   go_wp2_with fail
   refine (put1_is HP.out (List.mem_cons_of_mem _ (List.mem_cons_of_mem _ (List.mem_cons_self ..))) (by omega) 78 bn fnvwr26_3 (fun w1 b hM => wr26_3 hM ((HP.out.kept _ (List.mem_cons_self ..)).1.ch hM.c (by simp)) HZB.out)).mono ?_
   rintro e w3 ⟨rfl, l3, v3, hl3, hP⟩
   clear HP; have HP := Hi9 hP; clear hP
   go_wp2_with fail
   refine (put1_is HP.out (List.mem_cons_of_mem _ (List.mem_cons_of_mem _ (List.mem_cons_self ..))) (by omega) 79 bn fnvwr26_4 (fun w1 b hM => wr26_4 hM ((HP.out.kept _ (List.mem_cons_self ..)).1.ch hM.c (by simp)) HZB.out)).mono ?_
   rintro e w4 ⟨rfl, l4, v4, hl4, hP⟩
   clear HP; have HP := Hi9 hP; clear hP
   go_wp2_with fail
   refine (put1_is HP.out (List.mem_cons_of_mem _ (List.mem_cons_of_mem _ (List.mem_cons_self ..))) (by omega) 80 bn fnvwr26_5 (fun w1 b hM => wr26_5 hM ((HP.out.kept _ (List.mem_cons_self ..)).1.ch hM.c (by simp)) HZB.out)).mono ?_
   rintro e w5 ⟨rfl, l5, v5, hl5, hP⟩
   clear HP; have HP := Hi9 hP; clear hP
   go_wp2_with fail
   refine (put1_is HP.out (List.mem_cons_of_mem _ (List.mem_cons_of_mem _ (List.mem_cons_self ..))) (by omega) 81 bn fnvwr26_6 (fun w1 b hM => wr26_6 hM ((HP.out.kept _ (List.mem_cons_self ..)).1.ch hM.c (by simp)) HZB.out)).mono ?_
   rintro e w6 ⟨rfl, l6, v6, hl6, hP⟩
   clear HP; have HP := Hi9 hP; clear hP
   go_wp2_with fail
   refine (put1_is HP.out (List.mem_cons_of_mem _ (List.mem_cons_of_mem _ (List.mem_cons_self ..))) (by omega) 82 bn fnvwr26_7 (fun w1 b hM => wr26_7 hM ((HP.out.kept _ (List.mem_cons_self ..)).1.ch hM.c (by simp)) HZB.out)).mono ?_
   rintro e w7 ⟨rfl, l7, v7, hl7, hP⟩
   clear HP; have HP := Hi9 hP; clear hP
   go_wp2_with fail
   refine (put1_is HP.out (List.mem_cons_of_mem _ (List.mem_cons_of_mem _ (List.mem_cons_self ..))) (by omega) 83 bn fnvwr26_8 (fun w1 b hM => wr26_8 hM ((HP.out.kept _ (List.mem_cons_self ..)).1.ch hM.c (by simp)) HZB.out)).mono ?_
   rintro e w8 ⟨rfl, l8, v8, hl8, hP⟩
   clear HP; have HP := Hi9 hP; clear hP
   go_wp2_with fail
   go_roundw
   case rel => exact ⟨k + 1, l8, v8, by omega, by go_num, by omega, HP.out.dropX⟩
   case measure => simp [intOf]; omega
  ·have dk : decide ((k : Int) < 4) = false := decide_eq_false (by omega)
   have hP := hP.dropX
   have HP := Hi9 hP; clear hP
   go_wp2_with fail
   refine (put0_is HP.out (hgm _) (by omega) 84 fnvwr26_9 (fun w1 b hM => wr26_9 hM)).mono ?_
   rintro e w9 ⟨rfl, l9, v9, hl9, hP⟩
   clear HP; have HP := Hi9 hP; clear hP
   go_wp2_with fail
   refine (put0_is HP.out (hgm _) (by omega) 85 fnvwr26_10 (fun w1 b hM => wr26_10 hM)).mono ?_
   rintro e w10 ⟨rfl, l10, v10, hl10, hP⟩
   clear HP; have HP := Hi9 hP; clear hP
   go_wp2_with fail
   refine (put0_is HP.out (hgm _) (by omega) 86 fnvwr26_11 (fun w1 b hM => wr26_11 hM)).mono ?_
   rintro e w11 ⟨rfl, l11, v11, hl11, hP⟩
   clear HP; have HP := Hi9 hP; clear hP
   go_wp2_with fail
   refine (put0_is HP.out (hgm _) (by omega) 87 fnvwr26_12 (fun w1 b hM => wr26_12 hM)).mono ?_
   rintro e w12 ⟨rfl, l12, v12, hl12, hP⟩
   clear HP; have HP := Hi9 hP; clear hP
   go_wp2_with fail
   refine (put0_is HP.out (hgm _) (by omega) 88 fnvwr26_13 (fun w1 b hM => wr26_13 hM)).mono ?_
   rintro e w13 ⟨rfl, l13, v13, hl13, hP⟩
   clear HP; have HP := Hi9 hP; clear hP
   go_wp2_with fail
   refine (put0_is HP.out (hgm _) (by omega) 89 fnvwr26_14 (fun w1 b hM => wr26_14 hM)).mono ?_
   rintro e w14 ⟨rfl, l14, v14, hl14, hP⟩
   clear HP; have HP := Hi9 hP; clear hP
   go_wp2_with fail
   refine (put1_is HP.out (hgm _) (by omega) 90 B4 fnvwr26_15 (fun w1 b hM => wr26_15 hM (p := p) (q := q) HLS.out (by rw [← HS4.out]; exact (HP.out.kept _ (List.mem_cons_of_mem _ (List.mem_cons_of_mem _ (List.mem_cons_self ..)))).1.ch hM.c (by simp)) (fun e => by have h1 := hM.lo; have h2 := (HP.out.kept _ (List.mem_cons_of_mem _ (List.mem_cons_of_mem _ (List.mem_cons_self ..)))).1.lt; omega))).mono ?_
   rintro e w15 ⟨rfl, l15, v15, hl15, hP⟩
   clear HP; have HP := Hi9 hP; clear hP
   go_wp2_with fail
   refine (put0_is HP.out (hgm _) (by omega) 92 fnvwr26_16 (fun w1 b hM => wr26_16 hM)).mono ?_
   rintro e w16 ⟨rfl, l16, v16, hl16, hP⟩
   clear HP; have HP := Hi9 hP; clear hP
   go_wp2_with fail
   refine (put0_is HP.out (hgm _) (by omega) 93 fnvwr26_17 (fun w1 b hM => wr26_17 hM)).mono ?_
   rintro e w17 ⟨rfl, l17, v17, hl17, hP⟩
   clear HP; have HP := Hi9 hP; clear hP
   go_wp2_with fail
   refine (put0_is HP.out (hgm _) (by omega) 94 fnvwr26_18 (fun w1 b hM => wr26_18 hM)).mono ?_
   rintro e w18 ⟨rfl, l18, v18, hl18, hP⟩
   clear HP; have HP := Hi9 hP; clear hP
   go_wp2_with fail
   refine (put0_is HP.out (hgm _) (by omega) 95 fnvwr26_19 (fun w1 b hM => wr26_19 hM)).mono ?_
   rintro e w19 ⟨rfl, l19, v19, hl19, hP⟩
   clear HP; have HP := Hi9 hP; clear hP
   go_wp2_with fail
   refine (put0_is HP.out (hgm _) (by omega) 96 fnvwr26_20 (fun w1 b hM => wr26_20 hM)).mono ?_
   rintro e w20 ⟨rfl, l20, v20, hl20, hP⟩
   clear HP; have HP := Hi9 hP; clear hP
   go_wp2_with fail
   refine (put0_is HP.out (hgm _) (by omega) 97 fnvwr26_21 (fun w1 b hM => wr26_21 hM)).mono ?_
   rintro e w21 ⟨rfl, l21, v21, hl21, hP⟩
   clear HP; have HP := Hi9 hP; clear hP
   obtain ⟨va, vc, rfl⟩ := row.shape HP.out.row
   have hacts := HP.out.acts rfl
   have c0 := HP.out.all.cell (i := 0) rfl
   have hn : l21.length ≤ 1000 := by omega
   have hlt := fun x hx => (HP.out.ok x (List.mem_cons_of_mem _ hx)).2
   have hgr := (HP.out.ok good (List.mem_cons_self ..)).1 w21 (Ch.refl _ _)
   have hgl := (HP.out.ok good (List.mem_cons_self ..)).2
   have hcw := HP.out.ch
   have hst := (HP.out.kept _ (List.mem_cons_of_mem _ (List.mem_cons_self ..))).1
   have hgb := (HP.out.kept _ (hgm _)).1
   clear HP
   obtain ⟨n, hn0⟩ : ∃ n, n = l21.length := ⟨_, rfl⟩
   rw [← hn0] at hn hacts c0
   have HACTS := Hi9 hacts; clear hacts hn0
   clear hl9 hl10 hl11 hl12 hl13 hl14 hl15 hl16 hl17 hl18 hl19 hl20 hl21
   have HLT := Hi9 hlt; clear hlt
   have HGR := Hi9 hgr; clear hgr
   have HGL := Hi9 hgl; clear hgl
   have HCW := Hi9 hcw; clear hcw
   have HST := Hi9 hst; clear hst
   have HGB := Hi9 hgb; clear hgb
   clear hlen
   go_wp2_with fail
   go_loopw [86] (fun i wr => ∃ k : Nat, k ≤ n ∧ i = .int .i64 k ∧ Ch [] w21 wr) (fun i _ => n - (intOf i).toNat)
   case atStart => exact ⟨0, by omega, rfl, Ch.refl _ _⟩
   case round =>
    obtain ⟨k, hk, rfl, hc⟩ := hrel
    by_cases hkn : k < n
    ·have dkn : decide ((k : Int) < n) = true := decide_eq_true (by omega)
     obtain ⟨x, hx⟩ : ∃ x, l21[k]? = some x := ⟨_, List.getElem?_eq_getElem (by rw [HACTS.out.len]; exact hkn)⟩
     have hxm := List.mem_of_getElem? hx
     obtain ⟨xb, xo, rfl, hcl⟩ := HACTS.out.cells k x hx
     have c0 : wr.cell? ⟨xb, xo + k * 8, none⟩ = some (.int .u8 x.kind) := (hc.cell (cell_lt (hcl 0 _ rfl)) (by simp)).trans (hcl 0 _ rfl)
     have c1 : wr.cell? ⟨xb, xo + k * 8 + 1, none⟩ = some (.int .i64 x.C) := (hc.cell (cell_lt (hcl 1 _ rfl)) (by simp)).trans (hcl 1 _ rfl)
     have c2 : wr.cell? ⟨xb, xo + k * 8 + 2, none⟩ = some (.slice x.x.a x.x.l.length x.x.c) := (hc.cell (cell_lt (hcl 2 _ rfl)) (by simp)).trans (hcl 2 _ rfl)
     have c3 : wr.cell? ⟨xb, xo + k * 8 + 3, none⟩ = some (.slice x.y.a x.y.l.length x.y.c) := (hc.cell (cell_lt (hcl 3 _ rfl)) (by simp)).trans (hcl 3 _ rfl)
     have c4 : wr.cell? ⟨xb, xo + k * 8 + 4, none⟩ = some (.int .u32 x.N) := (hc.cell (cell_lt (hcl 4 _ rfl)) (by simp)).trans (hcl 4 _ rfl)
     have c5 : wr.cell? ⟨xb, xo + k * 8 + 5, none⟩ = some (.slice x.gs.a x.gs.l.length x.gs.c) := (hc.cell (cell_lt (hcl 5 _ rfl)) (by simp)).trans (hcl 5 _ rfl)
     have c6 : wr.cell? ⟨xb, xo + k * 8 + 6, none⟩ = some (.slice x.la x.Ls.length x.lc) := (hc.cell (cell_lt (hcl 6 _ rfl)) (by simp)).trans (hcl 6 _ rfl)
     have c7 : wr.cell? ⟨xb, xo + k * 8 + 7, none⟩ = some (.slice x.ma x.Ms.length x.mc) := (hc.cell (cell_lt (hcl 7 _ rfl)) (by simp)).trans (hcl 7 _ rfl)
     have hxr := (HACTS.out.ok x hxm).ch hc
     have hgr := HGR.out.ch hc
     have hxl := HLT.out x hxm
     have HXR := Hi9 hxr; clear hxr
     have HGR2 := Hi9 hgr; clear hgr
     have HXL := Hi9 hxl; clear hxl hcl hx hxm
     have HC := Hi9 hc; clear hc
     go_upto_region 33 with fail
     refine wp_alw ?_
     intro W3 hW3
     have hb3 := alw_blk (xs := [.int .u8 x.kind, .int .i64 x.C, .slice x.x.a x.x.l.length x.x.c, .slice x.y.a x.y.l.length x.y.c, .int .u32 x.N, .slice x.gs.a x.gs.l.length x.gs.c, .slice x.la x.Ls.length x.lc, .slice x.ma x.Ms.length x.mc]) hW3
     have hc3 := alw_ch hW3
     have hc := HC.out.trans hc3 (by simp)
     have hst := HST.out.ch hc (by simp)
     have hgb := HGB.out.ch hc (by simp)
     clear hW3 c0 c1 c2 c3 c4 c5 c6 c7
     have HXR3 := Hi9 (HXR.out.ch hc3); clear HXR
     have HGR3 := Hi9 (HGR2.out.ch hc3); clear HGR2 hc3
     have s0 := hst.cell (i := 0) rfl
     have s1 := hst.cell (i := 1) rfl
     have x0 := hb3.cell (i := 0) rfl
     have x1 := hb3.cell (i := 1) rfl
     have x2 := hb3.cell (i := 2) rfl
     have x3 := hb3.cell (i := 3) rfl
     have x4 := hb3.cell (i := 4) rfl
     have x5 := hb3.cell (i := 5) rfl
     have x6 := hb3.cell (i := 6) rfl
     have x7 := hb3.cell (i := 7) rfl
     have y0 : W3.cell? ⟨B8, 0, none⟩ = some (.int .u8 good.kind) := hgb.cell (i := 0) rfl
     have y1 : W3.cell? ⟨B8, 1, none⟩ = some (.int .i64 good.C) := hgb.cell (i := 1) rfl
     have y2 : W3.cell? ⟨B8, 2, none⟩ = some (.slice good.x.a good.x.l.length good.x.c) := hgb.cell (i := 2) rfl
     have y3 : W3.cell? ⟨B8, 3, none⟩ = some (.slice good.y.a good.y.l.length good.y.c) := hgb.cell (i := 3) rfl
     have y4 : W3.cell? ⟨B8, 4, none⟩ = some (.int .u32 good.N) := hgb.cell (i := 4) rfl
     have y5 : W3.cell? ⟨B8, 5, none⟩ = some (.slice good.gs.a good.gs.l.length good.gs.c) := hgb.cell (i := 5) rfl
     have y6 : W3.cell? ⟨B8, 6, none⟩ = some (.slice good.la good.Ls.length good.lc) := hgb.cell (i := 6) rfl
     have y7 : W3.cell? ⟨B8, 7, none⟩ = some (.slice good.ma good.Ms.length good.mc) := hgb.cell (i := 7) rfl
     clear hst hgb hb3 HC
     have HC := Hi9 hc; clear hc
     go_wp2_with fail
     refine calls_named fun W hW => ?_
     have hb : blk W W3.heap.size (x.cells ++ good.cells) := by rw [hW]; exact blk.new' _ _ rfl
     have hcq : Ch [] W3 W := by rw [hW]; exact (Ch.refl _ _).alloc _
     clear hW
     refine (makes26_is 400 6 (by omega) (mxacts2 hb (HXR3.out.ch hcq) (HGR3.out.ch hcq)) (fun y hy => by
      rcases List.mem_cons.1 hy with rfl | hy
      ·exact HXL.out
      ·rw [List.mem_singleton.1 hy]; exact HGL.out)).mono ?_
     rintro e w5 ⟨rfl, hc5⟩
     have HC5 := Hi9 ((HC.out.trans hcq (by simp)).trans hc5 (by simp)); clear hc5 hcq hb
     clear x0 x1 x2 x3 x4 x5 x6 x7 y0 y1 y2 y3 y4 y5 y6 y7 s0 s1 HC
     go_wp2_with fail
     go_roundw
     case rel => exact ⟨k + 1, by omega, by go_num, HC5.out⟩
     case measure => simp [intOf]; omega
    ·have dkn : decide ((k : Int) < n) = false := decide_eq_false (by omega)
     have HC := Hi9 hc; clear hc
     go_wp2_with fail
     refine wp_alw ?_
     intro W6 hW6
     have hbg : blk W6 wr.heap.size [.int .i64 0, .slice none 0 0, .map none, .slice none 0 0] := by rw [hW6]; exact (blk.new' _ _ (by simp)).alloc _
     have hbp : blk W6 (wr.heap.size + 1) [.pointer none, .pointer (some ⟨wr.heap.size, 0, none⟩)] := by rw [hW6]; exact blk.new' _ _ (by simp)
     have hc2 : Ch [] w21 W6 := by rw [hW6]; exact (HC.out.alloc _).alloc _
     have HN1 := Hi9 (nogr_nil W6)
     have HN2 := Hi9 (nogr_zero hbg)
     clear hW6 hbg HC
     have HBP := Hi9 hbp; clear hbp
     have HC := Hi9 hc2; clear hc2
     generalize wr.heap.size = B0 at *
     go_loopw [101] (fun i wq => ∃ k : Nat, k ≤ 2 ∧ i = .int .i64 k ∧ Ch [] W6 wq) (fun i _ => 2 - (intOf i).toNat)
     case atStart => exact ⟨0, by omega, rfl, Ch.refl _ _⟩
     case round =>
      obtain ⟨q, hq, rfl, hc⟩ := hrel
      by_cases hq2 : q < 2
      ·obtain ⟨v, hv, hn⟩ : ∃ v, [Value.pointer none, Value.pointer (some ⟨B0, 0, none⟩)][q]? = some (.pointer v) ∧ NoGr W6 (.pointer v) := by
        rcases (by omega : q = 0 ∨ q = 1) with e | e
        ·subst e; exact ⟨_, rfl, HN1.out⟩
        ·subst e; exact ⟨_, rfl, HN2.out⟩
       have e0 := (HBP.out.ch hc (by simp)).cell hv
       have HN := Hi9 hn; clear hn hv
       have dq : decide ((q : Int) < 2) = true := decide_eq_true (by omega)
       have hgb := HGB.out.ch (HC.out.trans hc (by simp)) (by simp)
       have y0 : wr.cell? ⟨B8, 0, none⟩ = some (.int .u8 good.kind) := hgb.cell (i := 0) rfl
       have y1 : wr.cell? ⟨B8, 1, none⟩ = some (.int .i64 good.C) := hgb.cell (i := 1) rfl
       have y2 : wr.cell? ⟨B8, 2, none⟩ = some (.slice good.x.a good.x.l.length good.x.c) := hgb.cell (i := 2) rfl
       have y3 : wr.cell? ⟨B8, 3, none⟩ = some (.slice good.y.a good.y.l.length good.y.c) := hgb.cell (i := 3) rfl
       have y4 : wr.cell? ⟨B8, 4, none⟩ = some (.int .u32 good.N) := hgb.cell (i := 4) rfl
       have y5 : wr.cell? ⟨B8, 5, none⟩ = some (.slice good.gs.a good.gs.l.length good.gs.c) := hgb.cell (i := 5) rfl
       have y6 : wr.cell? ⟨B8, 6, none⟩ = some (.slice good.la good.Ls.length good.lc) := hgb.cell (i := 6) rfl
       have y7 : wr.cell? ⟨B8, 7, none⟩ = some (.slice good.ma good.Ms.length good.mc) := hgb.cell (i := 7) rfl
       clear hgb
       have HCW2 := Hi9 hc; clear hc
       go_wp2_with fail
       refine calls_named fun W hW => ?_
       have hc : Ch [] wr W := by rw [hW]; repeat (first | exact Ch.refl _ _ | refine Ch.alloc ?_ _)
       clear hW
       have hcw := HCW2.out.trans hc (by simp)
       refine (program26_none (HN.out.ch hcw) good.kind _ _ _ _ _ _ _ _ _ _ _ _ _ _ _ _ _ _ _ _ _ (by rw [HGK.out]; exact hkd)).mono ?_
       rintro e w7 ⟨rfl, hc3⟩
       have HC3 := Hi9 (hcw.trans hc3 (by simp)); clear hc3 hc hcw y0 y1 y2 y3 y4 y5 y6 y7 e0
       go_wp2_with fail
       go_roundw
       case rel => exact ⟨q + 1, by omega, by go_num, HC3.out⟩
       case measure => simp [intOf]; omega
      ·have dq : decide ((q : Int) < 2) = false := decide_eq_false (by omega)
       have HCW2 := Hi9 hc; clear hc
       go_wp2_with fail
       go_ret
       exact ⟨rfl, (HCW.out.trans HC.out (by simp)).trans HCW2.out (by simp)⟩
end
end Go.Proofs.YtehljgigebhddaaGreat
