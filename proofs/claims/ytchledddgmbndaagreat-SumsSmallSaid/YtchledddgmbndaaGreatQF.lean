/-
  Walk over Begin of chapter 23's laws: a graph, and the same one of the reference. Conditions: numbers in range.
  What do leaves; an act. Conditions: none beyond the hypotheses.
  Walk over the laws' act of chapter 23: the program and the reference do the same. Conditions: both graphs the same, an act that can be read.
  Walks over makes of chapter 23's laws. Conditions: numbers in range, acts that can be read.
  From a law's argument to what the walks say: a beginning (a struct by value), and acts of sums. Conditions: those of the given row.
  Walk over SumsMakes: true, whatever comes in. Conditions: none.
-/
import Derived.Test.YtchledddgmbndaaGreatQE
import Derived.Test.YtchledddgmbndaaGreatQC
import Derived.Test.YtchledddgmbndaaGreatQD
import Derived.Deep.DeepCutAuto
import Derived.Deep.CutBlock
import Derived.Lib.SmallJoins
namespace Go.Proofs.YtchledddgmbndaaGreat
open Go.RowKit Go.Mem Go.Aig
/-- a graph, and the same one of the reference, apart from each other, made since a world -/
structure Both (w0 w : World) (g rb cap : Nat) (G : Gra) (F : List Nat) : Prop where
  gin : GIn w g G F
  rg : RG w rb cap G
  ap : rb ∉ F
  own : ∀ k ∈ F, w0.heap.size ≤ k
  rlo : w0.heap.size ≤ rb
  ch : Ch [] w0 w
theorem Both.same {w0 w w' : World} {g rb cap : Nat} {G : Gra} {F : List Nat} (h : Both w0 w g rb cap G F) (hc : Ch [] w w') : Both w0 w' g rb cap G F :=
  ⟨h.gin.same hc (by simp), h.rg.ch hc (by simp), h.ap, h.own, h.rlo, h.ch.trans hc (by simp)⟩
/-- both graphs are changed in the same way -/
theorem Both.next {w0 w w1 w2 : World} {g rb cap : Nat} {G G' : Gra} {F F' : List Nat} (h : Both w0 w g rb cap G F) (hg : GIn w1 g G' F') (hc1 : Ch F w w1) (hF : ∀ k ∈ F', k ∈ F ∨ w.heap.size ≤ k) {rb' cap' : Nat} (hr : RG w2 rb' cap' G') (hc2 : Ch [] w1 w2) (hb : rb' = rb ∨ w1.heap.size ≤ rb') : Both w0 w2 g rb' cap' G' F' := by
  have hrl := h.rg.lt
  have hz := hc1.size
  refine ⟨hg.same hc2 (by simp), hr, fun hin => ?_, fun k hk => (hF k hk).elim (h.own k) (fun e => Nat.le_trans h.ch.size e), ?_, (h.ch.trans hc1 (fun k hk => .inr (h.own k hk))).trans hc2 (by simp)⟩
  · have hlt := hg.lt _ hin
    rcases hb with rfl | e
    · rcases hF _ hin with e | e
      · exact h.ap e
      · omega
    · omega
  · rcases hb with rfl | e
    · exact h.rlo
    · have := h.ch.size; omega
theorem Both.set {w0 w w' : World} {g rb cap b : Nat} {G : Gra} {F : List Nat} (h : Both w0 w g rb cap G F) (hc : Ch [b] w w') (hb : b ∉ F) (hr : rb ≠ b) (hlo : w0.heap.size ≤ b) : Both w0 w' g rb cap G F :=
  ⟨h.gin.same hc (fun k hk hk2 => hb (by rw [List.mem_singleton.1 hk2] at hk; exact hk)), h.rg.ch hc (by simpa using hr), h.ap, h.own, h.rlo, h.ch.trans hc (fun k hk => .inr (by rw [List.mem_singleton.1 hk]; exact hlo))⟩
section
set_option maxRecDepth 100000 in
set_option maxHeartbeats 4000000 in
theorem Begin23_no (w : World) (M : Int) (N : Nat) (hM : M < 1 ∨ 65536 < M) : Calls Tryz.prog 29 #[.agg #[.int .i64 M, .int .u8 N]] w fun e w' => e = .returned (.tuple #[.pointer none, .agg #[.int .i64 0, .slice none 0 0]]) ∧ Ch [] w w' := by
  have hN := fun W => New_no (w := W) M hM
  have hR := fun W => rNew_no W M hM
  clear hM
  go_enter Tryz.func29, Tryz.ntmps29
  go_wp2_with fail
  refine (hN _).mono ?_
  rintro e w' ⟨rfl, rfl⟩
  go_wp2_with fail
  refine calls_named fun W hW => ?_
  have b1 : blk W w.heap.size [.int .i64 M, .int .u8 N] := by rw [hW]; exact (blk.new' _ _ (by simp)).alloc _
  have b3 : blk W (w.heap.size + 1) [.int .i64 0, .slice none 0 0] := by rw [hW]; exact blk.new' _ _ (by simp)
  have hc : Ch [] w W := by rw [hW]; exact ((Ch.refl _ _).alloc _).alloc _
  clear hW
  refine (hR W).mono ?_
  rintro e w1 ⟨rfl, hc1⟩
  have b3 := b3.ch hc1 (by simp)
  have z0 := b3.cell (i := 0) rfl
  have z1 := b3.cell (i := 1) rfl
  have f0 := b3.frozen (i := 0)
  have f1 := b3.frozen (i := 1)
  have hz1 := b3.lt
  have HC := Lib.hid (hc.trans hc1 (by simp)); clear hc hc1 b3 b1
  go_wp2_with fail
  refine bodyPost_ret (v := .tuple #[.pointer none, .agg #[.int .i64 0, .slice none 0 0]]) (by simp [results, Tryz.results29, go_sem, z0, z1, hz1]) rfl ?_
  refine ⟨rfl, ?_⟩
  refine Ch.trans HC.out (F' := [w.heap.size + 1]) ?_ (fun k hk => .inr (by simp at hk; omega))
  repeat (first | exact Ch.refl _ _ | refine Ch.alloc ?_ _ | refine Ch.setCell ?_ (.inl (by simp)) _)
set_option maxRecDepth 100000 in
set_option maxHeartbeats 8000000 in
theorem Begin23_yes (w : World) (M N : Nat) (h1 : 1 ≤ M) (h2 : M ≤ 65536) (_hN : N ≤ 255) : Calls Tryz.prog 29 #[.agg #[.int .i64 M, .int .u8 N]] w fun e w' => ∃ g F rb cap G, e = .returned (.tuple #[.pointer (some ⟨g, 0, none⟩), .agg #[.int .i64 G.most, .slice (some ⟨rb, 0, none⟩) G.nodes.length cap]]) ∧ Both w w' g rb cap G F := by
  have hN := fun W => New_yes (w := W) M h1 h2
  have hR := fun W => rNew_yes W M h1 h2
  obtain ⟨n, hn, hn40⟩ : ∃ n, N % 40 = n ∧ n < 40 := ⟨_, rfl, by omega⟩
  have hni : (N : Int) % 40 = n := by omega
  clear hn
  have HN := Lib.hid hN; clear hN
  have HR := Lib.hid hR; clear hR
  go_enter Tryz.func29, Tryz.ntmps29
  go_wp2_with fail
  refine calls_named fun W hW => ?_
  have b1 : blk W w.heap.size [.int .i64 M, .int .u8 N] := by rw [hW]; exact (blk.new' _ _ (by simp)).alloc _
  have b3 : blk W (w.heap.size + 1) [.int .i64 0, .slice none 0 0] := by rw [hW]; exact blk.new' _ _ (by simp)
  have hc : Ch [] w W := by rw [hW]; exact ((Ch.refl _ _).alloc _).alloc _
  have hz : W.heap.size = w.heap.size + 2 := by rw [hW]; simp
  clear hW
  refine (HN.out W).mono ?_
  rintro e w1 ⟨g, F1, rfl, hg1, hF1, hc1⟩
  have b1 := b1.ch hc1 (by simp)
  have b3 := b3.ch hc1 (by simp)
  have hc := hc.trans hc1 (by simp)
  have x0 := b1.cell (i := 0) rfl
  have x1 := b1.cell (i := 1) rfl
  have hF2 : ∀ k ∈ F1, w.heap.size + 2 ≤ k ∧ k < w1.heap.size := fun k hk => ⟨by have := hF1 k hk; omega, hg1.lt k hk⟩
  have HF2 := Lib.hid hF2; clear hF2 hF1 hc1
  have HC := Lib.hid hc; clear hc
  have HG1 := Lib.hid hg1; clear hg1
  have B1 := Lib.hid b1; clear b1
  have B3 := Lib.hid b3; clear b3
  go_wp2_with fail
  refine (HR.out _).mono ?_
  rintro e w2 ⟨rb, cap, rfl, hrg, hc2, hlo⟩
  have hz2 := hc2.size
  have hz3 := B3.out.lt
  have hbt : Both w w2 g rb cap (newG M) F1 := ⟨HG1.out.same hc2 (by simp), hrg, fun hin => by have := HF2.out _ hin; omega, fun k hk => by have := HF2.out k hk; omega, by omega, HC.out.trans hc2 (by simp)⟩
  have b1 := B1.out.ch hc2 (by simp)
  have b3 := B3.out.ch hc2 (by simp)
  generalize newG M = G0 at *
  have HBT := Lib.hid hbt; clear hbt hrg hc2 HC HG1 x0 x1
  clear B1 B3
  have B1 := Lib.hid b1; clear b1
  have B3 := Lib.hid b3; clear b3
  go_upto_region 3 with fail
  refine wp_alw ?_
  intro W3 hW3
  have hb6 := alw_blk (xs := [.int .i64 G0.most, .slice (some ⟨rb, 0, none⟩) G0.nodes.length cap]) hW3
  have hc3 := alw_ch hW3
  have hbt := HBT.out.same hc3
  have b1 := B1.out.ch hc3 (by simp)
  have b3 := B3.out.ch hc3 (by simp)
  have hrb6 : rb ≠ w2.heap.size := rg_ne HBT.out.rg
  have hlo2 : w.heap.size + 2 ≤ rb := by omega
  have h6F : w2.heap.size ∉ F1 := fun hin => by have := HF2.out _ hin; omega
  have h3F : w.heap.size + 1 ∉ F1 := fun hin => by have := HF2.out _ hin; omega
  have h6lo : w.heap.size + 2 ≤ w2.heap.size := by omega
  clear hW3 hc3 HBT B1 B3 hlo
  generalize w2.heap.size = b6 at *
  have x0 := b1.cell (i := 0) rfl
  have x1 := b1.cell (i := 1) rfl
  have HBT := Lib.hid hbt; clear hbt
  have B6 := Lib.hid hb6; clear hb6
  have B3 := Lib.hid b3; clear b3 b1
  go_wp2_with fail
  clear hni
  go_loopw [39] (fun i wr => ∃ (k : Nat) (G : Gra) (F : List Nat) (rb cap : Nat), k ≤ n ∧ i = .int .i64 k ∧ Both w wr g rb cap G F ∧ b6 ∉ F ∧ w.heap.size + 1 ∉ F ∧ rb ≠ b6 ∧ w.heap.size + 2 ≤ rb ∧ blk wr b6 [.int .i64 G.most, .slice (some ⟨rb, 0, none⟩) G.nodes.length cap] ∧ blk wr (w.heap.size + 1) [.int .i64 0, .slice none 0 0]) (fun i _ => n - (intOf i).toNat)
  case atStart => exact ⟨0, G0, F1, rb, cap, by omega, rfl, HBT.out, h6F, h3F, hrb6, hlo2, B6.out, B3.out⟩
  case round =>
    clear HBT B6 B3 h6F h3F hrb6 hlo2 x0 x1 HN HR
    obtain ⟨k, G, F, rb, cap, hk, rfl, hbt, h6F, h3F, hrb6, hlo2, b6c, b3⟩ := hrel
    have hwr6 := b6c.lt
    by_cases hlt : k < n
    · have hI := Input_g hbt.gin
      have HI := Lib.hid hI; clear hI
      have HBT := Lib.hid hbt; clear hbt
      have B6 := Lib.hid b6c; clear b6c
      have B3 := Lib.hid b3; clear b3
      go_wp2_with fail
      refine HI.out.mono ?_
      rintro e w4 ⟨rfl, F', hg4, hc4, hF4, _⟩
      have hp := rPut_is (HBT.out.rg.ch hc4 HBT.out.ap) ⟨2, 0, 0, 0⟩ (fun hm => by
        have hok := hg4.ok
        unfold doInput put at hok
        rw [if_neg (by omega)] at hok
        exact hok)
      have b6c := B6.out.ch hc4 h6F
      have b3 := B3.out.ch hc4 h3F
      have y0 := b6c.cell (i := 0) rfl
      have y1 := b6c.cell (i := 1) rfl
      have h6F' : b6 ∉ F' := fun hin => by rcases hF4 _ hin with e | e; exact h6F e; omega
      have h3F' : w.heap.size + 1 ∉ F' := fun hin => by rcases hF4 _ hin with e | e; exact h3F e; have := B3.out.lt; omega
      have hz4 := b6c.lt
      have HP := Lib.hid hp; clear hp
      have HG4 := Lib.hid hg4; clear hg4
      have HC4 := Lib.hid hc4; clear hc4
      have HF4 := Lib.hid hF4; clear hF4
      have BB6 := Lib.hid b6c; clear b6c
      have BB3 := Lib.hid b3; clear b3
      go_wp2_with fail
      refine HP.out.mono ?_
      rintro e w5 ⟨rb', cap', rfl, hrg5, hc5, hfr⟩
      have hbt5 := HBT.out.next (G' := (put G ⟨2, 0, 0, 0⟩).1) HG4.out HC4.out HF4.out hrg5 hc5 hfr
      have hrb' : rb' ≠ b6 := by rcases hfr with e | e <;> omega
      have hlo' : w.heap.size + 2 ≤ rb' := by rcases hfr with e | e <;> omega
      generalize (put G ⟨2, 0, 0, 0⟩).1 = G1 at *
      have b6c := BB6.out.ch hc5 (by simp)
      have b3 := BB3.out.ch hc5 (by simp)
      have f0 := b6c.frozen (i := 0)
      have f1 := b6c.frozen (i := 1)
      have y0 := b6c.cell (i := 0) rfl
      have y1 := b6c.cell (i := 1) rfl
      have HBT5 := Lib.hid hbt5; clear hbt5
      have BC6 := Lib.hid b6c; clear b6c
      have BC3 := Lib.hid b3; clear b3
      clear HP HG4 HC4 HF4 BB6 BB3 hrg5 hc5 hfr HI
      go_wp2_with fail
      go_roundw
      case rel =>
        have hcs := set2_ch (w := w5) (b := b6) (u := .int .i64 G1.most) (v := .slice (some ⟨rb', 0, none⟩) G1.nodes.length cap') rfl
        exact ⟨k + 1, G1, F', rb', cap', by omega, by go_num, HBT5.out.set hcs h6F' hrb' (by omega), h6F', h3F', hrb', hlo', (BC6.out.set (i := 0) _).set (i := 1) _, BC3.out.ch hcs (by simp; omega)⟩
      case measure => simp [intOf]; omega
    · have HBT := Lib.hid hbt; clear hbt
      have B6 := Lib.hid b6c; clear b6c
      have B3 := Lib.hid b3; clear b3
      go_wp2_with fail
      go_loopw [9] (fun i wr => ∃ (k : Nat) (G : Gra) (F : List Nat) (rb cap : Nat), 1 ≤ k ∧ k ≤ n + 1 ∧ i = .int .i64 k ∧ Both w wr g rb cap G F ∧ b6 ∉ F ∧ w.heap.size + 1 ∉ F ∧ rb ≠ b6 ∧ w.heap.size + 2 ≤ rb ∧ blk wr b6 [.int .i64 G.most, .slice (some ⟨rb, 0, none⟩) G.nodes.length cap] ∧ blk wr (w.heap.size + 1) [.int .i64 0, .slice none 0 0]) (fun i _ => n - (intOf i).toNat)
      case atStart => exact ⟨1, G, F, rb, cap, by omega, by omega, rfl, HBT.out, h6F, h3F, hrb6, hlo2, B6.out, B3.out⟩
      case round =>
        clear HBT B6 B3 h6F h3F hrb6 hlo2 hwr6
        obtain ⟨k, G, F, rb, cap, hk1, hk, rfl, hbt, h6F, h3F, hrb6, hlo2, b6c, b3⟩ := hrel
        have hwr6 := b6c.lt
        have y0 := b6c.cell (i := 0) rfl
        have y1 := b6c.cell (i := 1) rfl
        by_cases hlt : k < n
        · have hRt := rRight_is hbt.rg (2 * (k : Int) + 2)
          have hrt : right G.nodes (2 * (k : Int) + 2) = true → 2 * k + 3 < 2 * G.nodes.length := fun e => by
            unfold right at e
            have := of_decide_eq_true e
            omega
          cases hq : right G.nodes (2 * (k : Int) + 2)
          · rw [hq] at hRt
            have HRT := Lib.hid hRt; clear hRt hrt hq
            have HBT := Lib.hid hbt; clear hbt
            have B6 := Lib.hid b6c; clear b6c
            have B3 := Lib.hid b3; clear b3
            go_wp2_with fail
            refine HRT.out.mono ?_
            rintro e w4 ⟨rfl, hc4⟩
            have HC4 := Lib.hid hc4; clear hc4 HRT
            go_wp2_with fail
            go_roundw
            case rel => exact ⟨k + 1, G, F, rb, cap, by omega, by omega, by go_num, HBT.out.same HC4.out, h6F, h3F, hrb6, hlo2, B6.out.ch HC4.out (by simp), B3.out.ch HC4.out (by simp)⟩
            case measure => simp [intOf]; omega
          · rw [hq] at hRt
            have hv := hrt hq
            have HRT := Lib.hid hRt; clear hRt hrt hq
            have HBT := Lib.hid hbt; clear hbt
            have B6 := Lib.hid b6c; clear b6c
            have B3 := Lib.hid b3; clear b3
            have hA := fun (W : World) (hW : Ch [] wr W) => And_r (HBT.out.same hW).gin (a := 2 * k) (b := 2 * k + 3) (by omega) hv
            have hB := fun (W : World) (F9 : List Nat) (hW : Ch F9 wr W) (hF : rb ∉ F9) => rAnd_is (HBT.out.rg.ch hW hF) (a := 2 * k) (b := 2 * k + 3) (by omega) hv
            rw [show ((2 * k : Nat) : Int) = 2 * (k : Int) by omega, show ((2 * k + 3 : Nat) : Int) = 2 * (k : Int) + 3 by omega] at hA hB
            generalize and G (2 * k) (2 * k + 3) = X at hA hB
            have HA := Lib.hid hA; clear hA
            have HB := Lib.hid hB; clear hB
            go_wp2_with fail
            refine HRT.out.mono ?_
            rintro e w4 ⟨rfl, hc4⟩
            have hA := HA.out w4 hc4
            have HA4 := Lib.hid hA; clear hA HA
            have HC4 := Lib.hid hc4; clear hc4 HRT
            go_wp2_with fail
            refine HA4.out.mono ?_
            rintro e w5 ⟨rfl, F', hg5, hc5, hF5, _⟩
            have hB5 := HB.out w5 F (HC4.out.mono (by simp) |>.trans hc5 (fun k hk => .inl hk)) HBT.out.ap
            have hwb := HBT.out.same HC4.out
            have b6c := (B6.out.ch HC4.out (by simp)).ch hc5 h6F
            have b3 := (B3.out.ch HC4.out (by simp)).ch hc5 h3F
            have y0 := b6c.cell (i := 0) rfl
            have y1 := b6c.cell (i := 1) rfl
            have hz4 := HC4.out.size
            have h6F' : b6 ∉ F' := fun hin => by rcases hF5 _ hin with e | e; exact h6F e; omega
            have h3F' : w.heap.size + 1 ∉ F' := fun hin => by rcases hF5 _ hin with e | e; exact h3F e; have := B3.out.lt; omega
            have hz5 := b6c.lt
            have HB5 := Lib.hid hB5; clear hB5 HB
            have HWB := Lib.hid hwb; clear hwb
            have HG5 := Lib.hid hg5; clear hg5
            have HC5 := Lib.hid hc5; clear hc5
            have HF5 := Lib.hid hF5; clear hF5
            have BB6 := Lib.hid b6c; clear b6c
            have BB3 := Lib.hid b3; clear b3
            go_wp2_with fail
            refine HB5.out.mono ?_
            rintro e w6 ⟨rb', cap', rfl, hrg6, hc6, hfr⟩
            have hbt6 := HWB.out.next (G' := X.1) HG5.out HC5.out HF5.out hrg6 hc6 hfr
            have hrb' : rb' ≠ b6 := by rcases hfr with e | e <;> omega
            have hlo' : w.heap.size + 2 ≤ rb' := by rcases hfr with e | e <;> omega
            obtain ⟨G1, r1, e1⟩ := X
            simp only at hbt6 hrg6
            have b6c := BB6.out.ch hc6 (by simp)
            have b3 := BB3.out.ch hc6 (by simp)
            have f0 := b6c.frozen (i := 0)
            have f1 := b6c.frozen (i := 1)
            have y0 := b6c.cell (i := 0) rfl
            have y1 := b6c.cell (i := 1) rfl
            have HBT6 := Lib.hid hbt6; clear hbt6
            have BC6 := Lib.hid b6c; clear b6c
            have BC3 := Lib.hid b3; clear b3
            clear HB5 HG5 HC5 HF5 BB6 BB3 hrg6 hc6 hfr HA4 HWB
            go_wp2_with fail
            go_roundw
            case rel =>
              have hcs := set2_ch (w := w6) (b := b6) (u := .int .i64 G1.most) (v := .slice (some ⟨rb', 0, none⟩) G1.nodes.length cap') rfl
              exact ⟨k + 1, G1, F', rb', cap', by omega, by omega, by go_num, HBT6.out.set hcs h6F' hrb' (by omega), h6F', h3F', hrb', hlo', (BC6.out.set (i := 0) _).set (i := 1) _, BC3.out.ch hcs (by simp; omega)⟩
            case measure => simp [intOf]; omega
        · have HBT := Lib.hid hbt; clear hbt
          have z0 := b3.cell (i := 0) rfl
          have z1 := b3.cell (i := 1) rfl
          have g0 := b3.frozen (i := 0)
          have g1 := b3.frozen (i := 1)
          clear b6c b3
          go_wp2_with fail
          refine Ord.St.door (fun _ => True) [.fl, .rd, .fl, .ef] [0, 0, 1, 7] [0, 1, 2, 3] mixed (by kernel_rfl) rfl ?_
          refine Ord.St.fl2 (T' := ?_) 0 [1, 2, 3] _ _ rfl (by kernel_rfl) rfl rfl rfl rfl (fun K w' hk => ?_) ?_
          rotate_left
          · go_step; exact hk
          refine Ord.St.rd2 (T' := ?_) 1 [2, 3] _ _ rfl (by kernel_rfl) rfl rfl rfl rfl (fun K hk => ?_) ?_
          rotate_left
          · go_step; exact hk
          refine Ord.St.fl2 (T' := ?_) 2 [3] _ _ rfl (by kernel_rfl) rfl rfl rfl rfl (fun K w' hk => ?_) ?_
          rotate_left
          · go_step; exact hk
          refine Ord.St.ef 3 [] _ rfl (by kernel_rfl) (fun K hK => ?_)
          go_wp2_with fail
          refine ⟨rfl, hK _ _ ?_⟩; clear hK K
          refine Ord.St.nil ?_
          go_wp2_with fail
          have hcs : Ch [w.heap.size + 1] wr ((wr.setCell ⟨w.heap.size + 1, 0, none⟩ (.int .i64 G.most)).setCell ⟨w.heap.size + 1, 1, none⟩ (.slice (some ⟨rb, 0, none⟩) G.nodes.length cap)).drew := (((Ch.refl _ _).setCell (by simp) _).setCell (by simp) _).drew
          refine bodyPost_ret (v := .tuple #[.pointer (some ⟨g, 0, none⟩), .agg #[.int .i64 G.most, .slice (some ⟨rb, 0, none⟩) G.nodes.length cap]]) (by simp [results, Tryz.results29, go_sem, z0, z1]) rfl ?_
          exact ⟨g, F, rb, cap, G, rfl, HBT.out.set hcs h3F (by omega) (by omega)⟩
end
end Go.Proofs.YtchledddgmbndaaGreat
namespace Go.Proofs.YtchledddgmbndaaGreat
open Go.RowKit Go.Mem Go.Aig
theorem heap_alloc_at {w : World} {b : Nat} (o : Obj) (hb : b = w.heap.size) : (w.alloc o).heap[b]? = some o := hb ▸ heap_alloc_new w o
theorem Sl.ch2 {F : List Nat} {w w' : World} {a : Option Addr} {xs : List Int} (h : Sl w a xs) (hc : Ch F w w') (hF : 0 < xs.length → ∀ p, a = some p → p.block ∉ F) : Sl w' a xs :=
  ⟨fun i x hx => by
    obtain ⟨b, o, rfl, hcell⟩ := h.cells i x hx
    have hlt := (List.getElem?_eq_some_iff.1 hx).1
    exact ⟨b, o, rfl, (hc.cell (p := ⟨b, o + i, none⟩) (cell_lt hcell) (hF (by omega) ⟨b, o, none⟩ rfl)).trans hcell⟩, h.bd⟩
/-- an act, as a value: its kind, its numbers, its list -/
structure ActV (w : World) (F : List Nat) (la : Option Addr) (n lcap kind : Nat) (A B C : Int) (L : List Int) : Prop where
  kb : kind ≤ 255
  a : -9223372036854775808 ≤ A ∧ A ≤ 9223372036854775807
  b : -9223372036854775808 ≤ B ∧ B ≤ 9223372036854775807
  c : -9223372036854775808 ≤ C ∧ C ≤ 9223372036854775807
  bd : ∀ x ∈ L, -9223372036854775808 ≤ x ∧ x ≤ 9223372036854775807
  sl : Sl w la L
  len : L.length = n
  most : n ≤ 1000000
  far : 0 < n → ∀ p, la = some p → p.block < w.heap.size ∧ p.block ∉ F
/-- what do leaves: both graphs, the same, apart -/
def DoTo (w : World) (g rb : Nat) (F : List Nat) (G' : Gra) (e : Ending) (w' : World) : Prop := ∃ rb' cap' F', e = .returned (.tuple #[.agg #[.int .i64 G'.most, .slice (some ⟨rb', 0, none⟩) G'.nodes.length cap'], .bool true]) ∧ GIn w' g G' F' ∧ RG w' rb' cap' G' ∧ rb' ∉ F' ∧ Ch F w w' ∧ (∀ k ∈ F', k ∈ F ∨ w.heap.size ≤ k) ∧ (rb' = rb ∨ w.heap.size ≤ rb')
end Go.Proofs.YtchledddgmbndaaGreat
namespace Go.Proofs.YtchledddgmbndaaGreat
open Go.RowKit Go.Mem Go.Aig
/-- blocks keep their length -/
def ShqB (w w' : World) : Prop := ∀ b ys, blk w b ys → ∃ ys', blk w' b ys' ∧ ys'.length = ys.length
theorem ShqB.refl (w : World) : ShqB w w := fun _ ys h => ⟨ys, h, rfl⟩
theorem ShqB.set {w w' : World} (h : ShqB w w') (b k : Nat) (v : Value) : ShqB w (w'.setCell ⟨b, k, none⟩ v) := fun c ys hc => by
  obtain ⟨zs, h1, h2⟩ := h c ys hc
  by_cases e : c = b
  · subst e; exact ⟨_, h1.set (i := k) v, by simpa using h2⟩
  · exact ⟨zs, h1.other e v, h2⟩
theorem ShqB.cell {w w' : World} {e : TypeId} {a : Option Addr} {n c k : Nat} {xs : List Value} (h : ShqB w w') (hr : row w e 1 (.slice a n c) n xs) (hk : k < n) : ∃ (b : Nat) (old : Value), a = some ⟨b, 0, none⟩ ∧ w'.cell? ⟨b, k, none⟩ = some old ∧ w'.frozen? ⟨b, k, none⟩ = false := by
  obtain ⟨b, ys, e1, hb, hl⟩ := rowBlk hr k hk
  obtain ⟨zs, h1, h2⟩ := h b ys hb
  exact ⟨b, _, e1, h1.cell (List.getElem?_eq_getElem (show k < zs.length by omega)), h1.frozen⟩
theorem natInts_len' (l : List Nat) : (natInts l).length = l.length := by simp [natInts]
/-- what an act leaves: both graphs, changed in the same way -/
def ATo (W w : World) (g rb : Nat) (F : List Nat) (e : Ending) (w' : World) : Prop := ∃ G' F' rb' cap', e = .returned (.tuple #[.agg #[.int .i64 G'.most, .slice (some ⟨rb', 0, none⟩) G'.nodes.length cap'], .bool true]) ∧ Both W w' g rb' cap' G' F' ∧ (∀ q ∈ F', q ∈ F ∨ w.heap.size ≤ q) ∧ (rb' = rb ∨ w.heap.size ≤ rb') ∧ Ch F w w'
theorem ATo.of {W w w' : World} {g rb cap : Nat} {G : Gra} {F : List Nat} (hb : Both W w g rb cap G F) {G' : Gra} {F' : List Nat} {rb' cap' : Nat} (hg : GIn w' g G' F') (hr : RG w' rb' cap' G') (hap : rb' ∉ F') (hfn : ∀ q ∈ F', q ∈ F ∨ w.heap.size ≤ q) (hfr : rb' = rb ∨ w.heap.size ≤ rb') (hc : Ch F w w') :
    ATo W w g rb F (.returned (.tuple #[.agg #[.int .i64 G'.most, .slice (some ⟨rb', 0, none⟩) G'.nodes.length cap'], .bool true])) w' := by
  have hz := hb.ch.size
  have hlo := hb.rlo
  refine ⟨G', F', rb', cap', rfl, ⟨hg, hr, hap, fun q hq => ?_, by omega, hb.ch.trans hc (fun q hq => .inr (hb.own q hq))⟩, hfn, hfr, hc⟩
  rcases hfn q hq with e | e
  · exact hb.own q e
  · omega
section
set_option maxRecDepth 100000 in
set_option maxHeartbeats 8000000 in
theorem act23_is {W w : World} {g rb cap : Nat} {G : Gra} {F : List Nat} (hbt : Both W w g rb cap G F) (kind : Nat) {xa ya : Option Addr} {X Y : List Int} (xc yc : Nat) (N : Int) (hsx : Sl w xa X) (hsy : Sl w ya Y)
    (hxb : ∀ z ∈ X, -9223372036854775808 ≤ z ∧ z ≤ 9223372036854775807) (hyb : ∀ z ∈ Y, -9223372036854775808 ≤ z ∧ z ≤ 9223372036854775807) (hxf : X.length ≤ 1000) (hyf : Y.length ≤ 1000)
    (hxo : 0 < X.length → ∀ p, xa = some p → p.block < W.heap.size) (hyo : 0 < Y.length → ∀ p, ya = some p → p.block < W.heap.size) :
    Calls Tryz.prog 30 #[.pointer (some ⟨g, 0, none⟩), .agg #[.int .i64 G.most, .slice (some ⟨rb, 0, none⟩) G.nodes.length cap], .agg #[.int .u8 kind, .slice xa X.length xc, .slice ya Y.length yc, .int .i64 N]] w (ATo W w g rb F) := by
  obtain ⟨K, hK⟩ : ∃ K, kind % 13 = K := ⟨_, rfl⟩
  have hK12 : K ≤ 12 := by omega
  have hKi : (kind : Int) % 13 = K := by omega
  have hFw : ∀ q ∈ F, q < w.heap.size := hbt.gin.lt
  have hWw := hbt.ch.size
  have hrbw := hbt.rg.lt
  have HSX := Lib.hid hsx; clear hsx
  have HSY := Lib.hid hsy; clear hsy
  have HXB := Lib.hid hxb; clear hxb
  have HYB := Lib.hid hyb; clear hyb
  have HBT0 := Lib.hid hbt
  have HBT := Lib.hid hbt; clear hbt
  have HXO := Lib.hid hxo; clear hxo
  have HYO := Lib.hid hyo; clear hyo
  have HFW := Lib.hid hFw; clear hFw
  have HKI := Lib.hid hKi; clear hKi
  go_enter Tryz.func30, Tryz.ntmps30
  go_upto_region 1 with fail
  refine wp_alw ?_
  intro W1 hW1
  have hb4 : blk W1 w.heap.size [.int .i64 G.most, .slice (some ⟨rb, 0, none⟩) G.nodes.length cap] := by rw [hW1]; exact ((blk.new' _ _ rfl).alloc _).alloc _
  have hb5 : blk W1 (w.heap.size + 1) [.int .u8 kind, .slice xa X.length xc, .slice ya Y.length yc, .int .i64 N] := by rw [hW1]; exact (blk.new' _ _ (by simp)).alloc _
  have hb6 : blk W1 (w.heap.size + 2) [.int .i64 0, .slice none 0 0] := by rw [hW1]; exact blk.new' _ _ (by simp)
  have hc01 : Ch [] w W1 := by rw [hW1]; exact (((Ch.refl _ _).alloc _).alloc _).alloc _
  clear hW1
  have hbt := HBT.out.same hc01
  have hsx := HSX.out.ch hc01 (by simp)
  have hsy := HSY.out.ch hc01 (by simp)
  clear HBT HSX HSY
  have y1 := hb5.cell (i := 1) rfl
  have hh0 : Hold (W : Base) W1.drew g G F [] := (Hold.start ⟨hbt.gin, hbt.own, hbt.ch⟩).same (Ch.refl [] W1).drew
  have hR1 := Refs23_is (w := W1.drew) X.length xc rfl (hsx.ch (Ch.refl [] W1).drew (by simp)) (by omega)
  have HR1 := Lib.hid hR1; clear hR1
  have HH0 := Lib.hid hh0; clear hh0
  have HSX := Lib.hid hsx; clear hsx
  have HSY := Lib.hid hsy; clear hsy
  have HBT := Lib.hid hbt; clear hbt
  have B4 := Lib.hid hb4; clear hb4
  have B5 := Lib.hid hb5; clear hb5
  have B6 := Lib.hid hb6; clear hb6
  have HC01 := Lib.hid hc01; clear hc01
  have hcur : Ch [] W1 W1.drew := (Ch.refl [] W1).drew
  refine Ord.St.door (fun w' => Ch [] W1 w') [.fl, .rd, .ef, .fl, .ho, .ef, .fl, .fl] [0, 1, 3, 0, 8, 31, 63, 127] [0, 1, 2, 3, 4, 5, 6, 7] mixed (by kernel_rfl) rfl ?_
  refine Ord.St.fl2 (T' := ?_) 0 [1, 2, 3, 4, 5, 6, 7] _ _ rfl (by kernel_rfl) rfl rfl rfl rfl (fun K w' hk => ?_) ?_
  rotate_left
  · go_step; exact hk
  refine Ord.St.rd2 (T' := ?_) 1 [2, 3, 4, 5, 6, 7] _ _ rfl (by kernel_rfl) rfl rfl rfl rfl (fun K hk => ?_) ?_
  rotate_left
  · go_step; exact hk
  refine Ord.St.fl2 (T' := ?_) 3 [2, 4, 5, 6, 7] _ _ rfl (by kernel_rfl) rfl rfl rfl rfl (fun K w' hk => ?_) ?_
  rotate_left
  · go_step; exact hk
  refine Ord.St.ho2 (T' := ?_) 4 [2, 5, 6, 7] _ _ rfl (by kernel_rfl) rfl rfl rfl rfl ?_ (fun K w' hw' hk => ?_) ?_
  rotate_left
  · trivial
  · have z2 := (B5.out.ch hw' (by simp)).cell (i := 2) rfl; go_step; exact hk
  refine Ord.St.efC 2 [5, 6, 7] _ rfl (by kernel_rfl) (fun K hK => ?_)
  go_wp2_with fail
  refine HR1.out.mono ?_
  rintro e w2 ⟨v, rfl, hro, hlo, hc2⟩
  have hcur : Ch [] W1 w2 := (Ch.refl [] W1).drew.trans hc2 (by simp)
  obtain ⟨pa, pc, rfl, hh⟩ := HH0.out.new (l := X) ⟨by rw [show (intCells X).length = X.length from by simp [intCells]]; exact hro, hlo, hc2⟩ HXB.out (by omega)
  have hplo : ∀ q, (Value.slice pa X.length pc).ownBlock = some q → W1.heap.size ≤ q := fun q hq => by have := hlo q (by simpa using hq); simpa using this
  have HPLO := Lib.hid hplo; clear hplo
  have hR2 := Refs23_is (w := w2) Y.length yc rfl (HSY.out.ch hcur (by simp)) (by omega)
  have HR2 := Lib.hid hR2; clear hR2
  have HH1 := Lib.hid hh; clear hh HH0 HR1 hro hlo hc2 y1
  go_wp2_with fail
  refine ⟨rfl, hK _ _ ?_ ?_⟩
  · exact hcur
  clear hK K
  refine Ord.St.ef 5 [6, 7] _ rfl (by kernel_rfl) (fun K hK => ?_)
  go_wp2_with fail
  refine HR2.out.mono ?_
  rintro e w3 ⟨v, rfl, hro, hlo, hc3⟩
  have hcur3 : Ch [] W1 w3 := hcur.trans hc3 (by simp)
  obtain ⟨qa, qc, rfl, hh⟩ := HH1.out.new (l := Y) ⟨by rw [show (intCells Y).length = Y.length from by simp [intCells]]; exact hro, hlo, hc3⟩ HYB.out (by omega)
  have hqlo : ∀ q, (Value.slice qa Y.length qc).ownBlock = some q → W1.heap.size ≤ q := fun q hq => by have := hlo q (by simpa using hq); have := hcur.size; omega
  have HQLO := Lib.hid hqlo; clear hqlo
  have HH := Lib.hid hh; clear hh HH1 HR2 hro hlo hc3 hcur
  go_wp2_with fail
  refine ⟨rfl, hK _ _ ?_⟩; clear hK K
  refine Ord.St.fl2 (T' := ?_) 6 [7] _ _ rfl (by kernel_rfl) rfl rfl rfl rfl (fun K w' hk => ?_) ?_
  rotate_left
  · go_step; exact hk
  refine Ord.St.fl2 (T' := ?_) 7 [] _ _ rfl (by kernel_rfl) rfl rfl rfl rfl (fun K w' hk => ?_) ?_
  rotate_left
  · go_step; exact hk
  refine Ord.St.nil ?_
  have hP := HH.out.at (a := pa) (c := pc) (n := X.length) (l := X) (by simp) rfl
  have hQ := HH.out.at (a := qa) (c := qc) (n := Y.length) (l := Y) (by simp) rfl
  have hhp := HH.out.held (.slice pa X.length pc, X) (by simp)
  have hhq := HH.out.held (.slice qa Y.length qc, Y) (by simp)
  have hPr := program23_is HH.out.own.gin hP hQ kind xa X.length xc ya Y.length yc N
  rw [hK] at hPr
  simp only [WV.val] at hPr
  have hlen := P23_len (G := G) (X := X) (Y := Y) (N := N) hK12
  have hf := f23_small K G X Y N
  have hPE : P23 K G X Y N = if f23 K G X Y N ≠ 0 then (G, [], 0, f23 K G X Y N) else fin23 G (RF K G (nats X) (nats Y) N.toNat) := rfl
  have hRef := fun (w9 : World) (rb9 cap9 : Nat) (hr : RG w9 rb9 cap9 G) (hx9 : Sl w9 xa X) (hy9 : Sl w9 ya Y) (h0 : f23 K G X Y N = 0) => reference23_is hr kind xa X.length xc ya Y.length yc N rfl rfl hx9 hy9 (by rw [hK]; exact h0)
  rw [hK] at hRef
  obtain ⟨⟨G1, l1, r1, e1⟩, hPeq⟩ : ∃ B, B = P23 K G X Y N := ⟨_, rfl⟩
  rw [← hPeq] at hPr hlen hPE
  obtain ⟨fv, hfv⟩ : ∃ fv, fv = f23 K G X Y N := ⟨_, rfl⟩
  rw [← hfv] at hPE hf hRef
  simp only at hlen
  clear hPeq
  have hrp := hhp.row
  have hrq := hhq.row
  have hpF : ∀ q, (Value.slice pa X.length pc).ownBlock = some q → q ∉ F := fun q hq => (hhp.own q hq).2
  have hqF : ∀ q, (Value.slice qa Y.length qc).ownBlock = some q → q ∉ F := fun q hq => (hhq.own q hq).2
  have hphi : ∀ q, (Value.slice pa X.length pc).ownBlock = some q → q < w3.heap.size := fun q hq => (hrp.lt q hq).2
  have hqhi : ∀ q, (Value.slice qa Y.length qc).ownBlock = some q → q < w3.heap.size := fun q hq => (hrq.lt q hq).2
  have hbt3 := HBT.out.same hcur3
  have hb4 := B4.out.ch hcur3 (by simp)
  have hb5 := B5.out.ch hcur3 (by simp)
  have hb6 := B6.out.ch hcur3 (by simp)
  have hsx := HSX.out.ch hcur3 (by simp)
  have hsy := HSY.out.ch hcur3 (by simp)
  have hc03 := HC01.out.trans hcur3 (by simp)
  have hz31 := hcur3.size
  have h61 := B6.out.lt
  clear B4 B5 B6 HBT HSX HSY HC01 HH hP hQ hhp hhq hcur3
  have x0 := hb5.cell (i := 0) rfl
  have x1 := hb5.cell (i := 1) rfl
  have x2 := hb5.cell (i := 2) rfl
  have x3 := hb5.cell (i := 3) rfl
  have B4 := Lib.hid hb4; clear hb4
  have B5 := Lib.hid hb5; clear hb5
  have B6 := Lib.hid hb6; clear hb6
  have HSX := Lib.hid hsx; clear hsx
  have HSY := Lib.hid hsy; clear hsy
  have HBT := Lib.hid hbt3; clear hbt3
  have HC03 := Lib.hid hc03; clear hc03
  have HRP := Lib.hid hrp; clear hrp
  have HRQ := Lib.hid hrq; clear hrq
  have HPF := Lib.hid hpF; clear hpF
  have HQF := Lib.hid hqF; clear hqF
  have HPHI := Lib.hid hphi; clear hphi
  have HQHI := Lib.hid hqhi; clear hqhi
  have HPR := Lib.hid hPr; clear hPr
  have HPE := Lib.hid hPE; clear hPE
  have HFV := Lib.hid hfv; clear hfv
  have HREF := Lib.hid hRef; clear hRef
  go_wp2_with fail
  refine HPR.out.mono ?_
  rintro e w4 ⟨v, rfl, F', hg', hc', hF', hF2, hrv, hov⟩
  obtain ⟨va, vc, rfl⟩ := row.shape hrv
  have hc' : Ch F w3 w4 := hc'
  simp only at hg' hrv hov
  have hFlo : ∀ q ∈ F, W.heap.size ≤ q := HBT.out.own
  have hrg := HBT.out.rg.ch hc' HBT.out.ap
  have hsx := HSX.out.ch2 hc' (fun h0 p hp hin => by have := HXO.out h0 p hp; have := hFlo _ hin; omega)
  have hsy := HSY.out.ch2 hc' (fun h0 p hp hin => by have := HYO.out h0 p hp; have := hFlo _ hin; omega)
  have hb4 := B4.out.ch hc' (fun hin => by have := HFW.out _ hin; omega)
  have hb5 := B5.out.ch hc' (fun hin => by have := HFW.out _ hin; omega)
  have hb6 := B6.out.ch hc' (fun hin => by have := HFW.out _ hin; omega)
  have hrp := HRP.out.ch hc' HPF.out
  have hrq := HRQ.out.ch hc' HQF.out
  have hz34 := hc'.size
  have hzw3 := HC03.out.size
  have hc04 : Ch F w w4 := (HC03.out.mono (by simp)).trans hc' (fun q hq => .inl hq)
  have hFn : ∀ q ∈ F', q ∈ F ∨ w3.heap.size ≤ q := hF'
  have hF4 : ∀ q ∈ F', q < w4.heap.size := hg'.lt
  have hap : rb ∉ F' := fun hin => by rcases hFn _ hin with e | e; exact HBT.out.ap e; omega
  have hvp : ∀ q, (Value.slice va l1.length vc).ownBlock = some q → w3.heap.size ≤ q ∧ q < w4.heap.size ∧ q ∉ F' := fun q hq => ⟨(hov q hq).1, (hrv.lt q hq).2, (hov q hq).2⟩
  have hrlo := HBT.out.rlo
  clear x0 x1 x2 x3
  have x0 := hb5.cell (i := 0) rfl
  have x1 := hb5.cell (i := 1) rfl
  have x2 := hb5.cell (i := 2) rfl
  clear B4 B5 B6 HSX HSY HBT HRP HRQ HPF HQF HPR hov hF' hF2 hc' hFlo
  have HG := Lib.hid hg'; clear hg'
  have HRG := Lib.hid hrg; clear hrg
  have B4 := Lib.hid hb4; clear hb4
  have B5 := Lib.hid hb5; clear hb5
  have B6 := Lib.hid hb6; clear hb6
  have HSX := Lib.hid hsx; clear hsx
  have HSY := Lib.hid hsy; clear hsy
  have HRP := Lib.hid hrp; clear hrp
  have HRQ := Lib.hid hrq; clear hrq
  have HRV := Lib.hid hrv; clear hrv
  have HVP := Lib.hid hvp; clear hvp
  have HC04 := Lib.hid hc04; clear hc04
  have HFN := Lib.hid hFn; clear hFn
  have HF4 := Lib.hid hF4; clear hF4
  go_upto_region 5 with fail
  refine wp_alw ?_
  intro W5 hW5
  have hb7 : blk W5 w4.heap.size [.slice xa X.length xc, .slice ya Y.length yc] := by rw [hW5]; exact blk.new' _ _ rfl
  have hc45 : Ch [] w4 W5 := by rw [hW5]; exact (Ch.refl _ _).alloc _
  clear hW5 x0 x1 x2
  have B7 := Lib.hid hb7; clear hb7
  have HC45 := Lib.hid hc45; clear hc45
  obtain ⟨one, hone⟩ : ∃ one : Bool, one = decide (K < 2 ∨ K = 11) := ⟨_, rfl⟩
  have HONE := Lib.hid hone; clear hone
  obtain ⟨nw, hnw⟩ : ∃ nw : Nat, nw = if one then 1 else 2 := ⟨_, rfl⟩
  have HNW := Lib.hid hnw; clear hnw
  go_cut [48] (fun b wd => wd = W5 ∧ b = .bool one)
  case first =>
    by_cases h1 : K < 2
    · have e1 : decide ((kind : Int) % 13 < 2) = true := decide_eq_true (by have := HKI.out; omega)
      go_wp2_with fail
      go_meet
      case rel => exact ⟨rfl, by rw [HONE.out, decide_eq_true (p := K < 2 ∨ K = 11) (.inl h1)]⟩
    · have e1 : decide ((kind : Int) % 13 < 2) = false := decide_eq_false (by have := HKI.out; omega)
      by_cases h2 : K = 11
      · have e2 : ((kind : Int) % 13 == 11) = true := by rw [HKI.out, h2]; rfl
        go_wp2_with fail
        go_meet
        case rel => exact ⟨rfl, by rw [HONE.out, decide_eq_true (p := K < 2 ∨ K = 11) (.inr h2)]⟩
      · have e2 : ((kind : Int) % 13 == 11) = false := by rw [beq_eq_false_iff_ne]; have := HKI.out; omega
        go_wp2_with fail
        go_meet
        case rel => exact ⟨rfl, by rw [HONE.out, decide_eq_false (p := K < 2 ∨ K = 11) (by omega)]⟩
  case rest =>
    obtain ⟨hwd, rfl⟩ := hcut
    have hwd := hwd.symm
    subst hwd
    go_upto_if 48 with fail
    go_cut [14] (fun ws wd => wd = W5 ∧ ws = .slice (some ⟨w4.heap.size, 0, none⟩) nw 2)
    case first =>
      cases one
      · go_wp2_with fail
        go_meet
        case rel => exact ⟨rfl, by rw [HNW.out]; rfl⟩
      · go_wp2_with fail
        go_meet
        case rel => exact ⟨rfl, by rw [HNW.out]; rfl⟩
    case rest =>
      obtain ⟨hwd, rfl⟩ := hcut
      have hwd := hwd.symm
      subst hwd
      go_upto_if 52 with fail
      go_cut [15] (fun f wd => f = .int .i64 fv ∧ Ch [] W5 wd)
      case first =>
        by_cases h12 : K = 12
        · have e3 : ((kind : Int) % 13 == 12) = true := by rw [HKI.out, h12]; rfl
          have hR := r23Right_is (w := W5) N
          have hb5 := B5.out.ch HC45.out (by simp)
          have x3 := hb5.cell (i := 3) rfl
          have hfe : fv = if rightW N then 0 else 230 := by rw [HFV.out, h12]; rfl
          clear hb5
          have HFE := Lib.hid hfe; clear hfe
          cases hq : rightW N
          · rw [hq] at hR
            have HQ := Lib.hid hq; clear hq
            go_wp2_with fail
            refine hR.mono ?_
            rintro e w' ⟨rfl, rfl⟩
            go_wp2_with fail
            go_meet
            case rel => exact ⟨by rw [HFE.out, HQ.out]; rfl, Ch.refl _ _⟩
          · rw [hq] at hR
            have HQ := Lib.hid hq; clear hq
            go_wp2_with fail
            refine hR.mono ?_
            rintro e w' ⟨rfl, rfl⟩
            go_wp2_with fail
            go_meet
            case rel => exact ⟨by rw [HFE.out, HQ.out]; rfl, Ch.refl _ _⟩
        · have e3 : ((kind : Int) % 13 == 12) = false := by rw [beq_eq_false_iff_ne]; have := HKI.out; omega
          have hb4 := B4.out.ch HC45.out (by simp)
          have x0 := hb4.cell (i := 0) rfl
          have x1 := hb4.cell (i := 1) rfl
          have hrg := HRG.out.ch HC45.out (by simp)
          have hsx := HSX.out.ch HC45.out (by simp)
          have hsy := HSY.out.ch HC45.out (by simp)
          have hfe : fv = chk G (if K < 2 ∨ K = 11 then [X] else [X, Y]) := by rw [HFV.out]; unfold f23; rw [if_neg h12]
          have hd0 := B7.out.cell (i := 0) rfl
          have hd1 := B7.out.cell (i := 1) rfl
          have ho := HONE.out
          cases one
          · obtain rfl : nw = 2 := HNW.out
            have hno : ¬ (K < 2 ∨ K = 11) := of_decide_eq_false ho.symm
            rw [if_neg hno] at hfe
            have hC := r23Check_is hrg (b := w4.heap.size) (n := 2) (cap := 2) (ws := [⟨xa, X, xc⟩, ⟨ya, Y, yc⟩]) rfl (by omega) (by omega) (fun i x hx => by
              match i, hx with
              | 0, hx => cases hx; exact hd0
              | 1, hx => cases hx; exact hd1) (fun x hx => by
              simp only [List.mem_cons, List.not_mem_nil, or_false] at hx
              rcases hx with rfl | rfl; exact hsx; exact hsy) (fun x hx => by
              simp only [List.mem_cons, List.not_mem_nil, or_false] at hx
              rcases hx with rfl | rfl; (show X.length ≤ 1000000; omega); (show Y.length ≤ 1000000; omega))
            have HC := Lib.hid hC; clear hC hd0 hd1 hb4 hrg hsx hsy
            have HFE := Lib.hid hfe; clear hfe ho
            go_wp2_with fail
            refine HC.out.mono ?_
            rintro e w' ⟨rfl, hcc⟩
            have HCC := Lib.hid hcc; clear hcc
            go_wp2_with fail
            go_meet
            case rel => exact ⟨by rw [HFE.out], HCC.out⟩
          · obtain rfl : nw = 1 := HNW.out
            have hyes : K < 2 ∨ K = 11 := of_decide_eq_true ho.symm
            rw [if_pos hyes] at hfe
            have hC := r23Check_is hrg (b := w4.heap.size) (n := 1) (cap := 2) (ws := [⟨xa, X, xc⟩]) rfl (by omega) (by omega) (fun i x hx => by
              match i, hx with
              | 0, hx => cases hx; exact hd0) (fun x hx => by
              simp only [List.mem_cons, List.not_mem_nil, or_false] at hx
              subst hx; exact hsx) (fun x hx => by
              simp only [List.mem_cons, List.not_mem_nil, or_false] at hx
              subst hx; (show X.length ≤ 1000000; omega))
            have HC := Lib.hid hC; clear hC hd0 hd1 hb4 hrg hsx hsy
            have HFE := Lib.hid hfe; clear hfe ho
            go_wp2_with fail
            refine HC.out.mono ?_
            rintro e w' ⟨rfl, hcc⟩
            have HCC := Lib.hid hcc; clear hcc
            go_wp2_with fail
            go_meet
            case rel => exact ⟨by rw [HFE.out], HCC.out⟩
      case rest =>
        obtain ⟨rfl, hcd⟩ := hcut
        have hc4c := HC45.out.trans hcd (by simp)
        have hg := HG.out.same hc4c (by simp)
        have hrg := HRG.out.ch hc4c (by simp)
        have hb4 := B4.out.ch hc4c (by simp)
        have hb5 := B5.out.ch hc4c (by simp)
        have hb6 := B6.out.ch hc4c (by simp)
        have hsx := HSX.out.ch hc4c (by simp)
        have hsy := HSY.out.ch hc4c (by simp)
        have hrp := HRP.out.ch hc4c (by simp)
        have hrq := HRQ.out.ch hc4c (by simp)
        have hrv := HRV.out.ch hc4c (by simp)
        have hc0c := HC04.out.trans hc4c (by simp)
        have hz4c := hc4c.size
        have h6lt := B6.out.lt
        have h4F : w.heap.size ∉ F' := fun hin => by rcases HFN.out _ hin with e | e; (have := HFW.out _ e; omega); omega
        have h6F : w.heap.size + 2 ∉ F' := fun hin => by rcases HFN.out _ hin with e | e; (have := HFW.out _ e; omega); omega
        clear HG HRG B4 B5 B6 HSX HSY HRP HRQ HRV HC04 hcd hc4c HC45 B7
        have HG := Lib.hid hg; clear hg
        have HRG := Lib.hid hrg; clear hrg
        have B4 := Lib.hid hb4; clear hb4
        have B5 := Lib.hid hb5; clear hb5
        have B6 := Lib.hid hb6; clear hb6
        have HSX := Lib.hid hsx; clear hsx
        have HSY := Lib.hid hsy; clear hsy
        have HRP := Lib.hid hrp; clear hrp
        have HRQ := Lib.hid hrq; clear hrq
        have HRV := Lib.hid hrv; clear hrv
        have HC0 := Lib.hid hc0c; clear hc0c
        by_cases hfz : fv = 0
        · have h9 := HPE.out
          rw [if_neg (by omega)] at h9
          subst hfz
          have hR := HREF.out wc rb cap HRG.out HSX.out HSY.out rfl
          obtain ⟨R, hRR⟩ : ∃ R, R = RF K G (nats X) (nats Y) N.toNat := ⟨_, rfl⟩
          rw [← hRR] at hR h9
          obtain ⟨⟨G2, q2⟩, l2, p2⟩ := R
          have HR := Lib.hid hR; clear hR hRR
          have H9 := Lib.hid h9; clear h9
          have hq4 := B4.out
          have y0 := hq4.cell (i := 0) rfl
          have y1 := hq4.cell (i := 1) rfl
          have hq5 := B5.out
          have z0 := hq5.cell (i := 0) rfl
          have z1 := hq5.cell (i := 1) rfl
          have z2 := hq5.cell (i := 2) rfl
          have z3 := hq5.cell (i := 3) rfl
          have hwc := B6.out.lt
          clear hq4 hq5 HREF
          go_wp2_with fail
          refine HR.out.mono ?_
          rintro e w5 ⟨rb2, cap2, a2, c2, rfl, hrg2, hch, hfr, hrow, hown⟩
          simp only at hrg2 hrow hown
          have HRG2 := Lib.hid hrg2; clear hrg2
          have HCH := Lib.hid hch; clear hch
          have HROW := Lib.hid hrow; clear hrow
          have HOWN := Lib.hid hown; clear hown
          clear y0 y1 z0 z1 z2 z3
          go_upto_region 15 with fail
          refine wp_alw ?_
          intro W6 hW6
          have hb16 : blk W6 w5.heap.size [.int .i64 G2.most, .slice (some ⟨rb2, 0, none⟩) G2.nodes.length cap2, .int .i64 q2] := by rw [hW6]; exact blk.new' _ _ rfl
          have hcA : Ch [] w5 W6 := by rw [hW6]; exact (Ch.refl _ _).alloc _
          clear hW6
          have hcc6 := HCH.out.trans hcA (by simp)
          have hg := HG.out.same hcc6 (by simp)
          have hrg := HRG.out.ch hcc6 (by simp)
          have hrg2 := HRG2.out.ch hcA (by simp)
          have hrow := HROW.out.ch hcA (by simp)
          have hb4 := B4.out.ch hcc6 (by simp)
          have hb5 := B5.out.ch hcc6 (by simp)
          have hb6 := B6.out.ch hcc6 (by simp)
          have hsx := HSX.out.ch hcc6 (by simp)
          have hsy := HSY.out.ch hcc6 (by simp)
          have hrp := HRP.out.ch hcc6 (by simp)
          have hrq := HRQ.out.ch hcc6 (by simp)
          have hrv := HRV.out.ch hcc6 (by simp)
          have hc0 := HC0.out.trans hcc6 (by simp)
          have hzc6 := HCH.out.size
          have h2lt := hrow.lt
          have x2 := hb16.cell (i := 2) rfl
          have hap2 : rb2 ∉ F' := fun hin => by rcases hfr with e | e; (rw [e] at hin; exact hap hin); (have := HF4.out _ hin; omega)
          have hfr2 : rb2 = rb ∨ w.heap.size ≤ rb2 := by rcases hfr with e | e; exact .inl e; (right; omega)
          have h62 : rb2 ≠ w.heap.size + 2 := by rcases hfr with e | e <;> omega
          clear HG HRG HRG2 HROW B4 B5 B6 HSX HSY HRP HRQ HRV HC0 hcA hcc6 HCH HR h2lt
          have HG := Lib.hid hg; clear hg
          have HRG := Lib.hid hrg; clear hrg
          have HRG2 := Lib.hid hrg2; clear hrg2
          have HROW := Lib.hid hrow; clear hrow
          have B4 := Lib.hid hb4; clear hb4
          have B5 := Lib.hid hb5; clear hb5
          have B6 := Lib.hid hb6; clear hb6
          have B16 := Lib.hid hb16; clear hb16
          have HSX := Lib.hid hsx; clear hsx
          have HSY := Lib.hid hsy; clear hsy
          have HRP := Lib.hid hrp; clear hrp
          have HRQ := Lib.hid hrq; clear hrq
          have HRV := Lib.hid hrv; clear hrv
          have HC0 := Lib.hid hc0; clear hc0
          by_cases hq : q2 = 0
          · have h9 := H9.out
            unfold fin23 at h9
            rw [if_neg (by simp [hq])] at h9
            simp only [Prod.mk.injEq] at h9
            obtain ⟨a1, a2', a3, a4⟩ := h9
            subst a1 a2' a3 a4
            subst hq
            clear H9
            have hrvi := HRV.out
            rw [refs_natInts] at hrvi
            have hslv := Sl.of_ints hrvi (by omega)
            have hI := Ints23_is (w := W6) (a := va) (l := natInts l1) l1.length vc (natInts_len' _) hslv (by omega)
            have hst := Sl.of_ints HROW.out (by omega)
            have HI := Lib.hid hI; clear hI hslv hrvi
            have HST := Lib.hid hst; clear hst
            go_wp2_with fail
            refine HI.out.mono ?_
            rintro e w7 ⟨v, rfl, hri, _, hc7⟩
            obtain ⟨ia, ic, rfl⟩ := row.shape hri
            have hE := Eqint_same (w := w7) ic c2 (natInts_len' l1) (Sl.of_ints hri (by omega)) (HST.out.ch hc7 (by simp))
            have HE := Lib.hid hE; clear hE hri
            have HC7 := Lib.hid hc7; clear hc7 HI HST
            clear x2
            go_wp2_with fail
            refine HE.out.mono ?_
            rintro e w8 ⟨rfl, hc8⟩
            have hc68 := HC7.out.trans hc8 (by simp)
            have z1 := (B5.out.ch hc68 (by simp)).cell (i := 1) rfl
            have hR1 := Refs23_is (w := w8) X.length xc rfl (HSX.out.ch hc68 (by simp)) (by omega)
            have HR1 := Lib.hid hR1; clear hR1
            have HC68 := Lib.hid hc68; clear hc68 hc8 HC7 HE
            go_wp2_with fail
            refine HR1.out.mono ?_
            rintro e wd ⟨v, rfl, hr1, _, hcd⟩
            obtain ⟨ma, mc, rfl⟩ := row.shape hr1
            have hcd6 := HC68.out.trans hcd (by simp)
            have hE := Eqref_same (w := wd) pc mc rfl (Sl.of_ints (HRP.out.ch hcd6 (by simp)) (by omega)) (Sl.of_ints hr1 (by omega))
            have HE := Lib.hid hE; clear hE hr1 z1
            have HCD := Lib.hid hcd6; clear hcd6 hcd HR1 HC68
            go_wp2_with fail
            refine HE.out.mono ?_
            rintro e we ⟨rfl, hce⟩
            have hcde := HCD.out.trans hce (by simp)
            have z2 := (B5.out.ch hcde (by simp)).cell (i := 2) rfl
            have hR2 := Refs23_is (w := we) Y.length yc rfl (HSY.out.ch hcde (by simp)) (by omega)
            have HR2 := Lib.hid hR2; clear hR2
            have HCDE := Lib.hid hcde; clear hcde hce HCD HE
            go_wp2_with fail
            refine HR2.out.mono ?_
            rintro e wf ⟨v, rfl, hr1, _, hcf⟩
            obtain ⟨na, nc, rfl⟩ := row.shape hr1
            have hcf6 := HCDE.out.trans hcf (by simp)
            have hE := Eqref_same (w := wf) qc nc rfl (Sl.of_ints (HRQ.out.ch hcf6 (by simp)) (by omega)) (Sl.of_ints hr1 (by omega))
            have HE := Lib.hid hE; clear hE hr1 z2
            have HCF := Lib.hid hcf6; clear hcf6 hcf HR2 HCDE
            go_wp2_with fail
            refine HE.out.mono ?_
            rintro e wg ⟨rfl, hcg⟩
            have hc6g := HCF.out.trans hcg (by simp)
            have hrvg := HRV.out.ch hc6g (by simp)
            have HRVG := Lib.hid hrvg; clear hrvg
            have HCG := Lib.hid hc6g; clear hc6g hcg HCF HE
            go_wp2_with fail
            go_loopw [143] (fun i wq => ∃ j : Nat, j ≤ l1.length ∧ i = .int .i64 j ∧ Ch (Value.slice va l1.length vc).ownBlock.toList wg wq ∧ ShqB wg wq) (fun i _ => l1.length - (intOf i).toNat)
            case atStart => exact ⟨0, by omega, rfl, Ch.refl _ _, ShqB.refl _⟩
            case round =>
              obtain ⟨j, hj, rfl, hcv, hsh⟩ := hrel
              by_cases hjn : j < l1.length
              · obtain ⟨b, old, rfl, hcl, hfz⟩ := hsh.cell HRVG.out hjn
                have HCV := Lib.hid hcv; clear hcv
                have HSH := Lib.hid hsh; clear hsh
                go_wp2_with fail
                go_roundw
                case rel => exact ⟨j + 1, by omega, by go_num, HCV.out.setCell (.inl (by simp)) _, HSH.out.set _ _ _⟩
                case measure => simp [intOf]; omega
              · have hvq : ∀ q ∈ (Value.slice va l1.length vc).ownBlock.toList, w3.heap.size ≤ q ∧ q < w4.heap.size ∧ q ∉ F' := fun q hq => HVP.out q (by simpa using hq)
                have hc6r : Ch (Value.slice va l1.length vc).ownBlock.toList W6 wr := (HCG.out.mono (by simp)).trans hcv (fun q hq => .inl hq)
                have hzr := hc6r.size
                have h6l := B6.out.lt
                have hg := HG.out.same hc6r (fun q hq hq2 => (hvq q hq2).2.2 hq)
                have hrg2 := HRG2.out.ch hc6r (fun hin => by have := hvq _ hin; rcases hfr with e | e <;> omega)
                have hrp := HRP.out.ch hc6r (fun q hq hq2 => by have := hvq _ hq2; have := HPHI.out q hq; omega)
                have hsx := HSX.out.ch2 hc6r (fun h0 p hp hq2 => by have := hvq _ hq2; have := HXO.out h0 p hp; omega)
                have hb5 := B5.out.ch hc6r (fun hin => by have := hvq _ hin; omega)
                have hb6 := B6.out.ch hc6r (fun hin => by have := hvq _ hin; omega)
                have hb16 := B16.out.ch hc6r (fun hin => by have := hvq _ hin; omega)
                have hc0 := HC0.out.trans hc6r (fun q hq => .inr (by have := hvq q hq; omega))
                have hcur : Ch [] wr wr.drew := (Ch.refl [] wr).drew
                have z1 := hb5.cell (i := 1) rfl
                have hR1 := Refs23_is (w := wr.drew) X.length xc rfl (hsx.ch hcur (by simp)) (by omega)
                have HR1 := Lib.hid hR1; clear hR1
                clear HG HRG HRG2 HRP HSX B5 B6 B16 HC0 hcv hsh hc6r hvq HRVG HCG HROW HRQ HSY B4
                have HG := Lib.hid hg; clear hg
                have HRG2 := Lib.hid hrg2; clear hrg2
                have HRP := Lib.hid hrp; clear hrp hsx
                have B5 := Lib.hid hb5; clear hb5
                have B6 := Lib.hid hb6; clear hb6
                have B16 := Lib.hid hb16; clear hb16
                have HC0 := Lib.hid hc0; clear hc0
                go_wp2_with fail
                refine Ord.St.door (fun w' => Ch [] wr w') [.fl, .ho, .fl, .fl, .rd, .ef, .ef, .fl, .fl, .fl, .rd, .ef, .fl, .ef, .fl] [0, 1, 0, 0, 8, 24, 60, 124, 252, 252, 764, 2044, 4092, 4095, 16383] [0, 1, 2, 3, 4, 5, 6, 7, 8, 9, 10, 11, 12, 13, 14] mixed (by kernel_rfl) rfl ?_
                refine Ord.St.fl2 (T' := ?_) 0 [1, 2, 3, 4, 5, 6, 7, 8, 9, 10, 11, 12, 13, 14] _ _ rfl (by kernel_rfl) rfl rfl rfl rfl (fun K w' hk => ?_) ?_
                rotate_left
                · go_step; exact hk
                refine Ord.St.ho2 (T' := ?_) 1 [2, 3, 4, 5, 6, 7, 8, 9, 10, 11, 12, 13, 14] _ _ rfl (by kernel_rfl) rfl rfl rfl rfl ?_ (fun K w' hw' hk => ?_) ?_
                rotate_left
                · trivial
                · have hq16 := B16.out.ch hw' (by simp); have u0 := hq16.cell (i := 0) rfl; have u1 := hq16.cell (i := 1) rfl; go_step; exact hk
                refine Ord.St.fl2 (T' := ?_) 2 [3, 4, 5, 6, 7, 8, 9, 10, 11, 12, 13, 14] _ _ rfl (by kernel_rfl) rfl rfl rfl rfl (fun K w' hk => ?_) ?_
                rotate_left
                · go_step; exact hk
                refine Ord.St.fl2 (T' := ?_) 3 [4, 5, 6, 7, 8, 9, 10, 11, 12, 13, 14] _ _ rfl (by kernel_rfl) rfl rfl rfl rfl (fun K w' hk => ?_) ?_
                rotate_left
                · go_step; exact hk
                refine Ord.St.rd2 (T' := ?_) 4 [5, 6, 7, 8, 9, 10, 11, 12, 13, 14] _ _ rfl (by kernel_rfl) rfl rfl rfl rfl (fun K hk => ?_) ?_
                rotate_left
                · go_step; exact hk
                refine Ord.St.efC 5 [6, 7, 8, 9, 10, 11, 12, 13, 14] _ rfl (by kernel_rfl) (fun K hK => ?_)
                go_wp2_with fail
                refine HR1.out.mono ?_
                rintro e wh ⟨v, rfl, hr1, _, hch⟩
                obtain ⟨ma, mc, rfl⟩ := row.shape hr1
                replace hcur : Ch [] wr wh := hcur.trans hch (by simp)
                have hE := Eqref_same (w := wh) pc mc rfl (Sl.of_ints (HRP.out.ch hcur (by simp)) (by omega)) (Sl.of_ints hr1 (by omega))
                have HE := Lib.hid hE; clear hE hr1 z1 hch HR1
                go_wp2_with fail
                refine ⟨rfl, hK _ _ ?_ ?_⟩
                · exact hcur
                clear hK K
                refine Ord.St.efC 6 [7, 8, 9, 10, 11, 12, 13, 14] _ rfl (by kernel_rfl) (fun K hK => ?_)
                go_wp2_with fail
                refine HE.out.mono ?_
                rintro e wi ⟨rfl, hci⟩
                replace hcur : Ch [] wr wi := hcur.trans hci (by simp)
                have hSm := Same23_is (HG.out.same hcur (by simp)) (HRG2.out.ch hcur (by simp))
                have HSM := Lib.hid hSm; clear hSm hci HE
                have hq16 := B16.out.ch hcur (by simp)
                have t0 := hq16.cell (i := 0) rfl
                have t1 := hq16.cell (i := 1) rfl
                clear hq16
                go_wp2_with fail
                refine ⟨rfl, hK _ _ ?_ ?_⟩
                · exact hcur
                clear hK K
                refine Ord.St.fl2 (T' := ?_) 7 [8, 9, 10, 11, 12, 13, 14] _ _ rfl (by kernel_rfl) rfl rfl rfl rfl (fun K w' hk => ?_) ?_
                rotate_left
                · go_step; exact hk
                first | (refine Ord.St.fl2 (T' := ?_) 8 [9, 10, 11, 12, 13, 14] _ _ rfl (by kernel_rfl) ?_ rfl rfl rfl (fun K w' hk => ?_) ?_; rotate_left; (first | rfl | (simp [Region.wanted, yielded, *]; done)); focus (go_step; exact hk)) | (refine Ord.St.skip 8 [9, 10, 11, 12, 13, 14] _ rfl (by kernel_rfl) ?_ (fun K hK => ?_); (first | rfl | (simp [Region.wanted, yielded, *]; done)); go_simp; refine hK _ ?_; clear hK K)
                first | (refine Ord.St.fl2 (T' := ?_) 9 [10, 11, 12, 13, 14] _ _ rfl (by kernel_rfl) ?_ rfl rfl rfl (fun K w' hk => ?_) ?_; rotate_left; (first | rfl | (simp [Region.wanted, yielded, *]; done)); focus (go_step; exact hk)) | (refine Ord.St.skip 9 [10, 11, 12, 13, 14] _ rfl (by kernel_rfl) ?_ (fun K hK => ?_); (first | rfl | (simp [Region.wanted, yielded, *]; done)); go_simp; refine hK _ ?_; clear hK K)
                first | (refine Ord.St.rd2 (T' := ?_) 10 [11, 12, 13, 14] _ _ rfl (by kernel_rfl) ?_ rfl rfl rfl (fun K hk => ?_) ?_; rotate_left; (first | rfl | (simp [Region.wanted, yielded, *]; done)); focus (go_step; exact hk)) | (refine Ord.St.skipr 10 [11, 12, 13, 14] _ rfl (by kernel_rfl) ?_ (fun K hK => ?_); (first | rfl | (simp [Region.wanted, yielded, *]; done)); go_simp; refine hK _ ?_; clear hK K)
                refine Ord.St.efC 11 [12, 13, 14] _ rfl (by kernel_rfl) (fun K hK => ?_)
                go_wp2_with fail
                refine HSM.out.mono ?_
                rintro e w9 ⟨rfl, hc9⟩
                replace hcur := hcur.trans hc9 (by simp)
                go_wp2_with fail
                refine ⟨rfl, hK _ _ ?_ ?_⟩
                · exact hcur
                clear hK K
                have hb6 := B6.out.ch hcur (by simp)
                have v0 := hb6.cell (i := 0) rfl
                have v1 := hb6.cell (i := 1) rfl
                have f0 := hb6.frozen (i := 0)
                have f1 := hb6.frozen (i := 1)
                have h6l9 := hb6.lt
                have HCW := Lib.hid hcur; clear hcur hc9 hb6 t0 t1
                refine Ord.St.fl2 (T' := ?_) 12 [13, 14] _ _ rfl (by kernel_rfl) rfl rfl rfl rfl (fun K w' hk => ?_) ?_
                rotate_left
                · go_step; exact hk
                refine Ord.St.ef 13 [14] _ rfl (by kernel_rfl) (fun K hK => ?_)
                go_wp2_with fail
                refine ⟨rfl, hK _ _ ?_⟩; clear hK K
                refine Ord.St.fl2 (T' := ?_) 14 [] _ _ rfl (by kernel_rfl) rfl rfl rfl rfl (fun K w' hk => ?_) ?_
                rotate_left
                · go_step; exact hk
                refine Ord.St.nil ?_
                go_wp2_with fail
                refine bodyPost_ret (v := .tuple #[.agg #[.int .i64 G1.most, .slice (some ⟨rb2, 0, none⟩) G1.nodes.length cap2], .bool true]) (by simp [results, Tryz.results30, go_sem, v0, v1]) rfl ?_
                have hcs := set2_ch (w := w9) (b := w.heap.size + 2) (u := .int .i64 G1.most) (v := .slice (some ⟨rb2, 0, none⟩) G1.nodes.length cap2) rfl
                exact ATo.of HBT0.out ((HG.out.same HCW.out (by simp)).same hcs (fun q hq hq2 => h6F (by rw [List.mem_singleton.1 hq2] at hq; exact hq))) ((HRG2.out.ch HCW.out (by simp)).ch hcs (by simpa using h62)) hap2 (fun q hq => (HFN.out q hq).imp id (fun e => by omega)) hfr2 ((HC0.out.trans HCW.out (by simp)).trans hcs (fun q hq => .inr (by simp at hq; omega)))
          · have h9 := H9.out
            unfold fin23 at h9
            rw [if_pos hq] at h9
            simp only [Prod.mk.injEq] at h9
            obtain ⟨a1, a2', a3, a4⟩ := h9
            subst a1 a2' a3 a4
            simp only [List.length_nil] at *
            have e4 : ((e1 : Int) != 0) = true := by simp [hq]
            have hSm := Same23_is (HG.out.same (Ch.refl [] W6).drew (by simp)) (HRG.out.ch (Ch.refl [] W6).drew (by simp))
            have HSM := Lib.hid hSm; clear hSm hq H9
            have hb4 := B4.out.ch (Ch.refl [] W6).drew (by simp)
            have y0 := hb4.cell (i := 0) rfl
            have y1 := hb4.cell (i := 1) rfl
            clear hb4
            go_wp2_with fail
            have hcur : Ch [] W6 W6.drew := (Ch.refl [] W6).drew
            refine Ord.St.door (fun w' => Ch [] W6 w') [.ho, .fl, .fl, .rd, .fl, .fl, .fl, .rd, .fl, .fl, .fl, .fl, .fl, .fl, .fl, .fl, .rd, .ef, .fl, .ef, .fl] [0, 0, 0, 4, 14, 30, 62, 126, 254, 510, 1022, 2046, 4094, 8190, 16382, 32766, 32766, 131070, 262142, 262143, 1048575] [0, 1, 2, 3, 4, 5, 6, 7, 8, 9, 10, 11, 12, 13, 14, 15, 16, 17, 18, 19, 20] mixed (by kernel_rfl) rfl ?_
            refine Ord.St.ho2 (T' := ?_) 0 [1, 2, 3, 4, 5, 6, 7, 8, 9, 10, 11, 12, 13, 14, 15, 16, 17, 18, 19, 20] _ _ rfl (by kernel_rfl) rfl rfl rfl rfl ?_ (fun K w' hw' hk => ?_) ?_
            rotate_left
            · trivial
            · have hq4 := B4.out.ch hw' (by simp); have u0 := hq4.cell (i := 0) rfl; have u1 := hq4.cell (i := 1) rfl; go_step; exact hk
            refine Ord.St.fl2 (T' := ?_) 1 [2, 3, 4, 5, 6, 7, 8, 9, 10, 11, 12, 13, 14, 15, 16, 17, 18, 19, 20] _ _ rfl (by kernel_rfl) rfl rfl rfl rfl (fun K w' hk => ?_) ?_
            rotate_left
            · go_step; exact hk
            refine Ord.St.fl2 (T' := ?_) 2 [3, 4, 5, 6, 7, 8, 9, 10, 11, 12, 13, 14, 15, 16, 17, 18, 19, 20] _ _ rfl (by kernel_rfl) rfl rfl rfl rfl (fun K w' hk => ?_) ?_
            rotate_left
            · go_step; exact hk
            refine Ord.St.rd2 (T' := ?_) 3 [4, 5, 6, 7, 8, 9, 10, 11, 12, 13, 14, 15, 16, 17, 18, 19, 20] _ _ rfl (by kernel_rfl) rfl rfl rfl rfl (fun K hk => ?_) ?_
            rotate_left
            · go_step; exact hk
            refine Ord.St.fl2 (T' := ?_) 4 [5, 6, 7, 8, 9, 10, 11, 12, 13, 14, 15, 16, 17, 18, 19, 20] _ _ rfl (by kernel_rfl) rfl rfl rfl rfl (fun K w' hk => ?_) ?_
            rotate_left
            · go_step; exact hk
            refine Ord.St.fl2 (T' := ?_) 5 [6, 7, 8, 9, 10, 11, 12, 13, 14, 15, 16, 17, 18, 19, 20] _ _ rfl (by kernel_rfl) rfl rfl rfl rfl (fun K w' hk => ?_) ?_
            rotate_left
            · go_step; exact hk
            first | (refine Ord.St.fl2 (T' := ?_) 6 [7, 8, 9, 10, 11, 12, 13, 14, 15, 16, 17, 18, 19, 20] _ _ rfl (by kernel_rfl) ?_ rfl rfl rfl (fun K w' hk => ?_) ?_; rotate_left; (first | rfl | (simp [Region.wanted, yielded, *]; done)); focus (go_step; exact hk)) | (refine Ord.St.skip 6 [7, 8, 9, 10, 11, 12, 13, 14, 15, 16, 17, 18, 19, 20] _ rfl (by kernel_rfl) ?_ (fun K hK => ?_); (first | rfl | (simp [Region.wanted, yielded, *]; done)); go_simp; refine hK _ ?_; clear hK K)
            first | (refine Ord.St.rd2 (T' := ?_) 7 [8, 9, 10, 11, 12, 13, 14, 15, 16, 17, 18, 19, 20] _ _ rfl (by kernel_rfl) ?_ rfl rfl rfl (fun K hk => ?_) ?_; rotate_left; (first | rfl | (simp [Region.wanted, yielded, *]; done)); focus (go_step; exact hk)) | (refine Ord.St.skipr 7 [8, 9, 10, 11, 12, 13, 14, 15, 16, 17, 18, 19, 20] _ rfl (by kernel_rfl) ?_ (fun K hK => ?_); (first | rfl | (simp [Region.wanted, yielded, *]; done)); go_simp; refine hK _ ?_; clear hK K)
            first | (refine Ord.St.fl2 (T' := ?_) 8 [9, 10, 11, 12, 13, 14, 15, 16, 17, 18, 19, 20] _ _ rfl (by kernel_rfl) ?_ rfl rfl rfl (fun K w' hk => ?_) ?_; rotate_left; (first | rfl | (simp [Region.wanted, yielded, *]; done)); focus (go_step; exact hk)) | (refine Ord.St.skip 8 [9, 10, 11, 12, 13, 14, 15, 16, 17, 18, 19, 20] _ rfl (by kernel_rfl) ?_ (fun K hK => ?_); (first | rfl | (simp [Region.wanted, yielded, *]; done)); go_simp; refine hK _ ?_; clear hK K)
            refine Ord.St.fl2 (T' := ?_) 9 [10, 11, 12, 13, 14, 15, 16, 17, 18, 19, 20] _ _ rfl (by kernel_rfl) rfl rfl rfl rfl (fun K w' hk => ?_) ?_
            rotate_left
            · go_step; exact hk
            refine Ord.St.fl2 (T' := ?_) 10 [11, 12, 13, 14, 15, 16, 17, 18, 19, 20] _ _ rfl (by kernel_rfl) rfl rfl rfl rfl (fun K w' hk => ?_) ?_
            rotate_left
            · go_step; exact hk
            first | (refine Ord.St.fl2 (T' := ?_) 11 [12, 13, 14, 15, 16, 17, 18, 19, 20] _ _ rfl (by kernel_rfl) ?_ rfl rfl rfl (fun K w' hk => ?_) ?_; rotate_left; (first | rfl | (simp [Region.wanted, yielded, *]; done)); focus (go_step; exact hk)) | (refine Ord.St.skip 11 [12, 13, 14, 15, 16, 17, 18, 19, 20] _ rfl (by kernel_rfl) ?_ (fun K hK => ?_); (first | rfl | (simp [Region.wanted, yielded, *]; done)); go_simp; refine hK _ ?_; clear hK K)
            first | (refine Ord.St.fl2 (T' := ?_) 12 [13, 14, 15, 16, 17, 18, 19, 20] _ _ rfl (by kernel_rfl) ?_ rfl rfl rfl (fun K w' hk => ?_) ?_; rotate_left; (first | rfl | (simp [Region.wanted, yielded, *]; done)); focus (go_step; exact hk)) | (refine Ord.St.skip 12 [13, 14, 15, 16, 17, 18, 19, 20] _ rfl (by kernel_rfl) ?_ (fun K hK => ?_); (first | rfl | (simp [Region.wanted, yielded, *]; done)); go_simp; refine hK _ ?_; clear hK K)
            refine Ord.St.fl2 (T' := ?_) 13 [14, 15, 16, 17, 18, 19, 20] _ _ rfl (by kernel_rfl) rfl rfl rfl rfl (fun K w' hk => ?_) ?_
            rotate_left
            · go_step; exact hk
            refine Ord.St.fl2 (T' := ?_) 14 [15, 16, 17, 18, 19, 20] _ _ rfl (by kernel_rfl) rfl rfl rfl rfl (fun K w' hk => ?_) ?_
            rotate_left
            · go_step; exact hk
            first | (refine Ord.St.fl2 (T' := ?_) 15 [16, 17, 18, 19, 20] _ _ rfl (by kernel_rfl) ?_ rfl rfl rfl (fun K w' hk => ?_) ?_; rotate_left; (first | rfl | (simp [Region.wanted, yielded, *]; done)); focus (go_step; exact hk)) | (refine Ord.St.skip 15 [16, 17, 18, 19, 20] _ rfl (by kernel_rfl) ?_ (fun K hK => ?_); (first | rfl | (simp [Region.wanted, yielded, *]; done)); go_simp; refine hK _ ?_; clear hK K)
            first | (refine Ord.St.rd2 (T' := ?_) 16 [17, 18, 19, 20] _ _ rfl (by kernel_rfl) ?_ rfl rfl rfl (fun K hk => ?_) ?_; rotate_left; (first | rfl | (simp [Region.wanted, yielded, *]; done)); focus (go_step; exact hk)) | (refine Ord.St.skipr 16 [17, 18, 19, 20] _ rfl (by kernel_rfl) ?_ (fun K hK => ?_); (first | rfl | (simp [Region.wanted, yielded, *]; done)); go_simp; refine hK _ ?_; clear hK K)
            refine Ord.St.efC 17 [18, 19, 20] _ rfl (by kernel_rfl) (fun K hK => ?_)
            go_wp2_with fail
            refine HSM.out.mono ?_
            rintro e w9 ⟨rfl, hc9⟩
            go_wp2_with fail
            refine ⟨rfl, hK _ _ ?_ ?_⟩
            · exact hcur.trans hc9 (by simp)
            clear hK K
            have hcw := hcur.trans hc9 (by simp)
            have hb6 := B6.out.ch hcw (by simp)
            have v0 := hb6.cell (i := 0) rfl
            have v1 := hb6.cell (i := 1) rfl
            have f0 := hb6.frozen (i := 0)
            have f1 := hb6.frozen (i := 1)
            have h6l := hb6.lt
            have HCW := Lib.hid hcw; clear hcw hc9 hb6 y0 y1
            refine Ord.St.fl2 (T' := ?_) 18 [19, 20] _ _ rfl (by kernel_rfl) rfl rfl rfl rfl (fun K w' hk => ?_) ?_
            rotate_left
            · go_step; exact hk
            refine Ord.St.ef 19 [20] _ rfl (by kernel_rfl) (fun K hK => ?_)
            go_wp2_with fail
            refine ⟨rfl, hK _ _ ?_⟩; clear hK K
            refine Ord.St.fl2 (T' := ?_) 20 [] _ _ rfl (by kernel_rfl) rfl rfl rfl rfl (fun K w' hk => ?_) ?_
            rotate_left
            · go_step; exact hk
            refine Ord.St.nil ?_
            go_wp2_with fail
            refine bodyPost_ret (v := .tuple #[.agg #[.int .i64 G1.most, .slice (some ⟨rb, 0, none⟩) G1.nodes.length cap], .bool true]) (by simp [results, Tryz.results30, go_sem, v0, v1]) rfl ?_
            have hcs := set2_ch (w := w9) (b := w.heap.size + 2) (u := .int .i64 G1.most) (v := .slice (some ⟨rb, 0, none⟩) G1.nodes.length cap) rfl
            exact ATo.of HBT0.out ((HG.out.same HCW.out (by simp)).same hcs (fun q hq hq2 => h6F (by rw [List.mem_singleton.1 hq2] at hq; exact hq))) ((HRG.out.ch HCW.out (by simp)).ch hcs (by simp; omega)) hap (fun q hq => (HFN.out q hq).imp id (fun e => by omega)) (.inl rfl) ((HC0.out.trans HCW.out (by simp)).trans hcs (fun q hq => .inr (by simp at hq; omega)))
        · have h9 := HPE.out
          rw [if_pos hfz] at h9
          simp only [Prod.mk.injEq] at h9
          obtain ⟨a1, a2, a3, a4⟩ := h9
          subst a1 a2 a3 a4
          simp only [List.length_nil] at *
          have e4 : ((e1 : Int) != 0) = true := by simp [hfz]
          have hSm := Same23_is (HG.out.same (Ch.refl [] wc).drew (by simp)) (HRG.out.ch (Ch.refl [] wc).drew (by simp))
          have HSM := Lib.hid hSm; clear hSm hfz
          have hb4 := B4.out.ch (Ch.refl [] wc).drew (by simp)
          have y0 := hb4.cell (i := 0) rfl
          have y1 := hb4.cell (i := 1) rfl
          clear hb4
          go_wp2_with fail
          have hcur : Ch [] wc wc.drew := (Ch.refl [] wc).drew
          refine Ord.St.door (fun w' => Ch [] wc w') [.ho, .fl, .fl, .fl, .fl, .fl, .rd, .fl, .fl, .fl, .fl, .fl, .fl, .fl, .fl, .rd, .ef, .fl, .ef, .fl] [0, 0, 0, 6, 14, 30, 62, 126, 254, 510, 1022, 2046, 4094, 8190, 16382, 16382, 65534, 131070, 131071, 524287] [0, 1, 2, 3, 4, 5, 6, 7, 8, 9, 10, 11, 12, 13, 14, 15, 16, 17, 18, 19] mixed (by kernel_rfl) rfl ?_
          refine Ord.St.ho2 (T' := ?_) 0 [1, 2, 3, 4, 5, 6, 7, 8, 9, 10, 11, 12, 13, 14, 15, 16, 17, 18, 19] _ _ rfl (by kernel_rfl) rfl rfl rfl rfl ?_ (fun K w' hw' hk => ?_) ?_
          rotate_left
          · trivial
          · have hq4 := B4.out.ch hw' (by simp); have u0 := hq4.cell (i := 0) rfl; have u1 := hq4.cell (i := 1) rfl; go_step; exact hk
          refine Ord.St.fl2 (T' := ?_) 1 [2, 3, 4, 5, 6, 7, 8, 9, 10, 11, 12, 13, 14, 15, 16, 17, 18, 19] _ _ rfl (by kernel_rfl) rfl rfl rfl rfl (fun K w' hk => ?_) ?_
          rotate_left
          · go_step; exact hk
          refine Ord.St.fl2 (T' := ?_) 2 [3, 4, 5, 6, 7, 8, 9, 10, 11, 12, 13, 14, 15, 16, 17, 18, 19] _ _ rfl (by kernel_rfl) rfl rfl rfl rfl (fun K w' hk => ?_) ?_
          rotate_left
          · go_step; exact hk
          refine Ord.St.fl2 (T' := ?_) 3 [4, 5, 6, 7, 8, 9, 10, 11, 12, 13, 14, 15, 16, 17, 18, 19] _ _ rfl (by kernel_rfl) rfl rfl rfl rfl (fun K w' hk => ?_) ?_
          rotate_left
          · go_step; exact hk
          refine Ord.St.fl2 (T' := ?_) 4 [5, 6, 7, 8, 9, 10, 11, 12, 13, 14, 15, 16, 17, 18, 19] _ _ rfl (by kernel_rfl) rfl rfl rfl rfl (fun K w' hk => ?_) ?_
          rotate_left
          · go_step; exact hk
          first | (refine Ord.St.fl2 (T' := ?_) 5 [6, 7, 8, 9, 10, 11, 12, 13, 14, 15, 16, 17, 18, 19] _ _ rfl (by kernel_rfl) ?_ rfl rfl rfl (fun K w' hk => ?_) ?_; rotate_left; (first | rfl | (simp [Region.wanted, yielded, *]; done)); focus (go_step; exact hk)) | (refine Ord.St.skip 5 [6, 7, 8, 9, 10, 11, 12, 13, 14, 15, 16, 17, 18, 19] _ rfl (by kernel_rfl) ?_ (fun K hK => ?_); (first | rfl | (simp [Region.wanted, yielded, *]; done)); go_simp; refine hK _ ?_; clear hK K)
          first | (refine Ord.St.rd2 (T' := ?_) 6 [7, 8, 9, 10, 11, 12, 13, 14, 15, 16, 17, 18, 19] _ _ rfl (by kernel_rfl) ?_ rfl rfl rfl (fun K hk => ?_) ?_; rotate_left; (first | rfl | (simp [Region.wanted, yielded, *]; done)); focus (go_step; exact hk)) | (refine Ord.St.skipr 6 [7, 8, 9, 10, 11, 12, 13, 14, 15, 16, 17, 18, 19] _ rfl (by kernel_rfl) ?_ (fun K hK => ?_); (first | rfl | (simp [Region.wanted, yielded, *]; done)); go_simp; refine hK _ ?_; clear hK K)
          first | (refine Ord.St.fl2 (T' := ?_) 7 [8, 9, 10, 11, 12, 13, 14, 15, 16, 17, 18, 19] _ _ rfl (by kernel_rfl) ?_ rfl rfl rfl (fun K w' hk => ?_) ?_; rotate_left; (first | rfl | (simp [Region.wanted, yielded, *]; done)); focus (go_step; exact hk)) | (refine Ord.St.skip 7 [8, 9, 10, 11, 12, 13, 14, 15, 16, 17, 18, 19] _ rfl (by kernel_rfl) ?_ (fun K hK => ?_); (first | rfl | (simp [Region.wanted, yielded, *]; done)); go_simp; refine hK _ ?_; clear hK K)
          refine Ord.St.fl2 (T' := ?_) 8 [9, 10, 11, 12, 13, 14, 15, 16, 17, 18, 19] _ _ rfl (by kernel_rfl) rfl rfl rfl rfl (fun K w' hk => ?_) ?_
          rotate_left
          · go_step; exact hk
          refine Ord.St.fl2 (T' := ?_) 9 [10, 11, 12, 13, 14, 15, 16, 17, 18, 19] _ _ rfl (by kernel_rfl) rfl rfl rfl rfl (fun K w' hk => ?_) ?_
          rotate_left
          · go_step; exact hk
          first | (refine Ord.St.fl2 (T' := ?_) 10 [11, 12, 13, 14, 15, 16, 17, 18, 19] _ _ rfl (by kernel_rfl) ?_ rfl rfl rfl (fun K w' hk => ?_) ?_; rotate_left; (first | rfl | (simp [Region.wanted, yielded, *]; done)); focus (go_step; exact hk)) | (refine Ord.St.skip 10 [11, 12, 13, 14, 15, 16, 17, 18, 19] _ rfl (by kernel_rfl) ?_ (fun K hK => ?_); (first | rfl | (simp [Region.wanted, yielded, *]; done)); go_simp; refine hK _ ?_; clear hK K)
          first | (refine Ord.St.fl2 (T' := ?_) 11 [12, 13, 14, 15, 16, 17, 18, 19] _ _ rfl (by kernel_rfl) ?_ rfl rfl rfl (fun K w' hk => ?_) ?_; rotate_left; (first | rfl | (simp [Region.wanted, yielded, *]; done)); focus (go_step; exact hk)) | (refine Ord.St.skip 11 [12, 13, 14, 15, 16, 17, 18, 19] _ rfl (by kernel_rfl) ?_ (fun K hK => ?_); (first | rfl | (simp [Region.wanted, yielded, *]; done)); go_simp; refine hK _ ?_; clear hK K)
          refine Ord.St.fl2 (T' := ?_) 12 [13, 14, 15, 16, 17, 18, 19] _ _ rfl (by kernel_rfl) rfl rfl rfl rfl (fun K w' hk => ?_) ?_
          rotate_left
          · go_step; exact hk
          refine Ord.St.fl2 (T' := ?_) 13 [14, 15, 16, 17, 18, 19] _ _ rfl (by kernel_rfl) rfl rfl rfl rfl (fun K w' hk => ?_) ?_
          rotate_left
          · go_step; exact hk
          first | (refine Ord.St.fl2 (T' := ?_) 14 [15, 16, 17, 18, 19] _ _ rfl (by kernel_rfl) ?_ rfl rfl rfl (fun K w' hk => ?_) ?_; rotate_left; (first | rfl | (simp [Region.wanted, yielded, *]; done)); focus (go_step; exact hk)) | (refine Ord.St.skip 14 [15, 16, 17, 18, 19] _ rfl (by kernel_rfl) ?_ (fun K hK => ?_); (first | rfl | (simp [Region.wanted, yielded, *]; done)); go_simp; refine hK _ ?_; clear hK K)
          first | (refine Ord.St.rd2 (T' := ?_) 15 [16, 17, 18, 19] _ _ rfl (by kernel_rfl) ?_ rfl rfl rfl (fun K hk => ?_) ?_; rotate_left; (first | rfl | (simp [Region.wanted, yielded, *]; done)); focus (go_step; exact hk)) | (refine Ord.St.skipr 15 [16, 17, 18, 19] _ rfl (by kernel_rfl) ?_ (fun K hK => ?_); (first | rfl | (simp [Region.wanted, yielded, *]; done)); go_simp; refine hK _ ?_; clear hK K)
          refine Ord.St.efC 16 [17, 18, 19] _ rfl (by kernel_rfl) (fun K hK => ?_)
          go_wp2_with fail
          refine HSM.out.mono ?_
          rintro e w9 ⟨rfl, hc9⟩
          go_wp2_with fail
          refine ⟨rfl, hK _ _ ?_ ?_⟩
          · exact hcur.trans hc9 (by simp)
          clear hK K
          have hcw := hcur.trans hc9 (by simp)
          have hb6 := B6.out.ch hcw (by simp)
          have v0 := hb6.cell (i := 0) rfl
          have v1 := hb6.cell (i := 1) rfl
          have f0 := hb6.frozen (i := 0)
          have f1 := hb6.frozen (i := 1)
          have h6l := hb6.lt
          have HCW := Lib.hid hcw; clear hcw hc9 hb6 y0 y1
          refine Ord.St.fl2 (T' := ?_) 17 [18, 19] _ _ rfl (by kernel_rfl) rfl rfl rfl rfl (fun K w' hk => ?_) ?_
          rotate_left
          · go_step; exact hk
          refine Ord.St.ef 18 [19] _ rfl (by kernel_rfl) (fun K hK => ?_)
          go_wp2_with fail
          refine ⟨rfl, hK _ _ ?_⟩; clear hK K
          refine Ord.St.fl2 (T' := ?_) 19 [] _ _ rfl (by kernel_rfl) rfl rfl rfl rfl (fun K w' hk => ?_) ?_
          rotate_left
          · go_step; exact hk
          refine Ord.St.nil ?_
          go_wp2_with fail
          refine bodyPost_ret (v := .tuple #[.agg #[.int .i64 G1.most, .slice (some ⟨rb, 0, none⟩) G1.nodes.length cap], .bool true]) (by simp [results, Tryz.results30, go_sem, v0, v1]) rfl ?_
          have hcs := set2_ch (w := w9) (b := w.heap.size + 2) (u := .int .i64 G1.most) (v := .slice (some ⟨rb, 0, none⟩) G1.nodes.length cap) rfl
          exact ATo.of HBT0.out ((HG.out.same HCW.out (by simp)).same hcs (fun q hq hq2 => h6F (by rw [List.mem_singleton.1 hq2] at hq; exact hq))) ((HRG.out.ch HCW.out (by simp)).ch hcs (by simp; omega)) hap (fun q hq => (HFN.out q hq).imp id (fun e => by omega)) (.inl rfl) ((HC0.out.trans HCW.out (by simp)).trans hcs (fun q hq => .inr (by simp at hq; omega)))
end
end Go.Proofs.YtchledddgmbndaaGreat
namespace Go.Proofs.YtchledddgmbndaaGreat
open Go.RowKit Go.Mem Go.Aig
/-- an act of sums -/
structure AAct where
  kind : Nat
  xa : Option Addr
  xn : Nat
  xc : Nat
  X : List Int
  ya : Option Addr
  yn : Nat
  yc : Nat
  Y : List Int
  N : Int
/-- a slice of acts that can be read -/
structure AActS (w : World) (a : Option Addr) (n cap : Nat) (l : List AAct) : Prop where
  len : l.length = n
  le : n ≤ cap
  max : cap ≤ 9223372036854775807
  cells : ∀ (i : Nat) (x : AAct), l[i]? = some x → ∃ b o, a = some ⟨b, o, none⟩ ∧ w.cell? ⟨b, o + i * 4, none⟩ = some (.int .u8 x.kind) ∧ w.cell? ⟨b, o + i * 4 + 1, none⟩ = some (.slice x.xa x.xn x.xc) ∧ w.cell? ⟨b, o + i * 4 + 2, none⟩ = some (.slice x.ya x.yn x.yc) ∧ w.cell? ⟨b, o + i * 4 + 3, none⟩ = some (.int .i64 x.N)
  bd : ∀ x ∈ l, x.kind ≤ 255 ∧ x.X.length = x.xn ∧ x.Y.length = x.yn ∧ (∀ z ∈ x.X, -9223372036854775808 ≤ z ∧ z ≤ 9223372036854775807) ∧ (∀ z ∈ x.Y, -9223372036854775808 ≤ z ∧ z ≤ 9223372036854775807)
  slx : ∀ x ∈ l, Sl w x.xa x.X
  sly : ∀ x ∈ l, Sl w x.ya x.Y
theorem AActS.ch {w w' : World} {a : Option Addr} {n cap : Nat} {l : List AAct} (h : AActS w a n cap l) (hc : Ch [] w w') : AActS w' a n cap l :=
  ⟨h.len, h.le, h.max, fun i x hx => by
    obtain ⟨b, o, rfl, d0, d1, d2, d3⟩ := h.cells i x hx
    exact ⟨b, o, rfl, (hc.cell (cell_lt d0) (by simp)).trans d0, (hc.cell (cell_lt d1) (by simp)).trans d1, (hc.cell (cell_lt d2) (by simp)).trans d2, (hc.cell (cell_lt d3) (by simp)).trans d3⟩, h.bd, fun x hx => (h.slx x hx).ch hc (by simp), fun x hx => (h.sly x hx).ch hc (by simp)⟩
section
variable {w : World}
set_option maxRecDepth 100000 in
set_option maxHeartbeats 8000000 in
theorem makes23_no (M : Int) (N : Nat) (hM : M < 1 ∨ 65536 < M) (a : Option Addr) (n cap : Nat) : Calls Tryz.prog 7 #[.agg #[.int .i64 M, .int .u8 N], .slice a n cap] w fun e w' => e = .returned (.bool true) ∧ Ch [] w w' := by
  have hB := fun W => Begin23_no W M N hM
  clear hM
  go_enter Tryz.func7, Tryz.ntmps7
  go_wp2_with fail
  refine calls_named fun W hW => ?_
  have hc : Ch [] w W := by rw [hW]; exact (Ch.refl _ _).alloc _
  clear hW
  refine (hB W).mono ?_
  rintro e w1 ⟨rfl, hc1⟩
  have HC := Lib.hid (hc.trans hc1 (by simp)); clear hc hc1 hB
  go_wp2_with fail
  go_ret
  exact ⟨rfl, HC.out.alloc _⟩
set_option maxRecDepth 100000 in
set_option maxHeartbeats 8000000 in
theorem makes23_yes (M N : Nat) (h1 : 1 ≤ M) (h2 : M ≤ 65536) (hN : N ≤ 255) {a : Option Addr} {n cap : Nat} {l : List AAct} (hS : AActS w a n cap l) (hfew : ∀ x ∈ l, x.xn ≤ 1000 ∧ x.yn ≤ 1000) :
    Calls Tryz.prog 7 #[.agg #[.int .i64 M, .int .u8 N], .slice a n cap] w fun e w' => e = .returned (.bool true) ∧ Ch [] w w' := by
  have hB := fun W => Begin23_yes W M N h1 h2 hN
  have hlen := hS.len
  have hle := hS.le
  have hmx := hS.max
  have HB := Lib.hid hB; clear hB
  have HS := Lib.hid hS; clear hS
  have HFEW := Lib.hid hfew; clear hfew
  have HLEN := Lib.hid hlen; clear hlen
  go_enter Tryz.func7, Tryz.ntmps7
  go_wp2_with fail
  refine calls_named fun W hW => ?_
  have hc0 : Ch [] w W := by rw [hW]; exact (Ch.refl _ _).alloc _
  clear hW
  refine (HB.out W).mono ?_
  rintro e w1 ⟨g, F, rb, cap0, G, rfl, hbt⟩
  have HC0 := Lib.hid hc0; clear hc0
  have HBT := Lib.hid hbt; clear hbt HB
  go_upto_region 2 with fail
  refine wp_alw ?_
  intro W3 hW3
  have hb6 := alw_blk (xs := [.int .i64 G.most, .slice (some ⟨rb, 0, none⟩) G.nodes.length cap0]) hW3
  have hbt := HBT.out.same (alw_ch hW3)
  have h6F : w1.heap.size ∉ F := fun hin => Nat.lt_irrefl _ (HBT.out.gin.lt _ hin)
  have hrb6 : rb ≠ w1.heap.size := rg_ne HBT.out.rg
  have h6lo : W.heap.size ≤ w1.heap.size := HBT.out.ch.size
  clear hW3 HBT
  generalize w1.heap.size = b6 at *
  have HBT := Lib.hid hbt; clear hbt
  have B6 := Lib.hid hb6; clear hb6
  go_wp2_with fail
  go_loopw [24] (fun i wr => ∃ (k : Nat) (G : Gra) (F : List Nat) (rb cap : Nat), k ≤ n ∧ i = .int .i64 k ∧ Both W wr g rb cap G F ∧ b6 ∉ F ∧ rb ≠ b6 ∧ blk wr b6 [.int .i64 G.most, .slice (some ⟨rb, 0, none⟩) G.nodes.length cap]) (fun i _ => n - (intOf i).toNat)
  case atStart => exact ⟨0, G, F, rb, cap0, by omega, rfl, HBT.out, h6F, hrb6, B6.out⟩
  case round =>
    clear HBT B6 h6F hrb6
    obtain ⟨k, G, F, rb, capr, hk, rfl, hbt, h6F, hrb6, hb6⟩ := hrel
    by_cases hlt : k < n
    · obtain ⟨x, hx⟩ : ∃ x, l[k]? = some x := ⟨_, List.getElem?_eq_getElem (by rw [HLEN.out]; exact hlt)⟩
      have hxm := List.mem_of_getElem? hx
      obtain ⟨xb, xo, rfl, c0, c1, c2, c3⟩ := HS.out.cells k x hx
      have hcw := HC0.out.trans hbt.ch (by simp)
      have c0 := (hcw.cell (cell_lt c0) (by simp)).trans c0
      have c1 := (hcw.cell (cell_lt c1) (by simp)).trans c1
      have c2 := (hcw.cell (cell_lt c2) (by simp)).trans c2
      have c3 := (hcw.cell (cell_lt c3) (by simp)).trans c3
      obtain ⟨hkd, hxl, hyl, hxb, hyb⟩ := HS.out.bd x hxm
      obtain ⟨hxf, hyf⟩ := HFEW.out x hxm
      have hsx0 := HS.out.slx x hxm
      have hsy0 := HS.out.sly x hxm
      have hsx := hsx0.ch hcw (by simp)
      have hsy := hsy0.ch hcw (by simp)
      have hwr6 := hb6.lt
      obtain ⟨kind, xa, xn, xc, X, ya, yn, yc, Y, NN⟩ := x
      simp only at c0 c1 c2 c3 hkd hxl hyl hxb hyb hxf hyf hsx hsy hsx0 hsy0
      subst hxl hyl
      have hxold : 0 < X.length → ∀ p, xa = some p → p.block < W.heap.size := fun h0 p hp => by
        have := sl_lt' hsx0 h0 p hp
        have := HC0.out.size
        omega
      have hyold : 0 < Y.length → ∀ p, ya = some p → p.block < W.heap.size := fun h0 p hp => by
        have := sl_lt' hsy0 h0 p hp
        have := HC0.out.size
        omega
      have hact := fun (W1 : World) (hcA : Ch [] wr W1) => act23_is (hbt.same hcA) kind xc yc NN (hsx.ch hcA (by simp)) (hsy.ch hcA (by simp)) hxb hyb hxf hyf hxold hyold
      have HACT := Lib.hid hact; clear hact hsx0 hsy0 hsx hsy hxb hyb hxold hyold hx hxm hcw
      have HBT := Lib.hid hbt; clear hbt
      have B6 := Lib.hid hb6; clear hb6
      go_upto_region 7 with fail
      refine wp_alw ?_
      intro W1 hW1
      have hb8 := alw_blk (xs := [.int .u8 kind, .slice xa X.length xc, .slice ya Y.length yc, .int .i64 NN]) hW1
      have hcA := alw_ch hW1
      have hb6 := B6.out.ch hcA (by simp)
      have hA := HACT.out W1 hcA
      have h0 := hcA.size
      clear hW1 c0 c1 c2 c3
      have x0 := hb6.cell (i := 0) rfl
      have x1 := hb6.cell (i := 1) rfl
      have y0 := hb8.cell (i := 0) rfl
      have y1 := hb8.cell (i := 1) rfl
      have y2 := hb8.cell (i := 2) rfl
      have y3 := hb8.cell (i := 3) rfl
      have h6F1 : b6 ∉ F := h6F
      have hA1 := hb6.lt
      have HA := Lib.hid hA; clear hA HACT
      have B6' := Lib.hid hb6; clear hb6 hb8 B6
      go_wp2_with fail
      refine HA.out.mono ?_
      rintro e w2 ⟨G2, F2, rb2, cap2, rfl, hbt2, hF2, hfr2, hch⟩
      have hb6 := B6'.out.ch hch h6F
      have h6F2 : b6 ∉ F2 := fun hin => by rcases hF2 _ hin with e | e; exact h6F e; omega
      have hrb62 : rb2 ≠ b6 := by rcases hfr2 with e | e; (rw [e]; exact hrb6); omega
      have HBT2 := Lib.hid hbt2; clear hbt2 hF2 hfr2 hch
      have B6'' := Lib.hid hb6; clear hb6 B6' x0 x1 y0 y1 y2 y3 HA
      go_upto_region 8 with fail
      refine wp_alw ?_
      intro W5 hW5
      have hb9 := alw_blk (xs := [.int .i64 G2.most, .slice (some ⟨rb2, 0, none⟩) G2.nodes.length cap2]) hW5
      have hcA := alw_ch hW5
      have hbt := HBT2.out.same hcA
      have hb6 := B6''.out.ch hcA (by simp)
      clear hW5 HBT2 B6''
      have x0 := hb9.cell (i := 0) rfl
      have x1 := hb9.cell (i := 1) rfl
      have f0 := hb6.frozen (i := 0)
      have f1 := hb6.frozen (i := 1)
      have y0 := hb6.cell (i := 0) rfl
      have y1 := hb6.cell (i := 1) rfl
      have HBT := Lib.hid hbt; clear hbt hcA hb9
      have B6 := Lib.hid hb6; clear hb6
      go_wp2_with fail
      go_roundw
      case rel =>
        have hcs := set2_ch (w := W5) (b := b6) (u := .int .i64 G2.most) (v := .slice (some ⟨rb2, 0, none⟩) G2.nodes.length cap2) rfl
        exact ⟨k + 1, G2, F2, rb2, cap2, by omega, by go_num, HBT.out.set hcs h6F2 hrb62 h6lo, h6F2, hrb62, (B6.out.set (i := 0) _).set (i := 1) _⟩
      case measure => simp [intOf]; omega
    · have hSm := Same23_is hbt.gin hbt.rg
      have x0 := hb6.cell (i := 0) rfl
      have x1 := hb6.cell (i := 1) rfl
      have HSM := Lib.hid hSm; clear hSm
      have HC := Lib.hid (HC0.out.trans hbt.ch (by simp)); clear hbt hb6
      go_wp2_with fail
      refine HSM.out.mono ?_
      rintro e w9 ⟨rfl, hc9⟩
      have HC9 := Lib.hid hc9; clear hc9
      go_wp2_with fail
      go_ret
      exact ⟨rfl, HC.out.trans HC9.out (by simp)⟩
theorem makes23_is (M : Int) (N : Nat) (hN : N ≤ 255) {a : Option Addr} {n cap : Nat} {l : List AAct} (hS : AActS w a n cap l) (hfew : ∀ x ∈ l, x.xn ≤ 1000 ∧ x.yn ≤ 1000) :
    Calls Tryz.prog 7 #[.agg #[.int .i64 M, .int .u8 N], .slice a n cap] w fun e w' => e = .returned (.bool true) ∧ Ch [] w w' := by
  by_cases hM : M < 1 ∨ 65536 < M
  · exact makes23_no M N hM a n cap
  · obtain ⟨m, rfl⟩ : ∃ m : Nat, M = m := ⟨M.toNat, by omega⟩
    exact makes23_yes m N (by omega) (by omega) hN hS hfew
end
end Go.Proofs.YtchledddgmbndaaGreat
namespace Go.Proofs.YtchledddgmbndaaGreat
open Go.ChangeShapes Go.WideShapes Go.ChangeAt Go.RowKit Go.Mem Go.Aig Go.Deep
section
variable {H : Type} {enc : TypeId × Value → H} {W : World}
set_option maxRecDepth 100000 in
theorem start_open23 {r : Reach} {b0 : Nat} {v : Value} {d : DataW H} {p : List MemPlace} (hv : Value.okWide Tryz.prog W r b0 23 v) (h : DataW.Trod enc Tryz.prog W 0 (fun _ => true) true 23 v d p) :
    ∃ (M : Int) (N : Nat), v = .agg #[.int .i64 M, .int .u8 N] ∧ (Lit.int .i64 M).wf = true ∧ N ≤ 255 := by
  obtain ⟨c0, c1, y0, y1, m, rfl, _, _, hy0, hy1⟩ := Joins.open_agg2 Tryz.underlying23 (by kernel_rfl) (by kernel_rfl) hv h
  obtain ⟨a, e0, _, wa⟩ := DataW.trod_int Tryz.underlying3 hy0
  obtain ⟨b, e1, _, wb⟩ := DataW.trod_int Tryz.underlying5 hy1
  simp at e0 e1
  subst e0 e1
  obtain ⟨k, rfl, hk⟩ := wf_u8 wb
  exact ⟨a, k, rfl, wa, hk⟩
set_option maxRecDepth 100000 in
theorem aact_open {a : Option Addr} {len cap : Nat} {d : DataW H} {p : List MemPlace} (h : DataW.Trod enc Tryz.prog W 0 (fun _ => true) true 24 (.slice a len cap) d p) : ∃ l, AActS W a len cap l := by
  obtain ⟨fuel, hf⟩ := h
  rcases open_slice Tryz.underlying24 hf with ⟨hcs, _⟩ | ⟨x, l, c, m, n, D, Pl, hcs, _, hl, hm, hmm, _, hi⟩
  · simp [Value.cells] at hcs
    obtain ⟨rfl, rfl, rfl⟩ := hcs
    exact ⟨[], rfl, by omega, by omega, by simp, by simp, by simp, by simp⟩
  · simp [Value.cells] at hcs
    obtain ⟨rfl, rfl, rfl⟩ := hcs
    have hC : Tryz.prog.cellsOf 27 = 4 := by kernel_rfl
    have hspot : 0 < len → x.spot = none := fun h0 => by
      obtain ⟨cs', hc, _⟩ := hi 0 (by rw [hmm]; simp; omega)
      rw [hC] at hc
      obtain ⟨_, hcl, hat⟩ := World.cells?_some hc
      have e0 := hat 0 (by omega)
      rw [List.getElem?_eq_getElem (by omega)] at e0
      simpa [Addr.add] using World.cell?_spot e0
    have key : ∀ i, i < len → ∃ s : AAct, (∃ b o, (some x : Option Addr) = some ⟨b, o, none⟩ ∧ W.cell? ⟨b, o + i * 4, none⟩ = some (.int .u8 s.kind) ∧ W.cell? ⟨b, o + i * 4 + 1, none⟩ = some (.slice s.xa s.xn s.xc) ∧ W.cell? ⟨b, o + i * 4 + 2, none⟩ = some (.slice s.ya s.yn s.yc) ∧ W.cell? ⟨b, o + i * 4 + 3, none⟩ = some (.int .i64 s.N)) ∧
        (s.kind ≤ 255 ∧ s.X.length = s.xn ∧ s.Y.length = s.yn ∧ (∀ z ∈ s.X, -9223372036854775808 ≤ z ∧ z ≤ 9223372036854775807) ∧ (∀ z ∈ s.Y, -9223372036854775808 ≤ z ∧ z ≤ 9223372036854775807)) ∧ Sl W s.xa s.X ∧ Sl W s.ya s.Y := by
      intro i hlt
      obtain ⟨cs', hc, ht⟩ := hi i (by rw [hmm]; simp; omega)
      rw [hC] at hc
      obtain ⟨ys, n', _, _, hlen, _, hfd⟩ := DataW.trod_struct Tryz.underlying27 ht
      obtain ⟨_, hcl, hat⟩ := World.cells?_some hc
      match cs', hcl with
      | [c0, c1, c2, c3], _ =>
        have f0 := hfd 0 _ rfl
        have f1 := hfd 1 _ rfl
        have f2 := hfd 2 _ rfl
        have f3 := hfd 3 _ rfl
        have hu : Tryz.prog.cellsOf 5 = 1 := by kernel_rfl
        have hs : Tryz.prog.cellsOf 25 = 1 := by kernel_rfl
        have hi9 : Tryz.prog.cellsOf 3 = 1 := by kernel_rfl
        simp only [List.getElem_toArray, List.getElem_cons_zero, List.getElem_cons_succ, hu, hs, hi9, List.drop_zero, List.drop_succ_cons, List.take_succ_cons, List.take_zero] at f0 f1 f2 f3
        have hys : ys.length = 4 := by have := ‹ys.length = _›; simpa using this
        rw [List.getElem?_eq_getElem (by omega)] at f0 f1 f2 f3
        obtain ⟨z0, hz0, _, hw0⟩ := DataW.trod_int Tryz.underlying5 f0
        obtain ⟨k0, rfl, b0⟩ := wf_u8 hw0
        obtain ⟨xa, xn, xc, X, rfl, hslx, hXl, hXb, _, _⟩ := ints_open f1
        obtain ⟨ya, yn, yc, Y, rfl, hsly, hYl, hYb, _, _⟩ := ints_open f2
        obtain ⟨z3, hz3, _, _⟩ := DataW.trod_int Tryz.underlying3 f3
        simp at hz0 hz3
        subst hz0 hz3
        have e0 := hat 0 (by omega)
        have e1 := hat 1 (by omega)
        have e2 := hat 2 (by omega)
        have e3 := hat 3 (by omega)
        simp at e0 e1 e2 e3
        obtain ⟨b, o, spot⟩ := x
        have hsp : spot = none := hspot (by omega)
        subst hsp
        simp only [Addr.add_lit] at e0 e1 e2 e3
        exact ⟨⟨k0, xa, xn, xc, X, ya, yn, yc, Y, z3⟩, ⟨b, o, rfl, by simpa using e0, by simpa using e1, by simpa using e2, by simpa using e3⟩, ⟨b0, hXl, hYl, hXb, hYb⟩, hslx, hsly⟩
    obtain ⟨ll, hll, hp⟩ := list_of _ len key
    have idx : ∀ s ∈ ll, ∃ i : Nat, ll[i]? = some s := fun s hs => List.mem_iff_getElem?.1 hs
    exact ⟨ll, hll, hl, by unfold maxLen at hm; exact hm, fun i s hs => (hp i s hs).1, fun s hs => by obtain ⟨i, hi2⟩ := idx s hs; exact (hp i s hi2).2.1, fun s hs => by obtain ⟨i, hi2⟩ := idx s hs; exact (hp i s hi2).2.2.1, fun s hs => by obtain ⟨i, hi2⟩ := idx s hs; exact (hp i s hi2).2.2.2⟩
end
end Go.Proofs.YtchledddgmbndaaGreat
namespace Go.Proofs.YtchledddgmbndaaGreat
open Go.RowKit Go.Mem Go.Aig
section
variable {w : World}
set_option maxRecDepth 100000 in
set_option maxHeartbeats 4000000 in
theorem SumsMakes_walk (M : Int) (_hM : (Lit.int .i64 M).wf = true) (N : Nat) (hN : N ≤ 255) {a : Option Addr} {n cap : Nat} {l : List AAct} (hS : AActS w a n cap l) :
    Calls Tryz.prog 3 #[.agg #[.int .i64 M, .int .u8 N], .slice a n cap] w fun e w' => e = .returned (.bool true) ∧ Ch [] w w' := by
  have hle := hS.le
  have hmx := hS.max
  have HS := Lib.hid hS; clear hS
  have HAW := Lib.hid fun (W : World) => awake23_is W
  go_enter Tryz.func3, Tryz.ntmps3
  go_wp2_with fail
  refine wp_alw ?_
  intro W0 hW0
  have b2 : blk W0 w.heap.size [.int .i64 M, .int .u8 N] := by rw [hW0]; exact blk.new' _ _ (by simp)
  have hc0 : Ch [] w W0 := by rw [hW0]; exact (Ch.refl _ _).alloc _
  clear hW0
  have B2 := Lib.hid b2; clear b2
  have HC0 := Lib.hid hc0; clear hc0
  go_loopw [9] (fun i wr => ∃ k : Nat, k ≤ n ∧ i = .int .i64 k ∧ Ch [] w wr ∧ blk wr w.heap.size [.int .i64 M, .int .u8 N] ∧ ∀ (j : Nat) (x : AAct), j < k → l[j]? = some x → x.xn ≤ 20 ∧ x.yn ≤ 20) (fun i _ => n - (intOf i).toNat)
  case atStart => exact ⟨0, by omega, rfl, HC0.out, B2.out, fun j x hj => by omega⟩
  case round =>
    obtain ⟨k, hk, rfl, hc, b2, hno⟩ := hrel
    clear B2 HC0
    have HNO := Lib.hid hno; clear hno
    by_cases hlt : k < n
    · obtain ⟨x, hx⟩ : ∃ x, l[k]? = some x := ⟨_, List.getElem?_eq_getElem (by rw [HS.out.len]; exact hlt)⟩
      have hxm := List.mem_of_getElem? hx
      obtain ⟨xb, xo, rfl, d0, d1, d2, d3⟩ := HS.out.cells k x hx
      have d0 := (hc.cell (cell_lt d0) (by simp)).trans d0
      have d1 := (hc.cell (cell_lt d1) (by simp)).trans d1
      have d2 := (hc.cell (cell_lt d2) (by simp)).trans d2
      have d3 := (hc.cell (cell_lt d3) (by simp)).trans d3
      have hcA : Ch [] w (wr.alloc (.cells #[.int .u8 x.kind, .slice x.xa x.xn x.xc, .slice x.ya x.yn x.yc, .int .i64 x.N] 27)) := hc.alloc _
      have b2A := b2.ch (F := []) ((Ch.refl [] wr).alloc (.cells #[.int .u8 x.kind, .slice x.xa x.xn x.xc, .slice x.ya x.yn x.yc, .int .i64 x.N] 27)) (by simp)
      have HCA := Lib.hid hcA; clear hcA hc
      have B2A := Lib.hid b2A; clear b2A b2
      have HX := Lib.hid hx; clear hx hxm
      by_cases hbig : 6 < n
      · have q0 : decide ((6 : Int) < (n : Int)) = true := decide_eq_true (by omega)
        clear hbig
        go_wp2_with fail
        refine (HAW.out _).mono ?_
        rintro e w2 ⟨rfl, hc2⟩
        have HC2 := Lib.hid hc2; clear hc2
        go_wp2_with fail
        go_ret
        exact ⟨rfl, HCA.out.trans HC2.out (by simp)⟩
      · have q0 : decide ((6 : Int) < (n : Int)) = false := decide_eq_false (by omega)
        clear hbig
        by_cases hb2 : 20 < x.xn
        · have q1 : decide ((20 : Int) < (x.xn : Int)) = true := decide_eq_true (by omega)
          clear hb2
          go_wp2_with fail
          refine (HAW.out _).mono ?_
          rintro e w2 ⟨rfl, hc2⟩
          have HC2 := Lib.hid hc2; clear hc2
          go_wp2_with fail
          go_ret
          exact ⟨rfl, HCA.out.trans HC2.out (by simp)⟩
        · have q1 : decide ((20 : Int) < (x.xn : Int)) = false := decide_eq_false (by omega)
          by_cases hb3 : 20 < x.yn
          · have q2 : decide ((20 : Int) < (x.yn : Int)) = true := decide_eq_true (by omega)
            clear hb2 hb3
            go_wp2_with fail
            refine (HAW.out _).mono ?_
            rintro e w2 ⟨rfl, hc2⟩
            have HC2 := Lib.hid hc2; clear hc2
            go_wp2_with fail
            go_ret
            exact ⟨rfl, HCA.out.trans HC2.out (by simp)⟩
          · have q2 : decide ((20 : Int) < (x.yn : Int)) = false := decide_eq_false (by omega)
            have hb20 := Lib.hid (show x.xn ≤ 20 ∧ x.yn ≤ 20 by omega)
            clear hb2 hb3
            go_wp2_with fail
            go_roundw
            case rel =>
              refine ⟨k + 1, by omega, by go_num, HCA.out, B2A.out, fun j y hj hy => ?_⟩
              by_cases e : j = k
              · subst e; rw [HX.out] at hy; cases hy; exact hb20.out
              · exact HNO.out j y (by omega) hy
            case measure => simp [intOf]; omega
    · have hall : ∀ x ∈ l, x.xn ≤ 1000 ∧ x.yn ≤ 1000 := fun x hx => by
        obtain ⟨j, hj⟩ := List.mem_iff_getElem?.1 hx
        have := HNO.out j x (by have := (List.getElem?_eq_some_iff.1 hj).1; have := HS.out.len; omega) hj
        omega
      have hD := makes23_is M N hN (HS.out.ch hc) hall
      have x0 := b2.cell (i := 0) rfl
      have x1 := b2.cell (i := 1) rfl
      have HD := Lib.hid hD; clear hD hall
      have HC := Lib.hid hc; clear hc b2
      go_wp2_with fail
      refine HD.out.mono ?_
      rintro e w2 ⟨rfl, hc2⟩
      have HC2 := Lib.hid hc2; clear hc2
      go_wp2_with fail
      refine (HAW.out _).mono ?_
      rintro e w3 ⟨rfl, hc3⟩
      have HC3 := Lib.hid hc3; clear hc3
      go_wp2_with fail
      go_ret
      exact ⟨rfl, (HC.out.trans HC2.out (by simp)).trans HC3.out (by simp)⟩
end
end Go.Proofs.YtchledddgmbndaaGreat
