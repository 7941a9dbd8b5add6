/-
  Walk over AigSmall: all its acts do what they should. Conditions: none.
-/
import Derived.Test.YtnajonchjlplmaaQR18
namespace Go.Proofs.Ytnajonchjlplmaa
open Go.RowKit Go.Mem Go.Aig
theorem most5 {j : Nat} (h : j < 5) : ∃ m : Nat, [Value.int .i64 3, .int .i64 5, .int .i64 6, .int .i64 8, .int .i64 40][j]? = some (.int .i64 m) ∧ 3 ≤ m ∧ m ≤ 40 := by
  rcases (by omega : j = 0 ∨ j = 1 ∨ j = 2 ∨ j = 3 ∨ j = 4) with e | e | e | e | e <;> subst e
  · exact ⟨3, rfl, by omega, by omega⟩
  · exact ⟨5, rfl, by omega, by omega⟩
  · exact ⟨6, rfl, by omega, by omega⟩
  · exact ⟨8, rfl, by omega, by omega⟩
  · exact ⟨40, rfl, by omega, by omega⟩
def ends : List Int := [-9223372036854775808, -1, 0, 1, 2, 3, 65536, 65537, 9223372036854775806, 9223372036854775807]
theorem ends_at {j : Nat} (h : j < 10) : ∃ z : Int, (intCells ends)[j]? = some (.int .i64 z) ∧ -9223372036854775808 ≤ z ∧ z ≤ 9223372036854775807 := by
  have hlt : j < ends.length := h
  have hm : ends[j] ∈ ends := List.getElem_mem hlt
  refine ⟨ends[j], by unfold intCells; rw [List.getElem?_map, List.getElem?_eq_getElem hlt]; rfl, ?_, ?_⟩
  · have : ∀ z ∈ ends, -9223372036854775808 ≤ z := by decide
    exact this _ hm
  · have : ∀ z ∈ ends, z ≤ 9223372036854775807 := by decide
    exact this _ hm
theorem tmod3 (b : Int) : -3 ≤ b.tmod 3 ∧ b.tmod 3 ≤ 3 := by
  have h1 := Int.tmod_lt_of_pos b (by decide : (0 : Int) < 3)
  have h2 := Int.neg_tmod b 3
  have h3 := Int.tmod_lt_of_pos (-b) (by decide : (0 : Int) < 3)
  omega
section
set_option maxRecDepth 100000 in
set_option maxHeartbeats 8000000 in
theorem AigSmall_walk (w : World) : Calls Try.prog 8 #[] w fun e w' => e = .returned (.bool true) ∧ Ch [] w w' := by
  go_enter Try.func8, Try.ntmps8
  go_wp2_with fail
  go_loopw [1] (fun i wr => ∃ a : Int, -1 ≤ a ∧ a ≤ 11 ∧ i = .int .i64 a ∧ Ch [] w wr) (fun i _ => (11 - intOf i).toNat)
  case atStart => exact ⟨-1, by omega, by omega, rfl, Ch.refl _ _⟩
  case round =>
    obtain ⟨a, ha0, ha1, rfl, hca⟩ := hrel
    by_cases hla : a < 11
    · have qa : decide (a < 11) = true := decide_eq_true hla
      have HCA := Lib.hid hca; clear hca
      obtain ⟨wa, rfl⟩ : ∃ wa : World, wa = wr := ⟨_, rfl⟩
      go_wp2_with fail
      clear qa
      go_loopw [2] (fun i wr => ∃ b : Int, -1 ≤ b ∧ b ≤ 11 ∧ i = .int .i64 b ∧ Ch [] w wr) (fun i _ => (11 - intOf i).toNat)
      case atStart => exact ⟨-1, by omega, by omega, rfl, HCA.out⟩
      case round =>
        clear HCA
        obtain ⟨b, hb0, hb1, rfl, hcb⟩ := hrel
        by_cases hlb : b < 11
        · have qb : decide (b < 11) = true := decide_eq_true hlb
          have HCB := Lib.hid hcb; clear hcb
          obtain ⟨wb, rfl⟩ : ∃ wb : World, wb = wr := ⟨_, rfl⟩
          go_wp2_with fail
          clear qb
          go_loopw [18] (fun i wr => ∃ kk : Nat, kk ≤ 8 ∧ i = .int .u8 kk ∧ Ch [] w wr) (fun i _ => 8 - (intOf i).toNat)
          case atStart => exact ⟨0, by omega, rfl, HCB.out⟩
          case round =>
            clear HCB
            obtain ⟨kk, hk, rfl, hck⟩ := hrel
            by_cases hlk : kk < 8
            · have qk : decide ((kk : Int) < 8) = true := decide_eq_true (by omega)
              have HCK := Lib.hid hck; clear hck
              obtain ⟨wk, rfl⟩ : ∃ wk : World, wk = wr := ⟨_, rfl⟩
              go_wp2_with fail
              refine wp_alw ?_
              intro W1 hW1
              have bm := alw_blk (xs := [.int .i64 3, .int .i64 5, .int .i64 6, .int .i64 8, .int .i64 40]) hW1
              have hc1 := HCK.out.trans (alw_ch hW1) (by simp)
              clear hW1
              generalize wk.heap.size = bma at *
              have BM := Lib.hid bm; clear bm
              have HC1 := Lib.hid hc1; clear hc1 HCK
              go_loopw [23] (fun i wr => ∃ j : Nat, j ≤ 5 ∧ i = .int .i64 j ∧ Ch [] w wr ∧ blk wr bma [.int .i64 3, .int .i64 5, .int .i64 6, .int .i64 8, .int .i64 40]) (fun i _ => 5 - (intOf i).toNat)
              case atStart => exact ⟨0, by omega, rfl, HC1.out, BM.out⟩
              case round =>
                clear BM HC1
                obtain ⟨j, hj, rfl, hcj, hbm⟩ := hrel
                by_cases hlj : j < 5
                · obtain ⟨m, hm, hm3, hm40⟩ := most5 hlj
                  have c0 := hbm.cell hm
                  obtain ⟨q, hq⟩ : ∃ q : Nat, ((kk : Int) + (m : Int)) % 7 = (q : Int) := ⟨(kk + m) % 7, by omega⟩
                  have hq6 : q ≤ 6 := by omega
                  have p0 : 0 ≤ a + b + 2 := by omega
                  have p1 : 0 ≤ a + b + (kk : Int) + (m : Int) := by omega
                  obtain ⟨t0, t1⟩ := tmod3 b
                  have HB := Lib.hid hbm; clear hbm hm
                  have HCJ := Lib.hid hcj; clear hcj
                  go_upto_region 14 with fail
                  clear hq
                  refine wp_alw ?_
                  intro W5 hW5
                  have hb1' : blk W5 wr.heap.size (intCells [a, b, 3]) := by rw [hW5]; exact ((blk.new' (intCells [a, b, 3]) 3 rfl).alloc _).alloc _
                  have hb2' : blk W5 (wr.heap.size + 1) (intCells [b, a, 6, 1]) := by rw [hW5]; exact (blk.new' (intCells [b, a, 6, 1]) 3 (by simp)).alloc _
                  have hb3' : blk W5 (wr.heap.size + 1 + 1) (actsCells [⟨0, 0, 0, 0, none, 0, 0, []⟩, ⟨0, 0, 0, 0, none, 0, 0, []⟩, ⟨1, 2, 5, 0, none, 0, 0, []⟩, ⟨kk, a, b, (a + b + 2) % 10, some ⟨wr.heap.size, 0, none⟩, 3, 3, [a, b, 3]⟩, ⟨q, b, 4, a, some ⟨wr.heap.size + 1, 0, none⟩, 4, 4, [b, a, 6, 1]⟩, ⟨7, 0, 0, 4 + b.tmod 3, none, 0, 0, []⟩, ⟨1, 4, 3, 0, none, 0, 0, []⟩]) := by
                    rw [hW5]
                    exact blk.new' (actsCells [⟨0, 0, 0, 0, none, 0, 0, []⟩, ⟨0, 0, 0, 0, none, 0, 0, []⟩, ⟨1, 2, 5, 0, none, 0, 0, []⟩, ⟨kk, a, b, (a + b + 2) % 10, some ⟨wr.heap.size, 0, none⟩, 3, 3, [a, b, 3]⟩, ⟨q, b, 4, a, some ⟨wr.heap.size + 1, 0, none⟩, 4, 4, [b, a, 6, 1]⟩, ⟨7, 0, 0, 4 + b.tmod 3, none, 0, 0, []⟩, ⟨1, 4, 3, 0, none, 0, 0, []⟩]) 67 (by simp)
                  have hc5 : Ch [] wr W5 := by rw [hW5]; exact (((Ch.refl _ _).alloc _).alloc _).alloc _
                  clear hW5
                  have hD := does_blk hb3' (fun x hx => by
                    simp only [List.mem_cons, List.not_mem_nil, or_false] at hx
                    rcases hx with rfl | rfl | rfl | rfl | rfl | rfl | rfl
                    · exact ga0 _ (by omega) (by omega) (by omega) (by omega)
                    · exact ga0 _ (by omega) (by omega) (by omega) (by omega)
                    · exact ga0 _ (by omega) (by omega) (by omega) (by omega)
                    · exact ga1 hb1' (by simp) (by intro z hz; simp at hz; omega) (by omega) (by omega) (by omega) (by omega) rfl
                    · exact ga1 hb2' (by simp) (by intro z hz; simp at hz; omega) (by omega) (by omega) (by omega) (by omega) rfl
                    · exact ga0 _ (by omega) (by omega) (by omega) (by omega)
                    · exact ga0 _ (by omega) (by omega) (by omega) (by omega)) (by simp) (n := 7) rfl (m : Int) (by omega) (by omega)
                  have hb5 := HB.out.ch hc5 (by simp)
                  have hcw := HCJ.out.trans hc5 (by simp)
                  have HD := Lib.hid hD; clear hD hb1' hb2' hb3'
                  have HB5 := Lib.hid hb5; clear hb5 hc5
                  have HCW := Lib.hid hcw; clear hcw c0
                  by_cases hz : (a + b + (kk : Int) + (m : Int)) % 3 = 0
                  · have qz : ((a + b + (kk : Int) + (m : Int)) % 3 == 0) = true := by simp [hz]
                    clear hz
                    go_wp2_with fail
                    refine HD.out.mono ?_
                    rintro e w6 ⟨rfl, hc6⟩
                    have HC6 := Lib.hid hc6; clear hc6
                    go_wp2_with fail
                    go_roundw
                    case rel => exact ⟨j + 1, by omega, by go_num, HCW.out.trans HC6.out (by simp), HB5.out.ch HC6.out (by simp)⟩
                    case measure => simp [intOf]; omega
                  · have qz : ((a + b + (kk : Int) + (m : Int)) % 3 == 0) = false := by simp [hz]
                    clear hz
                    go_wp2_with fail
                    go_roundw
                    case rel => exact ⟨j + 1, by omega, by go_num, HCW.out, HB5.out⟩
                    case measure => simp [intOf]; omega
                · have HCJ := Lib.hid hcj; clear hcj hbm
                  go_wp2_with fail
                  go_roundw
                  case rel => exact ⟨kk + 1, by omega, by go_num, HCJ.out⟩
                  case measure => simp [intOf]; omega
            · have HCK := Lib.hid hck; clear hck
              go_wp2_with fail
              go_roundw
              case rel => exact ⟨b + 1, by omega, by omega, rfl, HCK.out⟩
              case measure => simp [intOf]; omega
        · have qb : decide (b < 11) = false := decide_eq_false hlb
          have HCB := Lib.hid hcb; clear hcb
          go_wp2_with fail
          go_roundw
          case rel => exact ⟨a + 1, by omega, by omega, rfl, HCB.out⟩
          case measure => simp [intOf]; omega
    · have qa : decide (a < 11) = false := decide_eq_false hla
      have HCA := Lib.hid hca; clear hca
      obtain ⟨wa, rfl⟩ : ∃ wa : World, wa = wr := ⟨_, rfl⟩
      go_wp2_with fail
      clear qa hla
      refine wp_alw ?_
      intro W1 hW1
      have bm := alw_blk (xs := intCells ends) hW1
      have hc1 := HCA.out.trans (alw_ch hW1) (by simp)
      clear hW1
      generalize wa.heap.size = bma at *
      have BM := Lib.hid bm; clear bm
      have HC1 := Lib.hid hc1; clear hc1 HCA
      go_loopw [79] (fun i wr => ∃ j : Nat, j ≤ 10 ∧ i = .int .i64 j ∧ Ch [] w wr ∧ blk wr bma (intCells ends)) (fun i _ => 10 - (intOf i).toNat)
      case atStart => exact ⟨0, by omega, rfl, HC1.out, BM.out⟩
      case round =>
        clear BM HC1
        obtain ⟨j, hj, rfl, hcj, hbm⟩ := hrel
        by_cases hlj : j < 10
        · obtain ⟨z, hz, hz0, hz1⟩ := ends_at hlj
          have c0 := hbm.cell hz
          have qj : decide ((j : Int) < 10) = true := decide_eq_true (by omega)
          have HBJ := Lib.hid hbm; clear hbm hz
          have HCJ := Lib.hid hcj; clear hcj
          obtain ⟨wj, rfl⟩ : ∃ wj : World, wj = wr := ⟨_, rfl⟩
          go_wp2_with fail
          go_loopw [83] (fun i wr => ∃ kk : Nat, kk ≤ 8 ∧ i = .int .u8 kk ∧ Ch [] wj wr) (fun i _ => 8 - (intOf i).toNat)
          case atStart => exact ⟨0, by omega, rfl, Ch.refl _ _⟩
          case round =>
            obtain ⟨kk, hk, rfl, hck⟩ := hrel
            by_cases hlk : kk < 8
            · have hb1' : blk (((wr.alloc (.cells (intCells [z]).toArray 3)).alloc (.cells (intCells [2, z]).toArray 3)).alloc (.cells (actsCells [⟨0, 0, 0, 0, none, 0, 0, []⟩, ⟨0, 0, 0, 0, none, 0, 0, []⟩, ⟨kk, z, 2, z, some ⟨wr.heap.size, 0, none⟩, 1, 1, [z]⟩, ⟨kk, 2, z, 4, none, 0, 0, []⟩, ⟨kk, 2, 4, z, some ⟨wr.heap.size + 1, 0, none⟩, 2, 2, [2, z]⟩]).toArray 67)) wr.heap.size (intCells [z]) := ((blk.new' (intCells [z]) 3 rfl).alloc _).alloc _
              have hb2' : blk (((wr.alloc (.cells (intCells [z]).toArray 3)).alloc (.cells (intCells [2, z]).toArray 3)).alloc (.cells (actsCells [⟨0, 0, 0, 0, none, 0, 0, []⟩, ⟨0, 0, 0, 0, none, 0, 0, []⟩, ⟨kk, z, 2, z, some ⟨wr.heap.size, 0, none⟩, 1, 1, [z]⟩, ⟨kk, 2, z, 4, none, 0, 0, []⟩, ⟨kk, 2, 4, z, some ⟨wr.heap.size + 1, 0, none⟩, 2, 2, [2, z]⟩]).toArray 67)) (wr.heap.size + 1) (intCells [2, z]) := (blk.new' (intCells [2, z]) 3 (by simp)).alloc _
              have hb3' : blk (((wr.alloc (.cells (intCells [z]).toArray 3)).alloc (.cells (intCells [2, z]).toArray 3)).alloc (.cells (actsCells [⟨0, 0, 0, 0, none, 0, 0, []⟩, ⟨0, 0, 0, 0, none, 0, 0, []⟩, ⟨kk, z, 2, z, some ⟨wr.heap.size, 0, none⟩, 1, 1, [z]⟩, ⟨kk, 2, z, 4, none, 0, 0, []⟩, ⟨kk, 2, 4, z, some ⟨wr.heap.size + 1, 0, none⟩, 2, 2, [2, z]⟩]).toArray 67)) (wr.heap.size + 1 + 1) (actsCells [⟨0, 0, 0, 0, none, 0, 0, []⟩, ⟨0, 0, 0, 0, none, 0, 0, []⟩, ⟨kk, z, 2, z, some ⟨wr.heap.size, 0, none⟩, 1, 1, [z]⟩, ⟨kk, 2, z, 4, none, 0, 0, []⟩, ⟨kk, 2, 4, z, some ⟨wr.heap.size + 1, 0, none⟩, 2, 2, [2, z]⟩]) := blk.new' _ _ (by simp)
              have hc3 : Ch [] wr (((wr.alloc (.cells (intCells [z]).toArray 3)).alloc (.cells (intCells [2, z]).toArray 3)).alloc (.cells (actsCells [⟨0, 0, 0, 0, none, 0, 0, []⟩, ⟨0, 0, 0, 0, none, 0, 0, []⟩, ⟨kk, z, 2, z, some ⟨wr.heap.size, 0, none⟩, 1, 1, [z]⟩, ⟨kk, 2, z, 4, none, 0, 0, []⟩, ⟨kk, 2, 4, z, some ⟨wr.heap.size + 1, 0, none⟩, 2, 2, [2, z]⟩]).toArray 67)) := (((Ch.refl _ _).alloc _).alloc _).alloc _
              have hD := does_blk hb3' (fun x hx => by
                simp only [List.mem_cons, List.not_mem_nil, or_false] at hx
                rcases hx with rfl | rfl | rfl | rfl | rfl
                · exact ga0 _ (by omega) (by omega) (by omega) (by omega)
                · exact ga0 _ (by omega) (by omega) (by omega) (by omega)
                · exact ga1 hb1' (by simp) (by intro y hy; simp at hy; omega) (by omega) (by omega) (by omega) (by omega) rfl
                · exact ga0 _ (by omega) (by omega) (by omega) (by omega)
                · exact ga1 hb2' (by simp) (by intro y hy; simp at hy; omega) (by omega) (by omega) (by omega) (by omega) rfl) (by simp) (n := 5) rfl 9 (by omega) (by omega)
              have HD := Lib.hid hD; clear hD hb1' hb2' hb3'
              have HC3 := Lib.hid (hck.trans hc3 (by simp)); clear hc3 hck
              go_wp2_with fail
              refine HD.out.mono ?_
              rintro e w6 ⟨rfl, hc6⟩
              have HC6 := Lib.hid hc6; clear hc6
              go_wp2_with fail
              go_roundw
              case rel => exact ⟨kk + 1, by omega, by go_num, HC3.out.trans HC6.out (by simp)⟩
              case measure => simp [intOf]; omega
            · have hb3' : blk (wr.alloc (.cells (actsCells [⟨0, 0, 0, 0, none, 0, 0, []⟩, ⟨1, 2, 2, 0, none, 0, 0, []⟩, ⟨5, 0, 0, 0, none, 0, 0, []⟩, ⟨6, 0, 0, 0, none, 0, 0, []⟩]).toArray 67)) wr.heap.size (actsCells [⟨0, 0, 0, 0, none, 0, 0, []⟩, ⟨1, 2, 2, 0, none, 0, 0, []⟩, ⟨5, 0, 0, 0, none, 0, 0, []⟩, ⟨6, 0, 0, 0, none, 0, 0, []⟩]) := blk.new' _ _ rfl
              have hc3 : Ch [] wr (wr.alloc (.cells (actsCells [⟨0, 0, 0, 0, none, 0, 0, []⟩, ⟨1, 2, 2, 0, none, 0, 0, []⟩, ⟨5, 0, 0, 0, none, 0, 0, []⟩, ⟨6, 0, 0, 0, none, 0, 0, []⟩]).toArray 67)) := (Ch.refl _ _).alloc _
              have hD := does_blk hb3' (fun x hx => by
                simp only [List.mem_cons, List.not_mem_nil, or_false] at hx
                rcases hx with rfl | rfl | rfl | rfl
                · exact ga0 _ (by omega) (by omega) (by omega) (by omega)
                · exact ga0 _ (by omega) (by omega) (by omega) (by omega)
                · exact ga0 _ (by omega) (by omega) (by omega) (by omega)
                · exact ga0 _ (by omega) (by omega) (by omega) (by omega)) (by simp) (n := 4) rfl z (by omega) (by omega)
              have HD := Lib.hid hD; clear hD hb3'
              have HC3 := Lib.hid (hck.trans hc3 (by simp)); clear hc3 hck
              go_wp2_with fail
              refine HD.out.mono ?_
              rintro e w6 ⟨rfl, hc6⟩
              have hcj6 := HC3.out.trans hc6 (by simp)
              have HC6 := Lib.hid hcj6; clear hcj6 hc6
              go_wp2_with fail
              go_roundw
              case rel => exact ⟨j + 1, by omega, by go_num, HCJ.out.trans HC6.out (by simp), HBJ.out.ch HC6.out (by simp)⟩
              case measure => simp [intOf]; omega
        · have HCJ := Lib.hid hcj; clear hcj hbm
          have hN := none20_is wr
          have haw := fun (W : World) => awake_is W
          have HN := Lib.hid hN; clear hN
          have HAW := Lib.hid haw; clear haw
          go_wp2_with fail
          refine HN.out.mono ?_
          rintro e w6 ⟨rfl, hc6⟩
          have HC6 := Lib.hid hc6; clear hc6
          go_wp2_with fail
          refine (HAW.out _).mono ?_
          rintro e w7 ⟨rfl, hc7⟩
          have HC7 := Lib.hid hc7; clear hc7
          go_wp2_with fail
          go_ret
          exact ⟨rfl, (HCJ.out.trans HC6.out (by simp)).trans HC7.out (by simp)⟩
end
end Go.Proofs.Ytnajonchjlplmaa
