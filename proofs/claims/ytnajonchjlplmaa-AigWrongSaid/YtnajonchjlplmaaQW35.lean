/-
  Walk over AigWrong: true. Conditions: a slice of small ones; an int.
-/
import Derived.Test.YtnajonchjlplmaaQW34
namespace Go.Proofs.Ytnajonchjlplmaa
open Go.RowKit Go.Mem Go.Aig
section
variable {w : World}
theorem right_low {ns : List Nd} {r : Int} (h : r < 0) : right ns r = false := by unfold right; simp; omega
theorem right_high {ns : List Nd} {r : Int} (h : 2 * (ns.length : Int) ≤ r) : right ns r = false := by unfold right; simp; omega
theorem rep_get {v : Value} {n i : Nat} (h : i < n) : (List.replicate n v)[i]? = some v := by simp [h]
set_option maxRecDepth 100000 in
set_option maxHeartbeats 16000000 in
theorem AigWrong_walk {a : Option Addr} {n cap : Nat} {l : List Sm} (hS : SmS w a n cap l) (m : Int) (hm : (Lit.int .i64 m).wf = true) :
    Calls Try.prog 6 #[.slice a n cap, .int .i64 m] w fun e w' => e = .returned (.bool true) ∧ Ch [] w w' := by
  have hmb : -9223372036854775808 ≤ m ∧ m ≤ 9223372036854775807 := by simpa [Lit.wf, IntKind.min, IntKind.max, IntKind.signed, IntKind.bits] using hm
  obtain ⟨hm0, hm1⟩ := hmb
  clear hm
  obtain ⟨hok, hnl, hrl, h60, hmo⟩ := built_ok l
  have hB := fun (W : World) (hW : Ch [] w W) => build_is (w := W) 4000 (by omega) (by omega) (hS.ch hW (by simp)) (by omega)
  have hpos := hok.ok.wf.pos
  clear hS hrl h60 hmo
  have hsz : (builtB 4000 (l.take 60)).G.nodes.length ≤ 65536 := by have := hok.ok.room; have := hok.ok.most; omega
  clear hnl
  generalize builtB 4000 (l.take 60) = b at *
  have HB := Lib.hid hB; clear hB
  have HOK := Lib.hid hok; clear hok
  have hmin1 := min_int m (-1)
  have hmin0 := min_int m 0
  have hmax1 := max_int m (2 * (b.G.nodes.length : Int))
  have hmax2 := max_int m (2 * (b.G.nodes.length : Int) + 1)
  have hmax3 := max_int m ((b.G.nodes.length : Int) + 1)
  have hmax4 := max_int m 65537
  have hrs : ∀ r ∈ [min m (-1), max m (2 * (b.G.nodes.length : Int)), max m (2 * (b.G.nodes.length : Int) + 1)], right b.G.nodes r = false ∧ -9223372036854775808 ≤ r ∧ r ≤ 9223372036854775807 := by
    intro r hr
    simp only [List.mem_cons, List.not_mem_nil, or_false] at hr
    rcases hr with rfl | rfl | rfl
    · exact ⟨right_low (by omega), by omega, by omega⟩
    · exact ⟨right_high (by omega), by omega, by omega⟩
    · exact ⟨right_high (by omega), by omega, by omega⟩
  have hcs : ∀ c ∈ [min m 0, max m ((b.G.nodes.length : Int) + 1)], (c < 1 ∨ (b.G.nodes.length : Int) < c) ∧ -9223372036854775808 ≤ c ∧ c ≤ 9223372036854775807 := by
    intro r hr
    simp only [List.mem_cons, List.not_mem_nil, or_false] at hr
    rcases hr with rfl | rfl <;> exact ⟨by omega, by omega, by omega⟩
  have hns : ∀ c ∈ [min m 0, max m 65537], (c < 1 ∨ 65536 < c) := by
    intro r hr
    simp only [List.mem_cons, List.not_mem_nil, or_false] at hr
    rcases hr with rfl | rfl <;> omega
  generalize min m (-1) = r1 at *
  generalize max m (2 * (b.G.nodes.length : Int)) = r2 at *
  generalize max m (2 * (b.G.nodes.length : Int) + 1) = r3 at *
  generalize min m 0 = c1 at *
  generalize max m ((b.G.nodes.length : Int) + 1) = c2 at *
  generalize max m 65537 = c3 at *
  have HRS := Lib.hid hrs; clear hrs
  have HCS := Lib.hid hcs; clear hcs
  have HNS := Lib.hid hns; clear hns
  go_enter Try.func6, Try.ntmps6
  go_wp2_with fail
  refine (awake_is w).mono ?_
  rintro e w1 ⟨rfl, hc1⟩
  have HC1 := Lib.hid hc1; clear hc1
  go_wp2_with fail
  refine (HB.out w1 HC1.out).mono ?_
  rintro e w2 ⟨g, F, ra, rc, wa, wc, rfl, hbm⟩
  have hgk := (GK.of (w0 := w) (w := w2) (G := b.G) ⟨hbm.own.gin, fun k hk => Nat.le_trans HC1.out.size (hbm.own.own k hk), HC1.out.trans hbm.own.ch (by simp)⟩).new [.pointer (some ⟨g, 0, none⟩), .slice ra b.refs.length rc, .slice wa b.want.length wc] 28
  have hlen := Len_g hgk.own.gin
  clear HB hbm
  have ⟨x0, x1, x2⟩ := blk3 (hgk.at (b := w2.heap.size) (xs := [.pointer (some ⟨g, 0, none⟩), .slice ra b.refs.length rc, .slice wa b.want.length wc]) (by simp))
  have HGK := Lib.hid hgk; clear hgk
  go_wp2_with fail
  refine hlen.mono ?_
  rintro e w' ⟨rfl, rfl⟩
  clear hlen
  have hgk := HGK.out.new ([r1, r2, r3].map fun x => .int .i64 x) 33
  clear HGK
  rw [World.size_alloc] at hgk
  have HGK := Lib.hid hgk; clear hgk
  go_wp2_with fail
  generalize hTB : w2.heap.size = tb at *
  clear hTB
  generalize hW0 : w2.alloc (.cells #[.pointer (some ⟨g, 0, none⟩), .slice ra b.refs.length rc, .slice wa b.want.length wc] 28) = W0 at *
  clear x0 x1 x2
  clear hW0
  go_loopw [63] (fun i wr => ∃ k : Nat, k ≤ 3 ∧ i = .int .i64 k ∧ ∃ F, GK [(tb + 1, [r1, r2, r3].map fun x => .int .i64 x), (tb, [.pointer (some ⟨g, 0, none⟩), .slice ra b.refs.length rc, .slice wa b.want.length wc])] w wr g b.G F) (fun i _ => 3 - (intOf i).toNat)
  case atStart => exact ⟨0, by omega, rfl, _, HGK.out⟩
  case round =>
    clear HGK HC1 F
    obtain ⟨k, hk, rfl, F, hgk⟩ := hrel
    have x0 := (hgk.at (b := tb) (xs := [.pointer (some ⟨g, 0, none⟩), .slice ra b.refs.length rc, .slice wa b.want.length wc]) (by simp)).cell (i := 0) rfl
    by_cases hlt : k < 3
    · obtain ⟨r, hr⟩ : ∃ r, [r1, r2, r3][k]? = some r := ⟨_, List.getElem?_eq_getElem (by simpa using hlt)⟩
      obtain ⟨hw, hb0, hb1⟩ := HRS.out r (List.mem_of_getElem? hr)
      have y0 := (hgk.at (b := tb + 1) (xs := [r1, r2, r3].map fun x => .int .i64 x) (by simp)).cell (i := k) (v := .int .i64 r) (by rw [List.getElem?_map, hr]; rfl)
      have HW := Lib.hid hw; clear hw hr
      have HGK := Lib.hid hgk; clear hgk
      go_wp2_with fail
      refine (And_gno HGK.out.own.gin r 2 (by omega) (by decide) (.inl HW.out)).mono ?_
      rintro e w3 ⟨rfl, hto⟩
      obtain ⟨F3, hgk⟩ := HGK.out.to hto
      clear HGK hto x0 y0
      have x0 := (hgk.at (b := tb) (xs := [.pointer (some ⟨g, 0, none⟩), .slice ra b.refs.length rc, .slice wa b.want.length wc]) (by simp)).cell (i := 0) rfl
      have HGK := Lib.hid hgk; clear hgk
      go_wp2_with fail
      refine (And_gno HGK.out.own.gin 0 r (by decide) (by omega) (.inr HW.out)).mono ?_
      rintro e w3 ⟨rfl, hto⟩
      obtain ⟨F3, hgk⟩ := HGK.out.to hto
      clear HGK hto x0
      have x0 := (hgk.at (b := tb) (xs := [.pointer (some ⟨g, 0, none⟩), .slice ra b.refs.length rc, .slice wa b.want.length wc]) (by simp)).cell (i := 0) rfl
      have HGK := Lib.hid hgk; clear hgk
      go_wp2_with fail
      refine (Or_gno HGK.out.own.gin 1 r (by decide) (by omega) (.inr HW.out)).mono ?_
      rintro e w3 ⟨rfl, hto⟩
      obtain ⟨F3, hgk⟩ := HGK.out.to hto
      clear HGK hto x0
      have x0 := (hgk.at (b := tb) (xs := [.pointer (some ⟨g, 0, none⟩), .slice ra b.refs.length rc, .slice wa b.want.length wc]) (by simp)).cell (i := 0) rfl
      have HGK := Lib.hid hgk; clear hgk
      go_wp2_with fail
      refine (Xor_gno HGK.out.own.gin r r (by omega) (by omega) (.inl HW.out)).mono ?_
      rintro e w3 ⟨rfl, hto⟩
      obtain ⟨F3, hgk⟩ := HGK.out.to hto
      clear HGK hto x0
      have x0 := (hgk.at (b := tb) (xs := [.pointer (some ⟨g, 0, none⟩), .slice ra b.refs.length rc, .slice wa b.want.length wc]) (by simp)).cell (i := 0) rfl
      have HGK := Lib.hid hgk; clear hgk
      go_wp2_with fail
      refine (Mux_gno HGK.out.own.gin 1 2 r (by decide) (by decide) (by omega) (.inr (.inr HW.out))).mono ?_
      rintro e w3 ⟨rfl, hto⟩
      obtain ⟨F3, hgk⟩ := HGK.out.to hto
      clear HGK hto x0
      have x0 := (hgk.at (b := tb) (xs := [.pointer (some ⟨g, 0, none⟩), .slice ra b.refs.length rc, .slice wa b.want.length wc]) (by simp)).cell (i := 0) rfl
      have HGK := Lib.hid hgk; clear hgk
      go_wp2_with fail
      refine (Mux_gno HGK.out.own.gin r 2 2 (by omega) (by decide) (by decide) (.inl HW.out)).mono ?_
      rintro e w3 ⟨rfl, hto⟩
      obtain ⟨F3, hgk⟩ := HGK.out.to hto
      clear HGK hto x0
      have x0 := (hgk.at (b := tb) (xs := [.pointer (some ⟨g, 0, none⟩), .slice ra b.refs.length rc, .slice wa b.want.length wc]) (by simp)).cell (i := 0) rfl
      have HGK := Lib.hid hgk; clear hgk
      go_wp2_with fail
      have hgA := HGK.out.new ([0, r].map fun (x : Int) => .int .i64 x) 33
      have hsl := (hgA.at (List.mem_cons_self ..)).slI (by simp)
      have hbx := (fun q => hgA.kp q) _ (List.mem_cons_self ..)
      have hbx := And.intro hbx.1.lt hbx.2
      refine (All_gno hgA.own.gin (l := [0, r]) 2 2 rfl hsl (fun y hy => by simp at hy; omega) (fun p hp => by cases hp; exact hbx) (r := r) (by simp) HW.out).mono ?_
      rintro e w3 ⟨rfl, hto⟩
      obtain ⟨F3, hgk⟩ := hgA.to hto
      replace hgk := hgk.drop
      clear HGK hto x0 hgA hsl hbx
      have x0 := (hgk.at (b := tb) (xs := [.pointer (some ⟨g, 0, none⟩), .slice ra b.refs.length rc, .slice wa b.want.length wc]) (by simp)).cell (i := 0) rfl
      have HGK := Lib.hid hgk; clear hgk
      go_wp2_with fail
      have hgA := HGK.out.new ([1, 2, r].map fun (x : Int) => .int .i64 x) 33
      have hsl := (hgA.at (List.mem_cons_self ..)).slI (by simp)
      have hbx := (fun q => hgA.kp q) _ (List.mem_cons_self ..)
      have hbx := And.intro hbx.1.lt hbx.2
      refine (Any_gno hgA.own.gin (l := [1, 2, r]) 3 3 rfl hsl (fun y hy => by simp at hy; omega) (fun p hp => by cases hp; exact hbx) (r := r) (by simp) HW.out).mono ?_
      rintro e w3 ⟨rfl, hto⟩
      obtain ⟨F3, hgk⟩ := hgA.to hto
      replace hgk := hgk.drop
      clear HGK hto x0 hgA hsl hbx
      have x0 := (hgk.at (b := tb) (xs := [.pointer (some ⟨g, 0, none⟩), .slice ra b.refs.length rc, .slice wa b.want.length wc]) (by simp)).cell (i := 0) rfl
      have HGK := Lib.hid hgk; clear hgk
      go_wp2_with fail
      have hgA := HGK.out.new ([2, r].map fun (x : Int) => .int .i64 x) 33
      have hsl := (hgA.at (List.mem_cons_self ..)).slI (by simp)
      have hbx := (fun q => hgA.kp q) _ (List.mem_cons_self ..)
      have hbx := And.intro hbx.1.lt hbx.2
      refine (Cone_gno hgA.own.gin (l := [2, r]) 2 2 rfl hsl (fun y hy => by simp at hy; omega) (fun p hp => by cases hp; exact hbx.1) (r := r) (by simp) HW.out).mono ?_
      rintro e w3 ⟨rfl, hto⟩
      have hgk := hgA.same hto
      replace hgk := hgk.drop
      clear HGK hto x0 hgA hsl hbx
      have x0 := (hgk.at (b := tb) (xs := [.pointer (some ⟨g, 0, none⟩), .slice ra b.refs.length rc, .slice wa b.want.length wc]) (by simp)).cell (i := 0) rfl
      have HGK := Lib.hid hgk; clear hgk
      go_wp2_with fail
      refine (Depth_gno HGK.out.own.gin r (by omega) HW.out).mono ?_
      rintro e w' ⟨rfl, rfl⟩
      have hgk := HGK.out.new [.int .i64 200, .int .i64 200, .int .i64 200, .int .i64 200, .int .i64 200, .int .i64 200, .int .i64 200, .int .i64 200, .int .i64 200, .int .i64 200] 44
      go_wp2_with fail
      generalize hEB : w3.heap.size = eb at *
      clear hEB
      generalize w3.alloc (.cells #[.int .i64 200, .int .i64 200, .int .i64 200, .int .i64 200, .int .i64 200, .int .i64 200, .int .i64 200, .int .i64 200, .int .i64 200, .int .i64 200] 44) = W1 at *
      have hE : ∀ j, j < 10 → W1.cell? ⟨eb, j, none⟩ = some (.int .i64 200) := fun j hj => (hgk.at (List.mem_cons_self ..)).cell (by
        rcases j with _ | _ | _ | _ | _ | _ | _ | _ | _ | _ | j
        all_goals first | rfl | omega)
      have HE := Lib.hid hE; clear hE
      clear x0 HGK
      replace hgk := hgk.drop
      have x0 := (hgk.at (b := tb) (xs := [.pointer (some ⟨g, 0, none⟩), .slice ra b.refs.length rc, .slice wa b.want.length wc]) (by simp)).cell (i := 0) rfl
      have HGK := Lib.hid hgk; clear hgk
      go_loop [153] (fun i => ∃ j : Nat, j ≤ 10 ∧ i = .int .i64 j) (fun i => 10 - (intOf i).toNat)
      case atStart => exact ⟨0, by omega, rfl⟩
      case round =>
        obtain ⟨j, hj, rfl⟩ := hrel
        by_cases hjl : j < 10
        · have e0 := HE.out j hjl
          go_wp2_with fail
          go_round
          case rel => exact ⟨j + 1, by omega, by go_num⟩
          case measure => simp [intOf]; omega
        · have hR := Right_g HGK.out.own.gin r (by omega)
          rw [HW.out] at hR
          have hK := Kind_gno HGK.out.own.gin r (by omega) HW.out
          have HR := Lib.hid hR; clear hR
          have HKD := Lib.hid hK; clear hK
          go_wp2_with fail
          refine HR.out.mono ?_
          rintro e w' ⟨rfl, rfl⟩
          go_wp2_with fail
          refine HKD.out.mono ?_
          rintro e w' ⟨rfl, rfl⟩
          go_wp2_with fail
          go_roundw
          case rel => exact ⟨k + 1, by omega, by go_num, _, HGK.out⟩
          case measure => simp [intOf]; omega
    · have HGK := Lib.hid hgk; clear hgk
      go_wp2_with fail
      have hgk := HGK.out.new ([c1, c2].map fun (x : Int) => .int .i64 x) 3
      clear HGK x0
      generalize wr.heap.size = cb at *
      have HGK := Lib.hid hgk; clear hgk
      go_loopw [180] (fun i wx => ∃ j : Nat, j ≤ 2 ∧ i = .int .i64 j ∧ ∃ F, GK [(cb, [c1, c2].map fun (x : Int) => .int .i64 x), (tb + 1, [r1, r2, r3].map fun x => .int .i64 x), (tb, [.pointer (some ⟨g, 0, none⟩), .slice ra b.refs.length rc, .slice wa b.want.length wc])] w wx g b.G F) (fun i _ => 2 - (intOf i).toNat)
      case atStart => exact ⟨0, by omega, rfl, _, HGK.out⟩
      case round =>
        clear HGK
        rename_i wy _ _ _
        obtain ⟨j, hj, rfl, F, hgk⟩ := hrel
        have x0 := (hgk.at (b := tb) (xs := [.pointer (some ⟨g, 0, none⟩), .slice ra b.refs.length rc, .slice wa b.want.length wc]) (by simp)).cell (i := 0) rfl
        by_cases hjl : j < 2
        · obtain ⟨c, hcx⟩ : ∃ c, [c1, c2][j]? = some c := ⟨_, List.getElem?_eq_getElem (by simpa using hjl)⟩
          obtain ⟨hcw, hb0, hb1⟩ := HCS.out c (List.mem_of_getElem? hcx)
          have y0 := (hgk.at (b := cb) (xs := [c1, c2].map fun (x : Int) => .int .i64 x) (by simp)).cell (i := j) (v := .int .i64 c) (by rw [List.getElem?_map, hcx]; rfl)
          have hCut := Cut_g hgk.own.gin c hb1 hb0
          rw [show doCut b.G c = (b.G, 2) from by unfold doCut; rw [if_pos hcw]] at hCut
          have HCUT := Lib.hid hCut; clear hCut
          have HGK := Lib.hid hgk; clear hgk
          clear hcx hcw
          go_wp2_with fail
          refine HCUT.out.mono ?_
          rintro e w3 ⟨rfl, hto⟩
          obtain ⟨F3, hgk⟩ := HGK.out.to hto
          have HGK3 := Lib.hid hgk; clear hgk hto HGK
          go_wp2_with fail
          go_roundw
          case rel => exact ⟨j + 1, by omega, by go_num, _, HGK3.out⟩
          case measure => simp [intOf]; omega
        · have HGK := Lib.hid hgk; clear hgk
          go_wp2_with fail
          have hgk := HGK.out.new [.int .i64 c1, .int .i64 c3] 3
          clear HGK x0
          generalize wr.heap.size = db at *
          have HGK := Lib.hid hgk; clear hgk
          generalize wr.alloc (.cells #[.int .i64 c1, .int .i64 c3] 3) = W5 at *
          go_loopw [196] (fun i wx => ∃ j : Nat, j ≤ 2 ∧ i = .int .i64 j ∧ wx = W5) (fun i _ => 2 - (intOf i).toNat)
          case atStart => exact ⟨0, by omega, rfl, rfl⟩
          case round =>
            obtain ⟨j, hj, rfl, rfl⟩ := hrel
            have x0 := (HGK.out.at (b := tb) (xs := [.pointer (some ⟨g, 0, none⟩), .slice ra b.refs.length rc, .slice wa b.want.length wc]) (by simp)).cell (i := 0) rfl
            by_cases hjl : j < 2
            · obtain ⟨c, hcx⟩ : ∃ c, [c1, c3][j]? = some c := ⟨_, List.getElem?_eq_getElem (by simpa using hjl)⟩
              have hcw := HNS.out c (List.mem_of_getElem? hcx)
              have y0 := (HGK.out.at (b := db) (xs := [.int .i64 c1, .int .i64 c3]) (List.mem_cons_self ..)).cell (i := j) (v := .int .i64 c) (by rw [show ([.int .i64 c1, .int .i64 c3] : List Value) = [c1, c3].map fun (x : Int) => .int .i64 x from rfl, List.getElem?_map, hcx]; rfl)
              have hN := fun W => New_no (w := W) c hcw
              have HN := Lib.hid hN; clear hN
              clear hcx hcw
              go_wp2_with fail
              refine (HN.out _).mono ?_
              rintro e w' ⟨rfl, rfl⟩
              go_wp2_with fail
              go_roundw
              case rel => exact ⟨j + 1, by omega, by go_num, trivial⟩
              case measure => simp [intOf]; omega
            · have hL := Len_g HGK.out.own.gin
              have HL := Lib.hid hL; clear hL
              have hCut := Cut_g HGK.out.own.gin (b.G.nodes.length : Int) (by omega) (by omega)
              rw [show doCut b.G (b.G.nodes.length : Int) = ({ b.G with nodes := b.G.nodes.take b.G.nodes.length }, 0) from by unfold doCut; rw [if_neg (by omega)]; rfl] at hCut
              have HCUT := Lib.hid hCut; clear hCut
              go_wp2_with fail
              refine HL.out.mono ?_
              rintro e w' ⟨rfl, rfl⟩
              go_wp2_with fail
              refine HCUT.out.mono ?_
              rintro e w3 ⟨rfl, hto⟩
              obtain ⟨F3, hgk⟩ := HGK.out.to hto
              clear x0 HGK hto
              have x0 := (hgk.at (b := tb) (xs := [.pointer (some ⟨g, 0, none⟩), .slice ra b.refs.length rc, .slice wa b.want.length wc]) (by simp)).cell (i := 0) rfl
              have hL2 := Len_g hgk.own.gin
              rw [show (({ b.G with nodes := b.G.nodes.take b.G.nodes.length } : Gra).nodes.length) = b.G.nodes.length from by simp] at hL2
              have HL2 := Lib.hid hL2; clear hL2
              have HGK3 := Lib.hid hgk; clear hgk
              go_wp2_with fail
              refine HL2.out.mono ?_
              rintro e w' ⟨rfl, rfl⟩
              go_wp2_with fail
              go_ret
              exact ⟨rfl, HGK3.out.own.ch⟩
end
end Go.Proofs.Ytnajonchjlplmaa
