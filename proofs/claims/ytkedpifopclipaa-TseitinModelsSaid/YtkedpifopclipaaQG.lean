/-
  Walk over tseitin's Right. Conditions: a graph in memory, a map of any numbers that can be read.
  Walks over tseitin's Model and Inputs. Conditions: a graph in memory, a map of any numbers and values that can be read.
  Walk over tseitin's Inputs. Conditions: a graph in memory, a map of any numbers and values that can be read.
  Plain facts of TseitinWrong: maps that are not of a graph; Clone of maps and of clauses, make of truths. Conditions: slices that can be read.
  Walks over slices.Index and slices.Contains of truths, whatever they hold. Conditions: a slice that can be read.
  Walk over law 27's all. Conditions: a graph in memory, any references, any truths.
  Plainly: what Model and all return for values of all inputs. No program in sight. Conditions: a graph that is right, roots of it.
  Walk over TseitinModels: true, whatever comes in. Conditions: a slice of nodes of any integers, a slice of bytes.
-/
import Derived.Test.YtkedpifopclipaaQE
import Derived.Test.YtkedpifopclipaaQF
import Derived.Test.YtkedpifopclipaaQB
import Derived.Test.YtkedpifopclipaaQD
import Derived.Test.YtkedpifopclipaaQC
namespace Go.Aig
/-- what a node of a map has to be -/
def rightAt (ns : List Nd) (m : List Int) (n : Int) : Bool := decide (n < (ns.length : Int)) && (!isAndAt ns (2 * n) || litF m (lOf ns (2 * n)) != 0 && litF m (rOf ns (2 * n)) != 0)
theorem rightM_eq (ns : List Nd) (m : List Int) : rightM ns m = (rising m && m.all (rightAt ns m)) := rfl
theorem all_take_succ {α : Type} {p : α → Bool} {l : List α} {k : Nat} {x : α} (h : (l.take k).all p = true) (hx : l[k]? = some x) (hp : p x = true) : (l.take (k + 1)).all p = true := by
  rw [List.take_add_one, hx, List.all_append, h]
  simp [hp]
theorem all_false {α : Type} {p : α → Bool} {l : List α} {k : Nat} {x : α} (hx : l[k]? = some x) (hp : p x = false) : l.all p = false := by
  rw [← Bool.not_eq_true, List.all_eq_true]
  intro h
  have := h x (List.mem_of_getElem? hx)
  rw [hp] at this
  cases this
end Go.Aig
namespace Go.Proofs.Ytkedpifopclipaa
open Go.RowKit Go.Mem Go.Aig
section
set_option maxRecDepth 100000 in
set_option maxHeartbeats 4000000 in
theorem tsRight_is {w : World} {g : Nat} {G : Gra} {F : List Nat} (h : GIn w g G F) {a : Option Addr} {m : List Int} (n c : Nat) (hn : m.length = n) (hnl : n ≤ 100000) (hS : Sl w a m) :
    Calls Try.prog 34 #[.pointer (some ⟨g, 0, none⟩), .slice a n c] w fun e w' => e = .returned (.bool (rightM G.nodes m)) ∧ Ch [] w w' := by
  have hRI := tsrising_is n c hn (by omega) hS
  have hpos := h.ok.wf.pos
  have hlen := h.ok.room
  have hmost := h.ok.most
  have hL := fun (W : World) (hc : Ch [] w W) => Len_g (h.same hc (by simp))
  have hSd := fun (W : World) (hc : Ch [] w W) (r : Int) (hr : r ≤ 9223372036854775807) => Sides_g (h.same hc (by simp)) r hr
  have hLt := fun (W : World) (hc : Ch [] w W) (r : Int) hr => tsLit_is n c hn (by omega) (hS.ch hc (by simp)) r hr
  have hside : ∀ x : Int, 0 ≤ lOf G.nodes (2 * x) ∧ lOf G.nodes (2 * x) ≤ 1000000 ∧ 0 ≤ rOf G.nodes (2 * x) ∧ rOf G.nodes (2 * x) ≤ 1000000 := fun x => by
    unfold lOf rOf
    cases hx : nodeAt G.nodes (2 * x) with
    | none => simp
    | some y =>
      obtain ⟨h0, h1⟩ := nodeAt_some hx
      simp only
      split
      · rename_i h3
        obtain ⟨_, h2⟩ := side_of h.ok.wf h1
        obtain ⟨_, _, _, _, h5, h6⟩ := h2 h3
        have := (List.getElem?_eq_some_iff.1 h1).1
        omega
      · omega
  obtain ⟨RM, hrm0⟩ : ∃ RM, rightM G.nodes m = RM := ⟨_, rfl⟩
  rw [hrm0]
  have hrm := rightM_eq G.nodes m
  rw [hrm0] at hrm
  clear hrm0
  obtain ⟨NL, hNL⟩ : ∃ NL, G.nodes.length = NL := ⟨_, rfl⟩
  rw [hNL] at hL hpos hlen
  have HSD := Lib.hid hSd; clear hSd
  have HLT := Lib.hid hLt; clear hLt
  have HL := Lib.hid hL; clear hL
  have HSI := Lib.hid hside; clear hside
  have HS := Lib.hid hS; clear hS
  have HN := Lib.hid hn; clear hn
  have HRM := Lib.hid hrm; clear hrm
  have HNL := Lib.hid hNL; clear hNL h
  cases hri : rising m
  · rw [hri] at hRI
    have hn1 : 1 ≤ n := by
      rw [← HN.out]
      cases m with
      | nil => simp [rising, risingF] at hri
      | cons x m => simp
    have e : RM = false := by rw [HRM.out, hri]; rfl
    obtain ⟨x, hx⟩ : ∃ x, m[0]? = some x := ⟨_, List.getElem?_eq_getElem (by have := HN.out; omega)⟩
    obtain ⟨xb, xo, rfl, hcl⟩ := HS.out.cells 0 x hx
    rw [Nat.add_zero] at hcl
    subst e
    clear hri hx HRM
    have hL0 := HL.out w (Ch.refl _ _)
    clear HL HSD HLT
    go_enter Try.func34, Try.ntmps34
    go_wp2_with fail
    refine wp_scope_straight ?_
    go_wp2_with fail
    refine hRI.mono ?_
    rintro e w' ⟨rfl, rfl⟩
    go_wp2_with fail
    refine wp_label ?_
    go_wp2_with fail
    go_loopw [5, 19] (fun q i wr => q = .bool false ∧ i = .int .i64 0 ∧ wr = w) (fun _ _ _ => 0)
    case atStart => exact ⟨rfl, rfl, rfl⟩
    case round =>
      obtain ⟨rfl, rfl, rfl⟩ := hrel
      go_wp2_with fail
      try simp only [Exit.noGoto]
      go_ret
      exact ⟨rfl, Ch.refl _ _⟩
  · rw [hri] at hRI
    have hr := (rising_iff m).1 hri
    have e : RM = m.all (rightAt G.nodes m) := by rw [HRM.out, hri]; rfl
    have hrat : ∀ x, rightAt G.nodes m x = (decide (x < (NL : Int)) && (!isAndAt G.nodes (2 * x) || litF m (lOf G.nodes (2 * x)) != 0 && litF m (rOf G.nodes (2 * x)) != 0)) := fun x => by unfold rightAt; rw [HNL.out]
    clear hri HRM
    have HRT := Lib.hid hrat; clear hrat
    have HR := Lib.hid hr; clear hr
    have HRM := Lib.hid e; clear e
    go_enter Try.func34, Try.ntmps34
    go_wp2_with fail
    refine wp_scope_straight ?_
    go_wp2_with fail
    refine hRI.mono ?_
    rintro e w' ⟨rfl, rfl⟩
    go_wp2_with fail
    refine wp_label ?_
    go_wp2_with fail
    go_loopw [5, 19] (fun q i wr => ∃ k : Nat, k ≤ n ∧ q = .bool true ∧ i = .int .i64 k ∧ Ch [] w wr ∧ (m.take k).all (rightAt G.nodes m) = true) (fun _ i _ => n - (intOf i).toNat)
    case atStart => exact ⟨0, by omega, rfl, rfl, Ch.refl _ _, by simp⟩
    case round =>
      obtain ⟨k, hk, rfl, rfl, hc, hall⟩ := hrel
      by_cases hlt : k < n
      · obtain ⟨x, hx⟩ : ∃ x, m[k]? = some x := ⟨_, List.getElem?_eq_getElem (by have := HN.out; omega)⟩
        obtain ⟨xb, xo, rfl, d0⟩ := HS.out.cells k x hx
        have c0 := (hc.cell (cell_lt d0) (by simp)).trans d0
        have hxb := HR.out.1 x (List.mem_of_getElem? hx)
        have hL0 := HL.out wr hc
        have hrx := HRT.out x
        have hsd := HSD.out wr hc (2 * x) (by omega)
        have hsi := HSI.out x
        generalize lOf G.nodes (2 * x) = L at *
        generalize rOf G.nodes (2 * x) = R at *
        have HX := Lib.hid hx; clear hx d0
        have HC := Lib.hid hc; clear hc
        have HALL := Lib.hid hall; clear hall
        by_cases hxl : (NL : Int) ≤ x
        · have d1 : decide ((NL : Int) ≤ x) = true := decide_eq_true hxl
          rw [decide_eq_false (by omega : ¬ x < (NL : Int)), Bool.false_and] at hrx
          have hf := all_false HX.out hrx
          have HF := Lib.hid hf; clear hf hrx hsd
          go_wp2_with fail
          refine hL0.mono ?_
          rintro e w' ⟨rfl, rfl⟩
          go_wp2_with fail
          try simp only [Exit.noGoto]
          go_ret
          exact ⟨by rw [HRM.out, HF.out]; rfl, HC.out⟩
        · have d1 : decide ((NL : Int) ≤ x) = false := decide_eq_false hxl
          rw [decide_eq_true (by omega : x < (NL : Int)), Bool.true_and] at hrx
          cases hia : isAndAt G.nodes (2 * x)
          · rw [hia] at hrx hsd
            have hall2 := all_take_succ HALL.out HX.out (by rw [hrx]; rfl)
            have HALL2 := Lib.hid hall2; clear hall2 hrx hia
            have HSD1 := Lib.hid hsd; clear hsd
            go_wp2_with fail
            refine hL0.mono ?_
            rintro e w' ⟨rfl, rfl⟩
            go_wp2_with fail
            refine HSD1.out.mono ?_
            rintro e w2 ⟨rfl, hc2⟩
            have HC2 := Lib.hid (HC.out.trans hc2 (by simp)); clear hc2
            go_wp2_with fail
            go_roundw
            case rel => exact ⟨k + 1, by omega, rfl, by go_num, HC2.out, HALL2.out⟩
            case measure => simp [intOf]; omega
          · rw [hia] at hrx hsd
            have HRX := Lib.hid hrx; clear hrx hia
            have HSD1 := Lib.hid hsd; clear hsd
            have hlt1 := fun (W : World) (hc : Ch [] w W) => HLT.out W hc L (by omega)
            have hlt2 := fun (W : World) (hc : Ch [] w W) => HLT.out W hc R (by omega)
            generalize hA : litF m L = A at *
            generalize hD : litF m R = D at *
            have HA := Lib.hid hA; clear hA
            have HD := Lib.hid hD; clear hD
            have HL1 := Lib.hid hlt1; clear hlt1
            have HL2 := Lib.hid hlt2; clear hlt2
            go_wp2_with fail
            refine hL0.mono ?_
            rintro e w' ⟨rfl, rfl⟩
            go_wp2_with fail
            refine HSD1.out.mono ?_
            rintro e w2 ⟨rfl, hc2⟩
            have HC2 := Lib.hid (HC.out.trans hc2 (by simp)); clear hc2
            go_wp2_with fail
            refine wp_named fun W3 hW3 => ?_
            have hb3 := alw_blk (xs := [.int .i64 (L : Int), .int .i64 (R : Int)]) hW3
            have hc3 := HC2.out.trans (alw_ch hW3) (by simp)
            clear hW3
            generalize w2.heap.size = b2 at *
            have HB3 := Lib.hid hb3; clear hb3
            have HC3 := Lib.hid hc3; clear hc3 HC2
            go_loopw [5, 45] (fun q i wr => ∃ j : Nat, j ≤ 2 ∧ q = .bool true ∧ i = .int .i64 j ∧ Ch [] w wr ∧ blk wr b2 [.int .i64 (L : Int), .int .i64 (R : Int)] ∧ (1 ≤ j → (A != 0) = true) ∧ (2 ≤ j → (D != 0) = true)) (fun _ i _ => 2 - (intOf i).toNat)
            case atStart => exact ⟨0, by omega, rfl, rfl, HC3.out, HB3.out, by omega, by omega⟩
            case round =>
              clear HB3 HC3
              obtain ⟨j, hj, rfl, rfl, hc, hb, h1, h2⟩ := hrel
              rcases (by omega : j = 0 ∨ j = 1 ∨ j = 2) with rfl | rfl | rfl
              · clear h1 h2
                have q0 := hb.cell (i := 0) rfl
                have hcl := HL1.out wr hc
                have hbd : 0 ≤ (1 : Int) := by decide
                cases hv : (A != 0)
                · rw [hv] at hcl
                  have hf := all_false HX.out (by rw [HRX.out]; simp only [hv]; rfl : rightAt G.nodes m x = false)
                  have HF := Lib.hid hf; clear hf hv
                  have HC3 := Lib.hid hc; clear hc
                  have HCL := Lib.hid hcl; clear hcl hb
                  go_wp2_with fail
                  refine HCL.out.mono ?_
                  rintro e w' ⟨rfl, rfl⟩
                  go_wp2_with fail
                  try simp only [Exit.noGoto]
                  go_ret
                  exact ⟨by rw [HRM.out, HF.out]; rfl, HC3.out⟩
                · rw [hv] at hcl
                  have HCL := Lib.hid hcl; clear hcl
                  have HV := Lib.hid hv; clear hv
                  have HB := Lib.hid hb; clear hb
                  have HC3 := Lib.hid hc; clear hc
                  go_wp2_with fail
                  refine HCL.out.mono ?_
                  rintro e w' ⟨rfl, rfl⟩
                  go_wp2_with fail
                  go_roundw
                  case rel => exact ⟨1, by omega, rfl, by go_num, HC3.out, HB.out, fun _ => by first | trivial | exact HV.out, by omega⟩
                  case measure => simp [intOf]
              · have h1 := h1 (Nat.le_refl _)
                clear h2
                have HA1 := Lib.hid h1; clear h1
                have q0 := hb.cell (i := 1) rfl
                have hcl := HL2.out wr hc
                have hbd : 0 ≤ (1 : Int) := by decide
                cases hv : (D != 0)
                · rw [hv] at hcl
                  have hf := all_false HX.out (by rw [HRX.out]; simp only [hv]; simp : rightAt G.nodes m x = false)
                  have HF := Lib.hid hf; clear hf hv
                  have HC3 := Lib.hid hc; clear hc
                  have HCL := Lib.hid hcl; clear hcl hb
                  go_wp2_with fail
                  refine HCL.out.mono ?_
                  rintro e w' ⟨rfl, rfl⟩
                  go_wp2_with fail
                  try simp only [Exit.noGoto]
                  go_ret
                  exact ⟨by rw [HRM.out, HF.out]; rfl, HC3.out⟩
                · rw [hv] at hcl
                  have HCL := Lib.hid hcl; clear hcl
                  have HV := Lib.hid hv; clear hv
                  have HB := Lib.hid hb; clear hb
                  have HC3 := Lib.hid hc; clear hc
                  go_wp2_with fail
                  refine HCL.out.mono ?_
                  rintro e w' ⟨rfl, rfl⟩
                  go_wp2_with fail
                  go_roundw
                  case rel => exact ⟨2, by omega, rfl, by go_num, HC3.out, HB.out, fun _ => by first | trivial | exact HA1.out, fun _ => by first | trivial | exact HV.out⟩
                  case measure => simp [intOf]
              · have h1 := h1 (by omega)
                have h2 := h2 (by omega)
                have hall2 := all_take_succ HALL.out HX.out (by rw [HRX.out, h1, h2]; rfl)
                have HALL2 := Lib.hid hall2; clear hall2 h1 h2 hb
                have HC3 := Lib.hid hc; clear hc
                go_wp2_with fail
                go_roundw
                case rel => exact ⟨k + 1, by omega, rfl, by go_num, HC3.out, HALL2.out⟩
                case measure => simp [intOf]; omega
      · have hkn : k = n := by omega
        subst hkn
        rw [List.take_of_length_le (by have := HN.out; omega)] at hall
        have HALL := Lib.hid hall; clear hall
        have hL0 := HL.out wr hc
        have d9 : decide ((0 : Int) < NL) = true := decide_eq_true (by omega)
        have HC := Lib.hid hc; clear hc
        go_wp2_with fail
        refine hL0.mono ?_
        rintro e w' ⟨rfl, rfl⟩
        go_wp2_with fail
        try simp only [Exit.noGoto]
        go_ret
        exact ⟨by rw [HRM.out, HALL.out]; rfl, HC.out⟩
end
end Go.Proofs.Ytkedpifopclipaa
namespace Go.Aig
theorem natAbs_le {m : List Int} {r : Int} (hp : m.Pairwise (fun a b => a < b)) : (litOf m r).natAbs ≤ m.length := by
  have := varOf_le hp (r / 2)
  unfold litOf
  split <;> omega
theorem litF_abs (m : List Int) (r : Int) : (litF m r).natAbs ≤ m.length := by
  unfold litF
  split
  · rename_i h
    exact natAbs_le ((rising_iff m).1 h.1).2
  · simp
theorem rightM_all {ns : List Nd} {m : List Int} (h : rightM ns m = true) : (∀ x ∈ m, 0 < x ∧ x < (ns.length : Int)) ∧ rising m = true := by
  rw [rightM_eq, Bool.and_eq_true, List.all_eq_true] at h
  refine ⟨fun x hx => ⟨(((rising_iff m).1 h.1).1 x hx).1, ?_⟩, h.1⟩
  have := h.2 x hx
  unfold rightAt at this
  rw [Bool.and_eq_true, decide_eq_true_eq] at this
  exact this.1
theorem model_bits {G : Gra} {m : List Int} (h : rightM G.nodes m = true) (ins : List Bool) : Go.Proofs.Ytkedpifopclipaa.bitsR G ins (m.map fun n => 2 * n) = if ins.length ≠ (inputs G.nodes).length then ([], 210) else (m.map fun n => bv (fun i => ins.getD i false) G.nodes (2 * n.toNat), 0) := by
  have ha := (rightM_all h).1
  have hb : badIn G (m.map fun n => 2 * n) = false := by
    unfold badIn
    rw [List.any_eq_false]
    intro r hr
    obtain ⟨n, hn, rfl⟩ := List.mem_map.1 hr
    have := ha n hn
    unfold right
    simp
    omega
  unfold Go.Proofs.Ytkedpifopclipaa.bitsR
  rw [hb, if_neg (by simp)]
  split
  · rfl
  · unfold bsOf nats
    rw [List.map_map, List.map_map]
    congr 1
    apply List.map_congr_left
    intro n hn
    have := ha n hn
    simp only [Function.comp]
    rw [show (2 * n).toNat = 2 * n.toNat by omega]
end Go.Aig
namespace Go.Proofs.Ytkedpifopclipaa
open Go.RowKit Go.Mem Go.Aig
section
variable {w : World} {g : Nat} {G : Gra} {F : List Nat}
theorem BNew.nil (w w' : World) (h : Ch [] w w') : BNew w (.slice none 0 0) [] w' := ⟨⟨rfl, .inl ⟨rfl, rfl⟩⟩, by simp, h⟩
set_option maxRecDepth 100000 in
set_option maxHeartbeats 4000000 in
theorem tsModel_is (h : GIn w g G F) {a : Option Addr} {m : List Int} (n c : Nat) (hn : m.length = n) (hnl : n ≤ 100000) (hS : Sl w a m) {xa : Option Addr} {ins : List Bool} (k xc : Nat) (hk : ins.length = k) (hB : Sb w xa ins) (hkl : k ≤ 100000) :
    Calls Try.prog 32 #[.pointer (some ⟨g, 0, none⟩), .slice a n c, .slice xa k xc] w fun e w' => ∃ v, e = .returned (.tuple #[v, .int .i64 (modelR G m ins).2]) ∧ BNew w v (modelR G m ins).1 w' := by
  have hpos := h.ok.wf.pos
  have hL := Len_g h
  have hRi := tsRight_is h n c hn hnl hS
  have hBi := fun (W : World) (hc : Ch [] w W) (ra : Option Addr) (rc : Nat) (hr : row W 45 1 (.slice ra n rc) n (intCells (m.map fun x => 2 * x))) (hbd : ∀ r ∈ m.map (fun x => 2 * x), -9223372036854775808 ≤ r ∧ r ≤ 9223372036854775807) => simBits_is (h.same hc (by simp)) (xa := xa) (ins := ins) k xc hk (hB.ch hc (by simp)) hkl (a := ra) (l := m.map fun x => 2 * x) n rc (by simpa using hn) (Sl.of_ints hr (by omega)) hbd hnl
  have hN6 : G.nodes.length ≤ 65536 := by have := h.ok.room; have := h.ok.most; omega
  have d0 : ((G.nodes.length : Int) == 0) = false := by rw [beq_eq_false_iff_ne]; omega
  unfold modelR
  cases hrm : rightM G.nodes m
  · rw [hrm] at hRi
    simp only [if_true]
    have HL := Lib.hid hL; clear hL
    have HR := Lib.hid hRi; clear hRi
    clear hBi h hS hB hrm hn hk
    generalize G.nodes.length = NL at *
    go_enter Try.func32, Try.ntmps32
    go_wp2_with fail
    refine HL.out.mono ?_
    rintro e w' ⟨rfl, rfl⟩
    go_wp2_with fail
    refine HR.out.mono ?_
    rintro e w1 ⟨rfl, hc⟩
    have HC := Lib.hid hc; clear hc
    go_wp2_with fail
    go_ret2
    exact ⟨_, rfl, BNew.nil _ _ HC.out⟩
  · rw [hrm] at hRi
    have hmb := (rightM_all hrm).1
    have hbits := model_bits hrm ins
    simp only [Bool.true_eq_false, if_false]
    have hbd : ∀ r ∈ m.map (fun x => 2 * x), -9223372036854775808 ≤ r ∧ r ≤ 9223372036854775807 := fun r hr => by
      obtain ⟨x, hx, rfl⟩ := List.mem_map.1 hr
      have := hmb x hx
      omega
    have hBi2 := fun W hc ra rc hr => hBi W hc ra rc hr hbd
    rw [show Go.Proofs.Ytkedpifopclipaa.bitsR G ins (m.map fun x => 2 * x) = bitsR G ins (m.map fun x => 2 * x) from rfl] at hbits
    rw [hbits] at hBi2
    rw [show (if ins.length ≠ (inputs G.nodes).length then (([] : List Bool), 272) else (m.map fun n => bv (fun i => ins.getD i false) G.nodes (2 * n.toNat), 0)) = ((if ins.length ≠ (inputs G.nodes).length then (([] : List Bool), 210) else (m.map fun n => bv (fun i => ins.getD i false) G.nodes (2 * n.toNat), 0)).1, if (if ins.length ≠ (inputs G.nodes).length then (([] : List Bool), 210) else (m.map fun n => bv (fun i => ins.getD i false) G.nodes (2 * n.toNat), 0)).2 = 0 then 0 else 272) by split <;> rfl]
    have hq : (if ins.length ≠ (inputs G.nodes).length then (([] : List Bool), 210) else (m.map fun n => bv (fun i => ins.getD i false) G.nodes (2 * n.toNat), 0)).2 = 0 ∨ (if ins.length ≠ (inputs G.nodes).length then (([] : List Bool), 210) else (m.map fun n => bv (fun i => ins.getD i false) G.nodes (2 * n.toNat), 0)) = ([], 210) := by split; exact .inr rfl; exact .inl rfl
    generalize (if ins.length ≠ (inputs G.nodes).length then (([] : List Bool), 210) else (m.map fun n => bv (fun i => ins.getD i false) G.nodes (2 * n.toNat), 0)) = Q at *
    obtain ⟨ql, qe⟩ := Q
    simp only at hq hBi2 ⊢
    have HL := Lib.hid hL; clear hL
    have HR := Lib.hid hRi; clear hRi
    have HBI := Lib.hid hBi2; clear hBi2 hBi
    have HS := Lib.hid hS; clear hS
    have HN := Lib.hid hn; clear hn
    have HMB := Lib.hid hmb; clear hmb
    have HQ := Lib.hid hq; clear hq
    clear h hB hrm hk hbits hbd
    generalize G.nodes.length = NL at *
    go_enter Try.func32, Try.ntmps32
    go_wp2_with fail
    refine HL.out.mono ?_
    rintro e w' ⟨rfl, rfl⟩
    go_wp2_with fail
    refine HR.out.mono ?_
    rintro e w1 ⟨rfl, hc⟩
    have HC := Lib.hid hc; clear hc
    go_wp2_with fail
    go_loopw [8, 24] (fun o i wr => ∃ j : Nat, j ≤ n ∧ i = .int .i64 j ∧ Ch [] w wr ∧ row wr 45 1 o j (intCells ((m.take j).map fun x => 2 * x)) ∧ ∀ q ∈ o.ownBlock.toList, w.heap.size ≤ q) (fun _ i _ => n - (intOf i).toNat)
    case atStart => exact ⟨0, by omega, rfl, HC.out, ⟨rfl, .inl ⟨rfl, rfl⟩⟩, by simp⟩
    case round =>
      clear HC
      obtain ⟨j, hj, rfl, hc, hrow, hlo⟩ := hrel
      obtain ⟨oa, oc, rfl⟩ := row.shape hrow
      by_cases hlt : j < n
      · obtain ⟨x, hx⟩ : ∃ x, m[j]? = some x := ⟨_, List.getElem?_eq_getElem (by rw [HN.out]; exact hlt)⟩
        obtain ⟨xb, xo, rfl, d9⟩ := HS.out.cells j x hx
        have c0 := (hc.cell (cell_lt d9) (by simp)).trans d9
        have hxb := HMB.out x (List.mem_of_getElem? hx)
        have hsu : intCells ((m.take (j + 1)).map fun x => 2 * x) = intCells ((m.take j).map fun x => 2 * x) ++ [.int .i64 (2 * x)] := by rw [List.take_add_one, hx]; simp [intCells]
        have hcA : Ch [] wr (wr.alloc (.cells #[.int .i64 (2 * x)] 45)) := (Ch.refl _ _).alloc _
        have hrA := hrow.ch hcA (by simp)
        have hbA : blk (wr.alloc (.cells #[.int .i64 (2 * x)] 45)) wr.heap.size [.int .i64 (2 * x)] := blk.new' _ _ rfl
        have HSU := Lib.hid hsu; clear hsu
        have HRA := Lib.hid hrA; clear hrA hrow
        have HBA := Lib.hid hbA; clear hbA
        have HCA := Lib.hid hcA; clear hcA
        have HCP := Lib.hid hc; clear hc
        have HLO := Lib.hid hlo; clear hlo d9 hx
        go_wp2_with (at_builtin; go_loud (refine wpList_append_row slRefs rfl _ _ rfl (v := .slice oa j oc) (n := j) (xs := intCells ((m.take j).map fun x => 2 * x)) rfl HRA.out (ad := ⟨wr.heap.size, 0, none⟩) (m := 1) (c := 1) (news := [.int .i64 (2 * x)]) rfl rfl (news_blk HBA.out) (by simp [Value.oneCell']) (by omega) (by omega) ?_; intro v' w4 hown4 hC4 hf4; obtain ⟨gb, gc, rfl⟩ := hown4.parts (by omega); have HO4 := Lib.hid hown4; clear hown4; have HCC4 := Lib.hid hC4; clear hC4; have HF4 := Lib.hid hf4; clear hf4))
        go_roundw
        case rel =>
          obtain ⟨q1, q2⟩ := app_step HCP.out HCA.out HLO.out HCC4.out HF4.out
          refine ⟨j + 1, by omega, by go_num, q1, ?_, q2⟩
          rw [HSU.out]; exact HO4.out
        case measure => simp [intOf]; omega
      · have hjn : j = n := by omega
        subst hjn
        rw [List.take_of_length_le (by rw [HN.out]; exact Nat.le_refl _)] at hrow
        have hbi := HBI.out wr hc oa oc hrow
        have HB2 := Lib.hid hbi; clear hbi hrow hlo
        have HC := Lib.hid hc; clear hc
        go_wp2_with fail
        refine HB2.out.mono ?_
        rintro e w3 ⟨v, rfl, hv1, hv2, hc3⟩
        obtain ⟨va, vc, rfl⟩ := row.shape hv1
        rcases HQ.out with h0 | h0
        · subst h0
          have HV1 := Lib.hid hv1; clear hv1
          have HV2 := Lib.hid hv2; clear hv2
          have HC3 := Lib.hid (HC.out.trans hc3 (by simp)); clear hc3
          have hz := HC.out.size
          have HZ := Lib.hid hz; clear hz
          go_wp2_with fail
          go_ret2
          exact ⟨_, rfl, HV1.out, fun q hq => Nat.le_trans HZ.out (HV2.out q hq), HC3.out⟩
        · cases h0
          have HC3 := Lib.hid (HC.out.trans hc3 (by simp)); clear hc3 hv1 hv2
          go_wp2_with fail
          go_ret2
          exact ⟨_, rfl, BNew.nil _ _ HC3.out⟩
end
end Go.Proofs.Ytkedpifopclipaa
namespace Go.Aig
theorem inputs_lt {ns : List Nd} {r : Nat} (h : r ∈ inputs ns) : r < 2 * ns.length := by
  obtain ⟨i, hi⟩ := List.getElem?_of_mem h
  have hl := (List.getElem?_eq_some_iff.1 hi).1
  obtain ⟨n, x, hx, h2, hc⟩ := nth_input ns i hl
  have h3 := (input_at hx h2).2
  rw [hc, List.getD_eq_getElem?_getD, hi] at h3
  have := (List.getElem?_eq_some_iff.1 hx).1
  simp at h3
  omega
end Go.Aig
namespace Go.Proofs.Ytkedpifopclipaa
open Go.RowKit Go.Mem Go.Aig
section
variable {w : World} {g : Nat} {G : Gra} {F : List Nat}
set_option maxRecDepth 100000 in
set_option maxHeartbeats 4000000 in
theorem tsInputs_is (h : GIn w g G F) {a : Option Addr} {m : List Int} (n c : Nat) (hn : m.length = n) (hnl : n ≤ 100000) (hS : Sl w a m) {xa : Option Addr} {mv : List Bool} (k xc : Nat) (hk : mv.length = k) (hB : Sb w xa mv) (hkl : k ≤ 100000) :
    Calls Try.prog 33 #[.pointer (some ⟨g, 0, none⟩), .slice a n c, .slice xa k xc] w fun e w' => ∃ v, e = .returned (.tuple #[v, .int .i64 (insR G m mv).2]) ∧ BNew w v (insR G m mv).1 w' := by
  have hpos := h.ok.wf.pos
  have hL := Len_g h
  have hRi := tsRight_is h n c hn hnl hS
  have hIn := fun (W : World) (hc : Ch [] w W) => Inputs_g (h.same hc (by simp))
  have hLit := fun (W : World) (hc : Ch [] w W) (r : Int) hr => tsLit_is n c hn (by omega) (hS.ch hc (by simp)) r hr
  have hN6 : G.nodes.length ≤ 65536 := by have := h.ok.room; have := h.ok.most; omega
  have d0 : ((G.nodes.length : Int) == 0) = false := by rw [beq_eq_false_iff_ne]; omega
  have hib : ∀ r ∈ inputs G.nodes, r ≤ 1000000 := fun r hr => by have := inputs_lt hr; omega
  have hil : (inputs G.nodes).length ≤ 65536 := Nat.le_trans (inputs_le G.nodes) hN6
  unfold insR
  cases hrm : rightM G.nodes m
  · rw [hrm] at hRi
    simp only [if_true]
    have HL := Lib.hid hL; clear hL
    have HR := Lib.hid hRi; clear hRi
    clear hIn hLit h hS hB hrm hn hk hib hil
    generalize G.nodes.length = NL at *
    go_enter Try.func33, Try.ntmps33
    go_wp2_with fail
    refine HL.out.mono ?_
    rintro e w' ⟨rfl, rfl⟩
    go_wp2_with fail
    refine HR.out.mono ?_
    rintro e w1 ⟨rfl, hc⟩
    have HC := Lib.hid hc; clear hc
    go_wp2_with fail
    go_ret2
    exact ⟨_, rfl, BNew.nil _ _ HC.out⟩
  · rw [hrm] at hRi
    simp only [Bool.true_eq_false, if_false]
    by_cases hkn : mv.length ≠ m.length
    · rw [if_pos hkn]
      have d1 : ((k : Int) != (n : Int)) = true := by simp; omega
      have HL := Lib.hid hL; clear hL
      have HR := Lib.hid hRi; clear hRi
      clear hIn hLit h hS hB hrm hn hk hkn hib hil
      generalize G.nodes.length = NL at *
      go_enter Try.func33, Try.ntmps33
      go_wp2_with fail
      refine HL.out.mono ?_
      rintro e w' ⟨rfl, rfl⟩
      go_wp2_with fail
      refine HR.out.mono ?_
      rintro e w1 ⟨rfl, hc⟩
      have HC := Lib.hid hc; clear hc
      go_wp2_with fail
      go_ret2
      exact ⟨_, rfl, BNew.nil _ _ HC.out⟩
    · rw [if_neg hkn]
      have hkn2 : k = n := by omega
      subst hkn2
      have d1 : ((k : Int) != (k : Int)) = false := by simp
      have hab := fun r => litF_abs m r
      unfold insV
      obtain ⟨IN, hINe⟩ : ∃ IN, inputs G.nodes = IN := ⟨_, rfl⟩
      rw [hINe] at hIn hib hil ⊢
      have HL := Lib.hid hL; clear hL
      have HR := Lib.hid hRi; clear hRi
      have HIN := Lib.hid hIn; clear hIn
      have HLI := Lib.hid hLit; clear hLit
      have HB := Lib.hid hB; clear hB
      have HK := Lib.hid hk; clear hk
      have HN := Lib.hid hn; clear hn
      have HAB := Lib.hid hab; clear hab
      have HIB := Lib.hid hib; clear hib
      clear h hS hrm hINe hkn
      generalize G.nodes.length = NL at *
      go_enter Try.func33, Try.ntmps33
      go_wp2_with fail
      refine HL.out.mono ?_
      rintro e w' ⟨rfl, rfl⟩
      go_wp2_with fail
      refine HR.out.mono ?_
      rintro e w1 ⟨rfl, hc⟩
      have hin := HIN.out w1 hc
      have HC := Lib.hid hc; clear hc
      have HI1 := Lib.hid hin; clear hin HIN
      go_wp2_with fail
      refine HI1.out.mono ?_
      rintro e w2 ⟨v, rfl, hrow, _, hc2⟩
      obtain ⟨ia, ic, rfl⟩ := row.shape hrow
      have hc2 := HC.out.trans hc2 (by simp)
      have HROWI := Lib.hid hrow; clear hrow HC
      have HC2 := Lib.hid hc2; clear hc2
      go_wp2_with fail
      go_loopw [8, 31] (fun o i wr => ∃ j : Nat, j ≤ IN.length ∧ i = .int .i64 j ∧ Ch [] w2 wr ∧ row wr 4 1 o j (bools ((IN.take j).map fun (r : Nat) => litF m r != 0 && mv.getD ((litF m r).natAbs - 1) false)) ∧ ∀ q ∈ o.ownBlock.toList, w2.heap.size ≤ q) (fun _ i _ => IN.length - (intOf i).toNat)
      case atStart => exact ⟨0, by omega, rfl, Ch.refl _ _, ⟨rfl, .inl ⟨rfl, rfl⟩⟩, by simp⟩
      case round =>
        obtain ⟨j, hj, rfl, hc, hrow, hlo⟩ := hrel
        obtain ⟨oa, oc, rfl⟩ := row.shape hrow
        by_cases hlt : j < IN.length
        · obtain ⟨r, hr⟩ : ∃ r, IN[j]? = some r := ⟨_, List.getElem?_eq_getElem hlt⟩
          have hrb := HIB.out r (List.mem_of_getElem? hr)
          obtain ⟨ib, ic2, e⟩ := HROWI.out.parts (by omega)
          cases e
          have d9 := row_cell HROWI.out (k := j) (v := .int .i64 r) (by unfold refsCells; rw [List.getElem?_map, hr]; rfl)
          have c0 := (hc.cell (cell_lt d9) (by simp)).trans d9
          have hli := HLI.out wr (HC2.out.trans hc (by simp)) r (by omega)
          have hab := HAB.out r
          rw [HN.out] at hab
          obtain ⟨t, ht⟩ : ∃ t, (litF m r != 0 && mv.getD ((litF m r).natAbs - 1) false) = t := ⟨_, rfl⟩
          have hsu : bools ((IN.take (j + 1)).map fun (r : Nat) => litF m r != 0 && mv.getD ((litF m r).natAbs - 1) false) = bools ((IN.take j).map fun (r : Nat) => litF m r != 0 && mv.getD ((litF m r).natAbs - 1) false) ++ [.bool t] := by rw [List.take_add_one, hr, ← ht]; simp [bools]
          have hcA : Ch [] wr (wr.alloc (.cells #[.bool t] 4)) := (Ch.refl _ _).alloc _
          have hrA := hrow.ch hcA (by simp)
          have hbA : blk (wr.alloc (.cells #[.bool t] 4)) wr.heap.size [.bool t] := blk.new' _ _ rfl
          have HSU := Lib.hid hsu; clear hsu
          have HRA := Lib.hid hrA; clear hrA hrow
          have HBA := Lib.hid hbA; clear hbA
          have HCA := Lib.hid hcA; clear hcA
          have HLO := Lib.hid hlo; clear hlo d9 hr
          generalize hLF : litF m r = LF at *
          have HLI1 := Lib.hid hli; clear hli
          cases hz : (LF != 0)
          · rw [hz] at ht HLI1
            have ht2 : t = false := by rw [← ht]; rfl
            subst ht2
            have HCP := Lib.hid hc; clear hc ht hz hLF
            go_wp2_with fail
            refine HLI1.out.mono ?_
            rintro e w' ⟨rfl, rfl⟩
            go_wp2_with (at_builtin; go_loud (refine wpList_append_row slBools rfl _ _ rfl (v := .slice oa j oc) (n := j) (xs := _) rfl HRA.out (ad := ⟨wr.heap.size, 0, none⟩) (m := 1) (c := 1) (news := [.bool false]) rfl rfl (news_blk HBA.out) (by simp [Value.oneCell']) (by omega) (by omega) ?_; intro v' w4 hown4 hC4 hf4; obtain ⟨gb, gc, rfl⟩ := hown4.parts (by omega); have HO4 := Lib.hid hown4; clear hown4; have HCC4 := Lib.hid hC4; clear hC4; have HF4 := Lib.hid hf4; clear hf4))
            go_roundw
            case rel =>
              obtain ⟨q1, q2⟩ := app_step HCP.out HCA.out HLO.out HCC4.out HF4.out
              refine ⟨j + 1, by omega, by go_num, q1, ?_, q2⟩
              rw [HSU.out]; exact HO4.out
            case measure => simp [intOf]; omega
          · rw [hz, Bool.true_and] at ht
            rw [hz] at HLI1
            have hne : LF ≠ 0 := by simpa using hz
            obtain ⟨V, hV⟩ : ∃ V, LF.natAbs = V + 1 := ⟨LF.natAbs - 1, by omega⟩
            rw [hV, Nat.add_sub_cancel] at ht
            have hVk : V < k := by omega
            obtain ⟨xb, xo, rfl, d8⟩ := HB.out.cells V (.bool t) (by
              rw [List.getElem?_map, List.getElem?_eq_getElem (by rw [HK.out]; exact hVk), Option.map_some, ← ht, List.getD_eq_getElem?_getD, List.getElem?_eq_getElem (by rw [HK.out]; exact hVk)]
              rfl)
            have c8 := ((HC2.out.trans hc (by simp)).cell (cell_lt d8) (by simp)).trans d8
            have hvar := fun (W : World) => litsVar_is W LF (by omega)
            have hvv : varL LF = V + 1 := by
              unfold varL
              rw [if_pos ((rightLit_iff LF).2 (by omega)), hV]
            rw [hvv, show ((V + 1 : Nat) : Int) = (V : Int) + 1 by omega] at hvar
            have hmx : ∀ ats ty, Builtin.max_ ats ty #[.int .i64 ((V : Int) + 1), .int .i64 1] = pure (.int .i64 ((V : Int) + 1)) := fun ats ty => by
              have e9 : (if (V : Int) + 1 < 1 then 1 else (V : Int) + 1) = (V : Int) + 1 := by split <;> omega
              conv => rhs; rw [← e9]
              simp [Builtin.max_, Builtin.max2]
            have HCP := Lib.hid hc
            have HVAR := Lib.hid hvar
            clear hc ht hz hLF hne hvar hvv d8 hV hab
            go_wp2_with fail
            refine HLI1.out.mono ?_
            rintro e w' ⟨rfl, rfl⟩
            go_wp2_with fail
            refine (HVAR.out _).mono ?_
            rintro e w' ⟨rfl, rfl⟩
            go_wp2_with (at_builtin; go_loud (refine wpList_append_row slBools rfl _ _ rfl (v := .slice oa j oc) (n := j) (xs := _) rfl HRA.out (ad := ⟨wr.heap.size, 0, none⟩) (m := 1) (c := 1) (news := [.bool t]) rfl rfl (news_blk HBA.out) (by simp [Value.oneCell']) (by omega) (by omega) ?_; intro v' w4 hown4 hC4 hf4; obtain ⟨gb, gc, rfl⟩ := hown4.parts (by omega); have HO4 := Lib.hid hown4; clear hown4; have HCC4 := Lib.hid hC4; clear hC4; have HF4 := Lib.hid hf4; clear hf4))
            go_roundw
            case rel =>
              obtain ⟨q1, q2⟩ := app_step HCP.out HCA.out HLO.out HCC4.out HF4.out
              refine ⟨j + 1, by omega, by go_num, q1, ?_, q2⟩
              rw [HSU.out]; exact HO4.out
            case measure => simp [intOf]; omega
        · have hjn : j = IN.length := by omega
          subst hjn
          rw [List.take_of_length_le (Nat.le_refl _)] at hrow
          have HROW := Lib.hid hrow; clear hrow
          have HC3 := Lib.hid (HC2.out.trans hc (by simp)); clear hc
          have hz := HC2.out.size
          have HZ := Lib.hid hz; clear hz
          have HLO := Lib.hid hlo; clear hlo
          go_wp2_with fail
          go_ret2
          refine ⟨_, rfl, ?_, fun q hq => Nat.le_trans HZ.out (HLO.out q hq), HC3.out⟩
          rw [List.length_map]
          exact HROW.out
end
end Go.Proofs.Ytkedpifopclipaa
namespace Go.Aig
theorem mapN_right {ns : List Nd} (hw : WF ns) (hn : ns.length ≤ 65536) (l : List Nat) : rightM ns (natInts (mapN ns l)) = true := by
  have hm := mapN_ok hw l
  have hr := mapN_rising hw hn l
  rw [rightM_eq, hr, Bool.true_and, List.all_eq_true]
  intro x hx
  unfold natInts at hx
  obtain ⟨n, hnm, rfl⟩ := List.mem_map.1 hx
  have hlt := hm.lt n hnm
  have hxn := List.getElem?_eq_getElem hlt.2
  obtain ⟨s1, s2⟩ := side_of hw hxn
  unfold rightAt
  rw [decide_eq_true (by omega), Bool.true_and, s1]
  by_cases h3 : (ns[n]).k = 3
  · obtain ⟨e1, e2, _⟩ := s2 h3
    obtain ⟨c1, c2⟩ := hm.cl n hnm _ hxn h3
    rw [e1, e2]
    have hf : ∀ r : Nat, r / 2 ∈ mapN ns l → (litF (natInts (mapN ns l)) r != 0) = true := fun r hrm => by
      rw [bne_iff_ne]
      unfold litF
      rw [if_pos ⟨hr, by omega⟩]
      exact lit_ne hm.asc hrm
    rw [hf _ c1, hf _ c2]
    simp
  · simp [h3]
theorem rightM_big {ns : List Nd} {m : List Int} {x : Int} (h : (ns.length : Int) ≤ x) : rightM ns (m ++ [x]) = false := by
  rw [← Bool.not_eq_true]
  intro h2
  have := (rightM_all h2).1 x (by simp)
  omega
theorem rightM_low {ns : List Nd} {m : List Int} {x : Int} (h : x ≤ 0) : rightM ns ([x] ++ m) = false := by
  rw [← Bool.not_eq_true]
  intro h2
  have := (rightM_all h2).1 x (by simp)
  omega
theorem rightM_twice {ns : List Nd} {m : List Int} {x : Int} : rightM ns (m ++ [x, x]) = false := by
  rw [← Bool.not_eq_true]
  intro h2
  have := ((rising_iff _).1 (rightM_all h2).2).2
  rw [List.pairwise_append] at this
  have h3 := this.2.1
  simp at h3
theorem insV_none (ns : List Nd) (m : List Int) (k : Nat) : insV ns m (List.replicate k false) = List.replicate (inputs ns).length false := by
  unfold insV
  apply List.eq_replicate_iff.2
  refine ⟨by simp, fun b hb => ?_⟩
  obtain ⟨r, _, rfl⟩ := List.mem_map.1 hb
  have : (List.replicate k false).getD ((litF m r).natAbs - 1) false = false := by
    rw [List.getD_eq_getElem?_getD, List.getElem?_replicate]
    split <;> rfl
  rw [this, Bool.and_false]
theorem bad_snoc {G : Gra} {l : List Int} {r : Int} (h : r < 0 ∨ 2 * (G.nodes.length : Int) ≤ r) : badIn G (l ++ [r]) = true := by
  unfold badIn
  rw [List.any_append, Bool.or_eq_true]
  refine .inr ?_
  have : right G.nodes r = false := by unfold right; simp; omega
  simp [this]
end Go.Aig
namespace Go.Proofs.Ytkedpifopclipaa
open Go.RowKit Go.Mem Go.Aig
theorem row.alt {w : World} {e : TypeId} {size n c : Nat} {a : Option Addr} {xs : List Value} (h : Mem.row w e size (.slice a n c) n xs) : ∀ p, a = some p → p.block < w.heap.size := fun p hp => by
  subst hp
  exact (h.lt p.block (by rcases h.2 with ⟨e, _⟩ | ⟨b, _, _, e, _⟩; cases e; cases e; rfl)).2
theorem Sl.news {w : World} {a : Option Addr} {l : List Int} (h : Sl w a l) : ∀ j u, (intCells l)[j]? = some u → ∃ p, a = some p ∧ w.cell? (p.add j) = some u := fun j u hu => by
  unfold intCells at hu
  rw [List.getElem?_map, Option.map_eq_some_iff] at hu
  obtain ⟨x, hx, rfl⟩ := hu
  obtain ⟨b, o, e, hc⟩ := h.cells j x hx
  refine ⟨_, e, ?_⟩
  rw [Addr.add_lit]
  exact hc
theorem cells_one (l : List Int) : ∀ u ∈ intCells l, u.oneCell' = true := fun u hu => by
  obtain ⟨r, _, rfl⟩ := List.mem_map.1 hu
  rfl
theorem lit1_row (w : World) (T : TypeId) (x : Value) : Mem.row (w.alloc (.cells #[x] T)) T 1 (.slice (some ⟨w.heap.size, 0, none⟩) 1 1) 1 [x] :=
  ⟨rfl, .inr ⟨w.heap.size, 1, #[x], rfl, by omega, heap_alloc_new w _, by omega, by unfold maxLen; omega, rfl, rfl⟩⟩
theorem run_append_nil27 {P : Program} (w : World) (t ty e : TypeId) (i : TypeInfo) (ht : P.underlying t = some (.slice e)) (hi : P.info? e = some i) (base : Option Addr) (n cap c : Nat) (h : n ≤ cap) : (Builtin.append_ #[t, t] ty #[.slice base n cap, .slice none 0 c]).run P w = .ok (.slice base n cap) w := by
  cases base <;> simp [Builtin.append_, run_underlying ht, sizeOf, typeInfo, hi, Builtin.lenOf, h, Builtin.firstCells, storeCells]
theorem wpList_append_any {P : Program} {w : World} {ops : Array Oper} {rest : List Oper} {o : Oper} {a : Act} {Q : Exit → Act → World → Prop} {t e : TypeId} {size bytes : Nat} {z : Value} (S : SliceTy P t e size bytes z) (hgd : o.guard = none) (s x : Operand)
    (ho : o.op = .call { callee := .builtin .append, args := #[s, x], argTypes := #[t, t] })
    {v : Value} {n : Nat} {xs : List Value} (hs : a.eval s = v) (hown : Mem.row w e size v n xs) {ad : Option Addr} {m c : Nat} {news : List Value} (hx : a.eval x = .slice ad m c) (hl : news.length = m * size)
    (hnews : ∀ j u, news[j]? = some u → ∃ p, ad = some p ∧ w.cell? (p.add j) = some u) (h1 : ∀ u ∈ news, u.oneCell' = true)
    (hbytes : (n + m) * bytes ≤ 140737488355328) (h63 : n + m ≤ 9223372036854775807)
    (h : ∀ v' w', Mem.row w' e size v' (n + m) (xs ++ news) → Ch v.ownBlock.toList w w' → (∀ k, v'.ownBlock = some k → v.ownBlock = some k ∨ w.heap.size ≤ k) → wpList P ops Q rest (a.put o.dst v') w') : wpList P ops Q (o :: rest) a w := by
  cases ad with
  | some p =>
    exact wpList_append_row S hgd s x ho hs hown hx hl (fun j u hu => by
      obtain ⟨q, e, h⟩ := hnews j u hu
      cases e
      exact h) h1 hbytes h63 h
  | none =>
    have hn0 : news = [] := by
      cases news with
      | nil => rfl
      | cons y l =>
        obtain ⟨q, e, _⟩ := hnews 0 y rfl
        cases e
    subst hn0
    have hsz := S.pos
    have hm : m = 0 := by
      rcases Nat.mul_eq_zero.1 (by simpa using hl.symm : m * size = 0) with h | h
      · exact h
      · omega
    subst hm
    obtain ⟨va, vc, rfl⟩ := row.shape hown
    obtain ⟨i, hi, _⟩ := Option.map_eq_some_iff.1 S.info
    have hcap : n ≤ vc := by
      rcases hown.2 with ⟨e, _⟩ | ⟨g, cap, cur, e, _, _, h1, _⟩
      · cases e; exact Nat.le_refl _
      · cases e; exact h1
    have hr := run_append_nil27 w t o.type e i S.under hi va n vc c hcap
    refine wpList_plain hgd fun K hK => ?_
    unfold Oper.wp execOp
    simp only [ho, resolve, invoke, builtin, Sem.run_bind, Sem.run_pure, Result.andThen_ok, List.map_toArray, List.map_cons, List.map_nil, hs, hx, hr]
    exact hK _ _ (h _ _ (by simpa using hown) (Ch.refl _ _) (fun k hk => .inl hk))
theorem infoInt27 : (Try.prog.info? 3).map (fun i => (i.zero, i.size, i.bytes)) = some (some (.int .i64 0), 1, 8) := by kernel_rfl
theorem slMap : SliceTy Try.prog 37 3 1 8 (.int .i64 0) := ⟨Try.underlying37, infoInt27, rfl, by decide⟩
theorem eqSliceNil_CLmap (w : World) (a : Option Addr) (n c : Nat) : (binOp .eql 37 (.slice a n c) (.slice none 0 0)).run Try.prog w = .ok (.bool a.isNone) w := by
  have h : Try.prog.underlying 37 = some (.slice 3) := Try.underlying37
  simp only [binOp]
  simp [run_equal_slice_nil w _ _ a n c h]
theorem eqSliceNil_CLcls (w : World) (a : Option Addr) (n c : Nat) : (binOp .eql 137 (.slice a n c) (.slice none 0 0)).run Try.prog w = .ok (.bool a.isNone) w := by
  have h : Try.prog.underlying 137 = some (.slice 46) := Try.underlying137
  simp only [binOp]
  simp [run_equal_slice_nil w _ _ a n c h]
section
attribute [local go_sem] eqSliceNil_CLmap eqSliceNil_CLcls
variable {w : World}
set_option maxRecDepth 100000 in
set_option maxHeartbeats 1000000 in
theorem CLmap_is {a : Option Addr} {l : List Int} (n c : Nat) (hn : l.length = n) (h : Sl w a l) (hm : n ≤ 1000000) : Calls Try.prog 31 #[.slice a n c] w fun e w' => ∃ v, e = .returned v ∧ row w' 3 1 v n (intCells l) ∧ (∀ q ∈ v.ownBlock.toList, w.heap.size ≤ q) ∧ Ch [] w w' := by
  subst hn
  cases a with
  | none =>
    have hl : l = [] := by
      cases l with
      | nil => rfl
      | cons y l =>
        obtain ⟨b, o, e, _⟩ := h.cells 0 y rfl
        cases e
    subst hl
    clear h
    go_enter Try.func31, Try.ntmps31
    go_wp2_with fail
    go_ret
    exact ⟨_, rfl, ⟨rfl, .inl ⟨rfl, rfl⟩⟩, by simp, Ch.refl _ _⟩
  | some p =>
    have hO : row (w.alloc (.cells #[] 3)) 3 1 (.slice (some ⟨w.heap.size, 0, none⟩) 0 0) 0 [] := empty_row w _
    have hN : ∀ j u, (intCells l)[j]? = some u → (w.alloc (.cells #[] 3)).cell? (p.add j) = some u := fun j u hu => by
      unfold intCells at hu
      rw [List.getElem?_map, Option.map_eq_some_iff] at hu
      obtain ⟨x, hx, rfl⟩ := hu
      obtain ⟨b, o, e, hc⟩ := h.cells j x hx
      cases e
      rw [Addr.add_lit]
      exact (((Ch.refl [] w).alloc _).cell (cell_lt hc) (by simp)).trans hc
    have h1 : ∀ u ∈ intCells l, u.oneCell' = true := fun u hu => by
      obtain ⟨r, _, rfl⟩ := List.mem_map.1 hu
      rfl
    have HO := Lib.hid hO; clear hO
    have HN := Lib.hid hN; clear hN h
    have H1 := Lib.hid h1; clear h1
    go_enter Try.func31, Try.ntmps31
    go_wp2_with (at_builtin; go_loud (refine wpList_append_row slMap rfl _ _ rfl (v := .slice (some ⟨w.heap.size, 0, none⟩) 0 0) (n := 0) (xs := []) rfl HO.out (ad := p) (m := l.length) (c := c) (news := intCells l) rfl (by simp [intCells]) HN.out H1.out (by omega) (by omega) ?_; intro v' w2 hown hC2 hfresh; have HOWN := Lib.hid hown; clear hown; have HC2 := Lib.hid hC2; clear hC2; have HFR := Lib.hid hfresh; clear hfresh))
    go_ret
    have hown := HOWN.out
    rw [Nat.zero_add, List.nil_append] at hown
    refine ⟨_, rfl, hown, fun k hk => ?_, (((Ch.refl [] w).alloc (.cells #[] 3))).trans HC2.out (by simp [Value.ownBlock])⟩
    rcases HFR.out k (by simpa using hk) with e | e
    · simp [Value.ownBlock] at e; omega
    · simp at e; omega
set_option maxRecDepth 100000 in
set_option maxHeartbeats 1000000 in
theorem CLcls_is {a : Option Addr} {l : List Int} (n c : Nat) (hn : l.length = n) (h : Sl w a l) (hm : n ≤ 1000000) : Calls Try.prog 176 #[.slice a n c] w fun e w' => ∃ v, e = .returned v ∧ row w' 46 1 v n (intCells l) ∧ (∀ q ∈ v.ownBlock.toList, w.heap.size ≤ q) ∧ Ch [] w w' := by
  subst hn
  cases a with
  | none =>
    have hl : l = [] := by
      cases l with
      | nil => rfl
      | cons y l =>
        obtain ⟨b, o, e, _⟩ := h.cells 0 y rfl
        cases e
    subst hl
    clear h
    go_enter Try.func176, Try.ntmps176
    go_wp2_with fail
    go_ret
    exact ⟨_, rfl, ⟨rfl, .inl ⟨rfl, rfl⟩⟩, by simp, Ch.refl _ _⟩
  | some p =>
    have hO : row (w.alloc (.cells #[] 46)) 46 1 (.slice (some ⟨w.heap.size, 0, none⟩) 0 0) 0 [] := empty_row w _
    have hN : ∀ j u, (intCells l)[j]? = some u → (w.alloc (.cells #[] 46)).cell? (p.add j) = some u := fun j u hu => by
      unfold intCells at hu
      rw [List.getElem?_map, Option.map_eq_some_iff] at hu
      obtain ⟨x, hx, rfl⟩ := hu
      obtain ⟨b, o, e, hc⟩ := h.cells j x hx
      cases e
      rw [Addr.add_lit]
      exact (((Ch.refl [] w).alloc _).cell (cell_lt hc) (by simp)).trans hc
    have h1 : ∀ u ∈ intCells l, u.oneCell' = true := fun u hu => by
      obtain ⟨r, _, rfl⟩ := List.mem_map.1 hu
      rfl
    have HO := Lib.hid hO; clear hO
    have HN := Lib.hid hN; clear hN h
    have H1 := Lib.hid h1; clear h1
    go_enter Try.func176, Try.ntmps176
    go_wp2_with (at_builtin; go_loud (refine wpList_append_row slLits rfl _ _ rfl (v := .slice (some ⟨w.heap.size, 0, none⟩) 0 0) (n := 0) (xs := []) rfl HO.out (ad := p) (m := l.length) (c := c) (news := intCells l) rfl (by simp [intCells]) HN.out H1.out (by omega) (by omega) ?_; intro v' w2 hown hC2 hfresh; have HOWN := Lib.hid hown; clear hown; have HC2 := Lib.hid hC2; clear hC2; have HFR := Lib.hid hfresh; clear hfresh))
    go_ret
    have hown := HOWN.out
    rw [Nat.zero_add, List.nil_append] at hown
    refine ⟨_, rfl, hown, fun k hk => ?_, (((Ch.refl [] w).alloc (.cells #[] 46))).trans HC2.out (by simp [Value.ownBlock])⟩
    rcases HFR.out k (by simpa using hk) with e | e
    · simp [Value.ownBlock] at e; omega
    · simp at e; omega
end
end Go.Proofs.Ytkedpifopclipaa
namespace Go.Proofs.Ytkedpifopclipaa
open Go.RowKit Go.Mem Go.Aig
set_option maxRecDepth 100000 in
set_option maxHeartbeats 1000000 in
theorem IXbool_is {w : World} {a : Option Addr} {l : List Bool} (n c : Nat) (hn : l.length = n) (hm : n ≤ 1000000) (hS : Sb w a l) (v : Bool) :
    Calls Try.prog 103 #[.slice a n c, .bool v] w fun e w' => ∃ i : Int, -1 ≤ i ∧ i ≤ 1000000 ∧ decide (0 ≤ i) = l.any (fun x => x == v) ∧ e = .returned (.int .i64 i) ∧ w = w' := by
  subst hn
  have HS := Lib.hid hS; clear hS
  go_enter Try.func103, Try.ntmps103
  go_wp2_with fail
  go_loopw [8] (fun i wr => ∃ k : Nat, k ≤ l.length ∧ i = .int .i64 k ∧ w = wr ∧ (l.take k).any (fun x => x == v) = false) (fun i _ => l.length - (intOf i).toNat)
  case atStart => exact ⟨0, by omega, rfl, rfl, rfl⟩
  case round =>
    obtain ⟨k, hk, rfl, rfl, hno⟩ := hrel
    have HNO := Lib.hid hno; clear hno
    by_cases hlt : k < l.length
    · obtain ⟨x, hx⟩ : ∃ x, l[k]? = some x := ⟨_, List.getElem?_eq_getElem hlt⟩
      obtain ⟨b, o, rfl, c0⟩ := HS.out.cells k (.bool x) (by simp [hx])
      cases hxv : (v == x)
      · have hno2 : (l.take (k + 1)).any (fun x => x == v) = false := by
          rw [List.take_add_one, hx, List.any_append, HNO.out]
          simp only [Option.toList_some, List.any_cons, List.any_nil, Bool.or_false, Bool.false_or]
          rw [← hxv]; exact Bool.beq_comm
        have HN2 := Lib.hid hno2; clear hno2 hx
        go_wp2_with fail
        go_roundw
        case rel => exact ⟨k + 1, by omega, by go_num, trivial, HN2.out⟩
        case measure => simp [intOf]; omega
      · have hany : l.any (fun x => x == v) = true := List.any_eq_true.2 ⟨x, List.mem_of_getElem? hx, by rw [← hxv]; exact Bool.beq_comm⟩
        have HANY := Lib.hid hany; clear hany hx
        go_wp2_with fail
        go_ret
        exact ⟨k, by omega, by omega, by rw [HANY.out]; simp, rfl, rfl⟩
    · have hno := HNO.out
      rw [List.take_of_length_le (by omega)] at hno
      have HN2 := Lib.hid hno; clear hno
      go_wp2_with fail
      go_ret
      exact ⟨-1, by omega, by omega, by rw [HN2.out]; rfl, rfl, rfl⟩
set_option maxRecDepth 100000 in
theorem CObool_is {w : World} {a : Option Addr} {l : List Bool} (n c : Nat) (hn : l.length = n) (hm : n ≤ 1000000) (hS : Sb w a l) (v : Bool) :
    Calls Try.prog 35 #[.slice a n c, .bool v] w fun e w' => e = .returned (.bool (l.any fun x => x == v)) ∧ w = w' := by
  have HI := IXbool_is n c hn hm hS v
  clear hS
  generalize (l.any fun x => x == v) = t at *
  go_enter Try.func35, Try.ntmps35
  go_wp2_with fail
  refine HI.mono ?_
  rintro e w' ⟨i, h1, h2, h3, rfl, rfl⟩
  go_wp2_with fail
  go_ret
  exact ⟨by rw [← h3]; rfl, rfl⟩
end Go.Proofs.Ytkedpifopclipaa
namespace Go.Proofs.Ytkedpifopclipaa
open Go.RowKit Go.Mem Go.Aig
section
variable {w : World} {g : Nat} {G : Gra} {F : List Nat}
/-- what all tells: whether all are true, and whether the values are fit -/
def allR (B : List Bool × Nat) (n : Nat) : Bool × Bool := (!B.1.any fun x => x == false, decide (B.2 = 0) && decide (B.1.length = n))
set_option maxRecDepth 100000 in
set_option maxHeartbeats 2000000 in
theorem all27_is (h : GIn w g G F) {xa : Option Addr} {ins : List Bool} (k xc : Nat) (hk : ins.length = k) (hS : Sb w xa ins) (hkl : k ≤ 100000) {a : Option Addr} {l : List Int} (n c : Nat) (hn : l.length = n) (hL : Sl w a l) (hbd : ∀ r ∈ l, -9223372036854775808 ≤ r ∧ r ≤ 9223372036854775807) (hnl : n ≤ 100000) (hbl : (bitsR G ins l).1.length ≤ 100000) :
    Calls Try.prog 39 #[.pointer (some ⟨g, 0, none⟩), .slice xa k xc, .slice a n c] w fun e w' => e = .returned (.tuple #[.bool (allR (bitsR G ins l) n).1, .bool (allR (bitsR G ins l) n).2]) ∧ Ch [] w w' := by
  have hB := simBits_is h k xc hk hS hkl n c hn hL hbd hnl
  obtain ⟨B, hBe⟩ : ∃ B, bitsR G ins l = B := ⟨_, rfl⟩
  rw [hBe] at hB hbl ⊢
  obtain ⟨t, ht⟩ : ∃ t, (B.1.any fun x => x == false) = t := ⟨_, rfl⟩
  obtain ⟨b1, e1⟩ := B
  obtain ⟨p1, hp1⟩ : ∃ p, (allR (b1, e1) n).1 = p := ⟨_, rfl⟩
  obtain ⟨p2, hp2⟩ : ∃ p, (allR (b1, e1) n).2 = p := ⟨_, rfl⟩
  rw [hp1, hp2]
  simp only at hbl ht hB
  have hq1 : p1 = !t := by rw [← hp1, ← ht]; rfl
  have hq2 : p2 = (decide (e1 = 0) && decide (b1.length = n)) := hp2.symm
  have HB := Lib.hid hB; clear hB hBe hp1 hp2
  clear h hS hL hbd
  go_enter Try.func39, Try.ntmps39
  go_wp2_with fail
  refine HB.out.mono ?_
  rintro e w1 ⟨v, rfl, hrow, _, hc⟩
  obtain ⟨m, hm⟩ : ∃ m, b1.length = m := ⟨_, rfl⟩
  rw [hm] at hrow hbl hq2
  obtain ⟨va, vc, rfl⟩ := row.shape hrow
  have hco := CObool_is (w := w1) (a := va) m vc hm (by omega) (row.sv hrow rfl (by omega)) false
  rw [ht] at hco
  have HCO := Lib.hid hco; clear hco
  have HC := Lib.hid hc; clear hc hrow ht hm HB
  by_cases he : e1 = 0
  · subst he
    have d1 : ((m : Int) == (n : Int)) = decide (m = n) := by
      by_cases e : m = n
      · subst e; simp
      · rw [decide_eq_false e, beq_eq_false_iff_ne]; omega
    rw [decide_eq_true rfl, Bool.true_and] at hq2
    rw [show ((0 : Nat) : Int) = 0 from rfl]
    go_wp2_with fail
    refine HCO.out.mono ?_
    rintro e w' ⟨rfl, rfl⟩
    go_wp2_with fail
    refine bodyPost_ret (results_tmp2 rfl _ _ _) rfl ?_
    exact ⟨by rw [hq1, hq2]; simp, HC.out⟩
  · have d1 : ((e1 : Int) == 0) = false := by rw [beq_eq_false_iff_ne]; omega
    rw [decide_eq_false he, Bool.false_and] at hq2
    go_wp2_with fail
    refine HCO.out.mono ?_
    rintro e w' ⟨rfl, rfl⟩
    go_wp2_with fail
    refine bodyPost_ret (results_tmp2 rfl _ _ _) rfl ?_
    exact ⟨by rw [hq1, hq2]; simp, HC.out⟩
end
end Go.Proofs.Ytkedpifopclipaa
namespace Go.Aig
theorem modelR_yes {G : Gra} {ms : List Nat} (hr : rightM G.nodes (natInts ms) = true) {ins : List Bool} (hl : ins.length = (inputs G.nodes).length) : modelR G (natInts ms) ins = (modV (fun i => ins.getD i false) G.nodes ms, 0) := by
  unfold modelR
  rw [if_neg (by rw [hr]; simp), if_neg (by rw [hl]; simp)]
  unfold modV natInts
  rw [List.map_map]
  rfl
theorem bitsR_yes {G : Gra} {R : List Nat} (hR : ∀ r ∈ R, r < 2 * G.nodes.length) {ins : List Bool} (hl : ins.length = (inputs G.nodes).length) : Go.Proofs.Ytkedpifopclipaa.bitsR G ins (natInts R) = (R.map (bv (fun i => ins.getD i false) G.nodes), 0) := by
  have hb : badIn G (natInts R) = false := by
    unfold badIn
    rw [List.any_eq_false]
    intro r hr
    obtain ⟨n, hn, rfl⟩ := List.mem_map.1 hr
    have := hR n hn
    unfold right
    simp
    omega
  unfold Go.Proofs.Ytkedpifopclipaa.bitsR
  rw [hb, if_neg (by simp), if_neg (by rw [hl]; simp)]
  unfold bsOf nats natInts
  rw [List.map_map, List.map_map]
  rfl
theorem allR_yes {G : Gra} {R : List Nat} (hR : ∀ r ∈ R, r < 2 * G.nodes.length) {ins : List Bool} (hl : ins.length = (inputs G.nodes).length) : Go.Proofs.Ytkedpifopclipaa.allR (Go.Proofs.Ytkedpifopclipaa.bitsR G ins (natInts R)) R.length = (R.all (bv (fun i => ins.getD i false) G.nodes), true) := by
  rw [bitsR_yes hR hl]
  unfold Go.Proofs.Ytkedpifopclipaa.allR
  simp only [List.length_map, decide_true, Bool.and_self, List.any_map]
  congr 1
  rw [Bool.eq_iff_iff, Bool.not_eq_true', List.any_eq_false, List.all_eq_true]
  refine forall_congr' fun r => forall_congr' fun _ => ?_
  simp
end Go.Aig
namespace Go.Proofs.Ytkedpifopclipaa
open Go.RowKit Go.Mem Go.Aig
section
set_option maxRecDepth 100000 in
set_option maxHeartbeats 8000000 in
theorem TseitinModels_walk {w : World} {a : Option Addr} {n cap : Nat} {l : List N21} (hS : NodeS w a n cap l) {xa : Option Addr} {xn xc : Nat} {ys : List Nat} (hU : NumS .u8 8 w xa xn xc ys) :
    Calls Try.prog 7 #[.slice a n cap, .slice xa xn xc] w fun e w' => e = .returned (.bool true) ∧ Ch [] w w' := by
  have HS := Lib.hid hS; clear hS
  have HU := Lib.hid hU; clear hU
  go_enter Try.func7, Try.ntmps7
  go_wp2_with fail
  refine (awake27_is w).mono ?_
  rintro e w1 ⟨rfl, hc1⟩
  have HC1 := Lib.hid hc1; clear hc1
  go_wp2_with fail
  refine (made27_is (HS.out.ch HC1.out) (HU.out.ch HC1.out)).mono ?_
  rintro e w2 ⟨g, G, F, v, R, rfl, ho, hm, hN31, hi6, hR4, hRl, hrow, hv⟩
  obtain ⟨ra, rc, rfl⟩ := row.shape hrow
  have hlt := row.alt hrow
  have hok := ho.gin.ok
  have hmk := mapN_ok hok.wf R
  have hrgt := mapN_right hok.wf (by omega) R
  have hml : (mapN G.nodes R).length ≤ 31 := by
    have h1 := mapN_len hok R
    have h2 := rising_len (mapN_rising hok.wf (by omega) R)
    have h3 : (mapN G.nodes R).length ≤ (List.range G.nodes.length).length := sub_len (by
      refine (Go.Aig.mapN_asc hok.wf R).imp ?_
      intro a b h
      omega) (fun x hx => List.mem_range.2 (mapN_lt hok.wf hx).2)
    rw [List.length_range] at h3
    omega
  have hrin : ∀ r ∈ R, 2 ≤ r → r / 2 ∈ mapN G.nodes R := fun r hr h2 => roots_in hok.wf r hr (hRl r hr) h2
  have hfok := forOk_cls hok.wf hmk hrin (by omega) (by omega)
  have hcl := clsOf_len G.nodes (natInts (mapN G.nodes R)) (natInts R)
  rw [natInts_len, natInts_len] at hcl
  have hsl : Sl w2 ra (natInts R) := Sl.of_ints hrow (by omega)
  have HC := Lib.hid (Ch.refl [] w2)
  have HC12 := Lib.hid ho.ch
  have hRb : ∀ r ∈ natInts R, 0 ≤ r ∧ r ≤ 62 := fun r hr => by
    obtain ⟨z, hz, rfl⟩ := List.mem_map.1 hr
    have := hRl z hz
    omega
  obtain ⟨k, hkl⟩ : ∃ k, R.length = k := ⟨_, rfl⟩
  obtain ⟨q, hqi⟩ : ∃ q, (inputs G.nodes).length = q := ⟨_, rfl⟩
  have hEn := fun (W : World) (hc : Ch [] w2 W) => tsEncode_yes (ho.gin.same hc (by simp)) R.length rc rfl (by omega) (hsl.ch hc (by simp)) (fun p hp => Nat.lt_of_lt_of_le (hlt p hp) hc.size) hRl 1048576 (by omega) (by omega) (by omega)
  have hIp := fun (W : World) (hc : Ch [] w2 W) => Inputs_g (ho.gin.same hc (by simp))
  have hAl := fun (W : World) (hc : Ch [] w2 W) (xa : Option Addr) (xc : Nat) (ins : List Bool) (hk : ins.length = q) (hB : Sb W xa ins) => by
    have h9 := all27_is (ho.gin.same hc (by simp)) q xc hk hB (by omega) (a := ra) (l := natInts R) R.length rc (by rw [natInts_len]) (hsl.ch hc (by simp)) (fun r hr => by have := hRb r hr; omega) (by omega) (by rw [bitsR_yes hRl (by rw [hk, hqi])]; simp; omega)
    rw [allR_yes hRl (by rw [hk, hqi])] at h9
    exact h9
  have hKi := fun (W : World) (hc : Ch [] w2 W) (x : Nat) (hx : x ∈ mapN G.nodes R) => Kind_g (ho.gin.same hc (by simp)) (2 * (x : Int)) (by have := (hmk.lt x hx).2; omega)
  have hMiff := fun (env : Nat → Bool) => modV_iff hok.wf hmk env hrin
  have hMno := fun (env : Nat → Bool) => modV_nodes hok.wf hmk env
  have hFl := fun (env : Nat → Bool) (j n : Nat) (x : Nd) (hk : (mapN G.nodes R)[j]? = some n) (hx : G.nodes[n]? = some x) (h3 : x.k = 3) => flip_not hok.wf hmk hk hx h3 (mv := modV env G.nodes (mapN G.nodes R)) (by simp [modV]) (hMno env) _ rfl (natInts R)
  have hKof : ∀ (n : Nat), n ∈ mapN G.nodes R → ∃ x, G.nodes[n]? = some x ∧ kindOf G.nodes (2 * (n : Int)) = x.k := fun n hn => by
    have hlt := (hmk.lt n hn).2
    refine ⟨G.nodes[n], List.getElem?_eq_getElem hlt, ?_⟩
    unfold kindOf nodeAt
    rw [if_pos (by omega), show (2 * (n : Int)).toNat / 2 = n by omega, List.getElem?_eq_getElem hlt]
  obtain ⟨ms, hms⟩ : ∃ ms, mapN G.nodes R = ms := ⟨_, rfl⟩
  rw [hms] at hml hcl hrgt hfok
  simp only [hms] at hEn hKi hMiff hMno hFl hKof
  obtain ⟨m, hml2⟩ : ∃ m, ms.length = m := ⟨_, rfl⟩
  have hRg := fun (W : World) (b : Option Addr) (c : Nat) (hc : Ch [] w2 W) (hr : row W 3 1 (.slice b m c) m (intCells (natInts ms))) => by
    have h9 := tsRight_is (ho.gin.same hc (by simp)) (m := natInts ms) m c (by rw [natInts_len]; exact hml2) (by omega) (Sl.of_ints hr (by omega))
    rw [hrgt] at h9
    exact h9
  have hMo := fun (W : World) (b : Option Addr) (c : Nat) (hc : Ch [] w2 W) (hr : row W 3 1 (.slice b m c) m (intCells (natInts ms))) (xa : Option Addr) (xc : Nat) (ins : List Bool) (hk : ins.length = q) (hB : Sb W xa ins) => by
    have h9 := tsModel_is (ho.gin.same hc (by simp)) (m := natInts ms) m c (by rw [natInts_len]; exact hml2) (by omega) (Sl.of_ints hr (by omega)) q xc hk hB (by omega)
    rw [modelR_yes hrgt (by rw [hk, hqi])] at h9
    exact h9
  obtain ⟨cls, hcls⟩ : ∃ cls, clsOf G.nodes (natInts ms) (natInts R) = cls := ⟨_, rfl⟩
  simp only [hcls] at hEn hMiff hFl
  rw [hcls] at hcl hfok
  obtain ⟨z, hzl⟩ : ∃ z, cls.length = z := ⟨_, rfl⟩
  rw [hml2] at hml hcl hfok
  simp only [hml2, hkl, hqi] at hEn hIp hAl
  rw [hzl, hkl] at hcl
  have hVa := fun (W : World) (ca : Option Addr) (cc : Nat) (es : List Value) (hv : Sv W ca es) (hI : ClsIn W [] es cls) (va : Option Addr) (vc : Nat) (mv : List Bool) (hk : mv.length = m) (hB : Sb W va mv) => foValue_is (w := W) z cc hzl hv hI hfok vc hk hB
  have hCk := fun (W : World) (ca : Option Addr) (cc : Nat) (es : List Value) (hv : Sv W ca es) (hI : ClsIn W [] es cls) => foCheck_ok (w := W) z cc hzl hv hI hfok
  have hmV : ∀ env : Nat → Bool, (modV env G.nodes ms).length = m := fun env => by simp [modV, hml2]
  rw [hqi] at hi6
  have hAs := fun (W : World) => assign27_is W q hi6
  rw [hkl] at hR4
  have HEN := Lib.hid hEn; clear hEn
  have HIP := Lib.hid hIp; clear hIp
  have HAL := Lib.hid hAl; clear hAl
  have HKI := Lib.hid hKi; clear hKi
  have HMIFF := Lib.hid hMiff; clear hMiff
  have HFL := Lib.hid hFl; clear hFl
  have HKOF := Lib.hid hKof; clear hKof
  have HRG := Lib.hid hRg; clear hRg
  have HMO := Lib.hid hMo; clear hMo
  have HVA := Lib.hid hVa; clear hVa
  have HCK := Lib.hid hCk; clear hCk
  have HMV := Lib.hid hmV; clear hmV
  have HAS := Lib.hid hAs; clear hAs
  have HML := Lib.hid hml2; clear hml2
  have HZL := Lib.hid hzl
  rw [hkl]
  clear ho hm hRl hrow hv hok hmk hsl hms hcls hkl hqi hzl HS HU hlt hRb hrgt hrin hfok hMno
  go_wp2_with fail
  refine (HEN.out w2 HC.out).mono ?_
  rintro e w4 ⟨cv, mv, rfl, hfor, hrm, hmo, hcs⟩
  obtain ⟨es, hes1, hes2⟩ := hfor.ex
  have hzs := hes1
  rw [HZL.out] at hzs
  obtain ⟨ca, cc, rfl⟩ := row.shape hzs
  obtain ⟨ma, mc, rfl⟩ := row.shape hrm
  have hsv := row.sv hzs rfl (by omega)
  have hC4 := HC.out.trans hcs (by simp)
  clear HC hcs hfor hes1 hzs HEN hmo
  have HSV := Lib.hid hsv; clear hsv
  have HCI := Lib.hid hes2; clear hes2
  have HM := Lib.hid hrm; clear hrm
  have HC := Lib.hid hC4; clear hC4
  go_upto_region 7 with fail
  refine wp_alw ?_
  intro w5 hW5
  have hfb := alw_blk (xs := [.int .i64 m, .slice ca z cc]) hW5
  have hcd := alw_ch hW5
  clear hW5
  generalize w4.heap.size = bf at *
  have hck := HCK.out w5 ca cc es (HSV.out.ch hcd (by simp)) (HCI.out.ch hcd (by simp) (by simp))
  have HB := Lib.hid hfb; clear hfb
  have HCI5 := Lib.hid (HCI.out.ch hcd (by simp) (O' := []) (by simp)); clear HCI
  have HSV5 := Lib.hid (HSV.out.ch hcd (by simp)); clear HSV
  have HM5 := Lib.hid (HM.out.ch hcd (by simp)); clear HM
  have HC5 := Lib.hid (HC.out.trans hcd (by simp)); clear HC hcd
  have x0 := HB.out.cell (i := 0) rfl
  have x1 := HB.out.cell (i := 1) rfl
  go_wp2_with fail
  refine hck.mono ?_
  rintro e w6 ⟨rfl, hcs⟩
  clear hck x0 x1 HCK
  have HC6 := Lib.hid hcs; clear hcs
  have hrg := HRG.out w6 ma mc (HC5.out.trans HC6.out (by simp)) (HM5.out.ch HC6.out (by simp))
  have x0 := (HB.out.ch HC6.out (by simp)).cell (i := 0) rfl
  go_wp2_with fail
  refine hrg.mono ?_
  rintro e w7 ⟨rfl, hcs⟩
  clear hrg HRG x0
  have HC7 := Lib.hid (HC6.out.trans hcs (by simp)); clear hcs HC6
  have x0 := (HB.out.ch HC7.out (by simp)).cell (i := 0) rfl
  go_wp2_with fail
  refine (HIP.out w7 (HC5.out.trans HC7.out (by simp))).mono ?_
  rintro e w8 ⟨v, rfl, hrv, _, hcs⟩
  obtain ⟨ia, ic, rfl⟩ := row.shape hrv
  have HC8 := Lib.hid (HC7.out.trans hcs (by simp)); clear hcs HC7 hrv x0 HIP
  go_wp2_with fail
  refine (HAS.out w8).mono ?_
  rintro e w9 ⟨v, es2, rfl, hrv, hbs, _, hcs⟩
  obtain ⟨D, hD⟩ : ∃ D, 2 ^ q = D := ⟨_, rfl⟩
  have hD64 : D ≤ 64 := by rw [← hD]; exact Nat.pow_le_pow_right (by omega) hi6
  rw [hD] at hrv hbs
  obtain ⟨aa, ac, rfl⟩ := row.shape hrv
  have hsv2 := row.sv hrv rfl (by omega)
  have hc9 := HC8.out.trans hcs (by simp)
  -- everything as it is in w9
  have HB9 := Lib.hid (HB.out.ch hc9 (by simp)); clear HB
  have HCI9 := Lib.hid (HCI5.out.ch hc9 (by simp) (O' := []) (by simp)); clear HCI5
  have HSV9 := Lib.hid (HSV5.out.ch hc9 (by simp)); clear HSV5
  have HM9 := Lib.hid (HM5.out.ch hc9 (by simp)); clear HM5
  have HC9 := Lib.hid (HC5.out.trans hc9 (by simp)); clear HC5 hc9 hcs HC8
  have HES2 := Lib.hid hsv2; clear hsv2 hrv
  have HBS := Lib.hid hbs; clear hbs
  clear HAS hD hcl
  go_wp2_with fail
  go_loopw [72] (fun i wr => ∃ x : Nat, x ≤ D ∧ i = .int .i64 x ∧ Ch [] w9 wr) (fun i _ => D - (intOf i).toNat)
  case atStart => exact ⟨0, by omega, rfl, Ch.refl _ _⟩
  case round =>
    obtain ⟨x, hx, rfl, hc⟩ := hrel
    have hcw := HC9.out.trans hc (by simp)
    by_cases hlt : x < D
    · obtain ⟨ins, hins⟩ : ∃ ins, patL q x = ins := ⟨_, rfl⟩
      have hil : ins.length = q := by rw [← hins, patL_len]
      obtain ⟨ja, jc, he, hsb, hjb⟩ := HBS.out.each x ins (by rw [List.getElem?_map, List.getElem?_range hlt]; simp [hins])
      rw [hil] at he
      obtain ⟨xb, xo, rfl, hcl⟩ := (HES2.out.ch hc (by simp)).cells x _ he
      have hsbw := hsb.ch hc (by simp)
      have hmo := HMO.out wr ma mc hcw (HM9.out.ch hc (by simp)) ja jc ins hil hsbw
      obtain ⟨env, henv⟩ : ∃ env : Nat → Bool, (fun i => ins.getD i false) = env := ⟨_, rfl⟩
      have hal := fun (W : World) (h : Ch [] wr W) => HAL.out W (hcw.trans h (by simp)) ja jc ins hil (hsbw.ch h (by simp))
      simp only [henv] at hmo hal
      have hmi := HMIFF.out env
      have hfl := HFL.out env
      have hml3 := HMV.out env
      generalize modV env G.nodes ms = mv at *
      rw [← hmi] at hal
      have HAL1 := Lib.hid hal; clear hal
      have HFL1 := Lib.hid hfl; clear hfl
      have HMO1 := Lib.hid hmo; clear hmo
      have HML3 := Lib.hid hml3; clear hml3
      have HC := Lib.hid hc; clear hc hcw
      clear he hsb hjb hins hil hsbw hmi henv
      go_wp2_with fail
      clear hcl
      refine HMO1.out.mono ?_
      rintro e w10 ⟨v, rfl, hrow, hown, hc10⟩
      obtain ⟨va, vc, rfl⟩ := row.shape hrow
      rw [HML3.out] at hrow hown ⊢
      have hsz := HC.out.size
      have hown2 : ∀ q ∈ (Value.slice va m vc).ownBlock.toList, w9.heap.size ≤ q := fun q hq => Nat.le_trans hsz (hown q hq)
      have hcA := HC.out.trans hc10 (by simp)
      have hb10 := HB9.out.ch hcA (by simp)
      have y0 := hb10.cell (i := 0) rfl
      have y1 := hb10.cell (i := 1) rfl
      have hva := HVA.out w10 ca cc es (HSV9.out.ch hcA (by simp)) (HCI9.out.ch hcA (by simp) (by simp)) va vc mv HML3.out (row.sv hrow rfl (by omega))
      have hal := fun (W : World) (h : Ch [] w10 W) => HAL1.out W (hc10.trans h (by simp))
      have HVA1 := Lib.hid hva; clear hva
      have HAL2 := Lib.hid hal; clear hal HAL1
      have HROW := Lib.hid hrow; clear hrow
      have HOWN := Lib.hid hown2; clear hown hown2
      have HCA := Lib.hid hcA; clear hcA hc10 hb10 HMO1
      go_wp2_with fail
      clear y0 y1
      refine HVA1.out.mono ?_
      rintro e w11 ⟨rfl, hc11⟩
      have hal := HAL2.out w11 hc11
      have HROW2 := Lib.hid (HROW.out.ch hc11 (by simp)); clear HROW
      have HCB := Lib.hid (HCA.out.trans hc11 (by simp)); clear HCA hc11 HC HVA1
      obtain ⟨t, ht⟩ : ∃ t, forV mv cls = t := ⟨_, rfl⟩
      rw [ht] at hal ⊢
      have HT := Lib.hid ht; clear ht
      have HAL3 := Lib.hid hal; clear hal
      go_wp2_with fail
      refine HAL3.out.mono ?_
      rintro e w12 ⟨rfl, hc12⟩
      have HROW := Lib.hid (HROW2.out.ch hc12 (by simp)); clear HROW2
      have HCC := Lib.hid (HCB.out.trans hc12 (by simp)); clear HCB hc12
      have dt : (!(t == t)) = false := by simp
      go_wp2_with fail
      obtain ⟨wo, hwo⟩ : ∃ wo, wo = w12 := ⟨_, rfl⟩
      subst hwo
      go_loopw [111] (fun i wr => ∃ j : Nat, j ≤ m ∧ i = .int .i64 j ∧ Ch [] w9 wr ∧ row wr 4 1 (.slice va m vc) m (bools mv)) (fun i _ => m - (intOf i).toNat)
      case atStart => exact ⟨0, by omega, rfl, HCC.out, HROW.out⟩
      case round =>
        clear HROW HCC
        obtain ⟨j, hj, rfl, hc, hrow⟩ := hrel
        by_cases hltj : j < m
        · obtain ⟨nd, hnd⟩ : ∃ nd, ms[j]? = some nd := ⟨_, List.getElem?_eq_getElem (by rw [HML.out]; exact hltj)⟩
          have hmem := List.mem_of_getElem? hnd
          have hndZ : (natInts ms)[j]? = some (nd : Int) := by unfold natInts; rw [List.getElem?_map, hnd]; rfl
          obtain ⟨zb, zo, rfl, d0⟩ := (Sl.of_ints (HM9.out.ch hc (by simp)) (by omega)).cells j (nd : Int) hndZ
          obtain ⟨x3, hx3, hkx⟩ := HKOF.out nd hmem
          have hki := HKI.out wr (HC9.out.trans hc (by simp)) nd hmem
          rw [hkx] at hki
          have hnb : nd < 31 := by have := (List.getElem?_eq_some_iff.1 hx3).1; omega
          have hfl := fun h3 => HFL1.out j nd x3 hnd hx3 h3
          have HKI1 := Lib.hid hki; clear hki hndZ hkx hx3 hmem hnd
          generalize x3.k = kd at *
          by_cases h3 : kd = 3
          · subst h3
            rw [show ((3 : Nat) : Int) = 3 from rfl] at HKI1
            obtain ⟨mb, mcp, hvv⟩ := row.parts hrow (by omega)
            cases hvv
            obtain ⟨y, hy⟩ : ∃ y, mv[j]? = some y := ⟨_, List.getElem?_eq_getElem (by rw [HML3.out]; exact hltj)⟩
            have hyd : mv.getD j false = y := by rw [List.getD_eq_getElem?_getD, hy]; rfl
            have hfl2 := hfl rfl
            rw [hyd] at hfl2
            have c1 : wr.cell? ⟨mb, j, none⟩ = some (.bool y) := row_cell hrow (by unfold bools; rw [List.getElem?_map, hy]; rfl)
            have f1 : wr.frozen? ⟨mb, j, none⟩ = false := by
              rcases hrow.2 with ⟨e1, _⟩ | ⟨g, cap', cur, e1, h0, hg, _⟩
              · cases e1
              · cases e1; simp [World.frozen?, hg]
            have dge : decide (m ≤ j) = false := decide_eq_false (by omega)
            have hset := row.set (i := j) hrow (.bool (!y))
            rw [show (bools mv).set j (.bool (!y)) = bools (mv.set j (!y)) by unfold bools; rw [List.map_set]] at hset
            have hmb : w9.heap.size ≤ mb := HOWN.out mb (by simp)
            have HSET := Lib.hid hset; clear hset
            have HFL2 := Lib.hid hfl2; clear hfl2 hfl
            have HC := Lib.hid hc; clear hc
            have HY := Lib.hid hy; clear hy hyd hrow
            have HMB := Lib.hid hmb; clear hmb
            go_wp2_with fail
            clear d0
            refine HKI1.out.mono ?_
            rintro e w' ⟨rfl, rfl⟩
            go_upto_region 23 with fail
            obtain ⟨W4, hW4⟩ : ∃ W4, W4 = wr.setCell ⟨mb, j, none⟩ (.bool (!y)) := ⟨_, rfl⟩
            try rw [← hW4]
            have hc4 : Ch [mb] wr W4 := by rw [hW4]; exact (Ch.refl _ _).setCell (by simp) _
            have hr4 := HSET.out
            rw [← hW4] at hr4
            clear hW4 c1 f1 HSET
            have hcA := HC.out.trans hc4 (fun q hq => .inr (by simp at hq; rw [hq]; exact HMB.out))
            have hb10 := HB9.out.ch hcA (by simp)
            have y0 := hb10.cell (i := 0) rfl
            have y1 := hb10.cell (i := 1) rfl
            have hva := HVA.out W4 ca cc es (HSV9.out.ch hcA (by simp)) (HCI9.out.ch hcA (by simp) (by simp)) (some ⟨mb, 0, none⟩) vc (mv.set j (!y)) (by rw [List.length_set]; exact HML3.out) (row.sv hr4 rfl (by omega))
            rw [HFL2.out] at hva
            have HX := Lib.hid hva; clear hva
            have HROW := Lib.hid hr4; clear hr4
            have HCA := Lib.hid hcA; clear hcA hc4 hb10 HC
            go_wp2_with fail
            clear y0 y1
            refine HX.out.mono ?_
            rintro e w13 ⟨rfl, hcs⟩
            clear HX
            have hrow := HROW.out.ch hcs (by simp)
            have hca := HCA.out.trans hcs (by simp)
            have c1 : w13.cell? ⟨mb, j, none⟩ = some (.bool (!y)) := row_cell hrow (by unfold bools; rw [List.getElem?_map, List.getElem?_set_self (by rw [HML3.out]; exact hltj)]; rfl)
            have f1 : w13.frozen? ⟨mb, j, none⟩ = false := by
              rcases hrow.2 with ⟨e1, _⟩ | ⟨g, cap', cur, e1, h0, hg, _⟩
              · cases e1
              · cases e1; simp [World.frozen?, hg]
            have hset := row.set (i := j) hrow (.bool y)
            rw [show (bools (mv.set j (!y))).set j (.bool y) = bools mv by
              unfold bools
              rw [← List.map_set, List.set_set]
              congr 1
              obtain ⟨hl9, h9⟩ := List.getElem?_eq_some_iff.1 HY.out
              rw [← h9]
              exact List.set_getElem_self hl9] at hset
            have HSET := Lib.hid hset; clear hset hrow HROW
            have HCX := Lib.hid hca; clear hca HCA hcs
            cases y
            all_goals
              go_wp2_with fail
              go_roundw
              case rel => exact ⟨j + 1, by omega, by go_num, HCX.out.setCell (.inr HMB.out) _, HSET.out⟩
              case measure => simp [intOf]; omega
          · have dk : ((kd : Int) == 3) = false := by rw [beq_eq_false_iff_ne]; omega
            have HC := Lib.hid hc; clear hc hfl
            have HROW := Lib.hid hrow; clear hrow
            go_wp2_with fail
            clear d0
            refine HKI1.out.mono ?_
            rintro e w' ⟨rfl, rfl⟩
            go_wp2_with fail
            go_roundw
            case rel => exact ⟨j + 1, by omega, by go_num, HC.out, HROW.out⟩
            case measure => simp [intOf]; omega
        · have HC := Lib.hid hc; clear hc hrow
          go_wp2_with fail
          go_roundw
          case rel => exact ⟨x + 1, by omega, by go_num, HC.out⟩
          case measure => simp [intOf]; omega
    · have HCW := Lib.hid hcw; clear hcw hc
      go_wp2_with fail
      go_ret
      exact ⟨rfl, (HC1.out.trans HC12.out (by simp)).trans HCW.out (by simp)⟩
end
end Go.Proofs.Ytkedpifopclipaa
