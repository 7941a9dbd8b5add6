/-
  The reference's cone, plainly, and the walk over it. Conditions: a graph that can be read, a slice of references of it.
-/
import Derived.Test.YtnajonchjlplmaaQR8
namespace Go.Aig
def metDown (ns : List Nd) : Nat → List Bool → List Bool
  | 0, met => met
  | n + 1, met => metDown ns n (if met.getD n false = true then stepMet ns met n else met)
theorem metDown_succ (ns : List Nd) (n : Nat) (met : List Bool) : metDown ns (n + 1) met = metDown ns n (if met.getD n false = true then stepMet ns met n else met) := rfl
theorem setMark_far {met : List Bool} {r d : Nat} (h : r / 2 < d) : (setMark met r).getD d false = met.getD d false := by
  unfold setMark
  rw [List.getD_eq_getElem?_getD, List.getD_eq_getElem?_getD, List.getElem?_set, if_neg (by omega)]
theorem stepMet_far {ns : List Nd} (hw : WF ns) {met : List Bool} {n d : Nat} (h : n ≤ d) : (stepMet ns met n).getD d false = met.getD d false := by
  unfold stepMet
  split
  · rename_i x hx
    split
    · rename_i h3
      obtain ⟨s1, s2, s3, s4, _⟩ := hw.sides hx h3
      rw [setMark_far (by omega), setMark_far (by omega)]
    · rfl
  · rfl
theorem metDown_far {ns : List Nd} (hw : WF ns) : ∀ (n : Nat) (met : List Bool) (d : Nat), n ≤ d → (metDown ns n met).getD d false = met.getD d false
  | 0, met, d, _ => rfl
  | n + 1, met, d, h => by
    unfold metDown
    rw [metDown_far hw n _ d (by omega)]
    split
    · exact stepMet_far hw (by omega)
    · rfl
theorem coneFrom_filter {ns : List Nd} (hw : WF ns) : ∀ (n : Nat) (met : List Bool), (coneFrom ns n met).reverse = (List.range n).filter fun d => (metDown ns n met).getD d false
  | 0, _ => rfl
  | n + 1, met => by
    unfold coneFrom metDown
    rw [List.range_succ, List.filter_append]
    by_cases h : met.getD n false = true
    · rw [if_pos h, if_pos h, List.reverse_cons, coneFrom_filter hw n]
      have := metDown_far hw n (stepMet ns met n) n (Nat.le_refl _)
      rw [stepMet_far hw (Nat.le_refl _), h] at this
      simp only [List.filter_cons, this, if_true, List.filter_nil]
    · rw [if_neg h, if_neg h, coneFrom_filter hw n]
      have := metDown_far hw n met n (Nat.le_refl _)
      rw [show met.getD n false = false by simpa using h] at this
      have e : List.filter (fun d => (metDown ns n met).getD d false) [n] = [] := by simp only [List.filter_cons, this, List.filter_nil]; rfl
      rw [e, List.append_nil]
theorem cone_filter {ns : List Nd} (hw : WF ns) (l : List Nat) : cone ns l = (List.range ns.length).filter fun d => (metDown ns ns.length (met0 ns.length l)).getD d false := by
  unfold cone coneDown
  exact coneFrom_filter hw _ _
theorem stepMet_len' (ns : List Nd) (met : List Bool) (n : Nat) : (stepMet ns met n).length = met.length := by
  unfold stepMet
  (repeat' split) <;> first | rfl | (rw [setMark_len, setMark_len])
theorem metDown_len (ns : List Nd) : ∀ (n : Nat) (met : List Bool), (metDown ns n met).length = met.length
  | 0, _ => rfl
  | n + 1, met => by
    unfold metDown
    rw [metDown_len ns n]
    split
    · exact stepMet_len' ns met n
    · rfl
end Go.Aig
namespace Go.Proofs.Ytnajonchjlplmaa
open Go.RowKit Go.Mem Go.Aig
def metCells (met : List Bool) : List Value := met.map fun b => .int .i64 (if b then 1 else 0)
theorem metCells_get {met : List Bool} {i : Nat} (h : i < met.length) : (metCells met)[i]? = some (.int .i64 (if met.getD i false = true then 1 else 0)) := by
  unfold metCells
  rw [List.getElem?_map, List.getElem?_eq_getElem h, List.getD_eq_getElem?_getD, List.getElem?_eq_getElem h]
  rfl
theorem metCells_set (met : List Bool) (r : Nat) : (metCells met).set (r / 2) (.int .i64 1) = metCells (setMark met r) := by
  unfold metCells setMark
  rw [List.map_set]
  rfl
theorem metCells_len (met : List Bool) : (metCells met).length = met.length := by simp [metCells]
theorem run_make_ints (w : World) (n : Nat) (hn : n ≤ 65536) : (Instr.makeSlice 54 (.int .i64 n) (.int .i64 n)).run Try.prog w = .ok (.slice (some ⟨w.heap.size, 0, none⟩) n n) (w.alloc (.cells (metCells (List.replicate n false)).toArray 3)) := by
  obtain ⟨i, hi, hz, hs, hb⟩ := info_parts infoInt
  have := run_make (P := Try.prog) w 54 3 i (.int .i64 0) Try.underlying54 hi hz .i64 .i64 n n (by omega) (by omega) (by rw [hb]; omega) (by omega)
  rw [this, hs]
  have e : madeCells (Value.int .i64 0).cells ((n : Int).toNat * 1) = (metCells (List.replicate n false)).toArray := by
    apply Array.ext'
    have h := toList_madeCells_one (Value.int .i64 0) ((n : Int).toNat * 1)
    simpa [metCells, Value.cells] using h
  rw [e]; simp
section
set_option maxRecDepth 100000 in
set_option maxHeartbeats 4000000 in
theorem rCone_is {w : World} {rb cap : Nat} {G : Gra} (h : RG w rb cap G) {a : Option Addr} {l : List Nat} (n acap : Nat) (hn : l.length = n) (hs : Sl w a (l.map fun (r : Nat) => (r : Int))) (hr : ∀ r ∈ l, r < 2 * G.nodes.length) (hm : n ≤ 1000000) :
    Calls Try.prog 87 #[.agg #[.int .i64 G.most, .slice (some ⟨rb, 0, none⟩) G.nodes.length cap], .slice a n acap] w fun e w' => ∃ v, e = .returned v ∧ row w' 3 1 v (cone G.nodes l).length (refsCells (cone G.nodes l)) ∧ (∀ q ∈ v.ownBlock.toList, w.heap.size ≤ q) ∧ Ch [] w w' := by
  subst hn
  obtain ⟨hl, hp, hmo⟩ := h.len
  have hle := h.le
  have hmx := h.mx
  have hrb := h.lt
  have HWF := Lib.hid h.ok.wf
  rw [cone_filter h.ok.wf l]
  have HS := Lib.hid hs; clear hs
  have HR := Lib.hid hr; clear hr
  have H := Lib.hid h; clear h
  have hmk := run_make_ints (w.alloc (.cells #[.int .i64 G.most, .slice (some ⟨rb, 0, none⟩) G.nodes.length cap] 105)) G.nodes.length hl
  go_enter Try.func87, Try.ntmps87
  go_wp2_with fail
  clear hmk
  refine wp_alw ?_
  intro W0 hW0
  have hc0 : Ch [] w W0 := by rw [hW0]; exact ((Ch.refl _ _).alloc _).alloc _
  have b2 : blk W0 w.heap.size [.int .i64 G.most, .slice (some ⟨rb, 0, none⟩) G.nodes.length cap] := by rw [hW0]; exact (blk.new' (w := w) [.int .i64 G.most, .slice (some ⟨rb, 0, none⟩) G.nodes.length cap] 105 rfl).alloc _
  have bm : blk W0 (w.heap.size + 1) (metCells (List.replicate G.nodes.length false)) := by rw [hW0]; exact blk.new' (metCells (List.replicate G.nodes.length false)) 3 (by simp)
  clear hW0
  have hr0 := H.out.ch hc0 (by simp)
  have B2 := Lib.hid b2; clear b2
  have BM := Lib.hid bm; clear bm
  have HC0 := Lib.hid hc0; clear hc0
  have HR0 := Lib.hid hr0; clear hr0
  go_loopw [6] (fun i wr => ∃ k : Nat, k ≤ l.length ∧ i = .int .i64 k ∧ Ch [w.heap.size + 1] W0 wr ∧ blk wr (w.heap.size + 1) (metCells ((l.take k).foldl setMark (List.replicate G.nodes.length false)))) (fun i _ => l.length - (intOf i).toNat)
  case atStart => exact ⟨0, by omega, rfl, Ch.refl _ _, BM.out⟩
  case round =>
    clear BM
    obtain ⟨k, hk, rfl, hc, hbm⟩ := hrel
    by_cases hlt : k < l.length
    · obtain ⟨r, hx⟩ : ∃ r, l[k]? = some r := ⟨_, List.getElem?_eq_getElem hlt⟩
      have hrm := HR.out r (List.mem_of_getElem? hx)
      obtain ⟨xb, xo, rfl, hcl⟩ := HS.out.cells k r (by rw [List.getElem?_map, hx]; rfl)
      have hxb : xb < w.heap.size := cell_lt hcl
      have c0 := ((HC0.out.trans hc (fun k hk => .inr (by simp at hk; omega))).cell (F := []) (p := ⟨xb, xo + k, none⟩) hxb (by simp)).trans hcl
      have hfs : (l.take (k + 1)).foldl setMark (List.replicate G.nodes.length false) = setMark ((l.take k).foldl setMark (List.replicate G.nodes.length false)) r := by rw [List.take_add_one, hx]; simp
      have hml : ((l.take k).foldl setMark (List.replicate G.nodes.length false)).length = G.nodes.length := by rw [foldl_mark_len, List.length_replicate]
      have hfs' := hbm.set (i := r / 2) (.int .i64 1)
      rw [metCells_set, ← hfs] at hfs'
      have hold := hbm.cell (metCells_get (i := r / 2) (by rw [hml]; omega))
      have hfz := hbm.frozen (i := r / 2)
      have HB := Lib.hid hfs'; clear hfs' hfs hbm hml hx hcl
      generalize (if ((l.take k).foldl setMark (List.replicate G.nodes.length false)).getD (r / 2) false = true then (1 : Int) else 0) = ov at *
      have HC := Lib.hid hc; clear hc
      have j1 : (r : Int) / 2 < (G.nodes.length : Int) := by omega
      go_wp2_with fail
      go_roundw
      case rel => exact ⟨k + 1, by omega, by go_num, HC.out.setCell (by simp) _, HB.out⟩
      case measure => simp [intOf]; omega
    · have hkn : k = l.length := by omega
      rw [hkn, List.take_of_length_le (Nat.le_refl _)] at hbm
      rw [hkn]
      have hml : (l.foldl setMark (List.replicate G.nodes.length false)).length = G.nodes.length := by rw [foldl_mark_len, List.length_replicate]
      have hMM : l.foldl setMark (List.replicate G.nodes.length false) = met0 G.nodes.length l := rfl
      rw [hMM] at hbm hml
      generalize hM1 : met0 G.nodes.length l = M1 at *
      have HM1 := Lib.hid hM1; clear hM1
      have HB := Lib.hid hbm; clear hbm
      have HC := Lib.hid hc; clear hc
      have HML := Lib.hid hml; clear hml hMM hkn hlt hk
      go_wp2_with fail
      go_loopw [7] (fun i wx => ∃ j : Nat, j ≤ G.nodes.length ∧ i = .int .i64 ((j : Int) - 1) ∧ ∃ met, met.length = G.nodes.length ∧ metDown G.nodes j met = metDown G.nodes G.nodes.length M1 ∧ Ch [w.heap.size + 1] W0 wx ∧ blk wx (w.heap.size + 1) (metCells met)) (fun i _ => (intOf i + 1).toNat)
      case atStart => exact ⟨G.nodes.length, Nat.le_refl _, rfl, M1, HML.out, rfl, HC.out, HB.out⟩
      case round =>
        clear HB HC HML
        obtain ⟨j, hj, rfl, met, hml, hmd, hc, hbm⟩ := hrel
        by_cases hj1 : 1 ≤ j
        · obtain ⟨i, rfl⟩ : ∃ i, j = i + 1 := ⟨j - 1, by omega⟩
          clear hj1
          rw [show ((i + 1 : Nat) : Int) - 1 = (i : Int) by omega]
          obtain ⟨x, hx⟩ : ∃ x, G.nodes[i]? = some x := ⟨_, List.getElem?_eq_getElem (by omega)⟩
          obtain ⟨c0, c1, c2⟩ := (HR0.out.ch hc (by simp; omega)).node hx
          have y1 := (B2.out.ch hc (by simp)).cell (i := 1) rfl
          have m0 := hbm.cell (metCells_get (i := i) (by rw [hml]; omega))
          rw [metDown_succ] at hmd
          have HC := Lib.hid hc; clear hc
          have hbn := hbm.lt
          by_cases hmi : met.getD i false = true
          · rw [if_pos hmi] at m0 hmd
            clear hmi
            by_cases h3 : x.k = 3
            · obtain ⟨s1, s2, s3, s4, s5⟩ := HWF.out.sides hx h3
              have q : ((x.k : Int) == 3) = true := by simp [h3]
              have hst : stepMet G.nodes met i = setMark (setMark met x.l) x.r := by unfold stepMet; rw [hx]; simp [h3]
              rw [hst] at hmd
              have HMD := Lib.hid hmd; clear hmd hst s5 h3 hx
              have hb2 := hbm.set (i := x.l / 2) (.int .i64 1)
              rw [metCells_set] at hb2
              have hb3 := hb2.set (i := x.r / 2) (.int .i64 1)
              rw [metCells_set] at hb3
              replace hb3 := hb3.alloc (.cells #[.int .i64 x.k, .int .i64 x.l, .int .i64 x.r] 122)
              have o1 := hbm.cell (metCells_get (i := x.l / 2) (by rw [hml]; omega))
              have o2 := hbm.cell (metCells_get (i := x.r / 2) (by rw [hml]; omega))
              have z1 := hbm.frozen (i := x.l / 2)
              have z2 := hbm.frozen (i := x.r / 2)
              have hml3 : (setMark (setMark met x.l) x.r).length = G.nodes.length := by rw [setMark_len, setMark_len, hml]
              have HB3 := Lib.hid hb3; clear hb3 hb2 hbm
              have HML := Lib.hid hml3; clear hml3 hml
              generalize (if met.getD (x.l / 2) false = true then (1 : Int) else 0) = ov1 at *
              generalize (if met.getD (x.r / 2) false = true then (1 : Int) else 0) = ov2 at *
              have j1 : (x.l : Int) / 2 < (G.nodes.length : Int) := by omega
              have j2 : (x.r : Int) / 2 < (G.nodes.length : Int) := by omega
              go_wp2_with fail
              go_roundw
              case rel => exact ⟨i, by omega, rfl, _, HML.out, HMD.out, (((HC.out.setCell (by simp) _).setCell (by simp) _).alloc _), HB3.out⟩
              case measure => simp [intOf]
            · have q : ((x.k : Int) == 3) = false := by simp; omega
              have hst : stepMet G.nodes met i = met := by unfold stepMet; rw [hx]; simp [h3]
              rw [hst] at hmd
              have HMD := Lib.hid hmd; clear hmd hst h3 hx
              have HML := Lib.hid hml; clear hml
              have HB := Lib.hid hbm; clear hbm
              go_wp2_with fail
              go_roundw
              case rel => exact ⟨i, by omega, rfl, _, HML.out, HMD.out, HC.out.alloc _, HB.out.alloc _⟩
              case measure => simp [intOf]
          · rw [if_neg hmi] at m0 hmd
            clear hmi hx
            have HMD := Lib.hid hmd; clear hmd
            have HML := Lib.hid hml; clear hml
            have HB := Lib.hid hbm; clear hbm
            go_wp2_with fail
            go_roundw
            case rel => exact ⟨i, by omega, rfl, _, HML.out, HMD.out, HC.out.alloc _, HB.out.alloc _⟩
            case measure => simp [intOf]
        · have hj0 : j = 0 := by omega
          rw [hj0] at hmd
          rw [hj0, show ((0 : Nat) : Int) - 1 = -1 from rfl]
          clear hj0 hj1 hj
          change met = _ at hmd
          have HB := Lib.hid hbm; clear hbm
          have HC := Lib.hid hc; clear hc
          have HML := Lib.hid hml; clear hml
          have HMD := Lib.hid hmd; clear hmd
          have hcs := HC.out.size
          obtain ⟨wx, rfl⟩ : ∃ wx : World, wx = wr := ⟨_, rfl⟩
          go_wp2_with fail
          go_loopw [9, 10] (fun o i wr => ∃ k : Nat, k ≤ G.nodes.length ∧ i = .int .i64 k ∧ Ch [] wx wr ∧ row wr 3 1 o ((List.range k).filter fun d => met.getD d false).length (refsCells ((List.range k).filter fun d => met.getD d false)) ∧ ∀ q ∈ o.ownBlock.toList, wx.heap.size ≤ q) (fun _ i _ => G.nodes.length - (intOf i).toNat)
          case atStart => exact ⟨0, by omega, rfl, Ch.refl _ _, ⟨rfl, .inl ⟨rfl, rfl⟩⟩, by simp⟩
          case round =>
            obtain ⟨k, hk, rfl, hc, hrow, hlo⟩ := hrel
            obtain ⟨oa, oc, rfl⟩ := row.shape hrow
            by_cases hlt : k < G.nodes.length
            · have m0 := (HB.out.ch hc (by simp)).cell (metCells_get (i := k) (by rw [HML.out]; omega))
              have hil : ((List.range k).filter fun d => met.getD d false).length ≤ k := by
                have := List.length_filter_le (fun d => met.getD d false) (List.range k)
                simpa using this
              have hsu : (List.range (k + 1)).filter (fun d => met.getD d false) = (List.range k).filter (fun d => met.getD d false) ++ (if met.getD k false = true then [k] else []) := by
                rw [List.range_succ, List.filter_append]
                congr 1
                by_cases h : met.getD k false = true
                · simp only [List.filter_cons, h, if_true, List.filter_nil]
                · rw [if_neg h]; simp only [List.filter_cons, List.filter_nil]; simp at h; simp [h]
              have HSU := Lib.hid hsu; clear hsu
              have HLO := Lib.hid hlo; clear hlo
              have HC5 := Lib.hid hc; clear hc
              by_cases hmi : met.getD k false = true
              · rw [if_pos hmi] at m0
                have hsu := HSU.out
                rw [if_pos hmi] at hsu
                have HSU2 := Lib.hid hsu; clear hsu HSU hmi
                have hcA : Ch [] wr (wr.alloc (.cells #[.int .i64 k] 3)) := (Ch.refl _ _).alloc _
                have hrA := hrow.ch hcA (by simp)
                have hbA : blk (wr.alloc (.cells #[.int .i64 k] 3)) wr.heap.size [.int .i64 k] := blk.new' _ _ rfl
                have HRA := Lib.hid hrA; clear hrA hrow
                have HBA := Lib.hid hbA; clear hbA
                have HCA := Lib.hid hcA; clear hcA
                generalize (List.range k).filter (fun d => met.getD d false) = L at *
                go_wp2_with (at_builtin; go_loud (refine wpList_append_row slInts rfl _ _ rfl (v := .slice oa L.length oc) (n := L.length) (xs := refsCells L) rfl HRA.out (ad := ⟨wr.heap.size, 0, none⟩) (m := 1) (c := 1) (news := [.int .i64 k]) rfl rfl (news_blk HBA.out) (by simp [Value.oneCell']) (by omega) (by omega) ?_; intro v' w4 hown4 hC4 hf4; have HO4 := Lib.hid hown4; clear hown4; have HC4 := Lib.hid hC4; clear hC4; have HF4 := Lib.hid hf4; clear hf4))
                go_roundw
                case rel =>
                  obtain ⟨q1, q2⟩ := app_step HC5.out HCA.out HLO.out HC4.out HF4.out
                  refine ⟨k + 1, by omega, by go_num, q1, ?_, q2⟩
                  have := HO4.out
                  rw [HSU2.out]
                  simpa [refsCells] using this
                case measure => simp [intOf]; omega
              · rw [if_neg hmi] at m0
                have hsu := HSU.out
                rw [if_neg hmi, List.append_nil] at hsu
                have HSU2 := Lib.hid hsu; clear hsu HSU hmi
                have HROW := Lib.hid hrow; clear hrow
                go_wp2_with fail
                go_roundw
                case rel => exact ⟨k + 1, by omega, by go_num, HC5.out, by rw [HSU2.out]; exact HROW.out, HLO.out⟩
                case measure => simp [intOf]; omega
            · have hkn : k = G.nodes.length := by omega
              rw [hkn] at hrow hlo
              rw [hkn]
              have HROW := Lib.hid hrow; clear hrow
              have HLO := Lib.hid hlo; clear hlo
              have HC5 := Lib.hid hc; clear hc hkn
              go_wp2_with fail
              go_ret
              have hs0 := HC0.out.size
              rw [HM1.out, ← HMD.out]
              refine ⟨.slice oa ((List.range G.nodes.length).filter fun d => met.getD d false).length oc, rfl, HROW.out, fun q hq => by have := HLO.out q hq; omega, (HC0.out.trans HC.out (fun k hk => .inr (by simp at hk; omega))).trans HC5.out (by simp)⟩
end
end Go.Proofs.Ytnajonchjlplmaa
