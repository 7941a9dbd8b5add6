/-
  Walk over AigCone: true (begun). Conditions: a slice of small ones, a slice of bytes.
-/
import Derived.Test.YtnajonchjlplmaaQW40
import Derived.Test.YtnajonchjlplmaaQLift2
import Derived.Test.YtnajonchjlplmaaQMap2
import Derived.Test.YtnajonchjlplmaaQW42
namespace Go.Proofs.Ytnajonchjlplmaa
open Go.RowKit Go.Mem Go.Aig
def rootsOf (refs bs : List Nat) (k : Nat) : List Nat := (bs.take k).map (pickR refs)
theorem Sl.of_row {w : World} {a : Option Addr} {n cap : Nat} {l : List Nat} (h : row w 3 1 (.slice a n cap) n (refsCells l)) (hl : l.length = n) (hn : n ≤ 1000000) : Sl w a (l.map fun (r : Nat) => (r : Int)) := by
  refine ⟨fun i x hx => ?_, by simp; omega⟩
  rw [List.getElem?_map] at hx
  cases hr : l[i]? with
  | none => rw [hr] at hx; cases hx
  | some r =>
    rw [hr] at hx
    simp at hx
    subst hx
    obtain ⟨gb, go, hge, gc⟩ := (row.sv h rfl hn).cells i (.int .i64 r) (by simp [refsCells, hr])
    exact ⟨gb, go, hge, gc⟩
theorem cone_sorted (ns : List Nd) (l : List Nat) : ∀ (i : Nat) (x y : Int), ((cone ns l).map fun (r : Nat) => (r : Int))[i]? = some x → ((cone ns l).map fun (r : Nat) => (r : Int))[i + 1]? = some y → x ≤ y := by
  intro i x y hx hy
  rw [List.getElem?_map] at hx hy
  cases h1 : (cone ns l)[i]? with
  | none => rw [h1] at hx; cases hx
  | some p =>
    cases h2 : (cone ns l)[i + 1]? with
    | none => rw [h2] at hy; cases hy
    | some q =>
      rw [h1] at hx; rw [h2] at hy
      simp at hx hy
      obtain ⟨l1, e1⟩ := List.getElem?_eq_some_iff.1 h1
      obtain ⟨l2, e2⟩ := List.getElem?_eq_some_iff.1 h2
      have := List.pairwise_iff_getElem.1 (cone_asc ns l) i (i + 1) l1 l2 (by omega)
      rw [e1, e2] at this
      omega
theorem setMark_getD (met : List Bool) (r q : Nat) : (setMark met r).getD q false = true ↔ (met.getD q false = true ∨ (q = r / 2 ∧ r / 2 < met.length)) := by unfold setMark; exact getD_set
theorem row.capLe {w : World} {e : TypeId} {size : Nat} {a : Option Addr} {n c m : Nat} {xs : List Value} (h : row w e size (.slice a n c) m xs) : m ≤ c ∧ c ≤ 9223372036854775807 := by
  rcases h.2 with ⟨e1, h0⟩ | ⟨g', cap', cur, e1, _, _, h1, h2, _⟩
  · cases e1; omega
  · cases e1; exact ⟨h1, by unfold maxLen at h2; exact h2⟩
theorem Sl.take {w : World} {a : Option Addr} {l : List Nat} (h : Sl w a (l.map fun (r : Nat) => (r : Int))) (k : Nat) : Sl w a ((l.take k).map fun (r : Nat) => (r : Int)) := by
  refine ⟨fun i x hx => h.cells i x ?_, by have := h.bd; simp at this ⊢; omega⟩
  rw [List.map_take, List.getElem?_take] at hx
  split at hx
  · exact hx
  · cases hx
theorem cone_in {ns : List Nd} (hw : WF ns) (l : List Nat) (k : Nat) : (((cone ns (l.take k)).map fun (r : Nat) => (r : Int)).any fun y => !((cone ns l).map fun (r : Nat) => (r : Int)).any fun z => y == z) = false := by
  rw [List.any_eq_false]
  intro y hy
  obtain ⟨q, hq, rfl⟩ := List.mem_map.1 hy
  have := cone_take hw l k q hq
  simp only [Bool.not_eq_true', Bool.not_eq_false]
  have h2 : (((cone ns l).map fun (r : Nat) => (r : Int)).any fun z => (q : Int) == z) = true := List.any_eq_true.2 ⟨(q : Int), List.mem_map.2 ⟨q, this, rfl⟩, by simp⟩
  rw [h2]
theorem max_nat (n k m : Nat) (h : max n k = m) (ats : Array TypeId) (ty : TypeId) : Builtin.max_ ats ty #[.int .i64 (n : Int), .int .i64 (k : Int)] = pure (.int .i64 (m : Int)) := by
  have e : (if (k : Int) > n then (k : Int) else n) = m := by split <;> omega
  rw [← e]
  simp [Builtin.max_, Builtin.max2]
theorem _root_.Go.Mem.IMap.ch {F : List Nat} {w w' : World} {mb : Nat} {L : List Nat} (h : IMap w mb L) (hc : Ch F w w') (hF : mb ∉ F) : IMap w' mb L := by
  obtain ⟨es, clock, h1, _⟩ := h.ex
  exact h.of_heap (hc.block mb (Array.getElem?_eq_some_iff.1 h1).1 hF)
theorem mem_add {L : List Nat} {n q : Nat} : q ∈ (if n ∈ L then L else L ++ [n]) ↔ (q ∈ L ∨ q = n) := by
  split
  · rename_i h
    exact ⟨.inl, fun h2 => h2.elim id fun e => e ▸ h⟩
  · simp
theorem rootsOf_succ {refs bs : List Nat} {k y : Nat} (h : bs[k]? = some y) : rootsOf refs bs (k + 1) = rootsOf refs bs k ++ [pickR refs y] := by
  unfold rootsOf
  rw [List.take_add_one, h]; simp
theorem rootsOf_lt {refs bs : List Nat} {m : Nat} (h : ∀ r ∈ refs, r < 2 * m) (h0 : 0 < refs.length) (k : Nat) : ∀ r ∈ rootsOf refs bs k, r < 2 * m := by
  intro r hr
  obtain ⟨y, _, rfl⟩ := List.mem_map.1 hr
  exact pickR_lt h h0 y
section
variable {w : World}
set_option maxRecDepth 100000 in
set_option maxHeartbeats 16000000 in
theorem AigCone_walk {a : Option Addr} {n cap : Nat} {l : List Sm} (hS : SmS w a n cap l) {a2 : Option Addr} {n2 cap2 : Nat} {bs : List Nat} (hU : U8S w a2 n2 cap2 bs) :
    Calls Try.prog 10 #[.slice a n cap, .slice a2 n2 cap2] w fun e w' => e = .returned (.bool true) ∧ Ch [] w w' := by
  obtain ⟨hok, hnl, hrl, h60, hmo⟩ := built_ok l
  have hB := fun (W : World) (hW : Ch [] w W) => build_is (w := W) 4000 (by omega) (by omega) (hS.ch hW (by simp)) (by omega)
  have hsz : (builtB 4000 (l.take 60)).G.nodes.length ≤ 65536 := by have := hok.ok.room; have := hok.ok.most; omega
  have hrb : (builtB 4000 (l.take 60)).refs.length ≤ 1000 := by omega
  clear hnl hmo hrl h60
  generalize builtB 4000 (l.take 60) = b at *
  have HB := Lib.hid hB; clear hB
  have HOK := Lib.hid hok; clear hok
  have HU := Lib.hid hU; clear hU
  clear hS
  have hmin : min n2 10 = (bs.take 10).length := by rw [List.length_take, HU.out.len, Nat.min_comm]
  have hmn : ∀ (ats : Array TypeId) (ty : TypeId), Builtin.min_ ats ty #[.int .i64 (n2 : Int), .int .i64 10] = pure (.int .i64 ((bs.take 10).length : Nat)) := fun ats ty => min_nat n2 10 _ hmin ats ty
  have hml : (bs.take 10).length ≤ cap2 := by rw [← hmin]; have := HU.out.le; omega
  have hm10 : (bs.take 10).length ≤ 10 := by rw [← hmin]; omega
  have hmb : (bs.take 10).length ≤ bs.length := by rw [List.length_take]; omega
  have hmx := HU.out.max
  have hle := HU.out.le
  clear hmin
  generalize hML : (bs.take 10).length = m at *
  clear hML
  have hmm := @run_makeMap Try.prog
  go_enter Try.func10, Try.ntmps10
  go_wp2_with fail
  refine (awake_is w).mono ?_
  rintro e w1 ⟨rfl, hc1⟩
  have HC1 := Lib.hid hc1; clear hc1
  go_wp2_with fail
  refine (HB.out w1 HC1.out).mono ?_
  rintro e w2 ⟨g, F, ra, rc, wa, wc, rfl, hbm⟩
  have hBB := (hbm.base HC1.out).box
  have HBB := Lib.hid hBB; clear hBB hbm HB
  go_wp2_with fail
  generalize w2.heap.size = tb at *
  generalize w2.alloc (.cells #[.pointer (some ⟨g, 0, none⟩), .slice ra b.refs.length rc, .slice wa b.want.length wc] 28) = W0 at *
  go_loopw [7, 45] (fun o i wr => ∃ k : Nat, k ≤ m ∧ i = .int .i64 k ∧ BB o.ownBlock.toList w wr tb g F (.slice ra b.refs.length rc) (.slice wa b.want.length wc) b ∧ row wr 33 1 o k (refsCells (rootsOf b.refs bs k)) ∧ ∀ q ∈ o.ownBlock.toList, w.heap.size ≤ q) (fun _ i _ => m - (intOf i).toNat)
  case atStart => exact ⟨0, by omega, rfl, HBB.out, ⟨rfl, .inl ⟨rfl, rfl⟩⟩, by simp⟩
  case round =>
    clear HBB HC1
    obtain ⟨k, hk, rfl, hBB, hrow, hlo⟩ := hrel
    obtain ⟨oa, oc, rfl⟩ := row.shape hrow
    by_cases hlt : k < m
    · obtain ⟨y, hy⟩ : ∃ y, bs[k]? = some y := ⟨_, List.getElem?_eq_getElem (by omega)⟩
      have hyb := HU.out.bd y (List.mem_of_getElem? hy)
      obtain ⟨yb, yo, rfl, d0⟩ := HU.out.cells k y hy
      have d0 := (hBB.bm.own.ch.cell (cell_lt d0) (by simp)).trans d0
      have hP : Calls Try.prog 34 #[.agg #[.pointer (some ⟨g, 0, none⟩), .slice ra b.refs.length rc, .slice wa b.want.length wc], .int .u8 y] wr fun e w' => e = .returned (.tuple #[.int .i64 (pickR b.refs y : Nat), .int .u64 (pickW b.want y : Nat)]) ∧ Ch [] wr w' := by
        have h0 := (hBB.told HOK.out rfl (by omega)).pick rc wc y hyb
        have e : b.want.length = b.refs.length := HOK.out.len.symm
        rw [e]; exact h0
      have ⟨x0, x1, x2⟩ := blk3 hBB.bk
      have hsucc := rootsOf_succ (refs := b.refs) hy
      generalize pickR b.refs y = r at *
      generalize pickW b.want y = rw' at *
      have HSU := Lib.hid hsucc; clear hsucc hy
      have HP := Lib.hid hP; clear hP
      have HBB := Lib.hid hBB; clear hBB
      have HROW := Lib.hid hrow; clear hrow
      have HLO := Lib.hid hlo; clear hlo
      go_wp2_with fail
      refine HP.out.mono ?_
      rintro e w3 ⟨rfl, hc3⟩
      have hcA : Ch [] wr (w3.alloc (.cells #[.int .i64 r] 33)) := hc3.alloc _
      have hrA := HROW.out.ch hcA (by simp)
      have hbA : blk (w3.alloc (.cells #[.int .i64 r] 33)) w3.heap.size [.int .i64 r] := blk.new' _ _ rfl
      have hBA := HBB.out.same hcA
      have HRA := Lib.hid hrA; clear hrA
      have HBLA := Lib.hid hbA; clear hbA
      have HBA := Lib.hid hBA; clear hBA hcA hc3 HBB x0 x1 x2 HP HROW d0
      go_wp2_with (at_builtin; go_loud (refine wpList_append_row slRefs rfl _ _ rfl (v := .slice oa k oc) (n := k) (xs := refsCells (rootsOf b.refs bs k)) rfl HRA.out (ad := ⟨w3.heap.size, 0, none⟩) (m := 1) (c := 1) (news := [.int .i64 r]) rfl rfl (news_blk HBLA.out) (by simp [Value.oneCell']) (by omega) (by omega) ?_; intro v' w4 hown4 hC4 hf4; have HO4 := Lib.hid hown4; clear hown4; have HC4 := Lib.hid hC4; clear hC4; have HF4 := Lib.hid hf4; clear hf4))
      go_roundw
      case rel =>
        obtain ⟨q1, q2⟩ := HBA.out.rowStep HLO.out HC4.out (fun k hk => (HO4.out.lt k hk).2) HF4.out
        refine ⟨k + 1, by omega, by go_num, q1, ?_, q2⟩
        have := HO4.out
        rw [HSU.out]
        simpa [refsCells] using this
      case measure => simp [intOf]; omega
    · have hkm : k = m := by omega
      rw [hkm] at hrow hBB hlo
      rw [hkm]
      clear hkm hlt hk
      have ⟨x0, x1, x2⟩ := blk3 hBB.bk
      have hrl := rootsOf_lt (bs := bs) HOK.out.refs HOK.out.pos m
      have hlen : (rootsOf b.refs bs m).length = m := by unfold rootsOf; rw [List.length_map, List.length_take]; omega
      obtain ⟨hl1, hl2⟩ := hBB.bm.lt
      have hsl : Sl wr oa ((rootsOf b.refs bs m).map fun (r : Nat) => (r : Int)) := by
        refine ⟨fun i x hx => ?_, by simp; omega⟩
        rw [List.getElem?_map] at hx
        cases hr : (rootsOf b.refs bs m)[i]? with
        | none => rw [hr] at hx; cases hx
        | some r =>
          rw [hr] at hx
          simp at hx
          subst hx
          obtain ⟨gb, go, hge, gc⟩ := (row.sv hrow rfl (by omega)).cells i (.int .i64 r) (by simp [refsCells, hr])
          exact ⟨gb, go, hge, gc⟩
      have halt : ∀ p, oa = some p → p.block < wr.heap.size := fun p hp => by
        subst hp
        exact (hrow.lt p.block rfl).2
      have hC := Cone_g hBB.bm.own.gin m oc hlen hsl halt hrl
      have HC := Lib.hid hC; clear hC
      have HBB := Lib.hid hBB; clear hBB
      have HROW := Lib.hid hrow; clear hrow
      have HLO := Lib.hid hlo; clear hlo
      have HSL := Lib.hid hsl; clear hsl
      clear halt hl1 hl2
      go_wp2_with fail
      refine HC.out.mono ?_
      rintro e w3 ⟨v, rfl, hcr, hcf, hc3⟩
      have HCR := Lib.hid hcr; clear hcr
      have HCF := Lib.hid hcf; clear hcf
      have hBB := HBB.out.same hc3
      obtain ⟨ca, cc, rfl⟩ := row.shape HCR.out
      have hclen : (cone b.G.nodes (rootsOf b.refs bs m)).length ≤ b.G.nodes.length := by
        unfold cone coneDown; rw [List.length_reverse]; exact coneFrom_len _ _ _
      have hsc := Sl.of_row HCR.out rfl (by omega)
      have hSO := fun (W : World) (hW : Ch [] w3 W) => Sorted_is cc (hsc.ch hW (by simp)) (cone_sorted _ _)
      simp only [List.length_map] at hSO
      have HSO := Lib.hid hSO; clear hSO hsc
      have HBB3 := Lib.hid hBB; clear hBB HBB HC x0 x1 x2
      go_wp2_with fail
      refine (HSO.out _ ((Ch.refl _ _).alloc _)).mono ?_
      rintro e w4 ⟨rfl, hc4⟩
      have hcx : Ch [] w3 w4 := ((Ch.refl _ _).alloc _).trans hc4 (by simp)
      have HBB4 := Lib.hid (HBB3.out.same hcx)
      have hb12 : blk w4 w3.heap.size [.slice ca (cone b.G.nodes (rootsOf b.refs bs m)).length cc] := (blk.new' (w := w3) [.slice ca (cone b.G.nodes (rootsOf b.refs bs m)).length cc] 54 rfl).ch hc4 (by simp)
      have hcr4 := HCR.out.ch hcx (by simp)
      have HCR4 := Lib.hid hcr4; clear hcr4
      have HB12 := Lib.hid hb12; clear hb12
      have hcw : Ch [] wr w4 := hc3.trans hcx (by simp)
      have HCW := Lib.hid hcw; clear hcw hcx hc4 HBB3 HCR HSO hc3
      go_wp2_with fail
      clear hmm
      have hmap0 : IMap (w4.alloc (.map #[] 0)) w4.heap.size [] := ⟨⟨#[], 0, heap_alloc_new _ _, rfl⟩, List.nodup_nil⟩
      have hcm : Ch [] w4 (w4.alloc (.map #[] 0)) := (Ch.refl _ _).alloc _
      have HMAP := Lib.hid hmap0; clear hmap0
      have HCM := Lib.hid hcm; clear hcm
      have HRL := Lib.hid hrl; clear hrl
      have HLEN := Lib.hid hlen; clear hlen
      go_loopw [77] (fun i wr => ∃ j : Nat, j ≤ m ∧ i = .int .i64 j ∧ ∃ L, IMap wr w4.heap.size L ∧ Ch [] w4 wr ∧ ∀ q, q ∈ L ↔ (((rootsOf b.refs bs m).take j).foldl setMark (List.replicate b.G.nodes.length false)).getD q false = true) (fun i _ => m - (intOf i).toNat)
      case atStart => exact ⟨0, by omega, rfl, _, HMAP.out, HCM.out, fun q => by simp [List.getD_eq_getElem?_getD, List.getElem?_replicate]; split <;> simp⟩
      case round =>
        clear HMAP HCM
        obtain ⟨j, hj, rfl, L, him, hcj, hmk⟩ := hrel
        by_cases hlt : j < m
        · obtain ⟨r, hr⟩ : ∃ r, (rootsOf b.refs bs m)[j]? = some r := ⟨_, List.getElem?_eq_getElem (by rw [HLEN.out]; exact hlt)⟩
          have hrb := HRL.out r (List.mem_of_getElem? hr)
          obtain ⟨rb, ro, rfl, d0⟩ := HSL.out.cells j r (by rw [List.getElem?_map, hr]; rfl)
          have d0 := ((HCW.out.trans hcj (by simp)).cell (cell_lt d0) (by simp)).trans d0
          obtain ⟨W5, hup, hc5, him5⟩ := IMap.set (P := Try.prog) (T := 75) (K := 3) (E := 3) Try.underlying75 Try.underlying3 him (r / 2)
          rw [show ((r / 2 : Nat) : Int) = (r : Int) / 2 by omega] at hup
          have hc45 : Ch [] w4 W5 := hcj.trans hc5 (by simp)
          have hmk5 : ∀ q, q ∈ (if r / 2 ∈ L then L else L ++ [r / 2]) ↔ (((rootsOf b.refs bs m).take (j + 1)).foldl setMark (List.replicate b.G.nodes.length false)).getD q false = true := fun q => by
            rw [foldl_take_succ hr, setMark_getD, ← hmk q]
            have hl : r / 2 < (((rootsOf b.refs bs m).take j).foldl setMark (List.replicate b.G.nodes.length false)).length := by rw [foldl_mark_len, List.length_replicate]; omega
            by_cases hq : r / 2 ∈ L
            · rw [if_pos hq]
              exact ⟨.inl, fun h => h.elim id fun h => h.1 ▸ hq⟩
            · rw [if_neg hq, List.mem_append, List.mem_singleton]
              exact ⟨fun h => h.imp id fun e => ⟨e, hl⟩, fun h => h.imp id fun e => e.1⟩
          have HIM := Lib.hid him5; clear him5 him
          have HMK := Lib.hid hmk5; clear hmk5 hmk
          have HC45 := Lib.hid hc45; clear hc45 hc5 hcj hr
          go_wp2_with fail
          go_roundw
          case rel => exact ⟨j + 1, by omega, by go_num, _, HIM.out, HC45.out, HMK.out⟩
          case measure => simp [intOf]; omega
        · have hjm : j = m := by omega
          rw [hjm] at hmk
          rw [hjm]
          clear hjm hlt hj
          have hwf := HOK.out.ok.wf
          have htk : (rootsOf b.refs bs m).take m = rootsOf b.refs bs m := List.take_of_length_le (by rw [HLEN.out]; omega)
          rw [htk] at hmk
          have hca := ConeAt.start b.G.nodes (rootsOf b.refs bs m)
          have hmk' : ∀ q, q ∈ L ↔ (met0 b.G.nodes.length (rootsOf b.refs bs m)).getD q false = true := hmk
          have hb12 := HB12.out.ch hcj (by simp)
          have x12 := hb12.cell (i := 0) rfl
          have hcnl : (cone b.G.nodes (rootsOf b.refs bs m)).length = (coneDown b.G.nodes (rootsOf b.refs bs m)).length := by unfold cone; rw [List.length_reverse]
          have HCA := Lib.hid hca; clear hca
          have HMK := Lib.hid hmk'; clear hmk' hmk htk
          have HIM := Lib.hid him; clear him
          have HCJ := Lib.hid hcj; clear hcj hb12
          have HCN := Lib.hid hcnl; clear hcnl
          have HWF := Lib.hid hwf; clear hwf
          generalize hcl : (cone b.G.nodes (rootsOf b.refs bs m)).length = cl at *
          have HCL := Lib.hid hcl; clear hcl
          have hslc := Sl.of_row HCR4.out HCL.out (by omega)
          have HSLC := Lib.hid hslc; clear hslc
          have hbmost : b.G.nodes.length ≤ 65536 := hsz
          go_wp2_with fail
          clear x12
          go_loopw [17] (fun i wr => ∃ j : Nat, j ≤ cl ∧ i = .int .i64 ((j : Int) - 1) ∧ ∃ n0 met L, ConeAt b.G.nodes (coneDown b.G.nodes (rootsOf b.refs bs m)) (cl - j) n0 met ∧ IMap wr w4.heap.size L ∧ Ch [] w4 wr ∧ ∀ q, q ∈ L ↔ met.getD q false = true) (fun i _ => (intOf i + 1).toNat)
          case atStart => exact ⟨cl, Nat.le_refl _, rfl, _, _, _, (by rw [Nat.sub_self]; exact HCA.out), HIM.out, HCJ.out, HMK.out⟩
          case round =>
            clear HCA HMK HIM HCJ
            obtain ⟨j, hj, rfl, n0, met, L, hca, him, hcj, hmk⟩ := hrel
            have x12 := (HB12.out.ch hcj (by simp)).cell (i := 0) rfl
            have hBB := HBB4.out.same hcj
            have ⟨x0, x1, x2⟩ := blk3 hBB.bk
            by_cases hj1 : 1 ≤ j
            · obtain ⟨i, rfl⟩ : ∃ i, j = i + 1 := ⟨j - 1, by omega⟩
              clear hj1
              obtain ⟨d, hd⟩ : ∃ d, (cone b.G.nodes (rootsOf b.refs bs m))[i]? = some d := ⟨_, List.getElem?_eq_getElem (by rw [HCL.out]; omega)⟩
              have hD := cone_at hd
              rw [HCL.out] at hD
              obtain ⟨hdn, hdm, hnext⟩ := hca.next HWF.out hD
              rw [show cl - (i + 1) + 1 = cl - i by omega] at hnext
              have hdl : d < b.G.nodes.length := by
                rw [← hca.len]
                rcases Nat.lt_or_ge d met.length with h | h
                · exact h
                · rw [List.getD_eq_getElem?_getD, List.getElem?_eq_none h] at hdm; cases hdm
              obtain ⟨x, hx⟩ : ∃ x, b.G.nodes[d]? = some x := ⟨_, List.getElem?_eq_getElem hdl⟩
              have hN := node_is hx
              obtain ⟨yb, yo, rfl, c1⟩ := (HSLC.out.ch hcj (by simp)).cells i (d : Int) (by rw [List.getElem?_map, hd]; rfl)
              have hS := Sides_g (hBB.same ((Ch.refl [] wr).drew.drew)).bm.own.gin (2 * (d : Int)) (by omega)
              rw [hN.l, hN.r, hN.is] at hS
              have hlk := (him.of_heap (w' := wr.drew) rfl).lookup (T := 75) Try.underlying75 Try.underlying3 zeroInt d
              rw [if_pos ((hmk d).2 hdm)] at hlk
              have hmk' := fun q => (stepMet_getD HWF.out hca.len (d := d) q)
              have HNX := Lib.hid hnext; clear hnext
              have HMK' := Lib.hid hmk'; clear hmk'
              have HS2 := Lib.hid hS; clear hS
              have HN := Lib.hid hN; clear hN
              have HX := Lib.hid hx; clear hx
              have HCA := Lib.hid hca; clear hca
              have HMK := Lib.hid hmk; clear hmk
              have HIM := Lib.hid him; clear him
              have HCJ := Lib.hid hcj; clear hcj
              have HBB := Lib.hid hBB; clear hBB
              have HD := Lib.hid hd; clear hd
              clear hD hdm hdn
              rw [show ((i + 1 : Nat) : Int) - 1 = (i : Int) by omega]
              by_cases hi0 : i = 0
              · have hg : decide (0 < i) = false := decide_eq_false (by omega)
                clear hi0
                go_wp2_with fail
                refine Ord.St.door (fun _ => True) [.fl, .fl, .fl, .rd, .fl, .fl, .fl, .rd, .rd, .fl, .fl, .rd, .fl, .fl, .fl, .fl, .rd, .fl, .fl, .rd, .rd, .fl, .fl] [0, 1, 3, 7, 7, 23, 63, 127, 7, 7, 775, 1799, 4095, 8191, 16383, 32767, 32767, 32767, 229375, 491519, 1048575, 2097151, 4194303] [0, 1, 2, 3, 4, 5, 6, 7, 8, 9, 10, 11, 12, 13, 14, 15, 16, 17, 18, 19, 20, 21, 22] mixed (by kernel_rfl) rfl ?_
                refine Ord.St.fl2 (T' := ?_) 0 [1, 2, 3, 4, 5, 6, 7, 8, 9, 10, 11, 12, 13, 14, 15, 16, 17, 18, 19, 20, 21, 22] _ _ rfl (by kernel_rfl) rfl rfl rfl rfl (fun K w' hk => ?_) ?_
                rotate_left
                · go_step; exact hk
                refine Ord.St.fl2 (T' := ?_) 1 [2, 3, 4, 5, 6, 7, 8, 9, 10, 11, 12, 13, 14, 15, 16, 17, 18, 19, 20, 21, 22] _ _ rfl (by kernel_rfl) rfl rfl rfl rfl (fun K w' hk => ?_) ?_
                rotate_left
                · go_step; exact hk
                refine Ord.St.fl2 (T' := ?_) 2 [3, 4, 5, 6, 7, 8, 9, 10, 11, 12, 13, 14, 15, 16, 17, 18, 19, 20, 21, 22] _ _ rfl (by kernel_rfl) rfl rfl rfl rfl (fun K w' hk => ?_) ?_
                rotate_left
                · go_step; exact hk
                first | (refine Ord.St.rd2 (T' := ?_) 3 [4, 5, 6, 7, 8, 9, 10, 11, 12, 13, 14, 15, 16, 17, 18, 19, 20, 21, 22] _ _ rfl (by kernel_rfl) ?_ rfl rfl rfl (fun K hk => ?_) ?_; rotate_left; (first | rfl | (simp [Region.wanted, yielded, *]; done)); focus (go_step; exact hk)) | (refine Ord.St.skipr 3 [4, 5, 6, 7, 8, 9, 10, 11, 12, 13, 14, 15, 16, 17, 18, 19, 20, 21, 22] _ rfl (by kernel_rfl) ?_ (fun K hK => ?_); (first | rfl | (simp [Region.wanted, yielded, *]; done)); go_simp; refine hK _ ?_; clear hK K)
                first | (refine Ord.St.fl2 (T' := ?_) 4 [5, 6, 7, 8, 9, 10, 11, 12, 13, 14, 15, 16, 17, 18, 19, 20, 21, 22] _ _ rfl (by kernel_rfl) ?_ rfl rfl rfl (fun K w' hk => ?_) ?_; rotate_left; (first | rfl | (simp [Region.wanted, yielded, *]; done)); focus (go_step; exact hk)) | (refine Ord.St.skip 4 [5, 6, 7, 8, 9, 10, 11, 12, 13, 14, 15, 16, 17, 18, 19, 20, 21, 22] _ rfl (by kernel_rfl) ?_ (fun K hK => ?_); (first | rfl | (simp [Region.wanted, yielded, *]; done)); go_simp; refine hK _ ?_; clear hK K)
                first | (refine Ord.St.fl2 (T' := ?_) 5 [6, 7, 8, 9, 10, 11, 12, 13, 14, 15, 16, 17, 18, 19, 20, 21, 22] _ _ rfl (by kernel_rfl) ?_ rfl rfl rfl (fun K w' hk => ?_) ?_; rotate_left; (first | rfl | (simp [Region.wanted, yielded, *]; done)); focus (go_step; exact hk)) | (refine Ord.St.skip 5 [6, 7, 8, 9, 10, 11, 12, 13, 14, 15, 16, 17, 18, 19, 20, 21, 22] _ rfl (by kernel_rfl) ?_ (fun K hK => ?_); (first | rfl | (simp [Region.wanted, yielded, *]; done)); go_simp; refine hK _ ?_; clear hK K)
                first | (refine Ord.St.fl2 (T' := ?_) 6 [7, 8, 9, 10, 11, 12, 13, 14, 15, 16, 17, 18, 19, 20, 21, 22] _ _ rfl (by kernel_rfl) ?_ rfl rfl rfl (fun K w' hk => ?_) ?_; rotate_left; (first | rfl | (simp [Region.wanted, yielded, *]; done)); focus (go_step; exact hk)) | (refine Ord.St.skip 6 [7, 8, 9, 10, 11, 12, 13, 14, 15, 16, 17, 18, 19, 20, 21, 22] _ rfl (by kernel_rfl) ?_ (fun K hK => ?_); (first | rfl | (simp [Region.wanted, yielded, *]; done)); go_simp; refine hK _ ?_; clear hK K)
                first | (refine Ord.St.rd2 (T' := ?_) 7 [8, 9, 10, 11, 12, 13, 14, 15, 16, 17, 18, 19, 20, 21, 22] _ _ rfl (by kernel_rfl) ?_ rfl rfl rfl (fun K hk => ?_) ?_; rotate_left; (first | rfl | (simp [Region.wanted, yielded, *]; done)); focus (go_step; exact hk)) | (refine Ord.St.skipr 7 [8, 9, 10, 11, 12, 13, 14, 15, 16, 17, 18, 19, 20, 21, 22] _ rfl (by kernel_rfl) ?_ (fun K hK => ?_); (first | rfl | (simp [Region.wanted, yielded, *]; done)); go_simp; refine hK _ ?_; clear hK K)
                first | (refine Ord.St.rd2 (T' := ?_) 8 [9, 10, 11, 12, 13, 14, 15, 16, 17, 18, 19, 20, 21, 22] _ _ rfl (by kernel_rfl) ?_ rfl rfl rfl (fun K hk => ?_) ?_; rotate_left; (first | rfl | (simp [Region.wanted, yielded, *]; done)); focus (go_step; exact hk)) | (refine Ord.St.skipr 8 [9, 10, 11, 12, 13, 14, 15, 16, 17, 18, 19, 20, 21, 22] _ rfl (by kernel_rfl) ?_ (fun K hK => ?_); (first | rfl | (simp [Region.wanted, yielded, *]; done)); go_simp; refine hK _ ?_; clear hK K)
                first | (refine Ord.St.fl2 (T' := ?_) 9 [10, 11, 12, 13, 14, 15, 16, 17, 18, 19, 20, 21, 22] _ _ rfl (by kernel_rfl) ?_ rfl rfl rfl (fun K w' hk => ?_) ?_; rotate_left; (first | rfl | (simp [Region.wanted, yielded, *]; done)); focus (go_step; exact hk)) | (refine Ord.St.skip 9 [10, 11, 12, 13, 14, 15, 16, 17, 18, 19, 20, 21, 22] _ rfl (by kernel_rfl) ?_ (fun K hK => ?_); (first | rfl | (simp [Region.wanted, yielded, *]; done)); go_simp; refine hK _ ?_; clear hK K)
                first | (refine Ord.St.fl2 (T' := ?_) 10 [11, 12, 13, 14, 15, 16, 17, 18, 19, 20, 21, 22] _ _ rfl (by kernel_rfl) ?_ rfl rfl rfl (fun K w' hk => ?_) ?_; rotate_left; (first | rfl | (simp [Region.wanted, yielded, *]; done)); focus (go_step; exact hk)) | (refine Ord.St.skip 10 [11, 12, 13, 14, 15, 16, 17, 18, 19, 20, 21, 22] _ rfl (by kernel_rfl) ?_ (fun K hK => ?_); (first | rfl | (simp [Region.wanted, yielded, *]; done)); go_simp; refine hK _ ?_; clear hK K)
                first | (refine Ord.St.rd2 (T' := ?_) 11 [12, 13, 14, 15, 16, 17, 18, 19, 20, 21, 22] _ _ rfl (by kernel_rfl) ?_ rfl rfl rfl (fun K hk => ?_) ?_; rotate_left; (first | rfl | (simp [Region.wanted, yielded, *]; done)); focus (go_step; exact hk)) | (refine Ord.St.skipr 11 [12, 13, 14, 15, 16, 17, 18, 19, 20, 21, 22] _ rfl (by kernel_rfl) ?_ (fun K hK => ?_); (first | rfl | (simp [Region.wanted, yielded, *]; done)); go_simp; refine hK _ ?_; clear hK K)
                first | (refine Ord.St.fl2 (T' := ?_) 12 [13, 14, 15, 16, 17, 18, 19, 20, 21, 22] _ _ rfl (by kernel_rfl) ?_ rfl rfl rfl (fun K w' hk => ?_) ?_; rotate_left; (first | rfl | (simp [Region.wanted, yielded, *]; done)); focus (go_step; exact hk)) | (refine Ord.St.skip 12 [13, 14, 15, 16, 17, 18, 19, 20, 21, 22] _ rfl (by kernel_rfl) ?_ (fun K hK => ?_); (first | rfl | (simp [Region.wanted, yielded, *]; done)); go_simp; refine hK _ ?_; clear hK K)
                refine Ord.St.fl2 (T' := ?_) 13 [14, 15, 16, 17, 18, 19, 20, 21, 22] _ _ rfl (by kernel_rfl) rfl rfl rfl rfl (fun K w' hk => ?_) ?_
                rotate_left
                · go_step; exact hk
                refine Ord.St.fl2 (T' := ?_) 14 [15, 16, 17, 18, 19, 20, 21, 22] _ _ rfl (by kernel_rfl) rfl rfl rfl rfl (fun K w' hk => ?_) ?_
                rotate_left
                · go_step; exact hk
                first | (refine Ord.St.fl2 (T' := ?_) 15 [16, 17, 18, 19, 20, 21, 22] _ _ rfl (by kernel_rfl) ?_ rfl rfl rfl (fun K w' hk => ?_) ?_; rotate_left; (first | rfl | (simp [Region.wanted, yielded, *]; done)); focus (go_step; exact hk)) | (refine Ord.St.skip 15 [16, 17, 18, 19, 20, 21, 22] _ rfl (by kernel_rfl) ?_ (fun K hK => ?_); (first | rfl | (simp [Region.wanted, yielded, *]; done)); go_simp; refine hK _ ?_; clear hK K)
                first | (refine Ord.St.rd2 (T' := ?_) 16 [17, 18, 19, 20, 21, 22] _ _ rfl (by kernel_rfl) ?_ rfl rfl rfl (fun K hk => ?_) ?_; rotate_left; (first | rfl | (simp [Region.wanted, yielded, *]; done)); focus (go_step; exact hk)) | (refine Ord.St.skipr 16 [17, 18, 19, 20, 21, 22] _ rfl (by kernel_rfl) ?_ (fun K hK => ?_); (first | rfl | (simp [Region.wanted, yielded, *]; done)); go_simp; refine hK _ ?_; clear hK K)
                first | (refine Ord.St.fl2 (T' := ?_) 17 [18, 19, 20, 21, 22] _ _ rfl (by kernel_rfl) ?_ rfl rfl rfl (fun K w' hk => ?_) ?_; rotate_left; (first | rfl | (simp [Region.wanted, yielded, *]; done)); focus (go_step; exact hk)) | (refine Ord.St.skip 17 [18, 19, 20, 21, 22] _ rfl (by kernel_rfl) ?_ (fun K hK => ?_); (first | rfl | (simp [Region.wanted, yielded, *]; done)); go_simp; refine hK _ ?_; clear hK K)
                first | (refine Ord.St.fl2 (T' := ?_) 18 [19, 20, 21, 22] _ _ rfl (by kernel_rfl) ?_ rfl rfl rfl (fun K w' hk => ?_) ?_; rotate_left; (first | rfl | (simp [Region.wanted, yielded, *]; done)); focus (go_step; exact hk)) | (refine Ord.St.skip 18 [19, 20, 21, 22] _ rfl (by kernel_rfl) ?_ (fun K hK => ?_); (first | rfl | (simp [Region.wanted, yielded, *]; done)); go_simp; refine hK _ ?_; clear hK K)
                first | (refine Ord.St.rd2 (T' := ?_) 19 [20, 21, 22] _ _ rfl (by kernel_rfl) ?_ rfl rfl rfl (fun K hk => ?_) ?_; rotate_left; (first | rfl | (simp [Region.wanted, yielded, *]; done)); focus (go_step; exact hk)) | (refine Ord.St.skipr 19 [20, 21, 22] _ rfl (by kernel_rfl) ?_ (fun K hK => ?_); (first | rfl | (simp [Region.wanted, yielded, *]; done)); go_simp; refine hK _ ?_; clear hK K)
                first | (refine Ord.St.rd2 (T' := ?_) 20 [21, 22] _ _ rfl (by kernel_rfl) ?_ rfl rfl rfl (fun K hk => ?_) ?_; rotate_left; (first | rfl | (simp [Region.wanted, yielded, *]; done)); focus (go_step; exact hk)) | (refine Ord.St.skipr 20 [21, 22] _ rfl (by kernel_rfl) ?_ (fun K hK => ?_); (first | rfl | (simp [Region.wanted, yielded, *]; done)); go_simp; refine hK _ ?_; clear hK K)
                first | (refine Ord.St.fl2 (T' := ?_) 21 [22] _ _ rfl (by kernel_rfl) ?_ rfl rfl rfl (fun K w' hk => ?_) ?_; rotate_left; (first | rfl | (simp [Region.wanted, yielded, *]; done)); focus (go_step; exact hk)) | (refine Ord.St.skip 21 [22] _ rfl (by kernel_rfl) ?_ (fun K hK => ?_); (first | rfl | (simp [Region.wanted, yielded, *]; done)); go_simp; refine hK _ ?_; clear hK K)
                refine Ord.St.fl2 (T' := ?_) 22 [] _ _ rfl (by kernel_rfl) rfl rfl rfl rfl (fun K w' hk => ?_) ?_
                rotate_left
                · go_step; exact hk
                refine Ord.St.nil ?_
                try clear e1
                go_wp2_with fail
                by_cases h3 : x.k = 3
                · obtain ⟨s1, s2, s3, s4, s5⟩ := HWF.out.sides HX.out h3
                  have HS5 := Lib.hid s5; clear s5
                  have hs := HS2.out
                  rw [if_pos h3, if_pos h3, show (x.k == 3) = true by simp [h3]] at hs
                  have HS3 := Lib.hid hs; clear hs HS2
                  refine Ord.St.door (fun _ => True) [.fl, .rd, .rd, .fl, .fl, .rd, .fl, .ef, .fl, .fl, .fl, .fl, .fl, .fl, .fl] [0, 1, 0, 0, 12, 28, 60, 127, 255, 511, 511, 511, 1023, 6143, 16383] [0, 1, 2, 3, 4, 5, 6, 7, 8, 9, 10, 11, 12, 13, 14] mixed (by kernel_rfl) rfl ?_
                  refine Ord.St.fl2 (T' := ?_) 0 [1, 2, 3, 4, 5, 6, 7, 8, 9, 10, 11, 12, 13, 14] _ _ rfl (by kernel_rfl) rfl rfl rfl rfl (fun K w' hk => ?_) ?_
                  rotate_left
                  · go_step; exact hk
                  refine Ord.St.rd2 (T' := ?_) 1 [2, 3, 4, 5, 6, 7, 8, 9, 10, 11, 12, 13, 14] _ _ rfl (by kernel_rfl) rfl rfl rfl rfl (fun K hk => ?_) ?_
                  rotate_left
                  · go_step; exact hk
                  refine Ord.St.rd2 (T' := ?_) 2 [3, 4, 5, 6, 7, 8, 9, 10, 11, 12, 13, 14] _ _ rfl (by kernel_rfl) rfl rfl rfl rfl (fun K hk => ?_) ?_
                  rotate_left
                  · go_step; exact hk
                  refine Ord.St.fl2 (T' := ?_) 3 [4, 5, 6, 7, 8, 9, 10, 11, 12, 13, 14] _ _ rfl (by kernel_rfl) rfl rfl rfl rfl (fun K w' hk => ?_) ?_
                  rotate_left
                  · go_step; exact hk
                  refine Ord.St.fl2 (T' := ?_) 4 [5, 6, 7, 8, 9, 10, 11, 12, 13, 14] _ _ rfl (by kernel_rfl) rfl rfl rfl rfl (fun K w' hk => ?_) ?_
                  rotate_left
                  · go_step; exact hk
                  refine Ord.St.rd2 (T' := ?_) 5 [6, 7, 8, 9, 10, 11, 12, 13, 14] _ _ rfl (by kernel_rfl) rfl rfl rfl rfl (fun K hk => ?_) ?_
                  rotate_left
                  · go_step; exact hk
                  refine Ord.St.fl2 (T' := ?_) 6 [7, 8, 9, 10, 11, 12, 13, 14] _ _ rfl (by kernel_rfl) rfl rfl rfl rfl (fun K w' hk => ?_) ?_
                  rotate_left
                  · go_step; exact hk
                  refine Ord.St.ef 7 [8, 9, 10, 11, 12, 13, 14] _ rfl (by kernel_rfl) (fun K hK => ?_)
                  go_wp2_with fail
                  refine HS3.out.mono ?_
                  rintro e w5 ⟨rfl, hc5⟩
                  have hC5 : Ch [] wr w5 := ((Ch.refl [] wr).drew.drew).trans hc5 (by simp)
                  have y0 := (hC5.cell (cell_lt x0) (by simp)).trans x0
                  have y12 := (hC5.cell (cell_lt x12) (by simp)).trans x12
                  have z1 := (hC5.cell (cell_lt c1) (by simp)).trans c1
                  clear x0 x1 x2 x12 c1 hc5 HS3 hlk
                  have HC5 := Lib.hid hC5; clear hC5
                  go_wp2_with fail
                  refine ⟨rfl, hK _ _ ?_⟩; clear hK K
                  refine Ord.St.fl2 (T' := ?_) 8 [9, 10, 11, 12, 13, 14] _ _ rfl (by kernel_rfl) rfl rfl rfl rfl (fun K w' hk => ?_) ?_
                  rotate_left
                  · go_step; exact hk
                  refine Ord.St.fl2 (T' := ?_) 9 [10, 11, 12, 13, 14] _ _ rfl (by kernel_rfl) rfl rfl rfl rfl (fun K w' hk => ?_) ?_
                  rotate_left
                  · go_step; exact hk
                  refine Ord.St.fl2 (T' := ?_) 10 [11, 12, 13, 14] _ _ rfl (by kernel_rfl) rfl rfl rfl rfl (fun K w' hk => ?_) ?_
                  rotate_left
                  · go_step; exact hk
                  refine Ord.St.fl2 (T' := ?_) 11 [12, 13, 14] _ _ rfl (by kernel_rfl) rfl rfl rfl rfl (fun K w' hk => ?_) ?_
                  rotate_left
                  · go_step; exact hk
                  refine Ord.St.fl2 (T' := ?_) 12 [13, 14] _ _ rfl (by kernel_rfl) rfl rfl rfl rfl (fun K w' hk => ?_) ?_
                  rotate_left
                  · go_step; exact hk
                  refine Ord.St.fl2 (T' := ?_) 13 [14] _ _ rfl (by kernel_rfl) rfl rfl rfl rfl (fun K w' hk => ?_) ?_
                  rotate_left
                  · go_step; exact hk
                  refine Ord.St.fl2 (T' := ?_) 14 [] _ _ rfl (by kernel_rfl) rfl rfl rfl rfl (fun K w' hk => ?_) ?_
                  rotate_left
                  · go_step; exact hk
                  refine Ord.St.nil ?_
                  have hB5 := HBB.out.same HC5.out.drew
                  have hD2 := Depth_g hB5.bm.own.gin (2 * (d : Int) + 1) (by omega)
                  rw [HN.out.dep, HN.out.err] at hD2
                  have HD2 := Lib.hid hD2; clear hD2 hB5
                  go_wp2_with fail
                  refine Ord.St.door (fun _ => True) [.fl, .rd, .rd, .fl, .fl, .rd, .fl, .fl, .rd, .fl, .fl, .fl, .fl, .fl] [0, 1, 0, 0, 12, 28, 60, 124, 255, 511, 1023, 1023, 2047, 8191] [0, 1, 2, 3, 4, 5, 6, 7, 8, 9, 10, 11, 12, 13] mixed (by kernel_rfl) rfl ?_
                  refine Ord.St.fl2 (T' := ?_) 0 [1, 2, 3, 4, 5, 6, 7, 8, 9, 10, 11, 12, 13] _ _ rfl (by kernel_rfl) rfl rfl rfl rfl (fun K w' hk => ?_) ?_
                  rotate_left
                  · go_step; exact hk
                  refine Ord.St.rd2 (T' := ?_) 1 [2, 3, 4, 5, 6, 7, 8, 9, 10, 11, 12, 13] _ _ rfl (by kernel_rfl) rfl rfl rfl rfl (fun K hk => ?_) ?_
                  rotate_left
                  · go_step; exact hk
                  refine Ord.St.rd2 (T' := ?_) 2 [3, 4, 5, 6, 7, 8, 9, 10, 11, 12, 13] _ _ rfl (by kernel_rfl) rfl rfl rfl rfl (fun K hk => ?_) ?_
                  rotate_left
                  · go_step; exact hk
                  refine Ord.St.fl2 (T' := ?_) 3 [4, 5, 6, 7, 8, 9, 10, 11, 12, 13] _ _ rfl (by kernel_rfl) rfl rfl rfl rfl (fun K w' hk => ?_) ?_
                  rotate_left
                  · go_step; exact hk
                  refine Ord.St.fl2 (T' := ?_) 4 [5, 6, 7, 8, 9, 10, 11, 12, 13] _ _ rfl (by kernel_rfl) rfl rfl rfl rfl (fun K w' hk => ?_) ?_
                  rotate_left
                  · go_step; exact hk
                  refine Ord.St.rd2 (T' := ?_) 5 [6, 7, 8, 9, 10, 11, 12, 13] _ _ rfl (by kernel_rfl) rfl rfl rfl rfl (fun K hk => ?_) ?_
                  rotate_left
                  · go_step; exact hk
                  refine Ord.St.fl2 (T' := ?_) 6 [7, 8, 9, 10, 11, 12, 13] _ _ rfl (by kernel_rfl) rfl rfl rfl rfl (fun K w' hk => ?_) ?_
                  rotate_left
                  · go_step; exact hk
                  refine Ord.St.fl2 (T' := ?_) 7 [8, 9, 10, 11, 12, 13] _ _ rfl (by kernel_rfl) rfl rfl rfl rfl (fun K w' hk => ?_) ?_
                  rotate_left
                  · go_step; exact hk
                  refine Ord.St.rd2 (T' := ?_) 8 [9, 10, 11, 12, 13] _ _ rfl (by kernel_rfl) rfl rfl rfl rfl (fun K hk => ?_) ?_
                  rotate_left
                  · go_step; refine HD2.out.mono ?_; rintro e w' ⟨rfl, rfl⟩; exact hk
                  refine Ord.St.fl2 (T' := ?_) 9 [10, 11, 12, 13] _ _ rfl (by kernel_rfl) rfl rfl rfl rfl (fun K w' hk => ?_) ?_
                  rotate_left
                  · go_step; exact hk
                  refine Ord.St.fl2 (T' := ?_) 10 [11, 12, 13] _ _ rfl (by kernel_rfl) rfl rfl rfl rfl (fun K w' hk => ?_) ?_
                  rotate_left
                  · go_step; exact hk
                  refine Ord.St.fl2 (T' := ?_) 11 [12, 13] _ _ rfl (by kernel_rfl) rfl rfl rfl rfl (fun K w' hk => ?_) ?_
                  rotate_left
                  · go_step; exact hk
                  refine Ord.St.fl2 (T' := ?_) 12 [13] _ _ rfl (by kernel_rfl) rfl rfl rfl rfl (fun K w' hk => ?_) ?_
                  rotate_left
                  · go_step; exact hk
                  refine Ord.St.fl2 (T' := ?_) 13 [] _ _ rfl (by kernel_rfl) rfl rfl rfl rfl (fun K w' hk => ?_) ?_
                  rotate_left
                  · go_step; exact hk
                  refine Ord.St.nil ?_
                  have him5 := HIM.out.ch HC5.out.drew (by simp)
                  obtain ⟨W6, hup, hc6, him6⟩ := IMap.set (P := Try.prog) (T := 75) (K := 3) (E := 3) Try.underlying75 Try.underlying3 him5 (x.l / 2)
                  obtain ⟨W7, hup2, hc7, him7⟩ := IMap.set (P := Try.prog) (T := 75) (K := 3) (E := 3) Try.underlying75 Try.underlying3 him6 (x.r / 2)
                  rw [show ((x.l / 2 : Nat) : Int) = (x.l : Int) / 2 by omega] at hup
                  rw [show ((x.r / 2 : Nat) : Int) = (x.r : Int) / 2 by omega] at hup2
                  have hC47 : Ch [] w4 W7 := ((HCJ.out.trans HC5.out.drew (by simp)).trans hc6 (by simp)).trans hc7 (by simp)
                  have hB7 := HBB4.out.same hC47
                  have hxl := dep_is (ns := b.G.nodes) (r := x.l) (by omega)
                  have hxr := dep_is (ns := b.G.nodes) (r := x.r) (by omega)
                  have hD3 := Depth_g hB7.bm.own.gin (x.l : Int) (by omega)
                  have hD4 := Depth_g hB7.bm.own.gin (x.r : Int) (by omega)
                  rw [hxl.1, hxl.2] at hD3
                  rw [hxr.1, hxr.2] at hD4
                  have ⟨v0, v1, v2⟩ := blk3 hB7.bk
                  have HD3 := Lib.hid hD3; clear hD3
                  have HD4 := Lib.hid hD4; clear hD4
                  have HIM7 := Lib.hid him7; clear him7 him6 him5
                  have HC47 := Lib.hid hC47; clear hC47 hc6 hc7 hB7 hxl hxr
                  have hdb1 : dep b.G.nodes x.l < b.G.nodes.length := HWF.out.dep_le (by omega)
                  have hdb2 : dep b.G.nodes x.r < b.G.nodes.length := HWF.out.dep_le (by omega)
                  generalize dep b.G.nodes x.l = dl at *
                  generalize dep b.G.nodes x.r = dr at *
                  obtain ⟨M, hM⟩ : ∃ M, max dl dr = M := ⟨_, rfl⟩
                  have hmxx : ∀ (ats : Array TypeId) (ty : TypeId), Builtin.max_ ats ty #[.int .i64 (dl : Int), .int .i64 (dr : Int)] = pure (.int .i64 (M : Nat)) := fun ats ty => max_nat dl dr M hM ats ty
                  have hMb : M < 65536 := by omega
                  have hne : ((x.d : Int) != 1 + (M : Int)) = false := by rw [HS5.out, hM]; simp
                  clear hM HS5 hdb1 hdb2
                  go_wp2_with fail
                  refine HD3.out.mono ?_
                  rintro e w' ⟨rfl, rfl⟩
                  go_wp2_with fail
                  refine HD4.out.mono ?_
                  rintro e w' ⟨rfl, rfl⟩
                  clear hup hup2
                  go_wp2_with fail
                  go_roundw
                  case rel =>
                    refine ⟨i, by omega, rfl, _, _, _, HNX.out, HIM7.out, HC47.out, fun q => ?_⟩
                    rw [mem_add, mem_add, HMK.out q, HMK'.out q, or_assoc]
                    refine or_congr_right ⟨fun h => ⟨x, HX.out, h3, h⟩, ?_⟩
                    rintro ⟨y, hy, _, h⟩
                    rw [HX.out] at hy; cases hy
                    exact h
                  case measure => simp [intOf]
                · have hs := HS2.out
                  rw [if_neg h3, if_neg h3, show (x.k == 3) = false by simp [h3]] at hs
                  have HS3 := Lib.hid hs; clear hs HS2
                  have hxd := leaf_d HWF.out HX.out h3
                  refine Ord.St.door (fun _ => True) [.fl, .rd, .rd, .fl, .fl, .rd, .fl, .ef, .fl, .fl, .fl, .fl, .fl, .fl, .fl] [0, 1, 0, 0, 12, 28, 60, 127, 255, 511, 511, 511, 1023, 6143, 16383] [0, 1, 2, 3, 4, 5, 6, 7, 8, 9, 10, 11, 12, 13, 14] mixed (by kernel_rfl) rfl ?_
                  refine Ord.St.fl2 (T' := ?_) 0 [1, 2, 3, 4, 5, 6, 7, 8, 9, 10, 11, 12, 13, 14] _ _ rfl (by kernel_rfl) rfl rfl rfl rfl (fun K w' hk => ?_) ?_
                  rotate_left
                  · go_step; exact hk
                  refine Ord.St.rd2 (T' := ?_) 1 [2, 3, 4, 5, 6, 7, 8, 9, 10, 11, 12, 13, 14] _ _ rfl (by kernel_rfl) rfl rfl rfl rfl (fun K hk => ?_) ?_
                  rotate_left
                  · go_step; exact hk
                  refine Ord.St.rd2 (T' := ?_) 2 [3, 4, 5, 6, 7, 8, 9, 10, 11, 12, 13, 14] _ _ rfl (by kernel_rfl) rfl rfl rfl rfl (fun K hk => ?_) ?_
                  rotate_left
                  · go_step; exact hk
                  refine Ord.St.fl2 (T' := ?_) 3 [4, 5, 6, 7, 8, 9, 10, 11, 12, 13, 14] _ _ rfl (by kernel_rfl) rfl rfl rfl rfl (fun K w' hk => ?_) ?_
                  rotate_left
                  · go_step; exact hk
                  refine Ord.St.fl2 (T' := ?_) 4 [5, 6, 7, 8, 9, 10, 11, 12, 13, 14] _ _ rfl (by kernel_rfl) rfl rfl rfl rfl (fun K w' hk => ?_) ?_
                  rotate_left
                  · go_step; exact hk
                  refine Ord.St.rd2 (T' := ?_) 5 [6, 7, 8, 9, 10, 11, 12, 13, 14] _ _ rfl (by kernel_rfl) rfl rfl rfl rfl (fun K hk => ?_) ?_
                  rotate_left
                  · go_step; exact hk
                  refine Ord.St.fl2 (T' := ?_) 6 [7, 8, 9, 10, 11, 12, 13, 14] _ _ rfl (by kernel_rfl) rfl rfl rfl rfl (fun K w' hk => ?_) ?_
                  rotate_left
                  · go_step; exact hk
                  refine Ord.St.ef 7 [8, 9, 10, 11, 12, 13, 14] _ rfl (by kernel_rfl) (fun K hK => ?_)
                  go_wp2_with fail
                  refine HS3.out.mono ?_
                  rintro e w5 ⟨rfl, hc5⟩
                  have hC5 : Ch [] wr w5 := ((Ch.refl [] wr).drew.drew).trans hc5 (by simp)
                  have y0 := (hC5.cell (cell_lt x0) (by simp)).trans x0
                  have y12 := (hC5.cell (cell_lt x12) (by simp)).trans x12
                  have z1 := (hC5.cell (cell_lt c1) (by simp)).trans c1
                  clear x0 x1 x2 x12 c1 hc5 HS3 hlk
                  have HC5 := Lib.hid hC5; clear hC5
                  go_wp2_with fail
                  refine ⟨rfl, hK _ _ ?_⟩; clear hK K
                  refine Ord.St.fl2 (T' := ?_) 8 [9, 10, 11, 12, 13, 14] _ _ rfl (by kernel_rfl) rfl rfl rfl rfl (fun K w' hk => ?_) ?_
                  rotate_left
                  · go_step; exact hk
                  refine Ord.St.fl2 (T' := ?_) 9 [10, 11, 12, 13, 14] _ _ rfl (by kernel_rfl) rfl rfl rfl rfl (fun K w' hk => ?_) ?_
                  rotate_left
                  · go_step; exact hk
                  refine Ord.St.fl2 (T' := ?_) 10 [11, 12, 13, 14] _ _ rfl (by kernel_rfl) rfl rfl rfl rfl (fun K w' hk => ?_) ?_
                  rotate_left
                  · go_step; exact hk
                  refine Ord.St.fl2 (T' := ?_) 11 [12, 13, 14] _ _ rfl (by kernel_rfl) rfl rfl rfl rfl (fun K w' hk => ?_) ?_
                  rotate_left
                  · go_step; exact hk
                  refine Ord.St.fl2 (T' := ?_) 12 [13, 14] _ _ rfl (by kernel_rfl) rfl rfl rfl rfl (fun K w' hk => ?_) ?_
                  rotate_left
                  · go_step; exact hk
                  refine Ord.St.fl2 (T' := ?_) 13 [14] _ _ rfl (by kernel_rfl) rfl rfl rfl rfl (fun K w' hk => ?_) ?_
                  rotate_left
                  · go_step; exact hk
                  refine Ord.St.fl2 (T' := ?_) 14 [] _ _ rfl (by kernel_rfl) rfl rfl rfl rfl (fun K w' hk => ?_) ?_
                  rotate_left
                  · go_step; exact hk
                  refine Ord.St.nil ?_
                  have hB5 := HBB.out.same HC5.out.drew
                  have hD2 := Depth_g hB5.bm.own.gin (2 * (d : Int) + 1) (by omega)
                  rw [HN.out.dep, HN.out.err, hxd] at hD2
                  have HD2 := Lib.hid hD2; clear hD2 hB5
                  clear hxd
                  go_wp2_with fail
                  refine Ord.St.door (fun _ => True) [.fl, .rd, .rd, .fl, .fl, .rd, .fl, .fl, .rd, .fl, .fl, .fl, .fl, .fl] [0, 1, 0, 0, 12, 28, 60, 124, 255, 511, 1023, 1023, 2047, 8191] [0, 1, 2, 3, 4, 5, 6, 7, 8, 9, 10, 11, 12, 13] mixed (by kernel_rfl) rfl ?_
                  refine Ord.St.fl2 (T' := ?_) 0 [1, 2, 3, 4, 5, 6, 7, 8, 9, 10, 11, 12, 13] _ _ rfl (by kernel_rfl) rfl rfl rfl rfl (fun K w' hk => ?_) ?_
                  rotate_left
                  · go_step; exact hk
                  refine Ord.St.rd2 (T' := ?_) 1 [2, 3, 4, 5, 6, 7, 8, 9, 10, 11, 12, 13] _ _ rfl (by kernel_rfl) rfl rfl rfl rfl (fun K hk => ?_) ?_
                  rotate_left
                  · go_step; exact hk
                  refine Ord.St.rd2 (T' := ?_) 2 [3, 4, 5, 6, 7, 8, 9, 10, 11, 12, 13] _ _ rfl (by kernel_rfl) rfl rfl rfl rfl (fun K hk => ?_) ?_
                  rotate_left
                  · go_step; exact hk
                  refine Ord.St.fl2 (T' := ?_) 3 [4, 5, 6, 7, 8, 9, 10, 11, 12, 13] _ _ rfl (by kernel_rfl) rfl rfl rfl rfl (fun K w' hk => ?_) ?_
                  rotate_left
                  · go_step; exact hk
                  refine Ord.St.fl2 (T' := ?_) 4 [5, 6, 7, 8, 9, 10, 11, 12, 13] _ _ rfl (by kernel_rfl) rfl rfl rfl rfl (fun K w' hk => ?_) ?_
                  rotate_left
                  · go_step; exact hk
                  refine Ord.St.rd2 (T' := ?_) 5 [6, 7, 8, 9, 10, 11, 12, 13] _ _ rfl (by kernel_rfl) rfl rfl rfl rfl (fun K hk => ?_) ?_
                  rotate_left
                  · go_step; exact hk
                  refine Ord.St.fl2 (T' := ?_) 6 [7, 8, 9, 10, 11, 12, 13] _ _ rfl (by kernel_rfl) rfl rfl rfl rfl (fun K w' hk => ?_) ?_
                  rotate_left
                  · go_step; exact hk
                  refine Ord.St.fl2 (T' := ?_) 7 [8, 9, 10, 11, 12, 13] _ _ rfl (by kernel_rfl) rfl rfl rfl rfl (fun K w' hk => ?_) ?_
                  rotate_left
                  · go_step; exact hk
                  refine Ord.St.rd2 (T' := ?_) 8 [9, 10, 11, 12, 13] _ _ rfl (by kernel_rfl) rfl rfl rfl rfl (fun K hk => ?_) ?_
                  rotate_left
                  · go_step; refine HD2.out.mono ?_; rintro e w' ⟨rfl, rfl⟩; exact hk
                  refine Ord.St.fl2 (T' := ?_) 9 [10, 11, 12, 13] _ _ rfl (by kernel_rfl) rfl rfl rfl rfl (fun K w' hk => ?_) ?_
                  rotate_left
                  · go_step; exact hk
                  refine Ord.St.fl2 (T' := ?_) 10 [11, 12, 13] _ _ rfl (by kernel_rfl) rfl rfl rfl rfl (fun K w' hk => ?_) ?_
                  rotate_left
                  · go_step; exact hk
                  refine Ord.St.fl2 (T' := ?_) 11 [12, 13] _ _ rfl (by kernel_rfl) rfl rfl rfl rfl (fun K w' hk => ?_) ?_
                  rotate_left
                  · go_step; exact hk
                  refine Ord.St.fl2 (T' := ?_) 12 [13] _ _ rfl (by kernel_rfl) rfl rfl rfl rfl (fun K w' hk => ?_) ?_
                  rotate_left
                  · go_step; exact hk
                  refine Ord.St.fl2 (T' := ?_) 13 [] _ _ rfl (by kernel_rfl) rfl rfl rfl rfl (fun K w' hk => ?_) ?_
                  rotate_left
                  · go_step; exact hk
                  refine Ord.St.nil ?_
                  go_wp2_with fail
                  go_roundw
                  case rel =>
                    refine ⟨i, by omega, rfl, _, _, _, HNX.out, HIM.out.ch HC5.out.drew (by simp), HCJ.out.trans HC5.out.drew (by simp), fun q => ?_⟩
                    rw [HMK.out q, HMK'.out q]
                    refine ⟨.inl, fun h => h.elim id ?_⟩
                    rintro ⟨y, hy, hk, _⟩
                    rw [HX.out] at hy; cases hy
                    exact absurd hk h3
                  case measure => simp [intOf]
              · obtain ⟨p, hp⟩ : ∃ p, (cone b.G.nodes (rootsOf b.refs bs m))[i - 1]? = some p := ⟨_, List.getElem?_eq_getElem (by rw [HCL.out]; omega)⟩
                have hlt := cone_lt' (j := i - 1) hp (by rw [show i - 1 + 1 = i by omega]; exact HD.out)
                obtain ⟨_, _, hye, c2⟩ := (HSLC.out.ch HCJ.out (by simp)).cells (i - 1) (p : Int) (by rw [List.getElem?_map, hp]; rfl)
                cases hye
                have hg : decide (0 < i) = true := decide_eq_true (by omega)
                have hpd : ((p : Int) == (d : Int)) = false := beqN (by omega)
                have e1 : (i : Int) - 1 = ((i - 1 : Nat) : Int) := by omega
                clear hi0 hlt hp
                go_wp2_with fail
                refine Ord.St.door (fun _ => True) [.fl, .fl, .fl, .rd, .fl, .fl, .fl, .rd, .rd, .fl, .fl, .rd, .fl, .fl, .fl, .fl, .rd, .fl, .fl, .rd, .rd, .fl, .fl] [0, 1, 3, 7, 7, 23, 63, 127, 7, 7, 775, 1799, 4095, 8191, 16383, 32767, 32767, 32767, 229375, 491519, 1048575, 2097151, 4194303] [0, 1, 2, 3, 4, 5, 6, 7, 8, 9, 10, 11, 12, 13, 14, 15, 16, 17, 18, 19, 20, 21, 22] mixed (by kernel_rfl) rfl ?_
                refine Ord.St.fl2 (T' := ?_) 0 [1, 2, 3, 4, 5, 6, 7, 8, 9, 10, 11, 12, 13, 14, 15, 16, 17, 18, 19, 20, 21, 22] _ _ rfl (by kernel_rfl) rfl rfl rfl rfl (fun K w' hk => ?_) ?_
                rotate_left
                · go_step; exact hk
                refine Ord.St.fl2 (T' := ?_) 1 [2, 3, 4, 5, 6, 7, 8, 9, 10, 11, 12, 13, 14, 15, 16, 17, 18, 19, 20, 21, 22] _ _ rfl (by kernel_rfl) rfl rfl rfl rfl (fun K w' hk => ?_) ?_
                rotate_left
                · go_step; exact hk
                refine Ord.St.fl2 (T' := ?_) 2 [3, 4, 5, 6, 7, 8, 9, 10, 11, 12, 13, 14, 15, 16, 17, 18, 19, 20, 21, 22] _ _ rfl (by kernel_rfl) rfl rfl rfl rfl (fun K w' hk => ?_) ?_
                rotate_left
                · go_step; exact hk
                first | (refine Ord.St.rd2 (T' := ?_) 3 [4, 5, 6, 7, 8, 9, 10, 11, 12, 13, 14, 15, 16, 17, 18, 19, 20, 21, 22] _ _ rfl (by kernel_rfl) ?_ rfl rfl rfl (fun K hk => ?_) ?_; rotate_left; (first | rfl | (simp [Region.wanted, yielded, *]; done)); focus (go_step; exact hk)) | (refine Ord.St.skipr 3 [4, 5, 6, 7, 8, 9, 10, 11, 12, 13, 14, 15, 16, 17, 18, 19, 20, 21, 22] _ rfl (by kernel_rfl) ?_ (fun K hK => ?_); (first | rfl | (simp [Region.wanted, yielded, *]; done)); go_simp; refine hK _ ?_; clear hK K)
                first | (refine Ord.St.fl2 (T' := ?_) 4 [5, 6, 7, 8, 9, 10, 11, 12, 13, 14, 15, 16, 17, 18, 19, 20, 21, 22] _ _ rfl (by kernel_rfl) ?_ rfl rfl rfl (fun K w' hk => ?_) ?_; rotate_left; (first | rfl | (simp [Region.wanted, yielded, *]; done)); focus (go_step; exact hk)) | (refine Ord.St.skip 4 [5, 6, 7, 8, 9, 10, 11, 12, 13, 14, 15, 16, 17, 18, 19, 20, 21, 22] _ rfl (by kernel_rfl) ?_ (fun K hK => ?_); (first | rfl | (simp [Region.wanted, yielded, *]; done)); go_simp; refine hK _ ?_; clear hK K)
                first | (refine Ord.St.fl2 (T' := ?_) 5 [6, 7, 8, 9, 10, 11, 12, 13, 14, 15, 16, 17, 18, 19, 20, 21, 22] _ _ rfl (by kernel_rfl) ?_ rfl rfl rfl (fun K w' hk => ?_) ?_; rotate_left; (first | rfl | (simp [Region.wanted, yielded, *]; done)); focus (go_step; exact hk)) | (refine Ord.St.skip 5 [6, 7, 8, 9, 10, 11, 12, 13, 14, 15, 16, 17, 18, 19, 20, 21, 22] _ rfl (by kernel_rfl) ?_ (fun K hK => ?_); (first | rfl | (simp [Region.wanted, yielded, *]; done)); go_simp; refine hK _ ?_; clear hK K)
                first | (refine Ord.St.fl2 (T' := ?_) 6 [7, 8, 9, 10, 11, 12, 13, 14, 15, 16, 17, 18, 19, 20, 21, 22] _ _ rfl (by kernel_rfl) ?_ rfl rfl rfl (fun K w' hk => ?_) ?_; rotate_left; (first | rfl | (simp [Region.wanted, yielded, *]; done)); focus (go_step; exact hk)) | (refine Ord.St.skip 6 [7, 8, 9, 10, 11, 12, 13, 14, 15, 16, 17, 18, 19, 20, 21, 22] _ rfl (by kernel_rfl) ?_ (fun K hK => ?_); (first | rfl | (simp [Region.wanted, yielded, *]; done)); go_simp; refine hK _ ?_; clear hK K)
                first | (refine Ord.St.rd2 (T' := ?_) 7 [8, 9, 10, 11, 12, 13, 14, 15, 16, 17, 18, 19, 20, 21, 22] _ _ rfl (by kernel_rfl) ?_ rfl rfl rfl (fun K hk => ?_) ?_; rotate_left; (first | rfl | (simp [Region.wanted, yielded, *]; done)); focus (go_step; exact hk)) | (refine Ord.St.skipr 7 [8, 9, 10, 11, 12, 13, 14, 15, 16, 17, 18, 19, 20, 21, 22] _ rfl (by kernel_rfl) ?_ (fun K hK => ?_); (first | rfl | (simp [Region.wanted, yielded, *]; done)); go_simp; refine hK _ ?_; clear hK K)
                first | (refine Ord.St.rd2 (T' := ?_) 8 [9, 10, 11, 12, 13, 14, 15, 16, 17, 18, 19, 20, 21, 22] _ _ rfl (by kernel_rfl) ?_ rfl rfl rfl (fun K hk => ?_) ?_; rotate_left; (first | rfl | (simp [Region.wanted, yielded, *]; done)); focus (go_step; exact hk)) | (refine Ord.St.skipr 8 [9, 10, 11, 12, 13, 14, 15, 16, 17, 18, 19, 20, 21, 22] _ rfl (by kernel_rfl) ?_ (fun K hK => ?_); (first | rfl | (simp [Region.wanted, yielded, *]; done)); go_simp; refine hK _ ?_; clear hK K)
                first | (refine Ord.St.fl2 (T' := ?_) 9 [10, 11, 12, 13, 14, 15, 16, 17, 18, 19, 20, 21, 22] _ _ rfl (by kernel_rfl) ?_ rfl rfl rfl (fun K w' hk => ?_) ?_; rotate_left; (first | rfl | (simp [Region.wanted, yielded, *]; done)); focus (go_step; exact hk)) | (refine Ord.St.skip 9 [10, 11, 12, 13, 14, 15, 16, 17, 18, 19, 20, 21, 22] _ rfl (by kernel_rfl) ?_ (fun K hK => ?_); (first | rfl | (simp [Region.wanted, yielded, *]; done)); go_simp; refine hK _ ?_; clear hK K)
                first | (refine Ord.St.fl2 (T' := ?_) 10 [11, 12, 13, 14, 15, 16, 17, 18, 19, 20, 21, 22] _ _ rfl (by kernel_rfl) ?_ rfl rfl rfl (fun K w' hk => ?_) ?_; rotate_left; (first | rfl | (simp [Region.wanted, yielded, *]; done)); focus (go_step; exact hk)) | (refine Ord.St.skip 10 [11, 12, 13, 14, 15, 16, 17, 18, 19, 20, 21, 22] _ rfl (by kernel_rfl) ?_ (fun K hK => ?_); (first | rfl | (simp [Region.wanted, yielded, *]; done)); go_simp; refine hK _ ?_; clear hK K)
                first | (refine Ord.St.rd2 (T' := ?_) 11 [12, 13, 14, 15, 16, 17, 18, 19, 20, 21, 22] _ _ rfl (by kernel_rfl) ?_ rfl rfl rfl (fun K hk => ?_) ?_; rotate_left; (first | rfl | (simp [Region.wanted, yielded, *]; done)); focus (go_step; exact hk)) | (refine Ord.St.skipr 11 [12, 13, 14, 15, 16, 17, 18, 19, 20, 21, 22] _ rfl (by kernel_rfl) ?_ (fun K hK => ?_); (first | rfl | (simp [Region.wanted, yielded, *]; done)); go_simp; refine hK _ ?_; clear hK K)
                first | (refine Ord.St.fl2 (T' := ?_) 12 [13, 14, 15, 16, 17, 18, 19, 20, 21, 22] _ _ rfl (by kernel_rfl) ?_ rfl rfl rfl (fun K w' hk => ?_) ?_; rotate_left; (first | rfl | (simp [Region.wanted, yielded, *]; done)); focus (go_step; exact hk)) | (refine Ord.St.skip 12 [13, 14, 15, 16, 17, 18, 19, 20, 21, 22] _ rfl (by kernel_rfl) ?_ (fun K hK => ?_); (first | rfl | (simp [Region.wanted, yielded, *]; done)); go_simp; refine hK _ ?_; clear hK K)
                refine Ord.St.fl2 (T' := ?_) 13 [14, 15, 16, 17, 18, 19, 20, 21, 22] _ _ rfl (by kernel_rfl) rfl rfl rfl rfl (fun K w' hk => ?_) ?_
                rotate_left
                · go_step; exact hk
                refine Ord.St.fl2 (T' := ?_) 14 [15, 16, 17, 18, 19, 20, 21, 22] _ _ rfl (by kernel_rfl) rfl rfl rfl rfl (fun K w' hk => ?_) ?_
                rotate_left
                · go_step; exact hk
                first | (refine Ord.St.fl2 (T' := ?_) 15 [16, 17, 18, 19, 20, 21, 22] _ _ rfl (by kernel_rfl) ?_ rfl rfl rfl (fun K w' hk => ?_) ?_; rotate_left; (first | rfl | (simp [Region.wanted, yielded, *]; done)); focus (go_step; exact hk)) | (refine Ord.St.skip 15 [16, 17, 18, 19, 20, 21, 22] _ rfl (by kernel_rfl) ?_ (fun K hK => ?_); (first | rfl | (simp [Region.wanted, yielded, *]; done)); go_simp; refine hK _ ?_; clear hK K)
                first | (refine Ord.St.rd2 (T' := ?_) 16 [17, 18, 19, 20, 21, 22] _ _ rfl (by kernel_rfl) ?_ rfl rfl rfl (fun K hk => ?_) ?_; rotate_left; (first | rfl | (simp [Region.wanted, yielded, *]; done)); focus (go_step; exact hk)) | (refine Ord.St.skipr 16 [17, 18, 19, 20, 21, 22] _ rfl (by kernel_rfl) ?_ (fun K hK => ?_); (first | rfl | (simp [Region.wanted, yielded, *]; done)); go_simp; refine hK _ ?_; clear hK K)
                first | (refine Ord.St.fl2 (T' := ?_) 17 [18, 19, 20, 21, 22] _ _ rfl (by kernel_rfl) ?_ rfl rfl rfl (fun K w' hk => ?_) ?_; rotate_left; (first | rfl | (simp [Region.wanted, yielded, *]; done)); focus (go_step; exact hk)) | (refine Ord.St.skip 17 [18, 19, 20, 21, 22] _ rfl (by kernel_rfl) ?_ (fun K hK => ?_); (first | rfl | (simp [Region.wanted, yielded, *]; done)); go_simp; refine hK _ ?_; clear hK K)
                first | (refine Ord.St.fl2 (T' := ?_) 18 [19, 20, 21, 22] _ _ rfl (by kernel_rfl) ?_ rfl rfl rfl (fun K w' hk => ?_) ?_; rotate_left; (first | rfl | (simp [Region.wanted, yielded, *]; done)); focus (go_step; exact hk)) | (refine Ord.St.skip 18 [19, 20, 21, 22] _ rfl (by kernel_rfl) ?_ (fun K hK => ?_); (first | rfl | (simp [Region.wanted, yielded, *]; done)); go_simp; refine hK _ ?_; clear hK K)
                first | (refine Ord.St.rd2 (T' := ?_) 19 [20, 21, 22] _ _ rfl (by kernel_rfl) ?_ rfl rfl rfl (fun K hk => ?_) ?_; rotate_left; (first | rfl | (simp [Region.wanted, yielded, *]; done)); focus (go_step; exact hk)) | (refine Ord.St.skipr 19 [20, 21, 22] _ rfl (by kernel_rfl) ?_ (fun K hK => ?_); (first | rfl | (simp [Region.wanted, yielded, *]; done)); go_simp; refine hK _ ?_; clear hK K)
                first | (refine Ord.St.rd2 (T' := ?_) 20 [21, 22] _ _ rfl (by kernel_rfl) ?_ rfl rfl rfl (fun K hk => ?_) ?_; rotate_left; (first | rfl | (simp [Region.wanted, yielded, *]; done)); focus (go_step; exact hk)) | (refine Ord.St.skipr 20 [21, 22] _ rfl (by kernel_rfl) ?_ (fun K hK => ?_); (first | rfl | (simp [Region.wanted, yielded, *]; done)); go_simp; refine hK _ ?_; clear hK K)
                first | (refine Ord.St.fl2 (T' := ?_) 21 [22] _ _ rfl (by kernel_rfl) ?_ rfl rfl rfl (fun K w' hk => ?_) ?_; rotate_left; (first | rfl | (simp [Region.wanted, yielded, *]; done)); focus (go_step; exact hk)) | (refine Ord.St.skip 21 [22] _ rfl (by kernel_rfl) ?_ (fun K hK => ?_); (first | rfl | (simp [Region.wanted, yielded, *]; done)); go_simp; refine hK _ ?_; clear hK K)
                refine Ord.St.fl2 (T' := ?_) 22 [] _ _ rfl (by kernel_rfl) rfl rfl rfl rfl (fun K w' hk => ?_) ?_
                rotate_left
                · go_step; exact hk
                refine Ord.St.nil ?_
                try clear e1
                go_wp2_with fail
                by_cases h3 : x.k = 3
                · obtain ⟨s1, s2, s3, s4, s5⟩ := HWF.out.sides HX.out h3
                  have HS5 := Lib.hid s5; clear s5
                  have hs := HS2.out
                  rw [if_pos h3, if_pos h3, show (x.k == 3) = true by simp [h3]] at hs
                  have HS3 := Lib.hid hs; clear hs HS2
                  refine Ord.St.door (fun _ => True) [.fl, .rd, .rd, .fl, .fl, .rd, .fl, .ef, .fl, .fl, .fl, .fl, .fl, .fl, .fl] [0, 1, 0, 0, 12, 28, 60, 127, 255, 511, 511, 511, 1023, 6143, 16383] [0, 1, 2, 3, 4, 5, 6, 7, 8, 9, 10, 11, 12, 13, 14] mixed (by kernel_rfl) rfl ?_
                  refine Ord.St.fl2 (T' := ?_) 0 [1, 2, 3, 4, 5, 6, 7, 8, 9, 10, 11, 12, 13, 14] _ _ rfl (by kernel_rfl) rfl rfl rfl rfl (fun K w' hk => ?_) ?_
                  rotate_left
                  · go_step; exact hk
                  refine Ord.St.rd2 (T' := ?_) 1 [2, 3, 4, 5, 6, 7, 8, 9, 10, 11, 12, 13, 14] _ _ rfl (by kernel_rfl) rfl rfl rfl rfl (fun K hk => ?_) ?_
                  rotate_left
                  · go_step; exact hk
                  refine Ord.St.rd2 (T' := ?_) 2 [3, 4, 5, 6, 7, 8, 9, 10, 11, 12, 13, 14] _ _ rfl (by kernel_rfl) rfl rfl rfl rfl (fun K hk => ?_) ?_
                  rotate_left
                  · go_step; exact hk
                  refine Ord.St.fl2 (T' := ?_) 3 [4, 5, 6, 7, 8, 9, 10, 11, 12, 13, 14] _ _ rfl (by kernel_rfl) rfl rfl rfl rfl (fun K w' hk => ?_) ?_
                  rotate_left
                  · go_step; exact hk
                  refine Ord.St.fl2 (T' := ?_) 4 [5, 6, 7, 8, 9, 10, 11, 12, 13, 14] _ _ rfl (by kernel_rfl) rfl rfl rfl rfl (fun K w' hk => ?_) ?_
                  rotate_left
                  · go_step; exact hk
                  refine Ord.St.rd2 (T' := ?_) 5 [6, 7, 8, 9, 10, 11, 12, 13, 14] _ _ rfl (by kernel_rfl) rfl rfl rfl rfl (fun K hk => ?_) ?_
                  rotate_left
                  · go_step; exact hk
                  refine Ord.St.fl2 (T' := ?_) 6 [7, 8, 9, 10, 11, 12, 13, 14] _ _ rfl (by kernel_rfl) rfl rfl rfl rfl (fun K w' hk => ?_) ?_
                  rotate_left
                  · go_step; exact hk
                  refine Ord.St.ef 7 [8, 9, 10, 11, 12, 13, 14] _ rfl (by kernel_rfl) (fun K hK => ?_)
                  go_wp2_with fail
                  refine HS3.out.mono ?_
                  rintro e w5 ⟨rfl, hc5⟩
                  have hC5 : Ch [] wr w5 := ((Ch.refl [] wr).drew.drew).trans hc5 (by simp)
                  have y0 := (hC5.cell (cell_lt x0) (by simp)).trans x0
                  have y12 := (hC5.cell (cell_lt x12) (by simp)).trans x12
                  have z1 := (hC5.cell (cell_lt c1) (by simp)).trans c1
                  clear x0 x1 x2 x12 c1 hc5 HS3 hlk
                  have HC5 := Lib.hid hC5; clear hC5
                  go_wp2_with fail
                  refine ⟨rfl, hK _ _ ?_⟩; clear hK K
                  refine Ord.St.fl2 (T' := ?_) 8 [9, 10, 11, 12, 13, 14] _ _ rfl (by kernel_rfl) rfl rfl rfl rfl (fun K w' hk => ?_) ?_
                  rotate_left
                  · go_step; exact hk
                  refine Ord.St.fl2 (T' := ?_) 9 [10, 11, 12, 13, 14] _ _ rfl (by kernel_rfl) rfl rfl rfl rfl (fun K w' hk => ?_) ?_
                  rotate_left
                  · go_step; exact hk
                  refine Ord.St.fl2 (T' := ?_) 10 [11, 12, 13, 14] _ _ rfl (by kernel_rfl) rfl rfl rfl rfl (fun K w' hk => ?_) ?_
                  rotate_left
                  · go_step; exact hk
                  refine Ord.St.fl2 (T' := ?_) 11 [12, 13, 14] _ _ rfl (by kernel_rfl) rfl rfl rfl rfl (fun K w' hk => ?_) ?_
                  rotate_left
                  · go_step; exact hk
                  refine Ord.St.fl2 (T' := ?_) 12 [13, 14] _ _ rfl (by kernel_rfl) rfl rfl rfl rfl (fun K w' hk => ?_) ?_
                  rotate_left
                  · go_step; exact hk
                  refine Ord.St.fl2 (T' := ?_) 13 [14] _ _ rfl (by kernel_rfl) rfl rfl rfl rfl (fun K w' hk => ?_) ?_
                  rotate_left
                  · go_step; exact hk
                  refine Ord.St.fl2 (T' := ?_) 14 [] _ _ rfl (by kernel_rfl) rfl rfl rfl rfl (fun K w' hk => ?_) ?_
                  rotate_left
                  · go_step; exact hk
                  refine Ord.St.nil ?_
                  have hB5 := HBB.out.same HC5.out.drew
                  have hD2 := Depth_g hB5.bm.own.gin (2 * (d : Int) + 1) (by omega)
                  rw [HN.out.dep, HN.out.err] at hD2
                  have HD2 := Lib.hid hD2; clear hD2 hB5
                  go_wp2_with fail
                  refine Ord.St.door (fun _ => True) [.fl, .rd, .rd, .fl, .fl, .rd, .fl, .fl, .rd, .fl, .fl, .fl, .fl, .fl] [0, 1, 0, 0, 12, 28, 60, 124, 255, 511, 1023, 1023, 2047, 8191] [0, 1, 2, 3, 4, 5, 6, 7, 8, 9, 10, 11, 12, 13] mixed (by kernel_rfl) rfl ?_
                  refine Ord.St.fl2 (T' := ?_) 0 [1, 2, 3, 4, 5, 6, 7, 8, 9, 10, 11, 12, 13] _ _ rfl (by kernel_rfl) rfl rfl rfl rfl (fun K w' hk => ?_) ?_
                  rotate_left
                  · go_step; exact hk
                  refine Ord.St.rd2 (T' := ?_) 1 [2, 3, 4, 5, 6, 7, 8, 9, 10, 11, 12, 13] _ _ rfl (by kernel_rfl) rfl rfl rfl rfl (fun K hk => ?_) ?_
                  rotate_left
                  · go_step; exact hk
                  refine Ord.St.rd2 (T' := ?_) 2 [3, 4, 5, 6, 7, 8, 9, 10, 11, 12, 13] _ _ rfl (by kernel_rfl) rfl rfl rfl rfl (fun K hk => ?_) ?_
                  rotate_left
                  · go_step; exact hk
                  refine Ord.St.fl2 (T' := ?_) 3 [4, 5, 6, 7, 8, 9, 10, 11, 12, 13] _ _ rfl (by kernel_rfl) rfl rfl rfl rfl (fun K w' hk => ?_) ?_
                  rotate_left
                  · go_step; exact hk
                  refine Ord.St.fl2 (T' := ?_) 4 [5, 6, 7, 8, 9, 10, 11, 12, 13] _ _ rfl (by kernel_rfl) rfl rfl rfl rfl (fun K w' hk => ?_) ?_
                  rotate_left
                  · go_step; exact hk
                  refine Ord.St.rd2 (T' := ?_) 5 [6, 7, 8, 9, 10, 11, 12, 13] _ _ rfl (by kernel_rfl) rfl rfl rfl rfl (fun K hk => ?_) ?_
                  rotate_left
                  · go_step; exact hk
                  refine Ord.St.fl2 (T' := ?_) 6 [7, 8, 9, 10, 11, 12, 13] _ _ rfl (by kernel_rfl) rfl rfl rfl rfl (fun K w' hk => ?_) ?_
                  rotate_left
                  · go_step; exact hk
                  refine Ord.St.fl2 (T' := ?_) 7 [8, 9, 10, 11, 12, 13] _ _ rfl (by kernel_rfl) rfl rfl rfl rfl (fun K w' hk => ?_) ?_
                  rotate_left
                  · go_step; exact hk
                  refine Ord.St.rd2 (T' := ?_) 8 [9, 10, 11, 12, 13] _ _ rfl (by kernel_rfl) rfl rfl rfl rfl (fun K hk => ?_) ?_
                  rotate_left
                  · go_step; refine HD2.out.mono ?_; rintro e w' ⟨rfl, rfl⟩; exact hk
                  refine Ord.St.fl2 (T' := ?_) 9 [10, 11, 12, 13] _ _ rfl (by kernel_rfl) rfl rfl rfl rfl (fun K w' hk => ?_) ?_
                  rotate_left
                  · go_step; exact hk
                  refine Ord.St.fl2 (T' := ?_) 10 [11, 12, 13] _ _ rfl (by kernel_rfl) rfl rfl rfl rfl (fun K w' hk => ?_) ?_
                  rotate_left
                  · go_step; exact hk
                  refine Ord.St.fl2 (T' := ?_) 11 [12, 13] _ _ rfl (by kernel_rfl) rfl rfl rfl rfl (fun K w' hk => ?_) ?_
                  rotate_left
                  · go_step; exact hk
                  refine Ord.St.fl2 (T' := ?_) 12 [13] _ _ rfl (by kernel_rfl) rfl rfl rfl rfl (fun K w' hk => ?_) ?_
                  rotate_left
                  · go_step; exact hk
                  refine Ord.St.fl2 (T' := ?_) 13 [] _ _ rfl (by kernel_rfl) rfl rfl rfl rfl (fun K w' hk => ?_) ?_
                  rotate_left
                  · go_step; exact hk
                  refine Ord.St.nil ?_
                  have him5 := HIM.out.ch HC5.out.drew (by simp)
                  obtain ⟨W6, hup, hc6, him6⟩ := IMap.set (P := Try.prog) (T := 75) (K := 3) (E := 3) Try.underlying75 Try.underlying3 him5 (x.l / 2)
                  obtain ⟨W7, hup2, hc7, him7⟩ := IMap.set (P := Try.prog) (T := 75) (K := 3) (E := 3) Try.underlying75 Try.underlying3 him6 (x.r / 2)
                  rw [show ((x.l / 2 : Nat) : Int) = (x.l : Int) / 2 by omega] at hup
                  rw [show ((x.r / 2 : Nat) : Int) = (x.r : Int) / 2 by omega] at hup2
                  have hC47 : Ch [] w4 W7 := ((HCJ.out.trans HC5.out.drew (by simp)).trans hc6 (by simp)).trans hc7 (by simp)
                  have hB7 := HBB4.out.same hC47
                  have hxl := dep_is (ns := b.G.nodes) (r := x.l) (by omega)
                  have hxr := dep_is (ns := b.G.nodes) (r := x.r) (by omega)
                  have hD3 := Depth_g hB7.bm.own.gin (x.l : Int) (by omega)
                  have hD4 := Depth_g hB7.bm.own.gin (x.r : Int) (by omega)
                  rw [hxl.1, hxl.2] at hD3
                  rw [hxr.1, hxr.2] at hD4
                  have ⟨v0, v1, v2⟩ := blk3 hB7.bk
                  have HD3 := Lib.hid hD3; clear hD3
                  have HD4 := Lib.hid hD4; clear hD4
                  have HIM7 := Lib.hid him7; clear him7 him6 him5
                  have HC47 := Lib.hid hC47; clear hC47 hc6 hc7 hB7 hxl hxr
                  have hdb1 : dep b.G.nodes x.l < b.G.nodes.length := HWF.out.dep_le (by omega)
                  have hdb2 : dep b.G.nodes x.r < b.G.nodes.length := HWF.out.dep_le (by omega)
                  generalize dep b.G.nodes x.l = dl at *
                  generalize dep b.G.nodes x.r = dr at *
                  obtain ⟨M, hM⟩ : ∃ M, max dl dr = M := ⟨_, rfl⟩
                  have hmxx : ∀ (ats : Array TypeId) (ty : TypeId), Builtin.max_ ats ty #[.int .i64 (dl : Int), .int .i64 (dr : Int)] = pure (.int .i64 (M : Nat)) := fun ats ty => max_nat dl dr M hM ats ty
                  have hMb : M < 65536 := by omega
                  have hne : ((x.d : Int) != 1 + (M : Int)) = false := by rw [HS5.out, hM]; simp
                  clear hM HS5 hdb1 hdb2
                  go_wp2_with fail
                  refine HD3.out.mono ?_
                  rintro e w' ⟨rfl, rfl⟩
                  go_wp2_with fail
                  refine HD4.out.mono ?_
                  rintro e w' ⟨rfl, rfl⟩
                  clear hup hup2
                  go_wp2_with fail
                  go_roundw
                  case rel =>
                    refine ⟨i, by omega, rfl, _, _, _, HNX.out, HIM7.out, HC47.out, fun q => ?_⟩
                    rw [mem_add, mem_add, HMK.out q, HMK'.out q, or_assoc]
                    refine or_congr_right ⟨fun h => ⟨x, HX.out, h3, h⟩, ?_⟩
                    rintro ⟨y, hy, _, h⟩
                    rw [HX.out] at hy; cases hy
                    exact h
                  case measure => simp [intOf]
                · have hs := HS2.out
                  rw [if_neg h3, if_neg h3, show (x.k == 3) = false by simp [h3]] at hs
                  have HS3 := Lib.hid hs; clear hs HS2
                  have hxd := leaf_d HWF.out HX.out h3
                  refine Ord.St.door (fun _ => True) [.fl, .rd, .rd, .fl, .fl, .rd, .fl, .ef, .fl, .fl, .fl, .fl, .fl, .fl, .fl] [0, 1, 0, 0, 12, 28, 60, 127, 255, 511, 511, 511, 1023, 6143, 16383] [0, 1, 2, 3, 4, 5, 6, 7, 8, 9, 10, 11, 12, 13, 14] mixed (by kernel_rfl) rfl ?_
                  refine Ord.St.fl2 (T' := ?_) 0 [1, 2, 3, 4, 5, 6, 7, 8, 9, 10, 11, 12, 13, 14] _ _ rfl (by kernel_rfl) rfl rfl rfl rfl (fun K w' hk => ?_) ?_
                  rotate_left
                  · go_step; exact hk
                  refine Ord.St.rd2 (T' := ?_) 1 [2, 3, 4, 5, 6, 7, 8, 9, 10, 11, 12, 13, 14] _ _ rfl (by kernel_rfl) rfl rfl rfl rfl (fun K hk => ?_) ?_
                  rotate_left
                  · go_step; exact hk
                  refine Ord.St.rd2 (T' := ?_) 2 [3, 4, 5, 6, 7, 8, 9, 10, 11, 12, 13, 14] _ _ rfl (by kernel_rfl) rfl rfl rfl rfl (fun K hk => ?_) ?_
                  rotate_left
                  · go_step; exact hk
                  refine Ord.St.fl2 (T' := ?_) 3 [4, 5, 6, 7, 8, 9, 10, 11, 12, 13, 14] _ _ rfl (by kernel_rfl) rfl rfl rfl rfl (fun K w' hk => ?_) ?_
                  rotate_left
                  · go_step; exact hk
                  refine Ord.St.fl2 (T' := ?_) 4 [5, 6, 7, 8, 9, 10, 11, 12, 13, 14] _ _ rfl (by kernel_rfl) rfl rfl rfl rfl (fun K w' hk => ?_) ?_
                  rotate_left
                  · go_step; exact hk
                  refine Ord.St.rd2 (T' := ?_) 5 [6, 7, 8, 9, 10, 11, 12, 13, 14] _ _ rfl (by kernel_rfl) rfl rfl rfl rfl (fun K hk => ?_) ?_
                  rotate_left
                  · go_step; exact hk
                  refine Ord.St.fl2 (T' := ?_) 6 [7, 8, 9, 10, 11, 12, 13, 14] _ _ rfl (by kernel_rfl) rfl rfl rfl rfl (fun K w' hk => ?_) ?_
                  rotate_left
                  · go_step; exact hk
                  refine Ord.St.ef 7 [8, 9, 10, 11, 12, 13, 14] _ rfl (by kernel_rfl) (fun K hK => ?_)
                  go_wp2_with fail
                  refine HS3.out.mono ?_
                  rintro e w5 ⟨rfl, hc5⟩
                  have hC5 : Ch [] wr w5 := ((Ch.refl [] wr).drew.drew).trans hc5 (by simp)
                  have y0 := (hC5.cell (cell_lt x0) (by simp)).trans x0
                  have y12 := (hC5.cell (cell_lt x12) (by simp)).trans x12
                  have z1 := (hC5.cell (cell_lt c1) (by simp)).trans c1
                  clear x0 x1 x2 x12 c1 hc5 HS3 hlk
                  have HC5 := Lib.hid hC5; clear hC5
                  go_wp2_with fail
                  refine ⟨rfl, hK _ _ ?_⟩; clear hK K
                  refine Ord.St.fl2 (T' := ?_) 8 [9, 10, 11, 12, 13, 14] _ _ rfl (by kernel_rfl) rfl rfl rfl rfl (fun K w' hk => ?_) ?_
                  rotate_left
                  · go_step; exact hk
                  refine Ord.St.fl2 (T' := ?_) 9 [10, 11, 12, 13, 14] _ _ rfl (by kernel_rfl) rfl rfl rfl rfl (fun K w' hk => ?_) ?_
                  rotate_left
                  · go_step; exact hk
                  refine Ord.St.fl2 (T' := ?_) 10 [11, 12, 13, 14] _ _ rfl (by kernel_rfl) rfl rfl rfl rfl (fun K w' hk => ?_) ?_
                  rotate_left
                  · go_step; exact hk
                  refine Ord.St.fl2 (T' := ?_) 11 [12, 13, 14] _ _ rfl (by kernel_rfl) rfl rfl rfl rfl (fun K w' hk => ?_) ?_
                  rotate_left
                  · go_step; exact hk
                  refine Ord.St.fl2 (T' := ?_) 12 [13, 14] _ _ rfl (by kernel_rfl) rfl rfl rfl rfl (fun K w' hk => ?_) ?_
                  rotate_left
                  · go_step; exact hk
                  refine Ord.St.fl2 (T' := ?_) 13 [14] _ _ rfl (by kernel_rfl) rfl rfl rfl rfl (fun K w' hk => ?_) ?_
                  rotate_left
                  · go_step; exact hk
                  refine Ord.St.fl2 (T' := ?_) 14 [] _ _ rfl (by kernel_rfl) rfl rfl rfl rfl (fun K w' hk => ?_) ?_
                  rotate_left
                  · go_step; exact hk
                  refine Ord.St.nil ?_
                  have hB5 := HBB.out.same HC5.out.drew
                  have hD2 := Depth_g hB5.bm.own.gin (2 * (d : Int) + 1) (by omega)
                  rw [HN.out.dep, HN.out.err, hxd] at hD2
                  have HD2 := Lib.hid hD2; clear hD2 hB5
                  clear hxd
                  go_wp2_with fail
                  refine Ord.St.door (fun _ => True) [.fl, .rd, .rd, .fl, .fl, .rd, .fl, .fl, .rd, .fl, .fl, .fl, .fl, .fl] [0, 1, 0, 0, 12, 28, 60, 124, 255, 511, 1023, 1023, 2047, 8191] [0, 1, 2, 3, 4, 5, 6, 7, 8, 9, 10, 11, 12, 13] mixed (by kernel_rfl) rfl ?_
                  refine Ord.St.fl2 (T' := ?_) 0 [1, 2, 3, 4, 5, 6, 7, 8, 9, 10, 11, 12, 13] _ _ rfl (by kernel_rfl) rfl rfl rfl rfl (fun K w' hk => ?_) ?_
                  rotate_left
                  · go_step; exact hk
                  refine Ord.St.rd2 (T' := ?_) 1 [2, 3, 4, 5, 6, 7, 8, 9, 10, 11, 12, 13] _ _ rfl (by kernel_rfl) rfl rfl rfl rfl (fun K hk => ?_) ?_
                  rotate_left
                  · go_step; exact hk
                  refine Ord.St.rd2 (T' := ?_) 2 [3, 4, 5, 6, 7, 8, 9, 10, 11, 12, 13] _ _ rfl (by kernel_rfl) rfl rfl rfl rfl (fun K hk => ?_) ?_
                  rotate_left
                  · go_step; exact hk
                  refine Ord.St.fl2 (T' := ?_) 3 [4, 5, 6, 7, 8, 9, 10, 11, 12, 13] _ _ rfl (by kernel_rfl) rfl rfl rfl rfl (fun K w' hk => ?_) ?_
                  rotate_left
                  · go_step; exact hk
                  refine Ord.St.fl2 (T' := ?_) 4 [5, 6, 7, 8, 9, 10, 11, 12, 13] _ _ rfl (by kernel_rfl) rfl rfl rfl rfl (fun K w' hk => ?_) ?_
                  rotate_left
                  · go_step; exact hk
                  refine Ord.St.rd2 (T' := ?_) 5 [6, 7, 8, 9, 10, 11, 12, 13] _ _ rfl (by kernel_rfl) rfl rfl rfl rfl (fun K hk => ?_) ?_
                  rotate_left
                  · go_step; exact hk
                  refine Ord.St.fl2 (T' := ?_) 6 [7, 8, 9, 10, 11, 12, 13] _ _ rfl (by kernel_rfl) rfl rfl rfl rfl (fun K w' hk => ?_) ?_
                  rotate_left
                  · go_step; exact hk
                  refine Ord.St.fl2 (T' := ?_) 7 [8, 9, 10, 11, 12, 13] _ _ rfl (by kernel_rfl) rfl rfl rfl rfl (fun K w' hk => ?_) ?_
                  rotate_left
                  · go_step; exact hk
                  refine Ord.St.rd2 (T' := ?_) 8 [9, 10, 11, 12, 13] _ _ rfl (by kernel_rfl) rfl rfl rfl rfl (fun K hk => ?_) ?_
                  rotate_left
                  · go_step; refine HD2.out.mono ?_; rintro e w' ⟨rfl, rfl⟩; exact hk
                  refine Ord.St.fl2 (T' := ?_) 9 [10, 11, 12, 13] _ _ rfl (by kernel_rfl) rfl rfl rfl rfl (fun K w' hk => ?_) ?_
                  rotate_left
                  · go_step; exact hk
                  refine Ord.St.fl2 (T' := ?_) 10 [11, 12, 13] _ _ rfl (by kernel_rfl) rfl rfl rfl rfl (fun K w' hk => ?_) ?_
                  rotate_left
                  · go_step; exact hk
                  refine Ord.St.fl2 (T' := ?_) 11 [12, 13] _ _ rfl (by kernel_rfl) rfl rfl rfl rfl (fun K w' hk => ?_) ?_
                  rotate_left
                  · go_step; exact hk
                  refine Ord.St.fl2 (T' := ?_) 12 [13] _ _ rfl (by kernel_rfl) rfl rfl rfl rfl (fun K w' hk => ?_) ?_
                  rotate_left
                  · go_step; exact hk
                  refine Ord.St.fl2 (T' := ?_) 13 [] _ _ rfl (by kernel_rfl) rfl rfl rfl rfl (fun K w' hk => ?_) ?_
                  rotate_left
                  · go_step; exact hk
                  refine Ord.St.nil ?_
                  go_wp2_with fail
                  go_roundw
                  case rel =>
                    refine ⟨i, by omega, rfl, _, _, _, HNX.out, HIM.out.ch HC5.out.drew (by simp), HCJ.out.trans HC5.out.drew (by simp), fun q => ?_⟩
                    rw [HMK.out q, HMK'.out q]
                    refine ⟨.inl, fun h => h.elim id ?_⟩
                    rintro ⟨y, hy, hk, _⟩
                    rw [HX.out] at hy; cases hy
                    exact absurd hk h3
                  case measure => simp [intOf]
            · have hj0 : j = 0 := by omega
              rw [hj0] at hca
              rw [hj0, show ((0 : Nat) : Int) - 1 = -1 from rfl]
              clear hj0 hj1 hj
              have hLl : L.length = cl := (cone_len_of hca (by rw [← HCN.out]; omega) him.nd hmk).trans HCL.out
              obtain ⟨es, clock, hme, hms⟩ := him.len
              have hln : ∀ ty, (Builtin.len_ #[75] ty #[.map (some w4.heap.size)]).run Try.prog wr = .ok (.int .i64 cl) wr := fun ty => by
                rw [run_len_map (P := Try.prog) (w := wr) (t := 75) (ty := ty) (r := w4.heap.size) (es := es) (clock := clock) (h := Try.underlying75) (hb := hme), hms, hLl]; rfl
              clear hme hms hLl hca hmk him
              obtain ⟨hmo, hoc⟩ := row.capLe HROW.out
              have HCJ := Lib.hid hcj; clear hcj
              have HIN := Lib.hid (fun k => cone_in HWF.out (rootsOf b.refs bs m) k)
              clear hBB x1 x2
              go_wp2_with fail
              clear hln x0 x12
              go_loopw [190] (fun i wr => ∃ k : Nat, k ≤ m ∧ i = .int .i64 k ∧ Ch [] w4 wr) (fun i _ => m - (intOf i).toNat)
              case atStart => exact ⟨0, by omega, rfl, HCJ.out⟩
              case round =>
                clear HCJ
                obtain ⟨k, hk, rfl, hcj⟩ := hrel
                have x12 := (HB12.out.ch hcj (by simp)).cell (i := 0) rfl
                have hBB := HBB4.out.same hcj
                have ⟨x0, x1, x2⟩ := blk3 hBB.bk
                by_cases hlt : k < m
                · have hB5 := hBB.same (Ch.refl _ _).drew
                  have hCd : Ch [] w4 wr.drew := hcj.drew
                  have hwd := HCW.out.trans hCd (by simp)
                  have hrow' := HROW.out
                  obtain ⟨gq, cq, hq⟩ := row.parts hrow' (by omega)
                  cases hq
                  have hsl' := (HSL.out.ch hwd (by simp)).take k
                  have hgl := (hrow'.lt gq rfl).2
                  have hC := Cone_g hB5.bm.own.gin k oc (by rw [List.length_take, HLEN.out]; omega) hsl' (fun p hp => by cases hp; exact Nat.lt_of_lt_of_le hgl hwd.size) (fun r hr => HRL.out r (List.mem_of_mem_take hr))
                  have HC := Lib.hid hC; clear hC
                  have HCD := Lib.hid hCd; clear hCd hwd hsl' hrow' hgl
                  have HBB := Lib.hid hBB; clear hBB hB5
                  have k0 : (0 : Int) ≤ (k : Int) := by omega
                  have k1 : (k : Int) ≤ (oc : Int) := by omega
                  go_wp2_with fail
                  refine Ord.St.door (fun _ => True) [.fl, .rd, .fl, .fl, .fl, .ef, .fl, .fl, .fl, .fl, .fl] [0, 1, 0, 0, 12, 31, 63, 127, 127, 255, 1023] [0, 1, 2, 3, 4, 5, 6, 7, 8, 9, 10] mixed (by kernel_rfl) rfl ?_
                  refine Ord.St.fl2 (T' := ?_) 0 [1, 2, 3, 4, 5, 6, 7, 8, 9, 10] _ _ rfl (by kernel_rfl) rfl rfl rfl rfl (fun K w' hk => ?_) ?_
                  rotate_left
                  · go_step; exact hk
                  refine Ord.St.rd2 (T' := ?_) 1 [2, 3, 4, 5, 6, 7, 8, 9, 10] _ _ rfl (by kernel_rfl) rfl rfl rfl rfl (fun K hk => ?_) ?_
                  rotate_left
                  · go_step; exact hk
                  refine Ord.St.fl2 (T' := ?_) 2 [3, 4, 5, 6, 7, 8, 9, 10] _ _ rfl (by kernel_rfl) rfl rfl rfl rfl (fun K w' hk => ?_) ?_
                  rotate_left
                  · go_step; exact hk
                  refine Ord.St.fl2 (T' := ?_) 3 [4, 5, 6, 7, 8, 9, 10] _ _ rfl (by kernel_rfl) rfl rfl rfl rfl (fun K w' hk => ?_) ?_
                  rotate_left
                  · go_step; exact hk
                  refine Ord.St.fl2 (T' := ?_) 4 [5, 6, 7, 8, 9, 10] _ _ rfl (by kernel_rfl) rfl rfl rfl rfl (fun K w' hk => ?_) ?_
                  rotate_left
                  · go_step; exact hk
                  refine Ord.St.ef 5 [6, 7, 8, 9, 10] _ rfl (by kernel_rfl) (fun K hK => ?_)
                  go_wp2_with fail
                  refine HC.out.mono ?_
                  rintro e w5 ⟨v, rfl, hcr, hcf, hc5⟩
                  obtain ⟨ga, gc, rfl⟩ := row.shape hcr
                  have hC45 : Ch [] w4 w5 := HCD.out.trans hc5 (by simp)
                  have y12 := (HB12.out.ch hC45 (by simp)).cell (i := 0) rfl
                  have hsle := Sl.of_row hcr rfl (by have : (cone b.G.nodes ((rootsOf b.refs bs m).take k)).length ≤ b.G.nodes.length := (by unfold cone coneDown; rw [List.length_reverse]; exact coneFrom_len _ _ _); omega)
                  have hCF := CFint_is gc 37 #[.pointer (some ⟨w3.heap.size, 0, none⟩)] (fun y => !((cone b.G.nodes (rootsOf b.refs bs m)).map fun (r : Nat) => (r : Int)).any fun z => y == z) hsle (fun x _ => AigCone1_is cc x (HSLC.out.ch hC45 (by simp)) (by simpa [HCL.out] using y12)) fnvAigCone1
                  rw [HIN.out k] at hCF
                  simp only [List.length_map] at hCF
                  have HCF := Lib.hid hCF; clear hCF hsle hcr hcf x0 x1 x2 x12 hc5
                  have HC45 := Lib.hid hC45; clear hC45
                  go_wp2_with fail
                  refine ⟨rfl, hK _ _ ?_⟩; clear hK K
                  refine Ord.St.fl2 (T' := ?_) 6 [7, 8, 9, 10] _ _ rfl (by kernel_rfl) rfl rfl rfl rfl (fun K w' hk => ?_) ?_
                  rotate_left
                  · go_step; exact hk
                  refine Ord.St.fl2 (T' := ?_) 7 [8, 9, 10] _ _ rfl (by kernel_rfl) rfl rfl rfl rfl (fun K w' hk => ?_) ?_
                  rotate_left
                  · go_step; exact hk
                  refine Ord.St.fl2 (T' := ?_) 8 [9, 10] _ _ rfl (by kernel_rfl) rfl rfl rfl rfl (fun K w' hk => ?_) ?_
                  rotate_left
                  · go_step; exact hk
                  refine Ord.St.fl2 (T' := ?_) 9 [10] _ _ rfl (by kernel_rfl) rfl rfl rfl rfl (fun K w' hk => ?_) ?_
                  rotate_left
                  · go_step; exact hk
                  refine Ord.St.fl2 (T' := ?_) 10 [] _ _ rfl (by kernel_rfl) rfl rfl rfl rfl (fun K w' hk => ?_) ?_
                  rotate_left
                  · go_step; exact hk
                  refine Ord.St.nil ?_
                  go_wp2_with fail
                  refine HCF.out.mono ?_
                  rintro e w' ⟨rfl, rfl⟩
                  go_wp2_with fail
                  go_roundw
                  case rel => exact ⟨k + 1, by omega, by go_num, HC45.out⟩
                  case measure => simp [intOf]; omega
                · have HF := Lib.hid (hBB.bm.own.ch)
                  clear hBB x0 x1 x2 x12
                  go_wp2_with fail
                  go_ret
                  exact ⟨rfl, HF.out⟩
end
end Go.Proofs.Ytnajonchjlplmaa
