/-
  Walk over AigCut: true. Conditions: a slice of small ones; a byte.
-/
import Derived.Test.YtnajonchjlplmaaQW36
namespace Go.Proofs.Ytnajonchjlplmaa
open Go.RowKit Go.Mem Go.Aig
theorem infoArr : (Try.prog.info? 43).map (fun i => (i.zero, i.size, i.bytes)) = some (some (.agg #[.int .i64 0, .int .i64 0]), 2, 16) := by kernel_rfl
theorem slArrs : SliceTy Try.prog 69 43 2 16 (.agg #[.int .i64 0, .int .i64 0]) := ⟨Try.underlying69, infoArr, rfl, by decide⟩
/-- the sides of the first nodes, as cells -/
def sideCells (ns : List Nd) : Nat → List Value
  | 0 => []
  | i + 1 => sideCells ns i ++ [.int .i64 (lOf ns (2 * (i : Int))), .int .i64 (rOf ns (2 * (i : Int)))]
theorem right_high {ns : List Nd} {r : Int} (h : 2 * (ns.length : Int) ≤ r) : right ns r = false := by unfold right; simp; omega
theorem sideCells_len (ns : List Nd) : ∀ i, (sideCells ns i).length = i * 2
  | 0 => rfl
  | i + 1 => by simp [sideCells, sideCells_len ns i]; omega
theorem sideCells_get (ns : List Nd) : ∀ {i j : Nat}, j < i → (sideCells ns i)[j * 2]? = some (.int .i64 (lOf ns (2 * (j : Int)))) ∧ (sideCells ns i)[j * 2 + 1]? = some (.int .i64 (rOf ns (2 * (j : Int))))
  | 0, j, h => by omega
  | i + 1, j, h => by
    have hl := sideCells_len ns i
    by_cases hj : j < i
    · obtain ⟨h1, h2⟩ := sideCells_get ns hj
      unfold sideCells
      rw [List.getElem?_append_left (by omega), List.getElem?_append_left (by omega)]
      exact ⟨h1, h2⟩
    · have : j = i := by omega
      subst this
      unfold sideCells
      rw [List.getElem?_append_right (by omega), List.getElem?_append_right (by omega), hl]
      constructor
      · simp
      · rw [show j * 2 + 1 - j * 2 = 1 from by omega]; rfl
theorem sideCells_one (ns : List Nd) (i : Nat) : ∀ u ∈ sideCells ns i, u.oneCell' = true := by
  induction i with
  | zero => intro u hu; simp [sideCells] at hu
  | succ i ih =>
    intro u hu
    simp only [sideCells, List.mem_append, List.mem_cons, List.not_mem_nil, or_false] at hu
    rcases hu with hu | rfl | rfl
    · exact ih u hu
    · rfl
    · rfl
theorem nodeAt_even {ns : List Nd} (i : Nat) : nodeAt ns (2 * i : Int) = ns[i]? := by
  unfold nodeAt
  rw [if_pos (by omega), show ((2 * i : Int).toNat / 2) = i from by omega]
theorem inputs_count (env : Nat → Bool) : ∀ (ms ns : List Nd), (inputsFrom ms ns.length).length + (nv env ns).2 = (nv env (ns ++ ms)).2
  | [], ns => by simp [inputsFrom]
  | x :: ms, ns => by
    have := inputs_count env ms (ns ++ [x])
    rw [List.append_cons, ← this, nv_snoc]
    rw [show inputsFrom (x :: ms) ns.length = if x.k = 2 then 2 * ns.length :: inputsFrom ms (ns.length + 1) else inputsFrom ms (ns.length + 1) from rfl]
    unfold nvStep
    simp only [List.length_append, List.length_singleton]
    by_cases h3 : x.k = 3
    · simp [h3]
    · by_cases h2 : x.k = 2
      · simp [h2]; omega
      · simp [h3, h2]
theorem inputs_len (env : Nat → Bool) (ns : List Nd) : (inputs ns).length = (nv env ns).2 := by
  have := inputs_count env ns []
  simpa [nv, inputs] using this
theorem noin_run : ∀ (l : List Sm) (b : Bd), NoIn b.G (l.foldl stepB b).G
  | [], _ => .refl _
  | x :: l, b => (stepRes_noin b.G b.refs x).trans (noin_run l (stepB b x))
/-- cut anywhere behind the inputs, all inputs are there -/
theorem cut_inputs (l : List Sm) {k : Nat} (hk : 5 ≤ k) : (inputs ((builtB 4000 (l.take 60)).G.nodes.take k)).length = 4 := by
  obtain ⟨more, e, hm⟩ := noin_run (l.take 60) (bd0 4000 4)
  have hn0 : (bd0 4000 4).G.nodes.length = 5 := rfl
  have e2 : (builtB 4000 (l.take 60)).G.nodes = (bd0 4000 4).G.nodes ++ more := e
  rw [inputs_len (fun _ => false), e2, List.take_append, List.take_of_length_le (by omega), nv_count]
  have : ((more.take (k - (bd0 4000 4).G.nodes.length)).filter fun x => x.k == 2) = [] := by
    rw [List.filter_eq_nil_iff]
    intro x hx
    simp [hm x (List.mem_of_mem_take hx)]
  rw [this]; rfl
section
variable {w : World}
set_option maxRecDepth 100000 in
set_option maxHeartbeats 16000000 in
theorem AigCut_walk {a : Option Addr} {n cap : Nat} {l : List Sm} (hS : SmS w a n cap l) (at' : Int) (hat : (Lit.int .u8 at').wf = true) :
    Calls Try.prog 9 #[.slice a n cap, .int .u8 at'] w fun e w' => e = .returned (.bool true) ∧ Ch [] w w' := by
  have hab : 0 ≤ at' ∧ at' ≤ 255 := by simpa [Lit.wf, IntKind.min, IntKind.max, IntKind.signed, IntKind.bits] using hat
  obtain ⟨c, rfl⟩ := Int.eq_ofNat_of_zero_le hab.1
  have hcb : c ≤ 255 := by omega
  clear hat hab
  obtain ⟨hok, hnl, hrl, h60, hmo⟩ := built_ok l
  have hB := fun (W : World) (hW : Ch [] w W) => build_is (w := W) 4000 (by omega) (by omega) (hS.ch hW (by simp)) (by omega)
  have hall := runTo_all l
  have hAT := fun (i : Nat) (x : Sm) (hx : (l.take 60)[i]? = some x) => at_step hx
  have hci := fun (k : Nat) (hk : 5 ≤ k) => cut_inputs l hk
  have hpos := hok.ok.wf.pos
  have hsz : (builtB 4000 (l.take 60)).G.nodes.length ≤ 65536 := by have := hok.ok.room; have := hok.ok.most; omega
  have h5 : 5 ≤ (builtB 4000 (l.take 60)).G.nodes.length := by
    have h := (run_ok (l.take 60) (bd0_ok (most := 4000) (by omega) (by omega)) (by show 5 + 3 * _ ≤ 4000; omega)).2.1.len
    exact h
  clear hnl hmo
  generalize builtB 4000 (l.take 60) = b at *
  have hwl := hok.len
  have HB := Lib.hid hB; clear hB
  have HOK := Lib.hid hok; clear hok
  have HS := Lib.hid hS; clear hS
  have HAT := Lib.hid hAT; clear hAT
  have HALL := Lib.hid hall; clear hall
  have HRL := Lib.hid hrl; clear hrl
  have HWL := Lib.hid hwl; clear hwl
  have HCI := Lib.hid hci; clear hci
  -- where it is cut
  have hp0 : 5 ≤ 5 + c % (b.G.nodes.length - 4) ∧ 5 + c % (b.G.nodes.length - 4) ≤ b.G.nodes.length := by
    have := Nat.mod_lt c (show 0 < b.G.nodes.length - 4 by omega)
    omega
  have hcut : (5 : Int) + (c : Int) % ((b.G.nodes.length : Int) - 4) = ((5 + c % (b.G.nodes.length - 4) : Nat) : Int) := by
    have e : ((b.G.nodes.length : Int) - 4) = ((b.G.nodes.length - 4 : Nat) : Int) := by omega
    rw [e]; simp
  have hdl : decide ((b.G.nodes.length : Int) < 5) = false := decide_eq_false (by omega)
  generalize hP0 : 5 + c % (b.G.nodes.length - 4) = p0 at *
  have hcutw : wrap64 ((5 : Int) + (c : Int) % ((b.G.nodes.length : Int) - 4)) = (p0 : Int) := by rw [hcut]; exact IntWalk.wrap64_in _ (by omega)
  have HCUTW := Lib.hid hcutw; clear hcutw hcut hP0
  obtain ⟨hp5, hpl⟩ := hp0
  go_enter Try.func9, Try.ntmps9
  go_wp2_with fail
  refine (awake_is w).mono ?_
  rintro e w1 ⟨rfl, hc1⟩
  have HC1 := Lib.hid hc1; clear hc1
  go_wp2_with fail
  refine (HB.out w1 HC1.out).mono ?_
  rintro e w2 ⟨g, F, ra, rc, wa, wc, rfl, hbm⟩
  have hBB := (hbm.base HC1.out).box
  have hlen := Len_g hBB.bm.own.gin
  have ⟨x0, x1, x2⟩ := blk3 hBB.bk
  have HBB := Lib.hid hBB; clear hBB
  have HLEN := Lib.hid hlen; clear hlen HB hbm
  go_wp2_with fail
  refine HLEN.out.mono ?_
  rintro e w' ⟨rfl, rfl⟩
  go_wp2_with fail
  refine HLEN.out.mono ?_
  rintro e w' ⟨rfl, rfl⟩
  clear HLEN
  go_wp2_with fail
  rw [HCUTW.out]
  clear x0 x1 x2
  generalize hTB : w2.heap.size = tb at *
  clear hTB
  generalize w2.alloc (.cells #[.pointer (some ⟨g, 0, none⟩), .slice ra b.refs.length rc, .slice wa b.want.length wc] 28) = W0 at *
  go_loopw [9, 49] (fun o i wr => ∃ k : Nat, k ≤ b.G.nodes.length ∧ i = .int .i64 k ∧ BB o.ownBlock.toList w wr tb g F (.slice ra b.refs.length rc) (.slice wa b.want.length wc) b ∧ row wr 43 2 o k (sideCells b.G.nodes k) ∧ ∀ q ∈ o.ownBlock.toList, w.heap.size ≤ q) (fun _ i _ => b.G.nodes.length - (intOf i).toNat)
  case atStart => exact ⟨0, by omega, rfl, HBB.out, ⟨rfl, .inl ⟨rfl, rfl⟩⟩, by simp⟩
  case round =>
    clear HBB HC1
    obtain ⟨k, hk, rfl, hBB, hrow, hlo⟩ := hrel
    have x0 := hBB.bk.cell (i := 0) rfl
    obtain ⟨oa, oc, rfl⟩ := row.shape hrow
    by_cases hlt : k < b.G.nodes.length
    · have hS := Sides_g hBB.bm.own.gin (2 * k) (by omega)
      have HS2 := Lib.hid hS; clear hS
      have HBB := Lib.hid hBB; clear hBB
      have HROW := Lib.hid hrow; clear hrow
      have HLO := Lib.hid hlo; clear hlo
      go_wp2_with fail
      refine HS2.out.mono ?_
      rintro e w3 ⟨rfl, hc3⟩
      generalize hL : (lOf b.G.nodes (2 * (k : Int))) = pl at *
      generalize hR : (rOf b.G.nodes (2 * (k : Int))) = pr' at *
      have HL := Lib.hid hL; clear hL
      have HR := Lib.hid hR; clear hR
      have hcA : Ch [] wr (w3.alloc (.cells #[.int .i64 pl, .int .i64 pr'] 43)) := hc3.alloc _
      have hrA := HROW.out.ch hcA (by simp)
      have hbA : blk (w3.alloc (.cells #[.int .i64 pl, .int .i64 pr'] 43)) w3.heap.size [.int .i64 pl, .int .i64 pr'] := blk.new' _ _ rfl
      have hBA := HBB.out.same hcA
      have HRA := Lib.hid hrA; clear hrA
      have HBLA := Lib.hid hbA; clear hbA
      have HBA := Lib.hid hBA; clear hBA hcA hc3 HBB x0 HS2 HROW
      go_wp2_with (at_builtin; go_loud (refine wpList_append_row slArrs rfl _ _ rfl (v := .slice oa k oc) (n := k) (xs := sideCells b.G.nodes k) rfl HRA.out (ad := ⟨w3.heap.size, 0, none⟩) (m := 1) (c := 1) (news := [.int .i64 pl, .int .i64 pr']) rfl rfl (news_blk HBLA.out) (by simp [Value.oneCell']) (by omega) (by omega) ?_; intro v' w4 hown4 hC4 hf4; have HO4 := Lib.hid hown4; clear hown4; have HC4 := Lib.hid hC4; clear hC4; have HF4 := Lib.hid hf4; clear hf4))
      go_roundw
      case rel =>
        obtain ⟨q1, q2⟩ := HBA.out.rowStep HLO.out HC4.out (fun k hk => (HO4.out.lt k hk).2) HF4.out
        refine ⟨k + 1, by omega, by go_num, q1, ?_, q2⟩
        have := HO4.out
        unfold sideCells
        rw [HL.out, HR.out]
        exact this
      case measure => simp [intOf]; omega
    · have hkn : k = b.G.nodes.length := by omega
      rw [hkn] at hrow hBB hlo
      rw [hkn]
      clear hkn hlt hk
      have hCut := Cut_g hBB.bm.own.gin (p0 : Int) (by omega) (by omega)
      rw [show doCut b.G (p0 : Int) = ({ b.G with nodes := b.G.nodes.take p0 }, 0) from by unfold doCut; rw [if_neg (by omega)]; rfl] at hCut
      have HCT := Lib.hid hCut; clear hCut
      have HBB := Lib.hid hBB; clear hBB
      have HROW := Lib.hid hrow; clear hrow
      have HLO := Lib.hid hlo; clear hlo
      go_wp2_with fail
      refine HCT.out.mono ?_
      rintro e w3 ⟨rfl, hto⟩
      obtain ⟨F3, hBB, hkk⟩ := HBB.out.to hto
      have hrow := HROW.out.of_heap hkk
      have hl0 : (b.G.nodes.take p0).length = p0 := by rw [List.length_take]; omega
      have hL := Len_g hBB.bm.own.gin
      rw [show ({ b with G := { b.G with nodes := b.G.nodes.take p0 } } : Bd).G.nodes.length = p0 from hl0] at hL
      have hR := Right_g hBB.bm.own.gin (2 * (p0 : Int)) (by omega)
      rw [show right ({ b with G := { b.G with nodes := b.G.nodes.take p0 } } : Bd).G.nodes (2 * (p0 : Int)) = false from right_high (by show 2 * ((b.G.nodes.take p0).length : Int) ≤ _; omega)] at hR
      have hI := Inputs_g hBB.bm.own.gin
      rw [show (inputs ({ b with G := { b.G with nodes := b.G.nodes.take p0 } } : Bd).G.nodes).length = 4 from HCI.out p0 hp5] at hI
      have x3 := hBB.bk.cell (i := 0) rfl
      have HBB3 := Lib.hid hBB
      have HROW3 := Lib.hid hrow
      have HL := Lib.hid hL; clear hL
      have HR := Lib.hid hR; clear hR
      have HI := Lib.hid hI; clear hI
      clear hBB hrow hto hkk HBB HROW HCT x0 hl0
      go_wp2_with fail
      refine HL.out.mono ?_
      rintro e w' ⟨rfl, rfl⟩
      go_wp2_with fail
      refine HR.out.mono ?_
      rintro e w' ⟨rfl, rfl⟩
      go_wp2_with fail
      refine HI.out.mono ?_
      rintro e w4 ⟨v, rfl, hir, _, hc4⟩
      obtain ⟨ia, ic, rfl⟩ := row.shape hir
      have HBB4 := Lib.hid (HBB3.out.same hc4)
      have HROW4 := Lib.hid (HROW3.out.ch hc4 (by simp))
      clear hir hc4 HBB3 HROW3 x3 HL HR HI
      have hmin : min n 60 = (l.take 60).length := by rw [List.length_take, HS.out.len, Nat.min_comm]
      have hmn : ∀ (ats : Array TypeId) (ty : TypeId), Builtin.min_ ats ty #[.int .i64 (n : Int), .int .i64 60] = pure (.int .i64 ((l.take 60).length : Nat)) := fun ats ty => min_nat n 60 _ hmin ats ty
      have hml : (l.take 60).length ≤ cap := by rw [← hmin]; have := HS.out.le; omega
      have hmx := HS.out.max
      have hle := HS.out.le
      clear hmin
      have hpre : Pre b.G (max p0 (runTo l 0).G.nodes.length) { b.G with nodes := b.G.nodes.take p0 } := by
        have e : (runTo l 0).G.nodes.length ≤ p0 := by rw [runTo_zero]; show 5 ≤ _; exact hp5
        rw [Nat.max_eq_left e]
        exact ⟨rfl, hpl, rfl⟩
      generalize hML : (l.take 60).length = m at *
      have HML := Lib.hid hML; clear hML
      have HPRE := Lib.hid hpre; clear hpre
      have HEX := HROW4; clear HROW4
      have HBB := HBB4; clear HBB4
      go_wp2_with fail
      have hAGAIN : True := trivial
      go_loopw [100] (fun i wr => ∃ k : Nat, k ≤ m ∧ i = .int .i64 k ∧ ∃ F H, Pre b.G (max p0 (runTo l k).G.nodes.length) H ∧ BB (Value.slice oa b.G.nodes.length oc).ownBlock.toList w wr tb g F (.slice ra b.refs.length rc) (.slice wa b.want.length wc) ⟨H, b.refs, b.want⟩ ∧ row wr 43 2 (.slice oa b.G.nodes.length oc) b.G.nodes.length (sideCells b.G.nodes b.G.nodes.length)) (fun i _ => m - (intOf i).toNat)
      case atStart => exact ⟨0, by omega, rfl, _, _, HPRE.out, HBB.out, HEX.out⟩
      case round =>
        clear HBB HPRE hAGAIN
        obtain ⟨k, hk, rfl, F, H, hpre, hBB, hex⟩ := hrel
        have hwr := hBB.bm.own.ch
        by_cases hlt : k < m
        · obtain ⟨x, hx⟩ : ∃ x, (l.take 60)[k]? = some x := ⟨_, List.getElem?_eq_getElem (by rw [HML.out]; exact hlt)⟩
          have hat := HAT.out k x hx
          have hxl : l[k]? = some x := by
            have := hx
            rw [List.getElem?_take] at this
            split at this
            · exact this
            · cases this
          obtain ⟨bk, bo, rfl, d0, d1, d2, d3⟩ := HS.out.cells k x hxl
          obtain ⟨y1, y2, y3, y4⟩ := HS.out.bd x (List.mem_of_getElem? hxl)
          have d0 := (hwr.cell (cell_lt d0) (by simp)).trans d0
          have d1 := (hwr.cell (cell_lt d1) (by simp)).trans d1
          have d2 := (hwr.cell (cell_lt d2) (by simp)).trans d2
          have d3 := (hwr.cell (cell_lt d3) (by simp)).trans d3
          have hbr := HRL.out
          have hbw := HWL.out
          obtain ⟨c1, c2, rb, rfl⟩ := hBB.capR (by show 0 < b.refs.length; omega)
          obtain ⟨c3, c4, wb', rfl⟩ := hBB.capW (by show 0 < b.want.length; omega)
          dsimp only at c1 c3
          have e0 : (0 : Int) ≤ 5 + (k : Int) := by omega
          have e1 : (5 : Int) + (k : Int) ≤ (rc : Int) := by omega
          have e2 : (5 : Int) + (k : Int) ≤ (wc : Int) := by omega
          obtain ⟨he, hpre2⟩ := stepRes_again HOK.out.ok hat.ok hpre (Nat.le_max_right _ _) x hat.len hat.ext
          have hHl := hpre.len
          have hTF : ∀ W, Ch [] wr W → Told W g H F (some ⟨rb, 0, none⟩) (some ⟨wb', 0, none⟩) (5 + k) (b.refs.take (5 + k)) (b.want.take (5 + k)) := fun W hW => (hBB.same hW).toldTake (by show b.refs.length ≤ _; omega) (by show b.want.length ≤ _; omega) (by omega) (by show 5 + k ≤ b.refs.length; omega) (by show 5 + k ≤ b.want.length; omega) HOK.out.words (fun r hr => by
            rw [show (⟨H, b.refs, b.want⟩ : Bd).refs = b.refs from rfl, ← hat.refs] at hr
            have := hat.ok.refs r hr
            show r < 2 * H.nodes.length
            omega)
          have hgot := hat.got
          have hnx := hat.next
          rw [hat.refs] at he hpre2
          rw [hat.refs] at hgot
          generalize (stepRes H (b.refs.take (5 + k)) x).1 = H2 at *
          generalize (stepRes (runTo l k).G (b.refs.take (5 + k)) x).2.1 = r at *
          have hST : ∀ W, Ch [] wr W → Calls Try.prog 19 #[.agg #[.pointer (some ⟨g, 0, none⟩), .slice (some ⟨rb, 0, none⟩) (5 + k) rc, .slice (some ⟨wb', 0, none⟩) (5 + k) wc], .agg #[.int .u8 x.k, .int .u8 x.a, .int .u8 x.b, .int .u8 x.c]] W fun e w' => e = .returned (.tuple #[.int .i64 r, .int .u64 (stepW (b.want.take (5 + k)) x), .int .i64 0]) ∧ GTo W g H2 F w' := fun W hW => by
            have := step_is (hTF W hW) rc wc x y1 y2 y3 y4
            rw [he] at this
            exact this
          have hle2 : (runTo l k).G.nodes.length ≤ (stepB (runTo l k) x).G.nodes.length := (stepB_ok hat.ok x hat.len).2.2.1.len
          have hpre3 : Pre b.G (max p0 (runTo l (k + 1)).G.nodes.length) H2 := by
            rw [hnx]
            have e : max (max p0 (runTo l k).G.nodes.length) (stepB (runTo l k) x).G.nodes.length = max p0 (stepB (runTo l k) x).G.nodes.length := by omega
            rw [← e]; exact hpre2
          clear hTF he hpre2 hHl hnx hle2 hat hwr hx hxl
          generalize stepW (b.want.take (5 + k)) x = sw at *
          have hA : Ch [] wr (wr.alloc (.cells #[.int .u8 x.k, .int .u8 x.a, .int .u8 x.b, .int .u8 x.c] 48)) := (Ch.refl _ _).alloc _
          have hA2 := hA.alloc (.cells #[.pointer (some ⟨g, 0, none⟩), .slice (some ⟨rb, 0, none⟩) b.refs.length rc, .slice (some ⟨wb', 0, none⟩) b.want.length wc] 28)
          have ⟨p0, p1, p2⟩ := blk3 (hBB.same hA).bk
          have ⟨q0, q1, q2⟩ := blk3 (hBB.same hA2).bk
          have hsm : blk (wr.alloc (.cells #[.int .u8 x.k, .int .u8 x.a, .int .u8 x.b, .int .u8 x.c] 48)) wr.heap.size [.int .u8 x.k, .int .u8 x.a, .int .u8 x.b, .int .u8 x.c] := blk.new' _ _ rfl
          have hsm2 := hsm.alloc (.cells #[.pointer (some ⟨g, 0, none⟩), .slice (some ⟨rb, 0, none⟩) b.refs.length rc, .slice (some ⟨wb', 0, none⟩) b.want.length wc] 28)
          have ⟨s0, s1, s2, s3⟩ := blk4 hsm2
          have hnb : blk ((wr.alloc (.cells #[.int .u8 x.k, .int .u8 x.a, .int .u8 x.b, .int .u8 x.c] 48)).alloc (.cells #[.pointer (some ⟨g, 0, none⟩), .slice (some ⟨rb, 0, none⟩) b.refs.length rc, .slice (some ⟨wb', 0, none⟩) b.want.length wc] 28)) (wr.heap.size + 1) [.pointer (some ⟨g, 0, none⟩), .slice (some ⟨rb, 0, none⟩) b.refs.length rc, .slice (some ⟨wb', 0, none⟩) b.want.length wc] := blk.new' _ _ (by simp)
          have ⟨n0, n1, n2⟩ := blk3 hnb
          have f1 := hnb.frozen (i := 1)
          have f2 := hnb.frozen (i := 2)
          have htb := hBB.bk.lt
          have hne : tb ≠ wr.heap.size + 1 := by omega
          have hne2 : ¬ wr.heap.size = wr.heap.size + 1 := by omega
          have hne3 : ¬ tb = wr.heap.size + 1 := by omega
          clear hsm hsm2 hnb hA hA2
          have HBR := Lib.hid hbr; clear hbr
          have HBW := Lib.hid hbw; clear hbw
          have HST := Lib.hid hST; clear hST
          have HP3 := Lib.hid hpre3; clear hpre3
          have HBB := Lib.hid hBB; clear hBB
          have HGOT := Lib.hid hgot; clear hgot
          clear hpre
          go_wp2_with fail
          refine Ord.St.door (fun w' => w'.cell? ⟨tb, 1, none⟩ = some (.slice (some ⟨rb, 0, none⟩) b.refs.length rc) ∧ w'.cell? ⟨tb, 2, none⟩ = some (.slice (some ⟨wb', 0, none⟩) b.want.length wc)) [.fl, .rd, .fl, .fl, .fl, .fl, .ho, .fl, .fl, .fl, .fl, .ef, .fl, .ef] [0, 1, 0, 4, 15, 0, 32, 0, 128, 480, 31, 1055, 4095, 8191] [0, 1, 2, 3, 4, 5, 6, 7, 8, 9, 10, 11, 12, 13] mixed (by kernel_rfl) rfl ?_
          refine Ord.St.fl2 (T' := ?_) 0 [1, 2, 3, 4, 5, 6, 7, 8, 9, 10, 11, 12, 13] _ _ rfl (by kernel_rfl) rfl rfl rfl rfl (fun K w' hk => ?_) ?_
          rotate_left
          · go_step; exact hk
          refine Ord.St.rd2 (T' := ?_) 1 [2, 3, 4, 5, 6, 7, 8, 9, 10, 11, 12, 13] _ _ rfl (by kernel_rfl) rfl rfl rfl rfl (fun K hk => ?_) ?_
          rotate_left
          · go_step; exact hk
          refine Ord.St.fl2 (T' := ?_) 2 [3, 4, 5, 6, 7, 8, 9, 10, 11, 12, 13] _ _ rfl (by kernel_rfl) rfl rfl rfl rfl (fun K w' hk => ?_) ?_
          rotate_left
          · go_step; exact hk
          refine Ord.St.fl2 (T' := ?_) 3 [4, 5, 6, 7, 8, 9, 10, 11, 12, 13] _ _ rfl (by kernel_rfl) rfl rfl rfl rfl (fun K w' hk => ?_) ?_
          rotate_left
          · go_step; exact hk
          refine Ord.St.fl2 (T' := ?_) 4 [5, 6, 7, 8, 9, 10, 11, 12, 13] _ _ rfl (by kernel_rfl) rfl rfl rfl rfl (fun K w' hk => ?_) ?_
          rotate_left
          · go_step; exact hk
          refine Ord.St.fl2 (T' := ?_) 5 [6, 7, 8, 9, 10, 11, 12, 13] _ _ rfl (by kernel_rfl) rfl rfl rfl rfl (fun K w' hk => ?_) ?_
          rotate_left
          · go_step; exact hk
          refine Ord.St.ho2 (T' := ?_) 6 [7, 8, 9, 10, 11, 12, 13] _ _ rfl (by kernel_rfl) rfl rfl rfl rfl ?_ (fun K w' hw' hk => ?_) ?_
          rotate_left
          · exact ⟨q1, q2⟩
          · obtain ⟨k1, k2⟩ := hw'; go_step; exact hk
          refine Ord.St.fl2 (T' := ?_) 7 [8, 9, 10, 11, 12, 13] _ _ rfl (by kernel_rfl) rfl rfl rfl rfl (fun K w' hk => ?_) ?_
          rotate_left
          · go_step; exact hk
          refine Ord.St.fl2 (T' := ?_) 8 [9, 10, 11, 12, 13] _ _ rfl (by kernel_rfl) rfl rfl rfl rfl (fun K w' hk => ?_) ?_
          rotate_left
          · go_step; exact hk
          refine Ord.St.fl2 (T' := ?_) 9 [10, 11, 12, 13] _ _ rfl (by kernel_rfl) rfl rfl rfl rfl (fun K w' hk => ?_) ?_
          rotate_left
          · go_step; exact hk
          refine Ord.St.fl2 (T' := ?_) 10 [11, 12, 13] _ _ rfl (by kernel_rfl) rfl rfl rfl rfl (fun K w' hk => ?_) ?_
          rotate_left
          · go_step; exact hk
          refine Ord.St.efC 11 [12, 13] _ rfl (by kernel_rfl) (fun K hK => ?_)
          go_wp2_with fail
          refine ⟨rfl, hK _ _ ?_ ?_⟩
          · exact ⟨cell_al p1 _, cell_al p2 _⟩
          clear hK K
          refine Ord.St.fl2 (T' := ?_) 12 [13] _ _ rfl (by kernel_rfl) rfl rfl rfl rfl (fun K w' hk => ?_) ?_
          rotate_left
          · go_step; exact hk
          refine Ord.St.ef 13 [] _ rfl (by kernel_rfl) (fun K hK => ?_)
          go_wp2_with fail
          refine ⟨rfl, hK _ _ ?_⟩; clear hK K
          refine Ord.St.nil ?_
          go_wp2_with fail
          refine (HST.out _ (((Ch.refl _ _).alloc _).alloc _).drew).mono ?_
          rintro e w2 ⟨rfl, hto⟩
          obtain ⟨F2, hBB2, hkk⟩ := (HBB.out.same ((((Ch.refl [] wr).alloc _).alloc _).drew)).to hto
          have ⟨z0, z1, z2⟩ := blk3 hBB2.bk
          obtain ⟨gb, go, hge, gc⟩ := (row.sv hBB2.bm.rr rfl (by show b.refs.length ≤ _; have := HBR.out; omega)).cells (5 + k) (.int .i64 r) (by simp [refsCells, HGOT.out])
          cases hge
          rw [Nat.zero_add] at gc
          have e3 : (5 : Int) + (k : Int) < (b.refs.length : Int) := by have := HBR.out; omega
          have HBB2 := Lib.hid hBB2
          have HEX2 := Lib.hid (hex.of_heap (fun q hq => (hkk q hq).trans ((((Ch.refl [] wr).alloc _).alloc _).drew.block q (HBB.out.kp q hq).1 (by simp)))); clear hex
          clear hBB2 hto HBB HST p0 p1 p2 q0 q1 q2 s0 s1 s2 s3 n0 n1 n2 f1 f2 d0 d1 d2 d3
          go_wp2_with fail
          go_roundw
          case rel => exact ⟨k + 1, by omega, by go_num, _, _, HP3.out, HBB2.out, HEX2.out⟩
          case measure => simp [intOf]; omega
        · have hlen := hpre.len
          have hHl : H.nodes.length = b.G.nodes.length := by
            rw [hlen, show k = m from by omega, HALL.out]; omega
          have hHn : H.nodes = b.G.nodes := by rw [hpre.nodes, ← hlen, hHl, List.take_length]
          have HHN := Lib.hid hHn; clear hHn
          have HHL := Lib.hid hHl; clear hHl
          have HBB := Lib.hid hBB; clear hBB
          have HROW := Lib.hid hex; clear hex
          clear hpre hlen hwr hk
          go_wp2_with fail
          clear hlt
          go_loopw [139] (fun i wy => ∃ j : Nat, j ≤ b.G.nodes.length ∧ i = .int .i64 j ∧ BB (Value.slice oa b.G.nodes.length oc).ownBlock.toList w wy tb g F (.slice ra b.refs.length rc) (.slice wa b.want.length wc) ⟨H, b.refs, b.want⟩ ∧ row wy 43 2 (.slice oa b.G.nodes.length oc) b.G.nodes.length (sideCells b.G.nodes b.G.nodes.length)) (fun i _ => b.G.nodes.length - (intOf i).toNat)
          case atStart => exact ⟨0, by omega, rfl, HBB.out, HROW.out⟩
          case round =>
            clear HBB HROW
            obtain ⟨j, hj, rfl, hBB, hrow⟩ := hrel
            have z0 := hBB.bk.cell (i := 0) rfl
            by_cases hjl : j < b.G.nodes.length
            · have hS := Sides_g hBB.bm.own.gin (2 * j) (by omega)
              rw [show (⟨H, b.refs, b.want⟩ : Bd).G.nodes = b.G.nodes from HHN.out] at hS
              obtain ⟨ob, oc', hob⟩ := hrow.parts (by omega)
              cases hob
              obtain ⟨g1, g2⟩ := sideCells_get b.G.nodes hjl
              have HS2 := Lib.hid hS; clear hS
              have HBB := Lib.hid hBB; clear hBB
              have HROW := Lib.hid hrow; clear hrow
              generalize (lOf b.G.nodes (2 * (j : Int))) = pl at *
              generalize (rOf b.G.nodes (2 * (j : Int))) = pr' at *
              have hae : ∀ W, (Op.equalIn 10000 43 (.agg #[.int .i64 (pl : Int), .int .i64 (pr' : Int)]) (.agg #[.int .i64 (pl : Int), .int .i64 (pr' : Int)])).run Try.prog W = .ok true W := fun W => by
                have := arrEq W (pl : Int) (pr' : Int) (pl : Int) (pr' : Int)
                simpa [pr] using this
              have G1 := Lib.hid g1; clear g1
              have G2 := Lib.hid g2; clear g2
              go_wp2_with fail
              refine HS2.out.mono ?_
              rintro e w3 ⟨rfl, hc3⟩
              have hr3 := HROW.out.ch hc3 (by simp)
              have t1 := hr3.cells (g := ob) rfl (j * 2) _ G1.out
              have t2 := hr3.cells (g := ob) rfl (j * 2 + 1) _ G2.out
              rw [Addr.add_lit, Nat.zero_add] at t1 t2
              have HBB3 := Lib.hid (HBB.out.same hc3)
              have HR3 := Lib.hid hr3; clear hr3 hc3 HBB HROW HS2 z0
              go_wp2_with fail
              go_roundw
              case rel => exact ⟨j + 1, by omega, by go_num, HBB3.out, HR3.out⟩
              case measure => simp [intOf]; omega
            · have hL := Len_g hBB.bm.own.gin
              rw [show (⟨H, b.refs, b.want⟩ : Bd).G.nodes.length = b.G.nodes.length from HHL.out] at hL
              have HL := Lib.hid hL; clear hL
              have HC := Lib.hid hBB.bm.own.ch
              clear hBB hrow
              go_wp2_with fail
              refine HL.out.mono ?_
              rintro e w' ⟨rfl, rfl⟩
              go_wp2_with fail
              go_ret
              exact ⟨rfl, HC.out⟩
end
end Go.Proofs.Ytnajonchjlplmaa
