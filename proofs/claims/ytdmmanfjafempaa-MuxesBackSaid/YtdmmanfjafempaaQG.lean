/-
  Walk over MuxesBack: true, whatever comes in. Conditions: any three bytes, a slice of any numbers.
-/
import Derived.Test.YtdmmanfjafempaaQF
import Derived.Test.YtdmmanfjafempaaQD
namespace Go.Proofs.Ytdmmanfjafempaa
open Go.RowKit Go.Mem Go.Aig
section
set_option maxRecDepth 100000 in
set_option maxHeartbeats 8000000 in
theorem MuxesBack_core [Nonempty Unit] (w : World) (n wd v N W V T S : Nat) (hN : n % 4 + 1 = N) (hW : wd % 3 + 1 = W) (hV : v % 3 + 1 = V) (hT : N * W + W + V + 1 = T) (hS : T + V + W = S) {xa : Option Addr} {m xc : Nat} {l : List Nat} (hX : U32S w xa m xc l) :
    Calls Try.prog 7 #[.int .u8 n, .int .u8 wd, .int .u8 v, .slice xa m xc] w fun e w' => e = .returned (.bool true) ∧ Ch [] w w' := by
  have hN4 : 1 ≤ N ∧ N ≤ 4 := by omega
  have hW3 : 1 ≤ W ∧ W ≤ 3 := by omega
  have hV3 : 1 ≤ V ∧ V ≤ 3 := by omega
  have hNW : N * W ≤ 12 := Nat.mul_le_mul hN4.2 hW3.2
  obtain ⟨gd, hgd⟩ : ∃ gd : Nat, 2 * T = gd := ⟨_, rfl⟩
  have HBE := Lib.hid (fun W1 => begin26_T W1 n wd v N W V T gd hN hW hV hT hgd)
  have HFA := Lib.hid (fun h => back_facts (N := N) (W := W) (V := V) (T := T) hN4 hW3 hV3 hT.symm h)
  have hT20 : T ≤ 19 := by omega
  have hT1 : 1 ≤ T := by omega
  have hgd50 : gd ≤ 50 := by omega
  have HGD := Lib.hid hgd
  clear hgd
  have hS25 : S ≤ 25 := by omega
  have HI1 := Lib.hid (inG_gIn (most := 8000) (s := T) (n := V) (by omega) (by omega) (by omega))
  have HI2 := Lib.hid (inG_gIn (most := 8000) (s := T + V) (n := W) (by omega) (by omega) (by omega))
  have HTE := Lib.hid hT
  have HSE := Lib.hid hS
  clear hN hW hV hT hS
  have hlen := hX.len
  have hle := hX.le
  have hmxc := hX.max
  obtain ⟨M, hM, hM8, hMm⟩ : ∃ M, min m 20 = M ∧ M ≤ 20 ∧ M ≤ m := ⟨_, rfl, by omega, by omega⟩
  have hmin : ∀ ats ty, Builtin.min_ ats ty #[.int .i64 (m : Int), .int .i64 20] = pure (.int .i64 (M : Int)) := fun ats ty => by
    have e : (if (20 : Int) < m then 20 else (m : Int)) = M := by split <;> omega
    rw [← e]
    simp [Builtin.min_, Builtin.min2]
  have hLn : (l.take M).length = M := by rw [List.length_take, hlen]; omega
  have hLb : ∀ z ∈ l.take M, z < 4294967296 := fun z hz => hX.bd z (List.mem_of_mem_take hz)
  have hLs : Sv w xa (u32s (l.take M)) := by
    refine ⟨fun i x hx => ?_, by simp [u32s]; omega⟩
    refine hX.sv.cells i x ?_
    unfold u32s at hx
    rw [List.getElem?_map] at hx ⊢
    rw [List.getElem?_take] at hx
    split at hx
    · exact hx
    · cases hx
  generalize l.take M = L0 at *
  clear hX hlen hM hNW
  have HLN := Lib.hid hLn; clear hLn
  have HLB := Lib.hid hLb; clear hLb
  have HLS := Lib.hid hLs; clear hLs
  have HMIN := Lib.hid hmin; clear hmin
  go_enter Try.func7, Try.ntmps7
  go_wp2_with fail
  refine (awake26_is w).mono ?_
  rintro e w1 ⟨rfl, hc1⟩
  have HC1 := Lib.hid hc1; clear hc1
  go_wp2_with fail
  refine (HBE.out w1).mono ?_
  rintro e w2 ⟨g, F, ab, ac, cs, ws, wa, wc, ia, ic, rfl, ho, hcs, hws⟩
  have hwl := wld_len hws
  have HWL1 := Lib.hid hwl; clear hwl
  have HWE := Lib.hid hws; clear hws
  have HCS := Lib.hid hcs; clear hcs
  have HO := Lib.hid ho; clear ho HBE
  go_upto_region 6 with fail
  refine wp_named fun W3 hW3' => ?_
  have hlb := alw_blk (xs := [.pointer (some ⟨g, 0, none⟩), .slice (some ⟨ab, 0, none⟩) N ac, .slice wa W wc, .slice ia V ic, .int .i64 (gd : Int)]) hW3'
  have ho := HO.out.keepN (alw_ch hW3') hlb
  clear hW3' hlb HO
  generalize w2.heap.size = bx at *
  have HO := Lib.hid ho; clear ho
  have hkx := HO.out.kb (b := bx) (xs := [.pointer (some ⟨g, 0, none⟩), .slice (some ⟨ab, 0, none⟩) N ac, .slice wa W wc, .slice ia V ic, .int .i64 (gd : Int)]) (by exact List.mem_cons_self ..)
  have z0 := hkx.cell (i := 0) rfl
  have z3 := hkx.cell (i := 3) rfl
  clear hkx
  go_wp2_with fail
  refine (sInput_h HO.out (V : Int) (G' := gIn 8000 (T + V)) (l := rIn T V) (e := 0) (k := V) HI1.out (by simp [rIn]) (fun r hr => by have := rIn_le hr; omega) (by omega)).mono ?_
  rintro e w4 ⟨a1, c1, F1, rfl, ho⟩
  clear HO; have HO := Lib.hid ho; clear ho
  clear z0 z3
  have hkx := HO.out.kb (b := bx) (xs := [.pointer (some ⟨g, 0, none⟩), .slice (some ⟨ab, 0, none⟩) N ac, .slice wa W wc, .slice ia V ic, .int .i64 (gd : Int)]) (by exact List.mem_cons_self ..)
  have z0 := hkx.cell (i := 0) rfl
  have z2 := hkx.cell (i := 2) rfl
  clear hkx
  go_wp2_with fail
  refine (sInput_h HO.out (W : Int) (G' := gIn 8000 (T + V + W)) (l := rIn (T + V) W) (e := 0) (k := W) HI2.out (by simp [rIn]) (fun r hr => by have := rIn_le hr; omega) (by omega)).mono ?_
  rintro e w5 ⟨a2, c2, F2, rfl, ho⟩
  clear HO; have HO := Lib.hid ho; clear ho
  clear z0 z2
  obtain ⟨G1, G2, G3, G4, G5, l1, lb, lq, l2, ll, hF⟩ := HFA.out HO.out.own.gin.ok
  have HF := Lib.hid hF; clear hF HFA HI1 HI2
  have hkx := HO.out.kb (b := bx) (xs := [.pointer (some ⟨g, 0, none⟩), .slice (some ⟨ab, 0, none⟩) N ac, .slice wa W wc, .slice ia V ic, .int .i64 (gd : Int)]) (by exact List.mem_cons_self ..)
  have z0 := hkx.cell (i := 0) rfl
  have z1 := hkx.cell (i := 1) rfl
  have z2 := hkx.cell (i := 2) rfl
  have z3 := hkx.cell (i := 3) rfl
  have z4 := hkx.cell (i := 4) rfl
  clear hkx
  have hwa := HO.out.wa2 (b := ab) (cs := cs) (ws := ws) (by exact List.mem_cons_of_mem _ (List.mem_cons_self ..)) HCS.out (fun x hx => (by exact List.mem_cons_of_mem _ (List.mem_cons_of_mem _ (List.mem_append_left _ (List.mem_map.2 ⟨x, hx, rfl⟩))))) HWL1.out
  go_wp2_with fail
  refine (mWrite_h HO.out (lc := ac) hwa (gd : Int) (by unfold I64'; omega) (ya := ia) (yc := ic) (m := V) (yl := natInts (rIn (N * W + W) V)) (by exact List.mem_cons_of_mem _ (List.mem_cons_of_mem _ (List.mem_append_right _ (List.mem_cons_of_mem _ (List.mem_cons_self ..))))) (by simp [rIn]) (xa := wa) (xc := wc) (n := W) (xl := natInts (rIn (N * W) W)) (by exact List.mem_cons_of_mem _ (List.mem_cons_of_mem _ (List.mem_append_right _ (List.mem_cons_self ..)))) (by simp [rIn]) (by rw [HWE.out, ← HGD.out]; exact HF.out.r1) HF.out.n1 (by omega) (fun l h => by rw [HF.out.n1w l h]; omega)).mono ?_
  rintro e w6 ⟨b5, c5, F3, cs2, ws2, rfl, ho, hcs2, hws2⟩
  clear HO; have HO := Lib.hid ho; clear ho
  have HCS2 := Lib.hid hcs2; clear hcs2
  have hwl2 : ws2.length = N := by have := congrArg List.length hws2; simpa [HF.out.n1] using this
  have HWL2 := Lib.hid hwl2; clear hwl2
  have HWE2 := Lib.hid hws2; clear hws2 hwa
  clear z0 z1 z2 z3 z4
  have hkx := HO.out.kb (b := bx) (xs := [.pointer (some ⟨g, 0, none⟩), .slice (some ⟨ab, 0, none⟩) N ac, .slice wa W wc, .slice ia V ic, .int .i64 (gd : Int)]) (by exact List.mem_cons_of_mem _ (List.mem_cons_self ..))
  have z0 := hkx.cell (i := 0) rfl
  clear hkx
  have hwa := HO.out.wa2 (b := b5) (cs := cs2) (ws := ws2) (by exact List.mem_cons_self ..) HCS2.out (fun x hx => (by exact List.mem_append_left _ (List.mem_map.2 ⟨x, hx, rfl⟩))) HWL2.out
  go_wp2_with fail
  refine (mRead_h HO.out (lc := c5) hwa (ya := a1) (yc := c1) (m := V) (yl := natInts (rIn T V)) (by exact List.mem_append_right _ (List.mem_cons_of_mem _ (List.mem_cons_self ..))) (by simp [rIn]) (by rw [HWE2.out]; exact HF.out.r2) HF.out.nb HF.out.smb (by omega)).mono ?_
  rintro e w7 ⟨a3, c3, F4, rfl, ho⟩
  clear HO; have HO := Lib.hid ho; clear ho
  clear hwa
  clear z0
  have hkx := HO.out.kb (b := bx) (xs := [.pointer (some ⟨g, 0, none⟩), .slice (some ⟨ab, 0, none⟩) N ac, .slice wa W wc, .slice ia V ic, .int .i64 (gd : Int)]) (by exact List.mem_cons_of_mem _ (List.mem_cons_self ..))
  have z0 := hkx.cell (i := 0) rfl
  have z1 := hkx.cell (i := 1) rfl
  clear hkx
  have hwa := HO.out.wa2 (b := ab) (cs := cs) (ws := ws) (by exact List.mem_cons_of_mem _ (List.mem_cons_of_mem _ (List.mem_cons_self ..))) HCS.out (fun x hx => (by exact List.mem_cons_of_mem _ (List.mem_append_right _ (List.mem_cons_of_mem _ (List.mem_cons_of_mem _ (List.mem_append_left _ (List.mem_map.2 ⟨x, hx, rfl⟩))))))) HWL1.out
  go_wp2_with fail
  refine (mRead_h HO.out (lc := ac) hwa (ya := a1) (yc := c1) (m := V) (yl := natInts (rIn T V)) (by exact List.mem_cons_of_mem _ (List.mem_append_right _ (List.mem_cons_of_mem _ (List.mem_cons_self ..)))) (by simp [rIn]) (by rw [HWE.out]; exact HF.out.r3) HF.out.nq HF.out.smq (by omega)).mono ?_
  rintro e w8 ⟨a4, c4, F5, rfl, ho⟩
  clear HO; have HO := Lib.hid ho; clear ho
  clear hwa
  clear z0 z1
  have hkx := HO.out.kb (b := bx) (xs := [.pointer (some ⟨g, 0, none⟩), .slice (some ⟨ab, 0, none⟩) N ac, .slice wa W wc, .slice ia V ic, .int .i64 (gd : Int)]) (by exact List.mem_cons_of_mem _ (List.mem_cons_self ..))
  have z0 := hkx.cell (i := 0) rfl
  have z3 := hkx.cell (i := 3) rfl
  clear hkx
  have hwa := HO.out.wa2 (b := b5) (cs := cs2) (ws := ws2) (by exact List.mem_cons_self ..) HCS2.out (fun x hx => (by exact List.mem_cons_of_mem _ (List.mem_cons_of_mem _ (List.mem_append_left _ (List.mem_map.2 ⟨x, hx, rfl⟩))))) HWL2.out
  go_wp2_with fail
  refine (mWrite_h HO.out (lc := c5) hwa 1 (by decide) (ya := ia) (yc := ic) (m := V) (yl := natInts (rIn (N * W + W) V)) (by exact List.mem_cons_of_mem _ (List.mem_cons_of_mem _ (List.mem_append_right _ (List.mem_cons_of_mem _ (List.mem_cons_of_mem _ (List.mem_append_right _ (List.mem_cons_of_mem _ (List.mem_cons_self ..)))))))) (by simp [rIn]) (xa := a2) (xc := c2) (n := W) (xl := natInts (rIn (T + V) W)) (by exact List.mem_cons_of_mem _ (List.mem_cons_of_mem _ (List.mem_append_right _ (List.mem_cons_self ..)))) (by simp [rIn]) (by rw [HWE2.out]; exact HF.out.r4) HF.out.n2 (by omega) (fun l h => by rw [HF.out.n2w l h]; omega)).mono ?_
  rintro e w9 ⟨b6, c6, F6, cs3, ws3, rfl, ho, hcs3, hws3⟩
  clear HO; have HO := Lib.hid ho; clear ho
  have HCS3 := Lib.hid hcs3; clear hcs3
  have hwl3 : ws3.length = N := by have := congrArg List.length hws3; simpa [HF.out.n2] using this
  have HWL3 := Lib.hid hwl3; clear hwl3
  have HWE3 := Lib.hid hws3; clear hws3 hwa
  clear z0 z3
  have hkx := HO.out.kb (b := bx) (xs := [.pointer (some ⟨g, 0, none⟩), .slice (some ⟨ab, 0, none⟩) N ac, .slice wa W wc, .slice ia V ic, .int .i64 (gd : Int)]) (by exact List.mem_cons_of_mem _ (List.mem_cons_of_mem _ (List.mem_cons_self ..)))
  have z0 := hkx.cell (i := 0) rfl
  have z3 := hkx.cell (i := 3) rfl
  clear hkx
  have hwa := HO.out.wa2 (b := b6) (cs := cs3) (ws := ws3) (by exact List.mem_cons_self ..) HCS3.out (fun x hx => (by exact List.mem_append_left _ (List.mem_map.2 ⟨x, hx, rfl⟩))) HWL3.out
  go_wp2_with fail
  refine (mRead_h HO.out (lc := c6) hwa (ya := ia) (yc := ic) (m := V) (yl := natInts (rIn (N * W + W) V)) (by exact List.mem_append_right _ (List.mem_cons_of_mem _ (List.mem_cons_of_mem _ (List.mem_append_right _ (List.mem_cons_of_mem _ (List.mem_cons_of_mem _ (List.mem_append_right _ (List.mem_cons_of_mem _ (List.mem_cons_self ..))))))))) (by simp [rIn]) (by rw [HWE3.out]; exact HF.out.r5) HF.out.nl HF.out.sml (by omega)).mono ?_
  rintro e w10 ⟨a5, c7, F7, rfl, ho⟩
  clear HO; have HO := Lib.hid ho; clear ho
  clear hwa
  clear z0 z3
  obtain ⟨K, hK⟩ : ∃ K, M + 2 = K := ⟨_, rfl⟩
  have hcl := CLu32_is (w := w10) (a := xa) (l := L0) M xc HLN.out (HLS.out.ch (HC1.out.trans HO.out.own.ch (by simp)) (by simp)) (by omega)
  have HCL := Lib.hid hcl; clear hcl
  have hmin := HMIN.out
  go_wp2_with fail
  refine HCL.out.mono ?_
  rintro e wa5 ⟨v5, rfl, hrow, hvv, hc5⟩
  clear hmin
  obtain ⟨ca, cc, rfl⟩ := row.shape hrow
  have hcA : Ch [] wa5 (wa5.alloc (.cells #[.int .u32 0, .int .u32 4294967295] 34)) := (Ch.refl _ _).alloc _
  have hrA := hrow.ch hcA (by simp)
  have hbA : blk (wa5.alloc (.cells #[.int .u32 0, .int .u32 4294967295] 34)) wa5.heap.size [.int .u32 0, .int .u32 4294967295] := blk.new' _ _ rfl
  have HCA := Lib.hid (hc5.trans hcA (by simp))
  have HRA := Lib.hid hrA; clear hrA hrow
  have HBA := Lib.hid hbA; clear hbA
  have HVV := Lib.hid hvv; clear hvv
  clear hcA hc5 HCL
  go_wp2_with (at_builtin; go_loud (refine wpList_append_row slU32 rfl _ _ rfl (v := .slice ca M cc) (n := M) (xs := u32s L0) rfl HRA.out (ad := ⟨wa5.heap.size, 0, none⟩) (m := 2) (c := 2) (news := [.int .u32 0, .int .u32 4294967295]) rfl rfl (news_blk HBA.out) (by simp [Value.oneCell']) (by omega) (by omega) ?_; intro v' w6 hown4 hC4 hf4; obtain ⟨gb5, gc5, rfl⟩ := hown4.parts (by omega); have HO4 := Lib.hid hown4; clear hown4; have HCC4 := Lib.hid hC4; clear hC4; have HF4 := Lib.hid hf4; clear hf4))
  have hLV : u32s L0 ++ [.int .u32 0, .int .u32 4294967295] = u32s (L0 ++ [0, 4294967295]) := by simp [u32s]
  have hLn : (L0 ++ [0, 4294967295]).length = K := by rw [List.length_append, HLN.out]; simp; omega
  have hLb : ∀ z ∈ L0 ++ [0, 4294967295], z < 4294967296 := fun z hz => by
    rcases List.mem_append.1 hz with hz | hz
    · exact HLB.out z hz
    · simp only [List.mem_cons, List.not_mem_nil, or_false] at hz
      rcases hz with rfl | rfl <;> omega
  have hrow := HO4.out
  rw [hLV] at hrow
  generalize L0 ++ [0, 4294967295] = LV at *
  have HROW := Lib.hid hrow; clear hrow hLV HO4
  have ho := HO.out.same (HCA.out.trans HCC4.out (fun q hq => .inr (HVV.out q (by simpa using hq))))
  clear HO
  have HO := Lib.hid ho; clear ho
  have HLN2 := Lib.hid hLn; clear hLn
  have HLB2 := Lib.hid hLb; clear hLb
  clear HF4 HBA HRA HCA HCC4 HVV HLN HLB HLS HMIN
  go_wp2_with fail
  go_loopw [145] (fun i wr => ∃ x : Nat, x ≤ K ∧ i = .int .i64 x ∧ Ch [] w6 wr) (fun i _ => K - (intOf i).toNat)
  case atStart => exact ⟨0, by omega, rfl, Ch.refl _ _⟩
  case round =>
    obtain ⟨x, hx, rfl, hc⟩ := hrel
    obtain ⟨wo, hwo⟩ : ∃ wo, wo = wr := ⟨_, rfl⟩
    subst hwo
    by_cases hlt : x < K
    · obtain ⟨z, hz⟩ : ∃ z, LV[x]? = some z := ⟨_, List.getElem?_eq_getElem (by rw [HLN2.out]; exact hlt)⟩
      have hzb := HLB2.out z (List.mem_of_getElem? hz)
      have c0 := row_at2 (HROW.out.ch hc (by simp)) (u32s_get hz)
      have ho := HO.out.same hc
      have hV1 := values26_is ho.own.gin (T := S) (by rw [HF.out.ins, HSE.out]) (by omega) (some ⟨ab, 0, none⟩) wa ia N ac W wc V ic gd z hzb
      have HV1 := Lib.hid hV1; clear hV1
      have HOO := Lib.hid ho; clear ho
      have HC := Lib.hid hc; clear hc hz
      have hkx := HOO.out.kb (b := bx) (xs := [.pointer (some ⟨g, 0, none⟩), .slice (some ⟨ab, 0, none⟩) N ac, .slice wa W wc, .slice ia V ic, .int .i64 (gd : Int)]) (by exact List.mem_cons_of_mem _ (List.mem_cons_of_mem _ (List.mem_cons_self ..)))
      have z0 := hkx.cell (i := 0) rfl
      have z1 := hkx.cell (i := 1) rfl
      have z2 := hkx.cell (i := 2) rfl
      have z3 := hkx.cell (i := 3) rfl
      have z4 := hkx.cell (i := 4) rfl
      clear hkx
      go_wp2_with fail
      (with_reducible refine HV1.out.mono ?_)
      rintro e w7 ⟨v7, rfl, hrow7, _, hc7⟩
      clear c0 z0 z1 z2 z3 z4 HV1
      obtain ⟨va, vc, rfl⟩ := row.shape hrow7
      have hsb : Sb w7 va (insOf S z) := row.sv hrow7 rfl (by omega)
      have hil := insOf_len S z
      generalize insOf S z = ins at *
      have hoo := HOO.out.same hc7
      clear HOO
      have HOO := Lib.hid hoo; clear hoo
      have HSB := Lib.hid hsb; clear hsb hrow7
      have HC7 := Lib.hid (HC.out.trans hc7 (by simp)); clear hc7 HC
      have hnm := numbers26_is (w := w7) (ab := ab) (N := N) (W := W) (V := V) (ac := ac) (T := S) (xc := vc) (cs := cs) (ws := ws) (wa := wa) (ia := ia) (xa := va) (wc := wc) (ic := ic) (ins := ins) (some ⟨g, 0, none⟩) gd (by omega) (by omega) (by omega) (HOO.out.kb (b := ab) (xs := cs) (by exact List.mem_cons_of_mem _ (List.mem_cons_of_mem _ (List.mem_cons_of_mem _ (List.mem_cons_self ..))))) HCS.out HWE.out hil (by omega) HSB.out
      have HNM := Lib.hid hnm; clear hnm
      have hR1 := fun (WZ : World) (hW : Ch [] w7 WZ) => Reads_is (w := WZ) (HOO.out.own.gin.same hW (by simp)) (a := a1) (l := natInts (rIn T V)) (m := V) (c := c1) (by simp [rIn]) ((HOO.out.same hW).sl (by exact List.mem_cons_of_mem _ (List.mem_append_right _ (List.mem_cons_of_mem _ (List.mem_cons_of_mem _ (List.mem_append_right _ (List.mem_cons_of_mem _ (List.mem_cons_self ..))))))) (by simp [rIn])) ((HOO.out.same hW).held _ (by exact List.mem_cons_of_mem _ (List.mem_append_right _ (List.mem_cons_of_mem _ (List.mem_cons_of_mem _ (List.mem_append_right _ (List.mem_cons_of_mem _ (List.mem_cons_self ..)))))))).bd (xa := va) (ins := ins) (k := S) (xc := vc) hil (HSB.out.ch hW (by simp)) (by omega) (bitsR_ok (fun r hr => HF.out.g0 r (rIn_lt2 (by omega) r hr)) (by rw [HF.out.ins, HSE.out, hil])) (by simp [rIn]) (by omega) (by omega)
      have hR2 := fun (WZ : World) (hW : Ch [] w7 WZ) => Reads_is (w := WZ) (HOO.out.own.gin.same hW (by simp)) (a := a2) (l := natInts (rIn (T + V) W)) (m := W) (c := c2) (by simp [rIn]) ((HOO.out.same hW).sl (by exact List.mem_cons_of_mem _ (List.mem_append_right _ (List.mem_cons_of_mem _ (List.mem_cons_of_mem _ (List.mem_append_right _ (List.mem_cons_self ..)))))) (by simp [rIn])) ((HOO.out.same hW).held _ (by exact List.mem_cons_of_mem _ (List.mem_append_right _ (List.mem_cons_of_mem _ (List.mem_cons_of_mem _ (List.mem_append_right _ (List.mem_cons_self ..))))))).bd (xa := va) (ins := ins) (k := S) (xc := vc) hil (HSB.out.ch hW (by simp)) (by omega) (bitsR_ok (fun r hr => HF.out.g0 r (rIn_lt2 (by omega) r hr)) (by rw [HF.out.ins, HSE.out, hil])) (by simp [rIn]) (by omega) (by omega)
      have hR3 := fun (WZ : World) (hW : Ch [] w7 WZ) => Reads_is (w := WZ) (HOO.out.own.gin.same hW (by simp)) (a := a3) (l := natInts (lb)) (m := W) (c := c3) (by rw [natInts_len]; exact HF.out.nb) ((HOO.out.same hW).sl (by exact List.mem_cons_of_mem _ (List.mem_append_right _ (List.mem_cons_of_mem _ (List.mem_cons_self ..)))) (by rw [natInts_len]; exact HF.out.nb)) ((HOO.out.same hW).held _ (by exact List.mem_cons_of_mem _ (List.mem_append_right _ (List.mem_cons_of_mem _ (List.mem_cons_self ..))))).bd (xa := va) (ins := ins) (k := S) (xc := vc) hil (HSB.out.ch hW (by simp)) (by omega) (bitsR_ok HF.out.gb (by rw [HF.out.ins, HSE.out, hil])) (by simp [HF.out.nb]) (by omega) (by omega)
      have hR4 := fun (WZ : World) (hW : Ch [] w7 WZ) => Reads_is (w := WZ) (HOO.out.own.gin.same hW (by simp)) (a := a4) (l := natInts (lq)) (m := W) (c := c4) (by rw [natInts_len]; exact HF.out.nq) ((HOO.out.same hW).sl (by exact List.mem_cons_of_mem _ (List.mem_append_right _ (List.mem_cons_self ..))) (by rw [natInts_len]; exact HF.out.nq)) ((HOO.out.same hW).held _ (by exact List.mem_cons_of_mem _ (List.mem_append_right _ (List.mem_cons_self ..)))).bd (xa := va) (ins := ins) (k := S) (xc := vc) hil (HSB.out.ch hW (by simp)) (by omega) (bitsR_ok HF.out.gq (by rw [HF.out.ins, HSE.out, hil])) (by simp [HF.out.nq]) (by omega) (by omega)
      have hR5 := fun (WZ : World) (hW : Ch [] w7 WZ) => Reads_is (w := WZ) (HOO.out.own.gin.same hW (by simp)) (a := a5) (l := natInts (ll)) (m := W) (c := c7) (by rw [natInts_len]; exact HF.out.nl) ((HOO.out.same hW).sl (by exact List.mem_cons_self ..) (by rw [natInts_len]; exact HF.out.nl)) ((HOO.out.same hW).held _ (by exact List.mem_cons_self ..)).bd (xa := va) (ins := ins) (k := S) (xc := vc) hil (HSB.out.ch hW (by simp)) (by omega) (bitsR_ok HF.out.gl (by rw [HF.out.ins, HSE.out, hil])) (by simp [HF.out.nl]) (by omega) (by omega)
      have va1 := HF.out.va (envB ins)
      have vn1 := HF.out.vn (envB ins)
      have vb1 := HF.out.vb (envB ins)
      have vl1 := HF.out.vl (envB ins)
      have hT1' : N * W + W + V = T - 1 := by have := HTE.out; omega
      rw [va1] at hR1
      rw [vn1] at hR2
      rw [hT1'] at HNM
      have bA := nbE_lt (envB ins) T V
      have bI := nbE_lt (envB ins) (N * W + W) V
      have p8 : 2 ^ V ≤ 8 := Nat.pow_le_pow_right (by omega) (by omega : V ≤ 3)
      generalize nbE (envB ins) T V = nA at *
      generalize nbE (envB ins) (T + V) W = nN at *
      generalize nbE (envB ins) (N * W) W = nW at *
      generalize nbE (envB ins) (N * W + W) V = nI at *
      generalize bitsVal (lb.map (bv (envB ins) G5.nodes)) = nP at *
      generalize bitsVal (lq.map (bv (envB ins) G5.nodes)) = nQ at *
      generalize bitsVal (ll.map (bv (envB ins) G5.nodes)) = nR at *
      generalize envB ins (T - 1) = gv at *
      have bA8 : nA < 8 := Nat.lt_of_lt_of_le bA p8
      have bI8 : nI < 8 := Nat.lt_of_lt_of_le bI p8
      clear va1 vn1 bA bI p8 hT1'
      have VB := Lib.hid vb1; clear vb1
      have VL := Lib.hid vl1; clear vl1
      have HR1 := Lib.hid hR1; clear hR1
      have HR2 := Lib.hid hR2; clear hR2
      have HR3 := Lib.hid hR3; clear hR3
      have HR4 := Lib.hid hR4; clear hR4
      have HR5 := Lib.hid hR5; clear hR5
      clear hil
      have hkx := HOO.out.kb (b := bx) (xs := [.pointer (some ⟨g, 0, none⟩), .slice (some ⟨ab, 0, none⟩) N ac, .slice wa W wc, .slice ia V ic, .int .i64 (gd : Int)]) (by exact List.mem_cons_of_mem _ (List.mem_cons_of_mem _ (List.mem_cons_self ..)))
      have z0 := hkx.cell (i := 0) rfl
      have z1 := hkx.cell (i := 1) rfl
      have z2 := hkx.cell (i := 2) rfl
      have z3 := hkx.cell (i := 3) rfl
      have z4 := hkx.cell (i := 4) rfl
      clear hkx
      go_wp2_with fail
      (with_reducible refine HNM.out.mono ?_)
      rintro e w8 ⟨oa, oc, rfl, _, _, hc8⟩
      clear z0 z1 z2 z3 z4
      have HC8 := Lib.hid hc8; clear hc8 HNM
      have hx := HR1.out w8 HC8.out
      have z0 := ((HOO.out.same HC8.out).kb (b := bx) (xs := [.pointer (some ⟨g, 0, none⟩), .slice (some ⟨ab, 0, none⟩) N ac, .slice wa W wc, .slice ia V ic, .int .i64 (gd : Int)]) (by exact List.mem_cons_of_mem _ (List.mem_cons_of_mem _ (List.mem_cons_self ..)))).cell (i := 0) rfl
      have HXX := Lib.hid hx; clear hx
      go_wp2_with fail
      (with_reducible refine HXX.out.mono ?_)
      rintro e w9 ⟨rfl, hc9⟩
      clear z0 HXX
      have HC8 := Lib.hid (HC8.out.trans hc9 (by simp)); clear hc9
      have hx := HR2.out w9 HC8.out
      have z0 := ((HOO.out.same HC8.out).kb (b := bx) (xs := [.pointer (some ⟨g, 0, none⟩), .slice (some ⟨ab, 0, none⟩) N ac, .slice wa W wc, .slice ia V ic, .int .i64 (gd : Int)]) (by exact List.mem_cons_of_mem _ (List.mem_cons_of_mem _ (List.mem_cons_self ..)))).cell (i := 0) rfl
      have HXX := Lib.hid hx; clear hx
      go_wp2_with fail
      (with_reducible refine HXX.out.mono ?_)
      rintro e w10 ⟨rfl, hc9⟩
      clear z0 HXX
      have HC8 := Lib.hid (HC8.out.trans hc9 (by simp)); clear hc9
      have hx := HR3.out w10 HC8.out
      have z0 := ((HOO.out.same HC8.out).kb (b := bx) (xs := [.pointer (some ⟨g, 0, none⟩), .slice (some ⟨ab, 0, none⟩) N ac, .slice wa W wc, .slice ia V ic, .int .i64 (gd : Int)]) (by exact List.mem_cons_of_mem _ (List.mem_cons_of_mem _ (List.mem_cons_self ..)))).cell (i := 0) rfl
      have HXX := Lib.hid hx; clear hx
      go_wp2_with fail
      (with_reducible refine HXX.out.mono ?_)
      rintro e w11 ⟨rfl, hc9⟩
      clear z0 HXX
      have HC8 := Lib.hid (HC8.out.trans hc9 (by simp)); clear hc9
      have hx := HR4.out w11 HC8.out
      have z0 := ((HOO.out.same HC8.out).kb (b := bx) (xs := [.pointer (some ⟨g, 0, none⟩), .slice (some ⟨ab, 0, none⟩) N ac, .slice wa W wc, .slice ia V ic, .int .i64 (gd : Int)]) (by exact List.mem_cons_of_mem _ (List.mem_cons_of_mem _ (List.mem_cons_self ..)))).cell (i := 0) rfl
      have HXX := Lib.hid hx; clear hx
      go_wp2_with fail
      (with_reducible refine HXX.out.mono ?_)
      rintro e w12 ⟨rfl, hc9⟩
      clear z0 HXX
      have HC8 := Lib.hid (HC8.out.trans hc9 (by simp)); clear hc9
      have hx := HR5.out w12 HC8.out
      have z0 := ((HOO.out.same HC8.out).kb (b := bx) (xs := [.pointer (some ⟨g, 0, none⟩), .slice (some ⟨ab, 0, none⟩) N ac, .slice wa W wc, .slice ia V ic, .int .i64 (gd : Int)]) (by exact List.mem_cons_of_mem _ (List.mem_cons_of_mem _ (List.mem_cons_self ..)))).cell (i := 0) rfl
      have HXX := Lib.hid hx; clear hx
      go_wp2_with fail
      (with_reducible refine HXX.out.mono ?_)
      rintro e w13 ⟨rfl, hc9⟩
      clear z0 HXX
      have HC8 := Lib.hid (HC8.out.trans hc9 (by simp)); clear hc9
      go_upto_region 25 with fail
      clear HR1 HR2 HR3 HR4 HR5 HSB HOO
      have hrel : Ch [] w6 w13 := HC7.out.trans HC8.out (by simp)
      have HRL := Lib.hid hrel; clear hrel HC7 HC8
      have key : ∀ (b1 : Bool) (b2 : Bool) (b3 : Bool), gv = b1 → decide (nA = nI) = b2 → decide (nI < N) = b3 → nP = (if b1 && b2 && b3 then nW else nQ) ∧ nR = (if b3 then nN else 0) := fun b1 b2 b3 h1 h2 h3 => by
        rw [VB.out, VL.out]
        subst h1 h2 h3
        constructor
        · by_cases h4 : gv = true <;> by_cases h5 : nA = nI <;> by_cases h6 : nI < N <;> simp [h4, h5, h6]
        · by_cases h6 : nI < N <;> simp [h6]
      have KEY := Lib.hid key; clear key VB VL
      cases gv
      · by_cases hA : nA = nI
        · have q0 : ((nA : Int) == nI) = true := beqI (by omega)
          by_cases hI : nI < N
          · have q1 : decide ((nI : Int) < N) = true := decide_eq_true (by omega)
            have q2 : decide (nI < N) = true := decide_eq_true (by omega)
            have q3 : decide ((N : Int) ≤ nI) = false := decide_eq_false (by omega)
            have q4 : decide (N ≤ nI) = false := decide_eq_false (by omega)
            obtain ⟨rfl, rfl⟩ : nP = nQ ∧ nR = nN := KEY.out false true true rfl (by simp; omega) (by simp; omega)
            clear KEY
            go_wp2_with fail
            go_roundw
            case rel => exact ⟨x + 1, by omega, by go_num, HRL.out⟩
            case measure => simp [intOf]; omega
          · have q1 : decide ((nI : Int) < N) = false := decide_eq_false (by omega)
            have q2 : decide (nI < N) = false := decide_eq_false (by omega)
            have q3 : decide ((N : Int) ≤ nI) = true := decide_eq_true (by omega)
            have q4 : decide (N ≤ nI) = true := decide_eq_true (by omega)
            obtain ⟨rfl, rfl⟩ : nP = nQ ∧ nR = 0 := KEY.out false true false rfl (by simp; omega) (by simp; omega)
            clear KEY
            go_wp2_with fail
            go_roundw
            case rel => exact ⟨x + 1, by omega, by go_num, HRL.out⟩
            case measure => simp [intOf]; omega
        · have q0 : ((nA : Int) == nI) = false := beqN (by omega)
          by_cases hI : nI < N
          · have q1 : decide ((nI : Int) < N) = true := decide_eq_true (by omega)
            have q2 : decide (nI < N) = true := decide_eq_true (by omega)
            have q3 : decide ((N : Int) ≤ nI) = false := decide_eq_false (by omega)
            have q4 : decide (N ≤ nI) = false := decide_eq_false (by omega)
            obtain ⟨rfl, rfl⟩ : nP = nQ ∧ nR = nN := KEY.out false false true rfl (by simp; omega) (by simp; omega)
            clear KEY
            go_wp2_with fail
            go_roundw
            case rel => exact ⟨x + 1, by omega, by go_num, HRL.out⟩
            case measure => simp [intOf]; omega
          · have q1 : decide ((nI : Int) < N) = false := decide_eq_false (by omega)
            have q2 : decide (nI < N) = false := decide_eq_false (by omega)
            have q3 : decide ((N : Int) ≤ nI) = true := decide_eq_true (by omega)
            have q4 : decide (N ≤ nI) = true := decide_eq_true (by omega)
            obtain ⟨rfl, rfl⟩ : nP = nQ ∧ nR = 0 := KEY.out false false false rfl (by simp; omega) (by simp; omega)
            clear KEY
            go_wp2_with fail
            go_roundw
            case rel => exact ⟨x + 1, by omega, by go_num, HRL.out⟩
            case measure => simp [intOf]; omega
      · by_cases hA : nA = nI
        · have q0 : ((nA : Int) == nI) = true := beqI (by omega)
          by_cases hI : nI < N
          · have q1 : decide ((nI : Int) < N) = true := decide_eq_true (by omega)
            have q2 : decide (nI < N) = true := decide_eq_true (by omega)
            have q3 : decide ((N : Int) ≤ nI) = false := decide_eq_false (by omega)
            have q4 : decide (N ≤ nI) = false := decide_eq_false (by omega)
            obtain ⟨rfl, rfl⟩ : nP = nW ∧ nR = nN := KEY.out true true true rfl (by simp; omega) (by simp; omega)
            clear KEY
            go_wp2_with fail
            go_roundw
            case rel => exact ⟨x + 1, by omega, by go_num, HRL.out⟩
            case measure => simp [intOf]; omega
          · have q1 : decide ((nI : Int) < N) = false := decide_eq_false (by omega)
            have q2 : decide (nI < N) = false := decide_eq_false (by omega)
            have q3 : decide ((N : Int) ≤ nI) = true := decide_eq_true (by omega)
            have q4 : decide (N ≤ nI) = true := decide_eq_true (by omega)
            obtain ⟨rfl, rfl⟩ : nP = nQ ∧ nR = 0 := KEY.out true true false rfl (by simp; omega) (by simp; omega)
            clear KEY
            go_wp2_with fail
            go_roundw
            case rel => exact ⟨x + 1, by omega, by go_num, HRL.out⟩
            case measure => simp [intOf]; omega
        · have q0 : ((nA : Int) == nI) = false := beqN (by omega)
          by_cases hI : nI < N
          · have q1 : decide ((nI : Int) < N) = true := decide_eq_true (by omega)
            have q2 : decide (nI < N) = true := decide_eq_true (by omega)
            have q3 : decide ((N : Int) ≤ nI) = false := decide_eq_false (by omega)
            have q4 : decide (N ≤ nI) = false := decide_eq_false (by omega)
            obtain ⟨rfl, rfl⟩ : nP = nQ ∧ nR = nN := KEY.out true false true rfl (by simp; omega) (by simp; omega)
            clear KEY
            go_wp2_with fail
            go_roundw
            case rel => exact ⟨x + 1, by omega, by go_num, HRL.out⟩
            case measure => simp [intOf]; omega
          · have q1 : decide ((nI : Int) < N) = false := decide_eq_false (by omega)
            have q2 : decide (nI < N) = false := decide_eq_false (by omega)
            have q3 : decide ((N : Int) ≤ nI) = true := decide_eq_true (by omega)
            have q4 : decide (N ≤ nI) = true := decide_eq_true (by omega)
            obtain ⟨rfl, rfl⟩ : nP = nQ ∧ nR = 0 := KEY.out true false false rfl (by simp; omega) (by simp; omega)
            clear KEY
            go_wp2_with fail
            go_roundw
            case rel => exact ⟨x + 1, by omega, by go_num, HRL.out⟩
            case measure => simp [intOf]; omega
    · have HC := Lib.hid hc; clear hc
      go_wp2_with fail
      go_ret
      exact ⟨rfl, (HC1.out.trans HO.out.own.ch (by simp)).trans HC.out (by simp)⟩
theorem MuxesBack_walk {w : World} (n : Nat) (_ : n ≤ 255) (wd : Nat) (_ : wd ≤ 255) (v : Nat) (_ : v ≤ 255) {xa : Option Addr} {m xc : Nat} {l : List Nat} (hX : U32S w xa m xc l) :
    Calls Try.prog 7 #[.int .u8 n, .int .u8 wd, .int .u8 v, .slice xa m xc] w fun e w' => e = .returned (.bool true) ∧ Ch [] w w' :=
  MuxesBack_core w n wd v _ _ _ _ _ rfl rfl rfl rfl rfl hX
end
end Go.Proofs.Ytdmmanfjafempaa
