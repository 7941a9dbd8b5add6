/-
  Walk over MuxesIs: true, whatever comes in. Conditions: any three bytes, a slice of any numbers.
-/
import Derived.Test.YtdmmanfjafempaaGreatQF
import Derived.Test.YtdmmanfjafempaaGreatQD
import Derived.Deep.DeepCutAuto
import Derived.Deep.CutBlock
namespace Go.Proofs.YtdmmanfjafempaaGreat
open Go.RowKit Go.Mem Go.Aig
section
set_option maxRecDepth 100000 in
set_option maxHeartbeats 8000000 in
theorem MuxesIs_core [Nonempty Unit] (w : World) (n wd v N W V S : Nat) (hN : n % 4 + 1 = N) (hW : wd % 3 + 1 = W) (hV : v % 3 + 1 = V) (hT : N * W + W + V + 1 = S) {xa : Option Addr} {m xc : Nat} {l : List Nat} (hX : U32S w xa m xc l) :
    Calls Tryz.prog 6 #[.int .u8 n, .int .u8 wd, .int .u8 v, .slice xa m xc] w fun e w' => e = .returned (.bool true) ∧ Ch [] w w' := by
  have hN4 : 1 ≤ N ∧ N ≤ 4 := by omega
  have hW3 : 1 ≤ W ∧ W ≤ 3 := by omega
  have hV3 : 1 ≤ V ∧ V ≤ 3 := by omega
  have hNW : N * W ≤ 12 := Nat.mul_le_mul hN4.2 hW3.2
  obtain ⟨gd, hgd⟩ : ∃ gd : Nat, 2 * S = gd := ⟨_, rfl⟩
  have HBE := Lib.hid (fun W1 => begin26_T W1 n wd v N W V S gd hN hW hV hT hgd)
  have HFA := Lib.hid (fun h => is_facts26 (N := N) (W := W) (V := V) (T := S) hN4 hW3 hV3 hT.symm h)
  have hS25 : S ≤ 19 := by omega
  have hS1 : 1 ≤ S := by omega
  have hgd50 : gd ≤ 50 := by omega
  have HGD := Lib.hid hgd
  clear hgd
  have HTE := Lib.hid hT
  clear hN hW hV hT
  obtain ⟨D, hD⟩ : ∃ D, 2 ^ V = D := ⟨_, rfl⟩
  have hD8 : D ≤ 8 := by
    have : (2 : Nat) ^ V ≤ 2 ^ 3 := Nat.pow_le_pow_right (by omega) (by omega)
    omega
  have hD1 : 1 ≤ D := by rw [← hD]; exact Nat.one_le_two_pow
  have hwD : wrap64 ((2 : Int) ^ V) = ((D : Nat) : Int) := by
    have : ((2 : Int) ^ V) = ((2 ^ V : Nat) : Int) := by simp
    rw [this, hD]
    exact IntWalk.wrap64_in _ (by omega)
  have HWD := Lib.hid hwD; clear hwD
  have HD := Lib.hid hD; clear hD
  obtain ⟨Q, hQ⟩ : ∃ Q, 2 % D = Q := ⟨_, rfl⟩
  have eQ : (2 : Int) % (D : Int) = (Q : Int) := by rw [← hQ]; simp
  have EQ := Lib.hid eQ; clear eQ
  have HQ := Lib.hid hQ
  have hQ2 : Q ≤ 2 := by rw [← hQ]; exact Nat.mod_le _ _
  clear hQ
  have hlen := hX.len
  have hle := hX.le
  have hmxc := hX.max
  obtain ⟨M, hM, hM8, hMm⟩ : ∃ M, min m 20 = M ∧ M ≤ 20 ∧ M ≤ m := ⟨_, rfl, by omega, by omega⟩
  have hmin : ∀ ats ty, Builtin.min_ ats ty #[.int .i64 (m : Int), .int .i64 20] = pure (.int .i64 (M : Int)) := fun ats ty => by
    have e : (if (20 : Int) < m then 20 else (m : Int)) = M := by split <;> omega
    rw [← e]
    simp [Builtin.min_, Builtin.min2]
  have hLn : (l.take M).length = M := by rw [List.length_take, hlen]; omega
  have hLb : ∀ z ∈ l.take M, z < 4294967296 := fun z hz => hX.bd z (List.mem_of_mem_take hz)
  have hLs : Sv w xa (u32s (l.take M)) := by
    refine ⟨fun i x hx => ?_, by simp [u32s]; omega⟩
    refine hX.sv.cells i x ?_
    unfold u32s at hx
    rw [List.getElem?_map] at hx ⊢
    rw [List.getElem?_take] at hx
    split at hx
    · exact hx
    · cases hx
  generalize l.take M = L0 at *
  clear hX hlen hM hNW
  have HLN := Lib.hid hLn; clear hLn
  have HLB := Lib.hid hLb; clear hLb
  have HLS := Lib.hid hLs; clear hLs
  have HMIN := Lib.hid hmin; clear hmin
  go_enter Tryz.func6, Tryz.ntmps6
  go_wp2_with fail
  refine (awake26_is w).mono ?_
  rintro e w1 ⟨rfl, hc1⟩
  have HC1 := Lib.hid hc1; clear hc1
  go_wp2_with fail
  refine (HBE.out w1).mono ?_
  rintro e w2 ⟨g, F, ab, ac, cs, ws, wa, wc, ia, ic, rfl, ho, hcs, hws⟩
  have hwl := wld_len hws
  have HWL1 := Lib.hid hwl; clear hwl
  have HWE := Lib.hid hws; clear hws
  have HCS := Lib.hid hcs; clear hcs
  have HO := Lib.hid ho; clear ho HBE
  go_upto_region 6 with fail
  refine wp_named fun W3 hW3' => ?_
  have hlb := alw_blk (xs := [.pointer (some ⟨g, 0, none⟩), .slice (some ⟨ab, 0, none⟩) N ac, .slice wa W wc, .slice ia V ic, .int .i64 (gd : Int)]) hW3'
  have ho := HO.out.keepN (alw_ch hW3') hlb
  clear hW3' hlb HO
  generalize w2.heap.size = bx at *
  have HO := Lib.hid ho; clear ho
  obtain ⟨G1, G2, G3, G4, lr, ls, lc, ri, hF⟩ := HFA.out HO.out.own.gin.ok
  have HF := Lib.hid hF; clear hF HFA
  have hkx := HO.out.kb (b := bx) (xs := [.pointer (some ⟨g, 0, none⟩), .slice (some ⟨ab, 0, none⟩) N ac, .slice wa W wc, .slice ia V ic, .int .i64 (gd : Int)]) (by exact List.mem_cons_self ..)
  have z0 := hkx.cell (i := 0) rfl
  have z1 := hkx.cell (i := 1) rfl
  have z3 := hkx.cell (i := 3) rfl
  clear hkx
  have hwa := HO.out.wa2 (b := ab) (cs := cs) (ws := ws) (by exact List.mem_cons_of_mem _ (List.mem_cons_self ..)) HCS.out (fun x hx => (by exact List.mem_append_left _ (List.mem_map.2 ⟨x, hx, rfl⟩))) HWL1.out
  go_wp2_with fail
  refine (mRead_h HO.out (lc := ac) hwa (ya := ia) (yc := ic) (m := V) (yl := natInts (rIn (N * W + W) V)) (by exact List.mem_append_right _ (List.mem_cons_of_mem _ (List.mem_cons_self ..))) (by simp [rIn]) (by rw [HWE.out]; exact HF.out.r1) HF.out.n1 (refs_le HF.out.ok HF.out.g1) (by omega)).mono ?_
  rintro e w4 ⟨a3, c3, F4, rfl, ho⟩
  clear HO; have HO := Lib.hid ho; clear ho
  clear hwa
  clear z0 z1 z3
  have hkx := HO.out.kb (b := bx) (xs := [.pointer (some ⟨g, 0, none⟩), .slice (some ⟨ab, 0, none⟩) N ac, .slice wa W wc, .slice ia V ic, .int .i64 (gd : Int)]) (by exact List.mem_cons_self ..)
  have z0 := hkx.cell (i := 0) rfl
  have z1 := hkx.cell (i := 1) rfl
  have z2 := hkx.cell (i := 2) rfl
  have z3 := hkx.cell (i := 3) rfl
  have z4 := hkx.cell (i := 4) rfl
  clear hkx
  have hwa := HO.out.wa2 (b := ab) (cs := cs) (ws := ws) (by exact List.mem_cons_of_mem _ (List.mem_cons_self ..)) HCS.out (fun x hx => (by exact List.mem_cons_of_mem _ (List.mem_append_left _ (List.mem_map.2 ⟨x, hx, rfl⟩)))) HWL1.out
  go_wp2_with fail
  refine (mWrite_h HO.out (lc := ac) hwa (gd : Int) (by unfold I64'; omega) (ya := ia) (yc := ic) (m := V) (yl := natInts (rIn (N * W + W) V)) (by exact List.mem_cons_of_mem _ (List.mem_append_right _ (List.mem_cons_of_mem _ (List.mem_cons_self ..)))) (by simp [rIn]) (xa := wa) (xc := wc) (n := W) (xl := natInts (rIn (N * W) W)) (by exact List.mem_cons_of_mem _ (List.mem_append_right _ (List.mem_cons_self ..))) (by simp [rIn]) (by rw [HWE.out, ← HGD.out]; exact HF.out.r2) HF.out.n2 (by omega) (fun l h => by rw [HF.out.n2w l h]; omega)).mono ?_
  rintro e w5 ⟨b5, c5, F3, cs2, ws2, rfl, ho, hcs2, hws2⟩
  clear HO; have HO := Lib.hid ho; clear ho
  have HCS2 := Lib.hid hcs2; clear hcs2
  have hwl2 : ws2.length = N := by have := congrArg List.length hws2; simpa [HF.out.n2] using this
  have HWL2 := Lib.hid hwl2; clear hwl2
  have HWE2 := Lib.hid hws2; clear hws2 hwa
  clear z0 z1 z2 z3 z4
  go_upto_region 8 with fail
  obtain ⟨Wc, hWc⟩ : ∃ Wc, Wc = w5.drew := ⟨_, rfl⟩
  have ho := HO.out.same (show Ch [] w5 Wc by rw [hWc]; exact (Ch.refl _ _).drew)
  clear HO; have HO := Lib.hid ho; clear ho
  obtain ⟨x0, hx0⟩ : ∃ x, ws[0]? = some x := ⟨_, List.getElem?_eq_getElem (by rw [HWL1.out]; omega)⟩
  have hx0l : x0.l = natInts (rIn 0 W) := by
    have h1 : (ws.map WV.l)[0]? = some x0.l := by rw [List.getElem?_map, hx0]; rfl
    rw [HWE.out] at h1
    unfold wldL at h1
    rw [List.getElem?_map, List.getElem?_range (by omega)] at h1
    have h2 := Option.some.inj h1
    rw [← h2]
    simp
  have dx0 := (HO.out.kb (b := ab) (xs := cs) (by exact List.mem_cons_of_mem _ (List.mem_cons_of_mem _ (List.mem_cons_self ..)))).cell (HCS.out 0 x0 hx0)
  have hx0m := List.mem_of_getElem? hx0
  obtain ⟨x0a, x0w, x0c⟩ := x0
  simp only at hx0l
  subst hx0l
  simp only [WV.val, natInts_len, show (rIn 0 W).length = W by simp [rIn]] at dx0
  have hm0 : (Value.slice x0a W x0c, natInts (rIn 0 W)) ∈ ws.map (fun x => (WV.val x, WV.l x)) := List.mem_map.2 ⟨⟨x0a, natInts (rIn 0 W), x0c⟩, hx0m, by simp [WV.val, rIn]⟩
  clear hx0 hx0m
  have hkx := HO.out.kb (b := bx) (xs := [.pointer (some ⟨g, 0, none⟩), .slice (some ⟨ab, 0, none⟩) N ac, .slice wa W wc, .slice ia V ic, .int .i64 (gd : Int)]) (by exact List.mem_cons_of_mem _ (List.mem_cons_self ..))
  have z0 := hkx.cell (i := 0) rfl
  have z1 := hkx.cell (i := 1) rfl
  have z2 := hkx.cell (i := 2) rfl
  have z4 := hkx.cell (i := 4) rfl
  clear hkx
  refine Ord.St.door (fun _ => True) [.fl, .rd, .fl, .rd, .fl, .rd, .fl, .rd, .fl, .rd, .ef, .fl, .fl, .fl, .fl, .fl] [0, 1, 0, 4, 0, 16, 0, 64, 192, 448, 1023, 2047, 4095, 4095, 8191, 32767] [0, 1, 2, 3, 4, 5, 6, 7, 8, 9, 10, 11, 12, 13, 14, 15] mixed (by kernel_rfl) rfl ?_
  rw [← hWc]
  clear hWc
  refine Ord.St.fl2 (T' := ?_) 0 [1, 2, 3, 4, 5, 6, 7, 8, 9, 10, 11, 12, 13, 14, 15] _ _ rfl (by kernel_rfl) rfl rfl rfl rfl (fun K w' hk => ?_) ?_
  rotate_left
  · go_step; exact hk
  refine Ord.St.rd2 (T' := ?_) 1 [2, 3, 4, 5, 6, 7, 8, 9, 10, 11, 12, 13, 14, 15] _ _ rfl (by kernel_rfl) rfl rfl rfl rfl (fun K hk => ?_) ?_
  rotate_left
  · go_step; exact hk
  refine Ord.St.fl2 (T' := ?_) 2 [3, 4, 5, 6, 7, 8, 9, 10, 11, 12, 13, 14, 15] _ _ rfl (by kernel_rfl) rfl rfl rfl rfl (fun K w' hk => ?_) ?_
  rotate_left
  · go_step; exact hk
  refine Ord.St.rd2 (T' := ?_) 3 [4, 5, 6, 7, 8, 9, 10, 11, 12, 13, 14, 15] _ _ rfl (by kernel_rfl) rfl rfl rfl rfl (fun K hk => ?_) ?_
  rotate_left
  · go_step; exact hk
  refine Ord.St.fl2 (T' := ?_) 4 [5, 6, 7, 8, 9, 10, 11, 12, 13, 14, 15] _ _ rfl (by kernel_rfl) rfl rfl rfl rfl (fun K w' hk => ?_) ?_
  rotate_left
  · go_step; exact hk
  refine Ord.St.rd2 (T' := ?_) 5 [6, 7, 8, 9, 10, 11, 12, 13, 14, 15] _ _ rfl (by kernel_rfl) rfl rfl rfl rfl (fun K hk => ?_) ?_
  rotate_left
  · go_step; exact hk
  refine Ord.St.fl2 (T' := ?_) 6 [7, 8, 9, 10, 11, 12, 13, 14, 15] _ _ rfl (by kernel_rfl) rfl rfl rfl rfl (fun K w' hk => ?_) ?_
  rotate_left
  · go_step; exact hk
  refine Ord.St.rd2 (T' := ?_) 7 [8, 9, 10, 11, 12, 13, 14, 15] _ _ rfl (by kernel_rfl) rfl rfl rfl rfl (fun K hk => ?_) ?_
  rotate_left
  · go_step; exact hk
  refine Ord.St.fl2 (T' := ?_) 8 [9, 10, 11, 12, 13, 14, 15] _ _ rfl (by kernel_rfl) rfl rfl rfl rfl (fun K w' hk => ?_) ?_
  rotate_left
  · go_step; exact hk
  refine Ord.St.rd2 (T' := ?_) 9 [10, 11, 12, 13, 14, 15] _ _ rfl (by kernel_rfl) rfl rfl rfl rfl (fun K hk => ?_) ?_
  rotate_left
  · go_step; exact hk
  refine Ord.St.ef 10 [11, 12, 13, 14, 15] _ rfl (by kernel_rfl) (fun K hK => ?_)
  go_wp2_with fail
  refine (mChoose_h HO.out (gd : Int) (by unfold I64'; omega) (xa := wa) (xc := wc) (n := W) (xl := natInts (rIn (N * W) W)) (by exact List.mem_append_right _ (List.mem_cons_of_mem _ (List.mem_append_right _ (List.mem_cons_self ..)))) (by simp [rIn]) (ya := x0a) (yc := x0c) (m := W) (yl := natInts (rIn 0 W)) (by exact List.mem_append_right _ (List.mem_cons_of_mem _ (List.mem_append_left _ hm0))) (by simp [rIn]) (by rw [← HGD.out]; exact HF.out.r3) HF.out.n3 (refs_le HF.out.ok HF.out.g3) (by omega)).mono ?_
  rintro e w6a ⟨a4, c4, F6, rfl, ho⟩
  clear HO z0 z1 z2 z4 dx0 hm0
  have HO := Lib.hid ho; clear ho
  go_wp2_with fail
  refine ⟨rfl, hK _ _ ?_⟩; clear hK K
  refine Ord.St.fl2 (T' := ?_) 11 [12, 13, 14, 15] _ _ rfl (by kernel_rfl) rfl rfl rfl rfl (fun K w' hk => ?_) ?_
  rotate_left
  · go_step; exact hk
  refine Ord.St.fl2 (T' := ?_) 12 [13, 14, 15] _ _ rfl (by kernel_rfl) rfl rfl rfl rfl (fun K w' hk => ?_) ?_
  rotate_left
  · go_step; exact hk
  refine Ord.St.fl2 (T' := ?_) 13 [14, 15] _ _ rfl (by kernel_rfl) rfl rfl rfl rfl (fun K w' hk => ?_) ?_
  rotate_left
  · go_step; exact hk
  refine Ord.St.fl2 (T' := ?_) 14 [15] _ _ rfl (by kernel_rfl) rfl rfl rfl rfl (fun K w' hk => ?_) ?_
  rotate_left
  · go_step; exact hk
  refine Ord.St.fl2 (T' := ?_) 15 [] _ _ rfl (by kernel_rfl) rfl rfl rfl rfl (fun K w' hk => ?_) ?_
  rotate_left
  · go_step; exact hk
  refine Ord.St.nil ?_
  have hkx := HO.out.kb (b := bx) (xs := [.pointer (some ⟨g, 0, none⟩), .slice (some ⟨ab, 0, none⟩) N ac, .slice wa W wc, .slice ia V ic, .int .i64 (gd : Int)]) (by exact List.mem_cons_of_mem _ (List.mem_cons_self ..))
  have z0 := hkx.cell (i := 0) rfl
  have z3 := hkx.cell (i := 3) rfl
  clear hkx
  go_wp2_with fail
  refine (mIs_h HO.out (ya := ia) (yc := ic) (m := V) (yl := natInts (rIn (N * W + W) V)) (by exact List.mem_cons_of_mem _ (List.mem_append_right _ (List.mem_cons_of_mem _ (List.mem_append_right _ (List.mem_cons_of_mem _ (List.mem_cons_self ..)))))) (by simp [rIn]) 2 (by decide) HF.out.r4).mono ?_
  rintro e w6 ⟨F7, rfl, ho⟩
  clear HO; have HO := Lib.hid ho; clear ho
  clear z0 z3
  have hkx := HO.out.kb (b := bx) (xs := [.pointer (some ⟨g, 0, none⟩), .slice (some ⟨ab, 0, none⟩) N ac, .slice wa W wc, .slice ia V ic, .int .i64 (gd : Int)]) (by exact List.mem_cons_of_mem _ (List.mem_cons_self ..))
  have z1 := hkx.cell (i := 1) rfl
  clear hkx
  go_upto_region 12 with fail
  clear z1
  obtain ⟨K, hK⟩ : ∃ K, M + 4 = K := ⟨_, rfl⟩
  have hcl := CLu32_is (w := w6) (a := xa) (l := L0) M xc HLN.out (HLS.out.ch (HC1.out.trans HO.out.own.ch (by simp)) (by simp)) (by omega)
  have HCL := Lib.hid hcl; clear hcl
  have hmin := HMIN.out
  go_wp2_with fail
  refine HCL.out.mono ?_
  rintro e wa5 ⟨v5, rfl, hrow, hvv, hc5⟩
  clear hmin
  obtain ⟨ca, cc, rfl⟩ := row.shape hrow
  have hcA : Ch [] wa5 (wa5.alloc (.cells #[.int .u32 0, .int .u32 4294967295, .int .u32 1515870810, .int .u32 3282420645] 27)) := (Ch.refl _ _).alloc _
  have hrA := hrow.ch hcA (by simp)
  have hbA : blk (wa5.alloc (.cells #[.int .u32 0, .int .u32 4294967295, .int .u32 1515870810, .int .u32 3282420645] 27)) wa5.heap.size [.int .u32 0, .int .u32 4294967295, .int .u32 1515870810, .int .u32 3282420645] := blk.new' _ _ rfl
  have HCA := Lib.hid (hc5.trans hcA (by simp))
  have HRA := Lib.hid hrA; clear hrA hrow
  have HBA := Lib.hid hbA; clear hbA
  have HVV := Lib.hid hvv; clear hvv
  clear hcA hc5 HCL
  go_wp2_with (at_builtin; go_loud (refine wpList_append_row slU32 rfl _ _ rfl (v := .slice ca M cc) (n := M) (xs := u32s L0) rfl HRA.out (ad := ⟨wa5.heap.size, 0, none⟩) (m := 4) (c := 4) (news := [.int .u32 0, .int .u32 4294967295, .int .u32 1515870810, .int .u32 3282420645]) rfl rfl (news_blk HBA.out) (by simp [Value.oneCell']) (by omega) (by omega) ?_; intro v' w6b hown4 hC4 hf4; obtain ⟨gb5, gc5, rfl⟩ := hown4.parts (by omega); have HO4 := Lib.hid hown4; clear hown4; have HCC4 := Lib.hid hC4; clear hC4; have HF4 := Lib.hid hf4; clear hf4))
  have hLV : u32s L0 ++ [.int .u32 0, .int .u32 4294967295, .int .u32 1515870810, .int .u32 3282420645] = u32s (L0 ++ [0, 4294967295, 1515870810, 3282420645]) := by simp [u32s]
  have hLn : (L0 ++ [0, 4294967295, 1515870810, 3282420645]).length = K := by rw [List.length_append, HLN.out]; simp; omega
  have hLb : ∀ z ∈ L0 ++ [0, 4294967295, 1515870810, 3282420645], z < 4294967296 := fun z hz => by
    rcases List.mem_append.1 hz with hz | hz
    · exact HLB.out z hz
    · simp only [List.mem_cons, List.not_mem_nil, or_false] at hz
      rcases hz with rfl | rfl | rfl | rfl <;> omega
  have hrow := HO4.out
  rw [hLV] at hrow
  generalize L0 ++ [0, 4294967295, 1515870810, 3282420645] = LV at *
  have HROW := Lib.hid hrow; clear hrow hLV HO4
  have ho := HO.out.same (HCA.out.trans HCC4.out (fun q hq => .inr (HVV.out q (by simpa using hq))))
  clear HO
  have HO := Lib.hid ho; clear ho
  have HLN2 := Lib.hid hLn; clear hLn
  have HLB2 := Lib.hid hLb; clear hLb
  clear HF4 HBA HRA HCA HCC4 HVV HLN HLB HLS HMIN
  go_wp2_with fail
  go_loopw [121] (fun i wr => ∃ x : Nat, x ≤ K ∧ i = .int .i64 x ∧ Ch [] w6b wr) (fun i _ => K - (intOf i).toNat)
  case atStart => exact ⟨0, by omega, rfl, Ch.refl _ _⟩
  case round =>
    obtain ⟨x, hx, rfl, hc⟩ := hrel
    obtain ⟨wo, hwo⟩ : ∃ wo, wo = wr := ⟨_, rfl⟩
    subst hwo
    by_cases hlt : x < K
    · obtain ⟨z, hz⟩ : ∃ z, LV[x]? = some z := ⟨_, List.getElem?_eq_getElem (by rw [HLN2.out]; exact hlt)⟩
      have hzb := HLB2.out z (List.mem_of_getElem? hz)
      have c0 := row_at2 (HROW.out.ch hc (by simp)) (u32s_get hz)
      have ho := HO.out.same hc
      have hV1 := values26_is ho.own.gin (T := S) (by rw [HF.out.ins]) (by omega) (some ⟨ab, 0, none⟩) wa ia N ac W wc V ic gd z hzb
      have HV1 := Lib.hid hV1; clear hV1
      have HOO := Lib.hid ho; clear ho
      have HC := Lib.hid hc; clear hc hz
      have hkx := HOO.out.kb (b := bx) (xs := [.pointer (some ⟨g, 0, none⟩), .slice (some ⟨ab, 0, none⟩) N ac, .slice wa W wc, .slice ia V ic, .int .i64 (gd : Int)]) (by exact List.mem_cons_of_mem _ (List.mem_cons_self ..))
      have z0 := hkx.cell (i := 0) rfl
      have z1 := hkx.cell (i := 1) rfl
      have z2 := hkx.cell (i := 2) rfl
      have z3 := hkx.cell (i := 3) rfl
      have z4 := hkx.cell (i := 4) rfl
      clear hkx
      go_wp2_with fail
      (with_reducible refine HV1.out.mono ?_)
      rintro e w7 ⟨v7, rfl, hrow7, _, hc7⟩
      clear c0 z0 z1 z2 z3 z4 HV1
      obtain ⟨va, vc, rfl⟩ := row.shape hrow7
      have hsb : Sb w7 va (insOf S z) := row.sv hrow7 rfl (by omega)
      have hil := insOf_len S z
      generalize insOf S z = ins at *
      have hoo := HOO.out.same hc7
      clear HOO
      have HOO := Lib.hid hoo; clear hoo
      have HSB := Lib.hid hsb; clear hsb hrow7
      have HC7 := Lib.hid (HC.out.trans hc7 (by simp)); clear hc7 HC
      have hnm := numbers26_is (w := w7) (ab := ab) (N := N) (W := W) (V := V) (ac := ac) (T := S) (xc := vc) (cs := cs) (ws := ws) (wa := wa) (ia := ia) (xa := va) (wc := wc) (ic := ic) (ins := ins) (some ⟨g, 0, none⟩) gd (by omega) (by omega) (by omega) (HOO.out.kb (b := ab) (xs := cs) (by exact List.mem_cons_of_mem _ (List.mem_cons_of_mem _ (List.mem_cons_self ..)))) HCS.out HWE.out hil (by omega) HSB.out
      have HNM := Lib.hid hnm; clear hnm
      have hR1 := fun (WZ : World) (hW : Ch [] w7 WZ) => Reads_is (w := WZ) (HOO.out.own.gin.same hW (by simp)) (a := a3) (l := natInts (lr)) (m := W) (c := c3) (by rw [natInts_len]; exact HF.out.n1) ((HOO.out.same hW).sl (by exact List.mem_cons_of_mem _ (List.mem_append_right _ (List.mem_cons_self ..))) (by rw [natInts_len]; exact HF.out.n1)) ((HOO.out.same hW).held _ (by exact List.mem_cons_of_mem _ (List.mem_append_right _ (List.mem_cons_self ..)))).bd (xa := va) (ins := ins) (k := S) (xc := vc) hil (HSB.out.ch hW (by simp)) (by omega) (bitsR_ok HF.out.g1 (by rw [HF.out.ins, hil])) (by simp [HF.out.n1]) (by omega) (by omega)
      have hR2 := fun (WZ : World) (hW : Ch [] w7 WZ) => Reads_is (w := WZ) (HOO.out.own.gin.same hW (by simp)) (a := a4) (l := natInts (lc)) (m := W) (c := c4) (by rw [natInts_len]; exact HF.out.n3) ((HOO.out.same hW).sl (by exact List.mem_cons_self ..) (by rw [natInts_len]; exact HF.out.n3)) ((HOO.out.same hW).held _ (by exact List.mem_cons_self ..)).bd (xa := va) (ins := ins) (k := S) (xc := vc) hil (HSB.out.ch hW (by simp)) (by omega) (bitsR_ok HF.out.g3 (by rw [HF.out.ins, hil])) (by simp [HF.out.n3]) (by omega) (by omega)
      have hBT := fun (WZ : World) (hW : Ch [] w7 WZ) (ba : Option Addr) (hS : Sl WZ ba [(ri : Int)]) => simBits_is (w := WZ) (HOO.out.own.gin.same hW (by simp)) (xa := va) (ins := ins) S vc hil (HSB.out.ch hW (by simp)) (by omega) (a := ba) (l := natInts [ri]) 1 1 rfl hS (fun r hr => by have h5 := refs_le (l := [ri]) HF.out.ok (fun x hx => by rw [List.mem_singleton.1 hx]; exact HF.out.g4) ri (by simp); simp [natInts] at hr; omega) (by omega)
      simp only [bitsR_ok (l := [ri]) (ins := ins) (fun x hx => by rw [List.mem_singleton.1 hx]; exact HF.out.g4) (by rw [HF.out.ins, hil]), List.map_cons, List.map_nil] at hBT
      have va1 := HF.out.v1 (envB ins)
      have va2 := HF.out.v2 (envB ins)
      have va3 := HF.out.v3 (envB ins)
      have va4 := HF.out.v4 (envB ins)
      have hT1' : N * W + W + V = S - 1 := by have := HTE.out; omega
      rw [hT1'] at HNM
      rw [HD.out, HQ.out] at va4
      rw [va4] at hBT
      have bI := nbE_lt (envB ins) (N * W + W) V
      rw [HD.out] at bI
      have hAL : ∀ i, i < N → ((List.range N).map fun i => nbE (envB ins) (i * W) W)[i]? = some (nbE (envB ins) (i * W) W) := fun i hi => by rw [List.getElem?_map, List.getElem?_range hi]; rfl
      generalize nbE (envB ins) (N * W) W = nW at *
      obtain ⟨A, hA⟩ : ∃ A : Nat → Nat, A = fun i => nbE (envB ins) (i * W) W := ⟨_, rfl⟩
      have hAi : ∀ i, nbE (envB ins) (i * W) W = A i := fun i => by rw [hA]
      have hA0 : nbE (envB ins) 0 W = A 0 := by rw [hA]; simp
      simp only [hAi, hA0] at va1 va2 va3 hAL HNM
      clear hA hAi hA0 va4
      generalize nbE (envB ins) (N * W + W) V = nI at *
      generalize bitsVal (lr.map (bv (envB ins) G4.nodes)) = nP at *
      generalize bitsVal (lc.map (bv (envB ins) G4.nodes)) = nC at *
      generalize envB ins (S - 1) = gv at *
      have bI8 : nI < 8 := by omega
      have hqb : ((nI : Int) == (Q : Int)) = decide (nI = Q) := by by_cases h : nI = Q <;> simp [h] <;> omega
      generalize decide (nI = Q) = b4 at *
      clear bI hT1'
      generalize ((List.range N).map fun i => A i) = AL at *
      have V1 := Lib.hid va1; clear va1
      have V2 := Lib.hid va2; clear va2
      have V3 := Lib.hid va3; clear va3
      have HAL := Lib.hid hAL; clear hAL
      have HQB := Lib.hid hqb; clear hqb
      have HR1 := Lib.hid hR1; clear hR1
      have HR2 := Lib.hid hR2; clear hR2
      have HBT := Lib.hid hBT; clear hBT
      have HIL := Lib.hid hil; clear hil
      have hkx := HOO.out.kb (b := bx) (xs := [.pointer (some ⟨g, 0, none⟩), .slice (some ⟨ab, 0, none⟩) N ac, .slice wa W wc, .slice ia V ic, .int .i64 (gd : Int)]) (by exact List.mem_cons_of_mem _ (List.mem_cons_self ..))
      have z0 := hkx.cell (i := 0) rfl
      have z1 := hkx.cell (i := 1) rfl
      have z2 := hkx.cell (i := 2) rfl
      have z3 := hkx.cell (i := 3) rfl
      have z4 := hkx.cell (i := 4) rfl
      clear hkx
      go_wp2_with fail
      (with_reducible refine HNM.out.mono ?_)
      rintro e w8 ⟨oa, oc, rfl, hrowA, _, hc8⟩
      clear z0 z1 z2 z3 z4
      obtain ⟨ob, oc2, hoe⟩ := hrowA.parts (by omega)
      cases hoe
      have HRA := Lib.hid hrowA; clear hrowA
      have HC8 := Lib.hid hc8; clear hc8 HNM
      have hx := HR1.out w8 HC8.out
      have z0 := ((HOO.out.same HC8.out).kb (b := bx) (xs := [.pointer (some ⟨g, 0, none⟩), .slice (some ⟨ab, 0, none⟩) N ac, .slice wa W wc, .slice ia V ic, .int .i64 (gd : Int)]) (by exact List.mem_cons_of_mem _ (List.mem_cons_self ..))).cell (i := 0) rfl
      have HXX := Lib.hid hx; clear hx
      go_wp2_with fail
      (with_reducible refine HXX.out.mono ?_)
      rintro e w9 ⟨rfl, hc9⟩
      clear z0 HXX HR1
      have HC8 := Lib.hid (HC8.out.trans hc9 (by simp))
      have hra := HRA.out.ch hc9 (by simp)
      clear HRA hc9
      have HRA := Lib.hid hra; clear hra
      go_upto_if 147 with fail
      go_cut [28] (fun t wd => t = .int .u32 nP ∧ w9 = wd)
      case first =>
        by_cases hI : nI < N
        · have q1 : decide ((nI : Int) < N) = true := decide_eq_true (by omega)
          have q2 : decide (nI < N) = true := decide_eq_true hI
          have c1 := row_at2 HRA.out (u32s_get (HAL.out nI hI))
          have hp : A nI = nP := by rw [V1.out, if_pos hI]
          rw [hp] at c1
          go_wp2_with fail
          go_meet
          case rel => exact ⟨rfl, rfl⟩
        · have q1 : decide ((nI : Int) < N) = false := decide_eq_false (by omega)
          have q2 : decide (nI < N) = false := decide_eq_false hI
          have hp : nP = 0 := by rw [V1.out, if_neg hI]
          go_wp2_with fail
          go_meet
          case rel => exact ⟨by rw [hp]; rfl, rfl⟩
      case rest =>
        obtain ⟨rfl, rfl⟩ := hcut
        clear V1
        have hx := HR2.out w9 HC8.out
        have z0 := ((HOO.out.same HC8.out).kb (b := bx) (xs := [.pointer (some ⟨g, 0, none⟩), .slice (some ⟨ab, 0, none⟩) N ac, .slice wa W wc, .slice ia V ic, .int .i64 (gd : Int)]) (by exact List.mem_cons_of_mem _ (List.mem_cons_self ..))).cell (i := 0) rfl
        have HXX := Lib.hid hx; clear hx
        go_wp2_with fail
        (with_reducible refine HXX.out.mono ?_)
        rintro e w10 ⟨rfl, hc9⟩
        clear z0 HXX HR2
        have HC8 := Lib.hid (HC8.out.trans hc9 (by simp))
        have hra := HRA.out.ch hc9 (by simp)
        clear HRA hc9
        have HRA := Lib.hid hra; clear hra
        have c2 := row_at2 HRA.out (u32s_get (HAL.out 0 (by omega)))
        go_upto_if 163 with fail
        clear c2
        go_cut [31] (fun t wd => t = .int .u32 nC ∧ w10 = wd)
        case first =>
          have hp := V3.out
          cases gv
          · have hp2 : A 0 = nC := by rw [hp]; simp
            rw [hp2]
            go_wp2_with fail
            go_meet
            case rel => exact ⟨rfl, rfl⟩
          · have hp2 : nW = nC := by rw [hp]; simp
            have HP2 := Lib.hid hp2; clear hp2 hp
            go_wp2_with fail
            go_meet
            case rel => exact ⟨by rw [HP2.out], rfl⟩
        case rest =>
          obtain ⟨rfl, rfl⟩ := hcut
          clear V3
          have z0 := ((HOO.out.same HC8.out).kb (b := bx) (xs := [.pointer (some ⟨g, 0, none⟩), .slice (some ⟨ab, 0, none⟩) N ac, .slice wa W wc, .slice ia V ic, .int .i64 (gd : Int)]) (by exact List.mem_cons_of_mem _ (List.mem_cons_self ..))).cell (i := 0) rfl
          go_wp2_with fail
          refine calls_named fun WB hWB => ?_
          have hlb := alw_blk (xs := [.int .i64 (ri : Int)]) hWB
          have hcB := alw_ch hWB
          have hslb : Sl WB (some ⟨w10.heap.size, 0, none⟩) [(ri : Int)] := ⟨fun i x hx => ⟨_, _, rfl, by
            rcases i with _ | i
            · cases hx; exact hlb.cell rfl
            · simp at hx⟩, by simp⟩
          have hbt := HBT.out WB (HC8.out.trans hcB (by simp)) _ hslb
          have HBT2 := Lib.hid hbt
          have HCB := Lib.hid hcB
          clear hWB hlb hcB hslb hbt HBT
          (with_reducible refine HBT2.out.mono ?_)
          rintro e w11 ⟨v9, rfl, hrb, _, hcb⟩
          clear HBT2 z0
          obtain ⟨bb, bc, rfl⟩ := hrb.parts (by simp)
          have cb := row_at2 hrb (k := 0) (v := .bool b4) rfl
          have HC11 := Lib.hid (HC8.out.trans (HCB.out.trans hcb (by simp)) (by simp))
          have HRA2 := Lib.hid (HRA.out.ch (HCB.out.trans hcb (by simp)) (by simp))
          clear hrb hcb HCB HRA HC8
          have hqb := HQB.out
          have eQ := EQ.out
          have hwD : ∀ [Nonempty Unit], wrap64 ((2 : Int) ^ V) = ((D : Nat) : Int) := HWD.out
          have hDne : ¬ D = 0 := by omega
          have hbb : (b4 != b4) = false := by simp
          have hbb2 : (!(b4 == b4)) = false := by simp
          have z3 := ((HOO.out.same HC11.out).kb (b := bx) (xs := [.pointer (some ⟨g, 0, none⟩), .slice (some ⟨ab, 0, none⟩) N ac, .slice wa W wc, .slice ia V ic, .int .i64 (gd : Int)]) (by exact List.mem_cons_of_mem _ (List.mem_cons_self ..))).cell (i := 3) rfl
          go_wp2_with fail
          refine Ord.St.door (fun _ => True) [.fl, .fl, .fl, .fl, .fl, .fl, .fl, .fl, .fl, .fl, .fl, .fl, .fl, .fl, .fl, .fl, .fl, .fl, .fl, .fl, .fl, .fl, .rd, .fl, .fl, .fl, .fl, .fl, .rd, .fl, .fl, .rd, .rd, .fl, .fl, .fl, .fl, .fl] [0, 1, 3, 7, 7, 31, 63, 127, 255, 511, 1023, 2047, 4095, 4095, 16383, 32767, 65535, 131071, 262143, 524287, 1048575, 2097151, 4194303, 8388607, 16777215, 33554431, 67108863, 134217727, 268435455, 67108863, 67108863, 1140850687, 3288334335, 7583301631, 16173236223, 33889976319, 68719476735, 137438953471] [0, 1, 2, 3, 4, 5, 6, 7, 8, 9, 10, 11, 12, 13, 14, 15, 16, 17, 18, 19, 20, 21, 22, 23, 24, 25, 26, 27, 28, 29, 30, 31, 32, 33, 34, 35, 36, 37] mixed (by kernel_rfl) rfl ?_
          refine Ord.St.fl2 (T' := ?_) 0 [1, 2, 3, 4, 5, 6, 7, 8, 9, 10, 11, 12, 13, 14, 15, 16, 17, 18, 19, 20, 21, 22, 23, 24, 25, 26, 27, 28, 29, 30, 31, 32, 33, 34, 35, 36, 37] _ _ rfl (by kernel_rfl) rfl rfl rfl rfl (fun K w' hk => ?_) ?_
          rotate_left
          · go_step; exact hk
          refine Ord.St.fl2 (T' := ?_) 1 [2, 3, 4, 5, 6, 7, 8, 9, 10, 11, 12, 13, 14, 15, 16, 17, 18, 19, 20, 21, 22, 23, 24, 25, 26, 27, 28, 29, 30, 31, 32, 33, 34, 35, 36, 37] _ _ rfl (by kernel_rfl) rfl rfl rfl rfl (fun K w' hk => ?_) ?_
          rotate_left
          · go_step; exact hk
          refine Ord.St.fl2 (T' := ?_) 2 [3, 4, 5, 6, 7, 8, 9, 10, 11, 12, 13, 14, 15, 16, 17, 18, 19, 20, 21, 22, 23, 24, 25, 26, 27, 28, 29, 30, 31, 32, 33, 34, 35, 36, 37] _ _ rfl (by kernel_rfl) rfl rfl rfl rfl (fun K w' hk => ?_) ?_
          rotate_left
          · go_step; exact hk
          first | (refine Ord.St.fl2 (T' := ?_) 3 [4, 5, 6, 7, 8, 9, 10, 11, 12, 13, 14, 15, 16, 17, 18, 19, 20, 21, 22, 23, 24, 25, 26, 27, 28, 29, 30, 31, 32, 33, 34, 35, 36, 37] _ _ rfl (by kernel_rfl) ?_ rfl rfl rfl (fun K w' hk => ?_) ?_; rotate_left; (first | rfl | (simp [Region.wanted, yielded, *]; done)); focus (go_step; exact hk)) | (refine Ord.St.skip 3 [4, 5, 6, 7, 8, 9, 10, 11, 12, 13, 14, 15, 16, 17, 18, 19, 20, 21, 22, 23, 24, 25, 26, 27, 28, 29, 30, 31, 32, 33, 34, 35, 36, 37] _ rfl (by kernel_rfl) ?_ (fun K hK => ?_); (first | rfl | (simp [Region.wanted, yielded, *]; done)); go_simp; refine hK _ ?_; clear hK K)
          first | (refine Ord.St.fl2 (T' := ?_) 4 [5, 6, 7, 8, 9, 10, 11, 12, 13, 14, 15, 16, 17, 18, 19, 20, 21, 22, 23, 24, 25, 26, 27, 28, 29, 30, 31, 32, 33, 34, 35, 36, 37] _ _ rfl (by kernel_rfl) ?_ rfl rfl rfl (fun K w' hk => ?_) ?_; rotate_left; (first | rfl | (simp [Region.wanted, yielded, *]; done)); focus (go_step; exact hk)) | (refine Ord.St.skip 4 [5, 6, 7, 8, 9, 10, 11, 12, 13, 14, 15, 16, 17, 18, 19, 20, 21, 22, 23, 24, 25, 26, 27, 28, 29, 30, 31, 32, 33, 34, 35, 36, 37] _ rfl (by kernel_rfl) ?_ (fun K hK => ?_); (first | rfl | (simp [Region.wanted, yielded, *]; done)); go_simp; refine hK _ ?_; clear hK K)
          first | (refine Ord.St.fl2 (T' := ?_) 5 [6, 7, 8, 9, 10, 11, 12, 13, 14, 15, 16, 17, 18, 19, 20, 21, 22, 23, 24, 25, 26, 27, 28, 29, 30, 31, 32, 33, 34, 35, 36, 37] _ _ rfl (by kernel_rfl) ?_ rfl rfl rfl (fun K w' hk => ?_) ?_; rotate_left; (first | rfl | (simp [Region.wanted, yielded, *]; done)); focus (go_step; exact hk)) | (refine Ord.St.skip 5 [6, 7, 8, 9, 10, 11, 12, 13, 14, 15, 16, 17, 18, 19, 20, 21, 22, 23, 24, 25, 26, 27, 28, 29, 30, 31, 32, 33, 34, 35, 36, 37] _ rfl (by kernel_rfl) ?_ (fun K hK => ?_); (first | rfl | (simp [Region.wanted, yielded, *]; done)); go_simp; refine hK _ ?_; clear hK K)
          refine Ord.St.fl2 (T' := ?_) 6 [7, 8, 9, 10, 11, 12, 13, 14, 15, 16, 17, 18, 19, 20, 21, 22, 23, 24, 25, 26, 27, 28, 29, 30, 31, 32, 33, 34, 35, 36, 37] _ _ rfl (by kernel_rfl) rfl rfl rfl rfl (fun K w' hk => ?_) ?_
          rotate_left
          · go_step; exact hk
          refine Ord.St.fl2 (T' := ?_) 7 [8, 9, 10, 11, 12, 13, 14, 15, 16, 17, 18, 19, 20, 21, 22, 23, 24, 25, 26, 27, 28, 29, 30, 31, 32, 33, 34, 35, 36, 37] _ _ rfl (by kernel_rfl) rfl rfl rfl rfl (fun K w' hk => ?_) ?_
          rotate_left
          · go_step; exact hk
          first | (refine Ord.St.fl2 (T' := ?_) 8 [9, 10, 11, 12, 13, 14, 15, 16, 17, 18, 19, 20, 21, 22, 23, 24, 25, 26, 27, 28, 29, 30, 31, 32, 33, 34, 35, 36, 37] _ _ rfl (by kernel_rfl) ?_ rfl rfl rfl (fun K w' hk => ?_) ?_; rotate_left; (first | rfl | (simp [Region.wanted, yielded, *]; done)); focus (go_step; exact hk)) | (refine Ord.St.skip 8 [9, 10, 11, 12, 13, 14, 15, 16, 17, 18, 19, 20, 21, 22, 23, 24, 25, 26, 27, 28, 29, 30, 31, 32, 33, 34, 35, 36, 37] _ rfl (by kernel_rfl) ?_ (fun K hK => ?_); (first | rfl | (simp [Region.wanted, yielded, *]; done)); go_simp; refine hK _ ?_; clear hK K)
          first | (refine Ord.St.fl2 (T' := ?_) 9 [10, 11, 12, 13, 14, 15, 16, 17, 18, 19, 20, 21, 22, 23, 24, 25, 26, 27, 28, 29, 30, 31, 32, 33, 34, 35, 36, 37] _ _ rfl (by kernel_rfl) ?_ rfl rfl rfl (fun K w' hk => ?_) ?_; rotate_left; (first | rfl | (simp [Region.wanted, yielded, *]; done)); focus (go_step; exact hk)) | (refine Ord.St.skip 9 [10, 11, 12, 13, 14, 15, 16, 17, 18, 19, 20, 21, 22, 23, 24, 25, 26, 27, 28, 29, 30, 31, 32, 33, 34, 35, 36, 37] _ rfl (by kernel_rfl) ?_ (fun K hK => ?_); (first | rfl | (simp [Region.wanted, yielded, *]; done)); go_simp; refine hK _ ?_; clear hK K)
          refine Ord.St.fl2 (T' := ?_) 10 [11, 12, 13, 14, 15, 16, 17, 18, 19, 20, 21, 22, 23, 24, 25, 26, 27, 28, 29, 30, 31, 32, 33, 34, 35, 36, 37] _ _ rfl (by kernel_rfl) rfl rfl rfl rfl (fun K w' hk => ?_) ?_
          rotate_left
          · go_step; exact hk
          refine Ord.St.fl2 (T' := ?_) 11 [12, 13, 14, 15, 16, 17, 18, 19, 20, 21, 22, 23, 24, 25, 26, 27, 28, 29, 30, 31, 32, 33, 34, 35, 36, 37] _ _ rfl (by kernel_rfl) rfl rfl rfl rfl (fun K w' hk => ?_) ?_
          rotate_left
          · go_step; exact hk
          first | (refine Ord.St.fl2 (T' := ?_) 12 [13, 14, 15, 16, 17, 18, 19, 20, 21, 22, 23, 24, 25, 26, 27, 28, 29, 30, 31, 32, 33, 34, 35, 36, 37] _ _ rfl (by kernel_rfl) ?_ rfl rfl rfl (fun K w' hk => ?_) ?_; rotate_left; (first | rfl | (simp [Region.wanted, yielded, *]; done)); focus (go_step; exact hk)) | (refine Ord.St.skip 12 [13, 14, 15, 16, 17, 18, 19, 20, 21, 22, 23, 24, 25, 26, 27, 28, 29, 30, 31, 32, 33, 34, 35, 36, 37] _ rfl (by kernel_rfl) ?_ (fun K hK => ?_); (first | rfl | (simp [Region.wanted, yielded, *]; done)); go_simp; refine hK _ ?_; clear hK K)
          first | (refine Ord.St.fl2 (T' := ?_) 13 [14, 15, 16, 17, 18, 19, 20, 21, 22, 23, 24, 25, 26, 27, 28, 29, 30, 31, 32, 33, 34, 35, 36, 37] _ _ rfl (by kernel_rfl) ?_ rfl rfl rfl (fun K w' hk => ?_) ?_; rotate_left; (first | rfl | (simp [Region.wanted, yielded, *]; done)); focus (go_step; exact hk)) | (refine Ord.St.skip 13 [14, 15, 16, 17, 18, 19, 20, 21, 22, 23, 24, 25, 26, 27, 28, 29, 30, 31, 32, 33, 34, 35, 36, 37] _ rfl (by kernel_rfl) ?_ (fun K hK => ?_); (first | rfl | (simp [Region.wanted, yielded, *]; done)); go_simp; refine hK _ ?_; clear hK K)
          first | (refine Ord.St.fl2 (T' := ?_) 14 [15, 16, 17, 18, 19, 20, 21, 22, 23, 24, 25, 26, 27, 28, 29, 30, 31, 32, 33, 34, 35, 36, 37] _ _ rfl (by kernel_rfl) ?_ rfl rfl rfl (fun K w' hk => ?_) ?_; rotate_left; (first | rfl | (simp [Region.wanted, yielded, *]; done)); focus (go_step; exact hk)) | (refine Ord.St.skip 14 [15, 16, 17, 18, 19, 20, 21, 22, 23, 24, 25, 26, 27, 28, 29, 30, 31, 32, 33, 34, 35, 36, 37] _ rfl (by kernel_rfl) ?_ (fun K hK => ?_); (first | rfl | (simp [Region.wanted, yielded, *]; done)); go_simp; refine hK _ ?_; clear hK K)
          refine Ord.St.fl2 (T' := ?_) 15 [16, 17, 18, 19, 20, 21, 22, 23, 24, 25, 26, 27, 28, 29, 30, 31, 32, 33, 34, 35, 36, 37] _ _ rfl (by kernel_rfl) rfl rfl rfl rfl (fun K w' hk => ?_) ?_
          rotate_left
          · go_step; exact hk
          refine Ord.St.fl2 (T' := ?_) 16 [17, 18, 19, 20, 21, 22, 23, 24, 25, 26, 27, 28, 29, 30, 31, 32, 33, 34, 35, 36, 37] _ _ rfl (by kernel_rfl) rfl rfl rfl rfl (fun K w' hk => ?_) ?_
          rotate_left
          · go_step; exact hk
          first | (refine Ord.St.fl2 (T' := ?_) 17 [18, 19, 20, 21, 22, 23, 24, 25, 26, 27, 28, 29, 30, 31, 32, 33, 34, 35, 36, 37] _ _ rfl (by kernel_rfl) ?_ rfl rfl rfl (fun K w' hk => ?_) ?_; rotate_left; (first | rfl | (simp [Region.wanted, yielded, *]; done)); focus (go_step; exact hk)) | (refine Ord.St.skip 17 [18, 19, 20, 21, 22, 23, 24, 25, 26, 27, 28, 29, 30, 31, 32, 33, 34, 35, 36, 37] _ rfl (by kernel_rfl) ?_ (fun K hK => ?_); (first | rfl | (simp [Region.wanted, yielded, *]; done)); go_simp; refine hK _ ?_; clear hK K)
          first | (refine Ord.St.fl2 (T' := ?_) 18 [19, 20, 21, 22, 23, 24, 25, 26, 27, 28, 29, 30, 31, 32, 33, 34, 35, 36, 37] _ _ rfl (by kernel_rfl) ?_ rfl rfl rfl (fun K w' hk => ?_) ?_; rotate_left; (first | rfl | (simp [Region.wanted, yielded, *]; done)); focus (go_step; exact hk)) | (refine Ord.St.skip 18 [19, 20, 21, 22, 23, 24, 25, 26, 27, 28, 29, 30, 31, 32, 33, 34, 35, 36, 37] _ rfl (by kernel_rfl) ?_ (fun K hK => ?_); (first | rfl | (simp [Region.wanted, yielded, *]; done)); go_simp; refine hK _ ?_; clear hK K)
          refine Ord.St.fl2 (T' := ?_) 19 [20, 21, 22, 23, 24, 25, 26, 27, 28, 29, 30, 31, 32, 33, 34, 35, 36, 37] _ _ rfl (by kernel_rfl) rfl rfl rfl rfl (fun K w' hk => ?_) ?_
          rotate_left
          · go_step; exact hk
          refine Ord.St.fl2 (T' := ?_) 20 [21, 22, 23, 24, 25, 26, 27, 28, 29, 30, 31, 32, 33, 34, 35, 36, 37] _ _ rfl (by kernel_rfl) rfl rfl rfl rfl (fun K w' hk => ?_) ?_
          rotate_left
          · go_step; exact hk
          first | (refine Ord.St.fl2 (T' := ?_) 21 [22, 23, 24, 25, 26, 27, 28, 29, 30, 31, 32, 33, 34, 35, 36, 37] _ _ rfl (by kernel_rfl) ?_ rfl rfl rfl (fun K w' hk => ?_) ?_; rotate_left; (first | rfl | (simp [Region.wanted, yielded, *]; done)); focus (go_step; exact hk)) | (refine Ord.St.skip 21 [22, 23, 24, 25, 26, 27, 28, 29, 30, 31, 32, 33, 34, 35, 36, 37] _ rfl (by kernel_rfl) ?_ (fun K hK => ?_); (first | rfl | (simp [Region.wanted, yielded, *]; done)); go_simp; refine hK _ ?_; clear hK K)
          first | (refine Ord.St.rd2 (T' := ?_) 22 [23, 24, 25, 26, 27, 28, 29, 30, 31, 32, 33, 34, 35, 36, 37] _ _ rfl (by kernel_rfl) ?_ rfl rfl rfl (fun K hk => ?_) ?_; rotate_left; (first | rfl | (simp [Region.wanted, yielded, *]; done)); focus (go_step; exact hk)) | (refine Ord.St.skipr 22 [23, 24, 25, 26, 27, 28, 29, 30, 31, 32, 33, 34, 35, 36, 37] _ rfl (by kernel_rfl) ?_ (fun K hK => ?_); (first | rfl | (simp [Region.wanted, yielded, *]; done)); go_simp; refine hK _ ?_; clear hK K)
          first | (refine Ord.St.fl2 (T' := ?_) 23 [24, 25, 26, 27, 28, 29, 30, 31, 32, 33, 34, 35, 36, 37] _ _ rfl (by kernel_rfl) ?_ rfl rfl rfl (fun K w' hk => ?_) ?_; rotate_left; (first | rfl | (simp [Region.wanted, yielded, *]; done)); focus (go_step; exact hk)) | (refine Ord.St.skip 23 [24, 25, 26, 27, 28, 29, 30, 31, 32, 33, 34, 35, 36, 37] _ rfl (by kernel_rfl) ?_ (fun K hK => ?_); (first | rfl | (simp [Region.wanted, yielded, *]; done)); go_simp; refine hK _ ?_; clear hK K)
          refine Ord.St.fl2 (T' := ?_) 24 [25, 26, 27, 28, 29, 30, 31, 32, 33, 34, 35, 36, 37] _ _ rfl (by kernel_rfl) rfl rfl rfl rfl (fun K w' hk => ?_) ?_
          rotate_left
          · go_step; exact hk
          refine Ord.St.fl2 (T' := ?_) 25 [26, 27, 28, 29, 30, 31, 32, 33, 34, 35, 36, 37] _ _ rfl (by kernel_rfl) rfl rfl rfl rfl (fun K w' hk => ?_) ?_
          rotate_left
          · go_step; exact hk
          first | (refine Ord.St.fl2 (T' := ?_) 26 [27, 28, 29, 30, 31, 32, 33, 34, 35, 36, 37] _ _ rfl (by kernel_rfl) ?_ rfl rfl rfl (fun K w' hk => ?_) ?_; rotate_left; (first | rfl | (simp [Region.wanted, yielded, *]; done)); focus (go_step; exact hk)) | (refine Ord.St.skip 26 [27, 28, 29, 30, 31, 32, 33, 34, 35, 36, 37] _ rfl (by kernel_rfl) ?_ (fun K hK => ?_); (first | rfl | (simp [Region.wanted, yielded, *]; done)); go_simp; refine hK _ ?_; clear hK K)
          first | (refine Ord.St.fl2 (T' := ?_) 27 [28, 29, 30, 31, 32, 33, 34, 35, 36, 37] _ _ rfl (by kernel_rfl) ?_ rfl rfl rfl (fun K w' hk => ?_) ?_; rotate_left; (first | rfl | (simp [Region.wanted, yielded, *]; done)); focus (go_step; exact hk)) | (refine Ord.St.skip 27 [28, 29, 30, 31, 32, 33, 34, 35, 36, 37] _ rfl (by kernel_rfl) ?_ (fun K hK => ?_); (first | rfl | (simp [Region.wanted, yielded, *]; done)); go_simp; refine hK _ ?_; clear hK K)
          first | (refine Ord.St.rd2 (T' := ?_) 28 [29, 30, 31, 32, 33, 34, 35, 36, 37] _ _ rfl (by kernel_rfl) ?_ rfl rfl rfl (fun K hk => ?_) ?_; rotate_left; (first | rfl | (simp [Region.wanted, yielded, *]; done)); focus (go_step; exact hk)) | (refine Ord.St.skipr 28 [29, 30, 31, 32, 33, 34, 35, 36, 37] _ rfl (by kernel_rfl) ?_ (fun K hK => ?_); (first | rfl | (simp [Region.wanted, yielded, *]; done)); go_simp; refine hK _ ?_; clear hK K)
          first | (refine Ord.St.fl2 (T' := ?_) 29 [30, 31, 32, 33, 34, 35, 36, 37] _ _ rfl (by kernel_rfl) ?_ rfl rfl rfl (fun K w' hk => ?_) ?_; rotate_left; (first | rfl | (simp [Region.wanted, yielded, *]; done)); focus (go_step; exact hk)) | (refine Ord.St.skip 29 [30, 31, 32, 33, 34, 35, 36, 37] _ rfl (by kernel_rfl) ?_ (fun K hK => ?_); (first | rfl | (simp [Region.wanted, yielded, *]; done)); go_simp; refine hK _ ?_; clear hK K)
          first | (refine Ord.St.fl2 (T' := ?_) 30 [31, 32, 33, 34, 35, 36, 37] _ _ rfl (by kernel_rfl) ?_ rfl rfl rfl (fun K w' hk => ?_) ?_; rotate_left; (first | rfl | (simp [Region.wanted, yielded, *]; done)); focus (go_step; exact hk)) | (refine Ord.St.skip 30 [31, 32, 33, 34, 35, 36, 37] _ rfl (by kernel_rfl) ?_ (fun K hK => ?_); (first | rfl | (simp [Region.wanted, yielded, *]; done)); go_simp; refine hK _ ?_; clear hK K)
          first | (refine Ord.St.rd2 (T' := ?_) 31 [32, 33, 34, 35, 36, 37] _ _ rfl (by kernel_rfl) ?_ rfl rfl rfl (fun K hk => ?_) ?_; rotate_left; (first | rfl | (simp [Region.wanted, yielded, *]; done)); focus (go_step; exact hk)) | (refine Ord.St.skipr 31 [32, 33, 34, 35, 36, 37] _ rfl (by kernel_rfl) ?_ (fun K hK => ?_); (first | rfl | (simp [Region.wanted, yielded, *]; done)); go_simp; refine hK _ ?_; clear hK K)
          first | (refine Ord.St.rd2 (T' := ?_) 32 [33, 34, 35, 36, 37] _ _ rfl (by kernel_rfl) ?_ rfl rfl rfl (fun K hk => ?_) ?_; rotate_left; (first | rfl | (simp [Region.wanted, yielded, *]; done)); focus (go_step; exact hk)) | (refine Ord.St.skipr 32 [33, 34, 35, 36, 37] _ rfl (by kernel_rfl) ?_ (fun K hK => ?_); (first | rfl | (simp [Region.wanted, yielded, *]; done)); go_simp; refine hK _ ?_; clear hK K)
          first | (refine Ord.St.fl2 (T' := ?_) 33 [34, 35, 36, 37] _ _ rfl (by kernel_rfl) ?_ rfl rfl rfl (fun K w' hk => ?_) ?_; rotate_left; (first | rfl | (simp [Region.wanted, yielded, *]; done)); focus (go_step; exact hk)) | (refine Ord.St.skip 33 [34, 35, 36, 37] _ rfl (by kernel_rfl) ?_ (fun K hK => ?_); (first | rfl | (simp [Region.wanted, yielded, *]; done)); go_simp; refine hK _ ?_; clear hK K)
          first | (refine Ord.St.fl2 (T' := ?_) 34 [35, 36, 37] _ _ rfl (by kernel_rfl) ?_ rfl rfl rfl (fun K w' hk => ?_) ?_; rotate_left; (first | rfl | (simp [Region.wanted, yielded, *]; done)); focus (go_step; exact hk)) | (refine Ord.St.skip 34 [35, 36, 37] _ rfl (by kernel_rfl) ?_ (fun K hK => ?_); (first | rfl | (simp [Region.wanted, yielded, *]; done)); go_simp; refine hK _ ?_; clear hK K)
          first | (refine Ord.St.fl2 (T' := ?_) 35 [36, 37] _ _ rfl (by kernel_rfl) ?_ rfl rfl rfl (fun K w' hk => ?_) ?_; rotate_left; (first | rfl | (simp [Region.wanted, yielded, *]; done)); focus (go_step; exact hk)) | (refine Ord.St.skip 35 [36, 37] _ rfl (by kernel_rfl) ?_ (fun K hK => ?_); (first | rfl | (simp [Region.wanted, yielded, *]; done)); go_simp; refine hK _ ?_; clear hK K)
          first | (refine Ord.St.fl2 (T' := ?_) 36 [37] _ _ rfl (by kernel_rfl) ?_ rfl rfl rfl (fun K w' hk => ?_) ?_; rotate_left; (first | rfl | (simp [Region.wanted, yielded, *]; done)); focus (go_step; exact hk)) | (refine Ord.St.skip 36 [37] _ rfl (by kernel_rfl) ?_ (fun K hK => ?_); (first | rfl | (simp [Region.wanted, yielded, *]; done)); go_simp; refine hK _ ?_; clear hK K)
          refine Ord.St.fl2 (T' := ?_) 37 [] _ _ rfl (by kernel_rfl) rfl rfl rfl rfl (fun K w' hk => ?_) ?_
          rotate_left
          · go_step; exact hk
          refine Ord.St.nil ?_
          clear z3 hqb eQ hwD hbb hbb2 cb
          go_wp2_with fail
          go_loopw [214] (fun i wr => ∃ k : Nat, k ≤ N ∧ i = .int .i64 k ∧ Ch [] w11 wr) (fun i _ => N - (intOf i).toNat)
          case atStart => exact ⟨0, by omega, rfl, (Ch.refl _ _).drew⟩
          case round =>
            obtain ⟨k, hk, rfl, hc⟩ := hrel
            by_cases hlt2 : k < N
            · obtain ⟨lk, hlk⟩ : ∃ lk, ls[k]? = some lk := ⟨_, List.getElem?_eq_getElem (by rw [HF.out.n2]; exact hlt2)⟩
              have hlkm := List.mem_of_getElem? hlk
              have hlkl := HF.out.n2w lk hlkm
              obtain ⟨ya, yc, hy⟩ := ws_at2 HWE2.out (by rw [List.getElem?_map, hlk]; rfl)
              have hc7 := HC11.out.trans hc (by simp)
              have hoo := HOO.out.same hc7
              have d5 := (hoo.kb (b := b5) (xs := cs2) (by exact List.mem_cons_self ..)).cell (HCS2.out k _ hy)
              have z0 := (hoo.kb (b := bx) (xs := [.pointer (some ⟨g, 0, none⟩), .slice (some ⟨ab, 0, none⟩) N ac, .slice wa W wc, .slice ia V ic, .int .i64 (gd : Int)]) (by exact List.mem_cons_of_mem _ (List.mem_cons_self ..))).cell (i := 0) rfl
              simp only [WV.val, natInts_len, hlkl] at d5
              have hym : (Value.slice ya W yc, natInts lk) ∈ ws2.map (fun x => (WV.val x, WV.l x)) := List.mem_map.2 ⟨_, List.mem_of_getElem? hy, by simp only [WV.val, natInts_len, hlkl]⟩
              have hR := Reads_is (w := wr) hoo.own.gin (a := ya) (l := natInts lk) (m := W) (c := yc) (by rw [natInts_len]; exact hlkl) (hoo.sl (by exact List.mem_cons_of_mem _ (List.mem_append_left _ hym)) (by rw [natInts_len]; exact hlkl)) (hoo.held _ (by exact List.mem_cons_of_mem _ (List.mem_append_left _ hym))).bd (xa := va) (ins := ins) (k := S) (xc := vc) HIL.out (HSB.out.ch hc7 (by simp)) (by omega) (bitsR_ok (HF.out.g2 lk hlkm) (by rw [HF.out.ins, HIL.out])) (by simp [hlkl]) (by omega) (by omega)
              have hv := V2.out k lk hlk
              have hak := HAL.out k hlt2
              obtain ⟨Ak, hAe⟩ : ∃ Ak, A k = Ak := ⟨_, rfl⟩
              rw [hAe] at hv hak
              clear hAe
              have HAK := Lib.hid hak; clear hak
              generalize bitsVal (lk.map (bv (envB ins) G4.nodes)) = nY at *
              have HRX := Lib.hid hR; clear hR
              have HV := Lib.hid hv; clear hv
              have HCI := Lib.hid hc; clear hc hoo hlk hlkm hlkl hy hym hc7
              go_wp2_with fail
              (with_reducible refine HRX.out.mono ?_)
              rintro e w12 ⟨rfl, hc12⟩
              have HCJ := Lib.hid (HCI.out.trans hc12 (by simp))
              have cA := row_at2 (HRA2.out.ch HCJ.out (by simp)) (u32s_get HAK.out)
              clear hc12 HCI HRX d5 z0
              cases gv
              · have hY : nY = Ak := by rw [HV.out]; simp
                subst hY
                clear HV
                go_upto_region 33 with fail
                go_upto_region 35 with fail
                go_wp2_with fail
                exact ⟨⟨k + 1, Nat.succ_le_of_lt hlt2, rnd_val k, HCJ.out⟩, rnd_meas hlt2⟩
              · by_cases hIk : nI = k
                · have hY : nY = nW := by rw [HV.out]; simp [hIk]
                  subst hY
                  have q0 : ((nI : Int) == k) = true := beqI (by omega)
                  clear HV hIk
                  go_upto_region 33 with fail
                  go_upto_region 35 with fail
                  go_wp2_with fail
                  exact ⟨⟨k + 1, Nat.succ_le_of_lt hlt2, rnd_val k, HCJ.out⟩, rnd_meas hlt2⟩
                · have hY : nY = Ak := by rw [HV.out]; simp [hIk]
                  subst hY
                  have q0 : ((nI : Int) == k) = false := beqN (by omega)
                  clear HV hIk
                  go_upto_region 33 with fail
                  go_upto_region 35 with fail
                  go_wp2_with fail
                  exact ⟨⟨k + 1, Nat.succ_le_of_lt hlt2, rnd_val k, HCJ.out⟩, rnd_meas hlt2⟩
            · have HCI := Lib.hid hc; clear hc
              go_wp2_with fail
              go_roundw
              case rel => exact ⟨x + 1, by omega, by go_num, HC7.out.trans (HC11.out.trans HCI.out (by simp)) (by simp)⟩
              case measure => simp [intOf]; omega
    · have HC := Lib.hid hc; clear hc
      go_wp2_with fail
      go_ret
      exact ⟨rfl, (HC1.out.trans HO.out.own.ch (by simp)).trans HC.out (by simp)⟩
theorem MuxesIs_walk {w : World} (n : Nat) (_ : n ≤ 255) (wd : Nat) (_ : wd ≤ 255) (v : Nat) (_ : v ≤ 255) {xa : Option Addr} {m xc : Nat} {l : List Nat} (hX : U32S w xa m xc l) :
    Calls Tryz.prog 6 #[.int .u8 n, .int .u8 wd, .int .u8 v, .slice xa m xc] w fun e w' => e = .returned (.bool true) ∧ Ch [] w w' :=
  MuxesIs_core w n wd v _ _ _ _ rfl rfl rfl rfl hX
end
end Go.Proofs.YtdmmanfjafempaaGreat
