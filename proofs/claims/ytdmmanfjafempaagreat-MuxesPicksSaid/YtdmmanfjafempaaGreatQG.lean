/-
  Walk over the chapter's examples (awake of muxes): true. Conditions: none.
  Walk over MuxesPicks: true, whatever comes in. Conditions: any two bytes, a slice of any numbers.
-/
import Derived.Test.YtdmmanfjafempaaGreatQF
import Derived.Test.YtdmmanfjafempaaGreatQD
import Derived.Deep.DeepCutAuto
import Derived.Deep.CutBlock
namespace Go.Proofs.YtdmmanfjafempaaGreat
open Go.RowKit Go.Mem Go.Aig
def sb6 : Gra := ⟨4000, [⟨1, 0, 0, 0⟩, ⟨2, 0, 0, 0⟩, ⟨2, 0, 0, 0⟩, ⟨2, 0, 0, 0⟩, ⟨2, 0, 0, 0⟩, ⟨2, 0, 0, 0⟩, ⟨2, 0, 0, 0⟩]⟩
def sb7 : Gra := ⟨4000, [⟨1, 0, 0, 0⟩, ⟨2, 0, 0, 0⟩, ⟨2, 0, 0, 0⟩, ⟨2, 0, 0, 0⟩, ⟨2, 0, 0, 0⟩, ⟨2, 0, 0, 0⟩, ⟨2, 0, 0, 0⟩, ⟨3, 11, 13, 1⟩, ⟨3, 10, 13, 1⟩, ⟨3, 11, 12, 1⟩]⟩
section
theorem Pair1_is (w : World) : Calls Tryz.prog 36 #[.int .u8 1] w fun e w' => ∃ g F xa xc ya yc, e = .returned (.tuple #[.pointer (some ⟨g, 0, none⟩), .slice xa 2 xc, .slice ya 2 yc]) ∧ Hold w w' g (gIn 4000 4) F [(.slice ya 2 yc, natInts [6, 8]), (.slice xa 2 xc, natInts [2, 4])] := Pair_is w 1 (by decide)
theorem mFit31_is [Nonempty Unit] (w : World) : Calls Tryz.prog 39 #[.int .i64 3, .int .i64 1] w fun e w' => e = .returned (.tuple #[.int .i64 2, .int .i64 0]) ∧ w = w' := by
  have h := mFit_is (w := w) 3 1
  rw [show fitG 3 1 = (2, 0) by decide] at h
  exact h
set_option maxRecDepth 100000 in
set_option maxHeartbeats 4000000 in
theorem awake26_is [Nonempty Unit] (w : World) : Calls Tryz.prog 10 #[] w fun e w' => e = .returned (.bool true) ∧ Ch [] w w' := by
  have hN := Pair1_is w
  have HN := Lib.hid hN; clear hN
  go_enter Tryz.func10, Tryz.ntmps10
  go_wp2_with fail
  refine HN.out.mono ?_
  rintro e w1 ⟨g, F1, a1, c1, a2, c2, rfl, ho⟩
  have HO := Lib.hid ho; clear ho HN
  go_wp2_with fail
  refine (sInput_h HO.out 2 (G' := sb6) (l := [10, 12]) (e := 0) (k := 2) (by kernel_rfl) rfl (by decide) (by decide)).mono ?_
  rintro e w2 ⟨a3, c3, F2, rfl, ho⟩
  clear HO; have HO := Lib.hid ho; clear ho
  go_wp2_with fail
  refine (mChoose_h HO.out 1 (by decide) (xa := a1) (xc := c1) (n := 2) (xl := natInts [2, 4]) (by simp) rfl (ya := a2) (yc := c2) (m := 2) (yl := natInts [6, 8]) (by simp) rfl (G' := sb6) (l := [2, 4]) (e := 0) (k := 2) (by kernel_rfl) rfl (by decide) (by decide)).mono ?_
  rintro e w3 ⟨a4, c4, F3, rfl, ho⟩
  clear HO; have HO := Lib.hid ho; clear ho
  go_wp2_with fail
  refine (mChoose_h HO.out 0 (by decide) (xa := a1) (xc := c1) (n := 2) (xl := natInts [2, 4]) (by simp) rfl (ya := a2) (yc := c2) (m := 2) (yl := natInts [6, 8]) (by simp) rfl (G' := sb6) (l := [6, 8]) (e := 0) (k := 2) (by kernel_rfl) rfl (by decide) (by decide)).mono ?_
  rintro e w4 ⟨a5, c5, F4, rfl, ho⟩
  clear HO; have HO := Lib.hid ho; clear ho
  go_wp2_with fail
  refine (sConst_h HO.out 1 (by decide) 2 rfl).mono ?_
  rintro e w5 ⟨a6, c6, rfl, ho⟩
  clear HO; have HO := Lib.hid ho; clear ho
  go_wp2_with fail
  refine (sConst_h HO.out 3 (by decide) 2 rfl).mono ?_
  rintro e w6 ⟨a7, c7, rfl, ho⟩
  clear HO; have HO := Lib.hid ho; clear ho
  go_wp2_with fail
  refine calls_named fun WA hWA => ?_
  have hlb := alw_blk (xs := [.slice a1 2 c1, .slice a2 2 c2, .slice a3 2 c3]) hWA
  have ho := HO.out.keepN (alw_ch hWA) hlb
  clear hWA hlb HO
  generalize w6.heap.size = lb at *
  have HO := Lib.hid ho; clear ho
  refine (mRead_h HO.out (lc := 3) (HO.out.wa (b := lb) (Ls := [⟨a1, natInts [2, 4], c1⟩, ⟨a2, natInts [6, 8], c2⟩, ⟨a3, natInts [10, 12], c3⟩]) (by exact List.mem_cons_self ..) (by intro x hx; simp only [List.mem_cons, List.not_mem_nil, or_false] at hx; rcases hx with rfl | rfl | rfl <;> simp [WV.val]) (n := 3) rfl) (ya := a6) (yc := c6) (m := 2) (yl := natInts (constL 1 2)) (by simp) rfl (G' := sb6) (l := [6, 8]) (e := 0) (k := 2) (by kernel_rfl) rfl (by decide) (by decide)).mono ?_
  rintro e w7 ⟨a8, c8, F5, rfl, ho⟩
  clear HO; have HO := Lib.hid ho; clear ho
  go_wp2_with fail
  refine (mRead_h HO.out (lc := 3) (HO.out.wa (b := lb) (Ls := [⟨a1, natInts [2, 4], c1⟩, ⟨a2, natInts [6, 8], c2⟩, ⟨a3, natInts [10, 12], c3⟩]) (by exact List.mem_cons_self ..) (by intro x hx; simp only [List.mem_cons, List.not_mem_nil, or_false] at hx; rcases hx with rfl | rfl | rfl <;> simp [WV.val]) (n := 3) rfl) (ya := a7) (yc := c7) (m := 2) (yl := natInts (constL 3 2)) (by simp) rfl (G' := sb6) (l := [0, 0]) (e := 0) (k := 2) (by kernel_rfl) rfl (by decide) (by decide)).mono ?_
  rintro e w8 ⟨a9, c9, F6, rfl, ho⟩
  clear HO; have HO := Lib.hid ho; clear ho
  go_wp2_with fail
  refine (mFit31_is _).mono ?_
  rintro e w' ⟨rfl, rfl⟩
  go_wp2_with fail
  refine (Eqref_h HO.out (xa := a4) (xc := c4) (n := 2) (xl := natInts [2, 4]) (by simp) rfl (ya := a1) (yc := c1) (m := 2) (yl := natInts [2, 4]) (by simp) rfl (q := true) (by decide)).mono ?_
  rintro e w9 ⟨rfl, ho⟩
  clear HO; have HO := Lib.hid ho; clear ho
  go_wp2_with fail
  refine (Eqref_h HO.out (xa := a5) (xc := c5) (n := 2) (xl := natInts [6, 8]) (by simp) rfl (ya := a2) (yc := c2) (m := 2) (yl := natInts [6, 8]) (by simp) rfl (q := true) (by decide)).mono ?_
  rintro e w10 ⟨rfl, ho⟩
  clear HO; have HO := Lib.hid ho; clear ho
  go_wp2_with fail
  refine (Eqref_h HO.out (xa := a8) (xc := c8) (n := 2) (xl := natInts [6, 8]) (by simp) rfl (ya := a2) (yc := c2) (m := 2) (yl := natInts [6, 8]) (by simp) rfl (q := true) (by decide)).mono ?_
  rintro e w11 ⟨rfl, ho⟩
  clear HO; have HO := Lib.hid ho; clear ho
  go_wp2_with fail
  have ho := HO.out.same ((Ch.refl [] w11).alloc (.cells #[.int .i64 0, .int .i64 0] 41))
  clear HO; have HO := Lib.hid ho; clear ho
  refine (Eqref_c HO.out (xa := a9) (xc := c9) (n := 2) (xl := natInts [0, 0]) (by simp) rfl (b := w11.heap.size) (m := 2) (ys := [0, 0]) (blk.new' _ _ rfl) rfl (by decide) (q := true) (by decide)).mono ?_
  rintro e w12 ⟨rfl, ho⟩
  clear HO; have HO := Lib.hid ho; clear ho
  go_wp2_with fail
  refine (mWrite_h HO.out (lc := 3) (HO.out.wa (b := lb) (Ls := [⟨a1, natInts [2, 4], c1⟩, ⟨a2, natInts [6, 8], c2⟩, ⟨a3, natInts [10, 12], c3⟩]) (by exact List.mem_cons_self ..) (by intro x hx; simp only [List.mem_cons, List.not_mem_nil, or_false] at hx; rcases hx with rfl | rfl | rfl <;> simp [WV.val]) (n := 3) rfl) 0 (by decide) (ya := a3) (yc := c3) (m := 2) (yl := natInts [10, 12]) (by simp) rfl (xa := a1) (xc := c1) (n := 2) (xl := natInts [2, 4]) (by simp) rfl (G' := sb7) (ls := [[2, 4], [6, 8], [10, 12]]) (e := 0) (k := 3) (by kernel_rfl) rfl (by decide) (by decide)).mono ?_
  rintro e w13 ⟨b10, c10, F7, cs, ws, rfl, ho, hcs, hws⟩
  clear HO; have HO := Lib.hid ho; clear ho
  have HCS := Lib.hid hcs; clear hcs
  have HWS := Lib.hid hws; clear hws
  go_wp2_with fail
  refine calls_named fun WB hWB => ?_
  have hlb := alw_blk (xs := [.slice a3 2 c3]) hWB
  have ho := HO.out.keepN (alw_ch hWB) hlb
  clear hWB hlb HO
  generalize w13.heap.size = lc at *
  have HO := Lib.hid ho; clear ho
  refine (mPick_h HO.out (lc := 1) (HO.out.wa (b := lc) (Ls := [⟨a3, natInts [10, 12], c3⟩]) (by exact List.mem_cons_self ..) (by intro x hx; simp only [List.mem_cons, List.not_mem_nil, or_false] at hx; rcases hx with rfl <;> simp [WV.val]) (n := 1) rfl) (y := ⟨none, [], 0⟩) ⟨⟨⟨by simp, by simp⟩, by simp, by simp⟩, by simp [ablk]⟩ (by simp) (G' := sb7) (l := [10, 12]) (e := 0) (k := 2) (by kernel_rfl) rfl (by decide) (by decide)).mono ?_
  rintro e w14 ⟨a11, c11, F8, rfl, ho⟩
  clear HO; have HO := Lib.hid ho; clear ho
  go_wp2_with fail
  refine (mEqual_h HO.out (HO.out.wa (b := lb) (Ls := [⟨a1, natInts [2, 4], c1⟩, ⟨a2, natInts [6, 8], c2⟩, ⟨a3, natInts [10, 12], c3⟩]) (by exact List.mem_cons_of_mem _ (List.mem_cons_of_mem _ (List.mem_cons_self ..))) (by intro x hx; simp only [List.mem_cons, List.not_mem_nil, or_false] at hx; rcases hx with rfl | rfl | rfl <;> simp [WV.val]) (n := 3) rfl) (HO.out.wa (b := lb) (Ls := [⟨a1, natInts [2, 4], c1⟩, ⟨a2, natInts [6, 8], c2⟩, ⟨a3, natInts [10, 12], c3⟩]) (by exact List.mem_cons_of_mem _ (List.mem_cons_of_mem _ (List.mem_cons_self ..))) (by intro x hx; simp only [List.mem_cons, List.not_mem_nil, or_false] at hx; rcases hx with rfl | rfl | rfl <;> simp [WV.val]) (n := 3) rfl) (by decide) (G' := sb7) (r := 1) (e := 0) (by kernel_rfl)).mono ?_
  rintro e w15 ⟨F9, rfl, ho⟩
  clear HO; have HO := Lib.hid ho; clear ho
  go_wp2_with fail
  have hA := HO.out.ar (b := b10) (cs := cs) (ws := ws) (by exact List.mem_cons_of_mem _ (List.mem_cons_self ..)) HCS.out (fun x hx => by simp only [List.mem_cons, List.mem_append]; exact .inr (.inl (List.mem_map.2 ⟨x, hx, rfl⟩)))
  have hcl : ∀ (i : Nat) (x : WV), ([⟨a1, natInts [2, 4], c1⟩, ⟨a2, natInts [6, 8], c2⟩, ⟨a3, natInts [10, 12], c3⟩] : List WV)[i]? = some x → ([.slice a1 2 c1, .slice a2 2 c2, .slice a3 2 c3] : List Value)[i]? = some x.val := fun i x hx => by
    rcases i with _ | _ | _ | i
    · cases hx; rfl
    · cases hx; rfl
    · cases hx; rfl
    · simp at hx
  have hB := HO.out.ar (b := lb) (ws := [⟨a1, natInts [2, 4], c1⟩, ⟨a2, natInts [6, 8], c2⟩, ⟨a3, natInts [10, 12], c3⟩]) (cs := [.slice a1 2 c1, .slice a2 2 c2, .slice a3 2 c3]) (by exact List.mem_cons_of_mem _ (List.mem_cons_of_mem _ (List.mem_cons_self ..))) hcl (by intro x hx; simp only [List.mem_cons, List.not_mem_nil, or_false] at hx; rcases hx with rfl | rfl | rfl <;> simp [WV.val])
  clear hcl
  have hwl : ws.length = 3 := by have := congrArg List.length HWS.out; simpa using this
  refine (EFlst_yes (As := ws) 3 c10 3 (by decide) hA hB hwl rfl (fun i x y hx hy => ?_)).mono ?_
  · have h1 : (ws.map WV.l)[i]? = some x.l := by rw [List.getElem?_map, hx]; rfl
    rw [HWS.out] at h1
    rcases i with _ | _ | _ | i
    · cases hy; exact (Option.some.inj h1).symm
    · cases hy; exact (Option.some.inj h1).symm
    · cases hy; exact (Option.some.inj h1).symm
    · simp at hy
  rintro e wz ⟨rfl, hcz⟩
  have ho := HO.out.same hcz
  clear HO hcz hA hB hwl; have HO := Lib.hid ho; clear ho
  go_wp2_with fail
  refine (Eqref_h HO.out (xa := a11) (xc := c11) (n := 2) (xl := natInts [10, 12]) (by simp) rfl (ya := a3) (yc := c3) (m := 2) (yl := natInts [10, 12]) (by simp) rfl (q := true) (by decide)).mono ?_
  rintro e w16 ⟨rfl, ho⟩
  clear HO; have HO := Lib.hid ho; clear ho
  go_wp2_with fail
  go_ret
  exact ⟨rfl, HO.out.own.ch⟩
end
end Go.Proofs.YtdmmanfjafempaaGreat
namespace Go.Aig
theorem doInput_gIn {most n : Nat} (h : n + 1 < most) : Go.Proofs.YtdmmanfjafempaaGreat.doInput (gIn most n) = (gIn most (n + 1), 2 * (n + 1), 0) := by
  have hl : (gIn most n).nodes.length = n + 1 := by simp [gIn]
  have e : (gIn most (n + 1)).nodes = (gIn most n).nodes ++ [⟨2, 0, 0, 0⟩] := by
    unfold gIn
    show _ :: List.replicate (n + 1) _ = (_ :: List.replicate n _) ++ _
    rw [List.replicate_succ', List.cons_append]
  unfold Go.Proofs.YtdmmanfjafempaaGreat.doInput put
  rw [hl, if_neg (by show ¬ most ≤ n + 1; omega), ← e]
  rfl
theorem rIn_snoc (s k : Nat) : rIn s (k + 1) = rIn s k ++ [2 * (s + k + 1)] := by
  unfold rIn
  rw [List.range_succ, List.map_append]
  rfl
theorem rIn_len' (s k : Nat) : (rIn s k).length = k := by simp [rIn]
end Go.Aig
namespace Go.Proofs.YtdmmanfjafempaaGreat
open Go.RowKit Go.Mem Go.Aig
theorem Hold.grow {w0 : Base} {w w' : World} {g : Nat} {G : Gra} {F K : List Nat} {L : List (Value × List Int)} (h : Hold w0 w g G F L) (hc : Ch K w w') (hK : ∀ q ∈ K, q ∉ F ∧ (∀ p ∈ L, p.1.ownBlock ≠ some q) ∧ (∀ p ∈ w0.K, p.1 ≠ q) ∧ w0.w.heap.size ≤ q) : Hold w0 w' g G F L :=
  ⟨⟨h.own.gin.same hc (fun k hk hin => (hK k hin).1 hk), h.own.own, h.own.ch.trans hc (fun k hk => .inr (hK k hk).2.2.2)⟩,
    fun p hp => ⟨(h.held p hp).row.ch hc (fun q hq hin => (hK q hin).2.1 p hp hq), (h.held p hp).len, (h.held p hp).bd, (h.held p hp).own⟩,
    fun p hp => ⟨(h.kept p hp).1.ch hc (fun hin => (hK _ hin).2.2.1 p hp rfl), (h.kept p hp).2⟩⟩
theorem Hold.far {w0 : Base} {w : World} {g : Nat} {G : Gra} {F : List Nat} {L : List (Value × List Int)} (h : Hold w0 w g G F L) {q : Nat} (hq : w.heap.size ≤ q) : (∀ p ∈ L, p.1.ownBlock ≠ some q) ∧ (∀ p ∈ w0.K, p.1 ≠ q) ∧ w0.w.heap.size ≤ q :=
  ⟨fun p hp e => by have := ((h.held p hp).row.lt q e).2; omega, fun p hp e => by have := (h.kept p hp).1.lt; omega, Nat.le_trans h.own.ch.size hq⟩
theorem blk.of_row {w : World} {e : TypeId} {b n c : Nat} {vs : List Value} (h : row w e 1 (.slice (some ⟨b, 0, none⟩) n c) n vs) : ∃ cs, blk w b cs ∧ ∀ (i : Nat) (v : Value), vs[i]? = some v → cs[i]? = some v := by
  rcases h.2 with ⟨e1, _⟩ | ⟨b', cap, cur, e1, _, hb, _, _, _, ht⟩
  · cases e1
  · cases e1
    refine ⟨cur.toList, ⟨_, by rw [Array.toArray_toList]; exact hb⟩, fun i v hv => ?_⟩
    rw [← ht] at hv
    have h2 := (List.getElem?_eq_some_iff.1 hv).1
    rw [List.length_take] at h2
    rw [List.getElem?_take_of_lt (by omega)] at hv
    exact hv
theorem vals_slv (ws : List WV) : ws.map WV.val = slvs (ws.map fun x => (x.a, x.l.length, x.c)) := by
  unfold slvs
  rw [List.map_map]
  rfl
section
set_option maxRecDepth 100000 in
set_option maxHeartbeats 8000000 in
theorem MuxesPicks_core [Nonempty Unit] (w : World) (n wd N W V T S Z : Nat) (hN : n % 4 + 1 = N) (hW : wd % 3 + 1 = W) (hV : 0 % 3 + 1 = V) (hT : N * W + W + V + 1 = T) (hZ : N - 1 = Z) (hS : T + Z = S) {xa : Option Addr} {m xc : Nat} {l : List Nat} (hX : U32S w xa m xc l) :
    Calls Tryz.prog 5 #[.int .u8 n, .int .u8 wd, .slice xa m xc] w fun e w' => e = .returned (.bool true) ∧ Ch [] w w' := by
  have hN4 : 1 ≤ N ∧ N ≤ 4 := by omega
  have hW3 : 1 ≤ W ∧ W ≤ 3 := by omega
  have hV1 : V = 1 := by omega
  have hNW : N * W ≤ 12 := Nat.mul_le_mul hN4.2 hW3.2
  obtain ⟨gd, hgd⟩ : ∃ gd : Nat, 2 * T = gd := ⟨_, rfl⟩
  have HBE := Lib.hid (fun W1 => begin26_T W1 n wd 0 N W V T gd hN hW hV hT hgd)
  have HFA := Lib.hid (fun h => picks_facts (N := N) (W := W) (T := T) hN4 hW3 (by omega) h)
  have hT20 : T ≤ 17 := by omega
  have hS25 : S ≤ 20 := by omega
  have hZN1 : Z + 1 ≤ N := by omega
  have hZN2 : N ≤ Z + 1 := by omega
  have hgd50 : gd ≤ 50 := by omega
  have HSE := Lib.hid hS
  rw [hZ, hS] at HFA
  have HZE := Lib.hid hZ
  have HV3 := Lib.hid (show V ≤ 3 by omega)
  clear hgd hN hW hV hT hZ hS hV1
  have hlen := hX.len
  have hle := hX.le
  have hmxc := hX.max
  obtain ⟨M, hM, hM8, hMm⟩ : ∃ M, min m 20 = M ∧ M ≤ 20 ∧ M ≤ m := ⟨_, rfl, by omega, by omega⟩
  have hmin : ∀ ats ty, Builtin.min_ ats ty #[.int .i64 (m : Int), .int .i64 20] = pure (.int .i64 (M : Int)) := fun ats ty => by
    have e : (if (20 : Int) < m then 20 else (m : Int)) = M := by split <;> omega
    rw [← e]
    simp [Builtin.min_, Builtin.min2]
  have hLn : (l.take M).length = M := by rw [List.length_take, hlen]; omega
  have hLb : ∀ z ∈ l.take M, z < 4294967296 := fun z hz => hX.bd z (List.mem_of_mem_take hz)
  have hLs : Sv w xa (u32s (l.take M)) := by
    refine ⟨fun i x hx => ?_, by simp [u32s]; omega⟩
    refine hX.sv.cells i x ?_
    unfold u32s at hx
    rw [List.getElem?_map] at hx ⊢
    rw [List.getElem?_take] at hx
    split at hx
    · exact hx
    · cases hx
  generalize l.take M = L0 at *
  clear hX hlen hM hNW
  have HLN := Lib.hid hLn; clear hLn
  have HLB := Lib.hid hLb; clear hLb
  have HLS := Lib.hid hLs; clear hLs
  have HMIN := Lib.hid hmin; clear hmin
  go_enter Tryz.func5, Tryz.ntmps5
  go_wp2_with fail
  refine (awake26_is w).mono ?_
  rintro e w1 ⟨rfl, hc1⟩
  have HC1 := Lib.hid hc1; clear hc1
  go_wp2_with fail
  refine (HBE.out w1).mono ?_
  rintro e w2 ⟨g, F, ab, ac, cs, ws, wa, wc, ia, ic, rfl, ho, hcs, hws⟩
  have hwl := wld_len hws
  have HWL1 := Lib.hid hwl; clear hwl
  have HWE := Lib.hid hws; clear hws
  have HCS := Lib.hid hcs; clear hcs
  have HO := Lib.hid ho; clear ho HBE
  go_upto_region 6 with fail
  refine wp_named fun W3 hW3' => ?_
  have hlb := alw_blk (xs := [.pointer (some ⟨g, 0, none⟩), .slice (some ⟨ab, 0, none⟩) N ac, .slice wa W wc, .slice ia V ic, .int .i64 (gd : Int)]) hW3'
  have ho := HO.out.keepN (alw_ch hW3') hlb
  clear hW3' hlb HO
  generalize w2.heap.size = bx at *
  have HO := Lib.hid ho; clear ho
  have HO3 := HO
  have z1 := (HO.out.kb (b := bx) (xs := [.pointer (some ⟨g, 0, none⟩), .slice (some ⟨ab, 0, none⟩) N ac, .slice wa W wc, .slice ia V ic, .int .i64 (gd : Int)]) (by exact List.mem_cons_self ..)).cell (i := 1) rfl
  go_wp2_with fail
  clear z1
  have ez : (N : Int) - 1 = (Z : Int) := by omega
  rw [ez]
  clear ez
  go_loopw [9, 45] (fun gs i wr => ∃ (k : Nat) (F' : List Nat), k ≤ Z ∧ i = .int .i64 k ∧ Hold (((w1 : Base).add ab cs).add bx [.pointer (some ⟨g, 0, none⟩), .slice (some ⟨ab, 0, none⟩) N ac, .slice wa W wc, .slice ia V ic, .int .i64 (gd : Int)]) wr g (gIn 8000 (T + k)) F' ((ws.map fun x => (WV.val x, WV.l x)) ++ [(.slice wa W wc, natInts (rIn (N * W) W)), (.slice ia V ic, natInts (rIn (N * W + W) V))]) ∧ row wr 41 1 gs k (refsCells (rIn T k)) ∧ (∀ q, gs.ownBlock = some q → W3.heap.size ≤ q ∧ q ∉ F') ∧ W3.heap.size ≤ wr.heap.size) (fun _ i _ => Z - (intOf i).toNat)
  case atStart => exact ⟨0, F, by omega, rfl, HO.out, ⟨rfl, .inl ⟨rfl, rfl⟩⟩, by simp [Value.ownBlock], Nat.le_refl _⟩
  case round =>
    clear HO
    obtain ⟨k, F', hk, rfl, ho, hrow, hown, hz3'⟩ := hrel
    obtain ⟨oa, oc, rfl⟩ := row.shape hrow
    by_cases hlt : k < Z
    · have hi := Input_g ho.own.gin
      rw [doInput_gIn (by omega)] at hi
      have z0 := (ho.kb (b := bx) (xs := [.pointer (some ⟨g, 0, none⟩), .slice (some ⟨ab, 0, none⟩) N ac, .slice wa W wc, .slice ia V ic, .int .i64 (gd : Int)]) (by exact List.mem_cons_self ..)).cell (i := 0) rfl
      have HI := Lib.hid hi; clear hi
      have HO := Lib.hid ho; clear ho
      have HROW := Lib.hid hrow; clear hrow
      have HOWN := Lib.hid hown; clear hown
      go_wp2_with fail
      refine HI.out.mono ?_
      rintro e wn ⟨rfl, F2, hg2, hc2, hF2, hm2⟩
      have hlw : ∀ q, (Value.slice oa k oc).ownBlock = some q → q < wr.heap.size := fun q hq => (HROW.out.lt q hq).2
      have hown2 : ∀ q, (Value.slice oa k oc).ownBlock = some q → W3.heap.size ≤ q ∧ q ∉ F2 := fun q hq => ⟨(HOWN.out q hq).1, fun hin => (hF2 q hin).elim (HOWN.out q hq).2 (fun e => by have := hlw q hq; omega)⟩
      have hrow2 := HROW.out.ch hc2 (fun q hq => (HOWN.out q hq).2)
      have ho2 : Hold _ wn g (gIn 8000 (T + k + 1)) F2 _ := ⟨⟨hg2, fun k hk => (hF2 k hk).elim (HO.out.own.own k) (fun e => Nat.le_trans HO.out.own.ch.size e), HO.out.own.ch.trans hc2 (fun k hk => .inr (HO.out.own.own k hk))⟩, fun p hp => (HO.out.held p hp).keep hc2 hF2, HO.out.keptTo hc2 hF2⟩
      have hz3 : W3.heap.size ≤ wn.heap.size := Nat.le_trans hz3' hc2.size
      clear z0 hc2 hF2 hm2 hlw HROW HOWN HO HI hg2
      obtain ⟨rr, hrr⟩ : ∃ rr : Nat, 2 * (T + k + 1) = rr := ⟨_, rfl⟩
      have hcA : Ch [] wn (wn.alloc (.cells #[.int .i64 (rr : Int)] 41)) := (Ch.refl _ _).alloc _
      have hrA := hrow2.ch hcA (by simp)
      have hbA : blk (wn.alloc (.cells #[.int .i64 (rr : Int)] 41)) wn.heap.size [.int .i64 (rr : Int)] := blk.new' _ _ rfl
      have HOA := Lib.hid (ho2.same hcA); clear ho2
      have HRA := Lib.hid hrA; clear hrA hrow2
      have HBA := Lib.hid hbA; clear hbA hcA
      have HOW := Lib.hid hown2; clear hown2
      rw [hrr]
      have HRR := Lib.hid hrr; clear hrr
      go_wp2_with (at_builtin; go_loud (refine wpList_append_row slRefs rfl _ _ rfl (v := .slice oa k oc) (n := k) (xs := refsCells (rIn T k)) rfl HRA.out (ad := ⟨wn.heap.size, 0, none⟩) (m := 1) (c := 1) (news := [.int .i64 (rr : Int)]) rfl rfl (news_blk HBA.out) (by simp [Value.oneCell']) (by omega) (by omega) ?_; intro v' w5 hown4 hC4 hf4; have HO4 := Lib.hid hown4; clear hown4; have HCC4 := Lib.hid hC4; clear hC4; have HF4 := Lib.hid hf4; clear hf4))
      go_roundw
      case rel =>
        have hr5 := HO4.out
        refine ⟨k + 1, F2, by omega, by go_num, HOA.out.grow HCC4.out (fun q hq => ?_), ?_, fun q hq => ?_, ?_⟩
        · have h1 := HOW.out q (by simpa using hq)
          exact ⟨h1.2, HO3.out.far h1.1⟩
        · rw [rIn_snoc, HRR.out]
          have : refsCells (rIn T k ++ [rr]) = refsCells (rIn T k) ++ [.int .i64 (rr : Int)] := by simp [refsCells]
          rw [this]
          exact hr5
        · rcases HF4.out q hq with e | e
          · exact HOW.out q e
          · simp at e
            exact ⟨by omega, fun hin => by have := HOA.out.own.gin.lt q hin; simp at this; omega⟩
        · have h9 := HCC4.out.size
          simp at h9
          omega
      case measure => simp [intOf]; omega
    · have hkZ : k = Z := by omega
      subst hkZ
      have HSEo := HSE.out
      rw [HSEo] at ho
      clear HSEo
      have hgh : Held w1 wr F' (.slice oa k oc) (natInts (rIn T k)) := ⟨by rw [natInts_len, rIn_len', ← refs_natInts]; exact hrow, by rw [natInts_len, rIn_len']; omega, fun r hr => by
        obtain ⟨z, hz, rfl⟩ := List.mem_map.1 hr
        have := rIn_le hz
        omega, fun q hq => ⟨(HO3.out.far (hown q hq).1).2.2, (hown q hq).2⟩⟩
      have ho' : Hold _ wr g (gIn 8000 S) F' ((.slice oa k oc, natInts (rIn T k)) :: _) := ⟨ho.own, fun p hp => by
        rcases List.mem_cons.1 hp with rfl | hp
        · exact hgh
        · exact ho.held p hp, ho.kept⟩
      have HO := Lib.hid ho'; clear ho' ho hgh hrow hown hz3' HO3
      obtain ⟨G1, G2, lp, ri, hF⟩ := HFA.out HO.out.own.gin.ok
      have hfi : (inputs G2.nodes).length = S := by rw [hF.ins, HZE.out]; exact HSE.out
      have HFI := Lib.hid hfi; clear hfi
      have hr1 := hF.r1
      have hvp := hF.vp
      rw [HZE.out] at hr1 hvp
      rw [HSE.out] at hr1
      have HR1 := Lib.hid hr1; clear hr1
      have HVP := Lib.hid hvp; clear hvp
      have HF := Lib.hid hF; clear hF HFA
      have hkx := HO.out.kb (b := bx) (xs := [.pointer (some ⟨g, 0, none⟩), .slice (some ⟨ab, 0, none⟩) N ac, .slice wa W wc, .slice ia V ic, .int .i64 (gd : Int)]) (by exact List.mem_cons_self ..)
      have z0 := hkx.cell (i := 0) rfl
      have z1 := hkx.cell (i := 1) rfl
      clear hkx
      have hwa := HO.out.wa2 (b := ab) (cs := cs) (ws := ws) (by exact List.mem_cons_of_mem _ (List.mem_cons_self ..)) HCS.out (fun x hx => (by exact List.mem_cons_of_mem _ (List.mem_append_left _ (List.mem_map.2 ⟨x, hx, rfl⟩)))) HWL1.out
      have hp := mPick_h HO.out (lc := ac) hwa (y := ⟨oa, natInts (rIn T k), oc⟩) (HO.out.at (by exact List.mem_cons_self ..) (by rw [natInts_len, rIn_len'])) (by have := (HO.out.held _ (by exact List.mem_cons_self ..)).cap; show (natInts (rIn T k)).length ≤ oc; rw [natInts_len, rIn_len']; exact this) (by rw [HWE.out]; exact HR1.out) HF.out.np HF.out.smp (by omega)
      simp only [WV.val, natInts_len, rIn_len'] at hp
      have HP := Lib.hid hp; clear hp hwa
      go_wp2_with fail
      refine (HP.out).mono ?_
      rintro e w5 ⟨a3, c3, F4, rfl, ho⟩
      clear HO; have HO := Lib.hid ho; clear ho
      clear z0 z1
      clear HP HR1
      have hkx := HO.out.kb (b := bx) (xs := [.pointer (some ⟨g, 0, none⟩), .slice (some ⟨ab, 0, none⟩) N ac, .slice wa W wc, .slice ia V ic, .int .i64 (gd : Int)]) (by exact List.mem_cons_self ..)
      have z1 := hkx.cell (i := 1) rfl
      clear hkx
      have hsv : Sv w5 (some ⟨ab, 0, none⟩) (slvs (ws.map fun x => (x.a, x.l.length, x.c))) := ⟨fun i v hv => by
        rw [← vals_slv, List.getElem?_map] at hv
        rcases hx : ws[i]? with _ | x
        · rw [hx] at hv; cases hv
        · rw [hx] at hv
          cases hv
          exact ⟨ab, 0, rfl, by rw [Nat.zero_add]; exact (HO.out.kb (b := ab) (xs := cs) (by exact List.mem_cons_of_mem _ (List.mem_cons_self ..))).cell (HCS.out i x hx)⟩, by simp [slvs, HWL1.out]; omega⟩
      have hcl := CLlst_is (w := w5) (a := some ⟨ab, 0, none⟩) (l := ws.map fun x => (x.a, x.l.length, x.c)) N ac (by rw [List.length_map]; exact HWL1.out) hsv (by omega)
      have HCL := Lib.hid hcl; clear hcl hsv
      go_wp2_with fail
      refine HCL.out.mono ?_
      rintro e wt ⟨v5, rfl, hrow, hvv, hct⟩
      obtain ⟨tb, tc, rfl⟩ := hrow.parts (by omega)
      have htb : w5.heap.size ≤ tb := hvv tb (by simp)
      clear hvv HCL z1
      have hrv := Revlst_some hrow (by omega)
      have HRV := Lib.hid hrv; clear hrv
      have hfar := HO.out.far htb
      have hFt : tb ∉ F4 := fun hin => by have := HO.out.own.gin.lt tb hin; omega
      have HOT := Lib.hid (HO.out.same hct)
      clear HO hrow hct
      go_wp2_with fail
      refine HRV.out.mono ?_
      rintro e wu ⟨⟨vv, rfl⟩, hrow, hcu⟩
      clear HRV
      have ho := HOT.out.grow hcu (fun q hq => by
        rw [List.mem_singleton.1 hq]
        exact ⟨hFt, hfar⟩)
      obtain ⟨tcs, htk, htc⟩ := blk.of_row hrow
      have ho2 := ho.keepB htk hfar.2.2 hFt
      have HO := Lib.hid ho2; clear ho ho2 HOT hfar hFt htb hcu htk hrow
      have htc2 : ∀ (i : Nat) (x : WV), ws.reverse[i]? = some x → tcs[i]? = some x.val := fun i x hx => htc i x.val (by
        rw [show slvs (ws.map fun x => (x.a, x.l.length, x.c)).reverse = (ws.map WV.val).reverse by rw [vals_slv]; unfold slvs; rw [List.map_reverse], ← List.map_reverse, List.getElem?_map, hx]
        rfl)
      have HTC := Lib.hid htc2; clear htc htc2
      have hkx := HO.out.kb (b := bx) (xs := [.pointer (some ⟨g, 0, none⟩), .slice (some ⟨ab, 0, none⟩) N ac, .slice wa W wc, .slice ia V ic, .int .i64 (gd : Int)]) (by exact List.mem_cons_of_mem _ (List.mem_cons_self ..))
      have z0 := hkx.cell (i := 0) rfl
      have z1 := hkx.cell (i := 1) rfl
      clear hkx
      have hwa := HO.out.wa2 (b := ab) (cs := cs) (ws := ws) (by exact List.mem_cons_of_mem _ (List.mem_cons_of_mem _ (List.mem_cons_self ..))) HCS.out (fun x hx => (by exact List.mem_cons_of_mem _ (List.mem_cons_of_mem _ (List.mem_append_left _ (List.mem_map.2 ⟨x, hx, rfl⟩))))) HWL1.out
      have hwa1 := hwa
      clear hwa
      have hwb := HO.out.wa2 (n := N) (b := tb) (cs := tcs) (ws := ws.reverse) (by exact List.mem_cons_self ..) HTC.out (fun x hx' => by have hx := List.mem_reverse.1 hx'; exact (by exact List.mem_cons_of_mem _ (List.mem_cons_of_mem _ (List.mem_append_left _ (List.mem_map.2 ⟨x, hx, rfl⟩))))) (by rw [List.length_reverse]; exact HWL1.out)
      go_wp2_with fail
      refine (mEqual_h HO.out (ac := ac) (bc := tc) hwa1 hwb (by omega) (G' := G2) (r := ri) (e := 0) (by rw [List.map_reverse, HWE.out]; exact HF.out.r2)).mono ?_
      rintro e w7 ⟨F5, rfl, ho⟩
      clear HO; have HO := Lib.hid ho; clear ho
      clear hwa1 hwb
      clear z0 z1
      clear HZE
      obtain ⟨K, hK⟩ : ∃ K, M + 2 = K := ⟨_, rfl⟩
      have hcl := CLu32_is (w := w7) (a := xa) (l := L0) M xc HLN.out (HLS.out.ch (HC1.out.trans HO.out.own.ch (by simp)) (by simp)) (by omega)
      have HCL := Lib.hid hcl; clear hcl
      have hmin := HMIN.out
      go_wp2_with fail
      refine HCL.out.mono ?_
      rintro e wa5 ⟨v5, rfl, hrow, hvv, hc5⟩
      clear hmin
      obtain ⟨ca, cc, rfl⟩ := row.shape hrow
      have hcA : Ch [] wa5 (wa5.alloc (.cells #[.int .u32 0, .int .u32 4294967295] 27)) := (Ch.refl _ _).alloc _
      have hrA := hrow.ch hcA (by simp)
      have hbA : blk (wa5.alloc (.cells #[.int .u32 0, .int .u32 4294967295] 27)) wa5.heap.size [.int .u32 0, .int .u32 4294967295] := blk.new' _ _ rfl
      have HCA := Lib.hid (hc5.trans hcA (by simp))
      have HRA := Lib.hid hrA; clear hrA hrow
      have HBA := Lib.hid hbA; clear hbA
      have HVV := Lib.hid hvv; clear hvv
      clear hcA hc5 HCL
      go_wp2_with (at_builtin; go_loud (refine wpList_append_row slU32 rfl _ _ rfl (v := .slice ca M cc) (n := M) (xs := u32s L0) rfl HRA.out (ad := ⟨wa5.heap.size, 0, none⟩) (m := 2) (c := 2) (news := [.int .u32 0, .int .u32 4294967295]) rfl rfl (news_blk HBA.out) (by simp [Value.oneCell']) (by omega) (by omega) ?_; intro v' w6b hown4 hC4 hf4; obtain ⟨gb5, gc5, rfl⟩ := hown4.parts (by omega); have HO4 := Lib.hid hown4; clear hown4; have HCC4 := Lib.hid hC4; clear hC4; have HF4 := Lib.hid hf4; clear hf4))
      have hLV : u32s L0 ++ [.int .u32 0, .int .u32 4294967295] = u32s (L0 ++ [0, 4294967295]) := by simp [u32s]
      have hLn : (L0 ++ [0, 4294967295]).length = K := by rw [List.length_append, HLN.out]; simp; omega
      have hLb : ∀ z ∈ L0 ++ [0, 4294967295], z < 4294967296 := fun z hz => by
        rcases List.mem_append.1 hz with hz | hz
        · exact HLB.out z hz
        · simp only [List.mem_cons, List.not_mem_nil, or_false] at hz
          rcases hz with rfl | rfl <;> omega
      have hrow := HO4.out
      rw [hLV] at hrow
      generalize L0 ++ [0, 4294967295] = LV at *
      have HROW := Lib.hid hrow; clear hrow hLV HO4
      have ho := HO.out.same (HCA.out.trans HCC4.out (fun q hq => .inr (HVV.out q (by simpa using hq))))
      clear HO
      have HO := Lib.hid ho; clear ho
      have HLN2 := Lib.hid hLn; clear hLn
      have HLB2 := Lib.hid hLb; clear hLb
      clear HF4 HBA HRA HCA HCC4 HVV HLN HLB HLS HMIN
      go_wp2_with fail
      go_loopw [96] (fun i wr => ∃ x : Nat, x ≤ K ∧ i = .int .i64 x ∧ Ch [] w6b wr) (fun i _ => K - (intOf i).toNat)
      case atStart => exact ⟨0, by omega, rfl, Ch.refl _ _⟩
      case round =>
        obtain ⟨x, hx, rfl, hc⟩ := hrel
        obtain ⟨wo, hwo⟩ : ∃ wo, wo = wr := ⟨_, rfl⟩
        subst hwo
        by_cases hlt : x < K
        · obtain ⟨z, hz⟩ : ∃ z, LV[x]? = some z := ⟨_, List.getElem?_eq_getElem (by rw [HLN2.out]; exact hlt)⟩
          have hzb := HLB2.out z (List.mem_of_getElem? hz)
          have c0 := row_at2 (HROW.out.ch hc (by simp)) (u32s_get hz)
          have ho := HO.out.same hc
          have hV1 := values26_is ho.own.gin (T := S) HFI.out (by omega) (some ⟨ab, 0, none⟩) wa ia N ac W wc V ic gd z hzb
          have HV1 := Lib.hid hV1; clear hV1
          have HOO := Lib.hid ho; clear ho
          have HC := Lib.hid hc; clear hc hz
          have hkx := HOO.out.kb (b := bx) (xs := [.pointer (some ⟨g, 0, none⟩), .slice (some ⟨ab, 0, none⟩) N ac, .slice wa W wc, .slice ia V ic, .int .i64 (gd : Int)]) (by exact List.mem_cons_of_mem _ (List.mem_cons_self ..))
          have z0 := hkx.cell (i := 0) rfl
          have z1 := hkx.cell (i := 1) rfl
          have z2 := hkx.cell (i := 2) rfl
          have z3 := hkx.cell (i := 3) rfl
          have z4 := hkx.cell (i := 4) rfl
          clear hkx
          go_wp2_with fail
          (with_reducible refine HV1.out.mono ?_)
          rintro e w7 ⟨v7, rfl, hrow7, _, hc7⟩
          clear c0 z0 z1 z2 z3 z4 HV1
          obtain ⟨va, vc, rfl⟩ := row.shape hrow7
          have hsb : Sb w7 va (insOf S z) := row.sv hrow7 rfl (by omega)
          have hil := insOf_len S z
          generalize insOf S z = ins at *
          have hoo := HOO.out.same hc7
          clear HOO
          have HOO := Lib.hid hoo; clear hoo
          have HSB := Lib.hid hsb; clear hsb hrow7
          have HC7 := Lib.hid (HC.out.trans hc7 (by simp)); clear hc7 HC
          have hnm := numbers26_is (w := w7) (ab := ab) (N := N) (W := W) (V := V) (ac := ac) (T := S) (xc := vc) (cs := cs) (ws := ws) (wa := wa) (ia := ia) (xa := va) (wc := wc) (ic := ic) (ins := ins) (some ⟨g, 0, none⟩) gd (by omega) (by omega) (by have := HV3.out; omega) (HOO.out.kb (b := ab) (xs := cs) (by exact List.mem_cons_of_mem _ (List.mem_cons_of_mem _ (List.mem_cons_self ..)))) HCS.out HWE.out hil (by omega) HSB.out
          have HNM := Lib.hid hnm; clear hnm
          have hR1 := fun (WZ : World) (hW : Ch [] w7 WZ) => Reads_is (w := WZ) (HOO.out.own.gin.same hW (by simp)) (a := a3) (l := natInts lp) (m := W) (c := c3) (by rw [natInts_len]; exact HF.out.np) ((HOO.out.same hW).sl (by exact List.mem_cons_self ..) (by rw [natInts_len]; exact HF.out.np)) ((HOO.out.same hW).held _ (by exact List.mem_cons_self ..)).bd (xa := va) (ins := ins) (k := S) (xc := vc) hil (HSB.out.ch hW (by simp)) (by omega) (bitsR_ok HF.out.gp (by rw [HFI.out, hil])) (by simp [HF.out.np]) (by omega) (by omega)
          have hBT := fun (WZ : World) (hW : Ch [] w7 WZ) (ba : Option Addr) (hS : Sl WZ ba [(ri : Int)]) => simBits_is (w := WZ) (HOO.out.own.gin.same hW (by simp)) (xa := va) (ins := ins) S vc hil (HSB.out.ch hW (by simp)) (by omega) (a := ba) (l := natInts [ri]) 1 1 rfl hS (fun r hr => by have h5 := refs_le (l := [ri]) HF.out.ok (fun x hx => by rw [List.mem_singleton.1 hx]; exact HF.out.gr) ri (by simp); simp [natInts] at hr; omega) (by omega)
          simp only [bitsR_ok (l := [ri]) (ins := ins) (fun x hx => by rw [List.mem_singleton.1 hx]; exact HF.out.gr) (by rw [HFI.out, hil]), List.map_cons, List.map_nil] at hBT
          have hvp := HVP.out (envB ins)
          have hvr := HF.out.vr (envB ins)
          have hAL : ∀ i, i < N → ((List.range N).map fun i => nbE (envB ins) (i * W) W)[i]? = some (nbE (envB ins) (i * W) W) := fun i hi => by rw [List.getElem?_map, List.getElem?_range hi]; rfl
          have hALn : ((List.range N).map fun i => nbE (envB ins) (i * W) W).length = N := by simp
          rw [hvr] at hBT
          clear hvr
          generalize nbE (envB ins) (N * W) W = nW at *
          generalize nbE (envB ins) (N * W + W) V = nI at *
          generalize envB ins (N * W + W + V) = gv at *
          obtain ⟨A, hA⟩ : ∃ A : Nat → Nat, A = fun i => nbE (envB ins) (i * W) W := ⟨_, rfl⟩
          have hAi : ∀ i, nbE (envB ins) (i * W) W = A i := fun i => by rw [hA]
          simp only [hAi] at hvp hAL hALn HNM hBT
          have hAe : (fun i => A i) = A := rfl
          clear hA hAi
          generalize bitsVal (lp.map (bv (envB ins) G2.nodes)) = nP at *
          generalize hAL2 : ((List.range N).map fun i => A i) = AL at *
          clear hAL2 hAe
          obtain ⟨b4, hb4⟩ : ∃ b4, decide (AL = AL.reverse) = b4 := ⟨_, rfl⟩
          rw [hb4] at hBT
          have HB4 := Lib.hid hb4; clear hb4
          have HPV := Lib.hid hvp; clear hvp
          have HAL := Lib.hid hAL; clear hAL
          have HALN := Lib.hid hALn; clear hALn
          have HR1 := Lib.hid hR1; clear hR1
          have HBT := Lib.hid hBT; clear hBT
          have HIL := Lib.hid hil; clear hil
          have hkx := HOO.out.kb (b := bx) (xs := [.pointer (some ⟨g, 0, none⟩), .slice (some ⟨ab, 0, none⟩) N ac, .slice wa W wc, .slice ia V ic, .int .i64 (gd : Int)]) (by exact List.mem_cons_of_mem _ (List.mem_cons_self ..))
          have z0 := hkx.cell (i := 0) rfl
          have z1 := hkx.cell (i := 1) rfl
          have z2 := hkx.cell (i := 2) rfl
          have z3 := hkx.cell (i := 3) rfl
          have z4 := hkx.cell (i := 4) rfl
          clear hkx
          go_wp2_with fail
          (with_reducible refine HNM.out.mono ?_)
          rintro e w8 ⟨oa2, oc2, rfl, hrowA, _, hc8⟩
          clear z0 z1 z2 z3 z4
          obtain ⟨ob, oc3, hoe⟩ := hrowA.parts (by omega)
          cases hoe
          have HRA := Lib.hid hrowA; clear hrowA
          have HC8 := Lib.hid hc8; clear hc8 HNM
          have c1 := row_at2 HRA.out (u32s_get (HAL.out k (by omega)))
          have ez : (N : Int) - 1 = (k : Int) := by omega
          go_wp2_with fail
          clear c1 ez
          have hjT := HSE.out
          go_loopw [24, 25] (fun tv i wr => ∃ j : Nat, j ≤ k ∧ tv = .int .u32 (pickD N A (fun i => envB ins (T + i)) j : Nat) ∧ i = .int .i64 ((k : Int) - 1 - (j : Int)) ∧ Ch [] w8 wr) (fun _ i _ => (intOf i + 1).toNat)
          case atStart =>
            refine ⟨0, Nat.zero_le _, ?_, ?_, Ch.refl _ _⟩
            · show _ = Value.int .u32 ((A (N - 1) : Nat) : Int)
              rw [show N - 1 = k by omega]
            · rw [show (k : Int) - 1 - ((0 : Nat) : Int) = (k : Int) - 1 by omega]
          case round =>
            obtain ⟨j, hj, rfl, rfl, hcq⟩ := hrel
            by_cases hjk : j < k
            · obtain ⟨q, hq⟩ : ∃ q : Nat, k - 1 - j = q := ⟨_, rfl⟩
              have ej : (k : Int) - 1 - (j : Int) = (q : Int) := by omega
              have hqk : q < k := by omega
              have hqS : T + q < S := by omega
              obtain ⟨b, hb⟩ : ∃ b, ins[T + q]? = some b := ⟨_, List.getElem?_eq_getElem (by rw [HIL.out]; exact hqS)⟩
              have he := envB_at hb
              have hpd : pickD N A (fun i => envB ins (T + i)) (j + 1) = if b = true then A q else pickD N A (fun i => envB ins (T + i)) j := by
                show (if envB ins (T + (N - 2 - j)) = true then A (N - 2 - j) else _) = _
                rw [show N - 2 - j = q by omega, he]
              obtain ⟨bv', bo, hva, c0⟩ := (HSB.out.ch (HC8.out.trans hcq (by simp)) (by simp)).cells (T + q) (.bool b) (by rw [List.getElem?_map, hb]; rfl)
              have cA := row_at2 (HRA.out.ch hcq (by simp)) (u32s_get (HAL.out q (by omega)))
              have eS : (S : Int) - (k : Int) = (T : Int) := by omega
              have hmv : (((q : Int) - 1) + 1).toNat < (((q : Int)) + 1).toNat := by omega
              have hvl : (q : Int) - 1 = (k : Int) - 1 - ((j + 1 : Nat) : Int) := by omega
              subst hva
              generalize A q = aq at *
              generalize hpj : pickD N A (fun i => envB ins (T + i)) j = pj at *
              have HPD := Lib.hid hpd; clear hpd hb he hpj
              have HVL := Lib.hid hvl; clear hvl
              have HMV := Lib.hid hmv; clear hmv
              have HCQ := Lib.hid hcq; clear hcq
              have hj1 : j + 1 ≤ k := hjk
              have HHQ := Lib.hid hq; clear hq
              rw [ej]
              clear ej hjT hjk
              cases b
              · go_wp2_with fail
                first
                  | exact ⟨⟨j + 1, hj1, by rw [HPD.out]; rfl, by rw [HVL.out], HCQ.out⟩, HMV.out⟩
                  | (go_roundw
                     case rel => exact ⟨j + 1, hj1, by rw [HPD.out]; rfl, by rw [HVL.out], HCQ.out⟩
                     case measure => exact HMV.out)
              · go_wp2_with fail
                first
                  | exact ⟨⟨j + 1, hj1, by rw [HPD.out]; rfl, by rw [HVL.out], HCQ.out⟩, HMV.out⟩
                  | (go_roundw
                     case rel => exact ⟨j + 1, hj1, by rw [HPD.out]; rfl, by rw [HVL.out], HCQ.out⟩
                     case measure => exact HMV.out)
            · have ej : (k : Int) - 1 - (j : Int) = -1 := by omega
              have hpe : pickD N A (fun i => envB ins (T + i)) j = nP := by rw [HPV.out, show j = k by omega]
              rw [ej, hpe]
              clear ej hpe hjT hj hjk HPV
              have hx := HR1.out wr (HC8.out.trans hcq (by simp))
              have z0 := ((HOO.out.same (HC8.out.trans hcq (by simp))).kb (b := bx) (xs := [.pointer (some ⟨g, 0, none⟩), .slice (some ⟨ab, 0, none⟩) N ac, .slice wa W wc, .slice ia V ic, .int .i64 (gd : Int)]) (by exact List.mem_cons_of_mem _ (List.mem_cons_self ..))).cell (i := 0) rfl
              have HXX := Lib.hid hx; clear hx HR1
              have HCQ := Lib.hid hcq; clear hcq
              go_wp2_with fail
              (with_reducible refine HXX.out.mono ?_)
              rintro e w9 ⟨rfl, hc9⟩
              clear z0 HXX
              have HC9 := Lib.hid (HCQ.out.trans hc9 (by simp))
              clear hc9 HCQ
              have z0 := ((HOO.out.same (HC8.out.trans HC9.out (by simp))).kb (b := bx) (xs := [.pointer (some ⟨g, 0, none⟩), .slice (some ⟨ab, 0, none⟩) N ac, .slice wa W wc, .slice ia V ic, .int .i64 (gd : Int)]) (by exact List.mem_cons_of_mem _ (List.mem_cons_self ..))).cell (i := 0) rfl
              go_wp2_with fail
              refine calls_named fun WB hWB => ?_
              have hlb := alw_blk (xs := [.int .i64 (ri : Int)]) hWB
              have hcB := alw_ch hWB
              have hslb : Sl WB (some ⟨w9.heap.size, 0, none⟩) [(ri : Int)] := ⟨fun i x hx => ⟨_, _, rfl, by
                rcases i with _ | i
                · cases hx; exact hlb.cell rfl
                · simp at hx⟩, by simp⟩
              have hbt := HBT.out WB ((HC8.out.trans HC9.out (by simp)).trans hcB (by simp)) _ hslb
              have HBT2 := Lib.hid hbt
              have HCB := Lib.hid hcB
              clear hWB hlb hcB hslb hbt HBT
              (with_reducible refine HBT2.out.mono ?_)
              rintro e w11 ⟨v9, rfl, hrb, _, hcb⟩
              clear HBT2 z0
              obtain ⟨bb, bc, rfl⟩ := hrb.parts (by simp)
              have HRBB := Lib.hid hrb
              have hch := (HCB.out.trans hcb (by simp))
              have HC11 := Lib.hid (HC9.out.trans hch (by simp))
              have hra := HRA.out.ch HC11.out (by simp)
              clear hrb hcb HCB hch HC9
              have hcl := CLw32_is (w := w11) (a := some ⟨ob, 0, none⟩) (l := AL) N oc2 HALN.out (row.sv hra rfl (by omega)) (by omega)
              have HCL := Lib.hid hcl; clear hcl hra
              go_wp2_with fail
              refine HCL.out.mono ?_
              rintro e w13 ⟨v10, rfl, hrow, hvv, hc13⟩
              obtain ⟨rb, rc, rfl⟩ := hrow.parts (by omega)
              have hrbf : w11.heap.size ≤ rb := hvv rb (by simp)
              clear hvv HCL
              have hrv := Revw32_some hrow (by omega)
              have HRV := Lib.hid hrv; clear hrv hrow
              have HC13 := Lib.hid hc13; clear hc13
              go_wp2_with fail
              refine HRV.out.mono ?_
              rintro e w14 ⟨⟨vv2, rfl⟩, hrr, hcu⟩
              clear HRV
              have hbbl := (HRBB.out.lt bb rfl).2
              have hc14 : Ch [] w11 w14 := HC13.out.trans hcu (fun q hq => .inr (by rw [List.mem_singleton.1 hq]; exact hrbf))
              have hrbb := HRBB.out.ch hc14 (by simp)
              have hra := HRA.out.ch (HC11.out.trans hc14 (by simp)) (by simp)
              have HC15 := Lib.hid ((HC8.out.trans HC11.out (by simp)).trans hc14 (by simp))
              clear HRBB HC13 hcu hc14 hrbf hbbl HC11
              obtain ⟨Wc, hWc⟩ : ∃ Wc, Wc = w14.drew := ⟨_, rfl⟩
              have hcd : Ch [] w14 Wc := by rw [hWc]; exact (Ch.refl _ _).drew
              have hEq := Eqw32_is (w := Wc) oc2 rc (xs := AL) (ys := AL.reverse) ((row.sv hra rfl (by omega)).ch hcd (by simp)) ((row.sv hrr rfl (by omega)).ch hcd (by simp))
              simp only [List.length_reverse, HALN.out, HB4.out] at hEq
              have HEQ := Lib.hid hEq; clear hEq hra hrr
              have HC16 := Lib.hid (HC15.out.trans hcd (by simp)); clear HC15
              have HBBW := Lib.hid (hrbb.ch hcd (by simp)); clear hrbb hcd
              have hbb : (b4 != b4) = false := by simp
              have hbb2 : (!(b4 == b4)) = false := by simp
              go_wp2_with fail
              refine Ord.St.door (fun w' => w'.cell? ⟨bb, 0, none⟩ = some (.bool b4)) [.fl, .fl, .fl, .fl, .fl, .fl, .fl, .fl, .fl, .fl, .fl, .fl, .fl, .rd, .fl, .fl, .fl, .fl, .fl, .ho, .fl, .fl, .ef, .fl, .fl] [0, 1, 3, 7, 7, 31, 63, 127, 255, 511, 1023, 2047, 4095, 8191, 16383, 32767, 65535, 131071, 262143, 524287, 131071, 131071, 3276799, 8388607, 16777215] [0, 1, 2, 3, 4, 5, 6, 7, 8, 9, 10, 11, 12, 13, 14, 15, 16, 17, 18, 19, 20, 21, 22, 23, 24] mixed (by kernel_rfl) rfl ?_
              rw [← hWc]
              clear hWc
              refine Ord.St.fl2 (T' := ?_) 0 [1, 2, 3, 4, 5, 6, 7, 8, 9, 10, 11, 12, 13, 14, 15, 16, 17, 18, 19, 20, 21, 22, 23, 24] _ _ rfl (by kernel_rfl) rfl rfl rfl rfl (fun K w' hk => ?_) ?_
              rotate_left
              · go_step; exact hk
              refine Ord.St.fl2 (T' := ?_) 1 [2, 3, 4, 5, 6, 7, 8, 9, 10, 11, 12, 13, 14, 15, 16, 17, 18, 19, 20, 21, 22, 23, 24] _ _ rfl (by kernel_rfl) rfl rfl rfl rfl (fun K w' hk => ?_) ?_
              rotate_left
              · go_step; exact hk
              refine Ord.St.fl2 (T' := ?_) 2 [3, 4, 5, 6, 7, 8, 9, 10, 11, 12, 13, 14, 15, 16, 17, 18, 19, 20, 21, 22, 23, 24] _ _ rfl (by kernel_rfl) rfl rfl rfl rfl (fun K w' hk => ?_) ?_
              rotate_left
              · go_step; exact hk
              first | (refine Ord.St.fl2 (T' := ?_) 3 [4, 5, 6, 7, 8, 9, 10, 11, 12, 13, 14, 15, 16, 17, 18, 19, 20, 21, 22, 23, 24] _ _ rfl (by kernel_rfl) ?_ rfl rfl rfl (fun K w' hk => ?_) ?_; rotate_left; (first | rfl | (simp [Region.wanted, yielded, *]; done)); focus (go_step; exact hk)) | (refine Ord.St.skip 3 [4, 5, 6, 7, 8, 9, 10, 11, 12, 13, 14, 15, 16, 17, 18, 19, 20, 21, 22, 23, 24] _ rfl (by kernel_rfl) ?_ (fun K hK => ?_); (first | rfl | (simp [Region.wanted, yielded, *]; done)); go_simp; refine hK _ ?_; clear hK K)
              first | (refine Ord.St.fl2 (T' := ?_) 4 [5, 6, 7, 8, 9, 10, 11, 12, 13, 14, 15, 16, 17, 18, 19, 20, 21, 22, 23, 24] _ _ rfl (by kernel_rfl) ?_ rfl rfl rfl (fun K w' hk => ?_) ?_; rotate_left; (first | rfl | (simp [Region.wanted, yielded, *]; done)); focus (go_step; exact hk)) | (refine Ord.St.skip 4 [5, 6, 7, 8, 9, 10, 11, 12, 13, 14, 15, 16, 17, 18, 19, 20, 21, 22, 23, 24] _ rfl (by kernel_rfl) ?_ (fun K hK => ?_); (first | rfl | (simp [Region.wanted, yielded, *]; done)); go_simp; refine hK _ ?_; clear hK K)
              first | (refine Ord.St.fl2 (T' := ?_) 5 [6, 7, 8, 9, 10, 11, 12, 13, 14, 15, 16, 17, 18, 19, 20, 21, 22, 23, 24] _ _ rfl (by kernel_rfl) ?_ rfl rfl rfl (fun K w' hk => ?_) ?_; rotate_left; (first | rfl | (simp [Region.wanted, yielded, *]; done)); focus (go_step; exact hk)) | (refine Ord.St.skip 5 [6, 7, 8, 9, 10, 11, 12, 13, 14, 15, 16, 17, 18, 19, 20, 21, 22, 23, 24] _ rfl (by kernel_rfl) ?_ (fun K hK => ?_); (first | rfl | (simp [Region.wanted, yielded, *]; done)); go_simp; refine hK _ ?_; clear hK K)
              refine Ord.St.fl2 (T' := ?_) 6 [7, 8, 9, 10, 11, 12, 13, 14, 15, 16, 17, 18, 19, 20, 21, 22, 23, 24] _ _ rfl (by kernel_rfl) rfl rfl rfl rfl (fun K w' hk => ?_) ?_
              rotate_left
              · go_step; exact hk
              refine Ord.St.fl2 (T' := ?_) 7 [8, 9, 10, 11, 12, 13, 14, 15, 16, 17, 18, 19, 20, 21, 22, 23, 24] _ _ rfl (by kernel_rfl) rfl rfl rfl rfl (fun K w' hk => ?_) ?_
              rotate_left
              · go_step; exact hk
              first | (refine Ord.St.fl2 (T' := ?_) 8 [9, 10, 11, 12, 13, 14, 15, 16, 17, 18, 19, 20, 21, 22, 23, 24] _ _ rfl (by kernel_rfl) ?_ rfl rfl rfl (fun K w' hk => ?_) ?_; rotate_left; (first | rfl | (simp [Region.wanted, yielded, *]; done)); focus (go_step; exact hk)) | (refine Ord.St.skip 8 [9, 10, 11, 12, 13, 14, 15, 16, 17, 18, 19, 20, 21, 22, 23, 24] _ rfl (by kernel_rfl) ?_ (fun K hK => ?_); (first | rfl | (simp [Region.wanted, yielded, *]; done)); go_simp; refine hK _ ?_; clear hK K)
              first | (refine Ord.St.fl2 (T' := ?_) 9 [10, 11, 12, 13, 14, 15, 16, 17, 18, 19, 20, 21, 22, 23, 24] _ _ rfl (by kernel_rfl) ?_ rfl rfl rfl (fun K w' hk => ?_) ?_; rotate_left; (first | rfl | (simp [Region.wanted, yielded, *]; done)); focus (go_step; exact hk)) | (refine Ord.St.skip 9 [10, 11, 12, 13, 14, 15, 16, 17, 18, 19, 20, 21, 22, 23, 24] _ rfl (by kernel_rfl) ?_ (fun K hK => ?_); (first | rfl | (simp [Region.wanted, yielded, *]; done)); go_simp; refine hK _ ?_; clear hK K)
              refine Ord.St.fl2 (T' := ?_) 10 [11, 12, 13, 14, 15, 16, 17, 18, 19, 20, 21, 22, 23, 24] _ _ rfl (by kernel_rfl) rfl rfl rfl rfl (fun K w' hk => ?_) ?_
              rotate_left
              · go_step; exact hk
              refine Ord.St.fl2 (T' := ?_) 11 [12, 13, 14, 15, 16, 17, 18, 19, 20, 21, 22, 23, 24] _ _ rfl (by kernel_rfl) rfl rfl rfl rfl (fun K w' hk => ?_) ?_
              rotate_left
              · go_step; exact hk
              first | (refine Ord.St.fl2 (T' := ?_) 12 [13, 14, 15, 16, 17, 18, 19, 20, 21, 22, 23, 24] _ _ rfl (by kernel_rfl) ?_ rfl rfl rfl (fun K w' hk => ?_) ?_; rotate_left; (first | rfl | (simp [Region.wanted, yielded, *]; done)); focus (go_step; exact hk)) | (refine Ord.St.skip 12 [13, 14, 15, 16, 17, 18, 19, 20, 21, 22, 23, 24] _ rfl (by kernel_rfl) ?_ (fun K hK => ?_); (first | rfl | (simp [Region.wanted, yielded, *]; done)); go_simp; refine hK _ ?_; clear hK K)
              first | (refine Ord.St.rd2 (T' := ?_) 13 [14, 15, 16, 17, 18, 19, 20, 21, 22, 23, 24] _ _ rfl (by kernel_rfl) ?_ rfl rfl rfl (fun K hk => ?_) ?_; rotate_left; (first | rfl | (simp [Region.wanted, yielded, *]; done)); focus (go_step; exact hk)) | (refine Ord.St.skipr 13 [14, 15, 16, 17, 18, 19, 20, 21, 22, 23, 24] _ rfl (by kernel_rfl) ?_ (fun K hK => ?_); (first | rfl | (simp [Region.wanted, yielded, *]; done)); go_simp; refine hK _ ?_; clear hK K)
              first | (refine Ord.St.fl2 (T' := ?_) 14 [15, 16, 17, 18, 19, 20, 21, 22, 23, 24] _ _ rfl (by kernel_rfl) ?_ rfl rfl rfl (fun K w' hk => ?_) ?_; rotate_left; (first | rfl | (simp [Region.wanted, yielded, *]; done)); focus (go_step; exact hk)) | (refine Ord.St.skip 14 [15, 16, 17, 18, 19, 20, 21, 22, 23, 24] _ rfl (by kernel_rfl) ?_ (fun K hK => ?_); (first | rfl | (simp [Region.wanted, yielded, *]; done)); go_simp; refine hK _ ?_; clear hK K)
              refine Ord.St.fl2 (T' := ?_) 15 [16, 17, 18, 19, 20, 21, 22, 23, 24] _ _ rfl (by kernel_rfl) rfl rfl rfl rfl (fun K w' hk => ?_) ?_
              rotate_left
              · go_step; exact hk
              refine Ord.St.fl2 (T' := ?_) 16 [17, 18, 19, 20, 21, 22, 23, 24] _ _ rfl (by kernel_rfl) rfl rfl rfl rfl (fun K w' hk => ?_) ?_
              rotate_left
              · go_step; exact hk
              first | (refine Ord.St.fl2 (T' := ?_) 17 [18, 19, 20, 21, 22, 23, 24] _ _ rfl (by kernel_rfl) ?_ rfl rfl rfl (fun K w' hk => ?_) ?_; rotate_left; (first | rfl | (simp [Region.wanted, yielded, *]; done)); focus (go_step; exact hk)) | (refine Ord.St.skip 17 [18, 19, 20, 21, 22, 23, 24] _ rfl (by kernel_rfl) ?_ (fun K hK => ?_); (first | rfl | (simp [Region.wanted, yielded, *]; done)); go_simp; refine hK _ ?_; clear hK K)
              first | (refine Ord.St.fl2 (T' := ?_) 18 [19, 20, 21, 22, 23, 24] _ _ rfl (by kernel_rfl) ?_ rfl rfl rfl (fun K w' hk => ?_) ?_; rotate_left; (first | rfl | (simp [Region.wanted, yielded, *]; done)); focus (go_step; exact hk)) | (refine Ord.St.skip 18 [19, 20, 21, 22, 23, 24] _ rfl (by kernel_rfl) ?_ (fun K hK => ?_); (first | rfl | (simp [Region.wanted, yielded, *]; done)); go_simp; refine hK _ ?_; clear hK K)
              refine Ord.St.ho2 (T' := ?_) 19 [20, 21, 22, 23, 24] _ _ rfl (by kernel_rfl) (by first | rfl | simp [Region.wanted, yielded, *]) rfl rfl rfl ?_ (fun K w' hw' hk => ?_) ?_
              rotate_left
              · exact row_at2 HBBW.out (k := 0) rfl
              · have q1 := hw'; go_step; exact hk
              first | (refine Ord.St.fl2 (T' := ?_) 20 [21, 22, 23, 24] _ _ rfl (by kernel_rfl) ?_ rfl rfl rfl (fun K w' hk => ?_) ?_; rotate_left; (first | rfl | (simp [Region.wanted, yielded, *]; done)); focus (go_step; exact hk)) | (refine Ord.St.skip 20 [21, 22, 23, 24] _ rfl (by kernel_rfl) ?_ (fun K hK => ?_); (first | rfl | (simp [Region.wanted, yielded, *]; done)); go_simp; refine hK _ ?_; clear hK K)
              first | (refine Ord.St.fl2 (T' := ?_) 21 [22, 23, 24] _ _ rfl (by kernel_rfl) ?_ rfl rfl rfl (fun K w' hk => ?_) ?_; rotate_left; (first | rfl | (simp [Region.wanted, yielded, *]; done)); focus (go_step; exact hk)) | (refine Ord.St.skip 21 [22, 23, 24] _ rfl (by kernel_rfl) ?_ (fun K hK => ?_); (first | rfl | (simp [Region.wanted, yielded, *]; done)); go_simp; refine hK _ ?_; clear hK K)
              refine Ord.St.efC 22 [23, 24] _ rfl (by kernel_rfl) (fun K hK => ?_)
              go_wp2_with fail
              refine HEQ.out.mono ?_
              rintro e w15 ⟨rfl, hc15⟩
              have HBB2 := Lib.hid (HBBW.out.ch hc15 (by simp))
              have HC17 := Lib.hid (HC16.out.trans hc15 (by simp))
              clear hc15
              go_wp2_with fail
              refine ⟨rfl, hK _ _ ?_ ?_⟩
              · exact row_at2 HBB2.out (k := 0) rfl
              clear hK K
              first | (refine Ord.St.fl2 (T' := ?_) 23 [24] _ _ rfl (by kernel_rfl) ?_ rfl rfl rfl (fun K w' hk => ?_) ?_; rotate_left; (first | rfl | (simp [Region.wanted, yielded, *]; done)); focus (go_step; exact hk)) | (refine Ord.St.skip 23 [24] _ rfl (by kernel_rfl) ?_ (fun K hK => ?_); (first | rfl | (simp [Region.wanted, yielded, *]; done)); go_simp; refine hK _ ?_; clear hK K)
              refine Ord.St.fl2 (T' := ?_) 24 [] _ _ rfl (by kernel_rfl) rfl rfl rfl rfl (fun K w' hk => ?_) ?_
              rotate_left
              · go_step; exact hk
              refine Ord.St.nil ?_
              clear hbb hbb2
              go_wp2_with fail
              go_roundw
              case rel => exact ⟨x + 1, by omega, by go_num, HC7.out.trans HC17.out (by simp)⟩
              case measure => simp [intOf]; omega
        · have HC := Lib.hid hc; clear hc
          go_wp2_with fail
          go_ret
          exact ⟨rfl, (HC1.out.trans HO.out.own.ch (by simp)).trans HC.out (by simp)⟩
theorem MuxesPicks_walk {w : World} (n : Nat) (_ : n ≤ 255) (wd : Nat) (_ : wd ≤ 255) {xa : Option Addr} {m xc : Nat} {l : List Nat} (hX : U32S w xa m xc l) :
    Calls Tryz.prog 5 #[.int .u8 n, .int .u8 wd, .slice xa m xc] w fun e w' => e = .returned (.bool true) ∧ Ch [] w w' :=
  MuxesPicks_core w n wd _ _ _ _ _ _ rfl rfl rfl rfl rfl rfl hX
end
end Go.Proofs.YtdmmanfjafempaaGreat
