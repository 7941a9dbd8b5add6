/-
  Walk over the chapter's examples (awake of muxes): true. Conditions: none.
  Walks over bitword: the table of the operations, what each does, Apply. Conditions: words in range, a width from 1 to 16.
  Walks over bitword: Name, what each operation does, Cut, Apply. Conditions: words in range, a width from 1 to 16.
  Walk over MuxesConsts: true. Conditions: any three bytes, any number.
-/
import Derived.Test.YtdmmanfjafempaaQE
import Derived.Test.YtdmmanfjafempaaQD
import Derived.Test.YtdmmanfjafempaaQC
import Derived.Deep.WholeRow
namespace Go.Proofs.Ytdmmanfjafempaa
open Go.RowKit Go.Mem Go.Aig
def sb6 : Gra := ⟨4000, [⟨1, 0, 0, 0⟩, ⟨2, 0, 0, 0⟩, ⟨2, 0, 0, 0⟩, ⟨2, 0, 0, 0⟩, ⟨2, 0, 0, 0⟩, ⟨2, 0, 0, 0⟩, ⟨2, 0, 0, 0⟩]⟩
def sb7 : Gra := ⟨4000, [⟨1, 0, 0, 0⟩, ⟨2, 0, 0, 0⟩, ⟨2, 0, 0, 0⟩, ⟨2, 0, 0, 0⟩, ⟨2, 0, 0, 0⟩, ⟨2, 0, 0, 0⟩, ⟨2, 0, 0, 0⟩, ⟨3, 11, 13, 1⟩, ⟨3, 10, 13, 1⟩, ⟨3, 11, 12, 1⟩]⟩
section
theorem Pair1_is (w : World) : Calls Try.prog 65 #[.int .u8 1] w fun e w' => ∃ g F xa xc ya yc, e = .returned (.tuple #[.pointer (some ⟨g, 0, none⟩), .slice xa 2 xc, .slice ya 2 yc]) ∧ Hold w w' g (gIn 4000 4) F [(.slice ya 2 yc, natInts [6, 8]), (.slice xa 2 xc, natInts [2, 4])] := Pair_is w 1 (by decide)
theorem mFit31_is [Nonempty Unit] (w : World) : Calls Try.prog 23 #[.int .i64 3, .int .i64 1] w fun e w' => e = .returned (.tuple #[.int .i64 2, .int .i64 0]) ∧ w = w' := by
  have h := mFit_is (w := w) 3 1
  rw [show fitG 3 1 = (2, 0) by decide] at h
  exact h
set_option maxRecDepth 100000 in
set_option maxHeartbeats 4000000 in
theorem awake26_is [Nonempty Unit] (w : World) : Calls Try.prog 15 #[] w fun e w' => e = .returned (.bool true) ∧ Ch [] w w' := by
  have hN := Pair1_is w
  have HN := Lib.hid hN; clear hN
  go_enter Try.func15, Try.ntmps15
  go_wp2_with fail
  refine HN.out.mono ?_
  rintro e w1 ⟨g, F1, a1, c1, a2, c2, rfl, ho⟩
  have HO := Lib.hid ho; clear ho HN
  go_wp2_with fail
  refine (sInput_h HO.out 2 (G' := sb6) (l := [10, 12]) (e := 0) (k := 2) (by kernel_rfl) rfl (by decide) (by decide)).mono ?_
  rintro e w2 ⟨a3, c3, F2, rfl, ho⟩
  clear HO; have HO := Lib.hid ho; clear ho
  go_wp2_with fail
  refine (mChoose_h HO.out 1 (by decide) (xa := a1) (xc := c1) (n := 2) (xl := natInts [2, 4]) (by simp) rfl (ya := a2) (yc := c2) (m := 2) (yl := natInts [6, 8]) (by simp) rfl (G' := sb6) (l := [2, 4]) (e := 0) (k := 2) (by kernel_rfl) rfl (by decide) (by decide)).mono ?_
  rintro e w3 ⟨a4, c4, F3, rfl, ho⟩
  clear HO; have HO := Lib.hid ho; clear ho
  go_wp2_with fail
  refine (mChoose_h HO.out 0 (by decide) (xa := a1) (xc := c1) (n := 2) (xl := natInts [2, 4]) (by simp) rfl (ya := a2) (yc := c2) (m := 2) (yl := natInts [6, 8]) (by simp) rfl (G' := sb6) (l := [6, 8]) (e := 0) (k := 2) (by kernel_rfl) rfl (by decide) (by decide)).mono ?_
  rintro e w4 ⟨a5, c5, F4, rfl, ho⟩
  clear HO; have HO := Lib.hid ho; clear ho
  go_wp2_with fail
  refine (sConst_h HO.out 1 (by decide) 2 rfl).mono ?_
  rintro e w5 ⟨a6, c6, rfl, ho⟩
  clear HO; have HO := Lib.hid ho; clear ho
  go_wp2_with fail
  refine (sConst_h HO.out 3 (by decide) 2 rfl).mono ?_
  rintro e w6 ⟨a7, c7, rfl, ho⟩
  clear HO; have HO := Lib.hid ho; clear ho
  go_wp2_with fail
  refine calls_named fun WA hWA => ?_
  have hlb := alw_blk (xs := [.slice a1 2 c1, .slice a2 2 c2, .slice a3 2 c3]) hWA
  have ho := HO.out.keepN (alw_ch hWA) hlb
  clear hWA hlb HO
  generalize w6.heap.size = lb at *
  have HO := Lib.hid ho; clear ho
  refine (mRead_h HO.out (lc := 3) (HO.out.wa (b := lb) (Ls := [⟨a1, natInts [2, 4], c1⟩, ⟨a2, natInts [6, 8], c2⟩, ⟨a3, natInts [10, 12], c3⟩]) (by exact List.mem_cons_self ..) (by intro x hx; simp only [List.mem_cons, List.not_mem_nil, or_false] at hx; rcases hx with rfl | rfl | rfl <;> simp [WV.val]) (n := 3) rfl) (ya := a6) (yc := c6) (m := 2) (yl := natInts (constL 1 2)) (by simp) rfl (G' := sb6) (l := [6, 8]) (e := 0) (k := 2) (by kernel_rfl) rfl (by decide) (by decide)).mono ?_
  rintro e w7 ⟨a8, c8, F5, rfl, ho⟩
  clear HO; have HO := Lib.hid ho; clear ho
  go_wp2_with fail
  refine (mRead_h HO.out (lc := 3) (HO.out.wa (b := lb) (Ls := [⟨a1, natInts [2, 4], c1⟩, ⟨a2, natInts [6, 8], c2⟩, ⟨a3, natInts [10, 12], c3⟩]) (by exact List.mem_cons_self ..) (by intro x hx; simp only [List.mem_cons, List.not_mem_nil, or_false] at hx; rcases hx with rfl | rfl | rfl <;> simp [WV.val]) (n := 3) rfl) (ya := a7) (yc := c7) (m := 2) (yl := natInts (constL 3 2)) (by simp) rfl (G' := sb6) (l := [0, 0]) (e := 0) (k := 2) (by kernel_rfl) rfl (by decide) (by decide)).mono ?_
  rintro e w8 ⟨a9, c9, F6, rfl, ho⟩
  clear HO; have HO := Lib.hid ho; clear ho
  go_wp2_with fail
  refine (mFit31_is _).mono ?_
  rintro e w' ⟨rfl, rfl⟩
  go_wp2_with fail
  refine (Eqref_h HO.out (xa := a4) (xc := c4) (n := 2) (xl := natInts [2, 4]) (by simp) rfl (ya := a1) (yc := c1) (m := 2) (yl := natInts [2, 4]) (by simp) rfl (q := true) (by decide)).mono ?_
  rintro e w9 ⟨rfl, ho⟩
  clear HO; have HO := Lib.hid ho; clear ho
  go_wp2_with fail
  refine (Eqref_h HO.out (xa := a5) (xc := c5) (n := 2) (xl := natInts [6, 8]) (by simp) rfl (ya := a2) (yc := c2) (m := 2) (yl := natInts [6, 8]) (by simp) rfl (q := true) (by decide)).mono ?_
  rintro e w10 ⟨rfl, ho⟩
  clear HO; have HO := Lib.hid ho; clear ho
  go_wp2_with fail
  refine (Eqref_h HO.out (xa := a8) (xc := c8) (n := 2) (xl := natInts [6, 8]) (by simp) rfl (ya := a2) (yc := c2) (m := 2) (yl := natInts [6, 8]) (by simp) rfl (q := true) (by decide)).mono ?_
  rintro e w11 ⟨rfl, ho⟩
  clear HO; have HO := Lib.hid ho; clear ho
  go_wp2_with fail
  have ho := HO.out.same ((Ch.refl [] w11).alloc (.cells #[.int .i64 0, .int .i64 0] 39))
  clear HO; have HO := Lib.hid ho; clear ho
  refine (Eqref_c HO.out (xa := a9) (xc := c9) (n := 2) (xl := natInts [0, 0]) (by simp) rfl (b := w11.heap.size) (m := 2) (ys := [0, 0]) (blk.new' _ _ rfl) rfl (by decide) (q := true) (by decide)).mono ?_
  rintro e w12 ⟨rfl, ho⟩
  clear HO; have HO := Lib.hid ho; clear ho
  go_wp2_with fail
  refine (mWrite_h HO.out (lc := 3) (HO.out.wa (b := lb) (Ls := [⟨a1, natInts [2, 4], c1⟩, ⟨a2, natInts [6, 8], c2⟩, ⟨a3, natInts [10, 12], c3⟩]) (by exact List.mem_cons_self ..) (by intro x hx; simp only [List.mem_cons, List.not_mem_nil, or_false] at hx; rcases hx with rfl | rfl | rfl <;> simp [WV.val]) (n := 3) rfl) 0 (by decide) (ya := a3) (yc := c3) (m := 2) (yl := natInts [10, 12]) (by simp) rfl (xa := a1) (xc := c1) (n := 2) (xl := natInts [2, 4]) (by simp) rfl (G' := sb7) (ls := [[2, 4], [6, 8], [10, 12]]) (e := 0) (k := 3) (by kernel_rfl) rfl (by decide) (by decide)).mono ?_
  rintro e w13 ⟨b10, c10, F7, cs, ws, rfl, ho, hcs, hws⟩
  clear HO; have HO := Lib.hid ho; clear ho
  have HCS := Lib.hid hcs; clear hcs
  have HWS := Lib.hid hws; clear hws
  go_wp2_with fail
  refine calls_named fun WB hWB => ?_
  have hlb := alw_blk (xs := [.slice a3 2 c3]) hWB
  have ho := HO.out.keepN (alw_ch hWB) hlb
  clear hWB hlb HO
  generalize w13.heap.size = lc at *
  have HO := Lib.hid ho; clear ho
  refine (mPick_h HO.out (lc := 1) (HO.out.wa (b := lc) (Ls := [⟨a3, natInts [10, 12], c3⟩]) (by exact List.mem_cons_self ..) (by intro x hx; simp only [List.mem_cons, List.not_mem_nil, or_false] at hx; rcases hx with rfl <;> simp [WV.val]) (n := 1) rfl) (y := ⟨none, [], 0⟩) ⟨⟨⟨by simp, by simp⟩, by simp, by simp⟩, by simp [ablk]⟩ (by simp) (G' := sb7) (l := [10, 12]) (e := 0) (k := 2) (by kernel_rfl) rfl (by decide) (by decide)).mono ?_
  rintro e w14 ⟨a11, c11, F8, rfl, ho⟩
  clear HO; have HO := Lib.hid ho; clear ho
  go_wp2_with fail
  refine (mEqual_h HO.out (HO.out.wa (b := lb) (Ls := [⟨a1, natInts [2, 4], c1⟩, ⟨a2, natInts [6, 8], c2⟩, ⟨a3, natInts [10, 12], c3⟩]) (by exact List.mem_cons_of_mem _ (List.mem_cons_of_mem _ (List.mem_cons_self ..))) (by intro x hx; simp only [List.mem_cons, List.not_mem_nil, or_false] at hx; rcases hx with rfl | rfl | rfl <;> simp [WV.val]) (n := 3) rfl) (HO.out.wa (b := lb) (Ls := [⟨a1, natInts [2, 4], c1⟩, ⟨a2, natInts [6, 8], c2⟩, ⟨a3, natInts [10, 12], c3⟩]) (by exact List.mem_cons_of_mem _ (List.mem_cons_of_mem _ (List.mem_cons_self ..))) (by intro x hx; simp only [List.mem_cons, List.not_mem_nil, or_false] at hx; rcases hx with rfl | rfl | rfl <;> simp [WV.val]) (n := 3) rfl) (by decide) (G' := sb7) (r := 1) (e := 0) (by kernel_rfl)).mono ?_
  rintro e w15 ⟨F9, rfl, ho⟩
  clear HO; have HO := Lib.hid ho; clear ho
  go_wp2_with fail
  have hA := HO.out.ar (b := b10) (cs := cs) (ws := ws) (by exact List.mem_cons_of_mem _ (List.mem_cons_self ..)) HCS.out (fun x hx => by simp only [List.mem_cons, List.mem_append]; exact .inr (.inl (List.mem_map.2 ⟨x, hx, rfl⟩)))
  have hcl : ∀ (i : Nat) (x : WV), ([⟨a1, natInts [2, 4], c1⟩, ⟨a2, natInts [6, 8], c2⟩, ⟨a3, natInts [10, 12], c3⟩] : List WV)[i]? = some x → ([.slice a1 2 c1, .slice a2 2 c2, .slice a3 2 c3] : List Value)[i]? = some x.val := fun i x hx => by
    rcases i with _ | _ | _ | i
    · cases hx; rfl
    · cases hx; rfl
    · cases hx; rfl
    · simp at hx
  have hB := HO.out.ar (b := lb) (ws := [⟨a1, natInts [2, 4], c1⟩, ⟨a2, natInts [6, 8], c2⟩, ⟨a3, natInts [10, 12], c3⟩]) (cs := [.slice a1 2 c1, .slice a2 2 c2, .slice a3 2 c3]) (by exact List.mem_cons_of_mem _ (List.mem_cons_of_mem _ (List.mem_cons_self ..))) hcl (by intro x hx; simp only [List.mem_cons, List.not_mem_nil, or_false] at hx; rcases hx with rfl | rfl | rfl <;> simp [WV.val])
  clear hcl
  have hwl : ws.length = 3 := by have := congrArg List.length HWS.out; simpa using this
  refine (EFlst_yes (As := ws) 3 c10 3 (by decide) hA hB hwl rfl (fun i x y hx hy => ?_)).mono ?_
  · have h1 : (ws.map WV.l)[i]? = some x.l := by rw [List.getElem?_map, hx]; rfl
    rw [HWS.out] at h1
    rcases i with _ | _ | _ | i
    · cases hy; exact (Option.some.inj h1).symm
    · cases hy; exact (Option.some.inj h1).symm
    · cases hy; exact (Option.some.inj h1).symm
    · simp at hy
  rintro e wz ⟨rfl, hcz⟩
  have ho := HO.out.same hcz
  clear HO hcz hA hB hwl; have HO := Lib.hid ho; clear ho
  go_wp2_with fail
  refine (Eqref_h HO.out (xa := a11) (xc := c11) (n := 2) (xl := natInts [10, 12]) (by simp) rfl (ya := a3) (yc := c3) (m := 2) (yl := natInts [10, 12]) (by simp) rfl (q := true) (by decide)).mono ?_
  rintro e w16 ⟨rfl, ho⟩
  clear HO; have HO := Lib.hid ho; clear ho
  go_wp2_with fail
  go_ret
  exact ⟨rfl, HO.out.own.ch⟩
end
end Go.Proofs.Ytdmmanfjafempaa
namespace Go.Aig
def neg32 (x : Nat) : Nat := (4294967296 - x) % 4294967296
def add32 (x y : Nat) : Nat := (x + y) % 4294967296
def sub32 (x y : Nat) : Nat := (x + 4294967296 - y) % 4294967296
/-- what an operation does of two words below a greatest one, before it is cut (three of its arms are handed in: the kernel must not open them) -/
def opW (f2 : Nat → Nat) (f3 f4 : Nat → Nat → Nat) (op x y m : Nat) : Nat := match op with
  | 1 => m - x
  | 2 => f2 x
  | 3 => f3 x y
  | 4 => f4 x y
  | 8 => x &&& y
  | 9 => x ||| y
  | 10 => x ^^^ y
  | 13 => (x == y).toNat
  | 14 => (!(x == y)).toNat
  | 15 => (decide (x < y)).toNat
  | 16 => (decide (x ≤ y)).toNat
  | _ => 0
def opV (op x y m : Nat) : Nat := opW neg32 add32 sub32 op x y m
theorem opW_1 (f2 : Nat → Nat) (f3 f4 : Nat → Nat → Nat) (x y m : Nat) : opW f2 f3 f4 1 x y m = m - x := rfl
theorem opW_2 (f2 : Nat → Nat) (f3 f4 : Nat → Nat → Nat) (x y m : Nat) : opW f2 f3 f4 2 x y m = f2 x := rfl
theorem opW_3 (f2 : Nat → Nat) (f3 f4 : Nat → Nat → Nat) (x y m : Nat) : opW f2 f3 f4 3 x y m = f3 x y := rfl
theorem opW_4 (f2 : Nat → Nat) (f3 f4 : Nat → Nat → Nat) (x y m : Nat) : opW f2 f3 f4 4 x y m = f4 x y := rfl
theorem opW_8 (f2 : Nat → Nat) (f3 f4 : Nat → Nat → Nat) (x y m : Nat) : opW f2 f3 f4 8 x y m = x &&& y := rfl
theorem opW_9 (f2 : Nat → Nat) (f3 f4 : Nat → Nat → Nat) (x y m : Nat) : opW f2 f3 f4 9 x y m = x ||| y := rfl
theorem opW_10 (f2 : Nat → Nat) (f3 f4 : Nat → Nat → Nat) (x y m : Nat) : opW f2 f3 f4 10 x y m = x ^^^ y := rfl
theorem opW_13 (f2 : Nat → Nat) (f3 f4 : Nat → Nat → Nat) (x y m : Nat) : opW f2 f3 f4 13 x y m = (x == y).toNat := rfl
theorem opW_14 (f2 : Nat → Nat) (f3 f4 : Nat → Nat → Nat) (x y m : Nat) : opW f2 f3 f4 14 x y m = (!(x == y)).toNat := rfl
theorem opW_15 (f2 : Nat → Nat) (f3 f4 : Nat → Nat → Nat) (x y m : Nat) : opW f2 f3 f4 15 x y m = (decide (x < y)).toNat := rfl
theorem opW_16 (f2 : Nat → Nat) (f3 f4 : Nat → Nat → Nat) (x y m : Nat) : opW f2 f3 f4 16 x y m = (decide (x ≤ y)).toNat := rfl
theorem opV_1 (x y m : Nat) : opV 1 x y m = m - x := opW_1 neg32 add32 sub32 x y m
theorem opV_2 (x y m : Nat) : opV 2 x y m = neg32 x := opW_2 neg32 add32 sub32 x y m
theorem opV_3 (x y m : Nat) : opV 3 x y m = add32 x y := opW_3 neg32 add32 sub32 x y m
theorem opV_4 (x y m : Nat) : opV 4 x y m = sub32 x y := opW_4 neg32 add32 sub32 x y m
theorem opV_8 (x y m : Nat) : opV 8 x y m = x &&& y := opW_8 neg32 add32 sub32 x y m
theorem opV_9 (x y m : Nat) : opV 9 x y m = x ||| y := opW_9 neg32 add32 sub32 x y m
theorem opV_10 (x y m : Nat) : opV 10 x y m = x ^^^ y := opW_10 neg32 add32 sub32 x y m
theorem opV_13 (x y m : Nat) : opV 13 x y m = (x == y).toNat := opW_13 neg32 add32 sub32 x y m
theorem opV_14 (x y m : Nat) : opV 14 x y m = (!(x == y)).toNat := opW_14 neg32 add32 sub32 x y m
theorem opV_15 (x y m : Nat) : opV 15 x y m = (decide (x < y)).toNat := opW_15 neg32 add32 sub32 x y m
theorem opV_16 (x y m : Nat) : opV 16 x y m = (decide (x ≤ y)).toNat := opW_16 neg32 add32 sub32 x y m
/-- what Apply returns -/
def applyV (op w x y : Nat) : Nat := opV op (x &&& (2 ^ w - 1)) (y &&& (2 ^ w - 1)) (2 ^ w - 1) &&& (2 ^ w - 1)
end Go.Aig
namespace Go.Proofs.Ytdmmanfjafempaa
open Go.RowKit Go.Mem Go.Aig
def Stop (p : Prop) : Prop := p
theorem wpList_store_one {P : Program} {ops : Array Oper} {o : Oper} {a : Act} {w w' : World} {Q : Exit → Act → World → Prop} (t : TypeId) (p v : Operand) (vp vv : Value) (hg : o.guard = none) (ho : o.op = .store t p v)
    (h : (Instr.storeAt t vp vv).run P w = .ok () w') (hp : Stop (a.eval p = vp)) (hv : Stop (a.eval v = vv)) (hn : Stop (wpList P ops Q [] (a.put o.dst undef) w')) : wpList P ops Q [o] a w :=
  wpList_plain hg fun _ hK => by
    unfold Stop at hp hv hn
    unfold Oper.wp execOp
    simp only [ho, Sem.run_bind, Sem.run_pure, Result.andThen_ok, hp, hv, h]
    exact hK _ _ hn
section
variable {w : World}
end
end Go.Proofs.Ytdmmanfjafempaa
namespace Go.Proofs.Ytdmmanfjafempaa
open Go.RowKit Go.Mem Go.Aig
section
variable {w : World}
theorem frozen_alloc (w : World) (c : Array Value) (t : TypeId) (j : Nat) : (w.alloc (.cells c t)).frozen? ⟨w.heap.size, j, none⟩ = false := by
  simp only [World.frozen?]
  rw [heap_alloc_last]
  simp
set_option maxRecDepth 100000 in
set_option maxHeartbeats 4000000 in
theorem bCut_is (x n : Nat) (hx : x < 4294967296) (h1 : 1 ≤ n) (h16 : n ≤ 16) : Calls Try.prog 19 #[.int .u32 x, .int .i64 n] w fun e w' => e = .returned (.tuple #[.int .u32 (x &&& (2 ^ n - 1) : Nat), .int .i64 0]) ∧ w = w' := by
  have h3 : 2 ^ n ≤ 2 ^ 16 := Nat.pow_le_pow_right (by omega) h16
  have HM := Most_is (w := w) n h1 h16
  have hu := u32_and_nat x (2 ^ n - 1) hx (by omega)
  generalize hm : 2 ^ n - 1 = m at *
  go_enter Try.func19, Try.ntmps19
  go_wp2_with fail
  refine HM.mono ?_
  rintro e w' ⟨rfl, rfl⟩
  go_wp2_with fail
  go_ret2
  exact ⟨rfl, rfl⟩
end
end Go.Proofs.Ytdmmanfjafempaa
namespace Go.Aig
theorem constL_mod (x n : Nat) : constL x n = constL (x % 2 ^ n) n := by
  unfold constL
  refine List.map_congr_left fun i hi => ?_
  rw [Nat.testBit_mod_two_pow, decide_eq_true (List.mem_range.1 hi), Bool.true_and]
theorem isG_mod (G : Gra) (y : List Int) (i : Nat) : isG G y i = isG G y (i % 2 ^ y.length) := by
  unfold isG isR
  rw [constL_mod]
theorem wldL_at {N W k : Nat} (hk : k < N) : (wldL N W)[k]? = some (natInts (rIn (k * W) W)) := by
  unfold wldL
  rw [List.getElem?_map, List.getElem?_range hk]; rfl
theorem wldL_len (N W : Nat) : (wldL N W).length = N := by simp [wldL]
end Go.Aig
namespace Go.Proofs.Ytdmmanfjafempaa
open Go.RowKit Go.Mem Go.Aig
theorem ws_at {ws : List WV} {Ls : List (List Int)} (h : ws.map WV.l = Ls) {k : Nat} {l : List Int} (hl : Ls[k]? = some l) : ∃ xa xc, ws[k]? = some ⟨xa, l, xc⟩ := by
  rw [← h, List.getElem?_map] at hl
  rcases hx : ws[k]? with _ | x
  · rw [hx] at hl; cases hl
  · rw [hx] at hl
    obtain ⟨xa, xl, xc⟩ := x
    cases hl
    exact ⟨xa, xc, rfl⟩
section
set_option maxRecDepth 100000 in
set_option maxHeartbeats 8000000 in
theorem MuxesConsts_core [Nonempty Unit] (w : World) (n wd v at_ N W V : Nat) (hN : n % 4 + 1 = N) (hW : wd % 3 + 1 = W) (hV : v % 3 + 1 = V) (hat : at_ < 4294967296) :
    Calls Try.prog 5 #[.int .u8 n, .int .u8 wd, .int .u8 v, .int .u32 at_] w fun e w' => e = .returned (.bool true) ∧ Ch [] w w' := by
  have hN4 : 1 ≤ N ∧ N ≤ 4 := by omega
  have hW3 : 1 ≤ W ∧ W ≤ 3 := by omega
  have hV3 : 1 ≤ V ∧ V ≤ 3 := by omega
  have hBE := fun W1 => begin26_is W1 n wd v N W V hN hW hV
  have HBE := Lib.hid hBE; clear hBE
  clear hN hW hV
  have hav : at_ % 2 ^ V < 2 ^ V := Nat.mod_lt _ (Nat.two_pow_pos V)
  have hp8 : 2 ^ V ≤ 8 := Nat.pow_le_pow_right (by omega) (by omega : V ≤ 3)
  obtain ⟨hF1, hF2, hF3⟩ := consts_facts N (by simp; omega) W (by simp; omega) V (by simp; omega) (at_ % 2 ^ V) (List.mem_range.2 hav)
  rw [← constL_mod] at hF1 hF2 hF3
  have hlc : (natInts (constL at_ V)).length = V := by simp [constL]
  have hF3' : isG (wldG N W V) (natInts (constL at_ V)) at_ = (wldG N W V, 1, 0) := by rw [isG_mod, hlc]; exact hF3
  clear hF3
  obtain ⟨a, ha⟩ : ∃ a, at_ % 2 ^ V = a := ⟨_, rfl⟩
  have hcut : at_ &&& (2 ^ V - 1) = a := by rw [Nat.and_two_pow_sub_one_eq_mod, ha]
  rw [ha] at hF1 hF2 hav
  clear ha
  have hNW : N * W ≤ 12 := Nat.mul_le_mul hN4.2 hW3.2
  obtain ⟨LN, hlg⟩ : ∃ LN, (wldG N W V).nodes.length = LN := ⟨_, rfl⟩
  obtain ⟨mm, hmm⟩ : ∃ mm, min N (2 ^ V) = mm := ⟨_, rfl⟩
  have hmin : ∀ ats ty, Builtin.min_ ats ty #[.int .i64 (N : Int), .int .i64 (wrap64 ((2 : Int) ^ V))] = pure (.int .i64 (mm : Int)) := fun ats ty => by
    have e : wrap64 ((2 : Int) ^ V) = ((2 ^ V : Nat) : Int) := by
      have : ((2 : Int) ^ V) = ((2 ^ V : Nat) : Int) := by simp
      rw [this]
      generalize (2 : Nat) ^ V = D at hp8
      exact IntWalk.wrap64_in _ (by omega)
    rw [e]
    exact min_nat N (2 ^ V) mm hmm ats ty
  have hmm8 : mm ≤ 8 := by omega
  have hfit : fitG N V = (min N (2 ^ V), 0) := (show ∀ N ∈ [1, 2, 3, 4], ∀ V ∈ [1, 2, 3], fitG (N : Nat) (V : Nat) = (min N (2 ^ V), 0) by decide) N (by simp; omega) V (by simp; omega)
  rw [hmm] at hfit
  clear hmm
  have hrd : ∀ r ∈ (if a < N then rIn (a * W) W else List.replicate W 0), r ≤ 1000000 := fun r hr => by
    split at hr
    · next h =>
      have := rIn_le hr
      have : a * W ≤ 12 := Nat.le_trans (Nat.mul_le_mul_right W (by omega : a ≤ N)) hNW
      omega
    · rw [(List.mem_replicate.1 hr).2]; omega
  have hrl : (if a < N then rIn (a * W) W else List.replicate W 0).length = W := by split <;> simp [rIn]
  have hwl : ((List.range N).map fun i => if i = a then rIn (N * W) W else rIn (i * W) W).length = N := by simp
  have hwm : ∀ l ∈ ((List.range N).map fun i => if i = a then rIn (N * W) W else rIn (i * W) W), l.length ≤ 1000000 := fun l hl => by
    obtain ⟨i, _, rfl⟩ := List.mem_map.1 hl
    split <;> simp [rIn] <;> omega
  have HRD := Lib.hid hrd; clear hrd
  have HRL := Lib.hid hrl; clear hrl
  have HF1 := Lib.hid hF1; clear hF1
  have HF2 := Lib.hid hF2; clear hF2
  have HF3 := Lib.hid hF3'; clear hF3'
  have HLC := Lib.hid hlc; clear hlc
  have HWL := Lib.hid hwl; clear hwl
  have HWM := Lib.hid hwm; clear hwm
  have HFIT := Lib.hid hfit; clear hfit
  have HLG := Lib.hid hlg; clear hlg
  have HCUT := Lib.hid hcut; clear hcut
  have HRN := Lib.hid (show (natInts (rIn (N * W) W)).length = W by simp [rIn])
  have HRV := Lib.hid (show (natInts (rIn (N * W + W) V)).length = V by simp [rIn])
  have HRW := Lib.hid (show rightW W = true by unfold rightW; simp; omega)
  have HRWV := Lib.hid (show rightW V = true by unfold rightW; simp; omega)
  have hMS : N * W + W + V + 1 ≤ 20 := by omega
  have HPV := Lib.hid (show 2 ^ V ≤ 8 from hp8)
  have HAV := Lib.hid hav
  clear hp8 hav hNW
  go_enter Try.func5, Try.ntmps5
  go_wp2_with fail
  refine (awake26_is w).mono ?_
  rintro e w1 ⟨rfl, hc1⟩
  have HC1 := Lib.hid hc1; clear hc1
  go_wp2_with fail
  refine (HBE.out w1).mono ?_
  rintro e w2 ⟨g, F, ab, ac, cs, ws, wa, wc, ia, ic, rfl, hbg⟩
  obtain ⟨ho, hcs, hws⟩ := hbg
  have hG : gIn 8000 (N * W + W + V + 1) = wldG N W V := rfl
  have hwl := wld_len hws
  have hwe := wld_eq hws
  rw [hG] at ho
  have HWL1 := Lib.hid hwl; clear hwl
  have HWE := Lib.hid hwe; clear hwe
  have HCS := Lib.hid hcs; clear hcs hG hws
  have HO := Lib.hid ho; clear ho HBE
  go_upto_region 6 with fail
  refine wp_named fun W3 hW3' => ?_
  have hlb := alw_blk (xs := [.pointer (some ⟨g, 0, none⟩), .slice (some ⟨ab, 0, none⟩) N ac, .slice wa W wc, .slice ia V ic, .int .i64 (2 * (N * W + W + V + 1))]) hW3'
  have ho := HO.out.keepN (alw_ch hW3') hlb
  clear hW3' hlb HO
  generalize w2.heap.size = bx at *
  have HO := Lib.hid ho; clear ho
  have hkx := HO.out.kb (b := bx) (xs := [.pointer (some ⟨g, 0, none⟩), .slice (some ⟨ab, 0, none⟩) N ac, .slice wa W wc, .slice ia V ic, .int .i64 (2 * (N * W + W + V + 1))]) (List.mem_cons_self ..)
  have z0 := hkx.cell (i := 0) rfl
  clear hkx
  go_wp2_with fail
  refine (Len_h HO.out HLG.out).mono ?_
  rintro e w4 ⟨rfl, ho⟩
  clear HO; have HO := Lib.hid ho; clear ho
  clear z0
  have hkx := HO.out.kb (b := bx) (xs := [.pointer (some ⟨g, 0, none⟩), .slice (some ⟨ab, 0, none⟩) N ac, .slice wa W wc, .slice ia V ic, .int .i64 (2 * (N * W + W + V + 1))]) (List.mem_cons_self ..)
  have z3 := hkx.cell (i := 3) rfl
  clear hkx
  go_wp2_with fail
  refine (sConst_h HO.out at_ hat V HRWV.out).mono ?_
  rintro e w5 ⟨a3, c3, rfl, ho⟩
  clear HO; have HO := Lib.hid ho; clear ho
  clear z3
  have hkx := HO.out.kb (b := bx) (xs := [.pointer (some ⟨g, 0, none⟩), .slice (some ⟨ab, 0, none⟩) N ac, .slice wa W wc, .slice ia V ic, .int .i64 (2 * (N * W + W + V + 1))]) (List.mem_cons_self ..)
  have z3 := hkx.cell (i := 3) rfl
  clear hkx
  go_wp2_with fail
  refine (bCut_is at_ V hat (by omega) (by omega)).mono ?_
  rintro e w' ⟨rfl, rfl⟩
  rw [HCUT.out]
  clear z3
  have hkx := HO.out.kb (b := bx) (xs := [.pointer (some ⟨g, 0, none⟩), .slice (some ⟨ab, 0, none⟩) N ac, .slice wa W wc, .slice ia V ic, .int .i64 (2 * (N * W + W + V + 1))]) (List.mem_cons_self ..)
  have z0 := hkx.cell (i := 0) rfl
  have z1 := hkx.cell (i := 1) rfl
  clear hkx
  have hwa := HO.out.wa2 (b := ab) (cs := cs) (ws := ws) (by exact List.mem_cons_of_mem _ (List.mem_cons_self ..)) HCS.out (fun x hx => by simp only [List.mem_cons, List.mem_append]; exact .inr (.inl (List.mem_map.2 ⟨x, hx, rfl⟩))) HWL1.out
  go_wp2_with fail
  refine (mRead_h HO.out (lc := ac) hwa (ya := a3) (yc := c3) (m := V) (yl := natInts (constL at_ V)) (List.mem_cons_self ..) HLC.out (by rw [HWE.out]; exact HF1.out) HRL.out HRD.out (by omega)).mono ?_
  rintro e w6 ⟨a4, c4, F2, rfl, ho⟩
  clear HO; have HO := Lib.hid ho; clear ho
  clear hwa
  clear z0 z1
  have hkx := HO.out.kb (b := bx) (xs := [.pointer (some ⟨g, 0, none⟩), .slice (some ⟨ab, 0, none⟩) N ac, .slice wa W wc, .slice ia V ic, .int .i64 (2 * (N * W + W + V + 1))]) (List.mem_cons_self ..)
  have z0 := hkx.cell (i := 0) rfl
  have z1 := hkx.cell (i := 1) rfl
  have z2 := hkx.cell (i := 2) rfl
  clear hkx
  have hwa := HO.out.wa2 (b := ab) (cs := cs) (ws := ws) (by exact List.mem_cons_of_mem _ (List.mem_cons_self ..)) HCS.out (fun x hx => by simp only [List.mem_cons, List.mem_append]; exact .inr (.inr (.inl (List.mem_map.2 ⟨x, hx, rfl⟩)))) HWL1.out
  go_wp2_with fail
  refine (mWrite_h HO.out (lc := ac) hwa 1 (by decide) (ya := a3) (yc := c3) (m := V) (yl := natInts (constL at_ V)) (by exact List.mem_cons_of_mem _ (List.mem_cons_self ..)) HLC.out (xa := wa) (xc := wc) (n := W) (xl := natInts (rIn (N * W) W)) (by simp) HRN.out (by rw [HWE.out]; exact HF2.out) HWL.out (by omega) HWM.out).mono ?_
  rintro e w7 ⟨b5, c5, F3, cs2, ws2, rfl, ho, hcs2, hws2⟩
  clear HO; have HO := Lib.hid ho; clear ho
  have HCS2 := Lib.hid hcs2; clear hcs2
  have HWS2 := Lib.hid hws2; clear hws2
  clear hwa
  clear z0 z1 z2
  have hkx := HO.out.kb (b := bx) (xs := [.pointer (some ⟨g, 0, none⟩), .slice (some ⟨ab, 0, none⟩) N ac, .slice wa W wc, .slice ia V ic, .int .i64 (2 * (N * W + W + V + 1))]) (List.mem_cons_of_mem _ (List.mem_cons_self ..))
  have z0 := hkx.cell (i := 0) rfl
  clear hkx
  go_wp2_with fail
  refine (mIs_h HO.out (ya := a3) (yc := c3) (m := V) (yl := natInts (constL at_ V)) (by simp) HLC.out at_ hat HF3.out).mono ?_
  rintro e w8 ⟨F4, rfl, ho⟩
  clear HO; have HO := Lib.hid ho; clear ho
  clear z0
  have hkx := HO.out.kb (b := bx) (xs := [.pointer (some ⟨g, 0, none⟩), .slice (some ⟨ab, 0, none⟩) N ac, .slice wa W wc, .slice ia V ic, .int .i64 (2 * (N * W + W + V + 1))]) (List.mem_cons_of_mem _ (List.mem_cons_self ..))
  have z2 := hkx.cell (i := 2) rfl
  clear hkx
  go_wp2_with fail
  refine (sConst_h HO.out 0 (by decide) W HRW.out).mono ?_
  rintro e w9 ⟨a6, c6, rfl, ho⟩
  clear HO; have HO := Lib.hid ho; clear ho
  clear z2
  have hkx := HO.out.kb (b := bx) (xs := [.pointer (some ⟨g, 0, none⟩), .slice (some ⟨ab, 0, none⟩) N ac, .slice wa W wc, .slice ia V ic, .int .i64 (2 * (N * W + W + V + 1))]) (List.mem_cons_of_mem _ (List.mem_cons_self ..))
  have z1 := hkx.cell (i := 1) rfl
  have z3 := hkx.cell (i := 3) rfl
  clear hkx
  go_wp2_with fail
  have hf := mFit_is (w := w9) N V
  rw [HFIT.out] at hf
  refine hf.mono ?_
  rintro e w' ⟨rfl, rfl⟩
  clear hf
  clear z1 z3
  have hkx := HO.out.kb (b := bx) (xs := [.pointer (some ⟨g, 0, none⟩), .slice (some ⟨ab, 0, none⟩) N ac, .slice wa W wc, .slice ia V ic, .int .i64 (2 * (N * W + W + V + 1))]) (List.mem_cons_of_mem _ (List.mem_cons_self ..))
  have z0 := hkx.cell (i := 0) rfl
  have z1 := hkx.cell (i := 1) rfl
  have z3 := hkx.cell (i := 3) rfl
  clear hkx
  go_upto_region 14 with fail
  have hln := Len_g (HO.out.same (Ch.refl _ w9).drew).own.gin
  rw [HLG.out] at hln
  have HLN := Lib.hid hln; clear hln
  refine Ord.St.door (fun _ => True) [.fl, .fl, .fl, .fl, .fl, .fl, .fl, .fl, .fl, .fl, .fl, .fl, .fl, .fl, .fl, .fl, .rd, .fl, .rd, .rd, .fl, .fl, .fl, .fl, .fl, .fl, .fl, .fl, .rd, .rd, .fl, .fl, .fl, .fl, .fl, .fl, .rd, .rd, .fl, .rd, .rd, .fl, .fl, .fl, .fl] [0, 0, 3, 0, 15, 0, 63, 0, 255, 0, 1023, 0, 4095, 8191, 16383, 32767, 65535, 32767, 163839, 425983, 1048575, 2097151, 4194303, 8388607, 16777215, 33554431, 67108863, 134217727, 268435455, 536870911, 134217727, 2147483647, 4294967295, 8589934591, 17179869183, 17179869183, 51539607551, 120259084287, 17179869183, 292057776127, 841813590015, 1941325217791, 4380866641919, 8796093022207, 17592186044415] [0, 1, 2, 3, 4, 5, 6, 7, 8, 9, 10, 11, 12, 13, 14, 15, 16, 17, 18, 19, 20, 21, 22, 23, 24, 25, 26, 27, 28, 29, 30, 31, 32, 33, 34, 35, 36, 37, 38, 39, 40, 41, 42, 43, 44] mixed (by kernel_rfl) rfl ?_
  refine Ord.St.fl2 (T' := ?_) 0 [1, 2, 3, 4, 5, 6, 7, 8, 9, 10, 11, 12, 13, 14, 15, 16, 17, 18, 19, 20, 21, 22, 23, 24, 25, 26, 27, 28, 29, 30, 31, 32, 33, 34, 35, 36, 37, 38, 39, 40, 41, 42, 43, 44] _ _ rfl (by kernel_rfl) rfl rfl rfl rfl (fun K w' hk => ?_) ?_
  rotate_left
  · go_step; exact hk
  refine Ord.St.fl2 (T' := ?_) 1 [2, 3, 4, 5, 6, 7, 8, 9, 10, 11, 12, 13, 14, 15, 16, 17, 18, 19, 20, 21, 22, 23, 24, 25, 26, 27, 28, 29, 30, 31, 32, 33, 34, 35, 36, 37, 38, 39, 40, 41, 42, 43, 44] _ _ rfl (by kernel_rfl) rfl rfl rfl rfl (fun K w' hk => ?_) ?_
  rotate_left
  · go_step; exact hk
  refine Ord.St.fl2 (T' := ?_) 2 [3, 4, 5, 6, 7, 8, 9, 10, 11, 12, 13, 14, 15, 16, 17, 18, 19, 20, 21, 22, 23, 24, 25, 26, 27, 28, 29, 30, 31, 32, 33, 34, 35, 36, 37, 38, 39, 40, 41, 42, 43, 44] _ _ rfl (by kernel_rfl) rfl rfl rfl rfl (fun K w' hk => ?_) ?_
  rotate_left
  · go_step; exact hk
  refine Ord.St.fl2 (T' := ?_) 3 [4, 5, 6, 7, 8, 9, 10, 11, 12, 13, 14, 15, 16, 17, 18, 19, 20, 21, 22, 23, 24, 25, 26, 27, 28, 29, 30, 31, 32, 33, 34, 35, 36, 37, 38, 39, 40, 41, 42, 43, 44] _ _ rfl (by kernel_rfl) rfl rfl rfl rfl (fun K w' hk => ?_) ?_
  rotate_left
  · go_step; exact hk
  refine Ord.St.fl2 (T' := ?_) 4 [5, 6, 7, 8, 9, 10, 11, 12, 13, 14, 15, 16, 17, 18, 19, 20, 21, 22, 23, 24, 25, 26, 27, 28, 29, 30, 31, 32, 33, 34, 35, 36, 37, 38, 39, 40, 41, 42, 43, 44] _ _ rfl (by kernel_rfl) rfl rfl rfl rfl (fun K w' hk => ?_) ?_
  rotate_left
  · go_step; exact hk
  refine Ord.St.fl2 (T' := ?_) 5 [6, 7, 8, 9, 10, 11, 12, 13, 14, 15, 16, 17, 18, 19, 20, 21, 22, 23, 24, 25, 26, 27, 28, 29, 30, 31, 32, 33, 34, 35, 36, 37, 38, 39, 40, 41, 42, 43, 44] _ _ rfl (by kernel_rfl) rfl rfl rfl rfl (fun K w' hk => ?_) ?_
  rotate_left
  · go_step; exact hk
  refine Ord.St.fl2 (T' := ?_) 6 [7, 8, 9, 10, 11, 12, 13, 14, 15, 16, 17, 18, 19, 20, 21, 22, 23, 24, 25, 26, 27, 28, 29, 30, 31, 32, 33, 34, 35, 36, 37, 38, 39, 40, 41, 42, 43, 44] _ _ rfl (by kernel_rfl) rfl rfl rfl rfl (fun K w' hk => ?_) ?_
  rotate_left
  · go_step; exact hk
  refine Ord.St.fl2 (T' := ?_) 7 [8, 9, 10, 11, 12, 13, 14, 15, 16, 17, 18, 19, 20, 21, 22, 23, 24, 25, 26, 27, 28, 29, 30, 31, 32, 33, 34, 35, 36, 37, 38, 39, 40, 41, 42, 43, 44] _ _ rfl (by kernel_rfl) rfl rfl rfl rfl (fun K w' hk => ?_) ?_
  rotate_left
  · go_step; exact hk
  refine Ord.St.fl2 (T' := ?_) 8 [9, 10, 11, 12, 13, 14, 15, 16, 17, 18, 19, 20, 21, 22, 23, 24, 25, 26, 27, 28, 29, 30, 31, 32, 33, 34, 35, 36, 37, 38, 39, 40, 41, 42, 43, 44] _ _ rfl (by kernel_rfl) rfl rfl rfl rfl (fun K w' hk => ?_) ?_
  rotate_left
  · go_step; exact hk
  refine Ord.St.fl2 (T' := ?_) 9 [10, 11, 12, 13, 14, 15, 16, 17, 18, 19, 20, 21, 22, 23, 24, 25, 26, 27, 28, 29, 30, 31, 32, 33, 34, 35, 36, 37, 38, 39, 40, 41, 42, 43, 44] _ _ rfl (by kernel_rfl) rfl rfl rfl rfl (fun K w' hk => ?_) ?_
  rotate_left
  · go_step; exact hk
  refine Ord.St.fl2 (T' := ?_) 10 [11, 12, 13, 14, 15, 16, 17, 18, 19, 20, 21, 22, 23, 24, 25, 26, 27, 28, 29, 30, 31, 32, 33, 34, 35, 36, 37, 38, 39, 40, 41, 42, 43, 44] _ _ rfl (by kernel_rfl) rfl rfl rfl rfl (fun K w' hk => ?_) ?_
  rotate_left
  · go_step; exact hk
  refine Ord.St.fl2 (T' := ?_) 11 [12, 13, 14, 15, 16, 17, 18, 19, 20, 21, 22, 23, 24, 25, 26, 27, 28, 29, 30, 31, 32, 33, 34, 35, 36, 37, 38, 39, 40, 41, 42, 43, 44] _ _ rfl (by kernel_rfl) rfl rfl rfl rfl (fun K w' hk => ?_) ?_
  rotate_left
  · go_step; exact hk
  refine Ord.St.fl2 (T' := ?_) 12 [13, 14, 15, 16, 17, 18, 19, 20, 21, 22, 23, 24, 25, 26, 27, 28, 29, 30, 31, 32, 33, 34, 35, 36, 37, 38, 39, 40, 41, 42, 43, 44] _ _ rfl (by kernel_rfl) rfl rfl rfl rfl (fun K w' hk => ?_) ?_
  rotate_left
  · go_step; exact hk
  refine Ord.St.fl2 (T' := ?_) 13 [14, 15, 16, 17, 18, 19, 20, 21, 22, 23, 24, 25, 26, 27, 28, 29, 30, 31, 32, 33, 34, 35, 36, 37, 38, 39, 40, 41, 42, 43, 44] _ _ rfl (by kernel_rfl) rfl rfl rfl rfl (fun K w' hk => ?_) ?_
  rotate_left
  · go_step; exact hk
  refine Ord.St.fl2 (T' := ?_) 14 [15, 16, 17, 18, 19, 20, 21, 22, 23, 24, 25, 26, 27, 28, 29, 30, 31, 32, 33, 34, 35, 36, 37, 38, 39, 40, 41, 42, 43, 44] _ _ rfl (by kernel_rfl) rfl rfl rfl rfl (fun K w' hk => ?_) ?_
  rotate_left
  · go_step; exact hk
  first | (refine Ord.St.fl2 (T' := ?_) 15 [16, 17, 18, 19, 20, 21, 22, 23, 24, 25, 26, 27, 28, 29, 30, 31, 32, 33, 34, 35, 36, 37, 38, 39, 40, 41, 42, 43, 44] _ _ rfl (by kernel_rfl) ?_ rfl rfl rfl (fun K w' hk => ?_) ?_; rotate_left; (first | rfl | (simp [Region.wanted, yielded, *]; done)); focus (go_step; exact hk)) | (refine Ord.St.skip 15 [16, 17, 18, 19, 20, 21, 22, 23, 24, 25, 26, 27, 28, 29, 30, 31, 32, 33, 34, 35, 36, 37, 38, 39, 40, 41, 42, 43, 44] _ rfl (by kernel_rfl) ?_ (fun K hK => ?_); (first | rfl | (simp [Region.wanted, yielded, *]; done)); go_simp; refine hK _ ?_; clear hK K)
  first | (refine Ord.St.rd2 (T' := ?_) 16 [17, 18, 19, 20, 21, 22, 23, 24, 25, 26, 27, 28, 29, 30, 31, 32, 33, 34, 35, 36, 37, 38, 39, 40, 41, 42, 43, 44] _ _ rfl (by kernel_rfl) ?_ rfl rfl rfl (fun K hk => ?_) ?_; rotate_left; (first | rfl | (simp [Region.wanted, yielded, *]; done)); focus (go_step; exact hk)) | (refine Ord.St.skipr 16 [17, 18, 19, 20, 21, 22, 23, 24, 25, 26, 27, 28, 29, 30, 31, 32, 33, 34, 35, 36, 37, 38, 39, 40, 41, 42, 43, 44] _ rfl (by kernel_rfl) ?_ (fun K hK => ?_); (first | rfl | (simp [Region.wanted, yielded, *]; done)); go_simp; refine hK _ ?_; clear hK K)
  first | (refine Ord.St.fl2 (T' := ?_) 17 [18, 19, 20, 21, 22, 23, 24, 25, 26, 27, 28, 29, 30, 31, 32, 33, 34, 35, 36, 37, 38, 39, 40, 41, 42, 43, 44] _ _ rfl (by kernel_rfl) ?_ rfl rfl rfl (fun K w' hk => ?_) ?_; rotate_left; (first | rfl | (simp [Region.wanted, yielded, *]; done)); focus (go_step; exact hk)) | (refine Ord.St.skip 17 [18, 19, 20, 21, 22, 23, 24, 25, 26, 27, 28, 29, 30, 31, 32, 33, 34, 35, 36, 37, 38, 39, 40, 41, 42, 43, 44] _ rfl (by kernel_rfl) ?_ (fun K hK => ?_); (first | rfl | (simp [Region.wanted, yielded, *]; done)); go_simp; refine hK _ ?_; clear hK K)
  first | (refine Ord.St.rd2 (T' := ?_) 18 [19, 20, 21, 22, 23, 24, 25, 26, 27, 28, 29, 30, 31, 32, 33, 34, 35, 36, 37, 38, 39, 40, 41, 42, 43, 44] _ _ rfl (by kernel_rfl) ?_ rfl rfl rfl (fun K hk => ?_) ?_; rotate_left; (first | rfl | (simp [Region.wanted, yielded, *]; done)); focus (go_step; exact hk)) | (refine Ord.St.skipr 18 [19, 20, 21, 22, 23, 24, 25, 26, 27, 28, 29, 30, 31, 32, 33, 34, 35, 36, 37, 38, 39, 40, 41, 42, 43, 44] _ rfl (by kernel_rfl) ?_ (fun K hK => ?_); (first | rfl | (simp [Region.wanted, yielded, *]; done)); go_simp; refine hK _ ?_; clear hK K)
  first | (refine Ord.St.rd2 (T' := ?_) 19 [20, 21, 22, 23, 24, 25, 26, 27, 28, 29, 30, 31, 32, 33, 34, 35, 36, 37, 38, 39, 40, 41, 42, 43, 44] _ _ rfl (by kernel_rfl) ?_ rfl rfl rfl (fun K hk => ?_) ?_; rotate_left; (first | rfl | (simp [Region.wanted, yielded, *]; done)); focus (go_step; exact hk)) | (refine Ord.St.skipr 19 [20, 21, 22, 23, 24, 25, 26, 27, 28, 29, 30, 31, 32, 33, 34, 35, 36, 37, 38, 39, 40, 41, 42, 43, 44] _ rfl (by kernel_rfl) ?_ (fun K hK => ?_); (first | rfl | (simp [Region.wanted, yielded, *]; done)); go_simp; refine hK _ ?_; clear hK K)
  first | (refine Ord.St.fl2 (T' := ?_) 20 [21, 22, 23, 24, 25, 26, 27, 28, 29, 30, 31, 32, 33, 34, 35, 36, 37, 38, 39, 40, 41, 42, 43, 44] _ _ rfl (by kernel_rfl) ?_ rfl rfl rfl (fun K w' hk => ?_) ?_; rotate_left; (first | rfl | (simp [Region.wanted, yielded, *]; done)); focus (go_step; exact hk)) | (refine Ord.St.skip 20 [21, 22, 23, 24, 25, 26, 27, 28, 29, 30, 31, 32, 33, 34, 35, 36, 37, 38, 39, 40, 41, 42, 43, 44] _ rfl (by kernel_rfl) ?_ (fun K hK => ?_); (first | rfl | (simp [Region.wanted, yielded, *]; done)); go_simp; refine hK _ ?_; clear hK K)
  refine Ord.St.fl2 (T' := ?_) 21 [22, 23, 24, 25, 26, 27, 28, 29, 30, 31, 32, 33, 34, 35, 36, 37, 38, 39, 40, 41, 42, 43, 44] _ _ rfl (by kernel_rfl) rfl rfl rfl rfl (fun K w' hk => ?_) ?_
  rotate_left
  · go_step; exact hk
  refine Ord.St.fl2 (T' := ?_) 22 [23, 24, 25, 26, 27, 28, 29, 30, 31, 32, 33, 34, 35, 36, 37, 38, 39, 40, 41, 42, 43, 44] _ _ rfl (by kernel_rfl) rfl rfl rfl rfl (fun K w' hk => ?_) ?_
  rotate_left
  · go_step; exact hk
  first | (refine Ord.St.fl2 (T' := ?_) 23 [24, 25, 26, 27, 28, 29, 30, 31, 32, 33, 34, 35, 36, 37, 38, 39, 40, 41, 42, 43, 44] _ _ rfl (by kernel_rfl) ?_ rfl rfl rfl (fun K w' hk => ?_) ?_; rotate_left; (first | rfl | (simp [Region.wanted, yielded, *]; done)); focus (go_step; exact hk)) | (refine Ord.St.skip 23 [24, 25, 26, 27, 28, 29, 30, 31, 32, 33, 34, 35, 36, 37, 38, 39, 40, 41, 42, 43, 44] _ rfl (by kernel_rfl) ?_ (fun K hK => ?_); (first | rfl | (simp [Region.wanted, yielded, *]; done)); go_simp; refine hK _ ?_; clear hK K)
  first | (refine Ord.St.fl2 (T' := ?_) 24 [25, 26, 27, 28, 29, 30, 31, 32, 33, 34, 35, 36, 37, 38, 39, 40, 41, 42, 43, 44] _ _ rfl (by kernel_rfl) ?_ rfl rfl rfl (fun K w' hk => ?_) ?_; rotate_left; (first | rfl | (simp [Region.wanted, yielded, *]; done)); focus (go_step; exact hk)) | (refine Ord.St.skip 24 [25, 26, 27, 28, 29, 30, 31, 32, 33, 34, 35, 36, 37, 38, 39, 40, 41, 42, 43, 44] _ rfl (by kernel_rfl) ?_ (fun K hK => ?_); (first | rfl | (simp [Region.wanted, yielded, *]; done)); go_simp; refine hK _ ?_; clear hK K)
  refine Ord.St.fl2 (T' := ?_) 25 [26, 27, 28, 29, 30, 31, 32, 33, 34, 35, 36, 37, 38, 39, 40, 41, 42, 43, 44] _ _ rfl (by kernel_rfl) rfl rfl rfl rfl (fun K w' hk => ?_) ?_
  rotate_left
  · go_step; exact hk
  refine Ord.St.fl2 (T' := ?_) 26 [27, 28, 29, 30, 31, 32, 33, 34, 35, 36, 37, 38, 39, 40, 41, 42, 43, 44] _ _ rfl (by kernel_rfl) rfl rfl rfl rfl (fun K w' hk => ?_) ?_
  rotate_left
  · go_step; exact hk
  first | (refine Ord.St.fl2 (T' := ?_) 27 [28, 29, 30, 31, 32, 33, 34, 35, 36, 37, 38, 39, 40, 41, 42, 43, 44] _ _ rfl (by kernel_rfl) ?_ rfl rfl rfl (fun K w' hk => ?_) ?_; rotate_left; (first | rfl | (simp [Region.wanted, yielded, *]; done)); focus (go_step; exact hk)) | (refine Ord.St.skip 27 [28, 29, 30, 31, 32, 33, 34, 35, 36, 37, 38, 39, 40, 41, 42, 43, 44] _ rfl (by kernel_rfl) ?_ (fun K hK => ?_); (first | rfl | (simp [Region.wanted, yielded, *]; done)); go_simp; refine hK _ ?_; clear hK K)
  first | (refine Ord.St.rd2 (T' := ?_) 28 [29, 30, 31, 32, 33, 34, 35, 36, 37, 38, 39, 40, 41, 42, 43, 44] _ _ rfl (by kernel_rfl) ?_ rfl rfl rfl (fun K hk => ?_) ?_; rotate_left; (first | rfl | (simp [Region.wanted, yielded, *]; done)); focus (go_step; exact hk)) | (refine Ord.St.skipr 28 [29, 30, 31, 32, 33, 34, 35, 36, 37, 38, 39, 40, 41, 42, 43, 44] _ rfl (by kernel_rfl) ?_ (fun K hK => ?_); (first | rfl | (simp [Region.wanted, yielded, *]; done)); go_simp; refine hK _ ?_; clear hK K)
  first | (refine Ord.St.rd2 (T' := ?_) 29 [30, 31, 32, 33, 34, 35, 36, 37, 38, 39, 40, 41, 42, 43, 44] _ _ rfl (by kernel_rfl) ?_ rfl rfl rfl (fun K hk => ?_) ?_; rotate_left; (first | rfl | (simp [Region.wanted, yielded, *]; done)); focus (go_step; refine HLN.out.mono ?_; rintro e w' ⟨rfl, rfl⟩; exact hk)) | (refine Ord.St.skipr 29 [30, 31, 32, 33, 34, 35, 36, 37, 38, 39, 40, 41, 42, 43, 44] _ rfl (by kernel_rfl) ?_ (fun K hK => ?_); (first | rfl | (simp [Region.wanted, yielded, *]; done)); go_simp; refine hK _ ?_; clear hK K)
  first | (refine Ord.St.fl2 (T' := ?_) 30 [31, 32, 33, 34, 35, 36, 37, 38, 39, 40, 41, 42, 43, 44] _ _ rfl (by kernel_rfl) ?_ rfl rfl rfl (fun K w' hk => ?_) ?_; rotate_left; (first | rfl | (simp [Region.wanted, yielded, *]; done)); focus (go_step; exact hk)) | (refine Ord.St.skip 30 [31, 32, 33, 34, 35, 36, 37, 38, 39, 40, 41, 42, 43, 44] _ rfl (by kernel_rfl) ?_ (fun K hK => ?_); (first | rfl | (simp [Region.wanted, yielded, *]; done)); go_simp; refine hK _ ?_; clear hK K)
  first | (refine Ord.St.fl2 (T' := ?_) 31 [32, 33, 34, 35, 36, 37, 38, 39, 40, 41, 42, 43, 44] _ _ rfl (by kernel_rfl) ?_ rfl rfl rfl (fun K w' hk => ?_) ?_; rotate_left; (first | rfl | (simp [Region.wanted, yielded, *]; done)); focus (go_step; exact hk)) | (refine Ord.St.skip 31 [32, 33, 34, 35, 36, 37, 38, 39, 40, 41, 42, 43, 44] _ rfl (by kernel_rfl) ?_ (fun K hK => ?_); (first | rfl | (simp [Region.wanted, yielded, *]; done)); go_simp; refine hK _ ?_; clear hK K)
  refine Ord.St.fl2 (T' := ?_) 32 [33, 34, 35, 36, 37, 38, 39, 40, 41, 42, 43, 44] _ _ rfl (by kernel_rfl) rfl rfl rfl rfl (fun K w' hk => ?_) ?_
  rotate_left
  · go_step; exact hk
  refine Ord.St.fl2 (T' := ?_) 33 [34, 35, 36, 37, 38, 39, 40, 41, 42, 43, 44] _ _ rfl (by kernel_rfl) rfl rfl rfl rfl (fun K w' hk => ?_) ?_
  rotate_left
  · go_step; exact hk
  first | (refine Ord.St.fl2 (T' := ?_) 34 [35, 36, 37, 38, 39, 40, 41, 42, 43, 44] _ _ rfl (by kernel_rfl) ?_ rfl rfl rfl (fun K w' hk => ?_) ?_; rotate_left; (first | rfl | (simp [Region.wanted, yielded, *]; done)); focus (go_step; exact hk)) | (refine Ord.St.skip 34 [35, 36, 37, 38, 39, 40, 41, 42, 43, 44] _ rfl (by kernel_rfl) ?_ (fun K hK => ?_); (first | rfl | (simp [Region.wanted, yielded, *]; done)); go_simp; refine hK _ ?_; clear hK K)
  first | (refine Ord.St.fl2 (T' := ?_) 35 [36, 37, 38, 39, 40, 41, 42, 43, 44] _ _ rfl (by kernel_rfl) ?_ rfl rfl rfl (fun K w' hk => ?_) ?_; rotate_left; (first | rfl | (simp [Region.wanted, yielded, *]; done)); focus (go_step; exact hk)) | (refine Ord.St.skip 35 [36, 37, 38, 39, 40, 41, 42, 43, 44] _ rfl (by kernel_rfl) ?_ (fun K hK => ?_); (first | rfl | (simp [Region.wanted, yielded, *]; done)); go_simp; refine hK _ ?_; clear hK K)
  first | (refine Ord.St.rd2 (T' := ?_) 36 [37, 38, 39, 40, 41, 42, 43, 44] _ _ rfl (by kernel_rfl) ?_ rfl rfl rfl (fun K hk => ?_) ?_; rotate_left; (first | rfl | (simp [Region.wanted, yielded, *]; done)); focus (go_step; exact hk)) | (refine Ord.St.skipr 36 [37, 38, 39, 40, 41, 42, 43, 44] _ rfl (by kernel_rfl) ?_ (fun K hK => ?_); (first | rfl | (simp [Region.wanted, yielded, *]; done)); go_simp; refine hK _ ?_; clear hK K)
  first | (refine Ord.St.rd2 (T' := ?_) 37 [38, 39, 40, 41, 42, 43, 44] _ _ rfl (by kernel_rfl) ?_ rfl rfl rfl (fun K hk => ?_) ?_; rotate_left; (first | rfl | (simp [Region.wanted, yielded, *]; done)); focus (go_step; exact hk)) | (refine Ord.St.skipr 37 [38, 39, 40, 41, 42, 43, 44] _ rfl (by kernel_rfl) ?_ (fun K hK => ?_); (first | rfl | (simp [Region.wanted, yielded, *]; done)); go_simp; refine hK _ ?_; clear hK K)
  first | (refine Ord.St.fl2 (T' := ?_) 38 [39, 40, 41, 42, 43, 44] _ _ rfl (by kernel_rfl) ?_ rfl rfl rfl (fun K w' hk => ?_) ?_; rotate_left; (first | rfl | (simp [Region.wanted, yielded, *]; done)); focus (go_step; exact hk)) | (refine Ord.St.skip 38 [39, 40, 41, 42, 43, 44] _ rfl (by kernel_rfl) ?_ (fun K hK => ?_); (first | rfl | (simp [Region.wanted, yielded, *]; done)); go_simp; refine hK _ ?_; clear hK K)
  first | (refine Ord.St.rd2 (T' := ?_) 39 [40, 41, 42, 43, 44] _ _ rfl (by kernel_rfl) ?_ rfl rfl rfl (fun K hk => ?_) ?_; rotate_left; (first | rfl | (simp [Region.wanted, yielded, *]; done)); focus (go_step; exact hk)) | (refine Ord.St.skipr 39 [40, 41, 42, 43, 44] _ rfl (by kernel_rfl) ?_ (fun K hK => ?_); (first | rfl | (simp [Region.wanted, yielded, *]; done)); go_simp; refine hK _ ?_; clear hK K)
  first | (refine Ord.St.rd2 (T' := ?_) 40 [41, 42, 43, 44] _ _ rfl (by kernel_rfl) ?_ rfl rfl rfl (fun K hk => ?_) ?_; rotate_left; (first | rfl | (simp [Region.wanted, yielded, *]; done)); focus (go_step; exact hk)) | (refine Ord.St.skipr 40 [41, 42, 43, 44] _ rfl (by kernel_rfl) ?_ (fun K hK => ?_); (first | rfl | (simp [Region.wanted, yielded, *]; done)); go_simp; refine hK _ ?_; clear hK K)
  first | (refine Ord.St.fl2 (T' := ?_) 41 [42, 43, 44] _ _ rfl (by kernel_rfl) ?_ rfl rfl rfl (fun K w' hk => ?_) ?_; rotate_left; (first | rfl | (simp [Region.wanted, yielded, *]; done)); focus (go_step; exact hk)) | (refine Ord.St.skip 41 [42, 43, 44] _ rfl (by kernel_rfl) ?_ (fun K hK => ?_); (first | rfl | (simp [Region.wanted, yielded, *]; done)); go_simp; refine hK _ ?_; clear hK K)
  first | (refine Ord.St.fl2 (T' := ?_) 42 [43, 44] _ _ rfl (by kernel_rfl) ?_ rfl rfl rfl (fun K w' hk => ?_) ?_; rotate_left; (first | rfl | (simp [Region.wanted, yielded, *]; done)); focus (go_step; exact hk)) | (refine Ord.St.skip 42 [43, 44] _ rfl (by kernel_rfl) ?_ (fun K hK => ?_); (first | rfl | (simp [Region.wanted, yielded, *]; done)); go_simp; refine hK _ ?_; clear hK K)
  first | (refine Ord.St.fl2 (T' := ?_) 43 [44] _ _ rfl (by kernel_rfl) ?_ rfl rfl rfl (fun K w' hk => ?_) ?_; rotate_left; (first | rfl | (simp [Region.wanted, yielded, *]; done)); focus (go_step; exact hk)) | (refine Ord.St.skip 43 [44] _ rfl (by kernel_rfl) ?_ (fun K hK => ?_); (first | rfl | (simp [Region.wanted, yielded, *]; done)); go_simp; refine hK _ ?_; clear hK K)
  refine Ord.St.fl2 (T' := ?_) 44 [] _ _ rfl (by kernel_rfl) rfl rfl rfl rfl (fun K w' hk => ?_) ?_
  rotate_left
  · go_step; exact hk
  refine Ord.St.nil ?_
  clear HLN z0 z1 z3
  go_upto_region 16 with fail
  refine wp_named fun WM hWM => ?_
  have ho := HO.out.same (show Ch [] w9 WM by rw [hWM]; exact (Ch.refl _ _).drew)
  clear HO hWM
  have HO := Lib.hid ho; clear ho
  have hkx := HO.out.kb (b := bx) (xs := [.pointer (some ⟨g, 0, none⟩), .slice (some ⟨ab, 0, none⟩) N ac, .slice wa W wc, .slice ia V ic, .int .i64 (2 * (N * W + W + V + 1))]) (List.mem_cons_of_mem _ (List.mem_cons_self ..))
  have z1 := hkx.cell (i := 1) rfl
  clear hkx
  by_cases hlA : a < N
  · obtain ⟨qa, qc, hq⟩ := ws_at HWE.out (wldL_at hlA)
    have dq := (HO.out.kb (b := ab) (xs := cs) (by exact List.mem_cons_of_mem _ (List.mem_cons_of_mem _ (List.mem_cons_self ..)))).cell (HCS.out a _ hq)
    have hql : (natInts (rIn (a * W) W)).length = W := by simp [rIn]
    simp only [WV.val, hql] at dq
    have hqm : (Value.slice qa W qc, natInts (rIn (a * W) W)) ∈ (ws.map fun x => (WV.val x, WV.l x)) := List.mem_map.2 ⟨_, List.mem_of_getElem? hq, by simp only [WV.val, hql]⟩
    clear hq
    go_wp2_with fail
    have h5 := HO.out.kb (b := b5) (xs := cs2) (List.mem_cons_self ..)
    have hx := HO.out.kb (b := bx) (xs := [.pointer (some ⟨g, 0, none⟩), .slice (some ⟨ab, 0, none⟩) N ac, .slice wa W wc, .slice ia V ic, .int .i64 (2 * (N * W + W + V + 1))]) (List.mem_cons_of_mem _ (List.mem_cons_self ..))
    have hab := HO.out.kb (b := ab) (xs := cs) (by exact List.mem_cons_of_mem _ (List.mem_cons_of_mem _ (List.mem_cons_self ..)))
    have H5 := Lib.hid h5; clear h5
    have HX := Lib.hid hx; clear hx
    have HAB := Lib.hid hab; clear hab
    clear z1
    go_loopw [27, 28, 163] (fun _ _ i wr => ∃ k : Nat, k ≤ N ∧ i = .int .i64 k ∧ Ch [] WM wr) (fun _ _ i _ => N - (intOf i).toNat)
    case atStart => exact ⟨0, Nat.zero_le _, rfl, Ch.refl _ _⟩
    case round =>
      obtain ⟨k, hk, rfl, hc⟩ := hrel
      by_cases hlt : k < N
      · have z1 := (HX.out.ch hc (by simp)).cell (i := 1) rfl
        have z2 := (HX.out.ch hc (by simp)).cell (i := 2) rfl
        have e5 : ((List.range N).map fun i => natInts (if i = a then rIn (N * W) W else rIn (i * W) W))[k]? = some (natInts (if k = a then rIn (N * W) W else rIn (k * W) W)) := by rw [List.getElem?_map, List.getElem?_range hlt]; rfl
        obtain ⟨ya, yc, hy⟩ := ws_at (ws := ws2) (Ls := (List.range N).map fun i => natInts (if i = a then rIn (N * W) W else rIn (i * W) W)) (by rw [HWS2.out, List.map_map]; rfl) e5
        have d5 := (H5.out.ch hc (by simp)).cell (HCS2.out k _ hy)
        have hyl : (natInts (if k = a then rIn (N * W) W else rIn (k * W) W)).length = W := by split <;> simp [rIn]
        simp only [WV.val, hyl] at d5
        have hym : (Value.slice ya W yc, natInts (if k = a then rIn (N * W) W else rIn (k * W) W)) ∈ (ws2.map fun x => (WV.val x, WV.l x)) := List.mem_map.2 ⟨_, List.mem_of_getElem? hy, by simp only [WV.val, hyl]⟩
        clear hy e5
        by_cases hka : k = a
        · rw [if_pos hka] at hym
          have q0 : ((k : Int) == a) = true := beqI (by omega)
          have q1 : ((k : Int) != a) = false := by rw [bne, q0]; rfl
          have hE := Eqref_is (w := wr) yc wc (xs := natInts (rIn (N * W) W)) (ys := natInts (rIn (N * W) W)) ((HO.out.same hc).sl (a := ya) (n := W) (c := yc) (by simp only [List.mem_cons, List.mem_append]; exact .inr (.inl hym)) HRN.out) ((HO.out.same hc).sl (a := wa) (n := W) (c := wc) (by simp) HRN.out)
          simp only [HRN.out, decide_true] at hE
          have HE := Lib.hid hE; clear hE
          have HC := Lib.hid hc; clear hc
          clear hyl hym hka
          go_wp2_with fail
          refine HE.out.mono ?_
          rintro e wE ⟨rfl, hcE⟩
          have HCE := Lib.hid hcE; clear hcE
          go_wp2_with fail
          go_roundw
          case rel => exact ⟨k + 1, by omega, by go_num, HC.out.trans HCE.out (by simp)⟩
          case measure => simp [intOf] <;> omega
        · rw [if_neg hka] at hym
          have q0 : ((k : Int) == a) = false := beqN (by omega)
          have q1 : ((k : Int) != a) = true := by rw [bne, q0]; rfl
          obtain ⟨xa, xc, hx⟩ := ws_at HWE.out (wldL_at hlt)
          have d1 := (HAB.out.ch hc (by simp)).cell (HCS.out k _ hx)
          have hxl : (natInts (rIn (k * W) W)).length = W := by simp [rIn]
          simp only [WV.val, hxl] at d1
          have hxm : (Value.slice xa W xc, natInts (rIn (k * W) W)) ∈ (ws.map fun x => (WV.val x, WV.l x)) := List.mem_map.2 ⟨_, List.mem_of_getElem? hx, by simp only [WV.val, hxl]⟩
          have hE := Eqref_is (w := wr) yc xc (xs := natInts (rIn (k * W) W)) (ys := natInts (rIn (k * W) W)) ((HO.out.same hc).sl (a := ya) (n := W) (c := yc) (by simp only [List.mem_cons, List.mem_append]; exact .inr (.inl hym)) hxl) ((HO.out.same hc).sl (a := xa) (n := W) (c := xc) (by simp only [List.mem_cons, List.mem_append]; exact .inr (.inr (.inr (.inr (.inl hxm))))) hxl)
          simp only [hxl, decide_true] at hE
          have HE := Lib.hid hE; clear hE
          have HC := Lib.hid hc; clear hc
          clear hyl hym hka hx hxl hxm
          go_wp2_with fail
          refine HE.out.mono ?_
          rintro e wE ⟨rfl, hcE⟩
          have HCE := Lib.hid hcE; clear hcE
          go_wp2_with fail
          go_roundw
          case rel => exact ⟨k + 1, by omega, by go_num, HC.out.trans HCE.out (by simp)⟩
          case measure => simp [intOf] <;> omega
      · have hE := Eqref_is (w := wr) c4 qc (xs := natInts (rIn (a * W) W)) (ys := natInts (rIn (a * W) W)) ((HO.out.same hc).sl (a := a4) (n := W) (c := c4) (by simp [hlA]) hql) ((HO.out.same hc).sl (a := qa) (n := W) (c := qc) (by simp only [List.mem_cons, List.mem_append]; exact .inr (.inr (.inr (.inr (.inl hqm))))) hql)
        simp only [hql, decide_true] at hE
        have HE := Lib.hid hE; clear hE
        have HC := Lib.hid hc; clear hc
        go_wp2_with fail
        refine HE.out.mono ?_
        rintro e wE ⟨rfl, hcE⟩
        have HCE := Lib.hid hcE; clear hcE
        go_wp2_with fail
        go_ret
        exact ⟨rfl, ((HC1.out.trans HO.out.own.ch (by simp)).trans HC.out (by simp)).trans HCE.out (by simp)⟩
  · have q7 : decide ((a : Int) < N) = false := decide_eq_false (by omega)
    have q8 : decide (a < N) = false := decide_eq_false hlA
    have ha8 : a < 8 := Nat.lt_of_lt_of_le HAV.out HPV.out
    have hql : (natInts (List.replicate W 0)).length = W := by simp
    have hz6 : constL 0 W = List.replicate W 0 := by
      unfold constL
      apply List.ext_getElem (by simp)
      intro i _ _
      simp
    go_wp2_with fail
    have h5 := HO.out.kb (b := b5) (xs := cs2) (List.mem_cons_self ..)
    have hx := HO.out.kb (b := bx) (xs := [.pointer (some ⟨g, 0, none⟩), .slice (some ⟨ab, 0, none⟩) N ac, .slice wa W wc, .slice ia V ic, .int .i64 (2 * (N * W + W + V + 1))]) (List.mem_cons_of_mem _ (List.mem_cons_self ..))
    have hab := HO.out.kb (b := ab) (xs := cs) (by exact List.mem_cons_of_mem _ (List.mem_cons_of_mem _ (List.mem_cons_self ..)))
    have H5 := Lib.hid h5; clear h5
    have HX := Lib.hid hx; clear hx
    have HAB := Lib.hid hab; clear hab
    clear z1
    go_loopw [27, 28, 163] (fun _ _ i wr => ∃ k : Nat, k ≤ N ∧ i = .int .i64 k ∧ Ch [] WM wr) (fun _ _ i _ => N - (intOf i).toNat)
    case atStart => exact ⟨0, Nat.zero_le _, rfl, Ch.refl _ _⟩
    case round =>
      obtain ⟨k, hk, rfl, hc⟩ := hrel
      by_cases hlt : k < N
      · have z1 := (HX.out.ch hc (by simp)).cell (i := 1) rfl
        have z2 := (HX.out.ch hc (by simp)).cell (i := 2) rfl
        have e5 : ((List.range N).map fun i => natInts (if i = a then rIn (N * W) W else rIn (i * W) W))[k]? = some (natInts (if k = a then rIn (N * W) W else rIn (k * W) W)) := by rw [List.getElem?_map, List.getElem?_range hlt]; rfl
        obtain ⟨ya, yc, hy⟩ := ws_at (ws := ws2) (Ls := (List.range N).map fun i => natInts (if i = a then rIn (N * W) W else rIn (i * W) W)) (by rw [HWS2.out, List.map_map]; rfl) e5
        have d5 := (H5.out.ch hc (by simp)).cell (HCS2.out k _ hy)
        have hyl : (natInts (if k = a then rIn (N * W) W else rIn (k * W) W)).length = W := by split <;> simp [rIn]
        simp only [WV.val, hyl] at d5
        have hym : (Value.slice ya W yc, natInts (if k = a then rIn (N * W) W else rIn (k * W) W)) ∈ (ws2.map fun x => (WV.val x, WV.l x)) := List.mem_map.2 ⟨_, List.mem_of_getElem? hy, by simp only [WV.val, hyl]⟩
        clear hy e5
        by_cases hka : k = a
        · rw [if_pos hka] at hym
          have q0 : ((k : Int) == a) = true := beqI (by omega)
          have q1 : ((k : Int) != a) = false := by rw [bne, q0]; rfl
          have hE := Eqref_is (w := wr) yc wc (xs := natInts (rIn (N * W) W)) (ys := natInts (rIn (N * W) W)) ((HO.out.same hc).sl (a := ya) (n := W) (c := yc) (by simp only [List.mem_cons, List.mem_append]; exact .inr (.inl hym)) HRN.out) ((HO.out.same hc).sl (a := wa) (n := W) (c := wc) (by simp) HRN.out)
          simp only [HRN.out, decide_true] at hE
          have HE := Lib.hid hE; clear hE
          have HC := Lib.hid hc; clear hc
          clear hyl hym hka
          go_wp2_with fail
          refine HE.out.mono ?_
          rintro e wE ⟨rfl, hcE⟩
          have HCE := Lib.hid hcE; clear hcE
          go_wp2_with fail
          go_roundw
          case rel => exact ⟨k + 1, by omega, by go_num, HC.out.trans HCE.out (by simp)⟩
          case measure => simp [intOf] <;> omega
        · rw [if_neg hka] at hym
          have q0 : ((k : Int) == a) = false := beqN (by omega)
          have q1 : ((k : Int) != a) = true := by rw [bne, q0]; rfl
          obtain ⟨xa, xc, hx⟩ := ws_at HWE.out (wldL_at hlt)
          have d1 := (HAB.out.ch hc (by simp)).cell (HCS.out k _ hx)
          have hxl : (natInts (rIn (k * W) W)).length = W := by simp [rIn]
          simp only [WV.val, hxl] at d1
          have hxm : (Value.slice xa W xc, natInts (rIn (k * W) W)) ∈ (ws.map fun x => (WV.val x, WV.l x)) := List.mem_map.2 ⟨_, List.mem_of_getElem? hx, by simp only [WV.val, hxl]⟩
          have hE := Eqref_is (w := wr) yc xc (xs := natInts (rIn (k * W) W)) (ys := natInts (rIn (k * W) W)) ((HO.out.same hc).sl (a := ya) (n := W) (c := yc) (by simp only [List.mem_cons, List.mem_append]; exact .inr (.inl hym)) hxl) ((HO.out.same hc).sl (a := xa) (n := W) (c := xc) (by simp only [List.mem_cons, List.mem_append]; exact .inr (.inr (.inr (.inr (.inl hxm))))) hxl)
          simp only [hxl, decide_true] at hE
          have HE := Lib.hid hE; clear hE
          have HC := Lib.hid hc; clear hc
          clear hyl hym hka hx hxl hxm
          go_wp2_with fail
          refine HE.out.mono ?_
          rintro e wE ⟨rfl, hcE⟩
          have HCE := Lib.hid hcE; clear hcE
          go_wp2_with fail
          go_roundw
          case rel => exact ⟨k + 1, by omega, by go_num, HC.out.trans HCE.out (by simp)⟩
          case measure => simp [intOf] <;> omega
      · have hE := Eqref_is (w := wr) c4 c6 (xs := natInts (List.replicate W 0)) (ys := natInts (List.replicate W 0)) ((HO.out.same hc).sl (a := a4) (n := W) (c := c4) (by simp [hlA]) hql) ((HO.out.same hc).sl (a := a6) (n := W) (c := c6) (by simp [hz6]) hql)
        simp only [hql, decide_true] at hE
        have HE := Lib.hid hE; clear hE
        have HC := Lib.hid hc; clear hc
        go_wp2_with fail
        refine HE.out.mono ?_
        rintro e wE ⟨rfl, hcE⟩
        have HCE := Lib.hid hcE; clear hcE
        go_wp2_with fail
        go_ret
        exact ⟨rfl, ((HC1.out.trans HO.out.own.ch (by simp)).trans HC.out (by simp)).trans HCE.out (by simp)⟩
theorem MuxesConsts_walk {w : World} (n : Nat) (_ : n ≤ 255) (wd : Nat) (_ : wd ≤ 255) (v : Nat) (_ : v ≤ 255) {at_ : Nat} (hat : at_ < 4294967296) :
    Calls Try.prog 5 #[.int .u8 n, .int .u8 wd, .int .u8 v, .int .u32 at_] w fun e w' => e = .returned (.bool true) ∧ Ch [] w w' :=
  MuxesConsts_core w n wd v at_ _ _ _ rfl rfl rfl hat
end
end Go.Proofs.Ytdmmanfjafempaa
