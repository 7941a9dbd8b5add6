/-
  Contracts of functions that MuxesSmall reaches, and plain facts (part G). Conditions: the hypotheses of each theorem.
-/
import Derived.Test.YtehljgigebhddaaGreatQF
import Derived.Deep.DeepCutAuto
import Derived.Deep.Cut
import Derived.Deep.CutBlock
set_option maxRecDepth 100000
set_option maxHeartbeats 16000000
namespace Go.Proofs.YtehljgigebhddaaGreat
open Go.RowKit Go.Mem Go.Aig
abbrev RowT := TypeId × Value × List Value
def owns (R : List RowT) : List Nat := R.flatMap fun r => r.2.1.ownBlock.toList
theorem owns_mem {R : List RowT} {k : Nat} : k ∈ owns R ↔ ∃ r ∈ R, r.2.1.ownBlock = some k := by
 unfold owns
 simp only [List.mem_flatMap, Option.mem_toList, Option.mem_def]
structure Growing (w0 w : World) (R : List RowT) (Ws : List WV) : Prop where
 row : ∀ r ∈ R, Mem.row w r.1 1 r.2.1 r.2.2.length r.2.2
 lo : ∀ r ∈ R, ∀ k, r.2.1.ownBlock = some k → w0.heap.size ≤ k
 ne : R.Pairwise fun r s => ∀ k, r.2.1.ownBlock = some k → s.2.1.ownBlock ≠ some k
 fin : ∀ x ∈ Ws, ∀ W, Ch (owns R) w W → Sl W x.a x.l
 ch : Ch [] w0 w
theorem row_ownlt {w : World} {e : TypeId} {size : Nat} {v : Value} {n : Nat} {xs : List Value} (h : Mem.row w e size v n xs) {k : Nat} (hk : v.ownBlock = some k) : k < w.heap.size := by
 rcases h.2 with ⟨rfl, _⟩ | ⟨g, cap, cur, rfl, _, hg, _⟩
 ·cases hk
 ·cases hk
  exact (Array.getElem?_eq_some_iff.1 hg).1
section
variable {w0 w w' : World} {R R' : List RowT} {Ws : List WV} {T : TypeId} {v v' : Value} {xs ys : List Value}
theorem Growing.same (h : Growing w0 w R Ws) (hc : Ch [] w w') : Growing w0 w' R Ws :=
 ⟨fun r hr => (h.row r hr).ch hc (by simp), h.lo, h.ne, fun x hx W hW => h.fin x hx W ((hc.mono (by simp)).trans hW (fun k hk => .inl hk)), h.ch.trans hc (by simp)⟩
theorem Growing.start (w : World) : Growing w w [] [] := ⟨by simp, by simp, .nil, by simp, Ch.refl _ _⟩
theorem Growing.push (h : Growing w0 w R Ws) (T : TypeId) : Growing w0 w ((T, .slice none 0 0, []) :: R) Ws :=
 ⟨fun r hr => by
  rcases List.mem_cons.1 hr with rfl | hr
  ·exact ⟨rfl, .inl ⟨rfl, rfl⟩⟩
  ·exact h.row r hr, fun r hr k hk => by
  rcases List.mem_cons.1 hr with rfl | hr
  ·cases hk
  ·exact h.lo r hr k hk, List.pairwise_cons.2 ⟨fun s _ k hk => (by cases hk), h.ne⟩, h.fin, h.ch⟩
theorem Growing.perm (h : Growing w0 w R Ws) (hp : R.Perm R') : Growing w0 w R' Ws :=
 ⟨fun r hr => h.row r (hp.mem_iff.2 hr), fun r hr => h.lo r (hp.mem_iff.2 hr), (hp.pairwise_iff (fun {a b} hab k hk e => hab k e hk)).1 h.ne, fun x hx W hW => h.fin x hx W (hW.mono (fun k hk => .inl (by
  obtain ⟨r, hr, e⟩ := owns_mem.1 hk
  exact owns_mem.2 ⟨r, hp.mem_iff.2 hr, e⟩))), h.ch⟩
theorem Growing.rot {r : RowT} (h : Growing w0 w (r :: R) Ws) : Growing w0 w (R ++ [r]) Ws := h.perm (List.perm_append_singleton r R).symm
theorem Growing.app (h : Growing w0 w ((T, v, xs) :: R) Ws) {n : Nat} (hr : Mem.row w' T 1 v' n ys) (hn : ys.length = n) (hc : Ch v.ownBlock.toList w w') (hf : ∀ k, v'.ownBlock = some k → v.ownBlock = some k ∨ w.heap.size ≤ k) : Growing w0 w' ((T, v', ys) :: R) Ws := by
 have hne := List.pairwise_cons.1 h.ne
 have hz := h.ch.size
 refine ⟨fun r hr' => ?_, fun r hr' k hk => ?_, List.pairwise_cons.2 ⟨fun s hs k hk e => ?_, hne.2⟩, fun x hx W hW => h.fin x hx W ?_, h.ch.trans hc (fun k hk => .inr ?_)⟩
 ·rcases List.mem_cons.1 hr' with rfl | hr'
  ·subst hn; exact hr
  ·refine (h.row r (List.mem_cons_of_mem _ hr')).ch hc (fun k hk hin => hne.1 r hr' k (Option.mem_toList.1 hin) hk)
 ·rcases List.mem_cons.1 hr' with rfl | hr'
  ·rcases hf k hk with e | e
   ·exact h.lo _ (List.mem_cons_self ..) k e
   ·omega
  ·exact h.lo r (List.mem_cons_of_mem _ hr') k hk
 ·rcases hf k hk with e1 | e1
  ·exact hne.1 s hs k e1 e
  ·have := row_ownlt (h.row s (List.mem_cons_of_mem _ hs)) e; omega
 ·refine (hc.mono (fun k hk => .inl (owns_mem.2 ⟨_, List.mem_cons_self .., Option.mem_toList.1 hk⟩))).trans hW (fun k hk => ?_)
  obtain ⟨r, hr', e⟩ := owns_mem.1 hk
  rcases List.mem_cons.1 hr' with rfl | hr'
  ·rcases hf k e with e1 | e1
   ·exact .inl (owns_mem.2 ⟨_, List.mem_cons_self .., e1⟩)
   ·exact .inr e1
  ·exact .inl (owns_mem.2 ⟨r, List.mem_cons_of_mem _ hr', e⟩)
 ·exact h.lo _ (List.mem_cons_self ..) k (Option.mem_toList.1 hk)
theorem Sl.row9 {a : Option Addr} {n c : Nat} {l : List Int} (h : Mem.row w T 1 (.slice a n c) n (intCells l)) (hn : l.length ≤ 1000000) : Sl w a l :=
 ⟨fun i x hx => by
  rcases h.2 with ⟨e, h0⟩ | ⟨g, cap, cur, e, _⟩
  ·have := h.1
   rw [h0] at this
   have hl : l = [] := by
    cases l with
    | nil => rfl
    | cons y l => simp [intCells] at this
   rw [hl] at hx; simp at hx
  ·cases e
   have := h.cells (g := g) rfl i (.int .i64 x) (by simp [intCells, hx])
   rw [Addr.add_lit] at this
   exact ⟨g, 0, rfl, this⟩, by omega⟩
theorem Growing.word {a : Option Addr} {n c : Nat} {l : List Int} (h : Growing w0 w ((T, .slice a n c, intCells l) :: R) Ws) (hn : l.length ≤ 1000000) (hl : l.length = n) : Growing w0 w R (⟨a, l, c⟩ :: Ws) := by
 have hne := List.pairwise_cons.1 h.ne
 have hr0 := h.row _ (List.mem_cons_self ..)
 have hl2 : (intCells l).length = n := by simp [intCells, hl]
 refine ⟨fun r hr => h.row r (List.mem_cons_of_mem _ hr), fun r hr => h.lo r (List.mem_cons_of_mem _ hr), hne.2, fun x hx W hW => ?_, h.ch⟩
 rcases List.mem_cons.1 hx with rfl | hx
 ·have hr1 : Mem.row w T 1 (.slice a n c) n (intCells l) := by
   have := hr0
   simp only [hl2] at this
   exact this
  refine Sl.row9 (hr1.ch hW (fun k hk hin => ?_)) hn
  obtain ⟨r, hr, e⟩ := owns_mem.1 hin
  exact hne.1 r hr k hk e
 ·refine h.fin x hx W (hW.mono (fun k hk => .inl ?_))
  obtain ⟨r, hr, e⟩ := owns_mem.1 hk
  exact owns_mem.2 ⟨r, List.mem_cons_of_mem _ hr, e⟩
end
def sb6 : Gra := ⟨4000, [⟨1, 0, 0, 0⟩, ⟨2, 0, 0, 0⟩, ⟨2, 0, 0, 0⟩, ⟨2, 0, 0, 0⟩, ⟨2, 0, 0, 0⟩, ⟨2, 0, 0, 0⟩, ⟨2, 0, 0, 0⟩]⟩
def sb7 : Gra := ⟨4000, [⟨1, 0, 0, 0⟩, ⟨2, 0, 0, 0⟩, ⟨2, 0, 0, 0⟩, ⟨2, 0, 0, 0⟩, ⟨2, 0, 0, 0⟩, ⟨2, 0, 0, 0⟩, ⟨2, 0, 0, 0⟩, ⟨3, 11, 13, 1⟩, ⟨3, 10, 13, 1⟩, ⟨3, 11, 12, 1⟩]⟩
section
theorem Pair1_is (w : World) : Calls Tryz.prog 64 #[.int .u8 1] w fun e w' => ∃ g F xa xc ya yc, e = .returned (.tuple #[.pointer (some ⟨g, 0, none⟩), .slice xa 2 xc, .slice ya 2 yc]) ∧ Hold w w' g (gIn 4000 4) F [(.slice ya 2 yc, natInts [6, 8]), (.slice xa 2 xc, natInts [2, 4])] := Pair_is w 1 (by decide)
theorem mFit31_is [Nonempty Unit] (w : World) : Calls Tryz.prog 68 #[.int .i64 3, .int .i64 1] w fun e w' => e = .returned (.tuple #[.int .i64 2, .int .i64 0]) ∧ w = w' := by
 have h := mFit_is (w := w) 3 1
 rw [show fitG 3 1 = (2, 0) by decide] at h
 exact h
theorem awake26_is [Nonempty Unit] (w : World) : Calls Tryz.prog 15 #[] w fun e w' => e = .returned (.bool true) ∧ Ch [] w w' := by
 have hN := Pair1_is w
 have HN := Hi9 hN; clear hN
 go_enter Tryz.func15, Tryz.ntmps15
 go_wp2_with fail
 refine HN.out.mono ?_
 rintro e w1 ⟨g, F1, a1, c1, a2, c2, rfl, ho⟩
 have HO := Hi9 ho; clear ho HN
 go_wp2_with fail
 refine (sInput_h HO.out 2 (G' := sb6) (l := [10, 12]) (e := 0) (k := 2) (by kernel_rfl) rfl (by decide) (by decide)).mono ?_
 rintro e w2 ⟨a3, c3, F2, rfl, ho⟩
 clear HO; have HO := Hi9 ho; clear ho
 go_wp2_with fail
 refine (mChoose_h HO.out 1 (by decide) (xa := a1) (xc := c1) (n := 2) (xl := natInts [2, 4]) (by simp) rfl (ya := a2) (yc := c2) (m := 2) (yl := natInts [6, 8]) (by simp) rfl (G' := sb6) (l := [2, 4]) (e := 0) (k := 2) (by kernel_rfl) rfl (by decide) (by decide)).mono ?_
 rintro e w3 ⟨a4, c4, F3, rfl, ho⟩
 clear HO; have HO := Hi9 ho; clear ho
 go_wp2_with fail
 refine (mChoose_h HO.out 0 (by decide) (xa := a1) (xc := c1) (n := 2) (xl := natInts [2, 4]) (by simp) rfl (ya := a2) (yc := c2) (m := 2) (yl := natInts [6, 8]) (by simp) rfl (G' := sb6) (l := [6, 8]) (e := 0) (k := 2) (by kernel_rfl) rfl (by decide) (by decide)).mono ?_
 rintro e w4 ⟨a5, c5, F4, rfl, ho⟩
 clear HO; have HO := Hi9 ho; clear ho
 go_wp2_with fail
 refine (sConst_h HO.out 1 (by decide) 2 rfl).mono ?_
 rintro e w5 ⟨a6, c6, rfl, ho⟩
 clear HO; have HO := Hi9 ho; clear ho
 go_wp2_with fail
 refine (sConst_h HO.out 3 (by decide) 2 rfl).mono ?_
 rintro e w6 ⟨a7, c7, rfl, ho⟩
 clear HO; have HO := Hi9 ho; clear ho
 go_wp2_with fail
 refine calls_named fun WA hWA => ?_
 have hlb := alw_blk (xs := [.slice a1 2 c1, .slice a2 2 c2, .slice a3 2 c3]) hWA
 have ho := HO.out.keepN (alw_ch hWA) hlb
 clear hWA hlb HO
 generalize w6.heap.size = lb at *
 have HO := Hi9 ho; clear ho
 refine (mRead_h HO.out (lc := 3) (HO.out.wa (b := lb) (Ls := [⟨a1, natInts [2, 4], c1⟩, ⟨a2, natInts [6, 8], c2⟩, ⟨a3, natInts [10, 12], c3⟩]) (by exact List.mem_cons_self ..) (by intro x hx; simp only [List.mem_cons, List.not_mem_nil, or_false] at hx; rcases hx with rfl | rfl | rfl <;> simp [WV.val]) (n := 3) rfl) (ya := a6) (yc := c6) (m := 2) (yl := natInts (constL 1 2)) (by simp) rfl (G' := sb6) (l := [6, 8]) (e := 0) (k := 2) (by kernel_rfl) rfl (by decide) (by decide)).mono ?_
 rintro e w7 ⟨a8, c8, F5, rfl, ho⟩
 clear HO; have HO := Hi9 ho; clear ho
 go_wp2_with fail
 refine (mRead_h HO.out (lc := 3) (HO.out.wa (b := lb) (Ls := [⟨a1, natInts [2, 4], c1⟩, ⟨a2, natInts [6, 8], c2⟩, ⟨a3, natInts [10, 12], c3⟩]) (by exact List.mem_cons_self ..) (by intro x hx; simp only [List.mem_cons, List.not_mem_nil, or_false] at hx; rcases hx with rfl | rfl | rfl <;> simp [WV.val]) (n := 3) rfl) (ya := a7) (yc := c7) (m := 2) (yl := natInts (constL 3 2)) (by simp) rfl (G' := sb6) (l := [0, 0]) (e := 0) (k := 2) (by kernel_rfl) rfl (by decide) (by decide)).mono ?_
 rintro e w8 ⟨a9, c9, F6, rfl, ho⟩
 clear HO; have HO := Hi9 ho; clear ho
 go_wp2_with fail
 refine (mFit31_is _).mono ?_
 rintro e w' ⟨rfl, rfl⟩
 go_wp2_with fail
 refine (Eqref_h HO.out (xa := a4) (xc := c4) (n := 2) (xl := natInts [2, 4]) (by simp) rfl (ya := a1) (yc := c1) (m := 2) (yl := natInts [2, 4]) (by simp) rfl (q := true) (by decide)).mono ?_
 rintro e w9 ⟨rfl, ho⟩
 clear HO; have HO := Hi9 ho; clear ho
 go_wp2_with fail
 refine (Eqref_h HO.out (xa := a5) (xc := c5) (n := 2) (xl := natInts [6, 8]) (by simp) rfl (ya := a2) (yc := c2) (m := 2) (yl := natInts [6, 8]) (by simp) rfl (q := true) (by decide)).mono ?_
 rintro e w10 ⟨rfl, ho⟩
 clear HO; have HO := Hi9 ho; clear ho
 go_wp2_with fail
 refine (Eqref_h HO.out (xa := a8) (xc := c8) (n := 2) (xl := natInts [6, 8]) (by simp) rfl (ya := a2) (yc := c2) (m := 2) (yl := natInts [6, 8]) (by simp) rfl (q := true) (by decide)).mono ?_
 rintro e w11 ⟨rfl, ho⟩
 clear HO; have HO := Hi9 ho; clear ho
 go_wp2_with fail
 have ho := HO.out.same ((Ch.refl [] w11).alloc (.cells #[.int .i64 0, .int .i64 0] 52))
 clear HO; have HO := Hi9 ho; clear ho
 refine (Eqref_c HO.out (xa := a9) (xc := c9) (n := 2) (xl := natInts [0, 0]) (by simp) rfl (b := w11.heap.size) (m := 2) (ys := [0, 0]) (blk.new' _ _ rfl) rfl (by decide) (q := true) (by decide)).mono ?_
 rintro e w12 ⟨rfl, ho⟩
 clear HO; have HO := Hi9 ho; clear ho
 go_wp2_with fail
 refine (mWrite_h HO.out (lc := 3) (HO.out.wa (b := lb) (Ls := [⟨a1, natInts [2, 4], c1⟩, ⟨a2, natInts [6, 8], c2⟩, ⟨a3, natInts [10, 12], c3⟩]) (by exact List.mem_cons_self ..) (by intro x hx; simp only [List.mem_cons, List.not_mem_nil, or_false] at hx; rcases hx with rfl | rfl | rfl <;> simp [WV.val]) (n := 3) rfl) 0 (by decide) (ya := a3) (yc := c3) (m := 2) (yl := natInts [10, 12]) (by simp) rfl (xa := a1) (xc := c1) (n := 2) (xl := natInts [2, 4]) (by simp) rfl (G' := sb7) (ls := [[2, 4], [6, 8], [10, 12]]) (e := 0) (k := 3) (by kernel_rfl) rfl (by decide) (by decide)).mono ?_
 rintro e w13 ⟨b10, c10, F7, cs, ws, rfl, ho, hcs, hws⟩
 clear HO; have HO := Hi9 ho; clear ho
 have HCS := Hi9 hcs; clear hcs
 have HWS := Hi9 hws; clear hws
 go_wp2_with fail
 refine calls_named fun WB hWB => ?_
 have hlb := alw_blk (xs := [.slice a3 2 c3]) hWB
 have ho := HO.out.keepN (alw_ch hWB) hlb
 clear hWB hlb HO
 generalize w13.heap.size = lc at *
 have HO := Hi9 ho; clear ho
 refine (mPick_h HO.out (lc := 1) (HO.out.wa (b := lc) (Ls := [⟨a3, natInts [10, 12], c3⟩]) (by exact List.mem_cons_self ..) (by intro x hx; simp only [List.mem_cons, List.not_mem_nil, or_false] at hx; rcases hx with rfl <;> simp [WV.val]) (n := 1) rfl) (y := ⟨none, [], 0⟩) ⟨⟨⟨by simp, by simp⟩, by simp, by simp⟩, by simp [ablk]⟩ (by simp) (G' := sb7) (l := [10, 12]) (e := 0) (k := 2) (by kernel_rfl) rfl (by decide) (by decide)).mono ?_
 rintro e w14 ⟨a11, c11, F8, rfl, ho⟩
 clear HO; have HO := Hi9 ho; clear ho
 go_wp2_with fail
 refine (mEqual_h HO.out (HO.out.wa (b := lb) (Ls := [⟨a1, natInts [2, 4], c1⟩, ⟨a2, natInts [6, 8], c2⟩, ⟨a3, natInts [10, 12], c3⟩]) (by exact List.mem_cons_of_mem _ (List.mem_cons_of_mem _ (List.mem_cons_self ..))) (by intro x hx; simp only [List.mem_cons, List.not_mem_nil, or_false] at hx; rcases hx with rfl | rfl | rfl <;> simp [WV.val]) (n := 3) rfl) (HO.out.wa (b := lb) (Ls := [⟨a1, natInts [2, 4], c1⟩, ⟨a2, natInts [6, 8], c2⟩, ⟨a3, natInts [10, 12], c3⟩]) (by exact List.mem_cons_of_mem _ (List.mem_cons_of_mem _ (List.mem_cons_self ..))) (by intro x hx; simp only [List.mem_cons, List.not_mem_nil, or_false] at hx; rcases hx with rfl | rfl | rfl <;> simp [WV.val]) (n := 3) rfl) (by decide) (G' := sb7) (r := 1) (e := 0) (by kernel_rfl)).mono ?_
 rintro e w15 ⟨F9, rfl, ho⟩
 clear HO; have HO := Hi9 ho; clear ho
 go_wp2_with fail
 have hA := HO.out.ar (b := b10) (cs := cs) (ws := ws) (by exact List.mem_cons_of_mem _ (List.mem_cons_self ..)) HCS.out (fun x hx => by simp only [List.mem_cons, List.mem_append]; exact .inr (.inl (List.mem_map.2 ⟨x, hx, rfl⟩)))
 have hcl : ∀ (i : Nat) (x : WV), ([⟨a1, natInts [2, 4], c1⟩, ⟨a2, natInts [6, 8], c2⟩, ⟨a3, natInts [10, 12], c3⟩] : List WV)[i]? = some x → ([.slice a1 2 c1, .slice a2 2 c2, .slice a3 2 c3] : List Value)[i]? = some x.val := fun i x hx => by
  rcases i with _ | _ | _ | i
  ·cases hx; rfl
  ·cases hx; rfl
  ·cases hx; rfl
  ·simp at hx
 have hB := HO.out.ar (b := lb) (ws := [⟨a1, natInts [2, 4], c1⟩, ⟨a2, natInts [6, 8], c2⟩, ⟨a3, natInts [10, 12], c3⟩]) (cs := [.slice a1 2 c1, .slice a2 2 c2, .slice a3 2 c3]) (by exact List.mem_cons_of_mem _ (List.mem_cons_of_mem _ (List.mem_cons_self ..))) hcl (by intro x hx; simp only [List.mem_cons, List.not_mem_nil, or_false] at hx; rcases hx with rfl | rfl | rfl <;> simp [WV.val])
 clear hcl
 have hwl : ws.length = 3 := by have := congrArg List.length HWS.out; simpa using this
 refine (EFlst_yes (As := ws) 3 c10 3 (by decide) hA hB hwl rfl (fun i x y hx hy => ?_)).mono ?_
 ·have h1 : (ws.map WV.l)[i]? = some x.l := by rw [List.getElem?_map, hx]; rfl
  rw [HWS.out] at h1
  rcases i with _ | _ | _ | i
  ·cases hy; exact (Option.some.inj h1).symm
  ·cases hy; exact (Option.some.inj h1).symm
  ·cases hy; exact (Option.some.inj h1).symm
  ·simp at hy
 rintro e wz ⟨rfl, hcz⟩
 have ho := HO.out.same hcz
 clear HO hcz hA hB hwl; have HO := Hi9 ho; clear ho
 go_wp2_with fail
 refine (Eqref_h HO.out (xa := a11) (xc := c11) (n := 2) (xl := natInts [10, 12]) (by simp) rfl (ya := a3) (yc := c3) (m := 2) (yl := natInts [10, 12]) (by simp) rfl (q := true) (by decide)).mono ?_
 rintro e w16 ⟨rfl, ho⟩
 clear HO; have HO := Hi9 ho; clear ho
 go_wp2_with fail
 go_ret
 exact ⟨rfl, HO.out.own.ch⟩
end
abbrev B24 (l : List Int) : Prop := ∀ r ∈ l, 0 ≤ r ∧ r ≤ 24
def Done26 (Ws : List WV) : Prop := ∀ x ∈ Ws, x.l.length ≤ 3 ∧ B24 x.l
theorem B24.app {l : List Int} (h : B24 l) {z : Int} (hz : 0 ≤ z ∧ z ≤ 24) : B24 (l ++ [z]) := fun r hr => by
 rcases List.mem_append.1 hr with hr | hr
 ·exact h r hr
 ·rw [List.mem_singleton.1 hr]; exact hz
theorem Done26.cons {Ws : List WV} (h : Done26 Ws) {x : WV} (h1 : x.l.length ≤ 3) (h2 : B24 x.l) : Done26 (x :: Ws) := fun y hy => by
 rcases List.mem_cons.1 hy with rfl | hy
 ·exact ⟨h1, h2⟩
 ·exact h y hy
theorem ints_snoc (l : List Int) (z : Int) : intCells l ++ [.int .i64 z] = intCells (l ++ [z]) := by simp [intCells]
theorem Growing.ir {w0 w : World} {R : List RowT} {Ws Ls : List WV} {T : TypeId} {a : Option Addr} {n c : Nat} (h : Growing w0 w R Ws) (hr : (T, .slice a n c, Ls.map WV.val) ∈ R) (hL : ∀ x ∈ Ls, x ∈ Ws) : IR w a Ls := fun i x hx => by
 have hrow := h.row _ hr
 dsimp only at hrow
 rcases hrow.2 with ⟨e, h0⟩ | ⟨g, cap, cur, e, _⟩
 ·cases e
  have hl : Ls.length = 0 := by simpa using h0
  have := (List.getElem?_eq_some_iff.1 hx).1
  omega
 ·cases e
  have := hrow.cells (g := g) rfl i x.val (by rw [List.getElem?_map, hx]; rfl)
  rw [Addr.add_lit] at this
  exact ⟨g, 0, rfl, this, h.fin x (hL x (List.mem_of_getElem? hx)) w (Ch.refl _ _)⟩
theorem Sl.take26 {w : World} {a : Option Addr} {l : List Int} (h : Sl w a l) (n : Nat) : Sl w a (l.take n) :=
 ⟨fun i x hx => by
  rw [List.getElem?_take] at hx
  split at hx
  ·exact h.cells i x hx
  ·exact absurd hx (by simp), by have := h.bd; rw [List.length_take]; omega⟩
theorem Sl.tail9 {w : World} {b o : Nat} {l : List Int} (h : Sl w (some ⟨b, o, none⟩) l) : Sl w (some ⟨b, o + 1, none⟩) l.tail :=
 ⟨fun i x hx => by
  rw [List.getElem?_tail] at hx
  obtain ⟨b', o', e, hc⟩ := h.cells (i + 1) x hx
  cases e
  exact ⟨b, o + 1, rfl, by rw [show o + 1 + i = o + (i + 1) by omega]; exact hc⟩, by have := h.bd; rw [List.length_tail]; omega⟩
theorem row_len {w : World} {T : TypeId} {v : Value} {xs : List Value} {n : Nat} (h : Mem.row w T 1 v xs.length xs) (hn : xs.length = n) : ∃ a c, v = .slice a n c := by
 subst hn
 exact row.shape h
theorem row_at {w : World} {T : TypeId} {a : Option Addr} {n c : Nat} {xs : List Value} (h : Mem.row w T 1 (.slice a n c) xs.length xs) (hn : 0 < xs.length) : ∃ b, a = some ⟨b, 0, none⟩ ∧ xs.length ≤ c ∧ c ≤ 9223372036854775807 ∧ ∀ (j : Nat) u, xs[j]? = some u → w.cell? ⟨b, j, none⟩ = some u := by
 rcases h.2 with ⟨e, h0⟩ | ⟨g, cap, cur, e, _, _, h1, h2, _⟩
 ·omega
 ·cases e
  refine ⟨g, rfl, h1, by simp only [maxLen] at h2; omega, fun j u hu => ?_⟩
  have := h.cells (g := g) rfl j u hu
  rw [Addr.add_lit] at this
  simpa using this
def ends15 : List Int := [-9223372036854775808, -1, 0, 1, 2, 3, 4, 5, 15, 16, 17, 255, 256, 257, 9223372036854775807]
def ends11 : List Int := [-9223372036854775808, -1, 0, 1, 2, 7, 8, 9, 16, 17, 9223372036854775807]
def widths26 : List Int := [2, 5, 9]
theorem widths26_bd : ∀ z ∈ widths26, 0 ≤ z ∧ z ≤ 24 := by decide
theorem act26_ok {W : World} {la ma ga : Option Addr} {lc mc gc : Nat} {Ls Ms : List WV} {gl : List Int} (h1 : IR W la Ls) (h2 : IR W ma Ms) (h3 : Sl W ga gl.tail) (hL : ∀ x ∈ Ls, x.l.length ≤ 3 ∧ B24 x.l) (hM : ∀ x ∈ Ms, x.l.length ≤ 3 ∧ B24 x.l) (hg : B24 gl) (n1 : Ls.length ≤ 5) (n2 : Ms.length ≤ 5) (n3 : gl.length ≤ 5) {x y : WV} (hx : Sl W x.a x.l) (hxd : x.l.length ≤ 3 ∧ B24 x.l) (hy : Sl W y.a y.l) (hyd : y.l.length ≤ 3 ∧ B24 y.l) {kind N : Nat} {C : Int} (hk : kind ≤ 255) (hN : N < 4294967296) (hC : -1000 ≤ C ∧ C ≤ 1000) :
  MxR W ⟨kind, C, x, y, N, ⟨ga, gl.tail, gc⟩, la, lc, Ls, ma, mc, Ms⟩ ∧ Lt26 ⟨kind, C, x, y, N, ⟨ga, gl.tail, gc⟩, la, lc, Ls, ma, mc, Ms⟩ := by
 have wide : ∀ {l : List Int}, B24 l → ∀ r ∈ l, -9223372036854775808 ≤ r ∧ r ≤ 9223372036854775807 := fun h r hr => by have := h r hr; omega
 refine ⟨⟨hk, hN, ⟨by show -9223372036854775808 ≤ C; omega, by show C ≤ 9223372036854775807; omega⟩, hx, hy, h3, h1, h2, wide hxd.2, wide hyd.2, wide (fun r hr => hg r (List.mem_of_mem_tail hr)), fun z hz => wide (hL z hz).2, fun z hz => wide (hM z hz).2, by show Ls.length ≤ _; omega, by show Ms.length ≤ _; omega⟩, ⟨by show x.l.length ≤ 20; omega, by show y.l.length ≤ 20; omega, by show gl.tail.length ≤ 260; rw [List.length_tail]; omega, by show Ls.length ≤ 260; omega, by show Ms.length ≤ 260; omega, fun z hz => by have := (hL z hz).1; omega, fun z hz => by have := (hM z hz).1; omega⟩⟩
def rooms26 : List Int := [300, 24, 28, 35, 60]
section
variable {w : World}
theorem MuxesSmall_walk (w : World) : Calls Tryz.prog 4 #[] w fun e w' => e = .returned (.bool true) ∧ Ch [] w w' := by
 have HAW := Hi9 fun (W : World) => awake26_is W
 go_enter Tryz.func4, Tryz.ntmps4
 go_wp2_with fail
 go_loopw [17] (fun i wr => ∃ kd : Nat, kd ≤ 6 ∧ i = .int .u8 kd ∧ Ch [] w wr) (fun i _ => 6 - (intOf i).toNat)
 case atStart => exact ⟨0, by omega, rfl, Ch.refl _ _⟩
 case round =>
  obtain ⟨kd, hkd, rfl, hc⟩ := hrel
  by_cases hk6 : kd < 6
  ·have HC := Hi9 hc; clear hc
   have dk6 : decide ((kd : Int) < 6) = true := decide_eq_true (by omega)
   go_wp2_with fail
   go_loopw [20] (fun i wr => ∃ n : Nat, n ≤ 225 ∧ i = .int .i64 n ∧ Ch [] w wr) (fun i _ => 225 - (intOf i).toNat)
   case atStart => exact ⟨0, by omega, rfl, HC.out⟩
   case round =>
    obtain ⟨n, hn, rfl, hc⟩ := hrel
    clear HC
    by_cases hn225 : n < 225
    ·have HC := Hi9 hc; clear hc
     have dn : decide ((n : Int) < 225) = true := decide_eq_true (by omega)
     obtain ⟨V, hV, hV1, hV3⟩ : ∃ V : Nat, 1 + (n : Int) / 75 = V ∧ 1 ≤ V ∧ V ≤ 3 := ⟨1 + n / 75, by omega, by omega, by omega⟩
     obtain ⟨N, hN, hN1, hN5⟩ : ∃ N : Nat, 1 + (n : Int) % 5 = N ∧ 1 ≤ N ∧ N ≤ 5 := ⟨1 + n % 5, by omega, by omega, by omega⟩
     obtain ⟨w1, hw1⟩ : ∃ w1, wr = w1 := ⟨_, rfl⟩
     rw [hw1] at HC ⊢
     clear hw1
     go_wp2_with fail
     try rw [hV]
     try rw [hN]
     go_loopw [3, 4, 5, 29] (fun lv mv gv i wr => ∃ (k : Nat) (Ls Ms : List WV) (gl : List Int) (Ws : List WV), k ≤ N ∧ i = .int .i64 k ∧ Ls.length = k ∧ Ms.length = k ∧ gl.length = k ∧ (∀ x ∈ Ls, x ∈ Ws) ∧ (∀ x ∈ Ms, x ∈ Ws) ∧ Done26 Ws ∧ B24 gl ∧ Growing w1 wr [(26, lv, Ls.map WV.val), (26, mv, Ms.map WV.val), (3, gv, intCells gl)] Ws) (fun _ _ _ i _ => N - (intOf i).toNat)
     case atStart => exact ⟨0, [], [], [], [], by omega, rfl, rfl, rfl, rfl, by simp, by simp, fun x hx => by simp at hx, fun r hr => by simp at hr, (((Growing.start _).push _).push _).push _⟩
     case round =>
      obtain ⟨k, Ls, Ms, gl, Ws, hk, rfl, hLn, hMn, hgn, hLW, hMW, hWs, hgb, hR⟩ := hrel
      have HLW := Hi9 hLW; clear hLW
      have HMW := Hi9 hMW; clear hMW
      have HWS := Hi9 hWs; clear hWs
      have HGB := Hi9 hgb; clear hgb
      have HLN := Hi9 hLn; clear hLn
      have HMN := Hi9 hMn; clear hMn
      have HGN := Hi9 hgn; clear hgn
      obtain ⟨la, lc, rfl⟩ := row_len (n := k) (hR.row _ (List.mem_cons_self ..)) (by rw [List.length_map]; exact HLN.out)
      obtain ⟨ma, mc, rfl⟩ := row_len (n := k) (hR.row _ (List.mem_cons_of_mem _ (List.mem_cons_self ..))) (by rw [List.length_map]; exact HMN.out)
      obtain ⟨ga, gc, rfl⟩ := row_len (n := k) (hR.row _ (List.mem_cons_of_mem _ (List.mem_cons_of_mem _ (List.mem_cons_self ..)))) (by simp [intCells]; exact HGN.out)
      by_cases hkN : k < N
      ·have dkN : decide ((k : Int) < N) = true := decide_eq_true (by omega)
       have HR := Hi9 hR; clear hR
       go_wp2_with fail
       go_loopw [8, 9, 33] (fun xv yv i wr => ∃ (j : Nat) (xl yl : List Int), j ≤ V ∧ i = .int .i64 j ∧ xl.length = j ∧ yl.length = j ∧ B24 xl ∧ B24 yl ∧ Growing w1 wr [(3, xv, intCells xl), (3, yv, intCells yl), (26, .slice la k lc, Ls.map WV.val), (26, .slice ma k mc, Ms.map WV.val), (3, .slice ga k gc, intCells gl)] Ws) (fun _ _ i _ => V - (intOf i).toNat)
       case atStart => exact ⟨0, [], [], by omega, rfl, rfl, rfl, fun r hr => by simp at hr, fun r hr => by simp at hr, (HR.out.push _).push _⟩
       case round =>
        clear HR
        obtain ⟨j, xl, yl, hj, rfl, hxn, hyn, hxb, hyb, hR⟩ := hrel
        have HXB := Hi9 hxb; clear hxb
        have HYB := Hi9 hyb; clear hyb
        have HXN := Hi9 hxn; clear hxn
        have HYN := Hi9 hyn; clear hyn
        obtain ⟨xa, xc, rfl⟩ := row_len (n := j) (hR.row _ (List.mem_cons_self ..)) (by simp [intCells]; exact HXN.out)
        obtain ⟨ya, yc, rfl⟩ := row_len (n := j) (hR.row _ (List.mem_cons_of_mem _ (List.mem_cons_self ..))) (by simp [intCells]; exact HYN.out)
        by_cases hjV : j < V
        ·have djV : decide ((j : Int) < V) = true := decide_eq_true (by omega)
         obtain ⟨z1, hz1, hz1b⟩ : ∃ z : Int, (2 * (k : Int) + 4 * j + n) % 24 = z ∧ 0 ≤ z ∧ z ≤ 24 := ⟨_, rfl, by omega, by omega⟩
         obtain ⟨z2, hz2, hz2b⟩ : ∃ z : Int, (2 * (k : Int) + 6 * j + (n : Int) / 3) % 24 = z ∧ 0 ≤ z ∧ z ≤ 24 := ⟨_, rfl, by omega, by omega⟩
         have hrA := (hR.row _ (List.mem_cons_self ..)).ch ((Ch.refl [] wr).alloc (.cells #[.int .i64 z1] 3)) (by simp)
         simp only [ints_len9, HXN.out] at hrA
         have hbA : blk (wr.alloc (.cells #[.int .i64 z1] 3)) wr.heap.size [.int .i64 z1] := blk.new' _ _ rfl
         have HRA := Hi9 hrA; clear hrA
         have HBA := Hi9 hbA; clear hbA
         have HR := Hi9 hR; clear hR
         have HZ1 := Hi9 hz1b; clear hz1b
         have HZ2 := Hi9 hz2b; clear hz2b
         go_wp2_with (first | (at_builtin; rw [hz1]; go_loud (refine wpList_append_row slInts rfl _ _ rfl (v := .slice xa j xc) (n := j) (xs := intCells xl) rfl HRA.out (ad := ⟨wr.heap.size, 0, none⟩) (m := 1) (c := 1) (news := [.int .i64 z1]) rfl rfl (news_blk26 HBA.out) (by simp [Value.oneCell']) (by omega) (by omega) ?_; intro v1 w4 hr4 hc4 hf4; obtain ⟨xa', xc', rfl⟩ := row.shape hr4; have hR4 := (HR.out.same ((Ch.refl [] wr).alloc (.cells #[.int .i64 z1] 3))).app hr4 (by simp [intCells, HXN.out]) hc4 hf4; rw [ints_snoc] at hR4; have hR5 := hR4.rot; have hrB := (hR5.row _ (List.mem_cons_self ..)).ch ((Ch.refl [] w4).alloc (.cells #[.int .i64 z2] 3)) (by simp); simp only [ints_len9, HYN.out] at hrB; have hbB : blk (w4.alloc (.cells #[.int .i64 z2] 3)) w4.heap.size [.int .i64 z2] := blk.new' _ _ rfl; have HRB := Hi9 hrB; clear hrB; have HBB := Hi9 hbB; clear hbB; have HR5 := Hi9 hR5; clear hR5 hR4 hr4 hc4 hf4 HRA HBA HR)) | (at_builtin; rw [hz2]; go_loud (refine wpList_append_row slInts rfl _ _ rfl (v := .slice ya j yc) (n := j) (xs := intCells yl) rfl HRB.out (ad := ⟨w4.heap.size, 0, none⟩) (m := 1) (c := 1) (news := [.int .i64 z2]) rfl rfl (news_blk26 HBB.out) (by simp [Value.oneCell']) (by omega) (by omega) ?_; intro v2 w6 hr6 hc6 hf6; obtain ⟨ya', yc', rfl⟩ := row.shape hr6; have hR6 := (HR5.out.same ((Ch.refl [] w4).alloc (.cells #[.int .i64 z2] 3))).app hr6 (by simp [intCells, HYN.out]) hc6 hf6; rw [ints_snoc] at hR6; have HR6 := Hi9 ((((hR6.rot).rot).rot).rot); clear hR6 hr6 hc6 hf6 HRB HBB HR5)))
         go_roundw
         case rel => exact ⟨j + 1, xl ++ [z1], yl ++ [z2], by omega, by go_num, by simp [HXN.out], by simp [HYN.out], HXB.out.app HZ1.out, HYB.out.app HZ2.out, HR6.out⟩
         case measure => simp [intOf]; omega
        ·have djV : decide ((j : Int) < V) = false := decide_eq_false (by omega)
         have hjV2 : j = V := by omega
         subst hjV2
         obtain ⟨z3, hz3, hz3b⟩ : ∃ z : Int, (3 * (k : Int) + n) % 24 = z ∧ 0 ≤ z ∧ z ≤ 24 := ⟨_, rfl, by omega, by omega⟩
         have HZ3 := Hi9 hz3b; clear hz3b
         have hR2 := ((hR.word (by rw [HXN.out]; omega) HXN.out).word (by rw [HYN.out]; omega) HYN.out)
         have hW2 := (HWS.out.cons (x := ⟨xa, xl, xc⟩) (by show xl.length ≤ 3; rw [HXN.out]; omega) HXB.out).cons (x := ⟨ya, yl, yc⟩) (by show yl.length ≤ 3; rw [HYN.out]; omega) HYB.out
         have HW2 := Hi9 hW2; clear hW2
         have hxv : Ls.map WV.val ++ [.slice xa j xc] = (Ls ++ [(⟨xa, xl, xc⟩ : WV)]).map WV.val := by simp [WV.val, HXN.out]
         have hyv : Ms.map WV.val ++ [.slice ya j yc] = (Ms ++ [(⟨ya, yl, yc⟩ : WV)]).map WV.val := by simp [WV.val, HYN.out]
         have HXV := Hi9 hxv; clear hxv
         have HYV := Hi9 hyv; clear hyv
         have hrA := (hR2.row _ (List.mem_cons_self ..)).ch ((Ch.refl [] wr).alloc (.cells #[.slice xa j xc] 26)) (by simp)
         simp only [List.length_map, HLN.out] at hrA
         have hbA : blk (wr.alloc (.cells #[.slice xa j xc] 26)) wr.heap.size [.slice xa j xc] := blk.new' _ _ rfl
         have HRA := Hi9 hrA; clear hrA
         have HBA := Hi9 hbA; clear hbA
         have HR := Hi9 hR2; clear hR2 hR
         go_wp2_with (first | (at_builtin; go_loud (refine wpList_append_row slIntss9 rfl _ _ rfl (v := .slice la k lc) (n := k) (xs := Ls.map WV.val) rfl HRA.out (ad := ⟨wr.heap.size, 0, none⟩) (m := 1) (c := 1) (news := [.slice xa j xc]) rfl rfl (news_blk26 HBA.out) (by simp [Value.oneCell']) (by omega) (by omega) ?_; intro v1 w4 hr4 hc4 hf4; obtain ⟨la', lc', rfl⟩ := row.shape hr4; have hR4 := (HR.out.same ((Ch.refl [] wr).alloc (.cells #[.slice xa j xc] 26))).app hr4 (by simp [HLN.out]) hc4 hf4; rw [HXV.out] at hR4; have hR5 := hR4.rot; have hrB := (hR5.row _ (List.mem_cons_self ..)).ch ((Ch.refl [] w4).alloc (.cells #[.slice ya j yc] 26)) (by simp); simp only [List.length_map, HMN.out] at hrB; have hbB : blk (w4.alloc (.cells #[.slice ya j yc] 26)) w4.heap.size [.slice ya j yc] := blk.new' _ _ rfl; have HRB := Hi9 hrB; clear hrB; have HBB := Hi9 hbB; clear hbB; have HR5 := Hi9 hR5; clear hR5 hR4 hr4 hc4 hf4 HRA HBA HR)) | (at_builtin; go_loud (refine wpList_append_row slIntss9 rfl _ _ rfl (v := .slice ma k mc) (n := k) (xs := Ms.map WV.val) rfl HRB.out (ad := ⟨w4.heap.size, 0, none⟩) (m := 1) (c := 1) (news := [.slice ya j yc]) rfl rfl (news_blk26 HBB.out) (by simp [Value.oneCell']) (by omega) (by omega) ?_; intro v2 w6 hr6 hc6 hf6; obtain ⟨ma', mc', rfl⟩ := row.shape hr6; have hR6 := (HR5.out.same ((Ch.refl [] w4).alloc (.cells #[.slice ya j yc] 26))).app hr6 (by simp [HMN.out]) hc6 hf6; rw [HYV.out] at hR6; have hR7 := hR6.rot; have hrC := (hR7.row _ (List.mem_cons_self ..)).ch ((Ch.refl [] w6).alloc (.cells #[.int .i64 z3] 3)) (by simp); simp only [ints_len9, HGN.out] at hrC; have hbC : blk (w6.alloc (.cells #[.int .i64 z3] 3)) w6.heap.size [.int .i64 z3] := blk.new' _ _ rfl; have HRC := Hi9 hrC; clear hrC; have HBC := Hi9 hbC; clear hbC; have HR7 := Hi9 hR7; clear hR7 hR6 hr6 hc6 hf6 HRB HBB HR5)) | (at_builtin; rw [hz3]; go_loud (refine wpList_append_row slInts rfl _ _ rfl (v := .slice ga k gc) (n := k) (xs := intCells gl) rfl HRC.out (ad := ⟨w6.heap.size, 0, none⟩) (m := 1) (c := 1) (news := [.int .i64 z3]) rfl rfl (news_blk26 HBC.out) (by simp [Value.oneCell']) (by omega) (by omega) ?_; intro v3 w8 hr8 hc8 hf8; obtain ⟨ga', gc', rfl⟩ := row.shape hr8; have hR8 := (HR7.out.same ((Ch.refl [] w6).alloc (.cells #[.int .i64 z3] 3))).app hr8 (by simp [intCells, HGN.out]) hc8 hf8; rw [ints_snoc] at hR8; have HR8 := Hi9 hR8.rot; clear hR8 hr8 hc8 hf8 HRC HBC HR7)))
         go_roundw
         case rel => exact ⟨k + 1, Ls ++ [(⟨xa, xl, xc⟩ : WV)], Ms ++ [(⟨ya, yl, yc⟩ : WV)], gl ++ [z3], (⟨ya, yl, yc⟩ : WV) :: (⟨xa, xl, xc⟩ : WV) :: Ws, by omega, by go_num, by simp [HLN.out], by simp [HMN.out], by simp [HGN.out], fun x hx => (List.mem_append.1 hx).elim (fun h => List.mem_cons_of_mem _ (List.mem_cons_of_mem _ (HLW.out x h))) (fun h => by rw [List.mem_singleton.1 h]; exact List.mem_cons_of_mem _ (List.mem_cons_self ..)), fun x hx => (List.mem_append.1 hx).elim (fun h => List.mem_cons_of_mem _ (List.mem_cons_of_mem _ (HMW.out x h))) (fun h => by rw [List.mem_singleton.1 h]; exact List.mem_cons_self ..), HW2.out, HGB.out.app HZ3.out, HR8.out⟩
         case measure => simp [intOf]; omega
      ·have dkN : decide ((k : Int) < N) = false := decide_eq_false (by omega)
       have hkN2 : k = N := by omega
       subst hkN2
       obtain ⟨lb, rfl, hl1, hl2, hl3⟩ := row_at (hR.row _ (List.mem_cons_self ..)) (by rw [List.length_map, HLN.out]; omega)
       obtain ⟨mb, rfl, hm1, hm2, hm3⟩ := row_at (hR.row _ (List.mem_cons_of_mem _ (List.mem_cons_self ..))) (by rw [List.length_map, HMN.out]; omega)
       obtain ⟨gb, rfl, hg1, hg2, hg3⟩ := row_at (hR.row _ (List.mem_cons_of_mem _ (List.mem_cons_of_mem _ (List.mem_cons_self ..)))) (by rw [ints_len9, HGN.out]; omega)
       rw [List.length_map, HLN.out] at hl1
       rw [List.length_map, HMN.out] at hm1
       rw [ints_len9, HGN.out] at hg1
       obtain ⟨p, hp⟩ : ∃ p, Ls[0]? = some p := ⟨_, List.getElem?_eq_getElem (by rw [HLN.out]; omega)⟩
       obtain ⟨q, hq⟩ : ∃ q, Ms[0]? = some q := ⟨_, List.getElem?_eq_getElem (by rw [HMN.out]; omega)⟩
       have l0 : wr.cell? ⟨lb, 0, none⟩ = some (.slice p.a p.l.length p.c) := hl3 0 _ (by rw [List.getElem?_map, hp]; rfl)
       have m0 : wr.cell? ⟨mb, 0, none⟩ = some (.slice q.a q.l.length q.c) := hm3 0 _ (by rw [List.getElem?_map, hq]; rfl)
       have hpW := HLW.out p (List.mem_of_getElem? hp)
       have hqW := HMW.out q (List.mem_of_getElem? hq)
       have hok : ∀ W, Ch [] wr W → Sl W p.a p.l ∧ Sl W q.a q.l ∧ IR W (some ⟨lb, 0, none⟩) Ls ∧ IR W (some ⟨mb, 0, none⟩) Ms := fun W hW => by
        have hRW := hR.same hW
        refine ⟨hRW.fin p hpW W (Ch.refl _ _), hRW.fin q hqW W (Ch.refl _ _), hRW.ir (List.mem_cons_self ..) HLW.out, hRW.ir (List.mem_cons_of_mem _ (List.mem_cons_self ..)) HMW.out⟩
       have hs5g : ∀ W, Ch [] wr W → Sl W (some ⟨gb, 1, none⟩) gl.tail := fun W hW => by
        have hRW := hR.same hW
        have hrg := hRW.row _ (List.mem_cons_of_mem _ (List.mem_cons_of_mem _ (List.mem_cons_self ..)))
        simp only [ints_len9, HGN.out] at hrg
        exact (Sl.row9 hrg (by rw [HGN.out]; omega)).tail9
       have hcR := hR.ch
       have HS5g := Hi9 hs5g; clear hs5g
       have HOK := Hi9 hok; clear hok hl3 hm3 hg3 hp hq
       have HCR := Hi9 (HC.out.trans hcR (by simp)); clear hcR hR
       obtain ⟨r, hr, hr1, hr3⟩ : ∃ r : Nat, 1 + (n : Int) / 5 % 3 = r ∧ 1 ≤ r ∧ r ≤ 3 := ⟨1 + n / 5 % 3, by omega, by omega, by omega⟩
       obtain ⟨c, hcC, hc0, hc24⟩ : ∃ c : Int, (n : Int) % 24 = c ∧ 0 ≤ c ∧ c ≤ 24 := ⟨_, rfl, by omega, by omega⟩
       go_upto_region 22 with fail
       refine wp_named fun W2 hW2 => ?_
       have hby : blk W2 wr.heap.size (intCells widths26) := by rw [hW2]; exact blk.new' _ _ rfl
       have hc2 : Ch [] wr W2 := by rw [hW2]; exact (Ch.refl _ _).alloc _
       clear hW2
       generalize wr.heap.size = y9 at hby ⊢
       have HBY := Hi9 hby; clear hby
       have HC2 := Hi9 hc2; clear hc2
       have hpd := HWS.out p hpW
       have hqd := HWS.out q hqW
       have HPD := Hi9 hpd; clear hpd hpW
       have HQD := Hi9 hqd; clear hqd hqW
       have hrl : (widths26.take r).length = r := by rw [List.length_take]; simp [widths26]; omega
       have HRL := Hi9 hrl; clear hrl
       obtain ⟨k2, hk2, hk2b⟩ : ∃ k2 : Nat, ((kd : Int) + 1) % 6 = k2 ∧ k2 ≤ 5 := ⟨(kd + 1) % 6, by omega, by omega⟩
       obtain ⟨qq, hqq, hqq5⟩ : ∃ qq : Nat, ((n : Int) + kd) % 5 = qq ∧ qq < 5 := ⟨(n + kd) % 5, by omega, by omega⟩
       obtain ⟨M, hM⟩ : ∃ M, rooms26[qq]? = some M := ⟨_, List.getElem?_eq_getElem (show qq < rooms26.length from hqq5)⟩
       have HMQ := Hi9 (show (intCells rooms26)[qq]? = some (.int .i64 M) by simp [intCells, hM])
       clear hM
       by_cases hgc : gc = 1
       ·have hk1 : k = 1 := by omega
        clear hN hN1 hN5 hkN dkN
        subst hgc
        subst hk1
        have hs5 : ∀ W, Ch [] wr W → Sl W (some ⟨gb, 0, none⟩) gl.tail := fun W hW => by
         have e : gl.tail = [] := List.length_eq_zero_iff.1 (by rw [List.length_tail, HGN.out])
         rw [e]
         exact ⟨fun i x hx => by simp at hx, by simp⟩
        have HS5 := Hi9 hs5; clear hs5
        refine Ord.St.door (fun w' => Ch [] wr w') [.fl, .fl, .fl, .fl, .fl, .ho, .fl, .fl, .fl, .fl, .fl, .fl, .fl, .fl, .ef, .ef] [0, 0, 2, 0, 8, 24, 0, 0, 128, 0, 512, 0, 0, 8191, 0, 32767] [0, 1, 2, 3, 4, 5, 6, 7, 8, 9, 10, 11, 12, 13, 14, 15] mixed (by kernel_rfl) rfl ?_
        obtain ⟨Wd, hWd⟩ : ∃ Wd, Wd = W2.drew := ⟨_, rfl⟩
        rw [← hWd]
        have hcur : Ch [] wr Wd := by rw [hWd]; exact HC2.out.drew
        have HBYd := Hi9 (show blk Wd y9 (intCells widths26) by rw [hWd]; exact HBY.out)
        clear hWd
        iterate 5 (refine Ord.F9 ?_ (fun K w' hk => ?_) ?_; rotate_left; focus (go_step; exact hk))
        refine Ord.H9 ?_ 5 [6, 7, 8, 9, 10, 11, 12, 13, 14, 15] ?_ (fun K w' hw' hk => ?_) ?_
        rotate_left
        ·first | exact hcur | exact hcur.alloc _ | exact HC2.out.drew
        ·have m0' := (hw'.cell (cell_lt m0) (by simp)).trans m0; go_step; exact hk
        iterate 8 (refine Ord.F9 ?_ (fun K w' hk => ?_) ?_; rotate_left; focus (go_step; exact hk))
        refine Ord.St.efC 14 [15] _ rfl (by kernel_rfl) (fun K hK => ?_)
        go_wp2_with fail
        refine ⟨rfl, hK _ _ ?_ ?_⟩
        ·first | exact hcur | exact hcur.alloc _ | exact HC2.out.drew
        clear hK K
        refine Ord.St.ef 15 [] _ rfl (by kernel_rfl) (fun K hK => ?_)
        go_wp2_with fail
        refine ⟨rfl, hK _ _ ?_⟩; clear hK K
        refine Ord.St.nil ?_
        go_upto_region 23 with fail
        refine wp_alw ?_
        intro W5 hW5
        have hba := alw_blk (xs := [.int .u8 kd, .int .i64 c, .slice q.a q.l.length q.c, .slice (some ⟨y9, 0, none⟩) r 3, .int .u32 n, .slice (some ⟨gb, 0, none⟩) 0 0, .slice (some ⟨lb, 0, none⟩) 1 lc, .slice (some ⟨mb, 0, none⟩) 1 mc]) hW5
        have hlo := hcur.size
        have hc5 := hcur.al9 hW5
        have HBY5 := Hi9 (HBYd.out.ch (alw_ch hW5) (by simp))
        clear hW5 hcur HBYd
        generalize Wd.heap.size = ba at *
        have l6 := (hc5.cell (cell_lt l0) (by simp)).trans l0
        have m6 := (hc5.cell (cell_lt m0) (by simp)).trans m0
        go_upto_if 98 with fail
        go_cut [12] (fun x wd => x = .pointer (some ⟨ba, 0, none⟩) ∧ ∃ Y : WV, Ch [] wr wd ∧ blk wd ba [.int .u8 kd, .int .i64 c, .slice q.a q.l.length q.c, .slice Y.a Y.l.length Y.c, .int .u32 n, .slice (some ⟨gb, 0, none⟩) 0 0, .slice (some ⟨lb, 0, none⟩) 1 lc, .slice (some ⟨mb, 0, none⟩) 1 mc] ∧ (∀ W, Ch [] wd W → Sl W Y.a Y.l) ∧ Y.l.length ≤ 3 ∧ B24 Y.l)
        case first =>
         by_cases hk0 : kd = 0
         ·have d0 : ((kd : Int) == 0) = true := by simp; omega
          clear hk0
          have f3 := hba.frozen (i := 3)
          have c3 := hba.cell (i := 3) rfl
          go_wp2_with fail
          go_meet
          case rel => exact ⟨rfl, p, hc5.setCell (.inr hlo) _, hba.set (i := 3) _, fun W hW => (HOK.out W ((hc5.setCell (.inr hlo) _).trans hW (by simp))).1, HPD.out.1, HPD.out.2⟩
         ·have d0 : ((kd : Int) == 0) = false := by simp; omega
          clear hk0
          go_wp2_with fail
          go_meet
          case rel => exact ⟨rfl, ⟨some ⟨y9, 0, none⟩, widths26.take r, 3⟩, hc5, by simpa [HRL.out] using hba, fun W hW => ((Sl.blk9 (HBY5.out.ch hW (by simp)) (by simp [widths26])).take26 r), by show (widths26.take r).length ≤ 3; rw [HRL.out]; omega, fun z hz => widths26_bd z (List.mem_of_mem_take hz)⟩
        case rest =>
         obtain ⟨rfl, Y, hc6, hba, hys, hyd⟩ := hcut
         clear l6 m6 hc5 HBY5
         have l6 := (hc6.cell (cell_lt l0) (by simp)).trans l0
         have m6 := (hc6.cell (cell_lt m0) (by simp)).trans m0
         have HBA := Hi9 hba; clear hba
         have HYS := Hi9 hys; clear hys
         have HYD := Hi9 hyd; clear hyd
         have HC6 := Hi9 hc6; clear hc6
         have hmk : ∀ W, Ch [] wc W → ∀ bs, blk W bs [.int .u8 kd, .int .i64 c, .slice q.a q.l.length q.c, .slice Y.a Y.l.length Y.c, .int .u32 n, .slice (some ⟨gb, 0, none⟩) 0 0, .slice (some ⟨lb, 0, none⟩) 1 lc, .slice (some ⟨mb, 0, none⟩) 1 mc, .int .u8 k2, .int .i64 3, .slice p.a p.l.length p.c, .slice q.a q.l.length q.c, .int .u32 0, .slice (some ⟨gb, 0, none⟩) 0 0, .slice (some ⟨mb, 0, none⟩) 1 mc, .slice (some ⟨lb, 0, none⟩) 1 lc] → Calls Tryz.prog 16 #[.agg #[.int .i64 M, .int .u8 8], .slice (some ⟨bs, 0, none⟩) 2 2] W fun e w' => e = .returned (.bool true) ∧ Ch [] W w' := fun W hW bs hbs => by
          have hcw := HC6.out.trans hW (by simp)
          obtain ⟨s1, s2, s3, s4⟩ := HOK.out W hcw
          have s5 := HS5.out W hcw
          have a1 := act26_ok s3 s4 s5 (fun x hx => HWS.out x (HLW.out x hx)) (fun x hx => HWS.out x (HMW.out x hx)) HGB.out (by rw [HLN.out]; omega) (by rw [HMN.out]; omega) (by rw [HGN.out]; omega) (lc := lc) (mc := mc) (gc := 0) (x := q) s2 HQD.out (y := Y) (HYS.out W hW) HYD.out (kind := kd) (N := n) (C := c) (by omega) (by omega) (by omega)
          have a2 := act26_ok s4 s3 s5 (fun x hx => HWS.out x (HMW.out x hx)) (fun x hx => HWS.out x (HLW.out x hx)) HGB.out (by rw [HMN.out]; omega) (by rw [HLN.out]; omega) (by rw [HGN.out]; omega) (lc := mc) (mc := lc) (gc := 0) (x := p) s1 HPD.out (y := q) s2 HQD.out (kind := k2) (N := 0) (C := 3) (by omega) (by omega) (by omega)
          refine makes26_is M 8 (by omega) (mxacts2 (by simpa [MxV.cells, WV.val, HLN.out, HMN.out, HGN.out, HRL.out] using hbs) a1.1 a2.1) (fun y hy => ?_)
          rcases List.mem_cons.1 hy with rfl | hy
          ·exact a1.2
          ·rw [List.mem_singleton.1 hy]; exact a2.2
         have HMK := Hi9 hmk; clear hmk
         go_upto_region 25 with fail
         refine Ord.St.door (fun w' => Ch [] wc w') [.ef, .fl, .fl, .fl, .fl, .fl, .fl, .ef, .fl, .ho, .fl, .fl, .fl, .fl, .fl, .ho, .fl, .fl, .ho, .fl, .fl, .fl, .fl, .fl, .ef, .ef, .fl] [0, 0, 0, 4, 14, 30, 63, 127, 255, 0, 0, 1024, 3072, 0, 8192, 24576, 0, 65536, 196608, 0, 524288, 0, 0, 8387584, 16776704, 33554431, 67108863] [0, 1, 2, 3, 4, 5, 6, 7, 8, 9, 10, 11, 12, 13, 14, 15, 16, 17, 18, 19, 20, 21, 22, 23, 24, 25, 26] mixed (by kernel_rfl) rfl ?_
         obtain ⟨Wd, hWd⟩ : ∃ Wd, Wd = wc.drew := ⟨_, rfl⟩
         rw [← hWd]
         have hcur : Ch [] wc Wd := by rw [hWd]; exact (Ch.refl _ _).drew
         clear hWd
         refine Ord.G9 ?_ 1 [0, 2, 3, 4, 5, 6, 7, 8, 9, 10, 11, 12, 13, 14, 15, 16, 17, 18, 19, 20, 21, 22, 23, 24, 25, 26] (fun K w' hk => ?_) ?_
         rotate_left
         ·go_step; exact hk
         refine Ord.G9 ?_ 2 [0, 3, 4, 5, 6, 7, 8, 9, 10, 11, 12, 13, 14, 15, 16, 17, 18, 19, 20, 21, 22, 23, 24, 25, 26] (fun K w' hk => ?_) ?_
         rotate_left
         ·go_step; exact hk
         refine Ord.G9 ?_ 3 [0, 4, 5, 6, 7, 8, 9, 10, 11, 12, 13, 14, 15, 16, 17, 18, 19, 20, 21, 22, 23, 24, 25, 26] (fun K w' hk => ?_) ?_
         rotate_left
         ·go_step; exact hk
         refine Ord.G9 ?_ 4 [0, 5, 6, 7, 8, 9, 10, 11, 12, 13, 14, 15, 16, 17, 18, 19, 20, 21, 22, 23, 24, 25, 26] (fun K w' hk => ?_) ?_
         rotate_left
         ·go_step; exact hk
         refine Ord.G9 ?_ 5 [0, 6, 7, 8, 9, 10, 11, 12, 13, 14, 15, 16, 17, 18, 19, 20, 21, 22, 23, 24, 25, 26] (fun K w' hk => ?_) ?_
         rotate_left
         ·go_step; exact hk
         refine Ord.H9 ?_ 9 [0, 6, 7, 8, 10, 11, 12, 13, 14, 15, 16, 17, 18, 19, 20, 21, 22, 23, 24, 25, 26] ?_ (fun K w' hw' hk => ?_) ?_
         rotate_left
         ·first | exact hcur | exact hcur.alloc _ | exact (Ch.refl _ _).drew
         ·have hb' := HBA.out.ch hw' (by simp); have q0 := hb'.cell (i := 0) rfl; have q1 := hb'.cell (i := 1) rfl; have q2 := hb'.cell (i := 2) rfl; have q3 := hb'.cell (i := 3) rfl; have q4 := hb'.cell (i := 4) rfl; have q5 := hb'.cell (i := 5) rfl; have q6 := hb'.cell (i := 6) rfl; have q7 := hb'.cell (i := 7) rfl; have l0' := (hw'.cell (cell_lt l6) (by simp)).trans l6; have m0' := (hw'.cell (cell_lt m6) (by simp)).trans m6; go_step; exact hk
         refine Ord.G9 ?_ 10 [0, 6, 7, 8, 11, 12, 13, 14, 15, 16, 17, 18, 19, 20, 21, 22, 23, 24, 25, 26] (fun K w' hk => ?_) ?_
         rotate_left
         ·go_step; exact hk
         refine Ord.G9 ?_ 11 [0, 6, 7, 8, 12, 13, 14, 15, 16, 17, 18, 19, 20, 21, 22, 23, 24, 25, 26] (fun K w' hk => ?_) ?_
         rotate_left
         ·go_step; exact hk
         refine Ord.G9 ?_ 12 [0, 6, 7, 8, 13, 14, 15, 16, 17, 18, 19, 20, 21, 22, 23, 24, 25, 26] (fun K w' hk => ?_) ?_
         rotate_left
         ·go_step; exact hk
         refine Ord.G9 ?_ 13 [0, 6, 7, 8, 14, 15, 16, 17, 18, 19, 20, 21, 22, 23, 24, 25, 26] (fun K w' hk => ?_) ?_
         rotate_left
         ·go_step; exact hk
         refine Ord.G9 ?_ 14 [0, 6, 7, 8, 15, 16, 17, 18, 19, 20, 21, 22, 23, 24, 25, 26] (fun K w' hk => ?_) ?_
         rotate_left
         ·go_step; exact hk
         refine Ord.H9 ?_ 15 [0, 6, 7, 8, 16, 17, 18, 19, 20, 21, 22, 23, 24, 25, 26] ?_ (fun K w' hw' hk => ?_) ?_
         rotate_left
         ·first | exact hcur | exact hcur.alloc _ | exact (Ch.refl _ _).drew
         ·have hb' := HBA.out.ch hw' (by simp); have q0 := hb'.cell (i := 0) rfl; have q1 := hb'.cell (i := 1) rfl; have q2 := hb'.cell (i := 2) rfl; have q3 := hb'.cell (i := 3) rfl; have q4 := hb'.cell (i := 4) rfl; have q5 := hb'.cell (i := 5) rfl; have q6 := hb'.cell (i := 6) rfl; have q7 := hb'.cell (i := 7) rfl; have l0' := (hw'.cell (cell_lt l6) (by simp)).trans l6; have m0' := (hw'.cell (cell_lt m6) (by simp)).trans m6; go_step; exact hk
         refine Ord.G9 ?_ 16 [0, 6, 7, 8, 17, 18, 19, 20, 21, 22, 23, 24, 25, 26] (fun K w' hk => ?_) ?_
         rotate_left
         ·go_step; exact hk
         refine Ord.G9 ?_ 17 [0, 6, 7, 8, 18, 19, 20, 21, 22, 23, 24, 25, 26] (fun K w' hk => ?_) ?_
         rotate_left
         ·go_step; exact hk
         refine Ord.H9 ?_ 18 [0, 6, 7, 8, 19, 20, 21, 22, 23, 24, 25, 26] ?_ (fun K w' hw' hk => ?_) ?_
         rotate_left
         ·first | exact hcur | exact hcur.alloc _ | exact (Ch.refl _ _).drew
         ·have hb' := HBA.out.ch hw' (by simp); have q0 := hb'.cell (i := 0) rfl; have q1 := hb'.cell (i := 1) rfl; have q2 := hb'.cell (i := 2) rfl; have q3 := hb'.cell (i := 3) rfl; have q4 := hb'.cell (i := 4) rfl; have q5 := hb'.cell (i := 5) rfl; have q6 := hb'.cell (i := 6) rfl; have q7 := hb'.cell (i := 7) rfl; have l0' := (hw'.cell (cell_lt l6) (by simp)).trans l6; have m0' := (hw'.cell (cell_lt m6) (by simp)).trans m6; go_step; exact hk
         refine Ord.G9 ?_ 19 [0, 6, 7, 8, 20, 21, 22, 23, 24, 25, 26] (fun K w' hk => ?_) ?_
         rotate_left
         ·go_step; exact hk
         refine Ord.G9 ?_ 20 [0, 6, 7, 8, 21, 22, 23, 24, 25, 26] (fun K w' hk => ?_) ?_
         rotate_left
         ·go_step; exact hk
         refine Ord.G9 ?_ 21 [0, 6, 7, 8, 22, 23, 24, 25, 26] (fun K w' hk => ?_) ?_
         rotate_left
         ·go_step; exact hk
         refine Ord.G9 ?_ 22 [0, 6, 7, 8, 23, 24, 25, 26] (fun K w' hk => ?_) ?_
         rotate_left
         ·go_step; exact hk
         refine Ord.G9 ?_ 23 [0, 6, 7, 8, 24, 25, 26] (fun K w' hk => ?_) ?_
         rotate_left
         ·go_step; exact hk
         refine Ord.St.two 0 24 [6, 7, 8, 24, 25, 26] [0, 6, 7, 8, 25, 26] _ _ (by kernel_rfl) rfl rfl (by kernel_rfl) (by kernel_rfl) (fun K hK => ?_) (fun K hK => ?_)
         ·go_wp2_with fail
          refine ⟨rfl, hK _ _ ?_ ?_⟩
          ·first | exact hcur | exact hcur.alloc _ | exact (Ch.refl _ _).drew
          clear hK K
          refine Ord.St.alw ?_; intro Wn hWn
          have hbr := alw_blk (xs := intCells rooms26) hWn
          try replace hbs := hbs.ch (alw_ch hWn) (by simp)
          replace hcur := hcur.al9 hWn
          clear hWn
          (refine Ord.F9 ?_ (fun K w' hk => ?_) ?_; rotate_left; focus (go_step; exact hk))
          refine Ord.St.two 7 24 [8, 24, 25, 26] [7, 8, 25, 26] _ _ (by kernel_rfl) rfl rfl (by kernel_rfl) (by kernel_rfl) (fun K hK => ?_) (fun K hK => ?_)
          ·have c7 := hbr.cell HMQ.out
           go_wp2_with fail
           refine ⟨rfl, hK _ _ ?_ ?_⟩
           ·first | exact hcur | exact hcur.alloc _ | exact (Ch.refl _ _).drew
           clear hK K
           (refine Ord.F9 ?_ (fun K w' hk => ?_) ?_; rotate_left; focus (go_step; exact hk))
           refine Ord.St.ef 24 [25, 26] _ rfl (by kernel_rfl) (fun K hK => ?_)
           go_wp2_with fail
           refine ⟨rfl, hK _ _ ?_⟩; clear hK K
           refine Ord.St.alw ?_; intro Wn hWn
           have hbs := alw_blk (xs := [.int .u8 kd, .int .i64 c, .slice q.a q.l.length q.c, .slice Y.a Y.l.length Y.c, .int .u32 n, .slice (some ⟨gb, 0, none⟩) 0 0, .slice (some ⟨lb, 0, none⟩) 1 lc, .slice (some ⟨mb, 0, none⟩) 1 mc, .int .u8 k2, .int .i64 3, .slice p.a p.l.length p.c, .slice q.a q.l.length q.c, .int .u32 0, .slice (some ⟨gb, 0, none⟩) 0 0, .slice (some ⟨mb, 0, none⟩) 1 mc, .slice (some ⟨lb, 0, none⟩) 1 lc]) hWn
           try replace hbr := hbr.ch (alw_ch hWn) (by simp)
           replace hcur := hcur.al9 hWn
           clear hWn
           refine Ord.St.ef 25 [26] _ rfl (by kernel_rfl) (fun K hK => ?_)
           go_wp2_with fail
           refine (HMK.out _ hcur _ hbs).mono ?_
           rintro e w5 ⟨rfl, hc5⟩
           have HC5 := Hi9 (hcur.trans hc5 (by simp)); clear hc5 hbs hbr hcur
           go_wp2_with fail
           refine ⟨rfl, hK _ _ ?_⟩; clear hK K
           (refine Ord.F9 ?_ (fun K w' hk => ?_) ?_; rotate_left; focus (go_step; exact hk))
           refine Ord.St.nil ?_
           go_wp2_with fail
           go_roundw
           case rel => exact ⟨n + 1, by omega, by go_num, (HCR.out.trans HC6.out (by simp)).trans HC5.out (by simp)⟩
           case measure => simp [intOf]; omega
          ·go_wp2_with fail
           refine ⟨rfl, hK _ _ ?_ ?_⟩
           ·first | exact hcur | exact hcur.alloc _ | exact (Ch.refl _ _).drew
           clear hK K
           refine Ord.St.alw ?_; intro Wn hWn
           have hbs := alw_blk (xs := [.int .u8 kd, .int .i64 c, .slice q.a q.l.length q.c, .slice Y.a Y.l.length Y.c, .int .u32 n, .slice (some ⟨gb, 0, none⟩) 0 0, .slice (some ⟨lb, 0, none⟩) 1 lc, .slice (some ⟨mb, 0, none⟩) 1 mc, .int .u8 k2, .int .i64 3, .slice p.a p.l.length p.c, .slice q.a q.l.length q.c, .int .u32 0, .slice (some ⟨gb, 0, none⟩) 0 0, .slice (some ⟨mb, 0, none⟩) 1 mc, .slice (some ⟨lb, 0, none⟩) 1 lc]) hWn
           try replace hbr := hbr.ch (alw_ch hWn) (by simp)
           replace hcur := hcur.al9 hWn
           clear hWn
           refine Ord.St.efC 7 [8, 25, 26] _ rfl (by kernel_rfl) (fun K hK => ?_)
           have c7 := hbr.cell HMQ.out
           go_wp2_with fail
           refine ⟨rfl, hK _ _ ?_ ?_⟩
           ·first | exact hcur | exact hcur.alloc _ | exact (Ch.refl _ _).drew
           clear hK K
           (refine Ord.F9 ?_ (fun K w' hk => ?_) ?_; rotate_left; focus (go_step; exact hk))
           refine Ord.St.ef 25 [26] _ rfl (by kernel_rfl) (fun K hK => ?_)
           go_wp2_with fail
           refine (HMK.out _ hcur _ hbs).mono ?_
           rintro e w5 ⟨rfl, hc5⟩
           have HC5 := Hi9 (hcur.trans hc5 (by simp)); clear hc5 hbs hbr hcur
           go_wp2_with fail
           refine ⟨rfl, hK _ _ ?_⟩; clear hK K
           (refine Ord.F9 ?_ (fun K w' hk => ?_) ?_; rotate_left; focus (go_step; exact hk))
           refine Ord.St.nil ?_
           go_wp2_with fail
           go_roundw
           case rel => exact ⟨n + 1, by omega, by go_num, (HCR.out.trans HC6.out (by simp)).trans HC5.out (by simp)⟩
           case measure => simp [intOf]; omega
         ·go_wp2_with fail
          refine ⟨rfl, hK _ _ ?_ ?_⟩
          ·first | exact hcur | exact hcur.alloc _ | exact (Ch.refl _ _).drew
          clear hK K
          refine Ord.St.alw ?_; intro Wn hWn
          have hbs := alw_blk (xs := [.int .u8 kd, .int .i64 c, .slice q.a q.l.length q.c, .slice Y.a Y.l.length Y.c, .int .u32 n, .slice (some ⟨gb, 0, none⟩) 0 0, .slice (some ⟨lb, 0, none⟩) 1 lc, .slice (some ⟨mb, 0, none⟩) 1 mc, .int .u8 k2, .int .i64 3, .slice p.a p.l.length p.c, .slice q.a q.l.length q.c, .int .u32 0, .slice (some ⟨gb, 0, none⟩) 0 0, .slice (some ⟨mb, 0, none⟩) 1 mc, .slice (some ⟨lb, 0, none⟩) 1 lc]) hWn
          try replace hbr := hbr.ch (alw_ch hWn) (by simp)
          replace hcur := hcur.al9 hWn
          clear hWn
          refine Ord.St.efC 0 [6, 7, 8, 25, 26] _ rfl (by kernel_rfl) (fun K hK => ?_)
          go_wp2_with fail
          refine ⟨rfl, hK _ _ ?_ ?_⟩
          ·first | exact hcur | exact hcur.alloc _ | exact (Ch.refl _ _).drew
          clear hK K
          refine Ord.St.alw ?_; intro Wn hWn
          have hbr := alw_blk (xs := intCells rooms26) hWn
          try replace hbs := hbs.ch (alw_ch hWn) (by simp)
          replace hcur := hcur.al9 hWn
          clear hWn
          (refine Ord.F9 ?_ (fun K w' hk => ?_) ?_; rotate_left; focus (go_step; exact hk))
          refine Ord.St.efC 7 [8, 25, 26] _ rfl (by kernel_rfl) (fun K hK => ?_)
          have c7 := hbr.cell HMQ.out
          go_wp2_with fail
          refine ⟨rfl, hK _ _ ?_ ?_⟩
          ·first | exact hcur | exact hcur.alloc _ | exact (Ch.refl _ _).drew
          clear hK K
          (refine Ord.F9 ?_ (fun K w' hk => ?_) ?_; rotate_left; focus (go_step; exact hk))
          refine Ord.St.ef 25 [26] _ rfl (by kernel_rfl) (fun K hK => ?_)
          go_wp2_with fail
          refine (HMK.out _ hcur _ hbs).mono ?_
          rintro e w5 ⟨rfl, hc5⟩
          have HC5 := Hi9 (hcur.trans hc5 (by simp)); clear hc5 hbs hbr hcur
          go_wp2_with fail
          refine ⟨rfl, hK _ _ ?_⟩; clear hK K
          (refine Ord.F9 ?_ (fun K w' hk => ?_) ?_; rotate_left; focus (go_step; exact hk))
          refine Ord.St.nil ?_
          go_wp2_with fail
          go_roundw
          case rel => exact ⟨n + 1, by omega, by go_num, (HCR.out.trans HC6.out (by simp)).trans HC5.out (by simp)⟩
          case measure => simp [intOf]; omega
       ·have hgc2 : 2 ≤ gc := by omega
        have dgc : ¬ (gc - 1 = 0) := by omega
        have hs5 : ∀ W, Ch [] wr W → Sl W (some ⟨gb, 1, none⟩) gl.tail := fun W hW => by
         exact HS5g.out W hW
        have HS5 := Hi9 hs5; clear hs5
        refine Ord.St.door (fun w' => Ch [] wr w') [.fl, .fl, .fl, .fl, .fl, .ho, .fl, .fl, .fl, .fl, .fl, .fl, .fl, .fl, .ef, .ef] [0, 0, 2, 0, 8, 24, 0, 0, 128, 0, 512, 0, 0, 8191, 0, 32767] [0, 1, 2, 3, 4, 5, 6, 7, 8, 9, 10, 11, 12, 13, 14, 15] mixed (by kernel_rfl) rfl ?_
        obtain ⟨Wd, hWd⟩ : ∃ Wd, Wd = W2.drew := ⟨_, rfl⟩
        rw [← hWd]
        have hcur : Ch [] wr Wd := by rw [hWd]; exact HC2.out.drew
        have HBYd := Hi9 (show blk Wd y9 (intCells widths26) by rw [hWd]; exact HBY.out)
        clear hWd
        iterate 5 (refine Ord.F9 ?_ (fun K w' hk => ?_) ?_; rotate_left; focus (go_step; exact hk))
        refine Ord.H9 ?_ 5 [6, 7, 8, 9, 10, 11, 12, 13, 14, 15] ?_ (fun K w' hw' hk => ?_) ?_
        rotate_left
        ·first | exact hcur | exact hcur.alloc _ | exact HC2.out.drew
        ·have m0' := (hw'.cell (cell_lt m0) (by simp)).trans m0; go_step; exact hk
        iterate 8 (refine Ord.F9 ?_ (fun K w' hk => ?_) ?_; rotate_left; focus (go_step; exact hk))
        refine Ord.St.efC 14 [15] _ rfl (by kernel_rfl) (fun K hK => ?_)
        go_wp2_with fail
        refine ⟨rfl, hK _ _ ?_ ?_⟩
        ·first | exact hcur | exact hcur.alloc _ | exact HC2.out.drew
        clear hK K
        refine Ord.St.ef 15 [] _ rfl (by kernel_rfl) (fun K hK => ?_)
        go_wp2_with fail
        refine ⟨rfl, hK _ _ ?_⟩; clear hK K
        refine Ord.St.nil ?_
        go_upto_region 23 with fail
        refine wp_alw ?_
        intro W5 hW5
        have hba := alw_blk (xs := [.int .u8 kd, .int .i64 c, .slice q.a q.l.length q.c, .slice (some ⟨y9, 0, none⟩) r 3, .int .u32 n, .slice (some ⟨gb, 1, none⟩) (k - 1) (gc - 1), .slice (some ⟨lb, 0, none⟩) k lc, .slice (some ⟨mb, 0, none⟩) k mc]) hW5
        have hlo := hcur.size
        have hc5 := hcur.al9 hW5
        have HBY5 := Hi9 (HBYd.out.ch (alw_ch hW5) (by simp))
        clear hW5 hcur HBYd
        generalize Wd.heap.size = ba at *
        have l6 := (hc5.cell (cell_lt l0) (by simp)).trans l0
        have m6 := (hc5.cell (cell_lt m0) (by simp)).trans m0
        go_upto_if 98 with fail
        go_cut [12] (fun x wd => x = .pointer (some ⟨ba, 0, none⟩) ∧ ∃ Y : WV, Ch [] wr wd ∧ blk wd ba [.int .u8 kd, .int .i64 c, .slice q.a q.l.length q.c, .slice Y.a Y.l.length Y.c, .int .u32 n, .slice (some ⟨gb, 1, none⟩) (k - 1) (gc - 1), .slice (some ⟨lb, 0, none⟩) k lc, .slice (some ⟨mb, 0, none⟩) k mc] ∧ (∀ W, Ch [] wd W → Sl W Y.a Y.l) ∧ Y.l.length ≤ 3 ∧ B24 Y.l)
        case first =>
         by_cases hk0 : kd = 0
         ·have d0 : ((kd : Int) == 0) = true := by simp; omega
          clear hk0
          have f3 := hba.frozen (i := 3)
          have c3 := hba.cell (i := 3) rfl
          go_wp2_with fail
          go_meet
          case rel => exact ⟨rfl, p, hc5.setCell (.inr hlo) _, hba.set (i := 3) _, fun W hW => (HOK.out W ((hc5.setCell (.inr hlo) _).trans hW (by simp))).1, HPD.out.1, HPD.out.2⟩
         ·have d0 : ((kd : Int) == 0) = false := by simp; omega
          clear hk0
          go_wp2_with fail
          go_meet
          case rel => exact ⟨rfl, ⟨some ⟨y9, 0, none⟩, widths26.take r, 3⟩, hc5, by simpa [HRL.out] using hba, fun W hW => ((Sl.blk9 (HBY5.out.ch hW (by simp)) (by simp [widths26])).take26 r), by show (widths26.take r).length ≤ 3; rw [HRL.out]; omega, fun z hz => widths26_bd z (List.mem_of_mem_take hz)⟩
        case rest =>
         obtain ⟨rfl, Y, hc6, hba, hys, hyd⟩ := hcut
         clear l6 m6 hc5 HBY5
         have l6 := (hc6.cell (cell_lt l0) (by simp)).trans l0
         have m6 := (hc6.cell (cell_lt m0) (by simp)).trans m0
         have HBA := Hi9 hba; clear hba
         have HYS := Hi9 hys; clear hys
         have HYD := Hi9 hyd; clear hyd
         have HC6 := Hi9 hc6; clear hc6
         have hmk : ∀ W, Ch [] wc W → ∀ bs, blk W bs [.int .u8 kd, .int .i64 c, .slice q.a q.l.length q.c, .slice Y.a Y.l.length Y.c, .int .u32 n, .slice (some ⟨gb, 1, none⟩) (k - 1) (gc - 1), .slice (some ⟨lb, 0, none⟩) k lc, .slice (some ⟨mb, 0, none⟩) k mc, .int .u8 k2, .int .i64 3, .slice p.a p.l.length p.c, .slice q.a q.l.length q.c, .int .u32 0, .slice (some ⟨gb, 1, none⟩) (k - 1) (gc - 1), .slice (some ⟨mb, 0, none⟩) k mc, .slice (some ⟨lb, 0, none⟩) k lc] → Calls Tryz.prog 16 #[.agg #[.int .i64 M, .int .u8 8], .slice (some ⟨bs, 0, none⟩) 2 2] W fun e w' => e = .returned (.bool true) ∧ Ch [] W w' := fun W hW bs hbs => by
          have hcw := HC6.out.trans hW (by simp)
          obtain ⟨s1, s2, s3, s4⟩ := HOK.out W hcw
          have s5 := HS5.out W hcw
          have a1 := act26_ok s3 s4 s5 (fun x hx => HWS.out x (HLW.out x hx)) (fun x hx => HWS.out x (HMW.out x hx)) HGB.out (by rw [HLN.out]; omega) (by rw [HMN.out]; omega) (by rw [HGN.out]; omega) (lc := lc) (mc := mc) (gc := gc - 1) (x := q) s2 HQD.out (y := Y) (HYS.out W hW) HYD.out (kind := kd) (N := n) (C := c) (by omega) (by omega) (by omega)
          have a2 := act26_ok s4 s3 s5 (fun x hx => HWS.out x (HMW.out x hx)) (fun x hx => HWS.out x (HLW.out x hx)) HGB.out (by rw [HMN.out]; omega) (by rw [HLN.out]; omega) (by rw [HGN.out]; omega) (lc := mc) (mc := lc) (gc := gc - 1) (x := p) s1 HPD.out (y := q) s2 HQD.out (kind := k2) (N := 0) (C := 3) (by omega) (by omega) (by omega)
          refine makes26_is M 8 (by omega) (mxacts2 (by simpa [MxV.cells, WV.val, HLN.out, HMN.out, HGN.out, HRL.out] using hbs) a1.1 a2.1) (fun y hy => ?_)
          rcases List.mem_cons.1 hy with rfl | hy
          ·exact a1.2
          ·rw [List.mem_singleton.1 hy]; exact a2.2
         have HMK := Hi9 hmk; clear hmk
         go_upto_region 25 with fail
         refine Ord.St.door (fun w' => Ch [] wc w') [.ef, .fl, .fl, .fl, .fl, .fl, .fl, .ef, .fl, .ho, .fl, .fl, .fl, .fl, .fl, .ho, .fl, .fl, .ho, .fl, .fl, .fl, .fl, .fl, .ef, .ef, .fl] [0, 0, 0, 4, 14, 30, 63, 127, 255, 0, 0, 1024, 3072, 0, 8192, 24576, 0, 65536, 196608, 0, 524288, 0, 0, 8387584, 16776704, 33554431, 67108863] [0, 1, 2, 3, 4, 5, 6, 7, 8, 9, 10, 11, 12, 13, 14, 15, 16, 17, 18, 19, 20, 21, 22, 23, 24, 25, 26] mixed (by kernel_rfl) rfl ?_
         obtain ⟨Wd, hWd⟩ : ∃ Wd, Wd = wc.drew := ⟨_, rfl⟩
         rw [← hWd]
         have hcur : Ch [] wc Wd := by rw [hWd]; exact (Ch.refl _ _).drew
         clear hWd
         refine Ord.G9 ?_ 1 [0, 2, 3, 4, 5, 6, 7, 8, 9, 10, 11, 12, 13, 14, 15, 16, 17, 18, 19, 20, 21, 22, 23, 24, 25, 26] (fun K w' hk => ?_) ?_
         rotate_left
         ·go_step; exact hk
         refine Ord.G9 ?_ 2 [0, 3, 4, 5, 6, 7, 8, 9, 10, 11, 12, 13, 14, 15, 16, 17, 18, 19, 20, 21, 22, 23, 24, 25, 26] (fun K w' hk => ?_) ?_
         rotate_left
         ·go_step; exact hk
         refine Ord.G9 ?_ 3 [0, 4, 5, 6, 7, 8, 9, 10, 11, 12, 13, 14, 15, 16, 17, 18, 19, 20, 21, 22, 23, 24, 25, 26] (fun K w' hk => ?_) ?_
         rotate_left
         ·go_step; exact hk
         refine Ord.G9 ?_ 4 [0, 5, 6, 7, 8, 9, 10, 11, 12, 13, 14, 15, 16, 17, 18, 19, 20, 21, 22, 23, 24, 25, 26] (fun K w' hk => ?_) ?_
         rotate_left
         ·go_step; exact hk
         refine Ord.G9 ?_ 5 [0, 6, 7, 8, 9, 10, 11, 12, 13, 14, 15, 16, 17, 18, 19, 20, 21, 22, 23, 24, 25, 26] (fun K w' hk => ?_) ?_
         rotate_left
         ·go_step; exact hk
         refine Ord.H9 ?_ 9 [0, 6, 7, 8, 10, 11, 12, 13, 14, 15, 16, 17, 18, 19, 20, 21, 22, 23, 24, 25, 26] ?_ (fun K w' hw' hk => ?_) ?_
         rotate_left
         ·first | exact hcur | exact hcur.alloc _ | exact (Ch.refl _ _).drew
         ·have hb' := HBA.out.ch hw' (by simp); have q0 := hb'.cell (i := 0) rfl; have q1 := hb'.cell (i := 1) rfl; have q2 := hb'.cell (i := 2) rfl; have q3 := hb'.cell (i := 3) rfl; have q4 := hb'.cell (i := 4) rfl; have q5 := hb'.cell (i := 5) rfl; have q6 := hb'.cell (i := 6) rfl; have q7 := hb'.cell (i := 7) rfl; have l0' := (hw'.cell (cell_lt l6) (by simp)).trans l6; have m0' := (hw'.cell (cell_lt m6) (by simp)).trans m6; go_step; exact hk
         refine Ord.G9 ?_ 10 [0, 6, 7, 8, 11, 12, 13, 14, 15, 16, 17, 18, 19, 20, 21, 22, 23, 24, 25, 26] (fun K w' hk => ?_) ?_
         rotate_left
         ·go_step; exact hk
         refine Ord.G9 ?_ 11 [0, 6, 7, 8, 12, 13, 14, 15, 16, 17, 18, 19, 20, 21, 22, 23, 24, 25, 26] (fun K w' hk => ?_) ?_
         rotate_left
         ·go_step; exact hk
         refine Ord.G9 ?_ 12 [0, 6, 7, 8, 13, 14, 15, 16, 17, 18, 19, 20, 21, 22, 23, 24, 25, 26] (fun K w' hk => ?_) ?_
         rotate_left
         ·go_step; exact hk
         refine Ord.G9 ?_ 13 [0, 6, 7, 8, 14, 15, 16, 17, 18, 19, 20, 21, 22, 23, 24, 25, 26] (fun K w' hk => ?_) ?_
         rotate_left
         ·go_step; exact hk
         refine Ord.G9 ?_ 14 [0, 6, 7, 8, 15, 16, 17, 18, 19, 20, 21, 22, 23, 24, 25, 26] (fun K w' hk => ?_) ?_
         rotate_left
         ·go_step; exact hk
         refine Ord.H9 ?_ 15 [0, 6, 7, 8, 16, 17, 18, 19, 20, 21, 22, 23, 24, 25, 26] ?_ (fun K w' hw' hk => ?_) ?_
         rotate_left
         ·first | exact hcur | exact hcur.alloc _ | exact (Ch.refl _ _).drew
         ·have hb' := HBA.out.ch hw' (by simp); have q0 := hb'.cell (i := 0) rfl; have q1 := hb'.cell (i := 1) rfl; have q2 := hb'.cell (i := 2) rfl; have q3 := hb'.cell (i := 3) rfl; have q4 := hb'.cell (i := 4) rfl; have q5 := hb'.cell (i := 5) rfl; have q6 := hb'.cell (i := 6) rfl; have q7 := hb'.cell (i := 7) rfl; have l0' := (hw'.cell (cell_lt l6) (by simp)).trans l6; have m0' := (hw'.cell (cell_lt m6) (by simp)).trans m6; go_step; exact hk
         refine Ord.G9 ?_ 16 [0, 6, 7, 8, 17, 18, 19, 20, 21, 22, 23, 24, 25, 26] (fun K w' hk => ?_) ?_
         rotate_left
         ·go_step; exact hk
         refine Ord.G9 ?_ 17 [0, 6, 7, 8, 18, 19, 20, 21, 22, 23, 24, 25, 26] (fun K w' hk => ?_) ?_
         rotate_left
         ·go_step; exact hk
         refine Ord.H9 ?_ 18 [0, 6, 7, 8, 19, 20, 21, 22, 23, 24, 25, 26] ?_ (fun K w' hw' hk => ?_) ?_
         rotate_left
         ·first | exact hcur | exact hcur.alloc _ | exact (Ch.refl _ _).drew
         ·have hb' := HBA.out.ch hw' (by simp); have q0 := hb'.cell (i := 0) rfl; have q1 := hb'.cell (i := 1) rfl; have q2 := hb'.cell (i := 2) rfl; have q3 := hb'.cell (i := 3) rfl; have q4 := hb'.cell (i := 4) rfl; have q5 := hb'.cell (i := 5) rfl; have q6 := hb'.cell (i := 6) rfl; have q7 := hb'.cell (i := 7) rfl; have l0' := (hw'.cell (cell_lt l6) (by simp)).trans l6; have m0' := (hw'.cell (cell_lt m6) (by simp)).trans m6; go_step; exact hk
         refine Ord.G9 ?_ 19 [0, 6, 7, 8, 20, 21, 22, 23, 24, 25, 26] (fun K w' hk => ?_) ?_
         rotate_left
         ·go_step; exact hk
         refine Ord.G9 ?_ 20 [0, 6, 7, 8, 21, 22, 23, 24, 25, 26] (fun K w' hk => ?_) ?_
         rotate_left
         ·go_step; exact hk
         refine Ord.G9 ?_ 21 [0, 6, 7, 8, 22, 23, 24, 25, 26] (fun K w' hk => ?_) ?_
         rotate_left
         ·go_step; exact hk
         refine Ord.G9 ?_ 22 [0, 6, 7, 8, 23, 24, 25, 26] (fun K w' hk => ?_) ?_
         rotate_left
         ·go_step; exact hk
         refine Ord.G9 ?_ 23 [0, 6, 7, 8, 24, 25, 26] (fun K w' hk => ?_) ?_
         rotate_left
         ·go_step; exact hk
         refine Ord.St.two 0 24 [6, 7, 8, 24, 25, 26] [0, 6, 7, 8, 25, 26] _ _ (by kernel_rfl) rfl rfl (by kernel_rfl) (by kernel_rfl) (fun K hK => ?_) (fun K hK => ?_)
         ·go_wp2_with fail
          refine ⟨rfl, hK _ _ ?_ ?_⟩
          ·first | exact hcur | exact hcur.alloc _ | exact (Ch.refl _ _).drew
          clear hK K
          refine Ord.St.alw ?_; intro Wn hWn
          have hbr := alw_blk (xs := intCells rooms26) hWn
          try replace hbs := hbs.ch (alw_ch hWn) (by simp)
          replace hcur := hcur.al9 hWn
          clear hWn
          (refine Ord.F9 ?_ (fun K w' hk => ?_) ?_; rotate_left; focus (go_step; exact hk))
          refine Ord.St.two 7 24 [8, 24, 25, 26] [7, 8, 25, 26] _ _ (by kernel_rfl) rfl rfl (by kernel_rfl) (by kernel_rfl) (fun K hK => ?_) (fun K hK => ?_)
          ·have c7 := hbr.cell HMQ.out
           go_wp2_with fail
           refine ⟨rfl, hK _ _ ?_ ?_⟩
           ·first | exact hcur | exact hcur.alloc _ | exact (Ch.refl _ _).drew
           clear hK K
           (refine Ord.F9 ?_ (fun K w' hk => ?_) ?_; rotate_left; focus (go_step; exact hk))
           refine Ord.St.ef 24 [25, 26] _ rfl (by kernel_rfl) (fun K hK => ?_)
           go_wp2_with fail
           refine ⟨rfl, hK _ _ ?_⟩; clear hK K
           refine Ord.St.alw ?_; intro Wn hWn
           have hbs := alw_blk (xs := [.int .u8 kd, .int .i64 c, .slice q.a q.l.length q.c, .slice Y.a Y.l.length Y.c, .int .u32 n, .slice (some ⟨gb, 1, none⟩) (k - 1) (gc - 1), .slice (some ⟨lb, 0, none⟩) k lc, .slice (some ⟨mb, 0, none⟩) k mc, .int .u8 k2, .int .i64 3, .slice p.a p.l.length p.c, .slice q.a q.l.length q.c, .int .u32 0, .slice (some ⟨gb, 1, none⟩) (k - 1) (gc - 1), .slice (some ⟨mb, 0, none⟩) k mc, .slice (some ⟨lb, 0, none⟩) k lc]) hWn
           try replace hbr := hbr.ch (alw_ch hWn) (by simp)
           replace hcur := hcur.al9 hWn
           clear hWn
           refine Ord.St.ef 25 [26] _ rfl (by kernel_rfl) (fun K hK => ?_)
           go_wp2_with fail
           refine (HMK.out _ hcur _ hbs).mono ?_
           rintro e w5 ⟨rfl, hc5⟩
           have HC5 := Hi9 (hcur.trans hc5 (by simp)); clear hc5 hbs hbr hcur
           go_wp2_with fail
           refine ⟨rfl, hK _ _ ?_⟩; clear hK K
           (refine Ord.F9 ?_ (fun K w' hk => ?_) ?_; rotate_left; focus (go_step; exact hk))
           refine Ord.St.nil ?_
           go_wp2_with fail
           go_roundw
           case rel => exact ⟨n + 1, by omega, by go_num, (HCR.out.trans HC6.out (by simp)).trans HC5.out (by simp)⟩
           case measure => simp [intOf]; omega
          ·go_wp2_with fail
           refine ⟨rfl, hK _ _ ?_ ?_⟩
           ·first | exact hcur | exact hcur.alloc _ | exact (Ch.refl _ _).drew
           clear hK K
           refine Ord.St.alw ?_; intro Wn hWn
           have hbs := alw_blk (xs := [.int .u8 kd, .int .i64 c, .slice q.a q.l.length q.c, .slice Y.a Y.l.length Y.c, .int .u32 n, .slice (some ⟨gb, 1, none⟩) (k - 1) (gc - 1), .slice (some ⟨lb, 0, none⟩) k lc, .slice (some ⟨mb, 0, none⟩) k mc, .int .u8 k2, .int .i64 3, .slice p.a p.l.length p.c, .slice q.a q.l.length q.c, .int .u32 0, .slice (some ⟨gb, 1, none⟩) (k - 1) (gc - 1), .slice (some ⟨mb, 0, none⟩) k mc, .slice (some ⟨lb, 0, none⟩) k lc]) hWn
           try replace hbr := hbr.ch (alw_ch hWn) (by simp)
           replace hcur := hcur.al9 hWn
           clear hWn
           refine Ord.St.efC 7 [8, 25, 26] _ rfl (by kernel_rfl) (fun K hK => ?_)
           have c7 := hbr.cell HMQ.out
           go_wp2_with fail
           refine ⟨rfl, hK _ _ ?_ ?_⟩
           ·first | exact hcur | exact hcur.alloc _ | exact (Ch.refl _ _).drew
           clear hK K
           (refine Ord.F9 ?_ (fun K w' hk => ?_) ?_; rotate_left; focus (go_step; exact hk))
           refine Ord.St.ef 25 [26] _ rfl (by kernel_rfl) (fun K hK => ?_)
           go_wp2_with fail
           refine (HMK.out _ hcur _ hbs).mono ?_
           rintro e w5 ⟨rfl, hc5⟩
           have HC5 := Hi9 (hcur.trans hc5 (by simp)); clear hc5 hbs hbr hcur
           go_wp2_with fail
           refine ⟨rfl, hK _ _ ?_⟩; clear hK K
           (refine Ord.F9 ?_ (fun K w' hk => ?_) ?_; rotate_left; focus (go_step; exact hk))
           refine Ord.St.nil ?_
           go_wp2_with fail
           go_roundw
           case rel => exact ⟨n + 1, by omega, by go_num, (HCR.out.trans HC6.out (by simp)).trans HC5.out (by simp)⟩
           case measure => simp [intOf]; omega
         ·go_wp2_with fail
          refine ⟨rfl, hK _ _ ?_ ?_⟩
          ·first | exact hcur | exact hcur.alloc _ | exact (Ch.refl _ _).drew
          clear hK K
          refine Ord.St.alw ?_; intro Wn hWn
          have hbs := alw_blk (xs := [.int .u8 kd, .int .i64 c, .slice q.a q.l.length q.c, .slice Y.a Y.l.length Y.c, .int .u32 n, .slice (some ⟨gb, 1, none⟩) (k - 1) (gc - 1), .slice (some ⟨lb, 0, none⟩) k lc, .slice (some ⟨mb, 0, none⟩) k mc, .int .u8 k2, .int .i64 3, .slice p.a p.l.length p.c, .slice q.a q.l.length q.c, .int .u32 0, .slice (some ⟨gb, 1, none⟩) (k - 1) (gc - 1), .slice (some ⟨mb, 0, none⟩) k mc, .slice (some ⟨lb, 0, none⟩) k lc]) hWn
          try replace hbr := hbr.ch (alw_ch hWn) (by simp)
          replace hcur := hcur.al9 hWn
          clear hWn
          refine Ord.St.efC 0 [6, 7, 8, 25, 26] _ rfl (by kernel_rfl) (fun K hK => ?_)
          go_wp2_with fail
          refine ⟨rfl, hK _ _ ?_ ?_⟩
          ·first | exact hcur | exact hcur.alloc _ | exact (Ch.refl _ _).drew
          clear hK K
          refine Ord.St.alw ?_; intro Wn hWn
          have hbr := alw_blk (xs := intCells rooms26) hWn
          try replace hbs := hbs.ch (alw_ch hWn) (by simp)
          replace hcur := hcur.al9 hWn
          clear hWn
          (refine Ord.F9 ?_ (fun K w' hk => ?_) ?_; rotate_left; focus (go_step; exact hk))
          refine Ord.St.efC 7 [8, 25, 26] _ rfl (by kernel_rfl) (fun K hK => ?_)
          have c7 := hbr.cell HMQ.out
          go_wp2_with fail
          refine ⟨rfl, hK _ _ ?_ ?_⟩
          ·first | exact hcur | exact hcur.alloc _ | exact (Ch.refl _ _).drew
          clear hK K
          (refine Ord.F9 ?_ (fun K w' hk => ?_) ?_; rotate_left; focus (go_step; exact hk))
          refine Ord.St.ef 25 [26] _ rfl (by kernel_rfl) (fun K hK => ?_)
          go_wp2_with fail
          refine (HMK.out _ hcur _ hbs).mono ?_
          rintro e w5 ⟨rfl, hc5⟩
          have HC5 := Hi9 (hcur.trans hc5 (by simp)); clear hc5 hbs hbr hcur
          go_wp2_with fail
          refine ⟨rfl, hK _ _ ?_⟩; clear hK K
          (refine Ord.F9 ?_ (fun K w' hk => ?_) ?_; rotate_left; focus (go_step; exact hk))
          refine Ord.St.nil ?_
          go_wp2_with fail
          go_roundw
          case rel => exact ⟨n + 1, by omega, by go_num, (HCR.out.trans HC6.out (by simp)).trans HC5.out (by simp)⟩
          case measure => simp [intOf]; omega
    ·have dn : decide ((n : Int) < 225) = false := decide_eq_false (by omega)
     have HC := Hi9 hc; clear hc
     have hwr := fun W => wrongs26_is (w := W) kd hk6
     have HWR := Hi9 hwr; clear hwr
     go_wp2_with fail
     refine (HWR.out _).mono ?_
     rintro e w3 ⟨rfl, hc3⟩
     have HC3 := Hi9 hc3; clear hc3
     go_wp2_with fail
     go_roundw
     case rel => exact ⟨kd + 1, by omega, by go_num, HC.out.trans HC3.out (by simp)⟩
     case measure => simp [intOf]; omega
  ·have dk6 : decide ((kd : Int) < 6) = false := decide_eq_false (by omega)
   have HC := Hi9 hc; clear hc
   go_wp2_with fail
   refine wp_alw ?_
   intro W1 hW1
   have hb := alw_blk (xs := intCells ends15) hW1
   have hc1 := HC.out.trans (alw_ch hW1) (by simp)
   clear hW1 HC
   generalize wr.heap.size = b5 at *
   have HB := Hi9 hb; clear hb
   have HC1 := Hi9 hc1; clear hc1
   go_loopw [137] (fun i wr => ∃ k : Nat, k ≤ 15 ∧ i = .int .i64 k ∧ Ch [] W1 wr) (fun i _ => 15 - (intOf i).toNat)
   case atStart => exact ⟨0, by omega, rfl, Ch.refl _ _⟩
   case round =>
    obtain ⟨k, hk, rfl, hc⟩ := hrel
    by_cases hk15 : k < 15
    ·have dk : decide ((k : Int) < 15) = true := decide_eq_true (by omega)
     obtain ⟨z, hz⟩ : ∃ z, ends15[k]? = some z := ⟨_, List.getElem?_eq_getElem (show k < ends15.length from hk15)⟩
     have c0 : wr.cell? ⟨b5, k, none⟩ = some (.int .i64 z) := (HB.out.ch hc (by simp)).cell (by simp [intCells, hz])
     clear hz
     have HC := Hi9 hc; clear hc
     go_wp2_with fail
     refine wp_alw ?_
     intro W2 hW2
     have hb2 := alw_blk (xs := intCells ends11) hW2
     have hc2 := HC.out.trans (alw_ch hW2) (by simp)
     clear hW2 HC c0
     generalize wr.heap.size = b6 at *
     have HB2 := Hi9 hb2; clear hb2
     have HC2 := Hi9 hc2; clear hc2
     go_loopw [143] (fun i wr => ∃ j : Nat, j ≤ 11 ∧ i = .int .i64 j ∧ Ch [] W2 wr) (fun i _ => 11 - (intOf i).toNat)
     case atStart => exact ⟨0, by omega, rfl, Ch.refl _ _⟩
     case round =>
      obtain ⟨j, hj, rfl, hc⟩ := hrel
      by_cases hj11 : j < 11
      ·have dj : decide ((j : Int) < 11) = true := decide_eq_true (by omega)
       obtain ⟨y, hy⟩ : ∃ y, ends11[j]? = some y := ⟨_, List.getElem?_eq_getElem (show j < ends11.length from hj11)⟩
       have c0 : wr.cell? ⟨b6, j, none⟩ = some (.int .i64 y) := (HB2.out.ch hc (by simp)).cell (by simp [intCells, hy])
       clear hy
       have HC := Hi9 hc; clear hc
       have HF := Hi9 fun (W : World) => fit26_is (w := W) z y
       go_wp2_with fail
       refine (HF.out _).mono ?_
       rintro e w3 ⟨rfl, rfl⟩
       clear HF c0
       go_wp2_with fail
       go_roundw
       case rel => exact ⟨j + 1, by omega, by go_num, HC.out⟩
       case measure => simp [intOf]; omega
      ·have dj : decide ((j : Int) < 11) = false := decide_eq_false (by omega)
       have HC := Hi9 hc; clear hc
       go_wp2_with fail
       go_roundw
       case rel => exact ⟨k + 1, by omega, by go_num, HC2.out.trans HC.out (by simp)⟩
       case measure => simp [intOf]; omega
    ·have dk : decide ((k : Int) < 15) = false := decide_eq_false (by omega)
     have HC := Hi9 hc; clear hc
     go_wp2_with fail
     refine (HAW.out _).mono ?_
     rintro e w3 ⟨rfl, hc3⟩
     have HC3 := Hi9 hc3; clear hc3
     go_wp2_with fail
     go_ret
     exact ⟨rfl, (HC1.out.trans HC.out (by simp)).trans HC3.out (by simp)⟩
end
end Go.Proofs.YtehljgigebhddaaGreat
