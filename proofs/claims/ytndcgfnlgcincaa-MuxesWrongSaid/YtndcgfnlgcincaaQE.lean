/-
  Contracts of functions that MuxesWrong reaches, and plain facts (part E). Conditions: the hypotheses of each theorem.
-/
import Derived.Test.YtndcgfnlgcincaaQD
import Derived.Deep.DeepCutAuto
import Derived.Deep.CutBlock
import Derived.Great.Walk
namespace Go.Proofs.Ytndcgfnlgcincaa
open Go.RowKit Go.Mem Go.Aig
theorem Hold.grow {w0 : Base} {w w' : World} {g : Nat} {G : Gra} {F K : List Nat} {L : List (Value × List Int)} (h : Hold w0 w g G F L) (hc : Ch K w w') (hK : ∀ q ∈ K, q ∉ F ∧ (∀ p ∈ L, p.1.ownBlock ≠ some q) ∧ (∀ p ∈ w0.K, p.1 ≠ q) ∧ w0.w.heap.size ≤ q) : Hold w0 w' g G F L :=
  ⟨⟨h.own.gin.same hc (fun k hk hin => (hK k hin).1 hk), h.own.own, h.own.ch.trans hc (fun k hk => .inr (hK k hk).2.2.2)⟩,
    fun p hp => ⟨(h.held p hp).row.ch hc (fun q hq hin => (hK q hin).2.1 p hp hq), (h.held p hp).len, (h.held p hp).bd, (h.held p hp).own⟩,
    fun p hp => ⟨(h.kept p hp).1.ch hc (fun hin => (hK _ hin).2.2.1 p hp rfl), (h.kept p hp).2⟩⟩
theorem Hold.far {w0 : Base} {w : World} {g : Nat} {G : Gra} {F : List Nat} {L : List (Value × List Int)} (h : Hold w0 w g G F L) {q : Nat} (hq : w.heap.size ≤ q) : q ∉ F ∧ (∀ p ∈ L, p.1.ownBlock ≠ some q) ∧ (∀ p ∈ w0.K, p.1 ≠ q) ∧ w0.w.heap.size ≤ q :=
  ⟨fun hin => by have := h.own.gin.lt q hin; omega, fun p hp e => by have := ((h.held p hp).row.lt q e).2; omega, fun p hp e => by have := (h.kept p hp).1.lt; omega, Nat.le_trans h.own.ch.size hq⟩
theorem blk.of_row {w : World} {e : TypeId} {b n c : Nat} {vs : List Value} (h : row w e 1 (.slice (some ⟨b, 0, none⟩) n c) n vs) : ∃ cs, blk w b cs ∧ ∀ (i : Nat) (v : Value), vs[i]? = some v → cs[i]? = some v := by
  rcases h.2 with ⟨e1, _⟩ | ⟨b', cap, cur, e1, _, hb, _, _, _, ht⟩
  · cases e1
  · cases e1
    refine ⟨cur.toList, ⟨_, by rw [Array.toArray_toList]; exact hb⟩, fun i v hv => ?_⟩
    rw [← ht] at hv
    have h2 := (List.getElem?_eq_some_iff.1 hv).1
    rw [List.length_take] at h2
    rw [List.getElem?_take_of_lt (by omega)] at hv
    exact hv
theorem vals_slv (ws : List WV) : ws.map WV.val = slvs (ws.map fun x => (x.a, x.l.length, x.c)) := by
  unfold slvs
  rw [List.map_map]
  rfl
def slW (ws : List WV) : List SlV := ws.map fun x => (x.a, x.l.length, x.c)
theorem slW_len (ws : List WV) : (slW ws).length = ws.length := by simp [slW]
theorem Hold.svA {w0 : Base} {w : World} {g : Nat} {G : Gra} {F : List Nat} {L : List (Value × List Int)} (h : Hold w0 w g G F L) {b : Nat} {cs : List Value} {ws : List WV} (hb : (b, cs) ∈ w0.K) (hcs : ∀ (i : Nat) (x : WV), ws[i]? = some x → cs[i]? = some x.val) (hn : ws.length ≤ 1000) : Sv w (some ⟨b, 0, none⟩) (slvs (slW ws)) :=
  ⟨fun i v hv => by
    unfold slW at hv
    rw [← vals_slv, List.getElem?_map] at hv
    rcases hx : ws[i]? with _ | x
    · rw [hx] at hv; cases hv
    · rw [hx] at hv
      cases hv
      exact ⟨b, 0, rfl, by rw [Nat.zero_add]; exact (h.kb hb).cell (hcs i x hx)⟩, by simp [slvs, slW]; omega⟩
structure NewA (W8 wd : World) (N : Nat) (ws : List WV) (yb yc : Nat) (u : WV) : Prop where
  ch : Ch [] W8 wd
  arr : row wd 25 1 (.slice (some ⟨yb, 0, none⟩) (N + 1) yc) (N + 1) (slvs (slW (ws ++ [u])))
  word : row wd 26 1 (.slice u.a u.l.length u.c) u.l.length (intCells u.l)
  fresh : W8.heap.size ≤ yb ∧ ∀ k, (Value.slice u.a u.l.length u.c).ownBlock = some k → W8.heap.size ≤ k
  len : u.l.length ≤ 1000000
  bd : ∀ r ∈ u.l, -9223372036854775808 ≤ r ∧ r ≤ 9223372036854775807
theorem NewA.hold {w0 : Base} {W8 wd : World} {g : Nat} {G : Gra} {F : List Nat} {L : List (Value × List Int)} {N yb yc : Nat} {ws : List WV} {u : WV} (h : NewA W8 wd N ws yb yc u) (ho : Hold w0 W8 g G F L) : ∃ cs, Hold (w0.add yb cs) wd g G F ((u.val, u.l) :: L) ∧ ∀ (i : Nat) (x : WV), (ws ++ [u])[i]? = some x → cs[i]? = some x.val := by
  have h1 := ho.same h.ch
  have hf := ho.far h.fresh.1
  obtain ⟨cs, hb, hcs⟩ := blk.of_row h.arr
  have h2 : Hold w0 wd g G F ((u.val, u.l) :: L) := ⟨h1.own, fun p hp => by
    rcases List.mem_cons.1 hp with rfl | hp
    · exact ⟨h.word, h.len, h.bd, fun k hk => ⟨(ho.far (h.fresh.2 k hk)).2.2.2, (ho.far (h.fresh.2 k hk)).1⟩⟩
    · exact h1.held p hp, h1.kept⟩
  refine ⟨cs, h2.keepB hb hf.2.2.2 hf.1, fun i x hx => hcs i x.val ?_⟩
  unfold slW
  rw [← vals_slv, List.getElem?_map, hx]
  rfl
theorem WVin.of_row {w : World} {F : List Nat} {b n : Nat} {l : List Int} (h : row w 26 1 (.slice (some ⟨b, 0, none⟩) n n) n (intCells (List.replicate n (l.headD 0)))) (hn : n ≤ 1000000) (hb : ∀ r ∈ List.replicate n (l.headD 0), -9223372036854775808 ≤ r ∧ r ≤ 9223372036854775807) (hF : b ∉ F) : WVin w F ⟨some ⟨b, 0, none⟩, List.replicate n (l.headD 0), n⟩ :=
  ⟨⟨Sl.of_ints h (by omega), hb, by simpa using hn⟩, fun k hk => by
    simp only [ablk, List.mem_singleton] at hk
    rw [hk]
    exact ⟨hF, (h.lt b rfl).2⟩⟩
theorem WVin.blk1 {w : World} {F : List Nat} {b : Nat} {z : Int} (h : Mem.blk w b [.int .i64 z]) (hz : -9223372036854775808 ≤ z ∧ z ≤ 9223372036854775807) (hF : b ∉ F) : WVin w F ⟨some ⟨b, 0, none⟩, [z], 1⟩ :=
  ⟨⟨⟨fun i x hx => ⟨b, 0, rfl, by
    rcases i with _ | i
    · cases hx; exact h.cell rfl
    · simp at hx⟩, by simp⟩, fun r hr => by rw [List.mem_singleton.1 hr]; exact hz, by simp⟩, fun k hk => by
    simp only [ablk, List.mem_singleton] at hk
    rw [hk]
    exact ⟨hF, h.lt⟩⟩
theorem Repref_ex {w : World} {b c : Nat} {v : Int} (n : Nat) (hn : n ≤ 1000) (hb : w.cell? ⟨b, 0, none⟩ = some (.int .i64 v)) :
    Calls Try.prog 9 #[.slice (some ⟨b, 0, none⟩) 1 c, .int .i64 n] w fun e w' => ∃ rb, e = .returned (.slice (some ⟨rb, 0, none⟩) n n) ∧ row w' 26 1 (.slice (some ⟨rb, 0, none⟩) n n) n (intCells (List.replicate n v)) ∧ w.heap.size ≤ rb ∧ Ch [] w w' := by
  refine (Repref_is n hn hb).mono ?_
  rintro e w' ⟨he, hr, hc⟩
  exact ⟨_, he, hr.row (by simp [intCells]) (by omega), Nat.le_refl _, hc⟩
theorem ev_in2 : inG (gIn 5 0) 2 = (gIn 5 2, [2, 4], 0) := by kernel_rfl
theorem ev_in1 : inG (gIn 5 2) 1 = (gIn 5 3, [6], 0) := by kernel_rfl
theorem ev_rd (a b : WV) (ha : a.l = natInts [2, 4]) (hb : b.l = natInts [2, 4]) : readG (gIn 5 3) ([a, b].map WV.l) (natInts [6]) = (gIn 5 3, [], 201) := by
  rw [List.map_cons, List.map_cons, List.map_nil, ha, hb]
  kernel_rfl
theorem ev_ch : chooseG (gIn 5 3) 2 (natInts [2, 4]) [4, 6] = (gIn 5 3, [], 201) := by kernel_rfl
theorem ev_len : (gIn 5 3).nodes.length = 4 := rfl
theorem lit_ten {pos : String} {after : Array Edge} {ops : Array Oper} {rest : List Oper} {a : Act} {w : World} {Q : Exit → Act → World → Prop} (h0 : a.eval (.tmp 271) = .int .i64 200) (h1 : a.eval (.tmp 272) = .int .i64 260) (h2 : a.eval (.tmp 273) = .int .i64 260) (h3 : a.eval (.tmp 274) = .int .i64 260) (h4 : a.eval (.tmp 275) = .int .i64 200) (h5 : a.eval (.tmp 276) = .int .i64 200) (h6 : a.eval (.tmp 277) = .int .i64 261) (h7 : a.eval (.tmp 278) = .int .i64 261) (h8 : a.eval (.tmp 279) = .int .i64 261) (h9 : a.eval (.tmp 280) = .int .i64 260) (h : wpList Try.prog ops Q rest (a.put (some 281) (.slice (some ⟨w.heap.size, 0, none⟩) 10 10)) (w.alloc (.cells #[.int .i64 200, .int .i64 260, .int .i64 260, .int .i64 260, .int .i64 200, .int .i64 200, .int .i64 261, .int .i64 261, .int .i64 261, .int .i64 260] 36))) : wpList Try.prog ops Q ({ dst := some 281, op := .buildSlice 37 10 #[(0, .tmp 271), (1, .tmp 272), (2, .tmp 273), (3, .tmp 274), (4, .tmp 275), (5, .tmp 276), (6, .tmp 277), (7, .tmp 278), (8, .tmp 279), (9, .tmp 280)], type := 37, pos := pos, after := after, guard := none } :: rest) a w := by
  refine Go.Great.wpList_buildSliceTo rfl 37 36 10 _ rfl _ rfl (some 281) rfl Try.underlying37 #[.int .i64 200, .int .i64 260, .int .i64 260, .int .i64 260, .int .i64 200, .int .i64 200, .int .i64 261, .int .i64 261, .int .i64 261, .int .i64 260] ?_ h
  simp only [List.map_toArray, List.map_cons, List.map_nil, h0, h1, h2, h3, h4, h5, h6, h7, h8, h9]
  kernel_rfl
theorem lit_errs {pos : String} {ops : Array Oper} {rest : List Oper} {a : Act} {w : World} {Q : Exit → Act → World → Prop} (h : wpList Try.prog ops Q rest (a.put (some 288) (.slice (some ⟨w.heap.size, 0, none⟩) 10 10)) (w.alloc (.cells #[.int .i64 200, .int .i64 260, .int .i64 260, .int .i64 260, .int .i64 200, .int .i64 200, .int .i64 261, .int .i64 261, .int .i64 261, .int .i64 260] 36))) : wpList Try.prog ops Q ({ dst := some 288, op := .buildSlice 37 10 #[(0, .const (.int .i64 200)), (1, .const (.int .i64 260)), (2, .const (.int .i64 260)), (3, .const (.int .i64 260)), (4, .const (.int .i64 200)), (5, .const (.int .i64 200)), (6, .const (.int .i64 261)), (7, .const (.int .i64 261)), (8, .const (.int .i64 261)), (9, .const (.int .i64 260))], type := 37, pos := pos, after := #[], guard := none } :: rest) a w :=
  Go.Great.wpList_buildSliceTo rfl 37 36 10 _ rfl _ rfl (some 288) rfl Try.underlying37 #[.int .i64 200, .int .i64 260, .int .i64 260, .int .i64 260, .int .i64 200, .int .i64 200, .int .i64 261, .int .i64 261, .int .i64 261, .int .i64 260] (by kernel_rfl) h
section
set_option maxRecDepth 100000 in
set_option maxHeartbeats 80000000 in
set_option linter.unusedSimpArgs false in
theorem MuxesWrong_core [Nonempty Unit] (w : World) (n wd v N W V T : Nat) (k : Int) (hk : -9223372036854775808 ≤ k ∧ k ≤ 9223372036854775807) (hN : n % 4 + 1 = N) (hW : wd % 3 + 1 = W) (hV : v % 3 + 1 = V) (hT : N * W + W + V + 1 = T) :
    Calls Try.prog 3 #[.int .u8 n, .int .u8 wd, .int .u8 v, .int .i64 k] w fun e w' => e = .returned (.bool true) ∧ Ch [] w w' := by
  have hN4 : 1 ≤ N ∧ N ≤ 4 := by omega
  have hW3 : 1 ≤ W ∧ W ≤ 3 := by omega
  have hV3 : 1 ≤ V ∧ V ≤ 3 := by omega
  have hNW : N * W ≤ 12 := Nat.mul_le_mul hN4.2 hW3.2
  obtain ⟨gd, hgd⟩ : ∃ gd : Nat, 2 * T = gd := ⟨_, rfl⟩
  have HBE := Lib.hid (fun W1 => begin26_T W1 n wd v N W V T gd hN hW hV hT hgd)
  have hT20 : T ≤ 19 := by omega
  have hgd50 : gd ≤ 50 := by omega
  clear hgd hN hW hV hT
  obtain ⟨LN, hlg⟩ : ∃ LN, (gIn 8000 T).nodes.length = LN := ⟨_, rfl⟩
  have hLN20 : LN ≤ 20 := by rw [← hlg]; simp [gIn]; omega
  obtain ⟨bad, hbad, hb1, hb2⟩ : ∃ bad : Int, (if k < 2 * (LN : Int) then 2 * (LN : Int) else k) = bad ∧ 2 * (LN : Int) ≤ bad ∧ bad ≤ 9223372036854775807 := ⟨_, rfl, by split <;> omega, by split <;> omega⟩
  obtain ⟨less, hless, hl1, hl2⟩ : ∃ less : Int, (if (-1 : Int) < k then -1 else k) = less ∧ less ≤ -1 ∧ -9223372036854775808 ≤ less := ⟨_, rfl, by split <;> omega, by split <;> omega⟩
  have hmaxb : ∀ ats ty, Builtin.max_ ats ty #[.int .i64 k, .int .i64 (2 * (LN : Int))] = pure (.int .i64 bad) := fun ats ty => by
    rw [← hbad]
    simp [Builtin.max_, Builtin.max2]
  have hminl : ∀ ats ty, Builtin.min_ ats ty #[.int .i64 k, .int .i64 (-1)] = pure (.int .i64 less) := fun ats ty => by
    rw [← hless]
    simp [Builtin.min_, Builtin.min2]
  obtain ⟨k0, hk0, hk01⟩ : ∃ k0 : Int, (if (0 : Int) < k then 0 else k) = k0 ∧ k0 ≤ 0 := ⟨_, rfl, by split <;> omega⟩
  obtain ⟨k17, hk17, hk171⟩ : ∃ k17 : Int, (if k < 17 then 17 else k) = k17 ∧ 17 ≤ k17 := ⟨_, rfl, by split <;> omega⟩
  have hmin0 : ∀ ats ty, Builtin.min_ ats ty #[.int .i64 k, .int .i64 0] = pure (.int .i64 k0) := fun ats ty => by
    rw [← hk0]
    simp [Builtin.min_, Builtin.min2]
  have hmax17 : ∀ ats ty, Builtin.max_ ats ty #[.int .i64 k, .int .i64 17] = pure (.int .i64 k17) := fun ats ty => by
    rw [← hk17]
    simp [Builtin.max_, Builtin.max2]
  have HMIN0 := Lib.hid hmin0; clear hmin0 hk0
  have HMAX17 := Lib.hid hmax17; clear hmax17 hk17
  clear hbad hless
  have HLG := Lib.hid hlg; clear hlg
  go_enter Try.func3, Try.ntmps3
  go_wp2_with fail
  refine (awake26_is w).mono ?_
  rintro e w1 ⟨rfl, hc1⟩
  have HC1 := Lib.hid hc1; clear hc1
  go_wp2_with fail
  refine (HBE.out w1).mono ?_
  rintro e w2 ⟨g, F, ab, ac, cs, ws, wa, wq, ia, ic, rfl, ho, hcs, hws⟩
  have hwl := wld_len hws
  have HWL1 := Lib.hid hwl; clear hwl
  have HWE := Lib.hid hws; clear hws
  have HCS := Lib.hid hcs; clear hcs
  have HO := Lib.hid ho; clear ho HBE
  go_upto_region 6 with fail
  refine wp_named fun W3 hW3' => ?_
  have hlb := alw_blk (xs := [.pointer (some ⟨g, 0, none⟩), .slice (some ⟨ab, 0, none⟩) N ac, .slice wa W wq, .slice ia V ic, .int .i64 (gd : Int)]) hW3'
  have ho := HO.out.keepN (alw_ch hW3') hlb
  clear hW3' hlb HO
  generalize w2.heap.size = bx at *
  have HO := Lib.hid ho; clear ho
  have hkx := HO.out.kb (b := bx) (xs := [.pointer (some ⟨g, 0, none⟩), .slice (some ⟨ab, 0, none⟩) N ac, .slice wa W wq, .slice ia V ic, .int .i64 (gd : Int)]) (by exact List.mem_cons_self ..)
  have z0 := hkx.cell (i := 0) rfl
  clear hkx
  go_wp2_with fail
  refine (Len_h HO.out HLG.out).mono ?_
  rintro e w4 ⟨rfl, ho⟩
  clear HO; have HO := Lib.hid ho; clear ho
  clear z0
  go_upto_region 9 with fail
  clear hmaxb hminl
  obtain ⟨W8, hW8⟩ : ∃ W8, W8 = w4 := ⟨_, rfl⟩
  rw [← hW8] at HO ⊢
  clear hW8
  go_cut [14] (fun p wd => ∃ (yb yc : Nat) (ua : Option Addr) (uc : Nat), p = .slice (some ⟨yb, 0, none⟩) (N + 1) yc ∧ NewA W8 wd N ws yb yc ⟨ua, natInts (rIn (N * W) W) ++ [0], uc⟩)
  case first => as_aux_lemma =>
    refine Ord.St.door (fun w' => blk w' bx [.pointer (some ⟨g, 0, none⟩), .slice (some ⟨ab, 0, none⟩) N ac, .slice wa W wq, .slice ia V ic, .int .i64 (gd : Int)]) [.fl, .ho, .ef, .fl, .ho, .ef, .ef, .ef, .ef, .ef, .fl] [0, 1, 3, 0, 8, 31, 0, 127, 255, 511, 1023] [0, 1, 2, 3, 4, 5, 6, 7, 8, 9, 10] mixed (by kernel_rfl) rfl ?_
    obtain ⟨Wc, hWc⟩ : ∃ Wc, Wc = W8.drew := ⟨_, rfl⟩
    rw [← hWc]
    have hc0 : Ch [] W8 Wc := by rw [hWc]; exact (Ch.refl _ _).drew
    clear hWc
    have hho := HO.out.same hc0
    have HHO := Lib.hid hho; clear hho
    have HCC := Lib.hid hc0
    have hkx := (HO.out.kb (b := bx) (xs := [.pointer (some ⟨g, 0, none⟩), .slice (some ⟨ab, 0, none⟩) N ac, .slice wa W wq, .slice ia V ic, .int .i64 (gd : Int)]) (by exact List.mem_cons_self ..)).ch hc0 (by simp)
    clear hc0
    refine Ord.St.fl2 (T' := ?_) 0 [1, 2, 3, 4, 5, 6, 7, 8, 9, 10] _ _ rfl (by kernel_rfl) rfl rfl rfl rfl (fun K w' hk => ?_) ?_
    rotate_left
    · go_step; exact hk
    refine Ord.St.ho2 (T' := ?_) 1 [2, 3, 4, 5, 6, 7, 8, 9, 10] _ _ rfl (by kernel_rfl) rfl rfl rfl rfl ?_ (fun K w' hw' hk => ?_) ?_
    rotate_left
    · exact hkx
    · have q0 := hw'.cell (i := 0) rfl; have q1 := hw'.cell (i := 1) rfl; have q2 := hw'.cell (i := 2) rfl; go_step; exact hk
    refine Ord.St.fl2 (T' := ?_) 3 [2, 4, 5, 6, 7, 8, 9, 10] _ _ rfl (by kernel_rfl) rfl rfl rfl rfl (fun K w' hk => ?_) ?_
    rotate_left
    · go_step; exact hk
    refine Ord.St.ho2 (T' := ?_) 4 [2, 5, 6, 7, 8, 9, 10] _ _ rfl (by kernel_rfl) rfl rfl rfl rfl ?_ (fun K w' hw' hk => ?_) ?_
    rotate_left
    · exact hkx
    · have q0 := hw'.cell (i := 0) rfl; have q1 := hw'.cell (i := 1) rfl; have q2 := hw'.cell (i := 2) rfl; go_step; exact hk
    refine Ord.St.two 2 6 [5, 6, 7, 8, 9, 10] [2, 5, 7, 8, 9, 10] _ _ (by kernel_rfl) rfl rfl (by kernel_rfl) (by kernel_rfl) (fun K hK => ?_) (fun K hK => ?_)
    · have hcl := CLlst_is (a := some ⟨ab, 0, none⟩) (l := slW ws) N ac (by rw [slW_len]; exact HWL1.out) (HHO.out.svA (b := ab) (cs := cs) (ws := ws) (by exact List.mem_cons_of_mem _ (List.mem_cons_self ..)) HCS.out (by rw [HWL1.out]; omega)) (by omega)
      have HCL := Lib.hid hcl; clear hcl
      go_wp2_with fail
      refine HCL.out.mono ?_
      rintro e wA ⟨v2, rfl, hr2, hv2, hcX⟩
      obtain ⟨tb, tc, rfl⟩ := hr2.parts (by omega)
      have htb := Nat.le_trans HCC.out.size (hv2 tb (by simp))
      have HTB := Lib.hid htb; clear htb hv2 HCL
      have HR2 := Lib.hid hr2; clear hr2
      have hho := HHO.out.same hcX
      clear HHO
      have HHO := Lib.hid hho; clear hho
      have hcc := HCC.out.trans hcX (by simp)
      clear HCC
      have HCC := Lib.hid hcc; clear hcc
      replace hkx := hkx.ch hcX (by simp)
      try (have hq2 := HB6.out.ch hcX (by simp); clear HB6; have HB6 := Lib.hid hq2; clear hq2)
      clear hcX
      go_wp2_with fail
      refine ⟨rfl, hK _ _ ?_ ?_⟩
      · exact hkx
      clear hK K
      refine Ord.St.two 5 6 [6, 7, 8, 9, 10] [5, 7, 8, 9, 10] _ _ (by kernel_rfl) rfl rfl (by kernel_rfl) (by kernel_rfl) (fun K hK => ?_) (fun K hK => ?_)
      · have hcl := Clref_w (HHO.out.at (a := wa) (n := W) (c := wq) (l := natInts (rIn (N * W) W)) (by exact List.mem_append_right _ (List.mem_cons_self ..)) (by simp [rIn])).ok W (by simp [rIn])
        have HCL := Lib.hid hcl; clear hcl
        go_wp2_with fail
        refine HCL.out.mono ?_
        rintro e wB ⟨v5, rfl, hr5, hv5, hcX⟩
        rw [show (intCells (natInts (rIn (N * W) W))).length = W by simp [intCells, rIn]] at hr5
        obtain ⟨wa5, wc5, rfl⟩ := row.shape hr5
        have h5f := fun q hq => Nat.le_trans HCC.out.size (hv5 q hq)
        have h5n : ∀ q ∈ (Value.slice wa5 W wc5).ownBlock.toList, q ≠ tb := fun q hq => by have := hv5 q hq; have := (HR2.out.lt tb rfl).2; omega
        have H5F := Lib.hid h5f; clear h5f
        have H5N := Lib.hid h5n; clear h5n HCL hv5
        have HR5 := Lib.hid hr5; clear hr5
        have hho := HHO.out.same hcX
        clear HHO
        have HHO := Lib.hid hho; clear hho
        have hcc := HCC.out.trans hcX (by simp)
        clear HCC
        have HCC := Lib.hid hcc; clear hcc
        replace hkx := hkx.ch hcX (by simp)
        try (have hq2 := HR2.out.ch hcX (by simp); clear HR2; have HR2 := Lib.hid hq2; clear hq2)
        try (have hq2 := HB6.out.ch hcX (by simp); clear HB6; have HB6 := Lib.hid hq2; clear hq2)
        clear hcX
        go_wp2_with fail
        refine ⟨rfl, hK _ _ ?_ ?_⟩
        · exact hkx
        clear hK K
        refine Ord.St.efC 6 [7, 8, 9, 10] _ rfl (by kernel_rfl) (fun K hK => ?_)
        go_wp2_with fail
        refine ⟨rfl, hK _ _ ?_ ?_⟩
        · exact hkx.alloc _
        clear hK K
        refine Ord.St.alw ?_; intro Wn hWn
        have hcX := alw_ch hWn
        obtain ⟨p6, hpe, hb6⟩ : ∃ p6, p6 = _ ∧ blk Wn p6 [.int .i64 0] := ⟨_, rfl, alw_blk hWn⟩
        rw [← hpe]
        clear hWn hpe
        have HB6 := Lib.hid hb6; clear hb6
        have hho := HHO.out.same hcX
        clear HHO
        have HHO := Lib.hid hho; clear hho
        have hcc := HCC.out.trans hcX (by simp)
        clear HCC
        have HCC := Lib.hid hcc; clear hcc
        replace hkx := hkx.ch hcX (by simp)
        try (have hq2 := HR2.out.ch hcX (by simp); clear HR2; have HR2 := Lib.hid hq2; clear hq2)
        try (have hq2 := HR5.out.ch hcX (by simp); clear HR5; have HR5 := Lib.hid hq2; clear hq2)
        clear hcX
        refine Ord.St.ef 7 [8, 9, 10] _ rfl (by kernel_rfl) (fun K hK => ?_)
        have hpz := HR2.out.lt tb rfl
        go_wp2_with (at_builtin; go_loud (refine wpList_append_row slRefs rfl _ _ rfl (v := .slice wa5 W wc5) (n := W) (xs := intCells (natInts (rIn (N * W) W))) rfl HR5.out (ad := ⟨p6, 0, none⟩) (m := 1) (c := 1) (news := [.int .i64 0]) rfl rfl (news_blk HB6.out) (by simp [Value.oneCell']) (by omega) (by omega) ?_; intro v7 wC hr7 hcX hf7; obtain ⟨ub, uc, rfl⟩ := hr7.parts (by omega); have HR7 := Lib.hid hr7; clear hr7; have hub : W8.heap.size ≤ ub ∧ ub ≠ tb := (hf7 ub rfl).elim (fun e => ⟨H5F.out ub (by simpa using e), H5N.out ub (by simpa using e)⟩) (fun e => ⟨Nat.le_trans HCC.out.size e, by omega⟩); have HUB := Lib.hid hub; clear hub hf7 hpz; have HCX := Lib.hid hcX; clear hcX))
        have hcX := HCX.out
        clear HCX HB6 HR5
        have hho := HHO.out.grow hcX (fun q hq => HO.out.far (H5F.out q hq))
        clear HHO
        have HHO := Lib.hid hho; clear hho
        have hcc := HCC.out.trans hcX (fun q hq => .inr (H5F.out q hq))
        clear HCC
        have HCC := Lib.hid hcc; clear hcc
        replace hkx := hkx.ch hcX (fun hq => (HO.out.far (H5F.out _ hq)).2.2.1 _ (by exact List.mem_cons_self ..) rfl)
        have hq2 := HR2.out.ch hcX (fun k hk hin => H5N.out k hin (by simpa using hk.symm))
        clear HR2
        have HR2 := Lib.hid hq2; clear hq2
        clear hcX
        refine ⟨rfl, hK _ _ ?_⟩; clear hK K
        refine Ord.St.ef 8 [9, 10] _ rfl (by kernel_rfl) (fun K hK => ?_)
        go_wp2_with fail
        refine ⟨rfl, hK _ _ ?_⟩; clear hK K
        refine Ord.St.alw ?_; intro Wn hWn
        have hcX := alw_ch hWn
        obtain ⟨p8, hpe, hb6⟩ : ∃ p8, p8 = _ ∧ blk Wn p8 [.slice (some ⟨ub, 0, none⟩) (W + 1) uc] := ⟨_, rfl, alw_blk hWn⟩
        rw [← hpe]
        clear hWn hpe
        have HB8 := Lib.hid hb6; clear hb6
        have hho := HHO.out.same hcX
        clear HHO
        have HHO := Lib.hid hho; clear hho
        have hcc := HCC.out.trans hcX (by simp)
        clear HCC
        have HCC := Lib.hid hcc; clear hcc
        replace hkx := hkx.ch hcX (by simp)
        try (have hq2 := HR2.out.ch hcX (by simp); clear HR2; have HR2 := Lib.hid hq2; clear hq2)
        try (have hq2 := HR7.out.ch hcX (by simp); clear HR7; have HR7 := Lib.hid hq2; clear hq2)
        clear hcX
        refine Ord.St.ef 9 [10] _ rfl (by kernel_rfl) (fun K hK => ?_)
        go_wp2_with (at_builtin; go_loud (refine wpList_append_row slRows rfl _ _ rfl (v := .slice (some ⟨tb, 0, none⟩) N tc) (n := N) (xs := slvs (slW ws)) rfl HR2.out (ad := ⟨p8, 0, none⟩) (m := 1) (c := 1) (news := [.slice (some ⟨ub, 0, none⟩) (W + 1) uc]) rfl rfl (news_blk HB8.out) (by simp [Value.oneCell']) (by omega) (by omega) ?_; intro v9 wD hr9 hcX hf9; obtain ⟨yb, yc, rfl⟩ := hr9.parts (by omega); have HR9 := Lib.hid hr9; clear hr9; have hyb : W8.heap.size ≤ yb := (hf9 yb rfl).elim (fun e => by cases e; exact HTB.out) (fun e => Nat.le_trans HCC.out.size e); have HYB := Lib.hid hyb; clear hyb hf9; have HCX := Lib.hid hcX; clear hcX))
        have hcX := HCX.out
        clear HCX HB8 HR2
        have hho := HHO.out.grow hcX (fun q hq => HO.out.far ((fun q hq => (by rw [show q = tb by simpa using hq]; exact HTB.out : W8.heap.size ≤ q)) q hq))
        clear HHO
        have HHO := Lib.hid hho; clear hho
        have hcc := HCC.out.trans hcX (fun q hq => .inr ((fun q hq => (by rw [show q = tb by simpa using hq]; exact HTB.out : W8.heap.size ≤ q)) q hq))
        clear HCC
        have HCC := Lib.hid hcc; clear hcc
        replace hkx := hkx.ch hcX (fun hq => (HO.out.far ((fun q hq => (by rw [show q = tb by simpa using hq]; exact HTB.out : W8.heap.size ≤ q)) _ hq)).2.2.1 _ (by exact List.mem_cons_self ..) rfl)
        have hq2 := HR7.out.ch hcX (fun k hk hin => HUB.out.2 (by have h1 : k = tb := (by simpa using hin); have h2 : k = ub := (by simpa using hk.symm); omega))
        clear HR7
        have HR7 := Lib.hid hq2; clear hq2
        clear hcX
        refine ⟨rfl, hK _ _ ?_⟩; clear hK K
        refine Ord.St.fl2 (T' := ?_) 10 [] _ _ rfl (by kernel_rfl) rfl rfl rfl rfl (fun K w' hk => ?_) ?_
        rotate_left
        · go_step; exact hk
        refine Ord.St.nil ?_
        go_wp2_with fail
        go_meet
        case rel =>
          refine ⟨yb, yc, some ⟨ub, 0, none⟩, uc, rfl, HCC.out, ?_, ?_, ⟨HYB.out, fun k hk => ?_⟩, ?_, ?_⟩
          · have h9 := HR9.out
            rw [show slvs (slW (ws ++ [⟨some ⟨ub, 0, none⟩, natInts (rIn (N * W) W) ++ [0], uc⟩])) = slvs (slW ws) ++ [.slice (some ⟨ub, 0, none⟩) (W + 1) uc] by simp [slvs, slW, slv, rIn]]
            exact h9
          · have h7 := HR7.out
            show row _ _ _ (Value.slice _ (natInts (rIn (N * W) W) ++ [0]).length uc) (natInts (rIn (N * W) W) ++ [0]).length (intCells (natInts (rIn (N * W) W) ++ [0]))
            rw [(show (natInts (rIn (N * W) W) ++ [(0 : Int)]).length = W + 1 from by simp [rIn]), (show intCells (natInts (rIn (N * W) W) ++ [(0 : Int)]) = intCells (natInts (rIn (N * W) W)) ++ [.int .i64 0] from by simp [intCells])]
            exact h7
          · have h1 : k = ub := by simpa using hk.symm
            rw [h1]; exact HUB.out.1
          · simp [rIn]; omega
          · intro r hr
            rcases List.mem_append.1 hr with hr | hr
            · exact (rIn_held (s := N * W) (k := W) (by omega)).2 r hr
            · rw [List.mem_singleton.1 hr]; omega
      · go_wp2_with fail
        refine ⟨rfl, hK _ _ ?_ ?_⟩
        · exact hkx.alloc _
        clear hK K
        refine Ord.St.alw ?_; intro Wn hWn
        have hcX := alw_ch hWn
        obtain ⟨p6, hpe, hb6⟩ : ∃ p6, p6 = _ ∧ blk Wn p6 [.int .i64 0] := ⟨_, rfl, alw_blk hWn⟩
        rw [← hpe]
        clear hWn hpe
        have HB6 := Lib.hid hb6; clear hb6
        have hho := HHO.out.same hcX
        clear HHO
        have HHO := Lib.hid hho; clear hho
        have hcc := HCC.out.trans hcX (by simp)
        clear HCC
        have HCC := Lib.hid hcc; clear hcc
        replace hkx := hkx.ch hcX (by simp)
        try (have hq2 := HR2.out.ch hcX (by simp); clear HR2; have HR2 := Lib.hid hq2; clear hq2)
        try (have hq2 := HR5.out.ch hcX (by simp); clear HR5; have HR5 := Lib.hid hq2; clear hq2)
        clear hcX
        refine Ord.St.ef 5 [7, 8, 9, 10] _ rfl (by kernel_rfl) (fun K hK => ?_)
        have hcl := Clref_w (HHO.out.at (a := wa) (n := W) (c := wq) (l := natInts (rIn (N * W) W)) (by exact List.mem_append_right _ (List.mem_cons_self ..)) (by simp [rIn])).ok W (by simp [rIn])
        have HCL := Lib.hid hcl; clear hcl
        go_wp2_with fail
        refine HCL.out.mono ?_
        rintro e wB ⟨v5, rfl, hr5, hv5, hcX⟩
        rw [show (intCells (natInts (rIn (N * W) W))).length = W by simp [intCells, rIn]] at hr5
        obtain ⟨wa5, wc5, rfl⟩ := row.shape hr5
        have h5f := fun q hq => Nat.le_trans HCC.out.size (hv5 q hq)
        have h5n : ∀ q ∈ (Value.slice wa5 W wc5).ownBlock.toList, q ≠ tb := fun q hq => by have := hv5 q hq; have := (HR2.out.lt tb rfl).2; omega
        have H5F := Lib.hid h5f; clear h5f
        have H5N := Lib.hid h5n; clear h5n HCL hv5
        have HR5 := Lib.hid hr5; clear hr5
        have hho := HHO.out.same hcX
        clear HHO
        have HHO := Lib.hid hho; clear hho
        have hcc := HCC.out.trans hcX (by simp)
        clear HCC
        have HCC := Lib.hid hcc; clear hcc
        replace hkx := hkx.ch hcX (by simp)
        try (have hq2 := HR2.out.ch hcX (by simp); clear HR2; have HR2 := Lib.hid hq2; clear hq2)
        try (have hq2 := HB6.out.ch hcX (by simp); clear HB6; have HB6 := Lib.hid hq2; clear hq2)
        clear hcX
        go_wp2_with fail
        refine ⟨rfl, hK _ _ ?_⟩; clear hK K
        refine Ord.St.ef 7 [8, 9, 10] _ rfl (by kernel_rfl) (fun K hK => ?_)
        have hpz := HR2.out.lt tb rfl
        go_wp2_with (at_builtin; go_loud (refine wpList_append_row slRefs rfl _ _ rfl (v := .slice wa5 W wc5) (n := W) (xs := intCells (natInts (rIn (N * W) W))) rfl HR5.out (ad := ⟨p6, 0, none⟩) (m := 1) (c := 1) (news := [.int .i64 0]) rfl rfl (news_blk HB6.out) (by simp [Value.oneCell']) (by omega) (by omega) ?_; intro v7 wC hr7 hcX hf7; obtain ⟨ub, uc, rfl⟩ := hr7.parts (by omega); have HR7 := Lib.hid hr7; clear hr7; have hub : W8.heap.size ≤ ub ∧ ub ≠ tb := (hf7 ub rfl).elim (fun e => ⟨H5F.out ub (by simpa using e), H5N.out ub (by simpa using e)⟩) (fun e => ⟨Nat.le_trans HCC.out.size e, by omega⟩); have HUB := Lib.hid hub; clear hub hf7 hpz; have HCX := Lib.hid hcX; clear hcX))
        have hcX := HCX.out
        clear HCX HB6 HR5
        have hho := HHO.out.grow hcX (fun q hq => HO.out.far (H5F.out q hq))
        clear HHO
        have HHO := Lib.hid hho; clear hho
        have hcc := HCC.out.trans hcX (fun q hq => .inr (H5F.out q hq))
        clear HCC
        have HCC := Lib.hid hcc; clear hcc
        replace hkx := hkx.ch hcX (fun hq => (HO.out.far (H5F.out _ hq)).2.2.1 _ (by exact List.mem_cons_self ..) rfl)
        have hq2 := HR2.out.ch hcX (fun k hk hin => H5N.out k hin (by simpa using hk.symm))
        clear HR2
        have HR2 := Lib.hid hq2; clear hq2
        clear hcX
        refine ⟨rfl, hK _ _ ?_⟩; clear hK K
        refine Ord.St.ef 8 [9, 10] _ rfl (by kernel_rfl) (fun K hK => ?_)
        go_wp2_with fail
        refine ⟨rfl, hK _ _ ?_⟩; clear hK K
        refine Ord.St.alw ?_; intro Wn hWn
        have hcX := alw_ch hWn
        obtain ⟨p8, hpe, hb6⟩ : ∃ p8, p8 = _ ∧ blk Wn p8 [.slice (some ⟨ub, 0, none⟩) (W + 1) uc] := ⟨_, rfl, alw_blk hWn⟩
        rw [← hpe]
        clear hWn hpe
        have HB8 := Lib.hid hb6; clear hb6
        have hho := HHO.out.same hcX
        clear HHO
        have HHO := Lib.hid hho; clear hho
        have hcc := HCC.out.trans hcX (by simp)
        clear HCC
        have HCC := Lib.hid hcc; clear hcc
        replace hkx := hkx.ch hcX (by simp)
        try (have hq2 := HR2.out.ch hcX (by simp); clear HR2; have HR2 := Lib.hid hq2; clear hq2)
        try (have hq2 := HR7.out.ch hcX (by simp); clear HR7; have HR7 := Lib.hid hq2; clear hq2)
        clear hcX
        refine Ord.St.ef 9 [10] _ rfl (by kernel_rfl) (fun K hK => ?_)
        go_wp2_with (at_builtin; go_loud (refine wpList_append_row slRows rfl _ _ rfl (v := .slice (some ⟨tb, 0, none⟩) N tc) (n := N) (xs := slvs (slW ws)) rfl HR2.out (ad := ⟨p8, 0, none⟩) (m := 1) (c := 1) (news := [.slice (some ⟨ub, 0, none⟩) (W + 1) uc]) rfl rfl (news_blk HB8.out) (by simp [Value.oneCell']) (by omega) (by omega) ?_; intro v9 wD hr9 hcX hf9; obtain ⟨yb, yc, rfl⟩ := hr9.parts (by omega); have HR9 := Lib.hid hr9; clear hr9; have hyb : W8.heap.size ≤ yb := (hf9 yb rfl).elim (fun e => by cases e; exact HTB.out) (fun e => Nat.le_trans HCC.out.size e); have HYB := Lib.hid hyb; clear hyb hf9; have HCX := Lib.hid hcX; clear hcX))
        have hcX := HCX.out
        clear HCX HB8 HR2
        have hho := HHO.out.grow hcX (fun q hq => HO.out.far ((fun q hq => (by rw [show q = tb by simpa using hq]; exact HTB.out : W8.heap.size ≤ q)) q hq))
        clear HHO
        have HHO := Lib.hid hho; clear hho
        have hcc := HCC.out.trans hcX (fun q hq => .inr ((fun q hq => (by rw [show q = tb by simpa using hq]; exact HTB.out : W8.heap.size ≤ q)) q hq))
        clear HCC
        have HCC := Lib.hid hcc; clear hcc
        replace hkx := hkx.ch hcX (fun hq => (HO.out.far ((fun q hq => (by rw [show q = tb by simpa using hq]; exact HTB.out : W8.heap.size ≤ q)) _ hq)).2.2.1 _ (by exact List.mem_cons_self ..) rfl)
        have hq2 := HR7.out.ch hcX (fun k hk hin => HUB.out.2 (by have h1 : k = tb := (by simpa using hin); have h2 : k = ub := (by simpa using hk.symm); omega))
        clear HR7
        have HR7 := Lib.hid hq2; clear hq2
        clear hcX
        refine ⟨rfl, hK _ _ ?_⟩; clear hK K
        refine Ord.St.fl2 (T' := ?_) 10 [] _ _ rfl (by kernel_rfl) rfl rfl rfl rfl (fun K w' hk => ?_) ?_
        rotate_left
        · go_step; exact hk
        refine Ord.St.nil ?_
        go_wp2_with fail
        go_meet
        case rel =>
          refine ⟨yb, yc, some ⟨ub, 0, none⟩, uc, rfl, HCC.out, ?_, ?_, ⟨HYB.out, fun k hk => ?_⟩, ?_, ?_⟩
          · have h9 := HR9.out
            rw [show slvs (slW (ws ++ [⟨some ⟨ub, 0, none⟩, natInts (rIn (N * W) W) ++ [0], uc⟩])) = slvs (slW ws) ++ [.slice (some ⟨ub, 0, none⟩) (W + 1) uc] by simp [slvs, slW, slv, rIn]]
            exact h9
          · have h7 := HR7.out
            show row _ _ _ (Value.slice _ (natInts (rIn (N * W) W) ++ [0]).length uc) (natInts (rIn (N * W) W) ++ [0]).length (intCells (natInts (rIn (N * W) W) ++ [0]))
            rw [(show (natInts (rIn (N * W) W) ++ [(0 : Int)]).length = W + 1 from by simp [rIn]), (show intCells (natInts (rIn (N * W) W) ++ [(0 : Int)]) = intCells (natInts (rIn (N * W) W)) ++ [.int .i64 0] from by simp [intCells])]
            exact h7
          · have h1 : k = ub := by simpa using hk.symm
            rw [h1]; exact HUB.out.1
          · simp [rIn]; omega
          · intro r hr
            rcases List.mem_append.1 hr with hr | hr
            · exact (rIn_held (s := N * W) (k := W) (by omega)).2 r hr
            · rw [List.mem_singleton.1 hr]; omega
    · go_wp2_with fail
      refine ⟨rfl, hK _ _ ?_ ?_⟩
      · exact hkx.alloc _
      clear hK K
      refine Ord.St.alw ?_; intro Wn hWn
      have hcX := alw_ch hWn
      obtain ⟨p6, hpe, hb6⟩ : ∃ p6, p6 = _ ∧ blk Wn p6 [.int .i64 0] := ⟨_, rfl, alw_blk hWn⟩
      rw [← hpe]
      clear hWn hpe
      have HB6 := Lib.hid hb6; clear hb6
      have hho := HHO.out.same hcX
      clear HHO
      have HHO := Lib.hid hho; clear hho
      have hcc := HCC.out.trans hcX (by simp)
      clear HCC
      have HCC := Lib.hid hcc; clear hcc
      replace hkx := hkx.ch hcX (by simp)
      try (have hq2 := HR2.out.ch hcX (by simp); clear HR2; have HR2 := Lib.hid hq2; clear hq2)
      try (have hq2 := HR5.out.ch hcX (by simp); clear HR5; have HR5 := Lib.hid hq2; clear hq2)
      clear hcX
      refine Ord.St.efC 2 [5, 7, 8, 9, 10] _ rfl (by kernel_rfl) (fun K hK => ?_)
      have hcl := CLlst_is (a := some ⟨ab, 0, none⟩) (l := slW ws) N ac (by rw [slW_len]; exact HWL1.out) (HHO.out.svA (b := ab) (cs := cs) (ws := ws) (by exact List.mem_cons_of_mem _ (List.mem_cons_self ..)) HCS.out (by rw [HWL1.out]; omega)) (by omega)
      have HCL := Lib.hid hcl; clear hcl
      go_wp2_with fail
      refine HCL.out.mono ?_
      rintro e wA ⟨v2, rfl, hr2, hv2, hcX⟩
      obtain ⟨tb, tc, rfl⟩ := hr2.parts (by omega)
      have htb := Nat.le_trans HCC.out.size (hv2 tb (by simp))
      have HTB := Lib.hid htb; clear htb hv2 HCL
      have HR2 := Lib.hid hr2; clear hr2
      have hho := HHO.out.same hcX
      clear HHO
      have HHO := Lib.hid hho; clear hho
      have hcc := HCC.out.trans hcX (by simp)
      clear HCC
      have HCC := Lib.hid hcc; clear hcc
      replace hkx := hkx.ch hcX (by simp)
      try (have hq2 := HB6.out.ch hcX (by simp); clear HB6; have HB6 := Lib.hid hq2; clear hq2)
      clear hcX
      go_wp2_with fail
      refine ⟨rfl, hK _ _ ?_ ?_⟩
      · exact hkx
      clear hK K
      refine Ord.St.ef 5 [7, 8, 9, 10] _ rfl (by kernel_rfl) (fun K hK => ?_)
      have hcl := Clref_w (HHO.out.at (a := wa) (n := W) (c := wq) (l := natInts (rIn (N * W) W)) (by exact List.mem_append_right _ (List.mem_cons_self ..)) (by simp [rIn])).ok W (by simp [rIn])
      have HCL := Lib.hid hcl; clear hcl
      go_wp2_with fail
      refine HCL.out.mono ?_
      rintro e wB ⟨v5, rfl, hr5, hv5, hcX⟩
      rw [show (intCells (natInts (rIn (N * W) W))).length = W by simp [intCells, rIn]] at hr5
      obtain ⟨wa5, wc5, rfl⟩ := row.shape hr5
      have h5f := fun q hq => Nat.le_trans HCC.out.size (hv5 q hq)
      have h5n : ∀ q ∈ (Value.slice wa5 W wc5).ownBlock.toList, q ≠ tb := fun q hq => by have := hv5 q hq; have := (HR2.out.lt tb rfl).2; omega
      have H5F := Lib.hid h5f; clear h5f
      have H5N := Lib.hid h5n; clear h5n HCL hv5
      have HR5 := Lib.hid hr5; clear hr5
      have hho := HHO.out.same hcX
      clear HHO
      have HHO := Lib.hid hho; clear hho
      have hcc := HCC.out.trans hcX (by simp)
      clear HCC
      have HCC := Lib.hid hcc; clear hcc
      replace hkx := hkx.ch hcX (by simp)
      try (have hq2 := HR2.out.ch hcX (by simp); clear HR2; have HR2 := Lib.hid hq2; clear hq2)
      try (have hq2 := HB6.out.ch hcX (by simp); clear HB6; have HB6 := Lib.hid hq2; clear hq2)
      clear hcX
      go_wp2_with fail
      refine ⟨rfl, hK _ _ ?_⟩; clear hK K
      refine Ord.St.ef 7 [8, 9, 10] _ rfl (by kernel_rfl) (fun K hK => ?_)
      have hpz := HR2.out.lt tb rfl
      go_wp2_with (at_builtin; go_loud (refine wpList_append_row slRefs rfl _ _ rfl (v := .slice wa5 W wc5) (n := W) (xs := intCells (natInts (rIn (N * W) W))) rfl HR5.out (ad := ⟨p6, 0, none⟩) (m := 1) (c := 1) (news := [.int .i64 0]) rfl rfl (news_blk HB6.out) (by simp [Value.oneCell']) (by omega) (by omega) ?_; intro v7 wC hr7 hcX hf7; obtain ⟨ub, uc, rfl⟩ := hr7.parts (by omega); have HR7 := Lib.hid hr7; clear hr7; have hub : W8.heap.size ≤ ub ∧ ub ≠ tb := (hf7 ub rfl).elim (fun e => ⟨H5F.out ub (by simpa using e), H5N.out ub (by simpa using e)⟩) (fun e => ⟨Nat.le_trans HCC.out.size e, by omega⟩); have HUB := Lib.hid hub; clear hub hf7 hpz; have HCX := Lib.hid hcX; clear hcX))
      have hcX := HCX.out
      clear HCX HB6 HR5
      have hho := HHO.out.grow hcX (fun q hq => HO.out.far (H5F.out q hq))
      clear HHO
      have HHO := Lib.hid hho; clear hho
      have hcc := HCC.out.trans hcX (fun q hq => .inr (H5F.out q hq))
      clear HCC
      have HCC := Lib.hid hcc; clear hcc
      replace hkx := hkx.ch hcX (fun hq => (HO.out.far (H5F.out _ hq)).2.2.1 _ (by exact List.mem_cons_self ..) rfl)
      have hq2 := HR2.out.ch hcX (fun k hk hin => H5N.out k hin (by simpa using hk.symm))
      clear HR2
      have HR2 := Lib.hid hq2; clear hq2
      clear hcX
      refine ⟨rfl, hK _ _ ?_⟩; clear hK K
      refine Ord.St.ef 8 [9, 10] _ rfl (by kernel_rfl) (fun K hK => ?_)
      go_wp2_with fail
      refine ⟨rfl, hK _ _ ?_⟩; clear hK K
      refine Ord.St.alw ?_; intro Wn hWn
      have hcX := alw_ch hWn
      obtain ⟨p8, hpe, hb6⟩ : ∃ p8, p8 = _ ∧ blk Wn p8 [.slice (some ⟨ub, 0, none⟩) (W + 1) uc] := ⟨_, rfl, alw_blk hWn⟩
      rw [← hpe]
      clear hWn hpe
      have HB8 := Lib.hid hb6; clear hb6
      have hho := HHO.out.same hcX
      clear HHO
      have HHO := Lib.hid hho; clear hho
      have hcc := HCC.out.trans hcX (by simp)
      clear HCC
      have HCC := Lib.hid hcc; clear hcc
      replace hkx := hkx.ch hcX (by simp)
      try (have hq2 := HR2.out.ch hcX (by simp); clear HR2; have HR2 := Lib.hid hq2; clear hq2)
      try (have hq2 := HR7.out.ch hcX (by simp); clear HR7; have HR7 := Lib.hid hq2; clear hq2)
      clear hcX
      refine Ord.St.ef 9 [10] _ rfl (by kernel_rfl) (fun K hK => ?_)
      go_wp2_with (at_builtin; go_loud (refine wpList_append_row slRows rfl _ _ rfl (v := .slice (some ⟨tb, 0, none⟩) N tc) (n := N) (xs := slvs (slW ws)) rfl HR2.out (ad := ⟨p8, 0, none⟩) (m := 1) (c := 1) (news := [.slice (some ⟨ub, 0, none⟩) (W + 1) uc]) rfl rfl (news_blk HB8.out) (by simp [Value.oneCell']) (by omega) (by omega) ?_; intro v9 wD hr9 hcX hf9; obtain ⟨yb, yc, rfl⟩ := hr9.parts (by omega); have HR9 := Lib.hid hr9; clear hr9; have hyb : W8.heap.size ≤ yb := (hf9 yb rfl).elim (fun e => by cases e; exact HTB.out) (fun e => Nat.le_trans HCC.out.size e); have HYB := Lib.hid hyb; clear hyb hf9; have HCX := Lib.hid hcX; clear hcX))
      have hcX := HCX.out
      clear HCX HB8 HR2
      have hho := HHO.out.grow hcX (fun q hq => HO.out.far ((fun q hq => (by rw [show q = tb by simpa using hq]; exact HTB.out : W8.heap.size ≤ q)) q hq))
      clear HHO
      have HHO := Lib.hid hho; clear hho
      have hcc := HCC.out.trans hcX (fun q hq => .inr ((fun q hq => (by rw [show q = tb by simpa using hq]; exact HTB.out : W8.heap.size ≤ q)) q hq))
      clear HCC
      have HCC := Lib.hid hcc; clear hcc
      replace hkx := hkx.ch hcX (fun hq => (HO.out.far ((fun q hq => (by rw [show q = tb by simpa using hq]; exact HTB.out : W8.heap.size ≤ q)) _ hq)).2.2.1 _ (by exact List.mem_cons_self ..) rfl)
      have hq2 := HR7.out.ch hcX (fun k hk hin => HUB.out.2 (by have h1 : k = tb := (by simpa using hin); have h2 : k = ub := (by simpa using hk.symm); omega))
      clear HR7
      have HR7 := Lib.hid hq2; clear hq2
      clear hcX
      refine ⟨rfl, hK _ _ ?_⟩; clear hK K
      refine Ord.St.fl2 (T' := ?_) 10 [] _ _ rfl (by kernel_rfl) rfl rfl rfl rfl (fun K w' hk => ?_) ?_
      rotate_left
      · go_step; exact hk
      refine Ord.St.nil ?_
      go_wp2_with fail
      go_meet
      case rel =>
        refine ⟨yb, yc, some ⟨ub, 0, none⟩, uc, rfl, HCC.out, ?_, ?_, ⟨HYB.out, fun k hk => ?_⟩, ?_, ?_⟩
        · have h9 := HR9.out
          rw [show slvs (slW (ws ++ [⟨some ⟨ub, 0, none⟩, natInts (rIn (N * W) W) ++ [0], uc⟩])) = slvs (slW ws) ++ [.slice (some ⟨ub, 0, none⟩) (W + 1) uc] by simp [slvs, slW, slv, rIn]]
          exact h9
        · have h7 := HR7.out
          show row _ _ _ (Value.slice _ (natInts (rIn (N * W) W) ++ [0]).length uc) (natInts (rIn (N * W) W) ++ [0]).length (intCells (natInts (rIn (N * W) W) ++ [0]))
          rw [(show (natInts (rIn (N * W) W) ++ [(0 : Int)]).length = W + 1 from by simp [rIn]), (show intCells (natInts (rIn (N * W) W) ++ [(0 : Int)]) = intCells (natInts (rIn (N * W) W)) ++ [.int .i64 0] from by simp [intCells])]
          exact h7
        · have h1 : k = ub := by simpa using hk.symm
          rw [h1]; exact HUB.out.1
        · simp [rIn]; omega
        · intro r hr
          rcases List.mem_append.1 hr with hr | hr
          · exact (rIn_held (s := N * W) (k := W) (by omega)).2 r hr
          · rw [List.mem_singleton.1 hr]; omega
  case rest => as_aux_lemma =>
    obtain ⟨yb, yc, ua, uc, rfl, hA⟩ := hcut
    obtain ⟨cs1, ho, hcs1⟩ := hA.hold HO.out
    clear hA HO
    have HO := Lib.hid ho; clear ho
    have HCS1 := Lib.hid hcs1; clear hcs1
    go_upto_region 10 with fail
    go_cut [15] (fun p wd => ∃ (yb2 yc2 rb : Nat), p = .slice (some ⟨yb2, 0, none⟩) (N + 1) yc2 ∧ NewA wc wd N ws yb2 yc2 ⟨some ⟨rb, 0, none⟩, List.replicate W bad, W⟩)
    case first => as_aux_lemma =>
      refine Ord.St.door (fun w' => blk w' bx [.pointer (some ⟨g, 0, none⟩), .slice (some ⟨ab, 0, none⟩) N ac, .slice wa W wq, .slice ia V ic, .int .i64 (gd : Int)]) [.fl, .ho, .ef, .fl, .ef, .fl, .ho, .fl, .ef, .ef, .ef, .fl] [0, 1, 3, 0, 8, 0, 32, 96, 255, 511, 1023, 2047] [0, 1, 2, 3, 4, 5, 6, 7, 8, 9, 10, 11] mixed (by kernel_rfl) rfl ?_
      obtain ⟨Wc, hWc⟩ : ∃ Wc, Wc = wc.drew := ⟨_, rfl⟩
      rw [← hWc]
      have hc0 : Ch [] wc Wc := by rw [hWc]; exact (Ch.refl _ _).drew
      clear hWc
      have hho := HO.out.same hc0
      have HHO := Lib.hid hho; clear hho
      have HCC := Lib.hid hc0
      have hkx := (HO.out.kb (b := bx) (xs := [.pointer (some ⟨g, 0, none⟩), .slice (some ⟨ab, 0, none⟩) N ac, .slice wa W wq, .slice ia V ic, .int .i64 (gd : Int)]) (by exact List.mem_cons_of_mem _ (List.mem_cons_self ..))).ch hc0 (by simp)
      clear hc0
      refine Ord.St.fl2 (T' := ?_) 0 [1, 2, 3, 4, 5, 6, 7, 8, 9, 10, 11] _ _ rfl (by kernel_rfl) rfl rfl rfl rfl (fun K w' hk => ?_) ?_
      rotate_left
      · go_step; exact hk
      refine Ord.St.ho2 (T' := ?_) 1 [2, 3, 4, 5, 6, 7, 8, 9, 10, 11] _ _ rfl (by kernel_rfl) rfl rfl rfl rfl ?_ (fun K w' hw' hk => ?_) ?_
      rotate_left
      · exact hkx
      · have q0 := hw'.cell (i := 0) rfl; have q1 := hw'.cell (i := 1) rfl; have q2 := hw'.cell (i := 2) rfl; go_step; exact hk
      refine Ord.St.fl2 (T' := ?_) 3 [2, 4, 5, 6, 7, 8, 9, 10, 11] _ _ rfl (by kernel_rfl) rfl rfl rfl rfl (fun K w' hk => ?_) ?_
      rotate_left
      · go_step; exact hk
      refine Ord.St.fl2 (T' := ?_) 5 [2, 4, 6, 7, 8, 9, 10, 11] _ _ rfl (by kernel_rfl) rfl rfl rfl rfl (fun K w' hk => ?_) ?_
      rotate_left
      · go_step; exact hk
      refine Ord.St.ho2 (T' := ?_) 6 [2, 4, 7, 8, 9, 10, 11] _ _ rfl (by kernel_rfl) rfl rfl rfl rfl ?_ (fun K w' hw' hk => ?_) ?_
      rotate_left
      · exact hkx
      · have q0 := hw'.cell (i := 0) rfl; have q1 := hw'.cell (i := 1) rfl; have q2 := hw'.cell (i := 2) rfl; go_step; exact hk
      refine Ord.St.fl2 (T' := ?_) 7 [2, 4, 8, 9, 10, 11] _ _ rfl (by kernel_rfl) rfl rfl rfl rfl (fun K w' hk => ?_) ?_
      rotate_left
      · go_step; exact hk
      refine Ord.St.two 2 4 [4, 8, 9, 10, 11] [2, 8, 9, 10, 11] _ _ (by kernel_rfl) rfl rfl (by kernel_rfl) (by kernel_rfl) (fun K hK => ?_) (fun K hK => ?_)
      · have hcl := CLlst_is (a := some ⟨ab, 0, none⟩) (l := slW ws) N ac (by rw [slW_len]; exact HWL1.out) (HHO.out.svA (b := ab) (cs := cs) (ws := ws) (by exact List.mem_cons_of_mem _ (List.mem_cons_of_mem _ (List.mem_cons_self ..))) HCS.out (by rw [HWL1.out]; omega)) (by omega)
        have HCL := Lib.hid hcl; clear hcl
        go_wp2_with fail
        refine HCL.out.mono ?_
        rintro e wA ⟨v2, rfl, hr2, hv2, hcX⟩
        obtain ⟨tb, tc, rfl⟩ := hr2.parts (by omega)
        have htb := Nat.le_trans HCC.out.size (hv2 tb (by simp))
        have HTB := Lib.hid htb; clear htb hv2 HCL
        have HR2 := Lib.hid hr2; clear hr2
        have hho := HHO.out.same hcX
        clear HHO
        have HHO := Lib.hid hho; clear hho
        have hcc := HCC.out.trans hcX (by simp)
        clear HCC
        have HCC := Lib.hid hcc; clear hcc
        replace hkx := hkx.ch hcX (by simp)
        try (have hq2 := HB4.out.ch hcX (by simp); clear HB4; have HB4 := Lib.hid hq2; clear hq2)
        clear hcX
        go_wp2_with fail
        refine ⟨rfl, hK _ _ ?_ ?_⟩
        · exact hkx
        clear hK K
        refine Ord.St.efC 4 [8, 9, 10, 11] _ rfl (by kernel_rfl) (fun K hK => ?_)
        go_wp2_with fail
        refine ⟨rfl, hK _ _ ?_ ?_⟩
        · exact hkx.alloc _
        clear hK K
        refine Ord.St.alw ?_; intro Wn hWn
        have hcX := alw_ch hWn
        obtain ⟨p4, hpe, hb6⟩ : ∃ p4, p4 = _ ∧ blk Wn p4 [.int .i64 bad] := ⟨_, rfl, alw_blk hWn⟩
        rw [← hpe]
        clear hWn hpe
        have HB4 := Lib.hid hb6; clear hb6
        have hho := HHO.out.same hcX
        clear HHO
        have HHO := Lib.hid hho; clear hho
        have hcc := HCC.out.trans hcX (by simp)
        clear HCC
        have HCC := Lib.hid hcc; clear hcc
        replace hkx := hkx.ch hcX (by simp)
        try (have hq2 := HR2.out.ch hcX (by simp); clear HR2; have HR2 := Lib.hid hq2; clear hq2)
        clear hcX
        refine Ord.St.ef 8 [9, 10, 11] _ rfl (by kernel_rfl) (fun K hK => ?_)
        have hcl := Repref_ex (c := 1) W (by omega) (HB4.out.cell (i := 0) rfl)
        have HCL := Lib.hid hcl; clear hcl
        go_wp2_with fail
        refine HCL.out.mono ?_
        rintro e wB ⟨rb, rfl, hr5, hrb, hcX⟩
        have hrb2 : wc.heap.size ≤ rb ∧ rb ≠ tb := ⟨Nat.le_trans HCC.out.size hrb, by have := (HR2.out.lt tb rfl).2; omega⟩
        have HRB := Lib.hid hrb2; clear hrb2 hrb HCL
        have HR5 := Lib.hid hr5; clear hr5
        have hho := HHO.out.same hcX
        clear HHO
        have HHO := Lib.hid hho; clear hho
        have hcc := HCC.out.trans hcX (by simp)
        clear HCC
        have HCC := Lib.hid hcc; clear hcc
        replace hkx := hkx.ch hcX (by simp)
        try (have hq2 := HR2.out.ch hcX (by simp); clear HR2; have HR2 := Lib.hid hq2; clear hq2)
        clear hcX
        clear HB4
        go_wp2_with fail
        refine ⟨rfl, hK _ _ ?_⟩; clear hK K
        refine Ord.St.ef 9 [10, 11] _ rfl (by kernel_rfl) (fun K hK => ?_)
        go_wp2_with fail
        refine ⟨rfl, hK _ _ ?_⟩; clear hK K
        refine Ord.St.alw ?_; intro Wn hWn
        have hcX := alw_ch hWn
        obtain ⟨p9, hpe, hb6⟩ : ∃ p9, p9 = _ ∧ blk Wn p9 [.slice (some ⟨rb, 0, none⟩) W W] := ⟨_, rfl, alw_blk hWn⟩
        rw [← hpe]
        clear hWn hpe
        have HB9 := Lib.hid hb6; clear hb6
        have hho := HHO.out.same hcX
        clear HHO
        have HHO := Lib.hid hho; clear hho
        have hcc := HCC.out.trans hcX (by simp)
        clear HCC
        have HCC := Lib.hid hcc; clear hcc
        replace hkx := hkx.ch hcX (by simp)
        try (have hq2 := HR2.out.ch hcX (by simp); clear HR2; have HR2 := Lib.hid hq2; clear hq2)
        try (have hq2 := HR5.out.ch hcX (by simp); clear HR5; have HR5 := Lib.hid hq2; clear hq2)
        clear hcX
        refine Ord.St.ef 10 [11] _ rfl (by kernel_rfl) (fun K hK => ?_)
        go_wp2_with (at_builtin; go_loud (refine wpList_append_row slRows rfl _ _ rfl (v := .slice (some ⟨tb, 0, none⟩) N tc) (n := N) (xs := slvs (slW ws)) rfl HR2.out (ad := ⟨p9, 0, none⟩) (m := 1) (c := 1) (news := [.slice (some ⟨rb, 0, none⟩) W W]) rfl rfl (news_blk HB9.out) (by simp [Value.oneCell']) (by omega) (by omega) ?_; intro v9 wD hr9 hcX hf9; obtain ⟨yb2, yc2, rfl⟩ := hr9.parts (by omega); have HR9 := Lib.hid hr9; clear hr9; have hyb : wc.heap.size ≤ yb2 := (hf9 yb2 rfl).elim (fun e => by cases e; exact HTB.out) (fun e => Nat.le_trans HCC.out.size e); have HYB := Lib.hid hyb; clear hyb hf9; have HCX := Lib.hid hcX; clear hcX))
        have hcX := HCX.out
        clear HCX HB9 HR2
        have hho := HHO.out.grow hcX (fun q hq => HO.out.far ((fun q hq => (by rw [show q = tb by simpa using hq]; exact HTB.out : wc.heap.size ≤ q)) q hq))
        clear HHO
        have HHO := Lib.hid hho; clear hho
        have hcc := HCC.out.trans hcX (fun q hq => .inr ((fun q hq => (by rw [show q = tb by simpa using hq]; exact HTB.out : wc.heap.size ≤ q)) q hq))
        clear HCC
        have HCC := Lib.hid hcc; clear hcc
        replace hkx := hkx.ch hcX (fun hq => (HO.out.far ((fun q hq => (by rw [show q = tb by simpa using hq]; exact HTB.out : wc.heap.size ≤ q)) _ hq)).2.2.1 _ (by exact List.mem_cons_of_mem _ (List.mem_cons_self ..)) rfl)
        have hq2 := HR5.out.ch hcX (fun k hk hin => HRB.out.2 (by have h1 : k = tb := (by simpa using hin); have h2 : k = rb := (by simpa using hk.symm); omega))
        clear HR5
        have HR5 := Lib.hid hq2; clear hq2
        clear hcX
        refine ⟨rfl, hK _ _ ?_⟩; clear hK K
        refine Ord.St.fl2 (T' := ?_) 11 [] _ _ rfl (by kernel_rfl) rfl rfl rfl rfl (fun K w' hk => ?_) ?_
        rotate_left
        · go_step; exact hk
        refine Ord.St.nil ?_
        go_wp2_with fail
        go_meet
        case rel =>
          refine ⟨yb2, yc2, rb, rfl, HCC.out, ?_, ?_, ⟨HYB.out, fun k hk => ?_⟩, ?_, ?_⟩
          · have h9 := HR9.out
            rw [show slvs (slW (ws ++ [⟨some ⟨rb, 0, none⟩, List.replicate W bad, W⟩])) = slvs (slW ws) ++ [.slice (some ⟨rb, 0, none⟩) W W] by simp [slvs, slW, slv]]
            exact h9
          · have h5 := HR5.out
            show row _ _ _ (Value.slice _ (List.replicate W bad).length W) (List.replicate W bad).length _
            rw [List.length_replicate]
            exact h5
          · have h1 : k = rb := (by simpa using hk.symm)
            rw [h1]; exact HRB.out.1
          · simp; omega
          · intro r hr
            rw [(List.mem_replicate.1 hr).2]; omega
      · go_wp2_with fail
        refine ⟨rfl, hK _ _ ?_ ?_⟩
        · exact hkx.alloc _
        clear hK K
        refine Ord.St.alw ?_; intro Wn hWn
        have hcX := alw_ch hWn
        obtain ⟨p4, hpe, hb6⟩ : ∃ p4, p4 = _ ∧ blk Wn p4 [.int .i64 bad] := ⟨_, rfl, alw_blk hWn⟩
        rw [← hpe]
        clear hWn hpe
        have HB4 := Lib.hid hb6; clear hb6
        have hho := HHO.out.same hcX
        clear HHO
        have HHO := Lib.hid hho; clear hho
        have hcc := HCC.out.trans hcX (by simp)
        clear HCC
        have HCC := Lib.hid hcc; clear hcc
        replace hkx := hkx.ch hcX (by simp)
        try (have hq2 := HR2.out.ch hcX (by simp); clear HR2; have HR2 := Lib.hid hq2; clear hq2)
        clear hcX
        refine Ord.St.efC 2 [8, 9, 10, 11] _ rfl (by kernel_rfl) (fun K hK => ?_)
        have hcl := CLlst_is (a := some ⟨ab, 0, none⟩) (l := slW ws) N ac (by rw [slW_len]; exact HWL1.out) (HHO.out.svA (b := ab) (cs := cs) (ws := ws) (by exact List.mem_cons_of_mem _ (List.mem_cons_of_mem _ (List.mem_cons_self ..))) HCS.out (by rw [HWL1.out]; omega)) (by omega)
        have HCL := Lib.hid hcl; clear hcl
        go_wp2_with fail
        refine HCL.out.mono ?_
        rintro e wA ⟨v2, rfl, hr2, hv2, hcX⟩
        obtain ⟨tb, tc, rfl⟩ := hr2.parts (by omega)
        have htb := Nat.le_trans HCC.out.size (hv2 tb (by simp))
        have HTB := Lib.hid htb; clear htb hv2 HCL
        have HR2 := Lib.hid hr2; clear hr2
        have hho := HHO.out.same hcX
        clear HHO
        have HHO := Lib.hid hho; clear hho
        have hcc := HCC.out.trans hcX (by simp)
        clear HCC
        have HCC := Lib.hid hcc; clear hcc
        replace hkx := hkx.ch hcX (by simp)
        try (have hq2 := HB4.out.ch hcX (by simp); clear HB4; have HB4 := Lib.hid hq2; clear hq2)
        clear hcX
        go_wp2_with fail
        refine ⟨rfl, hK _ _ ?_ ?_⟩
        · exact hkx
        clear hK K
        refine Ord.St.ef 8 [9, 10, 11] _ rfl (by kernel_rfl) (fun K hK => ?_)
        have hcl := Repref_ex (c := 1) W (by omega) (HB4.out.cell (i := 0) rfl)
        have HCL := Lib.hid hcl; clear hcl
        go_wp2_with fail
        refine HCL.out.mono ?_
        rintro e wB ⟨rb, rfl, hr5, hrb, hcX⟩
        have hrb2 : wc.heap.size ≤ rb ∧ rb ≠ tb := ⟨Nat.le_trans HCC.out.size hrb, by have := (HR2.out.lt tb rfl).2; omega⟩
        have HRB := Lib.hid hrb2; clear hrb2 hrb HCL
        have HR5 := Lib.hid hr5; clear hr5
        have hho := HHO.out.same hcX
        clear HHO
        have HHO := Lib.hid hho; clear hho
        have hcc := HCC.out.trans hcX (by simp)
        clear HCC
        have HCC := Lib.hid hcc; clear hcc
        replace hkx := hkx.ch hcX (by simp)
        try (have hq2 := HR2.out.ch hcX (by simp); clear HR2; have HR2 := Lib.hid hq2; clear hq2)
        clear hcX
        clear HB4
        go_wp2_with fail
        refine ⟨rfl, hK _ _ ?_⟩; clear hK K
        refine Ord.St.ef 9 [10, 11] _ rfl (by kernel_rfl) (fun K hK => ?_)
        go_wp2_with fail
        refine ⟨rfl, hK _ _ ?_⟩; clear hK K
        refine Ord.St.alw ?_; intro Wn hWn
        have hcX := alw_ch hWn
        obtain ⟨p9, hpe, hb6⟩ : ∃ p9, p9 = _ ∧ blk Wn p9 [.slice (some ⟨rb, 0, none⟩) W W] := ⟨_, rfl, alw_blk hWn⟩
        rw [← hpe]
        clear hWn hpe
        have HB9 := Lib.hid hb6; clear hb6
        have hho := HHO.out.same hcX
        clear HHO
        have HHO := Lib.hid hho; clear hho
        have hcc := HCC.out.trans hcX (by simp)
        clear HCC
        have HCC := Lib.hid hcc; clear hcc
        replace hkx := hkx.ch hcX (by simp)
        try (have hq2 := HR2.out.ch hcX (by simp); clear HR2; have HR2 := Lib.hid hq2; clear hq2)
        try (have hq2 := HR5.out.ch hcX (by simp); clear HR5; have HR5 := Lib.hid hq2; clear hq2)
        clear hcX
        refine Ord.St.ef 10 [11] _ rfl (by kernel_rfl) (fun K hK => ?_)
        go_wp2_with (at_builtin; go_loud (refine wpList_append_row slRows rfl _ _ rfl (v := .slice (some ⟨tb, 0, none⟩) N tc) (n := N) (xs := slvs (slW ws)) rfl HR2.out (ad := ⟨p9, 0, none⟩) (m := 1) (c := 1) (news := [.slice (some ⟨rb, 0, none⟩) W W]) rfl rfl (news_blk HB9.out) (by simp [Value.oneCell']) (by omega) (by omega) ?_; intro v9 wD hr9 hcX hf9; obtain ⟨yb2, yc2, rfl⟩ := hr9.parts (by omega); have HR9 := Lib.hid hr9; clear hr9; have hyb : wc.heap.size ≤ yb2 := (hf9 yb2 rfl).elim (fun e => by cases e; exact HTB.out) (fun e => Nat.le_trans HCC.out.size e); have HYB := Lib.hid hyb; clear hyb hf9; have HCX := Lib.hid hcX; clear hcX))
        have hcX := HCX.out
        clear HCX HB9 HR2
        have hho := HHO.out.grow hcX (fun q hq => HO.out.far ((fun q hq => (by rw [show q = tb by simpa using hq]; exact HTB.out : wc.heap.size ≤ q)) q hq))
        clear HHO
        have HHO := Lib.hid hho; clear hho
        have hcc := HCC.out.trans hcX (fun q hq => .inr ((fun q hq => (by rw [show q = tb by simpa using hq]; exact HTB.out : wc.heap.size ≤ q)) q hq))
        clear HCC
        have HCC := Lib.hid hcc; clear hcc
        replace hkx := hkx.ch hcX (fun hq => (HO.out.far ((fun q hq => (by rw [show q = tb by simpa using hq]; exact HTB.out : wc.heap.size ≤ q)) _ hq)).2.2.1 _ (by exact List.mem_cons_of_mem _ (List.mem_cons_self ..)) rfl)
        have hq2 := HR5.out.ch hcX (fun k hk hin => HRB.out.2 (by have h1 : k = tb := (by simpa using hin); have h2 : k = rb := (by simpa using hk.symm); omega))
        clear HR5
        have HR5 := Lib.hid hq2; clear hq2
        clear hcX
        refine ⟨rfl, hK _ _ ?_⟩; clear hK K
        refine Ord.St.fl2 (T' := ?_) 11 [] _ _ rfl (by kernel_rfl) rfl rfl rfl rfl (fun K w' hk => ?_) ?_
        rotate_left
        · go_step; exact hk
        refine Ord.St.nil ?_
        go_wp2_with fail
        go_meet
        case rel =>
          refine ⟨yb2, yc2, rb, rfl, HCC.out, ?_, ?_, ⟨HYB.out, fun k hk => ?_⟩, ?_, ?_⟩
          · have h9 := HR9.out
            rw [show slvs (slW (ws ++ [⟨some ⟨rb, 0, none⟩, List.replicate W bad, W⟩])) = slvs (slW ws) ++ [.slice (some ⟨rb, 0, none⟩) W W] by simp [slvs, slW, slv]]
            exact h9
          · have h5 := HR5.out
            show row _ _ _ (Value.slice _ (List.replicate W bad).length W) (List.replicate W bad).length _
            rw [List.length_replicate]
            exact h5
          · have h1 : k = rb := (by simpa using hk.symm)
            rw [h1]; exact HRB.out.1
          · simp; omega
          · intro r hr
            rw [(List.mem_replicate.1 hr).2]; omega
    case rest => as_aux_lemma =>
      obtain ⟨yb2, yc2, rb, rfl, hA⟩ := hcut
      obtain ⟨cs2, ho, hcs2⟩ := hA.hold HO.out
      clear hA HO
      have HO := Lib.hid ho; clear ho
      have HCS2 := Lib.hid hcs2; clear hcs2
      go_upto_region 11 with fail
      go_wp2_with fail
      obtain ⟨bl, hbl⟩ : ∃ bl, bl = wc.heap.size := ⟨_, rfl⟩
      obtain ⟨WL, hWL⟩ : ∃ WL, WL = wc.alloc (.cells #[.slice none 0 0, .slice (some ⟨yb, 0, none⟩) (N + 1) yc, .slice (some ⟨yb2, 0, none⟩) (N + 1) yc2] 24) := ⟨_, rfl⟩
      rw [← hWL, ← hbl]
      have hlb := alw_blk (xs := [.slice none 0 0, .slice (some ⟨yb, 0, none⟩) (N + 1) yc, .slice (some ⟨yb2, 0, none⟩) (N + 1) yc2]) hWL
      have ho := HO.out.keepN (alw_ch hWL) hlb
      rw [← hbl] at ho
      clear hWL hlb HO hbl
      have HO := Lib.hid ho; clear ho
      have hu1 : ((ws ++ [⟨ua, natInts (rIn (N * W) W) ++ [0], uc⟩] : List WV).map WV.l) = wldL N W ++ [natInts (rIn (N * W) W) ++ [0]] := by rw [List.map_append, HWE.out]; rfl
      have hu2 : ((ws ++ [⟨some ⟨rb, 0, none⟩, List.replicate W bad, W⟩] : List WV).map WV.l) = wldL N W ++ [List.replicate W bad] := by rw [List.map_append, HWE.out]; rfl
      have hn1 : (ws ++ [⟨ua, natInts (rIn (N * W) W) ++ [0], uc⟩] : List WV).length = N + 1 := by rw [List.length_append, HWL1.out]; rfl
      have hn2 : (ws ++ [⟨some ⟨rb, 0, none⟩, List.replicate W bad, W⟩] : List WV).length = N + 1 := by rw [List.length_append, HWL1.out]; rfl
      generalize hA1 : (ws ++ [⟨ua, natInts (rIn (N * W) W) ++ [0], uc⟩] : List WV) = A1 at *
      generalize hA2 : (ws ++ [⟨some ⟨rb, 0, none⟩, List.replicate W bad, W⟩] : List WV) = A2 at *
      have HU1 := Lib.hid hu1; clear hu1
      have HU2 := Lib.hid hu2; clear hu2
      have HNA := Lib.hid (And.intro hn1 hn2); clear hn1 hn2
      have HA1 := Lib.hid hA1; clear hA1
      have HA2 := Lib.hid hA2; clear hA2
      have hm1 : ∀ x ∈ A1, ((WV.val x, WV.l x) ∈ ((WV.val ⟨some ⟨rb, 0, none⟩, List.replicate W bad, W⟩, WV.l ⟨some ⟨rb, 0, none⟩, List.replicate W bad, W⟩) :: (WV.val ⟨ua, natInts (rIn (N * W) W) ++ [0], uc⟩, WV.l ⟨ua, natInts (rIn (N * W) W) ++ [0], uc⟩) :: ((ws.map fun x => (WV.val x, WV.l x)) ++ [(.slice wa W wq, natInts (rIn (N * W) W)), (.slice ia V ic, natInts (rIn (N * W + W) V))]))) := fun x hx => by
        rw [← HA1.out] at hx
        rcases List.mem_append.1 hx with hx | hx
        · exact (by exact List.mem_cons_of_mem _ (List.mem_cons_of_mem _ (List.mem_append_left _ (List.mem_map.2 ⟨x, hx, rfl⟩))))
        · rw [List.mem_singleton.1 hx]
          exact (by exact List.mem_cons_of_mem _ (List.mem_cons_self ..))
      have hm2 : ∀ x ∈ A2, ((WV.val x, WV.l x) ∈ ((WV.val ⟨some ⟨rb, 0, none⟩, List.replicate W bad, W⟩, WV.l ⟨some ⟨rb, 0, none⟩, List.replicate W bad, W⟩) :: (WV.val ⟨ua, natInts (rIn (N * W) W) ++ [0], uc⟩, WV.l ⟨ua, natInts (rIn (N * W) W) ++ [0], uc⟩) :: ((ws.map fun x => (WV.val x, WV.l x)) ++ [(.slice wa W wq, natInts (rIn (N * W) W)), (.slice ia V ic, natInts (rIn (N * W + W) V))]))) := fun x hx => by
        rw [← HA2.out] at hx
        rcases List.mem_append.1 hx with hx | hx
        · exact (by exact List.mem_cons_of_mem _ (List.mem_cons_of_mem _ (List.mem_append_left _ (List.mem_map.2 ⟨x, hx, rfl⟩))))
        · rw [List.mem_singleton.1 hx]
          exact (by exact List.mem_cons_self ..)
      have hms : ∀ x ∈ ws, ((WV.val x, WV.l x) ∈ ((WV.val ⟨some ⟨rb, 0, none⟩, List.replicate W bad, W⟩, WV.l ⟨some ⟨rb, 0, none⟩, List.replicate W bad, W⟩) :: (WV.val ⟨ua, natInts (rIn (N * W) W) ++ [0], uc⟩, WV.l ⟨ua, natInts (rIn (N * W) W) ++ [0], uc⟩) :: ((ws.map fun x => (WV.val x, WV.l x)) ++ [(.slice wa W wq, natInts (rIn (N * W) W)), (.slice ia V ic, natInts (rIn (N * W + W) V))]))) := fun x hx => (by exact List.mem_cons_of_mem _ (List.mem_cons_of_mem _ (List.mem_append_left _ (List.mem_map.2 ⟨x, hx, rfl⟩))))
      have hmi : (Value.slice ia V ic, natInts (rIn (N * W + W) V)) ∈ ((WV.val ⟨some ⟨rb, 0, none⟩, List.replicate W bad, W⟩, WV.l ⟨some ⟨rb, 0, none⟩, List.replicate W bad, W⟩) :: (WV.val ⟨ua, natInts (rIn (N * W) W) ++ [0], uc⟩, WV.l ⟨ua, natInts (rIn (N * W) W) ++ [0], uc⟩) :: ((ws.map fun x => (WV.val x, WV.l x)) ++ [(.slice wa W wq, natInts (rIn (N * W) W)), (.slice ia V ic, natInts (rIn (N * W + W) V))])) := (by exact List.mem_cons_of_mem _ (List.mem_cons_of_mem _ (List.mem_append_right _ (List.mem_cons_of_mem _ (List.mem_cons_self ..)))))
      have hmw : (Value.slice wa W wq, natInts (rIn (N * W) W)) ∈ ((WV.val ⟨some ⟨rb, 0, none⟩, List.replicate W bad, W⟩, WV.l ⟨some ⟨rb, 0, none⟩, List.replicate W bad, W⟩) :: (WV.val ⟨ua, natInts (rIn (N * W) W) ++ [0], uc⟩, WV.l ⟨ua, natInts (rIn (N * W) W) ++ [0], uc⟩) :: ((ws.map fun x => (WV.val x, WV.l x)) ++ [(.slice wa W wq, natInts (rIn (N * W) W)), (.slice ia V ic, natInts (rIn (N * W + W) V))])) := (by exact List.mem_cons_of_mem _ (List.mem_cons_of_mem _ (List.mem_append_right _ (List.mem_cons_self ..))))
      obtain ⟨LL, hLL⟩ : ∃ LL : List (Value × List Int), LL = ((WV.val ⟨some ⟨rb, 0, none⟩, List.replicate W bad, W⟩, WV.l ⟨some ⟨rb, 0, none⟩, List.replicate W bad, W⟩) :: (WV.val ⟨ua, natInts (rIn (N * W) W) ++ [0], uc⟩, WV.l ⟨ua, natInts (rIn (N * W) W) ++ [0], uc⟩) :: ((ws.map fun x => (WV.val x, WV.l x)) ++ [(.slice wa W wq, natInts (rIn (N * W) W)), (.slice ia V ic, natInts (rIn (N * W + W) V))])) := ⟨_, rfl⟩
      rw [← hLL] at hm1 hm2 hms hmi hmw HO
      clear hLL
      have HM1 := Lib.hid hm1; clear hm1
      have HM2 := Lib.hid hm2; clear hm2
      have HMS := Lib.hid hms; clear hms
      have HMI := Lib.hid hmi; clear hmi
      have HMW := Lib.hid hmw; clear hmw
      have hz : 2 * ((gIn 8000 T).nodes.length : Int) ≤ bad := by rw [HLG.out]; exact hb1
      have hfw := refused_wide (N := N) (W := W) (V := V) hN4 hV3 (gd : Int) (u := natInts (rIn (N * W) W) ++ [0]) (by simp [rIn]) (word := natInts (rIn (N * W) W)) (G := gIn 8000 T)
      have hfs := refused_spoilt (N := N) (W := W) (V := V) hN4 hW3 hV3 (gd : Int) bad (G := gIn 8000 T) hz
      have HFW := Lib.hid hfw; clear hfw
      have HFS := Lib.hid hfs; clear hfs hz
      go_loopw [99] (fun i wr => ∃ (j : Nat) (F' : List Nat), j ≤ 3 ∧ i = .int .i64 j ∧ Hold ((((((w1 : Base).add ab cs).add bx [.pointer (some ⟨g, 0, none⟩), .slice (some ⟨ab, 0, none⟩) N ac, .slice wa W wq, .slice ia V ic, .int .i64 (gd : Int)]).add yb cs1).add yb2 cs2).add bl [.slice none 0 0, .slice (some ⟨yb, 0, none⟩) (N + 1) yc, .slice (some ⟨yb2, 0, none⟩) (N + 1) yc2]) wr g (gIn 8000 T) F' LL) (fun i _ => 3 - (intOf i).toNat)
      case atStart => exact ⟨0, _, by omega, rfl, HO.out⟩
      case round => as_aux_lemma =>
        clear HO
        obtain ⟨j, F', hj, rfl, ho⟩ := hrel
        by_cases hj3 : j < 3
        · obtain ⟨la, nl, lc, Ls, e, hnl, hcell, herr, hwa, href⟩ : ∃ (la : Option Addr) (nl lc : Nat) (Ls : List WV) (e : Nat), nl ≤ 5 ∧ wr.cell? ⟨bl, j, none⟩ = some (.slice la nl lc) ∧ (wr.alloc (.cells #[.int .i64 261, .int .i64 260, .int .i64 200] 36)).cell? ⟨wr.heap.size, j, none⟩ = some (.int .i64 e) ∧ (∀ (WZ : World) (F2 : List Nat), Hold ((((((w1 : Base).add ab cs).add bx [.pointer (some ⟨g, 0, none⟩), .slice (some ⟨ab, 0, none⟩) N ac, .slice wa W wq, .slice ia V ic, .int .i64 (gd : Int)]).add yb cs1).add yb2 cs2).add bl [.slice none 0 0, .slice (some ⟨yb, 0, none⟩) (N + 1) yc, .slice (some ⟨yb2, 0, none⟩) (N + 1) yc2]) WZ g (gIn 8000 T) F2 LL → WA WZ F2 la nl Ls) ∧ Refused (gIn 8000 T) gd (natInts (rIn (N * W + W) V)) (natInts (rIn (N * W) W)) (Ls.map WV.l) e := by
            have hk := ho.kb (b := bl) (xs := [.slice none 0 0, .slice (some ⟨yb, 0, none⟩) (N + 1) yc, .slice (some ⟨yb2, 0, none⟩) (N + 1) yc2]) (by exact List.mem_cons_self ..)
            have hbn := blk.new' (w := wr) (b := wr.heap.size) [.int .i64 261, .int .i64 260, .int .i64 200] 36 rfl
            rcases (by omega : j = 0 ∨ j = 1 ∨ j = 2) with rfl | rfl | rfl
            · exact ⟨none, 0, 0, [], 261, by omega, hk.cell rfl, hbn.cell rfl, fun _ _ _ => WA.nil _ _, refused_nil _ _ _ _⟩
            · exact ⟨_, N + 1, yc, A1, 260, by omega, hk.cell rfl, hbn.cell rfl, fun _ _ h => h.wa2 (by exact List.mem_cons_of_mem _ (List.mem_cons_of_mem _ (List.mem_cons_self ..))) HCS1.out HM1.out HNA.out.1, by rw [HU1.out]; exact HFW.out⟩
            · exact ⟨_, N + 1, yc2, A2, 200, by omega, hk.cell rfl, hbn.cell rfl, fun _ _ h => h.wa2 (by exact List.mem_cons_of_mem _ (List.mem_cons_self ..)) HCS2.out HM2.out HNA.out.2, by rw [HU2.out]; exact HFS.out⟩
          have HO := Lib.hid ho; clear ho
          have HWA := Lib.hid hwa; clear hwa
          have hrl : (Ls.map WV.l).length = nl := by rw [List.length_map]; exact (HWA.out _ _ HO.out).len
          have HRL := Lib.hid hrl; clear hrl
          have HREF := Lib.hid href; clear href
          go_upto_region 15 with fail
          refine wp_named fun WQ hWQ => ?_
          have hcq : Ch [] wr WQ := by rw [hWQ]; exact (Ch.refl _ _).alloc _
          have ho := HO.out.same hcq
          clear hWQ hcell herr hcq HO
          have HO := Lib.hid ho; clear ho
          have hkx := HO.out.kb (b := bx) (xs := [.pointer (some ⟨g, 0, none⟩), .slice (some ⟨ab, 0, none⟩) N ac, .slice wa W wq, .slice ia V ic, .int .i64 (gd : Int)]) (by exact List.mem_cons_of_mem _ (List.mem_cons_of_mem _ (List.mem_cons_of_mem _ (List.mem_cons_self ..))))
          have z0 := hkx.cell (i := 0) rfl
          have z3 := hkx.cell (i := 3) rfl
          clear hkx
          have hx := mReadE_h HO.out (lc := lc) (HWA.out _ _ HO.out) (y := ⟨ia, natInts (rIn (N * W + W) V), ic⟩) (HO.out.at HMI.out (by simp [rIn])) (by have := (HO.out.held _ HMI.out).cap; simpa [rIn] using this) HREF.out.rd
          try simp only [WV.val, natInts_len, rIn_len, List.length_replicate] at hx
          have HX := Lib.hid hx; clear hx
          go_wp2_with fail
          refine (HX.out).mono ?_
          rintro e w11 ⟨v1, F3, rfl, ho⟩
          clear HO; have HO := Lib.hid ho; clear ho
          clear z0 z3
          clear HX
          have hkx := HO.out.kb (b := bx) (xs := [.pointer (some ⟨g, 0, none⟩), .slice (some ⟨ab, 0, none⟩) N ac, .slice wa W wq, .slice ia V ic, .int .i64 (gd : Int)]) (by exact List.mem_cons_of_mem _ (List.mem_cons_of_mem _ (List.mem_cons_of_mem _ (List.mem_cons_self ..))))
          have z0 := hkx.cell (i := 0) rfl
          have z2 := hkx.cell (i := 2) rfl
          have z3 := hkx.cell (i := 3) rfl
          have z4 := hkx.cell (i := 4) rfl
          clear hkx
          have hx := mWriteE_h HO.out (lc := lc) (HWA.out _ _ HO.out) (gd : Int) (by unfold I64'; omega) (x := ⟨wa, natInts (rIn (N * W) W), wq⟩) (y := ⟨ia, natInts (rIn (N * W + W) V), ic⟩) (HO.out.at HMI.out (by simp [rIn])) (by have := (HO.out.held _ HMI.out).cap; simpa [rIn] using this) (HO.out.at HMW.out (by simp [rIn])) HREF.out.wr
          try simp only [WV.val, natInts_len, rIn_len, List.length_replicate] at hx
          have HX := Lib.hid hx; clear hx
          go_wp2_with fail
          refine (HX.out).mono ?_
          rintro e w12 ⟨v2, F4, rfl, ho⟩
          clear HO; have HO := Lib.hid ho; clear ho
          clear z0 z2 z3 z4
          clear HX
          have hkx := HO.out.kb (b := bx) (xs := [.pointer (some ⟨g, 0, none⟩), .slice (some ⟨ab, 0, none⟩) N ac, .slice wa W wq, .slice ia V ic, .int .i64 (gd : Int)]) (by exact List.mem_cons_of_mem _ (List.mem_cons_of_mem _ (List.mem_cons_of_mem _ (List.mem_cons_self ..))))
          have z0 := hkx.cell (i := 0) rfl
          clear hkx
          have hx := mEqual_h HO.out (ac := lc) (bc := lc) (HWA.out _ _ HO.out) (HWA.out _ _ HO.out) (by omega) HREF.out.eq
          try simp only [WV.val, natInts_len, rIn_len, List.length_replicate] at hx
          have HX := Lib.hid hx; clear hx
          go_wp2_with fail
          refine (HX.out).mono ?_
          rintro e w13 ⟨F5, rfl, ho⟩
          clear HO; have HO := Lib.hid ho; clear ho
          clear z0
          clear HX
          have hmaxr : ∀ ats ty, Builtin.max_ ats ty #[.int .i64 ((nl : Int) - 1), .int .i64 0] = pure (.int .i64 ((nl - 1 : Nat) : Int)) := fun ats ty => by
            have e9 : (if (nl : Int) - 1 < 0 then 0 else (nl : Int) - 1) = ((nl - 1 : Nat) : Int) := by split <;> omega
            rw [← e9]
            simp [Builtin.max_, Builtin.max2]
          go_upto_region 18 with fail
          obtain ⟨W8, hW8⟩ : ∃ W8, W8 = w13 := ⟨_, rfl⟩
          rw [← hW8] at HO ⊢
          clear hW8
          obtain ⟨nr, hnr⟩ : ∃ nr, nl - 1 = nr := ⟨_, rfl⟩
          have hnr5 : nr ≤ 5 := by omega
          simp only [hnr] at hmaxr
          have HNR := Lib.hid hnr; clear hnr
          go_cut [26] (fun p wd => ∃ F6, p = .int .i64 e ∧ Hold ((((((w1 : Base).add ab cs).add bx [.pointer (some ⟨g, 0, none⟩), .slice (some ⟨ab, 0, none⟩) N ac, .slice wa W wq, .slice ia V ic, .int .i64 (gd : Int)]).add yb cs1).add yb2 cs2).add bl [.slice none 0 0, .slice (some ⟨yb, 0, none⟩) (N + 1) yc, .slice (some ⟨yb2, 0, none⟩) (N + 1) yc2]) wd g (gIn 8000 T) F6 LL)
          case first => as_aux_lemma =>
            refine Ord.St.door (fun w' => blk w' bx [.pointer (some ⟨g, 0, none⟩), .slice (some ⟨ab, 0, none⟩) N ac, .slice wa W wq, .slice ia V ic, .int .i64 (gd : Int)]) [.fl, .ho, .fl, .rd, .ef, .fl, .fl, .fl, .fl, .ef, .fl, .ef, .fl, .fl, .fl, .fl, .fl] [0, 1, 0, 4, 12, 0, 32, 96, 224, 508, 0, 2047, 4095, 8191, 8191, 16383, 65535] [0, 1, 2, 3, 4, 5, 6, 7, 8, 9, 10, 11, 12, 13, 14, 15, 16] mixed (by kernel_rfl) rfl ?_
            obtain ⟨Wc, hWc⟩ : ∃ Wc, Wc = W8.drew := ⟨_, rfl⟩
            rw [← hWc]
            have hc0 : Ch [] W8 Wc := by rw [hWc]; exact (Ch.refl _ _).drew
            clear hWc
            have hho := HO.out.same hc0
            have HHO := Lib.hid hho; clear hho
            have HCC := Lib.hid hc0
            have hkx := (HO.out.kb (b := bx) (xs := [.pointer (some ⟨g, 0, none⟩), .slice (some ⟨ab, 0, none⟩) N ac, .slice wa W wq, .slice ia V ic, .int .i64 (gd : Int)]) (by exact List.mem_cons_of_mem _ (List.mem_cons_of_mem _ (List.mem_cons_of_mem _ (List.mem_cons_self ..))))).ch hc0 (by simp)
            clear hc0
            have z4 := hkx.cell (i := 4) rfl
            refine Ord.St.fl2 (T' := ?_) 0 [1, 2, 3, 4, 5, 6, 7, 8, 9, 10, 11, 12, 13, 14, 15, 16] _ _ rfl (by kernel_rfl) rfl rfl rfl rfl (fun K w' hk => ?_) ?_
            rotate_left
            · go_step; exact hk
            refine Ord.St.ho2 (T' := ?_) 1 [2, 3, 4, 5, 6, 7, 8, 9, 10, 11, 12, 13, 14, 15, 16] _ _ rfl (by kernel_rfl) rfl rfl rfl rfl ?_ (fun K w' hw' hk => ?_) ?_
            rotate_left
            · exact hkx
            · have q4 := hw'.cell (i := 4) rfl; have q0 := hw'.cell (i := 0) rfl; have q1 := hw'.cell (i := 1) rfl; have q2 := hw'.cell (i := 2) rfl; go_step; exact hk
            refine Ord.St.fl2 (T' := ?_) 2 [3, 4, 5, 6, 7, 8, 9, 10, 11, 12, 13, 14, 15, 16] _ _ rfl (by kernel_rfl) rfl rfl rfl rfl (fun K w' hk => ?_) ?_
            rotate_left
            · go_step; exact hk
            refine Ord.St.rd2 (T' := ?_) 3 [4, 5, 6, 7, 8, 9, 10, 11, 12, 13, 14, 15, 16] _ _ rfl (by kernel_rfl) rfl rfl rfl rfl (fun K hk => ?_) ?_
            rotate_left
            · go_step; exact hk
            refine Ord.St.fl2 (T' := ?_) 5 [4, 6, 7, 8, 9, 10, 11, 12, 13, 14, 15, 16] _ _ rfl (by kernel_rfl) rfl rfl rfl rfl (fun K w' hk => ?_) ?_
            rotate_left
            · go_step; exact hk
            refine Ord.St.fl2 (T' := ?_) 6 [4, 7, 8, 9, 10, 11, 12, 13, 14, 15, 16] _ _ rfl (by kernel_rfl) rfl rfl rfl rfl (fun K w' hk => ?_) ?_
            rotate_left
            · go_step; exact hk
            refine Ord.St.fl2 (T' := ?_) 7 [4, 8, 9, 10, 11, 12, 13, 14, 15, 16] _ _ rfl (by kernel_rfl) rfl rfl rfl rfl (fun K w' hk => ?_) ?_
            rotate_left
            · go_step; exact hk
            refine Ord.St.fl2 (T' := ?_) 8 [4, 9, 10, 11, 12, 13, 14, 15, 16] _ _ rfl (by kernel_rfl) rfl rfl rfl rfl (fun K w' hk => ?_) ?_
            rotate_left
            · go_step; exact hk
            refine Ord.St.fl2 (T' := ?_) 10 [4, 9, 11, 12, 13, 14, 15, 16] _ _ rfl (by kernel_rfl) rfl rfl rfl rfl (fun K w' hk => ?_) ?_
            rotate_left
            · go_step; exact hk
            refine Ord.St.efC 4 [9, 11, 12, 13, 14, 15, 16] _ rfl (by kernel_rfl) (fun K hK => ?_)
            clear z4
            go_wp2_with fail
            refine ⟨rfl, hK _ _ ?_ ?_⟩
            · exact hkx.alloc _
            clear hK K
            refine Ord.St.alw ?_; intro Wn hWn
            have hcX := alw_ch hWn
            obtain ⟨p4, hpe, hb6⟩ : ∃ p4, p4 = _ ∧ blk Wn p4 [.int .i64 (gd : Int)] := ⟨_, rfl, alw_blk hWn⟩
            rw [← hpe]
            clear hWn hpe
            have HB4 := Lib.hid hb6; clear hb6
            have hho := HHO.out.same hcX
            clear HHO
            have HHO := Lib.hid hho; clear hho
            have hcc := HCC.out.trans hcX (by simp)
            clear HCC
            have HCC := Lib.hid hcc; clear hcc
            replace hkx := hkx.ch hcX (by simp)
            clear hcX
            refine Ord.St.efC 9 [11, 12, 13, 14, 15, 16] _ rfl (by kernel_rfl) (fun K hK => ?_)
            have hcl := Repref_ex (c := 1) nr (by omega) (HB4.out.cell (i := 0) rfl)
            have HCL := Lib.hid hcl; clear hcl
            go_wp2_with fail
            refine HCL.out.mono ?_
            rintro e wB ⟨rp, rfl, hr5, hrb, hcX⟩
            have hrb2 : W8.heap.size ≤ rp := Nat.le_trans HCC.out.size hrb
            have HRB := Lib.hid hrb2; clear hrb2 hrb HCL
            have HR5 := Lib.hid hr5; clear hr5
            have hho := HHO.out.same hcX
            clear HHO
            have HHO := Lib.hid hho; clear hho
            have hcc := HCC.out.trans hcX (by simp)
            clear HCC
            have HCC := Lib.hid hcc; clear hcc
            replace hkx := hkx.ch hcX (by simp)
            clear hcX
            clear HB4
            go_wp2_with fail
            refine ⟨rfl, hK _ _ ?_ ?_⟩
            · exact hkx
            clear hK K
            refine Ord.St.ef 11 [12, 13, 14, 15, 16] _ rfl (by kernel_rfl) (fun K hK => ?_)
            have hin : WVin _ _ ⟨some ⟨rp, 0, none⟩, List.replicate nr (gd : Int), nr⟩ := WVin.of_row (l := [(gd : Int)]) (HR5.out) (by omega) (fun r hr => by have h7 := (List.mem_replicate.1 hr).2; simp only [List.headD_cons] at h7; omega) (HO.out.far HRB.out).1
            have hx := mPickE_h HHO.out (lc := lc) (HWA.out _ _ HHO.out) (y := ⟨some ⟨rp, 0, none⟩, List.replicate nr (gd : Int), nr⟩) hin (by simp) (G' := gIn 8000 T) (l := []) (e := e) (by have := HREF.out.pk; rw [HRL.out, HNR.out] at this; exact this)
            simp only [WV.val, List.length_replicate] at hx
            have HX := Lib.hid hx; clear hx hin
            go_wp2_with fail
            refine HX.out.mono ?_
            rintro en wP ⟨v5, F6, rfl, ho9⟩
            have HO9 := Lib.hid ho9; clear ho9 HX HHO HCC HR5
            go_wp2_with fail
            refine ⟨rfl, hK _ _ ?_⟩; clear hK K
            refine Ord.St.fl2 (T' := ?_) 12 [13, 14, 15, 16] _ _ rfl (by kernel_rfl) rfl rfl rfl rfl (fun K w' hk => ?_) ?_
            rotate_left
            · go_step; exact hk
            refine Ord.St.fl2 (T' := ?_) 13 [14, 15, 16] _ _ rfl (by kernel_rfl) rfl rfl rfl rfl (fun K w' hk => ?_) ?_
            rotate_left
            · go_step; exact hk
            refine Ord.St.fl2 (T' := ?_) 14 [15, 16] _ _ rfl (by kernel_rfl) rfl rfl rfl rfl (fun K w' hk => ?_) ?_
            rotate_left
            · go_step; exact hk
            refine Ord.St.fl2 (T' := ?_) 15 [16] _ _ rfl (by kernel_rfl) rfl rfl rfl rfl (fun K w' hk => ?_) ?_
            rotate_left
            · go_step; exact hk
            refine Ord.St.fl2 (T' := ?_) 16 [] _ _ rfl (by kernel_rfl) rfl rfl rfl rfl (fun K w' hk => ?_) ?_
            rotate_left
            · go_step; exact hk
            refine Ord.St.nil ?_
            go_wp2_with fail
            go_meet
            case rel => exact ⟨F6, rfl, HO9.out⟩
          case rest => as_aux_lemma =>
            obtain ⟨F6, rfl, ho⟩ := hcut
            clear HO hmaxr HNR
            have HO := Lib.hid ho; clear ho
            go_wp2_with fail
            first
              | exact ⟨⟨j + 1, F6, by omega, rnd_val j, HO.out⟩, rnd_meas hj3⟩
              | (go_roundw
                 case rel => exact ⟨j + 1, F6, by omega, by go_num, HO.out⟩
                 case measure => simp [intOf]; omega)
        · have HO := Lib.hid ho; clear ho
          clear HFW HFS HNA HA1 HA2 HM1 HM2 HU1 HU2 HCS1 HCS2
          go_upto_region 22 with fail
          have hz : 2 * ((gIn 8000 T).nodes.length : Int) ≤ bad := by rw [HLG.out]; exact hb1
          have HZ := Lib.hid hz; clear hz
          have hkx := HO.out.kb (b := bx) (xs := [.pointer (some ⟨g, 0, none⟩), .slice (some ⟨ab, 0, none⟩) N ac, .slice wa W wq, .slice ia V ic, .int .i64 (gd : Int)]) (by exact List.mem_cons_of_mem _ (List.mem_cons_of_mem _ (List.mem_cons_of_mem _ (List.mem_cons_self ..))))
          have z0 := hkx.cell (i := 0) rfl
          have z2 := hkx.cell (i := 2) rfl
          clear hkx
          have hx := mChooseE_h HO.out bad (by unfold I64'; omega) (x := ⟨wa, natInts (rIn (N * W) W), wq⟩) (y := ⟨wa, natInts (rIn (N * W) W), wq⟩) (HO.out.at HMW.out (by simp [rIn])) (HO.out.at HMW.out (by simp [rIn])) (choose_bad (N := N) hW3 HZ.out)
          try simp only [WV.val, natInts_len, rIn_len, List.length_replicate] at hx
          have HX := Lib.hid hx; clear hx
          go_wp2_with fail
          refine (HX.out).mono ?_
          rintro e w21 ⟨v1, F3, rfl, ho⟩
          clear HO; have HO := Lib.hid ho; clear ho
          clear z0 z2
          clear HX
          have hkx := HO.out.kb (b := bx) (xs := [.pointer (some ⟨g, 0, none⟩), .slice (some ⟨ab, 0, none⟩) N ac, .slice wa W wq, .slice ia V ic, .int .i64 (gd : Int)]) (by exact List.mem_cons_of_mem _ (List.mem_cons_of_mem _ (List.mem_cons_of_mem _ (List.mem_cons_self ..))))
          have z0 := hkx.cell (i := 0) rfl
          have z2 := hkx.cell (i := 2) rfl
          clear hkx
          have hx := mChooseE_h HO.out less (by unfold I64'; omega) (x := ⟨wa, natInts (rIn (N * W) W), wq⟩) (y := ⟨none, [], 0⟩) (HO.out.at HMW.out (by simp [rIn])) (WVin.nil _ _) (choose_nil (N := N) (W := W))
          try simp only [WV.val, natInts_len, rIn_len, List.length_replicate] at hx
          have HX := Lib.hid hx; clear hx
          go_wp2_with fail
          refine (HX.out).mono ?_
          rintro e w22 ⟨v2, F4, rfl, ho⟩
          clear HO; have HO := Lib.hid ho; clear ho
          clear z0 z2
          clear HX
          have hkx := HO.out.kb (b := bx) (xs := [.pointer (some ⟨g, 0, none⟩), .slice (some ⟨ab, 0, none⟩) N ac, .slice wa W wq, .slice ia V ic, .int .i64 (gd : Int)]) (by exact List.mem_cons_of_mem _ (List.mem_cons_of_mem _ (List.mem_cons_of_mem _ (List.mem_cons_self ..))))
          have z0 := hkx.cell (i := 0) rfl
          clear hkx
          have hx := mIsE_h HO.out (y := ⟨none, [], 0⟩) (WVin.nil _ _) 0 (by decide) is_nil
          try simp only [WV.val, natInts_len, rIn_len, List.length_replicate] at hx
          have HX := Lib.hid hx; clear hx
          go_wp2_with fail
          refine (HX.out).mono ?_
          rintro e w23 ⟨F5, rfl, ho⟩
          clear HO; have HO := Lib.hid ho; clear ho
          clear z0
          clear HX
          have hwa := HO.out.wa2 (b := ab) (cs := cs) (ws := ws) (by exact List.mem_cons_of_mem _ (List.mem_cons_of_mem _ (List.mem_cons_of_mem _ (List.mem_cons_of_mem _ (List.mem_cons_self ..))))) HCS.out HMS.out HWL1.out
          have hkx := HO.out.kb (b := bx) (xs := [.pointer (some ⟨g, 0, none⟩), .slice (some ⟨ab, 0, none⟩) N ac, .slice wa W wq, .slice ia V ic, .int .i64 (gd : Int)]) (by exact List.mem_cons_of_mem _ (List.mem_cons_of_mem _ (List.mem_cons_of_mem _ (List.mem_cons_self ..))))
          have z0 := hkx.cell (i := 0) rfl
          have z1 := hkx.cell (i := 1) rfl
          clear hkx
          have hx := mReadE_h HO.out (lc := ac) hwa (y := ⟨none, [], 0⟩) (WVin.nil _ _) (by simp) (G' := gIn 8000 T) (l := []) (e := 260) (by rw [HWE.out]; exact read_nil hN4)
          try simp only [WV.val, natInts_len, rIn_len, List.length_replicate] at hx
          have HX := Lib.hid hx; clear hx
          go_wp2_with fail
          refine (HX.out).mono ?_
          rintro e w24 ⟨v3, F6, rfl, ho⟩
          clear HO; have HO := Lib.hid ho; clear ho
          clear z0 z1
          clear HX
          clear hwa
          have hkx := HO.out.kb (b := bx) (xs := [.pointer (some ⟨g, 0, none⟩), .slice (some ⟨ab, 0, none⟩) N ac, .slice wa W wq, .slice ia V ic, .int .i64 (gd : Int)]) (by exact List.mem_cons_of_mem _ (List.mem_cons_of_mem _ (List.mem_cons_of_mem _ (List.mem_cons_self ..))))
          have z0 := hkx.cell (i := 0) rfl
          have z1 := hkx.cell (i := 1) rfl
          clear hkx
          go_wp2_with fail
          refine calls_named fun WB hWB => ?_
          have hlb := alw_blk (xs := [.int .i64 less]) hWB
          have ho := HO.out.keepN (alw_ch hWB) hlb
          clear hWB hlb HO z0 z1
          generalize w24.heap.size = lb at *
          have HO := Lib.hid ho; clear ho
          have hwa := HO.out.wa2 (b := ab) (cs := cs) (ws := ws) (by exact List.mem_cons_of_mem _ (List.mem_cons_of_mem _ (List.mem_cons_of_mem _ (List.mem_cons_of_mem _ (List.mem_cons_of_mem _ (List.mem_cons_self ..)))))) HCS.out HMS.out HWL1.out
          have hin := WVin.blk1 (HO.out.kb (b := lb) (xs := [.int .i64 less]) (by exact List.mem_cons_self ..)) (by omega) (HO.out.kept _ (by exact List.mem_cons_self ..)).2.2
          have hx := mReadE_h HO.out (lc := ac) hwa (y := ⟨some ⟨lb, 0, none⟩, [less], 1⟩) hin (by simp) (G' := gIn 8000 T) (l := []) (e := 200) (by rw [HWE.out]; exact read_less hN4 hW3 (by omega))
          simp only [WV.val, List.length_singleton] at hx
          have HX := Lib.hid hx; clear hx hin hwa
          refine (HX.out).mono ?_
          rintro e w25 ⟨v4, F7, rfl, ho⟩
          clear HO; have HO := Lib.hid ho; clear ho
          clear HX
          have hwa := HO.out.wa2 (b := ab) (cs := cs) (ws := ws) (by exact List.mem_cons_of_mem _ (List.mem_cons_of_mem _ (List.mem_cons_of_mem _ (List.mem_cons_of_mem _ (List.mem_cons_of_mem _ (List.mem_cons_self ..)))))) HCS.out HMS.out HWL1.out
          have hkx := HO.out.kb (b := bx) (xs := [.pointer (some ⟨g, 0, none⟩), .slice (some ⟨ab, 0, none⟩) N ac, .slice wa W wq, .slice ia V ic, .int .i64 (gd : Int)]) (by exact List.mem_cons_of_mem _ (List.mem_cons_of_mem _ (List.mem_cons_of_mem _ (List.mem_cons_of_mem _ (List.mem_cons_self ..)))))
          have z0 := hkx.cell (i := 0) rfl
          have z1 := hkx.cell (i := 1) rfl
          have z2 := hkx.cell (i := 2) rfl
          have z3 := hkx.cell (i := 3) rfl
          clear hkx
          have hx := mWriteE_h HO.out (lc := ac) hwa bad (by unfold I64'; omega) (x := ⟨wa, natInts (rIn (N * W) W), wq⟩) (y := ⟨ia, natInts (rIn (N * W + W) V), ic⟩) (HO.out.at HMI.out (by simp [rIn])) (by have := (HO.out.held _ HMI.out).cap; simpa [rIn] using this) (HO.out.at HMW.out (by simp [rIn])) (G' := gIn 8000 T) (ls := []) (e := 200) (by rw [HWE.out]; exact write_bad hN4 hW3 hV3 HZ.out)
          try simp only [WV.val, natInts_len, rIn_len, List.length_replicate] at hx
          have HX := Lib.hid hx; clear hx
          go_wp2_with fail
          refine (HX.out).mono ?_
          rintro e w26 ⟨v5, F8, rfl, ho⟩
          clear HO; have HO := Lib.hid ho; clear ho
          clear z0 z1 z2 z3
          clear HX
          clear hwa
          go_upto_region 28 with fail
          obtain ⟨W8, hW8⟩ : ∃ W8, W8 = w26 := ⟨_, rfl⟩
          rw [← hW8] at HO ⊢
          clear hW8
          go_cut [40] (fun p wd => ∃ F6, p = .int .i64 261 ∧ Hold (((((((w1 : Base).add ab cs).add bx [.pointer (some ⟨g, 0, none⟩), .slice (some ⟨ab, 0, none⟩) N ac, .slice wa W wq, .slice ia V ic, .int .i64 (gd : Int)]).add yb cs1).add yb2 cs2).add bl [.slice none 0 0, .slice (some ⟨yb, 0, none⟩) (N + 1) yc, .slice (some ⟨yb2, 0, none⟩) (N + 1) yc2]).add lb [.int .i64 less]) wd g (gIn 8000 T) F6 LL)
          case first => as_aux_lemma =>
            refine Ord.St.door (fun w' => blk w' bx [.pointer (some ⟨g, 0, none⟩), .slice (some ⟨ab, 0, none⟩) N ac, .slice wa W wq, .slice ia V ic, .int .i64 (gd : Int)]) [.fl, .ho, .fl, .rd, .ef, .fl, .ho, .fl, .ef, .fl, .ho, .ef, .fl, .fl, .fl, .fl, .fl] [0, 1, 0, 4, 12, 0, 32, 96, 252, 0, 512, 2047, 4095, 8191, 8191, 16383, 65535] [0, 1, 2, 3, 4, 5, 6, 7, 8, 9, 10, 11, 12, 13, 14, 15, 16] mixed (by kernel_rfl) rfl ?_
            obtain ⟨Wc, hWc⟩ : ∃ Wc, Wc = W8.drew := ⟨_, rfl⟩
            rw [← hWc]
            have hc0 : Ch [] W8 Wc := by rw [hWc]; exact (Ch.refl _ _).drew
            clear hWc
            have hho := HO.out.same hc0
            have HHO := Lib.hid hho; clear hho
            have HCC := Lib.hid hc0
            have hkx := (HO.out.kb (b := bx) (xs := [.pointer (some ⟨g, 0, none⟩), .slice (some ⟨ab, 0, none⟩) N ac, .slice wa W wq, .slice ia V ic, .int .i64 (gd : Int)]) (by exact List.mem_cons_of_mem _ (List.mem_cons_of_mem _ (List.mem_cons_of_mem _ (List.mem_cons_of_mem _ (List.mem_cons_self ..)))))).ch hc0 (by simp)
            clear hc0
            have z4 := hkx.cell (i := 4) rfl
            refine Ord.St.fl2 (T' := ?_) 0 [1, 2, 3, 4, 5, 6, 7, 8, 9, 10, 11, 12, 13, 14, 15, 16] _ _ rfl (by kernel_rfl) rfl rfl rfl rfl (fun K w' hk => ?_) ?_
            rotate_left
            · go_step; exact hk
            refine Ord.St.ho2 (T' := ?_) 1 [2, 3, 4, 5, 6, 7, 8, 9, 10, 11, 12, 13, 14, 15, 16] _ _ rfl (by kernel_rfl) rfl rfl rfl rfl ?_ (fun K w' hw' hk => ?_) ?_
            rotate_left
            · exact hkx
            · have q4 := hw'.cell (i := 4) rfl; have q0 := hw'.cell (i := 0) rfl; have q1 := hw'.cell (i := 1) rfl; have q2 := hw'.cell (i := 2) rfl; go_step; exact hk
            refine Ord.St.fl2 (T' := ?_) 2 [3, 4, 5, 6, 7, 8, 9, 10, 11, 12, 13, 14, 15, 16] _ _ rfl (by kernel_rfl) rfl rfl rfl rfl (fun K w' hk => ?_) ?_
            rotate_left
            · go_step; exact hk
            refine Ord.St.rd2 (T' := ?_) 3 [4, 5, 6, 7, 8, 9, 10, 11, 12, 13, 14, 15, 16] _ _ rfl (by kernel_rfl) rfl rfl rfl rfl (fun K hk => ?_) ?_
            rotate_left
            · go_step; exact hk
            refine Ord.St.fl2 (T' := ?_) 5 [4, 6, 7, 8, 9, 10, 11, 12, 13, 14, 15, 16] _ _ rfl (by kernel_rfl) rfl rfl rfl rfl (fun K w' hk => ?_) ?_
            rotate_left
            · go_step; exact hk
            refine Ord.St.ho2 (T' := ?_) 6 [4, 7, 8, 9, 10, 11, 12, 13, 14, 15, 16] _ _ rfl (by kernel_rfl) rfl rfl rfl rfl ?_ (fun K w' hw' hk => ?_) ?_
            rotate_left
            · exact hkx
            · have q4 := hw'.cell (i := 4) rfl; have q0 := hw'.cell (i := 0) rfl; have q1 := hw'.cell (i := 1) rfl; have q2 := hw'.cell (i := 2) rfl; go_step; exact hk
            refine Ord.St.fl2 (T' := ?_) 7 [4, 8, 9, 10, 11, 12, 13, 14, 15, 16] _ _ rfl (by kernel_rfl) rfl rfl rfl rfl (fun K w' hk => ?_) ?_
            rotate_left
            · go_step; exact hk
            refine Ord.St.fl2 (T' := ?_) 9 [4, 8, 10, 11, 12, 13, 14, 15, 16] _ _ rfl (by kernel_rfl) rfl rfl rfl rfl (fun K w' hk => ?_) ?_
            rotate_left
            · go_step; exact hk
            refine Ord.St.ho2 (T' := ?_) 10 [4, 8, 11, 12, 13, 14, 15, 16] _ _ rfl (by kernel_rfl) rfl rfl rfl rfl ?_ (fun K w' hw' hk => ?_) ?_
            rotate_left
            · exact hkx
            · have q4 := hw'.cell (i := 4) rfl; have q0 := hw'.cell (i := 0) rfl; have q1 := hw'.cell (i := 1) rfl; have q2 := hw'.cell (i := 2) rfl; go_step; exact hk
            refine Ord.St.efC 4 [8, 11, 12, 13, 14, 15, 16] _ rfl (by kernel_rfl) (fun K hK => ?_)
            clear z4
            go_wp2_with fail
            refine ⟨rfl, hK _ _ ?_ ?_⟩
            · exact hkx.alloc _
            clear hK K
            refine Ord.St.alw ?_; intro Wn hWn
            have hcX := alw_ch hWn
            obtain ⟨p4, hpe, hb6⟩ : ∃ p4, p4 = _ ∧ blk Wn p4 [.int .i64 (gd : Int)] := ⟨_, rfl, alw_blk hWn⟩
            rw [← hpe]
            clear hWn hpe
            have HB4 := Lib.hid hb6; clear hb6
            have hho := HHO.out.same hcX
            clear HHO
            have HHO := Lib.hid hho; clear hho
            have hcc := HCC.out.trans hcX (by simp)
            clear HCC
            have HCC := Lib.hid hcc; clear hcc
            replace hkx := hkx.ch hcX (by simp)
            clear hcX
            refine Ord.St.efC 8 [11, 12, 13, 14, 15, 16] _ rfl (by kernel_rfl) (fun K hK => ?_)
            have hcl := Repref_ex (c := 1) N (by omega) (HB4.out.cell (i := 0) rfl)
            have HCL := Lib.hid hcl; clear hcl
            go_wp2_with fail
            refine HCL.out.mono ?_
            rintro e wB ⟨rp, rfl, hr5, hrb, hcX⟩
            have hrb2 : W8.heap.size ≤ rp := Nat.le_trans HCC.out.size hrb
            have HRB := Lib.hid hrb2; clear hrb2 hrb HCL
            have HR5 := Lib.hid hr5; clear hr5
            have hho := HHO.out.same hcX
            clear HHO
            have HHO := Lib.hid hho; clear hho
            have hcc := HCC.out.trans hcX (by simp)
            clear HCC
            have HCC := Lib.hid hcc; clear hcc
            replace hkx := hkx.ch hcX (by simp)
            clear hcX
            clear HB4
            go_wp2_with fail
            refine ⟨rfl, hK _ _ ?_ ?_⟩
            · exact hkx
            clear hK K
            refine Ord.St.ef 11 [12, 13, 14, 15, 16] _ rfl (by kernel_rfl) (fun K hK => ?_)
            have hwa := HHO.out.wa2 (b := ab) (cs := cs) (ws := ws) (by exact List.mem_cons_of_mem _ (List.mem_cons_of_mem _ (List.mem_cons_of_mem _ (List.mem_cons_of_mem _ (List.mem_cons_of_mem _ (List.mem_cons_self ..)))))) HCS.out HMS.out HWL1.out
            have hin : WVin _ _ ⟨some ⟨rp, 0, none⟩, List.replicate N (gd : Int), N⟩ := WVin.of_row (l := [(gd : Int)]) (HR5.out) (by omega) (fun r hr => by have h7 := (List.mem_replicate.1 hr).2; simp only [List.headD_cons] at h7; omega) (HO.out.far HRB.out).1
            have hx := mPickE_h HHO.out (lc := ac) hwa (y := ⟨some ⟨rp, 0, none⟩, List.replicate N (gd : Int), N⟩) hin (by simp) (G' := gIn 8000 T) (l := []) (e := 261) (by rw [HWE.out]; exact pick_many hN4 _)
            simp only [WV.val, List.length_replicate] at hx
            have HX := Lib.hid hx; clear hx hin hwa
            go_wp2_with fail
            refine HX.out.mono ?_
            rintro en wP ⟨v5, F6, rfl, ho9⟩
            have HO9 := Lib.hid ho9; clear ho9 HX HHO HCC HR5
            go_wp2_with fail
            refine ⟨rfl, hK _ _ ?_⟩; clear hK K
            refine Ord.St.fl2 (T' := ?_) 12 [13, 14, 15, 16] _ _ rfl (by kernel_rfl) rfl rfl rfl rfl (fun K w' hk => ?_) ?_
            rotate_left
            · go_step; exact hk
            refine Ord.St.fl2 (T' := ?_) 13 [14, 15, 16] _ _ rfl (by kernel_rfl) rfl rfl rfl rfl (fun K w' hk => ?_) ?_
            rotate_left
            · go_step; exact hk
            refine Ord.St.fl2 (T' := ?_) 14 [15, 16] _ _ rfl (by kernel_rfl) rfl rfl rfl rfl (fun K w' hk => ?_) ?_
            rotate_left
            · go_step; exact hk
            refine Ord.St.fl2 (T' := ?_) 15 [16] _ _ rfl (by kernel_rfl) rfl rfl rfl rfl (fun K w' hk => ?_) ?_
            rotate_left
            · go_step; exact hk
            refine Ord.St.fl2 (T' := ?_) 16 [] _ _ rfl (by kernel_rfl) rfl rfl rfl rfl (fun K w' hk => ?_) ?_
            rotate_left
            · go_step; exact hk
            refine Ord.St.nil ?_
            go_wp2_with fail
            go_meet
            case rel => exact ⟨F6, rfl, HO9.out⟩
          case rest => as_aux_lemma =>
            obtain ⟨F9, rfl, ho⟩ := hcut
            clear HO
            have HO := Lib.hid ho; clear ho
            go_upto_region 29 with fail
            obtain ⟨W8, hW8⟩ : ∃ W8, W8 = wc := ⟨_, rfl⟩
            rw [← hW8] at HO ⊢
            clear hW8
            go_cut [42] (fun p wd => ∃ F6, p = .int .i64 261 ∧ Hold (((((((w1 : Base).add ab cs).add bx [.pointer (some ⟨g, 0, none⟩), .slice (some ⟨ab, 0, none⟩) N ac, .slice wa W wq, .slice ia V ic, .int .i64 (gd : Int)]).add yb cs1).add yb2 cs2).add bl [.slice none 0 0, .slice (some ⟨yb, 0, none⟩) (N + 1) yc, .slice (some ⟨yb2, 0, none⟩) (N + 1) yc2]).add lb [.int .i64 less]) wd g (gIn 8000 T) F6 LL)
            case first => as_aux_lemma =>
              refine Ord.St.door (fun w' => blk w' bx [.pointer (some ⟨g, 0, none⟩), .slice (some ⟨ab, 0, none⟩) N ac, .slice wa W wq, .slice ia V ic, .int .i64 (gd : Int)]) [.fl, .ho, .fl, .ho, .fl, .ho, .ef, .fl, .ho, .ef, .ef, .ef, .fl, .fl, .fl, .fl, .fl] [0, 1, 0, 4, 0, 16, 48, 0, 128, 384, 1008, 2047, 4095, 8191, 8191, 16383, 65535] [0, 1, 2, 3, 4, 5, 6, 7, 8, 9, 10, 11, 12, 13, 14, 15, 16] mixed (by kernel_rfl) rfl ?_
              obtain ⟨Wc, hWc⟩ : ∃ Wc, Wc = W8.drew := ⟨_, rfl⟩
              rw [← hWc]
              have hc0 : Ch [] W8 Wc := by rw [hWc]; exact (Ch.refl _ _).drew
              clear hWc
              have hho := HO.out.same hc0
              have HHO := Lib.hid hho; clear hho
              have HCC := Lib.hid hc0
              have hkx := (HO.out.kb (b := bx) (xs := [.pointer (some ⟨g, 0, none⟩), .slice (some ⟨ab, 0, none⟩) N ac, .slice wa W wq, .slice ia V ic, .int .i64 (gd : Int)]) (by exact List.mem_cons_of_mem _ (List.mem_cons_of_mem _ (List.mem_cons_of_mem _ (List.mem_cons_of_mem _ (List.mem_cons_self ..)))))).ch hc0 (by simp)
              clear hc0
              refine Ord.St.fl2 (T' := ?_) 0 [1, 2, 3, 4, 5, 6, 7, 8, 9, 10, 11, 12, 13, 14, 15, 16] _ _ rfl (by kernel_rfl) rfl rfl rfl rfl (fun K w' hk => ?_) ?_
              rotate_left
              · go_step; exact hk
              refine Ord.St.ho2 (T' := ?_) 1 [2, 3, 4, 5, 6, 7, 8, 9, 10, 11, 12, 13, 14, 15, 16] _ _ rfl (by kernel_rfl) rfl rfl rfl rfl ?_ (fun K w' hw' hk => ?_) ?_
              rotate_left
              · exact hkx
              · have q0 := hw'.cell (i := 0) rfl; have q1 := hw'.cell (i := 1) rfl; have q2 := hw'.cell (i := 2) rfl; go_step; exact hk
              refine Ord.St.fl2 (T' := ?_) 2 [3, 4, 5, 6, 7, 8, 9, 10, 11, 12, 13, 14, 15, 16] _ _ rfl (by kernel_rfl) rfl rfl rfl rfl (fun K w' hk => ?_) ?_
              rotate_left
              · go_step; exact hk
              refine Ord.St.ho2 (T' := ?_) 3 [4, 5, 6, 7, 8, 9, 10, 11, 12, 13, 14, 15, 16] _ _ rfl (by kernel_rfl) rfl rfl rfl rfl ?_ (fun K w' hw' hk => ?_) ?_
              rotate_left
              · exact hkx
              · have q0 := hw'.cell (i := 0) rfl; have q1 := hw'.cell (i := 1) rfl; have q2 := hw'.cell (i := 2) rfl; go_step; exact hk
              refine Ord.St.fl2 (T' := ?_) 4 [5, 6, 7, 8, 9, 10, 11, 12, 13, 14, 15, 16] _ _ rfl (by kernel_rfl) rfl rfl rfl rfl (fun K w' hk => ?_) ?_
              rotate_left
              · go_step; exact hk
              refine Ord.St.ho2 (T' := ?_) 5 [6, 7, 8, 9, 10, 11, 12, 13, 14, 15, 16] _ _ rfl (by kernel_rfl) rfl rfl rfl rfl ?_ (fun K w' hw' hk => ?_) ?_
              rotate_left
              · exact hkx
              · have q0 := hw'.cell (i := 0) rfl; have q1 := hw'.cell (i := 1) rfl; have q2 := hw'.cell (i := 2) rfl; go_step; exact hk
              refine Ord.St.fl2 (T' := ?_) 7 [6, 8, 9, 10, 11, 12, 13, 14, 15, 16] _ _ rfl (by kernel_rfl) rfl rfl rfl rfl (fun K w' hk => ?_) ?_
              rotate_left
              · go_step; exact hk
              refine Ord.St.ho2 (T' := ?_) 8 [6, 9, 10, 11, 12, 13, 14, 15, 16] _ _ rfl (by kernel_rfl) rfl rfl rfl rfl ?_ (fun K w' hw' hk => ?_) ?_
              rotate_left
              · exact hkx
              · have q0 := hw'.cell (i := 0) rfl; have q1 := hw'.cell (i := 1) rfl; have q2 := hw'.cell (i := 2) rfl; go_step; exact hk
              refine Ord.St.two 6 9 [9, 10, 11, 12, 13, 14, 15, 16] [6, 10, 11, 12, 13, 14, 15, 16] _ _ (by kernel_rfl) rfl rfl (by kernel_rfl) (by kernel_rfl) (fun K hK => ?_) (fun K hK => ?_)
              · have hcl := CLlst_is (a := some ⟨ab, 0, none⟩) (l := slW ws) N ac (by rw [slW_len]; exact HWL1.out) (HHO.out.svA (b := ab) (cs := cs) (ws := ws) (by exact List.mem_cons_of_mem _ (List.mem_cons_of_mem _ (List.mem_cons_of_mem _ (List.mem_cons_of_mem _ (List.mem_cons_of_mem _ (List.mem_cons_self ..)))))) HCS.out (by rw [HWL1.out]; omega)) (by omega)
                have HCL := Lib.hid hcl; clear hcl
                go_wp2_with fail
                refine HCL.out.mono ?_
                rintro e wA ⟨v2, rfl, hr2, hv2, hcX⟩
                obtain ⟨tb, tc, rfl⟩ := hr2.parts (by omega)
                have htb := Nat.le_trans HCC.out.size (hv2 tb (by simp))
                have HTB := Lib.hid htb; clear htb hv2 HCL
                have HR2 := Lib.hid hr2; clear hr2
                have hho := HHO.out.same hcX
                clear HHO
                have HHO := Lib.hid hho; clear hho
                have hcc := HCC.out.trans hcX (by simp)
                clear HCC
                have HCC := Lib.hid hcc; clear hcc
                replace hkx := hkx.ch hcX (by simp)
                try (have hq2 := HB9.out.ch hcX (by simp); clear HB9; have HB9 := Lib.hid hq2; clear hq2)
                clear hcX
                go_wp2_with fail
                refine ⟨rfl, hK _ _ ?_ ?_⟩
                · exact hkx
                clear hK K
                refine Ord.St.efC 9 [10, 11, 12, 13, 14, 15, 16] _ rfl (by kernel_rfl) (fun K hK => ?_)
                go_wp2_with fail
                refine ⟨rfl, hK _ _ ?_ ?_⟩
                · exact hkx.alloc _
                clear hK K
                refine Ord.St.alw ?_; intro Wn hWn
                have hcX := alw_ch hWn
                obtain ⟨p9, hpe, hb6⟩ : ∃ p9, p9 = _ ∧ blk Wn p9 [.slice wa W wq] := ⟨_, rfl, alw_blk hWn⟩
                rw [← hpe]
                clear hWn hpe
                have HB9 := Lib.hid hb6; clear hb6
                have hho := HHO.out.same hcX
                clear HHO
                have HHO := Lib.hid hho; clear hho
                have hcc := HCC.out.trans hcX (by simp)
                clear HCC
                have HCC := Lib.hid hcc; clear hcc
                replace hkx := hkx.ch hcX (by simp)
                try (have hq2 := HR2.out.ch hcX (by simp); clear HR2; have HR2 := Lib.hid hq2; clear hq2)
                clear hcX
                refine Ord.St.efC 10 [11, 12, 13, 14, 15, 16] _ rfl (by kernel_rfl) (fun K hK => ?_)
                go_wp2_with (at_builtin; go_loud (refine wpList_append_row slRows rfl _ _ rfl (v := .slice (some ⟨tb, 0, none⟩) N tc) (n := N) (xs := slvs (slW ws)) rfl HR2.out (ad := ⟨p9, 0, none⟩) (m := 1) (c := 1) (news := [.slice wa W wq]) rfl rfl (news_blk HB9.out) (by simp [Value.oneCell']) (by omega) (by omega) ?_; intro v9 wD hr9 hcX hf9; obtain ⟨yb3, yc3, rfl⟩ := hr9.parts (by omega); have HR9 := Lib.hid hr9; clear hr9; have hyb : W8.heap.size ≤ yb3 := (hf9 yb3 rfl).elim (fun e => by cases e; exact HTB.out) (fun e => Nat.le_trans HCC.out.size e); have HYB := Lib.hid hyb; clear hyb hf9; have HCX := Lib.hid hcX; clear hcX))
                have hcX := HCX.out
                clear HCX HB9 HR2
                have hho := HHO.out.grow hcX (fun q hq => HO.out.far ((fun q hq => (by rw [show q = tb by simpa using hq]; exact HTB.out : W8.heap.size ≤ q)) q hq))
                clear HHO
                have HHO := Lib.hid hho; clear hho
                have hcc := HCC.out.trans hcX (fun q hq => .inr ((fun q hq => (by rw [show q = tb by simpa using hq]; exact HTB.out : W8.heap.size ≤ q)) q hq))
                clear HCC
                have HCC := Lib.hid hcc; clear hcc
                replace hkx := hkx.ch hcX (fun hq => (HO.out.far ((fun q hq => (by rw [show q = tb by simpa using hq]; exact HTB.out : W8.heap.size ≤ q)) _ hq)).2.2.1 _ (by exact List.mem_cons_of_mem _ (List.mem_cons_of_mem _ (List.mem_cons_of_mem _ (List.mem_cons_of_mem _ (List.mem_cons_self ..))))) rfl)
                clear hcX
                refine ⟨rfl, hK _ _ ?_ ?_⟩
                · exact hkx
                clear hK K
                refine Ord.St.ef 11 [12, 13, 14, 15, 16] _ rfl (by kernel_rfl) (fun K hK => ?_)
                obtain ⟨cs3, hb3, hcs3⟩ := blk.of_row HR9.out
                have hf3 := HO.out.far HYB.out
                have hk3 := HHO.out.keepB hb3 hf3.2.2.2 hf3.1
                have hwa := hk3.wa2 (b := ab) (cs := cs) (ws := ws) (by exact List.mem_cons_of_mem _ (by exact List.mem_cons_of_mem _ (List.mem_cons_of_mem _ (List.mem_cons_of_mem _ (List.mem_cons_of_mem _ (List.mem_cons_of_mem _ (List.mem_cons_self ..))))))) HCS.out HMS.out HWL1.out
                have hwb := hk3.wa2 (n := N + 1) (b := yb3) (cs := cs3) (ws := ws ++ [⟨wa, natInts (rIn (N * W) W), wq⟩]) (by exact List.mem_cons_self ..) (fun i x hx => hcs3 i x.val (by rw [show slvs (slW ws) ++ [.slice wa W wq] = (ws ++ [(⟨wa, natInts (rIn (N * W) W), wq⟩ : WV)]).map WV.val by rw [vals_slv, List.map_append]; simp [slvs, slW, slv, rIn], List.getElem?_map, hx]; rfl)) (fun x hx => by
                  rcases List.mem_append.1 hx with hx | hx
                  · exact HMS.out x hx
                  · rw [List.mem_singleton.1 hx]
                    have := HMW.out
                    simpa [WV.val, rIn] using this) (by rw [List.length_append, HWL1.out]; rfl)
                have hx := mEqual_h hk3 (ac := ac) (bc := yc3) hwa hwb (by omega) (G' := gIn 8000 T) (r := 0) (e := 261) (by rw [List.map_append, HWE.out]; exact equal_long hN4)
                have HX := Lib.hid hx; clear hx hwa hwb hk3 hf3 hb3 hcs3
                go_wp2_with fail
                refine HX.out.mono ?_
                rintro en wP ⟨F6, rfl, ho9⟩
                have HO9 := Lib.hid ho9.dropB; clear ho9 HX HHO HCC HR9
                go_wp2_with fail
                refine ⟨rfl, hK _ _ ?_⟩; clear hK K
                refine Ord.St.fl2 (T' := ?_) 12 [13, 14, 15, 16] _ _ rfl (by kernel_rfl) rfl rfl rfl rfl (fun K w' hk => ?_) ?_
                rotate_left
                · go_step; exact hk
                refine Ord.St.fl2 (T' := ?_) 13 [14, 15, 16] _ _ rfl (by kernel_rfl) rfl rfl rfl rfl (fun K w' hk => ?_) ?_
                rotate_left
                · go_step; exact hk
                refine Ord.St.fl2 (T' := ?_) 14 [15, 16] _ _ rfl (by kernel_rfl) rfl rfl rfl rfl (fun K w' hk => ?_) ?_
                rotate_left
                · go_step; exact hk
                refine Ord.St.fl2 (T' := ?_) 15 [16] _ _ rfl (by kernel_rfl) rfl rfl rfl rfl (fun K w' hk => ?_) ?_
                rotate_left
                · go_step; exact hk
                refine Ord.St.fl2 (T' := ?_) 16 [] _ _ rfl (by kernel_rfl) rfl rfl rfl rfl (fun K w' hk => ?_) ?_
                rotate_left
                · go_step; exact hk
                refine Ord.St.nil ?_
                go_wp2_with fail
                go_meet
                case rel => exact ⟨F6, rfl, HO9.out⟩
              · go_wp2_with fail
                refine ⟨rfl, hK _ _ ?_ ?_⟩
                · exact hkx.alloc _
                clear hK K
                refine Ord.St.alw ?_; intro Wn hWn
                have hcX := alw_ch hWn
                obtain ⟨p9, hpe, hb6⟩ : ∃ p9, p9 = _ ∧ blk Wn p9 [.slice wa W wq] := ⟨_, rfl, alw_blk hWn⟩
                rw [← hpe]
                clear hWn hpe
                have HB9 := Lib.hid hb6; clear hb6
                have hho := HHO.out.same hcX
                clear HHO
                have HHO := Lib.hid hho; clear hho
                have hcc := HCC.out.trans hcX (by simp)
                clear HCC
                have HCC := Lib.hid hcc; clear hcc
                replace hkx := hkx.ch hcX (by simp)
                try (have hq2 := HR2.out.ch hcX (by simp); clear HR2; have HR2 := Lib.hid hq2; clear hq2)
                clear hcX
                refine Ord.St.efC 6 [10, 11, 12, 13, 14, 15, 16] _ rfl (by kernel_rfl) (fun K hK => ?_)
                have hcl := CLlst_is (a := some ⟨ab, 0, none⟩) (l := slW ws) N ac (by rw [slW_len]; exact HWL1.out) (HHO.out.svA (b := ab) (cs := cs) (ws := ws) (by exact List.mem_cons_of_mem _ (List.mem_cons_of_mem _ (List.mem_cons_of_mem _ (List.mem_cons_of_mem _ (List.mem_cons_of_mem _ (List.mem_cons_self ..)))))) HCS.out (by rw [HWL1.out]; omega)) (by omega)
                have HCL := Lib.hid hcl; clear hcl
                go_wp2_with fail
                refine HCL.out.mono ?_
                rintro e wA ⟨v2, rfl, hr2, hv2, hcX⟩
                obtain ⟨tb, tc, rfl⟩ := hr2.parts (by omega)
                have htb := Nat.le_trans HCC.out.size (hv2 tb (by simp))
                have HTB := Lib.hid htb; clear htb hv2 HCL
                have HR2 := Lib.hid hr2; clear hr2
                have hho := HHO.out.same hcX
                clear HHO
                have HHO := Lib.hid hho; clear hho
                have hcc := HCC.out.trans hcX (by simp)
                clear HCC
                have HCC := Lib.hid hcc; clear hcc
                replace hkx := hkx.ch hcX (by simp)
                try (have hq2 := HB9.out.ch hcX (by simp); clear HB9; have HB9 := Lib.hid hq2; clear hq2)
                clear hcX
                go_wp2_with fail
                refine ⟨rfl, hK _ _ ?_ ?_⟩
                · exact hkx
                clear hK K
                refine Ord.St.efC 10 [11, 12, 13, 14, 15, 16] _ rfl (by kernel_rfl) (fun K hK => ?_)
                go_wp2_with (at_builtin; go_loud (refine wpList_append_row slRows rfl _ _ rfl (v := .slice (some ⟨tb, 0, none⟩) N tc) (n := N) (xs := slvs (slW ws)) rfl HR2.out (ad := ⟨p9, 0, none⟩) (m := 1) (c := 1) (news := [.slice wa W wq]) rfl rfl (news_blk HB9.out) (by simp [Value.oneCell']) (by omega) (by omega) ?_; intro v9 wD hr9 hcX hf9; obtain ⟨yb3, yc3, rfl⟩ := hr9.parts (by omega); have HR9 := Lib.hid hr9; clear hr9; have hyb : W8.heap.size ≤ yb3 := (hf9 yb3 rfl).elim (fun e => by cases e; exact HTB.out) (fun e => Nat.le_trans HCC.out.size e); have HYB := Lib.hid hyb; clear hyb hf9; have HCX := Lib.hid hcX; clear hcX))
                have hcX := HCX.out
                clear HCX HB9 HR2
                have hho := HHO.out.grow hcX (fun q hq => HO.out.far ((fun q hq => (by rw [show q = tb by simpa using hq]; exact HTB.out : W8.heap.size ≤ q)) q hq))
                clear HHO
                have HHO := Lib.hid hho; clear hho
                have hcc := HCC.out.trans hcX (fun q hq => .inr ((fun q hq => (by rw [show q = tb by simpa using hq]; exact HTB.out : W8.heap.size ≤ q)) q hq))
                clear HCC
                have HCC := Lib.hid hcc; clear hcc
                replace hkx := hkx.ch hcX (fun hq => (HO.out.far ((fun q hq => (by rw [show q = tb by simpa using hq]; exact HTB.out : W8.heap.size ≤ q)) _ hq)).2.2.1 _ (by exact List.mem_cons_of_mem _ (List.mem_cons_of_mem _ (List.mem_cons_of_mem _ (List.mem_cons_of_mem _ (List.mem_cons_self ..))))) rfl)
                clear hcX
                refine ⟨rfl, hK _ _ ?_ ?_⟩
                · exact hkx
                clear hK K
                refine Ord.St.ef 11 [12, 13, 14, 15, 16] _ rfl (by kernel_rfl) (fun K hK => ?_)
                obtain ⟨cs3, hb3, hcs3⟩ := blk.of_row HR9.out
                have hf3 := HO.out.far HYB.out
                have hk3 := HHO.out.keepB hb3 hf3.2.2.2 hf3.1
                have hwa := hk3.wa2 (b := ab) (cs := cs) (ws := ws) (by exact List.mem_cons_of_mem _ (by exact List.mem_cons_of_mem _ (List.mem_cons_of_mem _ (List.mem_cons_of_mem _ (List.mem_cons_of_mem _ (List.mem_cons_of_mem _ (List.mem_cons_self ..))))))) HCS.out HMS.out HWL1.out
                have hwb := hk3.wa2 (n := N + 1) (b := yb3) (cs := cs3) (ws := ws ++ [⟨wa, natInts (rIn (N * W) W), wq⟩]) (by exact List.mem_cons_self ..) (fun i x hx => hcs3 i x.val (by rw [show slvs (slW ws) ++ [.slice wa W wq] = (ws ++ [(⟨wa, natInts (rIn (N * W) W), wq⟩ : WV)]).map WV.val by rw [vals_slv, List.map_append]; simp [slvs, slW, slv, rIn], List.getElem?_map, hx]; rfl)) (fun x hx => by
                  rcases List.mem_append.1 hx with hx | hx
                  · exact HMS.out x hx
                  · rw [List.mem_singleton.1 hx]
                    have := HMW.out
                    simpa [WV.val, rIn] using this) (by rw [List.length_append, HWL1.out]; rfl)
                have hx := mEqual_h hk3 (ac := ac) (bc := yc3) hwa hwb (by omega) (G' := gIn 8000 T) (r := 0) (e := 261) (by rw [List.map_append, HWE.out]; exact equal_long hN4)
                have HX := Lib.hid hx; clear hx hwa hwb hk3 hf3 hb3 hcs3
                go_wp2_with fail
                refine HX.out.mono ?_
                rintro en wP ⟨F6, rfl, ho9⟩
                have HO9 := Lib.hid ho9.dropB; clear ho9 HX HHO HCC HR9
                go_wp2_with fail
                refine ⟨rfl, hK _ _ ?_⟩; clear hK K
                refine Ord.St.fl2 (T' := ?_) 12 [13, 14, 15, 16] _ _ rfl (by kernel_rfl) rfl rfl rfl rfl (fun K w' hk => ?_) ?_
                rotate_left
                · go_step; exact hk
                refine Ord.St.fl2 (T' := ?_) 13 [14, 15, 16] _ _ rfl (by kernel_rfl) rfl rfl rfl rfl (fun K w' hk => ?_) ?_
                rotate_left
                · go_step; exact hk
                refine Ord.St.fl2 (T' := ?_) 14 [15, 16] _ _ rfl (by kernel_rfl) rfl rfl rfl rfl (fun K w' hk => ?_) ?_
                rotate_left
                · go_step; exact hk
                refine Ord.St.fl2 (T' := ?_) 15 [16] _ _ rfl (by kernel_rfl) rfl rfl rfl rfl (fun K w' hk => ?_) ?_
                rotate_left
                · go_step; exact hk
                refine Ord.St.fl2 (T' := ?_) 16 [] _ _ rfl (by kernel_rfl) rfl rfl rfl rfl (fun K w' hk => ?_) ?_
                rotate_left
                · go_step; exact hk
                refine Ord.St.nil ?_
                go_wp2_with fail
                go_meet
                case rel => exact ⟨F6, rfl, HO9.out⟩
            case rest => as_aux_lemma =>
              obtain ⟨F10, rfl, ho⟩ := hcut
              clear HO
              have HO := Lib.hid ho; clear ho
              have hmin0 := HMIN0.out
              go_wp2_with fail
              have hf := mFit_is (w := wc) k0 3
              rw [fit_less hk01] at hf
              refine hf.mono ?_
              rintro e w' ⟨rfl, rfl⟩
              clear hf hmin0
              have hmax17 := HMAX17.out
              go_wp2_with fail
              have hf := mFit_is (w := wc) 3 k17
              rw [fit_more hk171] at hf
              refine hf.mono ?_
              rintro e w' ⟨rfl, rfl⟩
              clear hf hmax17
              as_aux_lemma =>
                go_upto_region 32 with fail
                go_wp2_with (refine lit_ten rfl rfl rfl rfl rfl rfl rfl rfl rfl rfl ?_)
                as_aux_lemma =>
                  obtain ⟨be, hbe⟩ : ∃ be, be = wc.heap.size := ⟨_, rfl⟩
                  obtain ⟨WE, hWE⟩ : ∃ WE, WE = wc.alloc (.cells #[.int .i64 200, .int .i64 260, .int .i64 260, .int .i64 260, .int .i64 200, .int .i64 200, .int .i64 261, .int .i64 261, .int .i64 261, .int .i64 260] 36) := ⟨_, rfl⟩
                  rw [← hWE, ← hbe]
                  have hlb := alw_blk (xs := [.int .i64 200, .int .i64 260, .int .i64 260, .int .i64 260, .int .i64 200, .int .i64 200, .int .i64 261, .int .i64 261, .int .i64 261, .int .i64 260]) hWE
                  have ho := HO.out.same (alw_ch hWE)
                  rw [← hbe] at hlb
                  clear hWE hbe HO
                  have HO := Lib.hid ho; clear ho
                  have HLBE := Lib.hid hlb; clear hlb
                  as_aux_lemma =>
                    go_loopw [283] (fun i wr => ∃ j : Nat, j ≤ 10 ∧ i = .int .i64 j ∧ Ch [] WE wr) (fun i _ => 10 - (intOf i).toNat)
                    case atStart => exact ⟨0, by omega, rfl, Ch.refl _ _⟩
                    case round => as_aux_lemma =>
                      obtain ⟨j, hj, rfl, hc⟩ := hrel
                      by_cases hj10 : j < 10
                      · obtain ⟨e, hle⟩ : ∃ e : Nat, ([.int .i64 200, .int .i64 260, .int .i64 260, .int .i64 260, .int .i64 200, .int .i64 200, .int .i64 261, .int .i64 261, .int .i64 261, .int .i64 260] : List Value)[j]? = some (.int .i64 e) := by
                          rcases (by omega : j = 0 ∨ j = 1 ∨ j = 2 ∨ j = 3 ∨ j = 4 ∨ j = 5 ∨ j = 6 ∨ j = 7 ∨ j = 8 ∨ j = 9) with rfl | rfl | rfl | rfl | rfl | rfl | rfl | rfl | rfl | rfl
                          all_goals first | exact ⟨200, rfl⟩ | exact ⟨260, rfl⟩ | exact ⟨261, rfl⟩
                        have h1 := (HLBE.out.ch hc (by simp)).cell hle
                        have h2 := (blk.new' (w := wr) (b := wr.heap.size) [.int .i64 200, .int .i64 260, .int .i64 260, .int .i64 260, .int .i64 200, .int .i64 200, .int .i64 261, .int .i64 261, .int .i64 261, .int .i64 260] 36 rfl).cell hle
                        have HC := Lib.hid (hc.alloc (.cells #[.int .i64 200, .int .i64 260, .int .i64 260, .int .i64 260, .int .i64 200, .int .i64 200, .int .i64 261, .int .i64 261, .int .i64 261, .int .i64 260] 36)); clear hc hle
                        as_aux_lemma =>
                          go_wp2_with (refine lit_errs ?_)
                          first
                            | exact ⟨⟨j + 1, by omega, rnd_val j, HC.out⟩, rnd_meas hj10⟩
                            | (go_roundw
                               case rel => exact ⟨j + 1, by omega, by go_num, HC.out⟩
                               case measure => simp [intOf]; omega)
                      · have ho := HO.out.same hc
                        clear HO hc
                        have HO := Lib.hid ho; clear ho
                        clear HLBE
                        as_aux_lemma =>
                          go_wp2_with fail
                          refine (New_yes 5 (by decide) (by decide)).mono ?_
                          rintro e wh1 ⟨hg, FH, rfl, hgh, hFH, hch⟩
                          have hh : Hold (⟨wr, []⟩ : Base) wh1 hg (gIn 5 0) FH [] := Hold.start ⟨hgh, hFH, hch⟩
                          clear hgh hFH hch
                          have HH := Lib.hid hh; clear hh
                          as_aux_lemma =>
                            go_wp2_with fail
                            refine (sInput_h HH.out 2 (G' := gIn 5 2) (l := [2, 4]) (e := 0) (k := 2) ev_in2 rfl (by decide) (by decide)).mono ?_
                            rintro e wh2 ⟨ha, hac, FH2, rfl, hh⟩
                            clear HH; have HH := Lib.hid hh; clear hh
                            as_aux_lemma =>
                              go_wp2_with fail
                              refine (sInput_h HH.out 1 (G' := gIn 5 3) (l := [6]) (e := 0) (k := 1) ev_in1 rfl (by decide) (by decide)).mono ?_
                              rintro e wh3 ⟨hb, hbc, FH3, rfl, hh⟩
                              clear HH; have HH := Lib.hid hh; clear hh
                              as_aux_lemma =>
                                go_wp2_with fail
                                refine calls_named fun WA hWA => ?_
                                have hlb := alw_blk (xs := [.slice ha 2 hac, .slice ha 2 hac]) hWA
                                have hh := HH.out.keepN (alw_ch hWA) hlb
                                clear hWA hlb HH
                                generalize wh3.heap.size = lr at *
                                have HH := Lib.hid hh; clear hh
                                refine (mRead_h HH.out (lc := 2) (HH.out.wa (b := lr) (Ls := [⟨ha, natInts [2, 4], hac⟩, ⟨ha, natInts [2, 4], hac⟩]) (by exact List.mem_cons_self ..) (by intro x hx; simp only [List.mem_cons, List.not_mem_nil, or_false] at hx; rcases hx with rfl | rfl <;> simp [WV.val]) (n := 2) rfl) (ya := hb) (yc := hbc) (m := 1) (yl := natInts [6]) (by simp) rfl (G' := gIn 5 3) (l := []) (e := 201) (k := 0) (ev_rd _ _ rfl rfl) rfl (by decide) (by decide)).mono ?_
                                rintro e wh4 ⟨hr, hrc, FH4, rfl, hh⟩
                                clear HH; have HH := Lib.hid hh; clear hh
                                as_aux_lemma =>
                                  go_wp2_with fail
                                  refine calls_named fun WB hWB => ?_
                                  have hlb := alw_blk (xs := [.int .i64 4, .int .i64 6]) hWB
                                  have hh := HH.out.keepN (alw_ch hWB) hlb
                                  clear hWB hlb HH
                                  generalize wh4.heap.size = ls at *
                                  have HH := Lib.hid hh; clear hh
                                  have hin : WVin WB FH4 ⟨some ⟨ls, 0, none⟩, [4, 6], 2⟩ := ⟨⟨⟨fun i x hx => ⟨ls, 0, rfl, by
                                    rcases i with _ | _ | i
                                    · cases hx; exact HH.out.kb0.cell rfl
                                    · cases hx; exact HH.out.kb0.cell rfl
                                    · simp at hx⟩, by simp⟩, fun r hr => by simp only [List.mem_cons, List.not_mem_nil, or_false] at hr; rcases hr with rfl | rfl <;> decide, by simp⟩, fun k hk => by
                                    simp only [ablk, List.mem_singleton] at hk
                                    rw [hk]
                                    exact ⟨(HH.out.kept _ (by exact List.mem_cons_self ..)).2.2, HH.out.kb0.lt⟩⟩
                                  have hx := mChooseE_h HH.out 2 (by unfold I64'; omega) (x := ⟨ha, natInts [2, 4], hac⟩) (y := ⟨some ⟨ls, 0, none⟩, [4, 6], 2⟩) (HH.out.at (by simp) rfl) hin (G' := gIn 5 3) (l := []) (e := 201) ev_ch
                                  simp only [WV.val] at hx
                                  have HX := Lib.hid hx; clear hx hin
                                  refine HX.out.mono ?_
                                  rintro e wh5 ⟨hv5, FH5, rfl, hh⟩
                                  clear HH HX; have HH := Lib.hid hh; clear hh
                                  have ho := HO.out.same HH.out.own.ch
                                  clear HO; have HO := Lib.hid ho; clear ho
                                  as_aux_lemma =>
                                    go_upto_region 44 with fail
                                    have hkx := HO.out.kb (b := bx) (xs := [.pointer (some ⟨g, 0, none⟩), .slice (some ⟨ab, 0, none⟩) N ac, .slice wa W wq, .slice ia V ic, .int .i64 (gd : Int)]) (by exact List.mem_cons_of_mem _ (List.mem_cons_of_mem _ (List.mem_cons_of_mem _ (List.mem_cons_of_mem _ (List.mem_cons_self ..)))))
                                    have z0 := hkx.cell (i := 0) rfl
                                    clear hkx
                                    have hL := Len_g HH.out.own.gin
                                    rw [ev_len] at hL
                                    as_aux_lemma =>
                                      go_wp2_with fail
                                      refine hL.mono ?_
                                      rintro e wh6 ⟨rfl, rfl⟩
                                      clear hL HH
                                      as_aux_lemma =>
                                        go_wp2_with fail
                                        refine (Len_h HO.out HLG.out).mono ?_
                                        rintro e wh7 ⟨rfl, ho⟩
                                        clear HO; have HO := Lib.hid ho; clear ho z0
                                        as_aux_lemma =>
                                          go_wp2_with fail
                                          go_ret
                                          exact ⟨rfl, HC1.out.trans HO.out.own.ch (by simp)⟩
theorem MuxesWrong_walk {w : World} (n : Nat) (_ : n ≤ 255) (wd : Nat) (_ : wd ≤ 255) (v : Nat) (_ : v ≤ 255) (k : Int) (hk : (Lit.int .i64 k).wf = true) :
    Calls Try.prog 3 #[.int .u8 n, .int .u8 wd, .int .u8 v, .int .i64 k] w fun e w' => e = .returned (.bool true) ∧ Ch [] w w' :=
  MuxesWrong_core w n wd v _ _ _ _ k (by simpa [Lit.wf, IntKind.min, IntKind.max, IntKind.signed, IntKind.bits] using hk) rfl rfl rfl rfl
end
end Go.Proofs.Ytndcgfnlgcincaa
