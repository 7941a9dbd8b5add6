/-
  Walks over the reference's graphs: a graph as a value (RG), Not, Right, New, Put. Conditions: a graph that can be read.
-/
import Derived.Test.YtnajonchjlplmaaQC
import Derived.Test.YtnajonchjlplmaaQD
namespace Go.Proofs.Ytnajonchjlplmaa
open Go.RowKit Go.Mem Go.Aig
def rnCells (x : Nd) : List Value := [.int .i64 x.k, .int .i64 x.l, .int .i64 x.r]
def rCells : List Nd → List Value
  | [] => []
  | x :: ns => rnCells x ++ rCells ns
theorem rCells_length : ∀ ns : List Nd, (rCells ns).length = ns.length * 3
  | [] => rfl
  | x :: ns => by simp [rCells, rCells_length ns, rnCells]; omega
theorem rCells_append : ∀ (ns ms : List Nd), rCells (ns ++ ms) = rCells ns ++ rCells ms
  | [], _ => rfl
  | x :: ns, ms => by simp [rCells, rCells_append ns ms]
theorem rCells_get : ∀ {ns : List Nd} {n : Nat} {x : Nd} {j : Nat} {v : Value}, ns[n]? = some x → (rnCells x)[j]? = some v → (rCells ns)[n * 3 + j]? = some v
  | [], n, x, j, v, h, _ => by simp at h
  | y :: ns, 0, x, j, v, h, hv => by
    simp at h; subst h
    have : j < 3 := by have := (List.getElem?_eq_some_iff.1 hv).1; simpa [rnCells] using this
    simp only [rCells]
    rw [List.getElem?_append_left (by simp [rnCells]; omega)]
    simpa using hv
  | y :: ns, n + 1, x, j, v, h, hv => by
    simp only [rCells]
    rw [List.getElem?_append_right (by simp [rnCells]; omega)]
    have := rCells_get (ns := ns) (n := n) (x := x) (by simpa using h) hv
    rw [← this]
    congr 1
    simp [rnCells]
    omega
theorem rCells_one : ∀ (ns : List Nd) (u : Value), u ∈ rCells ns → u.oneCell' = true
  | [], u, h => by cases h
  | x :: ns, u, h => by
    rcases List.mem_append.1 h with h | h
    · simp [rnCells] at h
      rcases h with rfl | rfl | rfl <;> rfl
    · exact rCells_one ns u h
theorem rCells_take {ns : List Nd} {n : Nat} {j : Nat} {v : Value} (h : (rCells (ns.take n))[j]? = some v) : (rCells ns)[j]? = some v := by
  have e : rCells ns = rCells (ns.take n) ++ rCells (ns.drop n) := by rw [← rCells_append, List.take_append_drop]
  rw [e, List.getElem?_append_left (List.getElem?_eq_some_iff.1 h).1]
  exact h
/-- a graph of the reference, as a value: its nodes lie in a block -/
structure RG (w : World) (rb cap : Nat) (G : Gra) : Prop where
  cells : ∀ j u, (rCells G.nodes)[j]? = some u → w.cell? ⟨rb, j, none⟩ = some u
  lt : rb < w.heap.size
  le : G.nodes.length ≤ cap
  mx : cap ≤ 9223372036854775807
  ok : Ok G
theorem RG.ch {F : List Nat} {a w : World} {rb cap : Nat} {G : Gra} (h : RG a rb cap G) (hc : Ch F a w) (hF : rb ∉ F) : RG w rb cap G :=
  ⟨fun j u hu => (hc.cell (p := ⟨rb, j, none⟩) h.lt hF).trans (h.cells j u hu), Nat.lt_of_lt_of_le h.lt hc.size, h.le, h.mx, h.ok⟩
theorem RG.node {w : World} {rb cap : Nat} {G : Gra} (h : RG w rb cap G) {n : Nat} {x : Nd} (hx : G.nodes[n]? = some x) :
    w.cell? ⟨rb, n * 3, none⟩ = some (.int .i64 x.k) ∧ w.cell? ⟨rb, n * 3 + 1, none⟩ = some (.int .i64 x.l) ∧ w.cell? ⟨rb, n * 3 + 2, none⟩ = some (.int .i64 x.r) :=
  ⟨h.cells (n * 3 + 0) _ (rCells_get hx (j := 0) rfl), h.cells _ _ (rCells_get hx (j := 1) rfl), h.cells _ _ (rCells_get hx (j := 2) rfl)⟩
theorem RG.len {w : World} {rb cap : Nat} {G : Gra} (h : RG w rb cap G) : G.nodes.length ≤ 65536 ∧ 0 < G.nodes.length ∧ G.most ≤ 65536 := by
  have := h.ok.room; have := h.ok.most; have := h.ok.wf.pos; omega
/-- what a function of the reference returns: a graph, a reference, an error -/
def RTo (w : World) (rb : Nat) (R : Res) (e : Ending) (w' : World) : Prop := ∃ rb' cap', e = .returned (.tuple #[.agg #[.int .i64 R.1.most, .slice (some ⟨rb', 0, none⟩) R.1.nodes.length cap'], .int .i64 R.2.1, .int .i64 R.2.2]) ∧ RG w' rb' cap' R.1 ∧ Ch [] w w' ∧ (rb' = rb ∨ w.heap.size ≤ rb')
theorem infoRNode : (Try.prog.info? 122).map (fun i => (i.zero, i.size, i.bytes)) = some (some (.agg #[.int .i64 0, .int .i64 0, .int .i64 0]), 3, 24) := by kernel_rfl
theorem slRNodes : SliceTy Try.prog 103 122 3 24 (.agg #[.int .i64 0, .int .i64 0, .int .i64 0]) := ⟨Try.underlying103, infoRNode, rfl, by decide⟩
section
set_option maxRecDepth 100000 in
set_option maxHeartbeats 400000 in
theorem rNot_is (w : World) (r : Nat) (hr : r ≤ 9223372036854775806) : Calls Try.prog 86 #[.int .i64 r] w fun e w' => e = .returned (.int .i64 (neg r : Nat)) ∧ w = w' := by
  by_cases h : r % 2 = 0
  · have e : neg r = r + 1 := by unfold neg; rw [if_pos h]
    have q : ((r : Int) % 2 == 0) = true := by simp; omega
    rw [e]
    clear e h
    go_enter Try.func86, Try.ntmps86
    go_wp2_with fail
    go_ret
    exact ⟨ret_int (by omega), rfl⟩
  · have e : neg r = r - 1 := by unfold neg; rw [if_neg h]
    have q : ((r : Int) % 2 == 0) = false := by simp; omega
    have h1 : 1 ≤ r := by omega
    rw [e]
    clear e h
    go_enter Try.func86, Try.ntmps86
    go_wp2_with fail
    go_ret
    exact ⟨ret_int (by omega), rfl⟩
set_option maxRecDepth 100000 in
set_option maxHeartbeats 400000 in
theorem rRight_is {w : World} {rb cap : Nat} {G : Gra} (h : RG w rb cap G) (r : Int) : Calls Try.prog 73 #[.agg #[.int .i64 G.most, .slice (some ⟨rb, 0, none⟩) G.nodes.length cap], .int .i64 r] w fun e w' => e = .returned (.bool (right G.nodes r)) ∧ Ch [] w w' := by
  obtain ⟨hl, hp, hm⟩ := h.len
  have hle := h.le
  have hmx := h.mx
  clear h
  unfold right
  by_cases h0 : 0 ≤ r
  · by_cases h1 : r < 2 * G.nodes.length
    · have e : decide (0 ≤ r ∧ r < 2 * (G.nodes.length : Int)) = true := decide_eq_true ⟨h0, h1⟩
      rw [e]
      generalize G.nodes.length = n at *
      clear e
      go_enter Try.func73, Try.ntmps73
      go_wp2_with fail
      go_ret
      exact ⟨by simp [*], (Ch.refl _ _).alloc _⟩
    · have e : decide (0 ≤ r ∧ r < 2 * (G.nodes.length : Int)) = false := decide_eq_false (fun h => h1 h.2)
      rw [e]
      generalize G.nodes.length = n at *
      clear e
      go_enter Try.func73, Try.ntmps73
      go_wp2_with fail
      go_ret
      exact ⟨by simp [*], (Ch.refl _ _).alloc _⟩
  · have e : decide (0 ≤ r ∧ r < 2 * (G.nodes.length : Int)) = false := decide_eq_false (fun h => h0 h.1)
    rw [e]
    generalize G.nodes.length = n at *
    clear e
    go_enter Try.func73, Try.ntmps73
    go_wp2_with fail
    go_ret
    exact ⟨by simp [*], (Ch.refl _ _).alloc _⟩
set_option maxRecDepth 100000 in
set_option maxHeartbeats 400000 in
theorem rNew_no (w : World) (most : Int) (h : most < 1 ∨ 65536 < most) : Calls Try.prog 60 #[.int .i64 most] w fun e w' => e = .returned (.tuple #[.agg #[.int .i64 0, .slice none 0 0], .int .i64 2]) ∧ Ch [] w w' := by
  rcases h with h | h
  · go_enter Try.func60, Try.ntmps60
    go_wp2_with fail
    exact bodyPost_ret (v := .tuple #[.agg #[.int .i64 0, .slice none 0 0], .int .i64 2]) (by simp [results, Try.results60, go_sem]) rfl ⟨rfl, ((Ch.refl _ _).alloc _)⟩
  · have h1 : ¬ most < 1 := by omega
    go_enter Try.func60, Try.ntmps60
    go_wp2_with fail
    exact bodyPost_ret (v := .tuple #[.agg #[.int .i64 0, .slice none 0 0], .int .i64 2]) (by simp [results, Try.results60, go_sem]) rfl ⟨rfl, ((Ch.refl _ _).alloc _)⟩
set_option maxRecDepth 100000 in
set_option maxHeartbeats 400000 in
theorem rNew_yes (w : World) (most : Nat) (h1 : 1 ≤ most) (h2 : most ≤ 65536) : Calls Try.prog 60 #[.int .i64 most] w fun e w' => ∃ rb cap, e = .returned (.tuple #[.agg #[.int .i64 (newG most).most, .slice (some ⟨rb, 0, none⟩) (newG most).nodes.length cap], .int .i64 0]) ∧ RG w' rb cap (newG most) ∧ Ch [] w w' ∧ w.heap.size ≤ rb := by
  have HO := Lib.hid (newG_ok h1 h2)
  go_enter Try.func60, Try.ntmps60
  go_wp2_with fail
  have hb : blk ((w.alloc (.cells #[.int .i64 most, .slice (some ⟨w.heap.size + 1, 0, none⟩) 1 1] 105)).alloc (.cells #[.int .i64 1, .int .i64 0, .int .i64 0] 122)) (w.heap.size + 1) (rCells (newG most).nodes) := blk.new' (rCells (newG most).nodes) 122 (by simp)
  exact bodyPost_ret (v := .tuple #[.agg #[.int .i64 most, .slice (some ⟨w.heap.size + 1, 0, none⟩) 1 1], .int .i64 0]) (by simp [results, Try.results60, go_sem]) rfl ⟨_, 1, rfl, ⟨fun j u hu => hb.cell hu, hb.lt, Nat.le_refl _, by omega, HO.out⟩, ((Ch.refl _ _).alloc _).alloc _, by omega⟩
theorem row_new0 {w W : World} {e : TypeId} {size : Nat} (h : W = w.alloc (.cells #[] e)) : row W e size (.slice (some ⟨w.heap.size, 0, none⟩) 0 0) 0 [] :=
  ⟨by simp, .inr ⟨_, 0, #[], rfl, Nat.zero_le _, by rw [h]; exact heap_alloc_new w _, Nat.le_refl _, by unfold maxLen; omega, by simp, by simp⟩⟩
theorem new_lo {W0 w : World} (h : Ch [] W0 w) : ∀ k ∈ (Value.slice (some ⟨w.heap.size, 0, none⟩) 0 0).ownBlock.toList, W0.heap.size ≤ k := by
  intro k hk
  simp at hk
  subst hk
  exact h.size
theorem new_ne {w : World} {b : Nat} {xs : List Value} (h : blk w b xs) : ∀ k, (Value.slice (some ⟨w.heap.size, 0, none⟩) 0 0).ownBlock = some k → k ≠ b := by
  intro k hk
  simp at hk
  have := h.lt
  omega
theorem row_ne {w : World} {e : TypeId} {size : Nat} {v : Value} {n : Nat} {xs : List Value} (h : row w e size v n xs) : ∀ k, v.ownBlock = some k → k ≠ w.heap.size := fun k hk => by
  have := (h.lt k hk).2
  omega
theorem grow_ne {w : World} {b : Nat} {xs : List Value} {v v' : Value} (h : blk w b xs) (hx : ∀ k, v.ownBlock = some k → k ≠ b) (hf : ∀ k, v'.ownBlock = some k → v.ownBlock = some k ∨ w.heap.size ≤ k) : ∀ k, v'.ownBlock = some k → k ≠ b := fun k hk =>
  (hf k hk).elim (hx k) (fun e => by have := h.lt; omega)
theorem grow_lo {W0 w : World} {v v' : Value} (h : Ch [] W0 w) (hl : ∀ k ∈ v.ownBlock.toList, W0.heap.size ≤ k) (hf : ∀ k, v'.ownBlock = some k → v.ownBlock = some k ∨ w.heap.size ≤ k) : ∀ k ∈ v'.ownBlock.toList, W0.heap.size ≤ k := fun k hk =>
  (hf k (by simpa using hk)).elim (fun e => hl k (by simpa using e)) (fun e => Nat.le_trans h.size e)
theorem not_own {v : Value} {b : Nat} (hx : ∀ k, v.ownBlock = some k → k ≠ b) : b ∉ v.ownBlock.toList := fun hin => hx b (Option.mem_toList.1 hin) rfl
theorem row_cap {w : World} {e : TypeId} {size : Nat} {a : Option Addr} {n c m : Nat} {xs : List Value} (h : row w e size (.slice a n c) m xs) : m ≤ c ∧ c ≤ 9223372036854775807 := by
  rcases h.2 with ⟨e1, h0⟩ | ⟨g', cap', cur, e1, _, _, h1, h2, _⟩
  · cases e1; omega
  · cases e1; exact ⟨h1, by unfold maxLen at h2; exact h2⟩
/-- the world under a name -/
theorem wp_alw {P : Program} {c : Code} {Q : Exit → Act → World → Prop} {a : Act} {w : World} (h : ∀ W, W = w → Code.wp P c Q a W) : Code.wp P c Q a w := h w rfl
set_option maxRecDepth 100000 in
set_option maxHeartbeats 1000000 in
theorem rPut_no {w : World} {rb cap : Nat} {G : Gra} (h : RG w rb cap G) (x : Nd) (hm : G.most ≤ G.nodes.length) : Calls Try.prog 75 #[.agg #[.int .i64 G.most, .slice (some ⟨rb, 0, none⟩) G.nodes.length cap], .agg #[.int .i64 x.k, .int .i64 x.l, .int .i64 x.r]] w (RTo w rb (put G x)) := by
  have e : put G x = (G, 0, 201) := by unfold put; rw [if_pos hm]
  rw [e]
  have H := Lib.hid h; clear h
  have hd : decide (G.most ≤ G.nodes.length) = true := decide_eq_true hm
  clear e
  go_enter Try.func75, Try.ntmps75
  go_wp2_with fail
  have hc : Ch [] w (((w.alloc (.cells #[.int .i64 G.most, .slice (some ⟨rb, 0, none⟩) G.nodes.length cap] 105)).alloc (.cells #[.int .i64 x.k, .int .i64 x.l, .int .i64 x.r] 122)).alloc (.cells #[.int .i64 G.most, .slice (some ⟨rb, 0, none⟩) G.nodes.length cap] 105)) := (((Ch.refl _ _).alloc _).alloc _).alloc _
  exact bodyPost_ret (v := .tuple #[.agg #[.int .i64 G.most, .slice (some ⟨rb, 0, none⟩) G.nodes.length cap], .int .i64 0, .int .i64 201]) (by simp [results, Try.results75, go_sem]) rfl ⟨rb, cap, rfl, H.out.ch hc (by simp), hc, .inl rfl⟩
set_option maxRecDepth 100000 in
set_option maxHeartbeats 1000000 in
theorem rPut_yes {w : World} {rb cap : Nat} {G : Gra} (h : RG w rb cap G) (x : Nd) (hm : G.nodes.length < G.most) (ho2 : Ok { G with nodes := G.nodes ++ [x] }) : Calls Try.prog 75 #[.agg #[.int .i64 G.most, .slice (some ⟨rb, 0, none⟩) G.nodes.length cap], .agg #[.int .i64 x.k, .int .i64 x.l, .int .i64 x.r]] w (RTo w rb (put G x)) := by
  have e : put G x = ({ G with nodes := G.nodes ++ [x] }, 2 * G.nodes.length, 0) := by unfold put; rw [if_neg (by omega)]
  rw [e]
  have HO2 := Lib.hid ho2; clear ho2
  have H := Lib.hid h; clear h
  have hd : decide (G.most ≤ G.nodes.length) = false := decide_eq_false (by omega)
  clear e
  go_enter Try.func75, Try.ntmps75
  go_wp2_with fail
  refine wp_alw ?_
  intro W0 hW0
  have hc0 : Ch [] w W0 := by rw [hW0]; exact (((Ch.refl _ _).alloc _).alloc _).alloc _
  have b2 : blk W0 w.heap.size [.int .i64 G.most, .slice (some ⟨rb, 0, none⟩) G.nodes.length cap] := by rw [hW0]; exact ((blk.new' (w := w) [.int .i64 G.most, .slice (some ⟨rb, 0, none⟩) G.nodes.length cap] 105 rfl).alloc _).alloc _
  have b3 : blk W0 (w.heap.size + 1) [.int .i64 x.k, .int .i64 x.l, .int .i64 x.r] := by rw [hW0]; exact (blk.new' [.int .i64 x.k, .int .i64 x.l, .int .i64 x.r] 122 (by simp)).alloc _
  have b4 : blk W0 (w.heap.size + 1 + 1) [.int .i64 0, .slice none 0 0] := by rw [hW0]; exact blk.new' [.int .i64 0, .slice none 0 0] 105 (by simp)
  clear hW0
  have H0 := H.out.ch hc0 (by simp)
  have hrb := H.out.lt
  obtain ⟨hl, hp, hmo⟩ := H0.len
  have hle := H0.le
  have hmx := H0.mx
  have B2 := Lib.hid b2; clear b2
  have B3 := Lib.hid b3; clear b3
  have B4 := Lib.hid b4; clear b4
  have HC0 := Lib.hid hc0; clear hc0
  have HH := Lib.hid H0; clear H0 H hd
  obtain ⟨n, hn⟩ : ∃ n, G.nodes.length = n := ⟨_, rfl⟩
  have HN := Lib.hid hn
  rw [hn] at hl hp hle hm
  have hs0 := HC0.out.size
  refine Ord.St.door (fun w' => Ch [] W0 w') [.ef, .fl, .ho, .ef, .ho, .ef, .ef, .fl, .ef] [0, 0, 2, 7, 0, 16, 63, 127, 255] [0, 1, 2, 3, 4, 5, 6, 7, 8] mixed (by kernel_rfl) rfl ?_
  obtain ⟨Wc, hWc⟩ : ∃ Wc, Wc = W0.drew := ⟨_, rfl⟩
  rw [← hWc]
  have hcur : Ch [] W0 Wc := by rw [hWc]; exact (Ch.refl _ _).drew
  clear hWc
  refine Ord.St.fl2 (T' := ?_) 1 [0, 2, 3, 4, 5, 6, 7, 8] _ _ rfl (by kernel_rfl) rfl rfl rfl rfl (fun K w' hk => ?_) ?_
  rotate_left
  · go_step; exact hk
  refine Ord.St.ho2 (T' := ?_) 2 [0, 3, 4, 5, 6, 7, 8] _ _ rfl (by kernel_rfl) rfl rfl rfl rfl ?_ (fun K w' hw' hk => ?_) ?_
  rotate_left
  · trivial
  · have y1 := (B2.out.ch hw' (by simp)).cell (i := 1) rfl; have z0 := (B3.out.ch hw' (by simp)).cell (i := 0) rfl; have z1 := (B3.out.ch hw' (by simp)).cell (i := 1) rfl; have z2 := (B3.out.ch hw' (by simp)).cell (i := 2) rfl; go_step; exact hk
  refine Ord.St.ho2 (T' := ?_) 4 [0, 3, 5, 6, 7, 8] _ _ rfl (by kernel_rfl) rfl rfl rfl rfl ?_ (fun K w' hw' hk => ?_) ?_
  rotate_left
  · trivial
  · have y1 := (B2.out.ch hw' (by simp)).cell (i := 1) rfl; have z0 := (B3.out.ch hw' (by simp)).cell (i := 0) rfl; have z1 := (B3.out.ch hw' (by simp)).cell (i := 1) rfl; have z2 := (B3.out.ch hw' (by simp)).cell (i := 2) rfl; go_step; exact hk
  refine Ord.St.two 0 5 [3, 5, 6, 7, 8] [0, 3, 6, 7, 8] _ _ (by kernel_rfl) rfl rfl (by kernel_rfl) (by kernel_rfl) (fun K hK => ?_) (fun K hK => ?_)
  · go_wp2_with fail
    refine ⟨rfl, hK _ _ ?_ ?_⟩
    · exact hcur.alloc _
    clear hK K
    refine Ord.St.alw ?_; intro Wn hWn
    have hrow := row_new0 (e := 122) (size := 3) hWn
    have hlo := new_lo hcur
    try have hx := new_ne hb5
    try replace hb5 := hb5.ch (alw_ch hWn) (by simp)
    replace hcur := hcur.trans (alw_ch hWn) (by simp)
    clear hWn
    refine Ord.St.two 3 5 [5, 6, 7, 8] [3, 6, 7, 8] _ _ (by kernel_rfl) rfl rfl (by kernel_rfl) (by kernel_rfl) (fun K hK => ?_) (fun K hK => ?_)
    · have hnews : ∀ j u, (rCells G.nodes)[j]? = some u → _ := (HH.out.ch hcur (by simp)).cells
      have HNW := Lib.hid hnews; clear hnews
      have HROW := Lib.hid hrow; clear hrow
      go_wp2_with (at_builtin; go_loud (refine wpList_append_row slRNodes rfl _ _ rfl (v := .slice (some ⟨_, 0, none⟩) 0 0) (n := 0) (xs := []) rfl HROW.out (ad := ⟨rb, 0, none⟩) (m := n) (c := cap) (news := rCells G.nodes) rfl (by rw [rCells_length, HN.out]) (by intro j u hu; rw [Addr.add_lit, Nat.zero_add]; exact HNW.out j u hu) (rCells_one _) (by omega) (by omega) ?_; intro v1 wA hr1 hcA hfA; rw [Nat.zero_add, List.nil_append] at hr1; obtain ⟨ba, rca, rfl⟩ := row.parts hr1 (by omega)))
      refine ⟨rfl, hK _ _ ?_ ?_⟩
      · exact hcur.trans hcA (fun k hk => .inr (hlo k hk))
      clear hK K
      have hrow := hr1
      try have hx2 := grow_ne hb5 hx hfA
      try replace hb5 := hb5.ch hcA (not_own hx)
      try clear hx
      try have hx := hx2
      have hlo2 := grow_lo hcur hlo hfA
      replace hcur := hcur.trans hcA (fun k hk => .inr (hlo k hk))
      clear hlo
      have hlo := hlo2
      clear hcA hfA hr1 HROW HNW hlo2
      refine Ord.St.efC 5 [6, 7, 8] _ rfl (by kernel_rfl) (fun K hK => ?_)
      go_wp2_with fail
      refine ⟨rfl, hK _ _ ?_ ?_⟩
      · exact hcur.alloc _
      clear hK K
      refine Ord.St.alw ?_; intro Wn hWn
      have hb5 := alw_blk (xs := [.int .i64 x.k, .int .i64 x.l, .int .i64 x.r]) hWn
      try have hx := row_ne hrow
      try replace hrow := hrow.ch (alw_ch hWn) (by simp)
      replace hcur := hcur.trans (alw_ch hWn) (by simp)
      clear hWn
      refine Ord.St.ef 6 [7, 8] _ rfl (by kernel_rfl) (fun K hK => ?_)
      have HROW := Lib.hid hrow; clear hrow
      have HX := Lib.hid hx; clear hx
      have HB5 := Lib.hid hb5; clear hb5
      have HLO := Lib.hid hlo; clear hlo
      have HCUR := Lib.hid hcur; clear hcur
      go_wp2_with (at_builtin; go_loud (refine wpList_append_row slRNodes rfl _ _ rfl (v := .slice (some ⟨ba, 0, none⟩) n rca) (n := n) (xs := rCells G.nodes) rfl HROW.out (ad := ⟨_, 0, none⟩) (m := 1) (c := 1) (news := [.int .i64 x.k, .int .i64 x.l, .int .i64 x.r]) rfl rfl (news_blk HB5.out) (by simp [Value.oneCell']) (by omega) (by omega) ?_; intro v2 wB hr2 hcB hfB; obtain ⟨bb, rcb, rfl⟩ := row.parts hr2 (by omega); have hlo2 := grow_lo HCUR.out HLO.out hfB; have hcur := HCUR.out.trans hcB (fun k hk => .inr (HLO.out k hk))))
      refine ⟨rfl, hK _ _ ?_⟩; clear hK K
      clear hcB hfB
      have b2 := B2.out.ch hcur (by simp)
      have b4 := B4.out.ch hcur (by simp)
      have hne2 : bb ≠ w.heap.size := by have := hlo2 bb (by simp); have := B2.out.lt; omega
      have hne4 : bb ≠ w.heap.size + 1 + 1 := by have := hlo2 bb (by simp); have := B4.out.lt; omega
      have hwb : w.heap.size ≤ bb := by have := hlo2 bb (by simp); omega
      have y1 := b2.cell (i := 1) rfl
      have f1 := b2.frozen (i := 1)
      have BB2 := Lib.hid b2; clear b2
      have BB4 := Lib.hid b4; clear b4
      have HR2 := Lib.hid hr2; clear hr2
      clear hlo2
      refine Ord.St.fl2 (T' := ?_) 7 [8] _ _ rfl (by kernel_rfl) rfl rfl rfl rfl (fun K w' hk => ?_) ?_
      rotate_left
      · go_step; exact hk
      refine Ord.St.ef 8 [] _ rfl (by kernel_rfl) (fun K hK => ?_)
      go_wp2_with fail
      refine ⟨rfl, hK _ _ ?_⟩; clear hK K
      refine Ord.St.nil ?_
      go_wp2_with fail
      refine wp_alw ?_
      intro W5 hW5
      have b2 : blk W5 w.heap.size [.int .i64 G.most, .slice (some ⟨bb, 0, none⟩) (n + 1) rcb] := by rw [hW5]; exact BB2.out.set _
      have hc5 : Ch [w.heap.size] wB W5 := by rw [hW5]; exact (Ch.refl _ _).setCell (by simp) _
      have b4 := BB4.out.ch hc5 (by simp; omega)
      have hr5 := HR2.out.ch hc5 (by intro k hk; simp at hk; subst hk; simpa using hne2)
      have hc05 : Ch [] w W5 := (HC0.out.trans hcur (by simp)).trans hc5 (by simp)
      have y0 := b2.cell (i := 0) rfl
      have y1 := b2.cell (i := 1) rfl
      have z0 := b4.cell (i := 0) rfl
      have z1 := b4.cell (i := 1) rfl
      have f0 := b4.frozen (i := 0)
      have f1' := b4.frozen (i := 1)
      have BB2' := Lib.hid b2; clear b2
      have BB4' := Lib.hid b4; clear b4
      have HR5 := Lib.hid hr5; clear hr5
      have HC5 := Lib.hid hc05; clear hc05 hc5
      clear hW5 BB2 BB4 HR2 f1
      refine Ord.St.door (fun w' => w'.cell? ⟨w.heap.size, 1, none⟩ = some (.slice (some ⟨bb, 0, none⟩) (n + 1) rcb)) [.rd, .fl, .ho, .fl, .fl, .fl, .ef, .fl, .fl] [0, 0, 2, 6, 14, 30, 1, 127, 255] [0, 1, 2, 3, 4, 5, 6, 7, 8] mixed (by kernel_rfl) rfl ?_
      refine Ord.St.rd2 (T' := ?_) 0 [1, 2, 3, 4, 5, 6, 7, 8] _ _ rfl (by kernel_rfl) rfl rfl rfl rfl (fun K hk => ?_) ?_
      rotate_left
      · go_step; exact hk
      refine Ord.St.fl2 (T' := ?_) 1 [2, 3, 4, 5, 6, 7, 8] _ _ rfl (by kernel_rfl) rfl rfl rfl rfl (fun K w' hk => ?_) ?_
      rotate_left
      · go_step; exact hk
      refine Ord.St.ho2 (T' := ?_) 2 [3, 4, 5, 6, 7, 8] _ _ rfl (by kernel_rfl) rfl rfl rfl rfl ?_ (fun K w' hw' hk => ?_) ?_
      rotate_left
      · trivial
      · skip; go_step; exact hk
      refine Ord.St.fl2 (T' := ?_) 3 [4, 5, 6, 7, 8] _ _ rfl (by kernel_rfl) rfl rfl rfl rfl (fun K w' hk => ?_) ?_
      rotate_left
      · go_step; exact hk
      refine Ord.St.fl2 (T' := ?_) 4 [5, 6, 7, 8] _ _ rfl (by kernel_rfl) rfl rfl rfl rfl (fun K w' hk => ?_) ?_
      rotate_left
      · go_step; exact hk
      refine Ord.St.fl2 (T' := ?_) 5 [6, 7, 8] _ _ rfl (by kernel_rfl) rfl rfl rfl rfl (fun K w' hk => ?_) ?_
      rotate_left
      · go_step; exact hk
      refine Ord.St.efC 6 [7, 8] _ rfl (by kernel_rfl) (fun K hK => ?_)
      go_wp2_with fail
      refine ⟨rfl, hK _ _ ?_ ?_⟩
      · go_simp
      clear hK K
      refine Ord.St.fl2 (T' := ?_) 7 [8] _ _ rfl (by kernel_rfl) rfl rfl rfl rfl (fun K w' hk => ?_) ?_
      rotate_left
      · go_step; exact hk
      refine Ord.St.fl2 (T' := ?_) 8 [] _ _ rfl (by kernel_rfl) rfl rfl rfl rfl (fun K w' hk => ?_) ?_
      rotate_left
      · go_step; exact hk
      refine Ord.St.nil ?_
      go_wp2_with fail
      have hc9 : Ch [w.heap.size + 1 + 1] W5 ((W5.setCell ⟨w.heap.size + 1 + 1, 0, none⟩ (.int .i64 G.most)).setCell ⟨w.heap.size + 1 + 1, 1, none⟩ (.slice (some ⟨bb, 0, none⟩) (n + 1) rcb)).drew := (((Ch.refl _ _).setCell (by simp) _).setCell (by simp) _).drew
      have hr9 := HR5.out.ch hc9 (by intro k hk; simp at hk; subst hk; simpa using hne4)
      have hcap := row_cap hr9
      refine bodyPost_ret (v := .tuple #[.agg #[.int .i64 G.most, .slice (some ⟨bb, 0, none⟩) (n + 1) rcb], .int .i64 (2 * n), .int .i64 0]) (by simp [results, Try.results75, go_sem, z0, z1]) rfl ?_
      refine ⟨bb, rcb, ?_, ⟨fun j u hu => ?_, ?_, ?_, hcap.2, HO2.out⟩, HC5.out.trans hc9 (fun k hk => .inr (by simp at hk; omega)), .inr hwb⟩
      · simp [HN.out]
      · rw [rCells_append] at hu; have := hr9.cells (g := bb) rfl j u (by simpa [rCells, rnCells] using hu); rwa [Addr.add_lit, Nat.zero_add] at this
      · exact (hr9.lt bb rfl).2
      · simpa [HN.out] using hcap.1
    · go_wp2_with fail
      refine ⟨rfl, hK _ _ ?_ ?_⟩
      · exact hcur.alloc _
      clear hK K
      refine Ord.St.alw ?_; intro Wn hWn
      have hb5 := alw_blk (xs := [.int .i64 x.k, .int .i64 x.l, .int .i64 x.r]) hWn
      try have hx := row_ne hrow
      try replace hrow := hrow.ch (alw_ch hWn) (by simp)
      replace hcur := hcur.trans (alw_ch hWn) (by simp)
      clear hWn
      refine Ord.St.efC 3 [6, 7, 8] _ rfl (by kernel_rfl) (fun K hK => ?_)
      have hnews : ∀ j u, (rCells G.nodes)[j]? = some u → _ := (HH.out.ch hcur (by simp)).cells
      have HNW := Lib.hid hnews; clear hnews
      have HROW := Lib.hid hrow; clear hrow
      go_wp2_with (at_builtin; go_loud (refine wpList_append_row slRNodes rfl _ _ rfl (v := .slice (some ⟨_, 0, none⟩) 0 0) (n := 0) (xs := []) rfl HROW.out (ad := ⟨rb, 0, none⟩) (m := n) (c := cap) (news := rCells G.nodes) rfl (by rw [rCells_length, HN.out]) (by intro j u hu; rw [Addr.add_lit, Nat.zero_add]; exact HNW.out j u hu) (rCells_one _) (by omega) (by omega) ?_; intro v1 wA hr1 hcA hfA; rw [Nat.zero_add, List.nil_append] at hr1; obtain ⟨ba, rca, rfl⟩ := row.parts hr1 (by omega)))
      refine ⟨rfl, hK _ _ ?_ ?_⟩
      · exact hcur.trans hcA (fun k hk => .inr (hlo k hk))
      clear hK K
      have hrow := hr1
      try have hx2 := grow_ne hb5 hx hfA
      try replace hb5 := hb5.ch hcA (not_own hx)
      try clear hx
      try have hx := hx2
      have hlo2 := grow_lo hcur hlo hfA
      replace hcur := hcur.trans hcA (fun k hk => .inr (hlo k hk))
      clear hlo
      have hlo := hlo2
      clear hcA hfA hr1 HROW HNW hlo2
      refine Ord.St.ef 6 [7, 8] _ rfl (by kernel_rfl) (fun K hK => ?_)
      have HROW := Lib.hid hrow; clear hrow
      have HX := Lib.hid hx; clear hx
      have HB5 := Lib.hid hb5; clear hb5
      have HLO := Lib.hid hlo; clear hlo
      have HCUR := Lib.hid hcur; clear hcur
      go_wp2_with (at_builtin; go_loud (refine wpList_append_row slRNodes rfl _ _ rfl (v := .slice (some ⟨ba, 0, none⟩) n rca) (n := n) (xs := rCells G.nodes) rfl HROW.out (ad := ⟨_, 0, none⟩) (m := 1) (c := 1) (news := [.int .i64 x.k, .int .i64 x.l, .int .i64 x.r]) rfl rfl (news_blk HB5.out) (by simp [Value.oneCell']) (by omega) (by omega) ?_; intro v2 wB hr2 hcB hfB; obtain ⟨bb, rcb, rfl⟩ := row.parts hr2 (by omega); have hlo2 := grow_lo HCUR.out HLO.out hfB; have hcur := HCUR.out.trans hcB (fun k hk => .inr (HLO.out k hk))))
      refine ⟨rfl, hK _ _ ?_⟩; clear hK K
      clear hcB hfB
      have b2 := B2.out.ch hcur (by simp)
      have b4 := B4.out.ch hcur (by simp)
      have hne2 : bb ≠ w.heap.size := by have := hlo2 bb (by simp); have := B2.out.lt; omega
      have hne4 : bb ≠ w.heap.size + 1 + 1 := by have := hlo2 bb (by simp); have := B4.out.lt; omega
      have hwb : w.heap.size ≤ bb := by have := hlo2 bb (by simp); omega
      have y1 := b2.cell (i := 1) rfl
      have f1 := b2.frozen (i := 1)
      have BB2 := Lib.hid b2; clear b2
      have BB4 := Lib.hid b4; clear b4
      have HR2 := Lib.hid hr2; clear hr2
      clear hlo2
      refine Ord.St.fl2 (T' := ?_) 7 [8] _ _ rfl (by kernel_rfl) rfl rfl rfl rfl (fun K w' hk => ?_) ?_
      rotate_left
      · go_step; exact hk
      refine Ord.St.ef 8 [] _ rfl (by kernel_rfl) (fun K hK => ?_)
      go_wp2_with fail
      refine ⟨rfl, hK _ _ ?_⟩; clear hK K
      refine Ord.St.nil ?_
      go_wp2_with fail
      refine wp_alw ?_
      intro W5 hW5
      have b2 : blk W5 w.heap.size [.int .i64 G.most, .slice (some ⟨bb, 0, none⟩) (n + 1) rcb] := by rw [hW5]; exact BB2.out.set _
      have hc5 : Ch [w.heap.size] wB W5 := by rw [hW5]; exact (Ch.refl _ _).setCell (by simp) _
      have b4 := BB4.out.ch hc5 (by simp; omega)
      have hr5 := HR2.out.ch hc5 (by intro k hk; simp at hk; subst hk; simpa using hne2)
      have hc05 : Ch [] w W5 := (HC0.out.trans hcur (by simp)).trans hc5 (by simp)
      have y0 := b2.cell (i := 0) rfl
      have y1 := b2.cell (i := 1) rfl
      have z0 := b4.cell (i := 0) rfl
      have z1 := b4.cell (i := 1) rfl
      have f0 := b4.frozen (i := 0)
      have f1' := b4.frozen (i := 1)
      have BB2' := Lib.hid b2; clear b2
      have BB4' := Lib.hid b4; clear b4
      have HR5 := Lib.hid hr5; clear hr5
      have HC5 := Lib.hid hc05; clear hc05 hc5
      clear hW5 BB2 BB4 HR2 f1
      refine Ord.St.door (fun w' => w'.cell? ⟨w.heap.size, 1, none⟩ = some (.slice (some ⟨bb, 0, none⟩) (n + 1) rcb)) [.rd, .fl, .ho, .fl, .fl, .fl, .ef, .fl, .fl] [0, 0, 2, 6, 14, 30, 1, 127, 255] [0, 1, 2, 3, 4, 5, 6, 7, 8] mixed (by kernel_rfl) rfl ?_
      refine Ord.St.rd2 (T' := ?_) 0 [1, 2, 3, 4, 5, 6, 7, 8] _ _ rfl (by kernel_rfl) rfl rfl rfl rfl (fun K hk => ?_) ?_
      rotate_left
      · go_step; exact hk
      refine Ord.St.fl2 (T' := ?_) 1 [2, 3, 4, 5, 6, 7, 8] _ _ rfl (by kernel_rfl) rfl rfl rfl rfl (fun K w' hk => ?_) ?_
      rotate_left
      · go_step; exact hk
      refine Ord.St.ho2 (T' := ?_) 2 [3, 4, 5, 6, 7, 8] _ _ rfl (by kernel_rfl) rfl rfl rfl rfl ?_ (fun K w' hw' hk => ?_) ?_
      rotate_left
      · trivial
      · skip; go_step; exact hk
      refine Ord.St.fl2 (T' := ?_) 3 [4, 5, 6, 7, 8] _ _ rfl (by kernel_rfl) rfl rfl rfl rfl (fun K w' hk => ?_) ?_
      rotate_left
      · go_step; exact hk
      refine Ord.St.fl2 (T' := ?_) 4 [5, 6, 7, 8] _ _ rfl (by kernel_rfl) rfl rfl rfl rfl (fun K w' hk => ?_) ?_
      rotate_left
      · go_step; exact hk
      refine Ord.St.fl2 (T' := ?_) 5 [6, 7, 8] _ _ rfl (by kernel_rfl) rfl rfl rfl rfl (fun K w' hk => ?_) ?_
      rotate_left
      · go_step; exact hk
      refine Ord.St.efC 6 [7, 8] _ rfl (by kernel_rfl) (fun K hK => ?_)
      go_wp2_with fail
      refine ⟨rfl, hK _ _ ?_ ?_⟩
      · go_simp
      clear hK K
      refine Ord.St.fl2 (T' := ?_) 7 [8] _ _ rfl (by kernel_rfl) rfl rfl rfl rfl (fun K w' hk => ?_) ?_
      rotate_left
      · go_step; exact hk
      refine Ord.St.fl2 (T' := ?_) 8 [] _ _ rfl (by kernel_rfl) rfl rfl rfl rfl (fun K w' hk => ?_) ?_
      rotate_left
      · go_step; exact hk
      refine Ord.St.nil ?_
      go_wp2_with fail
      have hc9 : Ch [w.heap.size + 1 + 1] W5 ((W5.setCell ⟨w.heap.size + 1 + 1, 0, none⟩ (.int .i64 G.most)).setCell ⟨w.heap.size + 1 + 1, 1, none⟩ (.slice (some ⟨bb, 0, none⟩) (n + 1) rcb)).drew := (((Ch.refl _ _).setCell (by simp) _).setCell (by simp) _).drew
      have hr9 := HR5.out.ch hc9 (by intro k hk; simp at hk; subst hk; simpa using hne4)
      have hcap := row_cap hr9
      refine bodyPost_ret (v := .tuple #[.agg #[.int .i64 G.most, .slice (some ⟨bb, 0, none⟩) (n + 1) rcb], .int .i64 (2 * n), .int .i64 0]) (by simp [results, Try.results75, go_sem, z0, z1]) rfl ?_
      refine ⟨bb, rcb, ?_, ⟨fun j u hu => ?_, ?_, ?_, hcap.2, HO2.out⟩, HC5.out.trans hc9 (fun k hk => .inr (by simp at hk; omega)), .inr hwb⟩
      · simp [HN.out]
      · rw [rCells_append] at hu; have := hr9.cells (g := bb) rfl j u (by simpa [rCells, rnCells] using hu); rwa [Addr.add_lit, Nat.zero_add] at this
      · exact (hr9.lt bb rfl).2
      · simpa [HN.out] using hcap.1
  · go_wp2_with fail
    refine ⟨rfl, hK _ _ ?_ ?_⟩
    · exact hcur.alloc _
    clear hK K
    refine Ord.St.alw ?_; intro Wn hWn
    have hb5 := alw_blk (xs := [.int .i64 x.k, .int .i64 x.l, .int .i64 x.r]) hWn
    try have hx := row_ne hrow
    try replace hrow := hrow.ch (alw_ch hWn) (by simp)
    replace hcur := hcur.trans (alw_ch hWn) (by simp)
    clear hWn
    refine Ord.St.efC 0 [3, 6, 7, 8] _ rfl (by kernel_rfl) (fun K hK => ?_)
    go_wp2_with fail
    refine ⟨rfl, hK _ _ ?_ ?_⟩
    · exact hcur.alloc _
    clear hK K
    refine Ord.St.alw ?_; intro Wn hWn
    have hrow := row_new0 (e := 122) (size := 3) hWn
    have hlo := new_lo hcur
    try have hx := new_ne hb5
    try replace hb5 := hb5.ch (alw_ch hWn) (by simp)
    replace hcur := hcur.trans (alw_ch hWn) (by simp)
    clear hWn
    refine Ord.St.efC 3 [6, 7, 8] _ rfl (by kernel_rfl) (fun K hK => ?_)
    have hnews : ∀ j u, (rCells G.nodes)[j]? = some u → _ := (HH.out.ch hcur (by simp)).cells
    have HNW := Lib.hid hnews; clear hnews
    have HROW := Lib.hid hrow; clear hrow
    go_wp2_with (at_builtin; go_loud (refine wpList_append_row slRNodes rfl _ _ rfl (v := .slice (some ⟨_, 0, none⟩) 0 0) (n := 0) (xs := []) rfl HROW.out (ad := ⟨rb, 0, none⟩) (m := n) (c := cap) (news := rCells G.nodes) rfl (by rw [rCells_length, HN.out]) (by intro j u hu; rw [Addr.add_lit, Nat.zero_add]; exact HNW.out j u hu) (rCells_one _) (by omega) (by omega) ?_; intro v1 wA hr1 hcA hfA; rw [Nat.zero_add, List.nil_append] at hr1; obtain ⟨ba, rca, rfl⟩ := row.parts hr1 (by omega)))
    refine ⟨rfl, hK _ _ ?_ ?_⟩
    · exact hcur.trans hcA (fun k hk => .inr (hlo k hk))
    clear hK K
    have hrow := hr1
    try have hx2 := grow_ne hb5 hx hfA
    try replace hb5 := hb5.ch hcA (not_own hx)
    try clear hx
    try have hx := hx2
    have hlo2 := grow_lo hcur hlo hfA
    replace hcur := hcur.trans hcA (fun k hk => .inr (hlo k hk))
    clear hlo
    have hlo := hlo2
    clear hcA hfA hr1 HROW HNW hlo2
    refine Ord.St.ef 6 [7, 8] _ rfl (by kernel_rfl) (fun K hK => ?_)
    have HROW := Lib.hid hrow; clear hrow
    have HX := Lib.hid hx; clear hx
    have HB5 := Lib.hid hb5; clear hb5
    have HLO := Lib.hid hlo; clear hlo
    have HCUR := Lib.hid hcur; clear hcur
    go_wp2_with (at_builtin; go_loud (refine wpList_append_row slRNodes rfl _ _ rfl (v := .slice (some ⟨ba, 0, none⟩) n rca) (n := n) (xs := rCells G.nodes) rfl HROW.out (ad := ⟨_, 0, none⟩) (m := 1) (c := 1) (news := [.int .i64 x.k, .int .i64 x.l, .int .i64 x.r]) rfl rfl (news_blk HB5.out) (by simp [Value.oneCell']) (by omega) (by omega) ?_; intro v2 wB hr2 hcB hfB; obtain ⟨bb, rcb, rfl⟩ := row.parts hr2 (by omega); have hlo2 := grow_lo HCUR.out HLO.out hfB; have hcur := HCUR.out.trans hcB (fun k hk => .inr (HLO.out k hk))))
    refine ⟨rfl, hK _ _ ?_⟩; clear hK K
    clear hcB hfB
    have b2 := B2.out.ch hcur (by simp)
    have b4 := B4.out.ch hcur (by simp)
    have hne2 : bb ≠ w.heap.size := by have := hlo2 bb (by simp); have := B2.out.lt; omega
    have hne4 : bb ≠ w.heap.size + 1 + 1 := by have := hlo2 bb (by simp); have := B4.out.lt; omega
    have hwb : w.heap.size ≤ bb := by have := hlo2 bb (by simp); omega
    have y1 := b2.cell (i := 1) rfl
    have f1 := b2.frozen (i := 1)
    have BB2 := Lib.hid b2; clear b2
    have BB4 := Lib.hid b4; clear b4
    have HR2 := Lib.hid hr2; clear hr2
    clear hlo2
    refine Ord.St.fl2 (T' := ?_) 7 [8] _ _ rfl (by kernel_rfl) rfl rfl rfl rfl (fun K w' hk => ?_) ?_
    rotate_left
    · go_step; exact hk
    refine Ord.St.ef 8 [] _ rfl (by kernel_rfl) (fun K hK => ?_)
    go_wp2_with fail
    refine ⟨rfl, hK _ _ ?_⟩; clear hK K
    refine Ord.St.nil ?_
    go_wp2_with fail
    refine wp_alw ?_
    intro W5 hW5
    have b2 : blk W5 w.heap.size [.int .i64 G.most, .slice (some ⟨bb, 0, none⟩) (n + 1) rcb] := by rw [hW5]; exact BB2.out.set _
    have hc5 : Ch [w.heap.size] wB W5 := by rw [hW5]; exact (Ch.refl _ _).setCell (by simp) _
    have b4 := BB4.out.ch hc5 (by simp; omega)
    have hr5 := HR2.out.ch hc5 (by intro k hk; simp at hk; subst hk; simpa using hne2)
    have hc05 : Ch [] w W5 := (HC0.out.trans hcur (by simp)).trans hc5 (by simp)
    have y0 := b2.cell (i := 0) rfl
    have y1 := b2.cell (i := 1) rfl
    have z0 := b4.cell (i := 0) rfl
    have z1 := b4.cell (i := 1) rfl
    have f0 := b4.frozen (i := 0)
    have f1' := b4.frozen (i := 1)
    have BB2' := Lib.hid b2; clear b2
    have BB4' := Lib.hid b4; clear b4
    have HR5 := Lib.hid hr5; clear hr5
    have HC5 := Lib.hid hc05; clear hc05 hc5
    clear hW5 BB2 BB4 HR2 f1
    refine Ord.St.door (fun w' => w'.cell? ⟨w.heap.size, 1, none⟩ = some (.slice (some ⟨bb, 0, none⟩) (n + 1) rcb)) [.rd, .fl, .ho, .fl, .fl, .fl, .ef, .fl, .fl] [0, 0, 2, 6, 14, 30, 1, 127, 255] [0, 1, 2, 3, 4, 5, 6, 7, 8] mixed (by kernel_rfl) rfl ?_
    refine Ord.St.rd2 (T' := ?_) 0 [1, 2, 3, 4, 5, 6, 7, 8] _ _ rfl (by kernel_rfl) rfl rfl rfl rfl (fun K hk => ?_) ?_
    rotate_left
    · go_step; exact hk
    refine Ord.St.fl2 (T' := ?_) 1 [2, 3, 4, 5, 6, 7, 8] _ _ rfl (by kernel_rfl) rfl rfl rfl rfl (fun K w' hk => ?_) ?_
    rotate_left
    · go_step; exact hk
    refine Ord.St.ho2 (T' := ?_) 2 [3, 4, 5, 6, 7, 8] _ _ rfl (by kernel_rfl) rfl rfl rfl rfl ?_ (fun K w' hw' hk => ?_) ?_
    rotate_left
    · trivial
    · skip; go_step; exact hk
    refine Ord.St.fl2 (T' := ?_) 3 [4, 5, 6, 7, 8] _ _ rfl (by kernel_rfl) rfl rfl rfl rfl (fun K w' hk => ?_) ?_
    rotate_left
    · go_step; exact hk
    refine Ord.St.fl2 (T' := ?_) 4 [5, 6, 7, 8] _ _ rfl (by kernel_rfl) rfl rfl rfl rfl (fun K w' hk => ?_) ?_
    rotate_left
    · go_step; exact hk
    refine Ord.St.fl2 (T' := ?_) 5 [6, 7, 8] _ _ rfl (by kernel_rfl) rfl rfl rfl rfl (fun K w' hk => ?_) ?_
    rotate_left
    · go_step; exact hk
    refine Ord.St.efC 6 [7, 8] _ rfl (by kernel_rfl) (fun K hK => ?_)
    go_wp2_with fail
    refine ⟨rfl, hK _ _ ?_ ?_⟩
    · go_simp
    clear hK K
    refine Ord.St.fl2 (T' := ?_) 7 [8] _ _ rfl (by kernel_rfl) rfl rfl rfl rfl (fun K w' hk => ?_) ?_
    rotate_left
    · go_step; exact hk
    refine Ord.St.fl2 (T' := ?_) 8 [] _ _ rfl (by kernel_rfl) rfl rfl rfl rfl (fun K w' hk => ?_) ?_
    rotate_left
    · go_step; exact hk
    refine Ord.St.nil ?_
    go_wp2_with fail
    have hc9 : Ch [w.heap.size + 1 + 1] W5 ((W5.setCell ⟨w.heap.size + 1 + 1, 0, none⟩ (.int .i64 G.most)).setCell ⟨w.heap.size + 1 + 1, 1, none⟩ (.slice (some ⟨bb, 0, none⟩) (n + 1) rcb)).drew := (((Ch.refl _ _).setCell (by simp) _).setCell (by simp) _).drew
    have hr9 := HR5.out.ch hc9 (by intro k hk; simp at hk; subst hk; simpa using hne4)
    have hcap := row_cap hr9
    refine bodyPost_ret (v := .tuple #[.agg #[.int .i64 G.most, .slice (some ⟨bb, 0, none⟩) (n + 1) rcb], .int .i64 (2 * n), .int .i64 0]) (by simp [results, Try.results75, go_sem, z0, z1]) rfl ?_
    refine ⟨bb, rcb, ?_, ⟨fun j u hu => ?_, ?_, ?_, hcap.2, HO2.out⟩, HC5.out.trans hc9 (fun k hk => .inr (by simp at hk; omega)), .inr hwb⟩
    · simp [HN.out]
    · rw [rCells_append] at hu; have := hr9.cells (g := bb) rfl j u (by simpa [rCells, rnCells] using hu); rwa [Addr.add_lit, Nat.zero_add] at this
    · exact (hr9.lt bb rfl).2
    · simpa [HN.out] using hcap.1
  go_wp2_with fail

end
end Go.Proofs.Ytnajonchjlplmaa
