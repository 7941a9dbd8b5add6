/-
  Walks over the reference's And. Conditions: a graph that can be read, references of it.
-/
import Derived.Test.YtnajonchjlplmaaQR1
namespace Go.Proofs.Ytnajonchjlplmaa
open Go.RowKit Go.Mem Go.Aig
theorem rPut_is {w : World} {rb cap : Nat} {G : Gra} (h : RG w rb cap G) (x : Nd) (ho : G.nodes.length < G.most → Ok { G with nodes := G.nodes ++ [x] }) : Calls Try.prog 75 #[.agg #[.int .i64 G.most, .slice (some ⟨rb, 0, none⟩) G.nodes.length cap], .agg #[.int .i64 x.k, .int .i64 x.l, .int .i64 x.r]] w (RTo w rb (put G x)) := by
  rcases Nat.lt_or_ge G.nodes.length G.most with hm | hm
  · exact rPut_yes h x hm (ho hm)
  · exact rPut_no h x hm
theorem neg_eq {a b : Nat} : a = neg b ↔ b = neg a := by unfold neg; constructor <;> intro h <;> (repeat' split at h) <;> (repeat' split) <;> omega
/-- the and of two references, the lesser one first -/
theorem and_sort (G : Gra) {a b l r : Nat} (hl : min a b = l) (hr : max a b = r) :
    ((l = 0 ∨ l = neg r) → and G a b = (G, 0, 0)) ∧ (¬ (l = 0 ∨ l = neg r) → (l = 1 ∨ l = r) → and G a b = (G, r, 0)) ∧
    (¬ (l = 0 ∨ l = neg r) → ¬ (l = 1 ∨ l = r) → andIs a b = .node l r ∧ (∀ n, findAnd G.nodes l r = some n → and G a b = (G, 2 * n, 0)) ∧ (findAnd G.nodes l r = none → and G a b = put G ⟨3, l, r, 1 + max (dep G.nodes a) (dep G.nodes b)⟩)) := by
  have e1 : (a = neg b) ↔ (l = neg r) := by
    rcases Nat.le_total a b with h | h
    · rw [Nat.min_eq_left h] at hl; rw [Nat.max_eq_right h] at hr; subst hl; subst hr; exact Iff.rfl
    · rw [Nat.min_eq_right h] at hl; rw [Nat.max_eq_left h] at hr; subst hl; subst hr; exact neg_eq
  have e2 : (a = b) ↔ (l = r) := by omega
  have hi : andIs a b = if l = 0 ∨ l = neg r then .known 0 else if l = 1 ∨ l = r then .known r else .node l r := by
    unfold andIs
    rw [hl, hr]
    simp only [e1, e2]
  refine ⟨fun h => ?_, fun h h2 => ?_, fun h h2 => ?_⟩
  · unfold Aig.and; rw [hi, if_pos h]
  · unfold Aig.and; rw [hi, if_neg h, if_pos h2]
  · rw [if_neg h, if_neg h2] at hi
    refine ⟨hi, fun n hn => ?_, fun hn => ?_⟩
    · unfold Aig.and; rw [hi]; simp only [hn]
    · unfold Aig.and; rw [hi]; simp only [hn]
theorem findAnd_at {ns : List Nd} {l r k : Nat} {x : Nd} (hx : ns[k]? = some x) (h : isAnd l r x = true) (hno : ∀ (j : Nat) y, j < k → ns[j]? = some y → isAnd l r y = false) : findAnd ns l r = some k := by
  unfold findAnd
  obtain ⟨hlt, e⟩ := List.getElem?_eq_some_iff.1 hx
  rw [List.findIdx?_eq_some_iff_getElem]
  exact ⟨hlt, by rw [e]; exact h, fun j hj => by simp [hno j _ hj (List.getElem?_eq_getElem (by omega))]⟩
theorem findAnd_no {ns : List Nd} {l r : Nat} (hno : ∀ (j : Nat) y, j < ns.length → ns[j]? = some y → isAnd l r y = false) : findAnd ns l r = none := by
  unfold findAnd
  rw [List.findIdx?_eq_none_iff]
  intro y hy
  obtain ⟨j, hj⟩ := List.mem_iff_getElem?.1 hy
  exact hno j y (List.getElem?_eq_some_iff.1 hj).1 hj
/-- the same graph is returned -/
theorem RTo.self {w w' : World} {rb cap : Nat} {G : Gra} (h : RG w rb cap G) (hc : Ch [] w w') (r e : Nat) : RTo w rb (G, r, e) (.returned (.tuple #[.agg #[.int .i64 G.most, .slice (some ⟨rb, 0, none⟩) G.nodes.length cap], .int .i64 r, .int .i64 e])) w' :=
  ⟨rb, cap, rfl, h.ch hc (by simp), hc, .inl rfl⟩
section
set_option maxRecDepth 100000 in
set_option maxHeartbeats 2000000 in
theorem rAnd_le {w : World} {rb cap : Nat} {G : Gra} (h : RG w rb cap G) {a b : Nat} (ha : a < 2 * G.nodes.length) (hb : b < 2 * G.nodes.length) (hab : decide (b < a) = false) : Calls Try.prog 76 #[.agg #[.int .i64 G.most, .slice (some ⟨rb, 0, none⟩) G.nodes.length cap], .int .i64 a, .int .i64 b] w (RTo w rb (and G a b)) := by
  obtain ⟨hl, hp, hmo⟩ := h.len
  have hle := h.le
  have hmx := h.mx
  have hrb := h.lt
  have hs := and_sort G (a := a) (b := b) (l := a) (r := b) (by have := of_decide_eq_false hab; omega) (by have := of_decide_eq_false hab; omega)
  have hlr : a ≤ b := by have := of_decide_eq_false hab; omega
  have hNot := fun (W : World) => rNot_is W b (by omega)
  have HNOT := Lib.hid hNot; clear hNot
  have hc2 : Ch [] w ((w.alloc (.cells #[.int .i64 G.most, .slice (some ⟨rb, 0, none⟩) G.nodes.length cap] 105)).alloc (.cells #[.int .i64 G.most, .slice (some ⟨rb, 0, none⟩) G.nodes.length cap] 105)) := ((Ch.refl _ _).alloc _).alloc _
  have HC2 := Lib.hid hc2; clear hc2
  have H := Lib.hid h; clear h
  by_cases h0 : a = 0
  · have hq := hs.1 (.inl h0)
    have q0 : ((a : Int) == 0) = true := by simp [h0]
    rw [hq]
    have HF := Lib.hid (RTo.self H.out HC2.out 0 0)
    clear hs hq h0
    go_enter Try.func76, Try.ntmps76
    go_wp2_with fail
    exact bodyPost_ret (v := .tuple #[.agg #[.int .i64 G.most, .slice (some ⟨rb, 0, none⟩) G.nodes.length cap], .int .i64 0, .int .i64 0]) (by simp [results, Try.results76, go_sem]) rfl HF.out
  have q0 : ((a : Int) == 0) = false := by simp; omega
  by_cases h1 : a = neg b
  · have hq := hs.1 (.inr h1)
    have q1 : ((a : Int) == (neg b : Nat)) = true := by rw [← h1]; simp
    rw [hq]
    have HF := Lib.hid (RTo.self H.out HC2.out 0 0)
    clear hs hq h0 h1
    go_enter Try.func76, Try.ntmps76
    go_wp2_with fail
    refine (HNOT.out _).mono ?_
    rintro e w' ⟨rfl, rfl⟩
    generalize neg b = nr at *
    go_wp2_with fail
    exact bodyPost_ret (v := .tuple #[.agg #[.int .i64 G.most, .slice (some ⟨rb, 0, none⟩) G.nodes.length cap], .int .i64 0, .int .i64 0]) (by simp [results, Try.results76, go_sem]) rfl HF.out
  have q1 : ((a : Int) == (neg b : Nat)) = false := by simp; omega
  have hno : ¬ (a = 0 ∨ a = neg b) := by simp [h0, h1]
  clear h0 h1
  by_cases h2 : a = 1
  · have hq := hs.2.1 hno (.inl h2)
    have q2 : ((a : Int) == 1) = true := by simp [h2]
    rw [hq]
    have HF := Lib.hid (RTo.self H.out HC2.out b 0)
    clear hs hq h2 hno
    go_enter Try.func76, Try.ntmps76
    go_wp2_with fail
    refine (HNOT.out _).mono ?_
    rintro e w' ⟨rfl, rfl⟩
    generalize neg b = nr at *
    go_wp2_with fail
    exact bodyPost_ret (v := .tuple #[.agg #[.int .i64 G.most, .slice (some ⟨rb, 0, none⟩) G.nodes.length cap], .int .i64 b, .int .i64 0]) (by simp [results, Try.results76, go_sem]) rfl HF.out
  have q2 : ((a : Int) == 1) = false := by simp; omega
  by_cases h3 : a = b
  · have hq := hs.2.1 hno (.inr h3)
    have q3 : ((a : Int) == (b : Int)) = true := by simp [h3]
    rw [hq]
    have HF := Lib.hid (RTo.self H.out HC2.out b 0)
    clear hs hq h2 hno h3
    go_enter Try.func76, Try.ntmps76
    go_wp2_with fail
    refine (HNOT.out _).mono ?_
    rintro e w' ⟨rfl, rfl⟩
    generalize neg b = nr at *
    go_wp2_with fail
    exact bodyPost_ret (v := .tuple #[.agg #[.int .i64 G.most, .slice (some ⟨rb, 0, none⟩) G.nodes.length cap], .int .i64 b, .int .i64 0]) (by simp [results, Try.results76, go_sem]) rfl HF.out
  have q3 : ((a : Int) == (b : Int)) = false := by simp; omega
  obtain ⟨hi, hfs, hfn⟩ := hs.2.2 hno (by simp [h2, h3])
  have hok : findAnd G.nodes a b = none → G.nodes.length < G.most → Ok { G with nodes := G.nodes ++ [⟨3, a, b, 1 + max (dep G.nodes a) (dep G.nodes b)⟩] } := fun hf hm => ⟨H.out.ok.wf.and hi ha hb hf, by simp; omega, H.out.ok.most⟩
  generalize 1 + max (dep G.nodes a) (dep G.nodes b) = dd at *
  have HOK := Lib.hid hok; clear hok
  have HFS := Lib.hid hfs; clear hfs
  have HFN := Lib.hid hfn; clear hfn
  clear hs hno h2 h3 hi
  go_enter Try.func76, Try.ntmps76
  go_wp2_with fail
  refine (HNOT.out _).mono ?_
  rintro e w' ⟨rfl, rfl⟩
  generalize neg b = nr at *
  go_wp2_with fail
  refine wp_alw ?_
  intro W0 hW0
  have hc0 : Ch [] w W0 := by rw [hW0]; exact ((Ch.refl _ _).alloc _).alloc _
  have b2 : blk W0 w.heap.size [.int .i64 G.most, .slice (some ⟨rb, 0, none⟩) G.nodes.length cap] := by rw [hW0]; exact (blk.new' (w := w) [.int .i64 G.most, .slice (some ⟨rb, 0, none⟩) G.nodes.length cap] 105 rfl).alloc _
  have b4 : blk W0 (w.heap.size + 1) [.int .i64 0, .slice none 0 0] := by rw [hW0]; exact blk.new' [.int .i64 0, .slice none 0 0] 105 (by simp)
  clear hW0 HNOT HC2
  have H0 := H.out.ch hc0 (by simp)
  have y0 := b2.cell (i := 0) rfl
  have y1 := b2.cell (i := 1) rfl
  have z0 := b4.cell (i := 0) rfl
  have z1 := b4.cell (i := 1) rfl
  have f0 := b4.frozen (i := 0)
  have f1 := b4.frozen (i := 1)
  have B2 := Lib.hid b2; clear b2
  have B4 := Lib.hid b4; clear b4
  have HC0 := Lib.hid hc0; clear hc0
  have HH := Lib.hid H0; clear H0
  go_loop [9] (fun i => ∃ k : Nat, k ≤ G.nodes.length ∧ i = .int .i64 k ∧ ∀ (j : Nat) (x : Nd), j < k → G.nodes[j]? = some x → isAnd a b x = false) (fun i => G.nodes.length - (intOf i).toNat)
  case atStart => exact ⟨0, Nat.zero_le _, rfl, fun j x hj => by omega⟩
  case round =>
    obtain ⟨k, hk, rfl, hno⟩ := hrel
    have HNO := Lib.hid hno; clear hno
    by_cases hlt : k < G.nodes.length
    · obtain ⟨x, hx⟩ : ∃ x, G.nodes[k]? = some x := ⟨_, List.getElem?_eq_getElem hlt⟩
      obtain ⟨c0, c1, c2⟩ := HH.out.node hx
      have HX := Lib.hid hx; clear hx
      have hstep : isAnd a b x = false → ∀ (j : Nat) (y : Nd), j < k + 1 → G.nodes[j]? = some y → isAnd a b y = false := fun hf j y hj hy => by
        by_cases e : j = k
        · subst e; rw [HX.out] at hy; cases hy; exact hf
        · exact HNO.out j y (by omega) hy
      have HST := Lib.hid hstep; clear hstep
      by_cases hk3 : x.k = 3
      · have p0 : ((x.k : Int) == 3) = true := by simp [hk3]
        by_cases hxl : x.l = a
        · have p1 : ((x.l : Int) == (a : Int)) = true := by simp [hxl]
          by_cases hxr : x.r = b
          · have p2 : ((x.r : Int) == (b : Int)) = true := by simp [hxr]
            have hq := HFS.out k (findAnd_at HX.out (by simp [isAnd, hk3, hxl, hxr]) HNO.out)
            rw [hq]
            have HQ := Lib.hid hq
            clear hk3 hxl hxr hq
            go_wp2_with fail
            have hc9 : Ch [w.heap.size + 1] W0 ((W0.setCell ⟨w.heap.size + 1, 0, none⟩ (.int .i64 G.most)).setCell ⟨w.heap.size + 1, 1, none⟩ (.slice (some ⟨rb, 0, none⟩) G.nodes.length cap)) := ((Ch.refl _ _).setCell (by simp) _).setCell (by simp) _
            refine bodyPost_ret (v := .tuple #[.agg #[.int .i64 G.most, .slice (some ⟨rb, 0, none⟩) G.nodes.length cap], .int .i64 (2 * k), .int .i64 0]) (by simp [results, Try.results76, go_sem, z0, z1]) rfl ?_
            have := RTo.self H.out (HC0.out.trans hc9 (fun k hk => .inr (by simp at hk; omega))) (2 * k) 0
            simpa using this
          · have p2 : ((x.r : Int) == (b : Int)) = false := by simp; omega
            have hf := HST.out (by simp [isAnd, hxr])
            have HF := Lib.hid hf; clear hf HST
            clear hk3 hxl hxr
            go_wp2_with fail
            go_round
            case rel => exact ⟨k + 1, by omega, by go_num, HF.out⟩
            case measure => simp [intOf]; omega
        · have p1 : ((x.l : Int) == (a : Int)) = false := by simp; omega
          have hf := HST.out (by simp [isAnd, hxl])
          have HF := Lib.hid hf; clear hf HST
          clear hk3 hxl
          go_wp2_with fail
          go_round
          case rel => exact ⟨k + 1, by omega, by go_num, HF.out⟩
          case measure => simp [intOf]; omega
      · have p0 : ((x.k : Int) == 3) = false := by simp; omega
        have hf := HST.out (by simp [isAnd, hk3])
        have HF := Lib.hid hf; clear hf HST
        clear hk3
        go_wp2_with fail
        go_round
        case rel => exact ⟨k + 1, by omega, by go_num, HF.out⟩
        case measure => simp [intOf]; omega
    · have hkn : k = G.nodes.length := by omega
      have hnone := findAnd_no (ns := G.nodes) (l := a) (r := b) (fun j y hj hy => HNO.out j y (by omega) hy)
      have hq := HFN.out hnone
      have HQ := Lib.hid hq
      have hP : Calls Try.prog 75 #[.agg #[.int .i64 G.most, .slice (some ⟨rb, 0, none⟩) G.nodes.length cap], .agg #[.int .i64 3, .int .i64 a, .int .i64 b]] W0 (RTo W0 rb (put G ⟨3, a, b, dd⟩)) := rPut_is HH.out ⟨3, a, b, dd⟩ (HOK.out hnone)
      have HP := Lib.hid hP; clear hP
      clear hq hnone hkn
      generalize put G ⟨3, a, b, dd⟩ = RR at *
      go_wp2_with fail
      refine HP.out.mono ?_
      rintro e w5 ⟨rb', cap', rfl, hrg, hch, hfr⟩
      have y0 := hch.cell (cell_lt z0) (by simp)
      have y1 := hch.cell (cell_lt z1) (by simp)
      rw [z0] at y0
      rw [z1] at y1
      have g0 := (B4.out.ch hch (by simp)).frozen (i := 0)
      have g1 := (B4.out.ch hch (by simp)).frozen (i := 1)
      have hne : rb' ≠ w.heap.size + 1 := by
        rcases hfr with e | e
        · omega
        · have := B4.out.lt; omega
      have HRG := Lib.hid hrg; clear hrg
      have HCH := Lib.hid hch; clear hch
      clear z0 z1 f0 f1
      go_wp2_with fail
      have hc9 : Ch [w.heap.size + 1] w5 ((w5.setCell ⟨w.heap.size + 1, 0, none⟩ (.int .i64 RR.1.most)).setCell ⟨w.heap.size + 1, 1, none⟩ (.slice (some ⟨rb', 0, none⟩) RR.1.nodes.length cap')) := ((Ch.refl _ _).setCell (by simp) _).setCell (by simp) _
      refine bodyPost_ret (v := .tuple #[.agg #[.int .i64 RR.1.most, .slice (some ⟨rb', 0, none⟩) RR.1.nodes.length cap'], .int .i64 RR.2.1, .int .i64 RR.2.2]) (by simp [results, Try.results76, go_sem, y0, y1]) rfl ?_
      have hs0 := HC0.out.size
      rw [HQ.out]
      exact ⟨rb', cap', rfl, HRG.out.ch hc9 (by simpa using hne), (HC0.out.trans HCH.out (by simp)).trans hc9 (fun k hk => .inr (by simp at hk; omega)), hfr.imp id (fun e => by omega)⟩
set_option maxRecDepth 100000 in
set_option maxHeartbeats 2000000 in
theorem rAnd_gt {w : World} {rb cap : Nat} {G : Gra} (h : RG w rb cap G) {a b : Nat} (ha : a < 2 * G.nodes.length) (hb : b < 2 * G.nodes.length) (hab : decide (b < a) = true) : Calls Try.prog 76 #[.agg #[.int .i64 G.most, .slice (some ⟨rb, 0, none⟩) G.nodes.length cap], .int .i64 a, .int .i64 b] w (RTo w rb (and G a b)) := by
  obtain ⟨hl, hp, hmo⟩ := h.len
  have hle := h.le
  have hmx := h.mx
  have hrb := h.lt
  have hs := and_sort G (a := a) (b := b) (l := b) (r := a) (by have := of_decide_eq_true hab; omega) (by have := of_decide_eq_true hab; omega)
  have hlr : b ≤ a := by have := of_decide_eq_true hab; omega
  have hNot := fun (W : World) => rNot_is W a (by omega)
  have HNOT := Lib.hid hNot; clear hNot
  have hc2 : Ch [] w ((w.alloc (.cells #[.int .i64 G.most, .slice (some ⟨rb, 0, none⟩) G.nodes.length cap] 105)).alloc (.cells #[.int .i64 G.most, .slice (some ⟨rb, 0, none⟩) G.nodes.length cap] 105)) := ((Ch.refl _ _).alloc _).alloc _
  have HC2 := Lib.hid hc2; clear hc2
  have H := Lib.hid h; clear h
  by_cases h0 : b = 0
  · have hq := hs.1 (.inl h0)
    have q0 : ((b : Int) == 0) = true := by simp [h0]
    rw [hq]
    have HF := Lib.hid (RTo.self H.out HC2.out 0 0)
    clear hs hq h0
    go_enter Try.func76, Try.ntmps76
    go_wp2_with fail
    exact bodyPost_ret (v := .tuple #[.agg #[.int .i64 G.most, .slice (some ⟨rb, 0, none⟩) G.nodes.length cap], .int .i64 0, .int .i64 0]) (by simp [results, Try.results76, go_sem]) rfl HF.out
  have q0 : ((b : Int) == 0) = false := by simp; omega
  by_cases h1 : b = neg a
  · have hq := hs.1 (.inr h1)
    have q1 : ((b : Int) == (neg a : Nat)) = true := by rw [← h1]; simp
    rw [hq]
    have HF := Lib.hid (RTo.self H.out HC2.out 0 0)
    clear hs hq h0 h1
    go_enter Try.func76, Try.ntmps76
    go_wp2_with fail
    refine (HNOT.out _).mono ?_
    rintro e w' ⟨rfl, rfl⟩
    generalize neg a = nr at *
    go_wp2_with fail
    exact bodyPost_ret (v := .tuple #[.agg #[.int .i64 G.most, .slice (some ⟨rb, 0, none⟩) G.nodes.length cap], .int .i64 0, .int .i64 0]) (by simp [results, Try.results76, go_sem]) rfl HF.out
  have q1 : ((b : Int) == (neg a : Nat)) = false := by simp; omega
  have hno : ¬ (b = 0 ∨ b = neg a) := by simp [h0, h1]
  clear h0 h1
  by_cases h2 : b = 1
  · have hq := hs.2.1 hno (.inl h2)
    have q2 : ((b : Int) == 1) = true := by simp [h2]
    rw [hq]
    have HF := Lib.hid (RTo.self H.out HC2.out a 0)
    clear hs hq h2 hno
    go_enter Try.func76, Try.ntmps76
    go_wp2_with fail
    refine (HNOT.out _).mono ?_
    rintro e w' ⟨rfl, rfl⟩
    generalize neg a = nr at *
    go_wp2_with fail
    exact bodyPost_ret (v := .tuple #[.agg #[.int .i64 G.most, .slice (some ⟨rb, 0, none⟩) G.nodes.length cap], .int .i64 a, .int .i64 0]) (by simp [results, Try.results76, go_sem]) rfl HF.out
  have q2 : ((b : Int) == 1) = false := by simp; omega
  by_cases h3 : b = a
  · have hq := hs.2.1 hno (.inr h3)
    have q3 : ((b : Int) == (a : Int)) = true := by simp [h3]
    rw [hq]
    have HF := Lib.hid (RTo.self H.out HC2.out a 0)
    clear hs hq h2 hno h3
    go_enter Try.func76, Try.ntmps76
    go_wp2_with fail
    refine (HNOT.out _).mono ?_
    rintro e w' ⟨rfl, rfl⟩
    generalize neg a = nr at *
    go_wp2_with fail
    exact bodyPost_ret (v := .tuple #[.agg #[.int .i64 G.most, .slice (some ⟨rb, 0, none⟩) G.nodes.length cap], .int .i64 a, .int .i64 0]) (by simp [results, Try.results76, go_sem]) rfl HF.out
  have q3 : ((b : Int) == (a : Int)) = false := by simp; omega
  obtain ⟨hi, hfs, hfn⟩ := hs.2.2 hno (by simp [h2, h3])
  have hok : findAnd G.nodes b a = none → G.nodes.length < G.most → Ok { G with nodes := G.nodes ++ [⟨3, b, a, 1 + max (dep G.nodes a) (dep G.nodes b)⟩] } := fun hf hm => ⟨H.out.ok.wf.and hi ha hb hf, by simp; omega, H.out.ok.most⟩
  generalize 1 + max (dep G.nodes a) (dep G.nodes b) = dd at *
  have HOK := Lib.hid hok; clear hok
  have HFS := Lib.hid hfs; clear hfs
  have HFN := Lib.hid hfn; clear hfn
  clear hs hno h2 h3 hi
  go_enter Try.func76, Try.ntmps76
  go_wp2_with fail
  refine (HNOT.out _).mono ?_
  rintro e w' ⟨rfl, rfl⟩
  generalize neg a = nr at *
  go_wp2_with fail
  refine wp_alw ?_
  intro W0 hW0
  have hc0 : Ch [] w W0 := by rw [hW0]; exact ((Ch.refl _ _).alloc _).alloc _
  have b2 : blk W0 w.heap.size [.int .i64 G.most, .slice (some ⟨rb, 0, none⟩) G.nodes.length cap] := by rw [hW0]; exact (blk.new' (w := w) [.int .i64 G.most, .slice (some ⟨rb, 0, none⟩) G.nodes.length cap] 105 rfl).alloc _
  have b4 : blk W0 (w.heap.size + 1) [.int .i64 0, .slice none 0 0] := by rw [hW0]; exact blk.new' [.int .i64 0, .slice none 0 0] 105 (by simp)
  clear hW0 HNOT HC2
  have H0 := H.out.ch hc0 (by simp)
  have y0 := b2.cell (i := 0) rfl
  have y1 := b2.cell (i := 1) rfl
  have z0 := b4.cell (i := 0) rfl
  have z1 := b4.cell (i := 1) rfl
  have f0 := b4.frozen (i := 0)
  have f1 := b4.frozen (i := 1)
  have B2 := Lib.hid b2; clear b2
  have B4 := Lib.hid b4; clear b4
  have HC0 := Lib.hid hc0; clear hc0
  have HH := Lib.hid H0; clear H0
  go_loop [9] (fun i => ∃ k : Nat, k ≤ G.nodes.length ∧ i = .int .i64 k ∧ ∀ (j : Nat) (x : Nd), j < k → G.nodes[j]? = some x → isAnd b a x = false) (fun i => G.nodes.length - (intOf i).toNat)
  case atStart => exact ⟨0, Nat.zero_le _, rfl, fun j x hj => by omega⟩
  case round =>
    obtain ⟨k, hk, rfl, hno⟩ := hrel
    have HNO := Lib.hid hno; clear hno
    by_cases hlt : k < G.nodes.length
    · obtain ⟨x, hx⟩ : ∃ x, G.nodes[k]? = some x := ⟨_, List.getElem?_eq_getElem hlt⟩
      obtain ⟨c0, c1, c2⟩ := HH.out.node hx
      have HX := Lib.hid hx; clear hx
      have hstep : isAnd b a x = false → ∀ (j : Nat) (y : Nd), j < k + 1 → G.nodes[j]? = some y → isAnd b a y = false := fun hf j y hj hy => by
        by_cases e : j = k
        · subst e; rw [HX.out] at hy; cases hy; exact hf
        · exact HNO.out j y (by omega) hy
      have HST := Lib.hid hstep; clear hstep
      by_cases hk3 : x.k = 3
      · have p0 : ((x.k : Int) == 3) = true := by simp [hk3]
        by_cases hxl : x.l = b
        · have p1 : ((x.l : Int) == (b : Int)) = true := by simp [hxl]
          by_cases hxr : x.r = a
          · have p2 : ((x.r : Int) == (a : Int)) = true := by simp [hxr]
            have hq := HFS.out k (findAnd_at HX.out (by simp [isAnd, hk3, hxl, hxr]) HNO.out)
            rw [hq]
            have HQ := Lib.hid hq
            clear hk3 hxl hxr hq
            go_wp2_with fail
            have hc9 : Ch [w.heap.size + 1] W0 ((W0.setCell ⟨w.heap.size + 1, 0, none⟩ (.int .i64 G.most)).setCell ⟨w.heap.size + 1, 1, none⟩ (.slice (some ⟨rb, 0, none⟩) G.nodes.length cap)) := ((Ch.refl _ _).setCell (by simp) _).setCell (by simp) _
            refine bodyPost_ret (v := .tuple #[.agg #[.int .i64 G.most, .slice (some ⟨rb, 0, none⟩) G.nodes.length cap], .int .i64 (2 * k), .int .i64 0]) (by simp [results, Try.results76, go_sem, z0, z1]) rfl ?_
            have := RTo.self H.out (HC0.out.trans hc9 (fun k hk => .inr (by simp at hk; omega))) (2 * k) 0
            simpa using this
          · have p2 : ((x.r : Int) == (a : Int)) = false := by simp; omega
            have hf := HST.out (by simp [isAnd, hxr])
            have HF := Lib.hid hf; clear hf HST
            clear hk3 hxl hxr
            go_wp2_with fail
            go_round
            case rel => exact ⟨k + 1, by omega, by go_num, HF.out⟩
            case measure => simp [intOf]; omega
        · have p1 : ((x.l : Int) == (b : Int)) = false := by simp; omega
          have hf := HST.out (by simp [isAnd, hxl])
          have HF := Lib.hid hf; clear hf HST
          clear hk3 hxl
          go_wp2_with fail
          go_round
          case rel => exact ⟨k + 1, by omega, by go_num, HF.out⟩
          case measure => simp [intOf]; omega
      · have p0 : ((x.k : Int) == 3) = false := by simp; omega
        have hf := HST.out (by simp [isAnd, hk3])
        have HF := Lib.hid hf; clear hf HST
        clear hk3
        go_wp2_with fail
        go_round
        case rel => exact ⟨k + 1, by omega, by go_num, HF.out⟩
        case measure => simp [intOf]; omega
    · have hkn : k = G.nodes.length := by omega
      have hnone := findAnd_no (ns := G.nodes) (l := b) (r := a) (fun j y hj hy => HNO.out j y (by omega) hy)
      have hq := HFN.out hnone
      have HQ := Lib.hid hq
      have hP : Calls Try.prog 75 #[.agg #[.int .i64 G.most, .slice (some ⟨rb, 0, none⟩) G.nodes.length cap], .agg #[.int .i64 3, .int .i64 b, .int .i64 a]] W0 (RTo W0 rb (put G ⟨3, b, a, dd⟩)) := rPut_is HH.out ⟨3, b, a, dd⟩ (HOK.out hnone)
      have HP := Lib.hid hP; clear hP
      clear hq hnone hkn
      generalize put G ⟨3, b, a, dd⟩ = RR at *
      go_wp2_with fail
      refine HP.out.mono ?_
      rintro e w5 ⟨rb', cap', rfl, hrg, hch, hfr⟩
      have y0 := hch.cell (cell_lt z0) (by simp)
      have y1 := hch.cell (cell_lt z1) (by simp)
      rw [z0] at y0
      rw [z1] at y1
      have g0 := (B4.out.ch hch (by simp)).frozen (i := 0)
      have g1 := (B4.out.ch hch (by simp)).frozen (i := 1)
      have hne : rb' ≠ w.heap.size + 1 := by
        rcases hfr with e | e
        · omega
        · have := B4.out.lt; omega
      have HRG := Lib.hid hrg; clear hrg
      have HCH := Lib.hid hch; clear hch
      clear z0 z1 f0 f1
      go_wp2_with fail
      have hc9 : Ch [w.heap.size + 1] w5 ((w5.setCell ⟨w.heap.size + 1, 0, none⟩ (.int .i64 RR.1.most)).setCell ⟨w.heap.size + 1, 1, none⟩ (.slice (some ⟨rb', 0, none⟩) RR.1.nodes.length cap')) := ((Ch.refl _ _).setCell (by simp) _).setCell (by simp) _
      refine bodyPost_ret (v := .tuple #[.agg #[.int .i64 RR.1.most, .slice (some ⟨rb', 0, none⟩) RR.1.nodes.length cap'], .int .i64 RR.2.1, .int .i64 RR.2.2]) (by simp [results, Try.results76, go_sem, y0, y1]) rfl ?_
      have hs0 := HC0.out.size
      rw [HQ.out]
      exact ⟨rb', cap', rfl, HRG.out.ch hc9 (by simpa using hne), (HC0.out.trans HCH.out (by simp)).trans hc9 (fun k hk => .inr (by simp at hk; omega)), hfr.imp id (fun e => by omega)⟩
theorem rAnd_is {w : World} {rb cap : Nat} {G : Gra} (h : RG w rb cap G) {a b : Nat} (ha : a < 2 * G.nodes.length) (hb : b < 2 * G.nodes.length) : Calls Try.prog 76 #[.agg #[.int .i64 G.most, .slice (some ⟨rb, 0, none⟩) G.nodes.length cap], .int .i64 a, .int .i64 b] w (RTo w rb (and G a b)) := by
  cases hd : decide (b < a)
  · exact rAnd_le h ha hb hd
  · exact rAnd_gt h ha hb hd
end
end Go.Proofs.Ytnajonchjlplmaa
