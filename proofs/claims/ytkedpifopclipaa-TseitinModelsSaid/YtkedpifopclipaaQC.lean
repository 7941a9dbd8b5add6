/-
  Walks over the reference's And. Conditions: a graph that can be read, references of it.
  Walks over the reference's Or, Mux, Xor, All, Any. Conditions: a graph that can be read, references of it.
  Walks over the reference's Mux and Xor. Conditions: a graph that can be read, references of it.
  Walks over the library's Index, Contains, IndexFunc, ContainsFunc and IsSorted over numbers. Conditions: slices that are read.
  Walks over the reference's Xor, Cut, Inputs, Depths, and over the law's refs. Conditions: a graph that can be read; a slice that can be read.
  Walks over the reference's Depths, All, Any, and over the law's refs. Conditions: a graph that can be read; a slice that can be read.
  Walks over the reference's All and Any. Conditions: a graph that can be read, a slice of references of it.
  Walks over the reference's Any. Conditions: a graph that can be read, a slice of references of it.
  The reference's cone, plainly, and the walk over it. Conditions: a graph that can be read, a slice of references of it.
  Parts of the walk over told: the reference's Not of any number, what a graph tells of a number. Conditions: a graph in memory.
  Walk over told: a graph tells what the reference does. Conditions: a graph in memory, and the reference's of the same nodes, apart.
  What an act does, by the graph and by the reference: plainly the same; ContainsFunc over numbers with a function that makes memory. Conditions: references of the graph.
  Several steps of which one may fail, plainly: the reference stops, the program goes on and cuts. Words of references. No program in sight. Conditions: none beyond the hypotheses.
  Walks over the maker of sums: put, xor, mux; the law of a step on the plain side. Conditions: a graph in memory, references of it.
  A range over a function whose iterator only reads: the contract, and the caller's law, said with the blocks that may change. The body may go on or return.
  Walks over pairs of sums: the iterator over two words side by side. Conditions: two slices of the same length.
  Walks over build of sums: something is made as a whole, or the graph is as it was. Conditions: the graph is one in memory; what is called makes.
  Walks over right and check of sums. Conditions: a graph in memory, words of any integers.
  Drawn regions in a round of a range over a function, under the widest fence: from the plain walk.
  What is known between two rounds of a loop that makes a word: a frame of blocks, the maker's state beside the reference's. Conditions: none beyond the hypotheses.
  Walks over each of sums: bit by bit. Conditions: a graph in memory, two words of it.
  Walks over sum of sums: a carry goes along. Conditions: a graph in memory, two words of it.
  Walks over Ne of sums. Conditions: a graph in memory, two words of it.
  Walks over Lt of sums. Conditions: a graph in memory, two words of it.
  Walks over Input of sums. Conditions: a graph in memory.
  Walks over each, And, Or, Xor of sums. Conditions: a graph in memory, words of any integers.
  Walks over the exported functions of sums: words of two. Conditions: a graph in memory, words of any integers.
-/
import Derived.Test.YtkedpifopclipaaQB
import Derived.Deep.Cut
import Derived.RangeFuncFrom
import Derived.Test.YtkedpifopclipaaQA
import Derived.RangeFuncCalls
namespace Go.Proofs.Ytkedpifopclipaa
open Go.RowKit Go.Mem Go.Aig
theorem rPut_is {w : World} {rb cap : Nat} {G : Gra} (h : RG w rb cap G) (x : Nd) (ho : G.nodes.length < G.most → Ok { G with nodes := G.nodes ++ [x] }) : Calls Try.prog 149 #[.agg #[.int .i64 G.most, .slice (some ⟨rb, 0, none⟩) G.nodes.length cap], .agg #[.int .i64 x.k, .int .i64 x.l, .int .i64 x.r]] w (RTo w rb (put G x)) := by
  rcases Nat.lt_or_ge G.nodes.length G.most with hm | hm
  · exact rPut_yes h x hm (ho hm)
  · exact rPut_no h x hm
theorem neg_eq {a b : Nat} : a = neg b ↔ b = neg a := by unfold neg; constructor <;> intro h <;> (repeat' split at h) <;> (repeat' split) <;> omega
/-- the and of two references, the lesser one first -/
theorem and_sort (G : Gra) {a b l r : Nat} (hl : min a b = l) (hr : max a b = r) :
    ((l = 0 ∨ l = neg r) → and G a b = (G, 0, 0)) ∧ (¬ (l = 0 ∨ l = neg r) → (l = 1 ∨ l = r) → and G a b = (G, r, 0)) ∧
    (¬ (l = 0 ∨ l = neg r) → ¬ (l = 1 ∨ l = r) → andIs a b = .node l r ∧ (∀ n, findAnd G.nodes l r = some n → and G a b = (G, 2 * n, 0)) ∧ (findAnd G.nodes l r = none → and G a b = put G ⟨3, l, r, 1 + max (dep G.nodes a) (dep G.nodes b)⟩)) := by
  have e1 : (a = neg b) ↔ (l = neg r) := by
    rcases Nat.le_total a b with h | h
    · rw [Nat.min_eq_left h] at hl; rw [Nat.max_eq_right h] at hr; subst hl; subst hr; exact Iff.rfl
    · rw [Nat.min_eq_right h] at hl; rw [Nat.max_eq_left h] at hr; subst hl; subst hr; exact neg_eq
  have e2 : (a = b) ↔ (l = r) := by omega
  have hi : andIs a b = if l = 0 ∨ l = neg r then .known 0 else if l = 1 ∨ l = r then .known r else .node l r := by
    unfold andIs
    rw [hl, hr]
    simp only [e1, e2]
  refine ⟨fun h => ?_, fun h h2 => ?_, fun h h2 => ?_⟩
  · unfold Aig.and; rw [hi, if_pos h]
  · unfold Aig.and; rw [hi, if_neg h, if_pos h2]
  · rw [if_neg h, if_neg h2] at hi
    refine ⟨hi, fun n hn => ?_, fun hn => ?_⟩
    · unfold Aig.and; rw [hi]; simp only [hn]
    · unfold Aig.and; rw [hi]; simp only [hn]
theorem findAnd_at {ns : List Nd} {l r k : Nat} {x : Nd} (hx : ns[k]? = some x) (h : isAnd l r x = true) (hno : ∀ (j : Nat) y, j < k → ns[j]? = some y → isAnd l r y = false) : findAnd ns l r = some k := by
  unfold findAnd
  obtain ⟨hlt, e⟩ := List.getElem?_eq_some_iff.1 hx
  rw [List.findIdx?_eq_some_iff_getElem]
  exact ⟨hlt, by rw [e]; exact h, fun j hj => by simp [hno j _ hj (List.getElem?_eq_getElem (by omega))]⟩
theorem findAnd_no {ns : List Nd} {l r : Nat} (hno : ∀ (j : Nat) y, j < ns.length → ns[j]? = some y → isAnd l r y = false) : findAnd ns l r = none := by
  unfold findAnd
  rw [List.findIdx?_eq_none_iff]
  intro y hy
  obtain ⟨j, hj⟩ := List.mem_iff_getElem?.1 hy
  exact hno j y (List.getElem?_eq_some_iff.1 hj).1 hj
/-- the same graph is returned -/
theorem RTo.self {w w' : World} {rb cap : Nat} {G : Gra} (h : RG w rb cap G) (hc : Ch [] w w') (r e : Nat) : RTo w rb (G, r, e) (.returned (.tuple #[.agg #[.int .i64 G.most, .slice (some ⟨rb, 0, none⟩) G.nodes.length cap], .int .i64 r, .int .i64 e])) w' :=
  ⟨rb, cap, rfl, h.ch hc (by simp), hc, .inl rfl⟩
section
set_option maxRecDepth 100000 in
set_option maxHeartbeats 2000000 in
theorem rAnd_le {w : World} {rb cap : Nat} {G : Gra} (h : RG w rb cap G) {a b : Nat} (ha : a < 2 * G.nodes.length) (hb : b < 2 * G.nodes.length) (hab : decide (b < a) = false) : Calls Try.prog 150 #[.agg #[.int .i64 G.most, .slice (some ⟨rb, 0, none⟩) G.nodes.length cap], .int .i64 a, .int .i64 b] w (RTo w rb (and G a b)) := by
  obtain ⟨hl, hp, hmo⟩ := h.len
  have hle := h.le
  have hmx := h.mx
  have hrb := h.lt
  have hs := and_sort G (a := a) (b := b) (l := a) (r := b) (by have := of_decide_eq_false hab; omega) (by have := of_decide_eq_false hab; omega)
  have hlr : a ≤ b := by have := of_decide_eq_false hab; omega
  have hNot := fun (W : World) => rNot_is W b (by omega)
  have HNOT := Lib.hid hNot; clear hNot
  have hc2 : Ch [] w ((w.alloc (.cells #[.int .i64 G.most, .slice (some ⟨rb, 0, none⟩) G.nodes.length cap] 122)).alloc (.cells #[.int .i64 G.most, .slice (some ⟨rb, 0, none⟩) G.nodes.length cap] 122)) := ((Ch.refl _ _).alloc _).alloc _
  have HC2 := Lib.hid hc2; clear hc2
  have H := Lib.hid h; clear h
  by_cases h0 : a = 0
  · have hq := hs.1 (.inl h0)
    have q0 : ((a : Int) == 0) = true := by simp [h0]
    rw [hq]
    have HF := Lib.hid (RTo.self H.out HC2.out 0 0)
    clear hs hq h0
    go_enter Try.func150, Try.ntmps150
    go_wp2_with fail
    exact bodyPost_ret (v := .tuple #[.agg #[.int .i64 G.most, .slice (some ⟨rb, 0, none⟩) G.nodes.length cap], .int .i64 0, .int .i64 0]) (by simp [results, Try.results150, go_sem]) rfl HF.out
  have q0 : ((a : Int) == 0) = false := by simp; omega
  by_cases h1 : a = neg b
  · have hq := hs.1 (.inr h1)
    have q1 : ((a : Int) == (neg b : Nat)) = true := by rw [← h1]; simp
    rw [hq]
    have HF := Lib.hid (RTo.self H.out HC2.out 0 0)
    clear hs hq h0 h1
    go_enter Try.func150, Try.ntmps150
    go_wp2_with fail
    refine (HNOT.out _).mono ?_
    rintro e w' ⟨rfl, rfl⟩
    generalize neg b = nr at *
    go_wp2_with fail
    exact bodyPost_ret (v := .tuple #[.agg #[.int .i64 G.most, .slice (some ⟨rb, 0, none⟩) G.nodes.length cap], .int .i64 0, .int .i64 0]) (by simp [results, Try.results150, go_sem]) rfl HF.out
  have q1 : ((a : Int) == (neg b : Nat)) = false := by simp; omega
  have hno : ¬ (a = 0 ∨ a = neg b) := by simp [h0, h1]
  clear h0 h1
  by_cases h2 : a = 1
  · have hq := hs.2.1 hno (.inl h2)
    have q2 : ((a : Int) == 1) = true := by simp [h2]
    rw [hq]
    have HF := Lib.hid (RTo.self H.out HC2.out b 0)
    clear hs hq h2 hno
    go_enter Try.func150, Try.ntmps150
    go_wp2_with fail
    refine (HNOT.out _).mono ?_
    rintro e w' ⟨rfl, rfl⟩
    generalize neg b = nr at *
    go_wp2_with fail
    exact bodyPost_ret (v := .tuple #[.agg #[.int .i64 G.most, .slice (some ⟨rb, 0, none⟩) G.nodes.length cap], .int .i64 b, .int .i64 0]) (by simp [results, Try.results150, go_sem]) rfl HF.out
  have q2 : ((a : Int) == 1) = false := by simp; omega
  by_cases h3 : a = b
  · have hq := hs.2.1 hno (.inr h3)
    have q3 : ((a : Int) == (b : Int)) = true := by simp [h3]
    rw [hq]
    have HF := Lib.hid (RTo.self H.out HC2.out b 0)
    clear hs hq h2 hno h3
    go_enter Try.func150, Try.ntmps150
    go_wp2_with fail
    refine (HNOT.out _).mono ?_
    rintro e w' ⟨rfl, rfl⟩
    generalize neg b = nr at *
    go_wp2_with fail
    exact bodyPost_ret (v := .tuple #[.agg #[.int .i64 G.most, .slice (some ⟨rb, 0, none⟩) G.nodes.length cap], .int .i64 b, .int .i64 0]) (by simp [results, Try.results150, go_sem]) rfl HF.out
  have q3 : ((a : Int) == (b : Int)) = false := by simp; omega
  obtain ⟨hi, hfs, hfn⟩ := hs.2.2 hno (by simp [h2, h3])
  have hok : findAnd G.nodes a b = none → G.nodes.length < G.most → Ok { G with nodes := G.nodes ++ [⟨3, a, b, 1 + max (dep G.nodes a) (dep G.nodes b)⟩] } := fun hf hm => ⟨H.out.ok.wf.and hi ha hb hf, by simp; omega, H.out.ok.most⟩
  generalize 1 + max (dep G.nodes a) (dep G.nodes b) = dd at *
  have HOK := Lib.hid hok; clear hok
  have HFS := Lib.hid hfs; clear hfs
  have HFN := Lib.hid hfn; clear hfn
  clear hs hno h2 h3 hi
  go_enter Try.func150, Try.ntmps150
  go_wp2_with fail
  refine (HNOT.out _).mono ?_
  rintro e w' ⟨rfl, rfl⟩
  generalize neg b = nr at *
  go_wp2_with fail
  refine wp_alw ?_
  intro W0 hW0
  have hc0 : Ch [] w W0 := by rw [hW0]; exact ((Ch.refl _ _).alloc _).alloc _
  have b2 : blk W0 w.heap.size [.int .i64 G.most, .slice (some ⟨rb, 0, none⟩) G.nodes.length cap] := by rw [hW0]; exact (blk.new' (w := w) [.int .i64 G.most, .slice (some ⟨rb, 0, none⟩) G.nodes.length cap] 122 rfl).alloc _
  have b4 : blk W0 (w.heap.size + 1) [.int .i64 0, .slice none 0 0] := by rw [hW0]; exact blk.new' [.int .i64 0, .slice none 0 0] 122 (by simp)
  clear hW0 HNOT HC2
  have H0 := H.out.ch hc0 (by simp)
  have y0 := b2.cell (i := 0) rfl
  have y1 := b2.cell (i := 1) rfl
  have z0 := b4.cell (i := 0) rfl
  have z1 := b4.cell (i := 1) rfl
  have f0 := b4.frozen (i := 0)
  have f1 := b4.frozen (i := 1)
  have B2 := Lib.hid b2; clear b2
  have B4 := Lib.hid b4; clear b4
  have HC0 := Lib.hid hc0; clear hc0
  have HH := Lib.hid H0; clear H0
  go_loop [9] (fun i => ∃ k : Nat, k ≤ G.nodes.length ∧ i = .int .i64 k ∧ ∀ (j : Nat) (x : Nd), j < k → G.nodes[j]? = some x → isAnd a b x = false) (fun i => G.nodes.length - (intOf i).toNat)
  case atStart => exact ⟨0, Nat.zero_le _, rfl, fun j x hj => by omega⟩
  case round =>
    obtain ⟨k, hk, rfl, hno⟩ := hrel
    have HNO := Lib.hid hno; clear hno
    by_cases hlt : k < G.nodes.length
    · obtain ⟨x, hx⟩ : ∃ x, G.nodes[k]? = some x := ⟨_, List.getElem?_eq_getElem hlt⟩
      obtain ⟨c0, c1, c2⟩ := HH.out.node hx
      have HX := Lib.hid hx; clear hx
      have hstep : isAnd a b x = false → ∀ (j : Nat) (y : Nd), j < k + 1 → G.nodes[j]? = some y → isAnd a b y = false := fun hf j y hj hy => by
        by_cases e : j = k
        · subst e; rw [HX.out] at hy; cases hy; exact hf
        · exact HNO.out j y (by omega) hy
      have HST := Lib.hid hstep; clear hstep
      by_cases hk3 : x.k = 3
      · have p0 : ((x.k : Int) == 3) = true := by simp [hk3]
        by_cases hxl : x.l = a
        · have p1 : ((x.l : Int) == (a : Int)) = true := by simp [hxl]
          by_cases hxr : x.r = b
          · have p2 : ((x.r : Int) == (b : Int)) = true := by simp [hxr]
            have hq := HFS.out k (findAnd_at HX.out (by simp [isAnd, hk3, hxl, hxr]) HNO.out)
            rw [hq]
            have HQ := Lib.hid hq
            clear hk3 hxl hxr hq
            go_wp2_with fail
            have hc9 : Ch [w.heap.size + 1] W0 ((W0.setCell ⟨w.heap.size + 1, 0, none⟩ (.int .i64 G.most)).setCell ⟨w.heap.size + 1, 1, none⟩ (.slice (some ⟨rb, 0, none⟩) G.nodes.length cap)) := ((Ch.refl _ _).setCell (by simp) _).setCell (by simp) _
            refine bodyPost_ret (v := .tuple #[.agg #[.int .i64 G.most, .slice (some ⟨rb, 0, none⟩) G.nodes.length cap], .int .i64 (2 * k), .int .i64 0]) (by simp [results, Try.results150, go_sem, z0, z1]) rfl ?_
            have := RTo.self H.out (HC0.out.trans hc9 (fun k hk => .inr (by simp at hk; omega))) (2 * k) 0
            simpa using this
          · have p2 : ((x.r : Int) == (b : Int)) = false := by simp; omega
            have hf := HST.out (by simp [isAnd, hxr])
            have HF := Lib.hid hf; clear hf HST
            clear hk3 hxl hxr
            go_wp2_with fail
            go_round
            case rel => exact ⟨k + 1, by omega, by go_num, HF.out⟩
            case measure => simp [intOf]; omega
        · have p1 : ((x.l : Int) == (a : Int)) = false := by simp; omega
          have hf := HST.out (by simp [isAnd, hxl])
          have HF := Lib.hid hf; clear hf HST
          clear hk3 hxl
          go_wp2_with fail
          go_round
          case rel => exact ⟨k + 1, by omega, by go_num, HF.out⟩
          case measure => simp [intOf]; omega
      · have p0 : ((x.k : Int) == 3) = false := by simp; omega
        have hf := HST.out (by simp [isAnd, hk3])
        have HF := Lib.hid hf; clear hf HST
        clear hk3
        go_wp2_with fail
        go_round
        case rel => exact ⟨k + 1, by omega, by go_num, HF.out⟩
        case measure => simp [intOf]; omega
    · have hkn : k = G.nodes.length := by omega
      have hnone := findAnd_no (ns := G.nodes) (l := a) (r := b) (fun j y hj hy => HNO.out j y (by omega) hy)
      have hq := HFN.out hnone
      have HQ := Lib.hid hq
      have hP : Calls Try.prog 149 #[.agg #[.int .i64 G.most, .slice (some ⟨rb, 0, none⟩) G.nodes.length cap], .agg #[.int .i64 3, .int .i64 a, .int .i64 b]] W0 (RTo W0 rb (put G ⟨3, a, b, dd⟩)) := rPut_is HH.out ⟨3, a, b, dd⟩ (HOK.out hnone)
      have HP := Lib.hid hP; clear hP
      clear hq hnone hkn
      generalize put G ⟨3, a, b, dd⟩ = RR at *
      go_wp2_with fail
      refine HP.out.mono ?_
      rintro e w5 ⟨rb', cap', rfl, hrg, hch, hfr⟩
      have y0 := hch.cell (cell_lt z0) (by simp)
      have y1 := hch.cell (cell_lt z1) (by simp)
      rw [z0] at y0
      rw [z1] at y1
      have g0 := (B4.out.ch hch (by simp)).frozen (i := 0)
      have g1 := (B4.out.ch hch (by simp)).frozen (i := 1)
      have hne : rb' ≠ w.heap.size + 1 := by
        rcases hfr with e | e
        · omega
        · have := B4.out.lt; omega
      have HRG := Lib.hid hrg; clear hrg
      have HCH := Lib.hid hch; clear hch
      clear z0 z1 f0 f1
      go_wp2_with fail
      have hc9 : Ch [w.heap.size + 1] w5 ((w5.setCell ⟨w.heap.size + 1, 0, none⟩ (.int .i64 RR.1.most)).setCell ⟨w.heap.size + 1, 1, none⟩ (.slice (some ⟨rb', 0, none⟩) RR.1.nodes.length cap')) := ((Ch.refl _ _).setCell (by simp) _).setCell (by simp) _
      refine bodyPost_ret (v := .tuple #[.agg #[.int .i64 RR.1.most, .slice (some ⟨rb', 0, none⟩) RR.1.nodes.length cap'], .int .i64 RR.2.1, .int .i64 RR.2.2]) (by simp [results, Try.results150, go_sem, y0, y1]) rfl ?_
      have hs0 := HC0.out.size
      rw [HQ.out]
      exact ⟨rb', cap', rfl, HRG.out.ch hc9 (by simpa using hne), (HC0.out.trans HCH.out (by simp)).trans hc9 (fun k hk => .inr (by simp at hk; omega)), hfr.imp id (fun e => by omega)⟩
set_option maxRecDepth 100000 in
set_option maxHeartbeats 2000000 in
theorem rAnd_gt {w : World} {rb cap : Nat} {G : Gra} (h : RG w rb cap G) {a b : Nat} (ha : a < 2 * G.nodes.length) (hb : b < 2 * G.nodes.length) (hab : decide (b < a) = true) : Calls Try.prog 150 #[.agg #[.int .i64 G.most, .slice (some ⟨rb, 0, none⟩) G.nodes.length cap], .int .i64 a, .int .i64 b] w (RTo w rb (and G a b)) := by
  obtain ⟨hl, hp, hmo⟩ := h.len
  have hle := h.le
  have hmx := h.mx
  have hrb := h.lt
  have hs := and_sort G (a := a) (b := b) (l := b) (r := a) (by have := of_decide_eq_true hab; omega) (by have := of_decide_eq_true hab; omega)
  have hlr : b ≤ a := by have := of_decide_eq_true hab; omega
  have hNot := fun (W : World) => rNot_is W a (by omega)
  have HNOT := Lib.hid hNot; clear hNot
  have hc2 : Ch [] w ((w.alloc (.cells #[.int .i64 G.most, .slice (some ⟨rb, 0, none⟩) G.nodes.length cap] 122)).alloc (.cells #[.int .i64 G.most, .slice (some ⟨rb, 0, none⟩) G.nodes.length cap] 122)) := ((Ch.refl _ _).alloc _).alloc _
  have HC2 := Lib.hid hc2; clear hc2
  have H := Lib.hid h; clear h
  by_cases h0 : b = 0
  · have hq := hs.1 (.inl h0)
    have q0 : ((b : Int) == 0) = true := by simp [h0]
    rw [hq]
    have HF := Lib.hid (RTo.self H.out HC2.out 0 0)
    clear hs hq h0
    go_enter Try.func150, Try.ntmps150
    go_wp2_with fail
    exact bodyPost_ret (v := .tuple #[.agg #[.int .i64 G.most, .slice (some ⟨rb, 0, none⟩) G.nodes.length cap], .int .i64 0, .int .i64 0]) (by simp [results, Try.results150, go_sem]) rfl HF.out
  have q0 : ((b : Int) == 0) = false := by simp; omega
  by_cases h1 : b = neg a
  · have hq := hs.1 (.inr h1)
    have q1 : ((b : Int) == (neg a : Nat)) = true := by rw [← h1]; simp
    rw [hq]
    have HF := Lib.hid (RTo.self H.out HC2.out 0 0)
    clear hs hq h0 h1
    go_enter Try.func150, Try.ntmps150
    go_wp2_with fail
    refine (HNOT.out _).mono ?_
    rintro e w' ⟨rfl, rfl⟩
    generalize neg a = nr at *
    go_wp2_with fail
    exact bodyPost_ret (v := .tuple #[.agg #[.int .i64 G.most, .slice (some ⟨rb, 0, none⟩) G.nodes.length cap], .int .i64 0, .int .i64 0]) (by simp [results, Try.results150, go_sem]) rfl HF.out
  have q1 : ((b : Int) == (neg a : Nat)) = false := by simp; omega
  have hno : ¬ (b = 0 ∨ b = neg a) := by simp [h0, h1]
  clear h0 h1
  by_cases h2 : b = 1
  · have hq := hs.2.1 hno (.inl h2)
    have q2 : ((b : Int) == 1) = true := by simp [h2]
    rw [hq]
    have HF := Lib.hid (RTo.self H.out HC2.out a 0)
    clear hs hq h2 hno
    go_enter Try.func150, Try.ntmps150
    go_wp2_with fail
    refine (HNOT.out _).mono ?_
    rintro e w' ⟨rfl, rfl⟩
    generalize neg a = nr at *
    go_wp2_with fail
    exact bodyPost_ret (v := .tuple #[.agg #[.int .i64 G.most, .slice (some ⟨rb, 0, none⟩) G.nodes.length cap], .int .i64 a, .int .i64 0]) (by simp [results, Try.results150, go_sem]) rfl HF.out
  have q2 : ((b : Int) == 1) = false := by simp; omega
  by_cases h3 : b = a
  · have hq := hs.2.1 hno (.inr h3)
    have q3 : ((b : Int) == (a : Int)) = true := by simp [h3]
    rw [hq]
    have HF := Lib.hid (RTo.self H.out HC2.out a 0)
    clear hs hq h2 hno h3
    go_enter Try.func150, Try.ntmps150
    go_wp2_with fail
    refine (HNOT.out _).mono ?_
    rintro e w' ⟨rfl, rfl⟩
    generalize neg a = nr at *
    go_wp2_with fail
    exact bodyPost_ret (v := .tuple #[.agg #[.int .i64 G.most, .slice (some ⟨rb, 0, none⟩) G.nodes.length cap], .int .i64 a, .int .i64 0]) (by simp [results, Try.results150, go_sem]) rfl HF.out
  have q3 : ((b : Int) == (a : Int)) = false := by simp; omega
  obtain ⟨hi, hfs, hfn⟩ := hs.2.2 hno (by simp [h2, h3])
  have hok : findAnd G.nodes b a = none → G.nodes.length < G.most → Ok { G with nodes := G.nodes ++ [⟨3, b, a, 1 + max (dep G.nodes a) (dep G.nodes b)⟩] } := fun hf hm => ⟨H.out.ok.wf.and hi ha hb hf, by simp; omega, H.out.ok.most⟩
  generalize 1 + max (dep G.nodes a) (dep G.nodes b) = dd at *
  have HOK := Lib.hid hok; clear hok
  have HFS := Lib.hid hfs; clear hfs
  have HFN := Lib.hid hfn; clear hfn
  clear hs hno h2 h3 hi
  go_enter Try.func150, Try.ntmps150
  go_wp2_with fail
  refine (HNOT.out _).mono ?_
  rintro e w' ⟨rfl, rfl⟩
  generalize neg a = nr at *
  go_wp2_with fail
  refine wp_alw ?_
  intro W0 hW0
  have hc0 : Ch [] w W0 := by rw [hW0]; exact ((Ch.refl _ _).alloc _).alloc _
  have b2 : blk W0 w.heap.size [.int .i64 G.most, .slice (some ⟨rb, 0, none⟩) G.nodes.length cap] := by rw [hW0]; exact (blk.new' (w := w) [.int .i64 G.most, .slice (some ⟨rb, 0, none⟩) G.nodes.length cap] 122 rfl).alloc _
  have b4 : blk W0 (w.heap.size + 1) [.int .i64 0, .slice none 0 0] := by rw [hW0]; exact blk.new' [.int .i64 0, .slice none 0 0] 122 (by simp)
  clear hW0 HNOT HC2
  have H0 := H.out.ch hc0 (by simp)
  have y0 := b2.cell (i := 0) rfl
  have y1 := b2.cell (i := 1) rfl
  have z0 := b4.cell (i := 0) rfl
  have z1 := b4.cell (i := 1) rfl
  have f0 := b4.frozen (i := 0)
  have f1 := b4.frozen (i := 1)
  have B2 := Lib.hid b2; clear b2
  have B4 := Lib.hid b4; clear b4
  have HC0 := Lib.hid hc0; clear hc0
  have HH := Lib.hid H0; clear H0
  go_loop [9] (fun i => ∃ k : Nat, k ≤ G.nodes.length ∧ i = .int .i64 k ∧ ∀ (j : Nat) (x : Nd), j < k → G.nodes[j]? = some x → isAnd b a x = false) (fun i => G.nodes.length - (intOf i).toNat)
  case atStart => exact ⟨0, Nat.zero_le _, rfl, fun j x hj => by omega⟩
  case round =>
    obtain ⟨k, hk, rfl, hno⟩ := hrel
    have HNO := Lib.hid hno; clear hno
    by_cases hlt : k < G.nodes.length
    · obtain ⟨x, hx⟩ : ∃ x, G.nodes[k]? = some x := ⟨_, List.getElem?_eq_getElem hlt⟩
      obtain ⟨c0, c1, c2⟩ := HH.out.node hx
      have HX := Lib.hid hx; clear hx
      have hstep : isAnd b a x = false → ∀ (j : Nat) (y : Nd), j < k + 1 → G.nodes[j]? = some y → isAnd b a y = false := fun hf j y hj hy => by
        by_cases e : j = k
        · subst e; rw [HX.out] at hy; cases hy; exact hf
        · exact HNO.out j y (by omega) hy
      have HST := Lib.hid hstep; clear hstep
      by_cases hk3 : x.k = 3
      · have p0 : ((x.k : Int) == 3) = true := by simp [hk3]
        by_cases hxl : x.l = b
        · have p1 : ((x.l : Int) == (b : Int)) = true := by simp [hxl]
          by_cases hxr : x.r = a
          · have p2 : ((x.r : Int) == (a : Int)) = true := by simp [hxr]
            have hq := HFS.out k (findAnd_at HX.out (by simp [isAnd, hk3, hxl, hxr]) HNO.out)
            rw [hq]
            have HQ := Lib.hid hq
            clear hk3 hxl hxr hq
            go_wp2_with fail
            have hc9 : Ch [w.heap.size + 1] W0 ((W0.setCell ⟨w.heap.size + 1, 0, none⟩ (.int .i64 G.most)).setCell ⟨w.heap.size + 1, 1, none⟩ (.slice (some ⟨rb, 0, none⟩) G.nodes.length cap)) := ((Ch.refl _ _).setCell (by simp) _).setCell (by simp) _
            refine bodyPost_ret (v := .tuple #[.agg #[.int .i64 G.most, .slice (some ⟨rb, 0, none⟩) G.nodes.length cap], .int .i64 (2 * k), .int .i64 0]) (by simp [results, Try.results150, go_sem, z0, z1]) rfl ?_
            have := RTo.self H.out (HC0.out.trans hc9 (fun k hk => .inr (by simp at hk; omega))) (2 * k) 0
            simpa using this
          · have p2 : ((x.r : Int) == (a : Int)) = false := by simp; omega
            have hf := HST.out (by simp [isAnd, hxr])
            have HF := Lib.hid hf; clear hf HST
            clear hk3 hxl hxr
            go_wp2_with fail
            go_round
            case rel => exact ⟨k + 1, by omega, by go_num, HF.out⟩
            case measure => simp [intOf]; omega
        · have p1 : ((x.l : Int) == (b : Int)) = false := by simp; omega
          have hf := HST.out (by simp [isAnd, hxl])
          have HF := Lib.hid hf; clear hf HST
          clear hk3 hxl
          go_wp2_with fail
          go_round
          case rel => exact ⟨k + 1, by omega, by go_num, HF.out⟩
          case measure => simp [intOf]; omega
      · have p0 : ((x.k : Int) == 3) = false := by simp; omega
        have hf := HST.out (by simp [isAnd, hk3])
        have HF := Lib.hid hf; clear hf HST
        clear hk3
        go_wp2_with fail
        go_round
        case rel => exact ⟨k + 1, by omega, by go_num, HF.out⟩
        case measure => simp [intOf]; omega
    · have hkn : k = G.nodes.length := by omega
      have hnone := findAnd_no (ns := G.nodes) (l := b) (r := a) (fun j y hj hy => HNO.out j y (by omega) hy)
      have hq := HFN.out hnone
      have HQ := Lib.hid hq
      have hP : Calls Try.prog 149 #[.agg #[.int .i64 G.most, .slice (some ⟨rb, 0, none⟩) G.nodes.length cap], .agg #[.int .i64 3, .int .i64 b, .int .i64 a]] W0 (RTo W0 rb (put G ⟨3, b, a, dd⟩)) := rPut_is HH.out ⟨3, b, a, dd⟩ (HOK.out hnone)
      have HP := Lib.hid hP; clear hP
      clear hq hnone hkn
      generalize put G ⟨3, b, a, dd⟩ = RR at *
      go_wp2_with fail
      refine HP.out.mono ?_
      rintro e w5 ⟨rb', cap', rfl, hrg, hch, hfr⟩
      have y0 := hch.cell (cell_lt z0) (by simp)
      have y1 := hch.cell (cell_lt z1) (by simp)
      rw [z0] at y0
      rw [z1] at y1
      have g0 := (B4.out.ch hch (by simp)).frozen (i := 0)
      have g1 := (B4.out.ch hch (by simp)).frozen (i := 1)
      have hne : rb' ≠ w.heap.size + 1 := by
        rcases hfr with e | e
        · omega
        · have := B4.out.lt; omega
      have HRG := Lib.hid hrg; clear hrg
      have HCH := Lib.hid hch; clear hch
      clear z0 z1 f0 f1
      go_wp2_with fail
      have hc9 : Ch [w.heap.size + 1] w5 ((w5.setCell ⟨w.heap.size + 1, 0, none⟩ (.int .i64 RR.1.most)).setCell ⟨w.heap.size + 1, 1, none⟩ (.slice (some ⟨rb', 0, none⟩) RR.1.nodes.length cap')) := ((Ch.refl _ _).setCell (by simp) _).setCell (by simp) _
      refine bodyPost_ret (v := .tuple #[.agg #[.int .i64 RR.1.most, .slice (some ⟨rb', 0, none⟩) RR.1.nodes.length cap'], .int .i64 RR.2.1, .int .i64 RR.2.2]) (by simp [results, Try.results150, go_sem, y0, y1]) rfl ?_
      have hs0 := HC0.out.size
      rw [HQ.out]
      exact ⟨rb', cap', rfl, HRG.out.ch hc9 (by simpa using hne), (HC0.out.trans HCH.out (by simp)).trans hc9 (fun k hk => .inr (by simp at hk; omega)), hfr.imp id (fun e => by omega)⟩
theorem rAnd_is {w : World} {rb cap : Nat} {G : Gra} (h : RG w rb cap G) {a b : Nat} (ha : a < 2 * G.nodes.length) (hb : b < 2 * G.nodes.length) : Calls Try.prog 150 #[.agg #[.int .i64 G.most, .slice (some ⟨rb, 0, none⟩) G.nodes.length cap], .int .i64 a, .int .i64 b] w (RTo w rb (and G a b)) := by
  cases hd : decide (b < a)
  · exact rAnd_le h ha hb hd
  · exact rAnd_gt h ha hb hd
end
end Go.Proofs.Ytkedpifopclipaa
namespace Go.Aig
def rOr (G : Gra) (a b : Nat) : Res := if (and G (neg a) (neg b)).2.2 ≠ 0 then (G, 0, (and G (neg a) (neg b)).2.2) else ((and G (neg a) (neg b)).1, neg (and G (neg a) (neg b)).2.1, 0)
theorem rOr_ok {G : Gra} (h : Ok G) {a b : Nat} (ha : a < 2 * G.nodes.length) (hb : b < 2 * G.nodes.length) :
    Ok (rOr G a b).1 ∧ Ext G (rOr G a b).1 ∧ (rOr G a b).2.1 < 2 * (rOr G a b).1.nodes.length ∧ ((rOr G a b).2.2 = 0 ∨ (rOr G a b).2.2 = 201) := by
  obtain ⟨h1, h2, h3, h4⟩ := and_ok h (neg_lt ha) (neg_lt hb)
  have := h.wf.pos
  unfold rOr
  split
  · exact ⟨h, .refl _, by show 0 < 2 * G.nodes.length; omega, h4⟩
  · exact ⟨h1, h2, neg_lt h3, .inl rfl⟩
end Go.Aig
namespace Go.Proofs.Ytkedpifopclipaa
open Go.RowKit Go.Mem Go.Aig
theorem rto_ne {w : World} {rb rb' b : Nat} {xs : List Value} (h : blk w b xs) (hr : rb ≠ b) (hf : rb' = rb ∨ w.heap.size ≤ rb') : rb' ≠ b := by
  have := h.lt
  rcases hf with e | e <;> omega
theorem set2_ch {w W : World} {b : Nat} {u v : Value} (h : W = (w.setCell ⟨b, 0, none⟩ u).setCell ⟨b, 1, none⟩ v) : Ch [b] w W := by rw [h]; exact ((Ch.refl [b] _).setCell (by simp) _).setCell (by simp) _
theorem rg_ne {w : World} {rb cap : Nat} {G : Gra} (h : RG w rb cap G) : rb ≠ w.heap.size := by have := h.lt; omega
section
end
end Go.Proofs.Ytkedpifopclipaa
namespace Go.Aig
/-- what comes after a step: its error, or the next step -/
def rThen (G : Gra) (X : Res) (Y : Res) : Res := if X.2.2 ≠ 0 then (G, 0, X.2.2) else Y
def rMux (G : Gra) (c a b : Nat) : Res :=
  rThen G (and G c a) (rThen G (and (and G c a).1 (neg c) b) (rThen G (rOr (and (and G c a).1 (neg c) b).1 (and G c a).2.1 (and (and G c a).1 (neg c) b).2.1) ((rOr (and (and G c a).1 (neg c) b).1 (and G c a).2.1 (and (and G c a).1 (neg c) b).2.1).1, (rOr (and (and G c a).1 (neg c) b).1 (and G c a).2.1 (and (and G c a).1 (neg c) b).2.1).2.1, 0)))
def rXor (G : Gra) (a b : Nat) : Res := rMux G a (neg b) b
structure ROk (G : Gra) (R : Res) : Prop where
  ok : Ok R.1
  ext : Ext G R.1
  lt : R.2.1 < 2 * R.1.nodes.length
  err : R.2.2 = 0 ∨ R.2.2 = 201
theorem and_rok {G : Gra} (h : Ok G) {a b : Nat} (ha : a < 2 * G.nodes.length) (hb : b < 2 * G.nodes.length) : ROk G (and G a b) := by
  obtain ⟨h1, h2, h3, h4⟩ := and_ok h ha hb
  exact ⟨h1, h2, h3, h4⟩
theorem rOr_rok {G : Gra} (h : Ok G) {a b : Nat} (ha : a < 2 * G.nodes.length) (hb : b < 2 * G.nodes.length) : ROk G (rOr G a b) := by
  obtain ⟨h1, h2, h3, h4⟩ := rOr_ok h ha hb
  exact ⟨h1, h2, h3, h4⟩
theorem rThen_rok {G : Gra} (h : Ok G) {X Y : Res} (hX : ROk G X) (hY : ROk X.1 Y ∨ ROk G Y) : ROk G (rThen G X Y) := by
  have := h.wf.pos
  unfold rThen
  split
  · exact ⟨h, .refl _, by show 0 < 2 * G.nodes.length; omega, hX.err⟩
  · rcases hY with h | h
    · exact ⟨h.ok, hX.ext.trans h.ext, h.lt, h.err⟩
    · exact h
theorem ROk.zero {G : Gra} {R : Res} (h : ROk G R) : ROk G (R.1, R.2.1, 0) := ⟨h.ok, h.ext, h.lt, .inl rfl⟩
theorem rMux_rok {G : Gra} (h : Ok G) {c a b : Nat} (hc : c < 2 * G.nodes.length) (ha : a < 2 * G.nodes.length) (hb : b < 2 * G.nodes.length) : ROk G (rMux G c a b) := by
  have h1 := and_rok h hc ha
  have h2 := and_rok h1.ok (h1.ext.lt (neg_lt hc)) (h1.ext.lt hb)
  have h3 := rOr_rok h2.ok (h2.ext.lt h1.lt) h2.lt
  have e12 := h1.ext.trans h2.ext
  unfold rMux
  refine rThen_rok h h1 (.inr ?_)
  refine rThen_rok h ⟨h2.ok, e12, h2.lt, h2.err⟩ (.inr ?_)
  have h4 : ROk G (rOr (and (and G c a).1 (neg c) b).1 (and G c a).2.1 (and (and G c a).1 (neg c) b).2.1) := ⟨h3.ok, e12.trans h3.ext, h3.lt, h3.err⟩
  exact rThen_rok h h4 (.inr h4.zero)
end Go.Aig
namespace Go.Proofs.Ytkedpifopclipaa
open Go.RowKit Go.Mem Go.Aig
theorem rThen_bad {G : Gra} {X Y : Res} (h : X.2.2 = 201) : rThen G X Y = (G, 0, X.2.2) := by unfold rThen; rw [if_pos (by rw [h]; simp)]
theorem rThen_good {G : Gra} {X Y : Res} (h : X.2.2 = 0) : rThen G X Y = Y := by unfold rThen; rw [if_neg (by rw [h]; simp)]
section
end
end Go.Proofs.Ytkedpifopclipaa
namespace Go.Proofs.Ytkedpifopclipaa
open Go.RowKit Go.Mem Go.Aig
section
set_option maxRecDepth 100000 in
set_option maxHeartbeats 1000000 in
theorem IFint_is {w : World} {a : Option Addr} {xs : List Int} (cap fid : Nat) (caps : Array Value) (p : Int → Bool) (h : Sl w a xs) (hf : ∀ x ∈ xs, Calls Try.prog fid (#[.int .i64 x] ++ caps) w fun e w' => e = .returned (.bool (p x)) ∧ w = w')
    (hfn : Fnv fid) :
    Calls Try.prog 89 #[.slice a xs.length cap, .func (.func fid) #[] caps] w fun e w' => e = .returned (.int .i64 (idxOf p xs)) ∧ w = w' := by
  have hbd := h.bd
  have hcf : ∀ (args : Array Value) (w : World), (callFunc fid args).run Try.prog w = .ok (.enter fid args) w := hfn
  have HF := Lib.hid hf; clear hf
  have H := Lib.hid h; clear h
  go_enter Try.func89, Try.ntmps89
  go_wp2_with fail
  go_loop [8] (fun i => ∃ k : Nat, k ≤ xs.length ∧ i = .int .i64 k ∧ ∀ (j : Nat) (y : Int), j < k → xs[j]? = some y → p y = false) (fun i => xs.length - (intOf i).toNat)
  case atStart => exact ⟨0, Nat.zero_le _, rfl, fun j y hj => by omega⟩
  case round =>
    obtain ⟨k, hk, rfl, hno⟩ := hrel
    have HN := Lib.hid hno; clear hno
    by_cases hlt : k < xs.length
    · obtain ⟨b, o, rfl, hc⟩ := H.out.at (by omega)
      have hx : xs[k]? = some xs[k] := List.getElem?_eq_getElem hlt
      have c1 := hc k _ hx
      have hcall := HF.out xs[k] (List.getElem_mem hlt)
      have HX := Lib.hid hx; clear hx hc
      generalize xs[k] = x at *
      have HC := Lib.hid hcall; clear hcall
      cases hp : p x
      · rw [hp] at HC
        go_wp2_with fail
        refine HC.out.mono ?_
        rintro e w' ⟨rfl, rfl⟩
        go_wp2_with fail
        go_round
        case rel => 
          refine ⟨k + 1, by omega, by go_num, fun j y hj hy => ?_⟩
          by_cases hjk : j = k
          · subst hjk; rw [HX.out] at hy; cases hy; exact hp
          · exact HN.out j y (by omega) hy
        case measure => simp [intOf]; omega
      · rw [hp] at HC
        go_wp2_with fail
        refine HC.out.mono ?_
        rintro e w' ⟨rfl, rfl⟩
        go_wp2_with fail
        go_ret
        exact ⟨ret_int (idxOf_yes HX.out hp HN.out).symm, rfl⟩
    · go_wp2_with fail
      go_ret
      exact ⟨ret_int (idxOf_no (fun j y hy => HN.out j y (by have := (List.getElem?_eq_some_iff.1 hy).1; omega) hy)).symm, rfl⟩

set_option maxRecDepth 100000 in
set_option maxHeartbeats 1000000 in
theorem Ixint_is {w : World} {a : Option Addr} {xs : List Int} (cap : Nat) (v : Int) (h : Sl w a xs) :
    Calls Try.prog 115 #[.slice a xs.length cap, .int .i64 v] w fun e w' => e = .returned (.int .i64 (idxOf (fun y => v == y) xs)) ∧ w = w' := by
  have hbd := h.bd
  have H := Lib.hid h; clear h
  go_enter Try.func115, Try.ntmps115
  go_wp2_with fail
  go_loop [8] (fun i => ∃ k : Nat, k ≤ xs.length ∧ i = .int .i64 k ∧ ∀ (j : Nat) (y : Int), j < k → xs[j]? = some y → (v == y) = false) (fun i => xs.length - (intOf i).toNat)
  case atStart => exact ⟨0, Nat.zero_le _, rfl, fun j y hj => by omega⟩
  case round =>
    obtain ⟨k, hk, rfl, hno⟩ := hrel
    have HN := Lib.hid hno; clear hno
    by_cases hlt : k < xs.length
    · obtain ⟨b, o, rfl, hc⟩ := H.out.at (by omega)
      have hx : xs[k]? = some xs[k] := List.getElem?_eq_getElem hlt
      have c1 := hc k _ hx
      have HX := Lib.hid hx; clear hx hc
      generalize xs[k] = x at *
      cases hp : (v == x)
      · go_wp2_with fail
        go_round
        case rel =>
          refine ⟨k + 1, by omega, by go_num, fun j y hj hy => ?_⟩
          by_cases hjk : j = k
          · subst hjk; rw [HX.out] at hy; cases hy; exact hp
          · exact HN.out j y (by omega) hy
        case measure => simp [intOf]; omega
      · go_wp2_with fail
        go_ret
        exact ⟨ret_int (idxOf_yes (p := fun y => v == y) HX.out hp HN.out).symm, rfl⟩
    · go_wp2_with fail
      go_ret
      exact ⟨ret_int (idxOf_no (p := fun y => v == y) (fun j y hy => HN.out j y (by have := (List.getElem?_eq_some_iff.1 hy).1; omega) hy)).symm, rfl⟩
theorem idxOf_any (p : Int → Bool) (xs : List Int) : decide (0 ≤ idxOf p xs) = xs.any p := by
  unfold idxOf
  cases hh : xs.findIdx? p with
  | none =>
    have := List.findIdx?_eq_none_iff.1 hh
    have h2 : xs.any p = false := by simpa using this
    rw [h2]; rfl
  | some i =>
    have := List.findIdx?_eq_some_iff_getElem.1 hh
    obtain ⟨hlt, hp, _⟩ := this
    have h2 : xs.any p = true := List.any_eq_true.2 ⟨_, List.getElem_mem hlt, hp⟩
    rw [h2]; simp
set_option maxRecDepth 100000 in
set_option maxHeartbeats 1000000 in
theorem Coint_is {w : World} {a : Option Addr} {xs : List Int} (cap : Nat) (v : Int) (h : Sl w a xs) :
    Calls Try.prog 46 #[.slice a xs.length cap, .int .i64 v] w fun e w' => e = .returned (.bool (xs.any fun y => v == y)) ∧ w = w' := by
  have HI := Ixint_is cap v h
  have hidx := idxOf_any (fun y => v == y) xs
  clear h
  generalize idxOf (fun y => v == y) xs = q at *
  have HQ := Lib.hid hidx; clear hidx
  have HH := Lib.hid HI; clear HI
  go_enter Try.func46, Try.ntmps46
  go_wp2_with fail
  refine HH.out.mono ?_
  rintro e w' ⟨rfl, rfl⟩
  go_wp2_with fail
  go_ret
  exact ⟨ret_bool HQ.out, rfl⟩
set_option maxRecDepth 100000 in
set_option maxHeartbeats 1000000 in
theorem isNaN_is (w : World) (x : Int) : Calls Try.prog 202 #[.int .i64 x] w fun e w' => e = .returned (.bool false) ∧ w = w' := by
  go_enter Try.func202, Try.ntmps202
  go_wp2_with fail
  go_ret
  exact ⟨rfl, rfl⟩
set_option maxRecDepth 100000 in
set_option maxHeartbeats 1000000 in
theorem Less_is (w : World) (x y : Int) : Calls Try.prog 165 #[.int .i64 x, .int .i64 y] w fun e w' => e = .returned (.bool (decide (x < y))) ∧ w = w' := by
  go_enter Try.func165, Try.ntmps165
  go_wp2_with fail
  refine (isNaN_is w x).mono ?_
  rintro e w' ⟨rfl, rfl⟩
  go_wp2_with fail
  go_ret
  exact ⟨rfl, rfl⟩
end
end Go.Proofs.Ytkedpifopclipaa
namespace Go.Proofs.Ytkedpifopclipaa
open Go.RowKit Go.Mem Go.Aig
theorem wf_leaf {ns : List Nd} (hw : WF ns) {n : Nat} {x : Nd} (hx : ns[n]? = some x) (hk : x.k ≠ 3) : x.l = 0 ∧ x.r = 0 ∧ x.d = 0 := by
  rcases Nat.eq_zero_or_pos n with h0 | h0
  · subst h0; rw [hw.const] at hx; cases hx; exact ⟨rfl, rfl, rfl⟩
  · rcases hw.other n x hx h0 with h | h
    · rw [h]; exact ⟨rfl, rfl, rfl⟩
    · exact absurd h.1 hk
theorem wf_kind {ns : List Nd} (hw : WF ns) {n : Nat} {x : Nd} (hx : ns[n]? = some x) : x.k ≤ 3 := by
  rcases Nat.eq_zero_or_pos n with h0 | h0
  · subst h0; rw [hw.const] at hx; cases hx; exact Nat.le_of_lt (by decide)
  · rcases hw.other n x hx h0 with h | h
    · rw [h]; exact Nat.le_of_lt (by decide)
    · omega
theorem slInts : SliceTy Try.prog 23 3 1 8 (.int .i64 0) := ⟨Try.underlying23, infoInt, rfl, by decide⟩
/-- a row that a call grew, and all before it -/
theorem app_step {W0 w W W4 : World} {v v' : Value} (h0 : Ch [] W0 w) (h1 : Ch [] w W) (hlo : ∀ q ∈ v.ownBlock.toList, W0.heap.size ≤ q) (hC : Ch v.ownBlock.toList W W4) (hf : ∀ k, v'.ownBlock = some k → v.ownBlock = some k ∨ W.heap.size ≤ k) :
    Ch [] W0 W4 ∧ ∀ q ∈ v'.ownBlock.toList, W0.heap.size ≤ q := by
  refine ⟨(h0.trans h1 (by simp)).trans hC (fun k hk => .inr (hlo k hk)), fun q hq => ?_⟩
  rcases hf q (by simpa using hq) with e | e
  · exact hlo q (by simpa using e)
  · have := h0.size; have := h1.size; omega
theorem rXor_rok {G : Gra} (h : Ok G) {a b : Nat} (ha : a < 2 * G.nodes.length) (hb : b < 2 * G.nodes.length) : ROk G (rXor G a b) := rMux_rok h ha (neg_lt hb) hb
theorem max_nat' (n k m : Nat) (h : max n k = m) (ats : Array TypeId) (ty : TypeId) : Builtin.max_ ats ty #[.int .i64 (n : Int), .int .i64 (k : Int)] = pure (.int .i64 (m : Int)) := by
  have e : (if (k : Int) > n then (k : Int) else n) = m := by split <;> omega
  rw [← e]
  simp [Builtin.max_, Builtin.max2]
theorem Sl.of_row' {w : World} {e : TypeId} {a : Option Addr} {n cap : Nat} {l : List Nat} (h : row w e 1 (.slice a n cap) n (refsCells l)) (hl : l.length = n) (hn : n ≤ 1000000) : Sl w a (l.map fun (r : Nat) => (r : Int)) := by
  refine ⟨fun i x hx => ?_, by simp; omega⟩
  rw [List.getElem?_map] at hx
  cases hr : l[i]? with
  | none => rw [hr] at hx; cases hx
  | some r =>
    rw [hr] at hx
    simp at hx
    subst hx
    obtain ⟨gb, go, hge, gc⟩ := (row.sv h rfl hn).cells i (.int .i64 r) (by simp [refsCells, hr])
    exact ⟨gb, go, hge, gc⟩
section
/-- what Cut returns -/
def RCut (w : World) (rb : Nat) (R : Gra × Nat) (e : Ending) (w' : World) : Prop := ∃ cap', e = .returned (.tuple #[.agg #[.int .i64 R.1.most, .slice (some ⟨rb, 0, none⟩) R.1.nodes.length cap'], .int .i64 R.2]) ∧ RG w' rb cap' R.1 ∧ Ch [] w w'
set_option maxRecDepth 100000 in
set_option maxHeartbeats 2000000 in
theorem rInputs_is {w : World} {rb cap : Nat} {G : Gra} (h : RG w rb cap G) : Calls Try.prog 168 #[.agg #[.int .i64 G.most, .slice (some ⟨rb, 0, none⟩) G.nodes.length cap]] w fun e w' => ∃ v, e = .returned v ∧ row w' 3 1 v (inputs G.nodes).length (refsCells (inputs G.nodes)) ∧ (∀ q ∈ v.ownBlock.toList, w.heap.size ≤ q) ∧ Ch [] w w' := by
  obtain ⟨hl, hp, hmo⟩ := h.len
  have hle := h.le
  have hmx := h.mx
  have H := Lib.hid h; clear h
  go_enter Try.func168, Try.ntmps168
  go_wp2_with fail
  refine wp_alw ?_
  intro W0 hW0
  have hc0 : Ch [] w W0 := by rw [hW0]; exact (Ch.refl _ _).alloc _
  have b2 : blk W0 w.heap.size [.int .i64 G.most, .slice (some ⟨rb, 0, none⟩) G.nodes.length cap] := by rw [hW0]; exact blk.new' (w := w) [.int .i64 G.most, .slice (some ⟨rb, 0, none⟩) G.nodes.length cap] 122 rfl
  clear hW0
  have hr0 := H.out.ch hc0 (by simp)
  have B2 := Lib.hid b2; clear b2
  have HC0 := Lib.hid hc0; clear hc0
  have HR0 := Lib.hid hr0; clear hr0
  go_loopw [3, 4] (fun o i wr => ∃ k : Nat, k ≤ G.nodes.length ∧ i = .int .i64 k ∧ Ch [] W0 wr ∧ row wr 3 1 o (inputs (G.nodes.take k)).length (refsCells (inputs (G.nodes.take k))) ∧ ∀ q ∈ o.ownBlock.toList, W0.heap.size ≤ q) (fun _ i _ => G.nodes.length - (intOf i).toNat)
  case atStart => exact ⟨0, by omega, rfl, Ch.refl _ _, ⟨rfl, .inl ⟨rfl, rfl⟩⟩, by simp⟩
  case round =>
    obtain ⟨k, hk, rfl, hc, hrow, hlo⟩ := hrel
    obtain ⟨oa, oc, rfl⟩ := row.shape hrow
    have y1 := (B2.out.ch hc (by simp)).cell (i := 1) rfl
    by_cases hlt : k < G.nodes.length
    · obtain ⟨x, hx⟩ : ∃ x, G.nodes[k]? = some x := ⟨_, List.getElem?_eq_getElem hlt⟩
      obtain ⟨c0, c1, c2⟩ := (HR0.out.ch hc (by simp)).node hx
      have hsucc : inputs (G.nodes.take (k + 1)) = inputs (G.nodes.take k) ++ (if x.k = 2 then [2 * k] else []) := by
        have := inputsFrom_split [x] (G.nodes.take k) 0
        unfold inputs
        rw [List.take_add_one, hx]
        simp only [Option.toList_some]
        rw [this]
        have hlen : (G.nodes.take k).length = k := by rw [List.length_take]; omega
        simp only [inputsFrom, hlen, Nat.zero_add]
      have hil : (inputs (G.nodes.take k)).length ≤ k := by
        have key : ∀ (l : List Nd) (n : Nat), (inputsFrom l n).length ≤ l.length := fun l => by
          induction l with
          | nil => intro n; simp [inputsFrom]
          | cons a l ih => intro n; unfold inputsFrom; split <;> simp <;> have := ih (n + 1) <;> omega
        have := key (G.nodes.take k) 0
        rw [List.length_take] at this
        unfold inputs
        omega
      have HSU := Lib.hid hsucc; clear hsucc hx
      have HLO := Lib.hid hlo; clear hlo
      have HC := Lib.hid hc; clear hc
      by_cases h2 : x.k = 2
      · have q : ((x.k : Int) == 2) = true := by simp [h2]
        have hsu := HSU.out
        rw [if_pos h2] at hsu
        have HSU2 := Lib.hid hsu; clear hsu HSU h2
        have hcA : Ch [] wr (wr.alloc (.cells #[.int .i64 (2 * (k : Int))] 3)) := (Ch.refl _ _).alloc _
        have hrA := hrow.ch hcA (by simp)
        have hbA : blk (wr.alloc (.cells #[.int .i64 (2 * (k : Int))] 3)) wr.heap.size [.int .i64 (2 * (k : Int))] := blk.new' _ _ rfl
        have HRA := Lib.hid hrA; clear hrA hrow
        have HBA := Lib.hid hbA; clear hbA
        have HCA := Lib.hid hcA; clear hcA
        generalize inputs (G.nodes.take k) = L at *
        go_wp2_with (at_builtin; go_loud (refine wpList_append_row slInts rfl _ _ rfl (v := .slice oa L.length oc) (n := L.length) (xs := refsCells L) rfl HRA.out (ad := ⟨wr.heap.size, 0, none⟩) (m := 1) (c := 1) (news := [.int .i64 (2 * (k : Int))]) rfl rfl (news_blk HBA.out) (by simp [Value.oneCell']) (by omega) (by omega) ?_; intro v' w4 hown4 hC4 hf4; have HO4 := Lib.hid hown4; clear hown4; have HC4 := Lib.hid hC4; clear hC4; have HF4 := Lib.hid hf4; clear hf4))
        go_roundw
        case rel =>
          obtain ⟨q1, q2⟩ := app_step HC.out HCA.out HLO.out HC4.out HF4.out
          refine ⟨k + 1, by omega, by go_num, q1, ?_, q2⟩
          have := HO4.out
          rw [HSU2.out]
          simpa [refsCells] using this
        case measure => simp [intOf]; omega
      · have q : ((x.k : Int) == 2) = false := by simp; omega
        have hsu := HSU.out
        rw [if_neg h2, List.append_nil] at hsu
        have HSU2 := Lib.hid hsu; clear hsu HSU h2
        have HROW := Lib.hid hrow; clear hrow
        go_wp2_with fail
        go_roundw
        case rel => exact ⟨k + 1, by omega, by go_num, HC.out, by rw [HSU2.out]; exact HROW.out, HLO.out⟩
        case measure => simp [intOf]; omega
    · have hkn : k = G.nodes.length := by omega
      have hrow' := hrow
      rw [hkn, List.take_length] at hrow'
      rw [hkn, List.take_length] at hlo
      have HROW := Lib.hid hrow'
      have HLO := Lib.hid hlo; clear hlo hrow'
      have HC := Lib.hid hc; clear hc hkn
      have hlen : (inputs (G.nodes.take k)).length = (inputs G.nodes).length := by rw [List.take_of_length_le (by omega)]
      rw [hlen]
      clear hlen hrow
      go_wp2_with fail
      go_ret
      exact ⟨.slice oa (inputs G.nodes).length oc, rfl, HROW.out, fun q hq => by have := HLO.out q hq; have := HC0.out.size; omega, HC0.out.trans HC.out (by simp)⟩
end
end Go.Proofs.Ytkedpifopclipaa
namespace Go.Aig
def rAllFrom (G0 : Gra) : Gra → Nat → List Nat → Res
  | now, out, [] => (now, out, 0)
  | now, out, r :: l => if (and now out r).2.2 ≠ 0 then (G0, 0, (and now out r).2.2) else rAllFrom G0 (and now out r).1 (and now out r).2.1 l
def rAll (G : Gra) (l : List Nat) : Res := rAllFrom G G 1 l
def rAny (G : Gra) (l : List Nat) : Res := if (rAll G (l.map neg)).2.2 ≠ 0 then (G, 0, (rAll G (l.map neg)).2.2) else ((rAll G (l.map neg)).1, neg (rAll G (l.map neg)).2.1, 0)
theorem rAllFrom_rok {G0 : Gra} (h0 : Ok G0) : ∀ (l : List Nat) {G : Gra} {out : Nat}, Ok G → Ext G0 G → out < 2 * G.nodes.length → (∀ r ∈ l, r < 2 * G.nodes.length) → ROk G0 (rAllFrom G0 G out l)
  | [], G, out, h, he, ho, _ => ⟨h, he, ho, .inl rfl⟩
  | r :: l, G, out, h, he, ho, hl => by
    have h1 := and_rok h ho (hl r (by simp))
    have := h0.wf.pos
    unfold rAllFrom
    split
    · exact ⟨h0, .refl _, by show 0 < 2 * G0.nodes.length; omega, h1.err⟩
    · exact rAllFrom_rok h0 l h1.ok (he.trans h1.ext) h1.lt (fun x hx => h1.ext.lt (hl x (by simp [hx])))
theorem rAll_rok {G : Gra} (h : Ok G) {l : List Nat} (hl : ∀ r ∈ l, r < 2 * G.nodes.length) : ROk G (rAll G l) := rAllFrom_rok h l h (.refl _) (by have := h.wf.pos; omega) hl
theorem negs_lt {n : Nat} {l : List Nat} (hl : ∀ r ∈ l, r < 2 * n) : ∀ r ∈ l.map neg, r < 2 * n := fun r hr => by
  obtain ⟨q, hq, rfl⟩ := List.mem_map.1 hr
  exact neg_lt (hl q hq)
theorem rAny_rok {G : Gra} (h : Ok G) {l : List Nat} (hl : ∀ r ∈ l, r < 2 * G.nodes.length) : ROk G (rAny G l) := by
  have h1 := rAll_rok h (negs_lt hl)
  have := h.wf.pos
  unfold rAny
  split
  · exact ⟨h, .refl _, by show 0 < 2 * G.nodes.length; omega, h1.err⟩
  · exact ⟨h1.ok, h1.ext, neg_lt h1.lt, .inl rfl⟩
/-- of several, one after the other -/
theorem rAllFrom_step {G0 now : Gra} {out r : Nat} {l : List Nat} : rAllFrom G0 now out (r :: l) = if (and now out r).2.2 ≠ 0 then (G0, 0, (and now out r).2.2) else rAllFrom G0 (and now out r).1 (and now out r).2.1 l := rfl
end Go.Aig
namespace Go.Proofs.Ytkedpifopclipaa
open Go.RowKit Go.Mem Go.Aig
def intCells (l : List Int) : List Value := l.map fun z => .int .i64 z
theorem intCells_nat (l : List Nat) : intCells (l.map fun (r : Nat) => (r : Int)) = refsCells l := by unfold intCells refsCells; rw [List.map_map]; rfl
section
end
end Go.Proofs.Ytkedpifopclipaa
namespace Go.Proofs.Ytkedpifopclipaa
open Go.RowKit Go.Mem Go.Aig
section
end
end Go.Proofs.Ytkedpifopclipaa
namespace Go.Proofs.Ytkedpifopclipaa
open Go.RowKit Go.Mem Go.Aig
section
end
end Go.Proofs.Ytkedpifopclipaa
namespace Go.Aig
def metDown (ns : List Nd) : Nat → List Bool → List Bool
  | 0, met => met
  | n + 1, met => metDown ns n (if met.getD n false = true then stepMet ns met n else met)
theorem metDown_succ (ns : List Nd) (n : Nat) (met : List Bool) : metDown ns (n + 1) met = metDown ns n (if met.getD n false = true then stepMet ns met n else met) := rfl
theorem setMark_far {met : List Bool} {r d : Nat} (h : r / 2 < d) : (setMark met r).getD d false = met.getD d false := by
  unfold setMark
  rw [List.getD_eq_getElem?_getD, List.getD_eq_getElem?_getD, List.getElem?_set, if_neg (by omega)]
theorem stepMet_far {ns : List Nd} (hw : WF ns) {met : List Bool} {n d : Nat} (h : n ≤ d) : (stepMet ns met n).getD d false = met.getD d false := by
  unfold stepMet
  split
  · rename_i x hx
    split
    · rename_i h3
      obtain ⟨s1, s2, s3, s4, _⟩ := hw.sides hx h3
      rw [setMark_far (by omega), setMark_far (by omega)]
    · rfl
  · rfl
theorem metDown_far {ns : List Nd} (hw : WF ns) : ∀ (n : Nat) (met : List Bool) (d : Nat), n ≤ d → (metDown ns n met).getD d false = met.getD d false
  | 0, met, d, _ => rfl
  | n + 1, met, d, h => by
    unfold metDown
    rw [metDown_far hw n _ d (by omega)]
    split
    · exact stepMet_far hw (by omega)
    · rfl
theorem coneFrom_filter {ns : List Nd} (hw : WF ns) : ∀ (n : Nat) (met : List Bool), (coneFrom ns n met).reverse = (List.range n).filter fun d => (metDown ns n met).getD d false
  | 0, _ => rfl
  | n + 1, met => by
    unfold coneFrom metDown
    rw [List.range_succ, List.filter_append]
    by_cases h : met.getD n false = true
    · rw [if_pos h, if_pos h, List.reverse_cons, coneFrom_filter hw n]
      have := metDown_far hw n (stepMet ns met n) n (Nat.le_refl _)
      rw [stepMet_far hw (Nat.le_refl _), h] at this
      simp only [List.filter_cons, this, if_true, List.filter_nil]
    · rw [if_neg h, if_neg h, coneFrom_filter hw n]
      have := metDown_far hw n met n (Nat.le_refl _)
      rw [show met.getD n false = false by simpa using h] at this
      have e : List.filter (fun d => (metDown ns n met).getD d false) [n] = [] := by simp only [List.filter_cons, this, List.filter_nil]; rfl
      rw [e, List.append_nil]
theorem cone_filter {ns : List Nd} (hw : WF ns) (l : List Nat) : cone ns l = (List.range ns.length).filter fun d => (metDown ns ns.length (met0 ns.length l)).getD d false := by
  unfold cone coneDown
  exact coneFrom_filter hw _ _
theorem stepMet_len' (ns : List Nd) (met : List Bool) (n : Nat) : (stepMet ns met n).length = met.length := by
  unfold stepMet
  (repeat' split) <;> first | rfl | (rw [setMark_len, setMark_len])
theorem metDown_len (ns : List Nd) : ∀ (n : Nat) (met : List Bool), (metDown ns n met).length = met.length
  | 0, _ => rfl
  | n + 1, met => by
    unfold metDown
    rw [metDown_len ns n]
    split
    · exact stepMet_len' ns met n
    · rfl
end Go.Aig
namespace Go.Proofs.Ytkedpifopclipaa
open Go.RowKit Go.Mem Go.Aig
def metCells (met : List Bool) : List Value := met.map fun b => .int .i64 (if b then 1 else 0)
theorem metCells_get {met : List Bool} {i : Nat} (h : i < met.length) : (metCells met)[i]? = some (.int .i64 (if met.getD i false = true then 1 else 0)) := by
  unfold metCells
  rw [List.getElem?_map, List.getElem?_eq_getElem h, List.getD_eq_getElem?_getD, List.getElem?_eq_getElem h]
  rfl
theorem metCells_set (met : List Bool) (r : Nat) : (metCells met).set (r / 2) (.int .i64 1) = metCells (setMark met r) := by
  unfold metCells setMark
  rw [List.map_set]
  rfl
theorem metCells_len (met : List Bool) : (metCells met).length = met.length := by simp [metCells]
theorem run_make_ints (w : World) (n : Nat) (hn : n ≤ 65536) : (Instr.makeSlice 23 (.int .i64 n) (.int .i64 n)).run Try.prog w = .ok (.slice (some ⟨w.heap.size, 0, none⟩) n n) (w.alloc (.cells (metCells (List.replicate n false)).toArray 3)) := by
  obtain ⟨i, hi, hz, hs, hb⟩ := info_parts infoInt
  have := run_make (P := Try.prog) w 23 3 i (.int .i64 0) Try.underlying23 hi hz .i64 .i64 n n (by omega) (by omega) (by rw [hb]; omega) (by omega)
  rw [this, hs]
  have e : madeCells (Value.int .i64 0).cells ((n : Int).toNat * 1) = (metCells (List.replicate n false)).toArray := by
    apply Array.ext'
    have h := toList_madeCells_one (Value.int .i64 0) ((n : Int).toNat * 1)
    simpa [metCells, Value.cells] using h
  rw [e]; simp
section
set_option maxRecDepth 100000 in
set_option maxHeartbeats 4000000 in
theorem rCone_is {w : World} {rb cap : Nat} {G : Gra} (h : RG w rb cap G) {a : Option Addr} {l : List Nat} (n acap : Nat) (hn : l.length = n) (hs : Sl w a (l.map fun (r : Nat) => (r : Int))) (hr : ∀ r ∈ l, r < 2 * G.nodes.length) (hm : n ≤ 1000000) :
    Calls Try.prog 200 #[.agg #[.int .i64 G.most, .slice (some ⟨rb, 0, none⟩) G.nodes.length cap], .slice a n acap] w fun e w' => ∃ v, e = .returned v ∧ row w' 3 1 v (cone G.nodes l).length (refsCells (cone G.nodes l)) ∧ (∀ q ∈ v.ownBlock.toList, w.heap.size ≤ q) ∧ Ch [] w w' := by
  subst hn
  obtain ⟨hl, hp, hmo⟩ := h.len
  have hle := h.le
  have hmx := h.mx
  have hrb := h.lt
  have HWF := Lib.hid h.ok.wf
  rw [cone_filter h.ok.wf l]
  have HS := Lib.hid hs; clear hs
  have HR := Lib.hid hr; clear hr
  have H := Lib.hid h; clear h
  have hmk := run_make_ints (w.alloc (.cells #[.int .i64 G.most, .slice (some ⟨rb, 0, none⟩) G.nodes.length cap] 122)) G.nodes.length hl
  go_enter Try.func200, Try.ntmps200
  go_wp2_with fail
  clear hmk
  refine wp_alw ?_
  intro W0 hW0
  have hc0 : Ch [] w W0 := by rw [hW0]; exact ((Ch.refl _ _).alloc _).alloc _
  have b2 : blk W0 w.heap.size [.int .i64 G.most, .slice (some ⟨rb, 0, none⟩) G.nodes.length cap] := by rw [hW0]; exact (blk.new' (w := w) [.int .i64 G.most, .slice (some ⟨rb, 0, none⟩) G.nodes.length cap] 122 rfl).alloc _
  have bm : blk W0 (w.heap.size + 1) (metCells (List.replicate G.nodes.length false)) := by rw [hW0]; exact blk.new' (metCells (List.replicate G.nodes.length false)) 3 (by simp)
  clear hW0
  have hr0 := H.out.ch hc0 (by simp)
  have B2 := Lib.hid b2; clear b2
  have BM := Lib.hid bm; clear bm
  have HC0 := Lib.hid hc0; clear hc0
  have HR0 := Lib.hid hr0; clear hr0
  go_loopw [6] (fun i wr => ∃ k : Nat, k ≤ l.length ∧ i = .int .i64 k ∧ Ch [w.heap.size + 1] W0 wr ∧ blk wr (w.heap.size + 1) (metCells ((l.take k).foldl setMark (List.replicate G.nodes.length false)))) (fun i _ => l.length - (intOf i).toNat)
  case atStart => exact ⟨0, by omega, rfl, Ch.refl _ _, BM.out⟩
  case round =>
    clear BM
    obtain ⟨k, hk, rfl, hc, hbm⟩ := hrel
    by_cases hlt : k < l.length
    · obtain ⟨r, hx⟩ : ∃ r, l[k]? = some r := ⟨_, List.getElem?_eq_getElem hlt⟩
      have hrm := HR.out r (List.mem_of_getElem? hx)
      obtain ⟨xb, xo, rfl, hcl⟩ := HS.out.cells k r (by rw [List.getElem?_map, hx]; rfl)
      have hxb : xb < w.heap.size := cell_lt hcl
      have c0 := ((HC0.out.trans hc (fun k hk => .inr (by simp at hk; omega))).cell (F := []) (p := ⟨xb, xo + k, none⟩) hxb (by simp)).trans hcl
      have hfs : (l.take (k + 1)).foldl setMark (List.replicate G.nodes.length false) = setMark ((l.take k).foldl setMark (List.replicate G.nodes.length false)) r := by rw [List.take_add_one, hx]; simp
      have hml : ((l.take k).foldl setMark (List.replicate G.nodes.length false)).length = G.nodes.length := by rw [foldl_mark_len, List.length_replicate]
      have hfs' := hbm.set (i := r / 2) (.int .i64 1)
      rw [metCells_set, ← hfs] at hfs'
      have hold := hbm.cell (metCells_get (i := r / 2) (by rw [hml]; omega))
      have hfz := hbm.frozen (i := r / 2)
      have HB := Lib.hid hfs'; clear hfs' hfs hbm hml hx hcl
      generalize (if ((l.take k).foldl setMark (List.replicate G.nodes.length false)).getD (r / 2) false = true then (1 : Int) else 0) = ov at *
      have HC := Lib.hid hc; clear hc
      have j1 : (r : Int) / 2 < (G.nodes.length : Int) := by omega
      go_wp2_with fail
      go_roundw
      case rel => exact ⟨k + 1, by omega, by go_num, HC.out.setCell (by simp) _, HB.out⟩
      case measure => simp [intOf]; omega
    · have hkn : k = l.length := by omega
      rw [hkn, List.take_of_length_le (Nat.le_refl _)] at hbm
      rw [hkn]
      have hml : (l.foldl setMark (List.replicate G.nodes.length false)).length = G.nodes.length := by rw [foldl_mark_len, List.length_replicate]
      have hMM : l.foldl setMark (List.replicate G.nodes.length false) = met0 G.nodes.length l := rfl
      rw [hMM] at hbm hml
      generalize hM1 : met0 G.nodes.length l = M1 at *
      have HM1 := Lib.hid hM1; clear hM1
      have HB := Lib.hid hbm; clear hbm
      have HC := Lib.hid hc; clear hc
      have HML := Lib.hid hml; clear hml hMM hkn hlt hk
      go_wp2_with fail
      go_loopw [7] (fun i wx => ∃ j : Nat, j ≤ G.nodes.length ∧ i = .int .i64 ((j : Int) - 1) ∧ ∃ met, met.length = G.nodes.length ∧ metDown G.nodes j met = metDown G.nodes G.nodes.length M1 ∧ Ch [w.heap.size + 1] W0 wx ∧ blk wx (w.heap.size + 1) (metCells met)) (fun i _ => (intOf i + 1).toNat)
      case atStart => exact ⟨G.nodes.length, Nat.le_refl _, rfl, M1, HML.out, rfl, HC.out, HB.out⟩
      case round =>
        clear HB HC HML
        obtain ⟨j, hj, rfl, met, hml, hmd, hc, hbm⟩ := hrel
        by_cases hj1 : 1 ≤ j
        · obtain ⟨i, rfl⟩ : ∃ i, j = i + 1 := ⟨j - 1, by omega⟩
          clear hj1
          rw [show ((i + 1 : Nat) : Int) - 1 = (i : Int) by omega]
          obtain ⟨x, hx⟩ : ∃ x, G.nodes[i]? = some x := ⟨_, List.getElem?_eq_getElem (by omega)⟩
          obtain ⟨c0, c1, c2⟩ := (HR0.out.ch hc (by simp; omega)).node hx
          have y1 := (B2.out.ch hc (by simp)).cell (i := 1) rfl
          have m0 := hbm.cell (metCells_get (i := i) (by rw [hml]; omega))
          rw [metDown_succ] at hmd
          have HC := Lib.hid hc; clear hc
          have hbn := hbm.lt
          by_cases hmi : met.getD i false = true
          · rw [if_pos hmi] at m0 hmd
            clear hmi
            by_cases h3 : x.k = 3
            · obtain ⟨s1, s2, s3, s4, s5⟩ := HWF.out.sides hx h3
              have q : ((x.k : Int) == 3) = true := by simp [h3]
              have hst : stepMet G.nodes met i = setMark (setMark met x.l) x.r := by unfold stepMet; rw [hx]; simp [h3]
              rw [hst] at hmd
              have HMD := Lib.hid hmd; clear hmd hst s5 h3 hx
              have hb2 := hbm.set (i := x.l / 2) (.int .i64 1)
              rw [metCells_set] at hb2
              have hb3 := hb2.set (i := x.r / 2) (.int .i64 1)
              rw [metCells_set] at hb3
              replace hb3 := hb3.alloc (.cells #[.int .i64 x.k, .int .i64 x.l, .int .i64 x.r] 229)
              have o1 := hbm.cell (metCells_get (i := x.l / 2) (by rw [hml]; omega))
              have o2 := hbm.cell (metCells_get (i := x.r / 2) (by rw [hml]; omega))
              have z1 := hbm.frozen (i := x.l / 2)
              have z2 := hbm.frozen (i := x.r / 2)
              have hml3 : (setMark (setMark met x.l) x.r).length = G.nodes.length := by rw [setMark_len, setMark_len, hml]
              have HB3 := Lib.hid hb3; clear hb3 hb2 hbm
              have HML := Lib.hid hml3; clear hml3 hml
              generalize (if met.getD (x.l / 2) false = true then (1 : Int) else 0) = ov1 at *
              generalize (if met.getD (x.r / 2) false = true then (1 : Int) else 0) = ov2 at *
              have j1 : (x.l : Int) / 2 < (G.nodes.length : Int) := by omega
              have j2 : (x.r : Int) / 2 < (G.nodes.length : Int) := by omega
              go_wp2_with fail
              go_roundw
              case rel => exact ⟨i, by omega, rfl, _, HML.out, HMD.out, (((HC.out.setCell (by simp) _).setCell (by simp) _).alloc _), HB3.out⟩
              case measure => simp [intOf]
            · have q : ((x.k : Int) == 3) = false := by simp; omega
              have hst : stepMet G.nodes met i = met := by unfold stepMet; rw [hx]; simp [h3]
              rw [hst] at hmd
              have HMD := Lib.hid hmd; clear hmd hst h3 hx
              have HML := Lib.hid hml; clear hml
              have HB := Lib.hid hbm; clear hbm
              go_wp2_with fail
              go_roundw
              case rel => exact ⟨i, by omega, rfl, _, HML.out, HMD.out, HC.out.alloc _, HB.out.alloc _⟩
              case measure => simp [intOf]
          · rw [if_neg hmi] at m0 hmd
            clear hmi hx
            have HMD := Lib.hid hmd; clear hmd
            have HML := Lib.hid hml; clear hml
            have HB := Lib.hid hbm; clear hbm
            go_wp2_with fail
            go_roundw
            case rel => exact ⟨i, by omega, rfl, _, HML.out, HMD.out, HC.out.alloc _, HB.out.alloc _⟩
            case measure => simp [intOf]
        · have hj0 : j = 0 := by omega
          rw [hj0] at hmd
          rw [hj0, show ((0 : Nat) : Int) - 1 = -1 from rfl]
          clear hj0 hj1 hj
          change met = _ at hmd
          have HB := Lib.hid hbm; clear hbm
          have HC := Lib.hid hc; clear hc
          have HML := Lib.hid hml; clear hml
          have HMD := Lib.hid hmd; clear hmd
          have hcs := HC.out.size
          obtain ⟨wx, rfl⟩ : ∃ wx : World, wx = wr := ⟨_, rfl⟩
          go_wp2_with fail
          go_loopw [9, 10] (fun o i wr => ∃ k : Nat, k ≤ G.nodes.length ∧ i = .int .i64 k ∧ Ch [] wx wr ∧ row wr 3 1 o ((List.range k).filter fun d => met.getD d false).length (refsCells ((List.range k).filter fun d => met.getD d false)) ∧ ∀ q ∈ o.ownBlock.toList, wx.heap.size ≤ q) (fun _ i _ => G.nodes.length - (intOf i).toNat)
          case atStart => exact ⟨0, by omega, rfl, Ch.refl _ _, ⟨rfl, .inl ⟨rfl, rfl⟩⟩, by simp⟩
          case round =>
            obtain ⟨k, hk, rfl, hc, hrow, hlo⟩ := hrel
            obtain ⟨oa, oc, rfl⟩ := row.shape hrow
            by_cases hlt : k < G.nodes.length
            · have m0 := (HB.out.ch hc (by simp)).cell (metCells_get (i := k) (by rw [HML.out]; omega))
              have hil : ((List.range k).filter fun d => met.getD d false).length ≤ k := by
                have := List.length_filter_le (fun d => met.getD d false) (List.range k)
                simpa using this
              have hsu : (List.range (k + 1)).filter (fun d => met.getD d false) = (List.range k).filter (fun d => met.getD d false) ++ (if met.getD k false = true then [k] else []) := by
                rw [List.range_succ, List.filter_append]
                congr 1
                by_cases h : met.getD k false = true
                · simp only [List.filter_cons, h, if_true, List.filter_nil]
                · rw [if_neg h]; simp only [List.filter_cons, List.filter_nil]; simp at h; simp [h]
              have HSU := Lib.hid hsu; clear hsu
              have HLO := Lib.hid hlo; clear hlo
              have HC5 := Lib.hid hc; clear hc
              by_cases hmi : met.getD k false = true
              · rw [if_pos hmi] at m0
                have hsu := HSU.out
                rw [if_pos hmi] at hsu
                have HSU2 := Lib.hid hsu; clear hsu HSU hmi
                have hcA : Ch [] wr (wr.alloc (.cells #[.int .i64 k] 3)) := (Ch.refl _ _).alloc _
                have hrA := hrow.ch hcA (by simp)
                have hbA : blk (wr.alloc (.cells #[.int .i64 k] 3)) wr.heap.size [.int .i64 k] := blk.new' _ _ rfl
                have HRA := Lib.hid hrA; clear hrA hrow
                have HBA := Lib.hid hbA; clear hbA
                have HCA := Lib.hid hcA; clear hcA
                generalize (List.range k).filter (fun d => met.getD d false) = L at *
                go_wp2_with (at_builtin; go_loud (refine wpList_append_row slInts rfl _ _ rfl (v := .slice oa L.length oc) (n := L.length) (xs := refsCells L) rfl HRA.out (ad := ⟨wr.heap.size, 0, none⟩) (m := 1) (c := 1) (news := [.int .i64 k]) rfl rfl (news_blk HBA.out) (by simp [Value.oneCell']) (by omega) (by omega) ?_; intro v' w4 hown4 hC4 hf4; have HO4 := Lib.hid hown4; clear hown4; have HC4 := Lib.hid hC4; clear hC4; have HF4 := Lib.hid hf4; clear hf4))
                go_roundw
                case rel =>
                  obtain ⟨q1, q2⟩ := app_step HC5.out HCA.out HLO.out HC4.out HF4.out
                  refine ⟨k + 1, by omega, by go_num, q1, ?_, q2⟩
                  have := HO4.out
                  rw [HSU2.out]
                  simpa [refsCells] using this
                case measure => simp [intOf]; omega
              · rw [if_neg hmi] at m0
                have hsu := HSU.out
                rw [if_neg hmi, List.append_nil] at hsu
                have HSU2 := Lib.hid hsu; clear hsu HSU hmi
                have HROW := Lib.hid hrow; clear hrow
                go_wp2_with fail
                go_roundw
                case rel => exact ⟨k + 1, by omega, by go_num, HC5.out, by rw [HSU2.out]; exact HROW.out, HLO.out⟩
                case measure => simp [intOf]; omega
            · have hkn : k = G.nodes.length := by omega
              rw [hkn] at hrow hlo
              rw [hkn]
              have HROW := Lib.hid hrow; clear hrow
              have HLO := Lib.hid hlo; clear hlo
              have HC5 := Lib.hid hc; clear hc hkn
              go_wp2_with fail
              go_ret
              have hs0 := HC0.out.size
              rw [HM1.out, ← HMD.out]
              refine ⟨.slice oa ((List.range G.nodes.length).filter fun d => met.getD d false).length oc, rfl, HROW.out, fun q hq => by have := HLO.out q hq; omega, (HC0.out.trans HC.out (fun k hk => .inr (by simp at hk; omega))).trans HC5.out (by simp)⟩
end
end Go.Proofs.Ytkedpifopclipaa
namespace Go.Proofs.Ytkedpifopclipaa
open Go.RowKit Go.Mem Go.Aig
section
set_option maxRecDepth 100000 in
set_option maxHeartbeats 400000 in
theorem rNotI (w : World) (r : Int) (h0 : -1000000 ≤ r) (h1 : r ≤ 1000000) : Calls Try.prog 199 #[.int .i64 r] w fun e w' => e = .returned (.int .i64 (negI r)) ∧ w = w' := by
  by_cases h : r % 2 = 0
  · have e : negI r = r + 1 := by unfold negI; rw [if_pos h]
    have q : (r.tmod 2 == 0) = true := by
      have : r.tmod 2 = 0 := Int.tmod_eq_zero_of_dvd (Int.dvd_of_emod_eq_zero h)
      simp [this]
    rw [e]
    clear e h
    go_enter Try.func199, Try.ntmps199
    go_wp2_with fail
    go_ret
    exact ⟨rfl, rfl⟩
  · have e : negI r = r - 1 := by unfold negI; rw [if_neg h]
    have q : (r.tmod 2 == 0) = false := by
      have : r.tmod 2 ≠ 0 := fun h2 => h (Int.emod_eq_zero_of_dvd (Int.dvd_of_tmod_eq_zero h2))
      simp [this]
    rw [e]
    clear e h
    go_enter Try.func199, Try.ntmps199
    go_wp2_with fail
    go_ret
    exact ⟨rfl, rfl⟩
end
theorem negI_negI (x : Int) : negI (negI x) = x := by unfold negI; (repeat' split) <;> omega
theorem negI_bd {x : Int} {a b : Int} (h0 : a ≤ x) (h1 : x ≤ b) : a - 1 ≤ negI x ∧ negI x ≤ b + 1 := by unfold negI; split <;> omega
/-- what a graph tells of a reference of its node n -/
structure TellsOf (ns : List Nd) (q : Int) (x : Nd) : Prop where
  right : right ns q = true
  l : lOf ns q = x.l
  r : rOf ns q = x.r
  is : isAndAt ns q = (x.k == 3)
  kind : kindOf ns q = x.k
  dep : depthOf ns q = x.d
  err : depthErr ns q = 0
theorem tells_yes {ns : List Nd} (hw : WF ns) {n : Nat} {x : Nd} (hx : ns[n]? = some x) {r : Int} (h1 : 2 * (n : Int) ≤ r) (h2 : r ≤ 2 * n + 1) : TellsOf ns r x := by
  have hn : nodeAt ns r = some x := by
    unfold nodeAt
    rw [if_pos (by omega), show r.toNat / 2 = n by omega, hx]
  refine ⟨by rw [nodeAt_right, hn]; rfl, ?_, ?_, ?_, ?_, ?_, ?_⟩
  · unfold lOf; rw [hn]; show (if x.k = 3 then x.l else 0) = x.l
    split
    · rfl
    · rename_i hk; exact (wf_leaf hw hx hk).1.symm
  · unfold rOf; rw [hn]; show (if x.k = 3 then x.r else 0) = x.r
    split
    · rfl
    · rename_i hk; exact (wf_leaf hw hx hk).2.1.symm
  · unfold isAndAt kindOf; rw [hn]
  · unfold kindOf; rw [hn]
  · unfold depthOf; rw [hn]
  · unfold depthErr; rw [hn]
structure TellsNo (ns : List Nd) (q : Int) : Prop where
  right : right ns q = false
  l : lOf ns q = 0
  r : rOf ns q = 0
  is : isAndAt ns q = false
  kind : kindOf ns q = 0
  dep : depthOf ns q = 0
  err : depthErr ns q = 200
theorem tells_no {ns : List Nd} {r : Int} (h : r < 0 ∨ 2 * (ns.length : Int) ≤ r) : TellsNo ns r := by
  have hn : nodeAt ns r = none := by
    unfold nodeAt
    split
    · rw [List.getElem?_eq_none_iff]; omega
    · rfl
  refine ⟨by rw [nodeAt_right, hn]; rfl, ?_, ?_, ?_, ?_, ?_, ?_⟩
  · unfold lOf; rw [hn]
  · unfold rOf; rw [hn]
  · unfold isAndAt kindOf; rw [hn]; rfl
  · unfold kindOf; rw [hn]
  · unfold depthOf; rw [hn]
  · unfold depthErr; rw [hn]
theorem Sl.of_ints {w : World} {e : TypeId} {a : Option Addr} {n cap : Nat} {l : List Int} (h : row w e 1 (.slice a n cap) n (intCells l)) (hn : n ≤ 1000000) : Sl w a l := by
  have hlen : l.length = n := by have := h.1; simpa [intCells] using this
  refine ⟨fun i x hx => ?_, by omega⟩
  obtain ⟨gb, go, hge, gc⟩ := (row.sv h rfl hn).cells i (.int .i64 x) (by simp [intCells, hx])
  exact ⟨gb, go, hge, gc⟩
/-- what a graph tells, at a world that a world has become -/
theorem Room_i {w : World} {g : Nat} {G : Gra} {F : List Nat} (h : GIn w g G F) : Calls Try.prog 60 #[.pointer (some ⟨g, 0, none⟩)] w fun e w' => e = .returned (.int .i64 ((G.most : Int) - (G.nodes.length : Int))) ∧ Ch [] w w' := by
  have := h.ok.room
  have e : (G.most : Int) - (G.nodes.length : Int) = ((G.most - G.nodes.length : Nat) : Int) := by omega
  rw [e]
  exact Room_g h
theorem Eqref_same {w : World} {a b : Option Addr} {n : Nat} {l : List Int} (ca cb : Nat) (hn : l.length = n) (hx : Sl w a l) (hy : Sl w b l) : Calls Try.prog 59 #[.slice a n ca, .slice b n cb] w fun e w' => e = .returned (.bool true) ∧ Ch [] w w' := by
  subst hn
  have := Eqref_is ca cb hx hy
  rw [decide_eq_true rfl] at this
  exact this
theorem Eqint_same {w : World} {a b : Option Addr} {n : Nat} {l : List Int} (ca cb : Nat) (hn : l.length = n) (hx : Sl w a l) (hy : Sl w b l) : Calls Try.prog 101 #[.slice a n ca, .slice b n cb] w fun e w' => e = .returned (.bool true) ∧ Ch [] w w' := by
  subst hn
  have := Eqint_is ca cb hx hy
  rw [decide_eq_true rfl] at this
  exact this
end Go.Proofs.Ytkedpifopclipaa
namespace Go.Proofs.Ytkedpifopclipaa
open Go.RowKit Go.Mem Go.Aig
theorem Cone_bad {w : World} {g : Nat} {G : Gra} {F : List Nat} (h : GIn w g G F) {a : Option Addr} {l : List Int} (n cap : Nat) (hn : l.length = n) (hl : Sl w a l) (hlb : ∀ x ∈ l, x ≤ 9223372036854775807) (halt : ∀ p, a = some p → p.block < w.heap.size) (hany : (l.any fun x => !right G.nodes x) = true) :
    Calls Try.prog 18 #[.pointer (some ⟨g, 0, none⟩), .slice a n cap] w fun e w' => e = .returned (.tuple #[.slice none 0 0, .int .i64 200]) ∧ Ch [] w w' := by
  subst hn
  obtain ⟨_, _, _, _, h, rfl⟩ := h
  exact Cone_no h cap hl hlb halt hany
theorem row_blk {w : World} {e : TypeId} {a : Option Addr} {n m c : Nat} {xs : List Value} (h : row w e 1 (.slice a m c) n xs) : ∀ k, k < n → ∃ (ib : Nat) (ys : List Value), a = some ⟨ib, 0, none⟩ ∧ blk w ib ys ∧ n ≤ ys.length := by
  intro k hk
  rcases h.2 with ⟨_, h0⟩ | ⟨g', cap', cur, e1, _, hh, h1, h2, h3, _⟩
  · omega
  · cases e1
    exact ⟨g', cur.toList, rfl, ⟨e, by simpa using hh⟩, by simp; omega⟩
section
end
end Go.Proofs.Ytkedpifopclipaa
namespace Go.Aig
theorem and_err {G : Gra} {a b : Nat} (h : (and G a b).2.2 ≠ 0) : and G a b = (G, 0, (and G a b).2.2) := by
  unfold and at h ⊢
  split
  · rename_i r hi; rw [hi] at h; exact absurd rfl h
  · rename_i l r hi
    rw [hi] at h
    dsimp only at h
    cases hf : findAnd G.nodes l r with
    | some n => rw [hf] at h; exact absurd rfl h
    | none =>
      rw [hf] at h
      dsimp only at h ⊢
      unfold put at h ⊢
      split
      · rfl
      · rename_i hm; rw [if_neg hm] at h; exact absurd rfl h
theorem any_no {ns : List Nd} {l : List Int} (h : ∀ x ∈ l, right ns x = true) : (l.any fun r => !right ns r) = false := by
  rw [List.any_eq_false]
  intro x hx
  rw [h x hx]; simp
theorem whole_ok {G : Gra} {l : List Int} (h : ∀ x ∈ l, right G.nodes x = true) (f : Mk → Mk × Nat) : whole G l f = if (f (G, 0)).1.2 ≠ 0 then (G, 0, (f (G, 0)).1.2) else ((f (G, 0)).1.1, (f (G, 0)).2, 0) := by
  unfold whole
  rw [any_no h, if_neg (by simp)]
theorem whole_no {G : Gra} {l : List Int} {x : Int} (hx : x ∈ l) (h : right G.nodes x = false) (f : Mk → Mk × Nat) : whole G l f = (G, 0, 200) := by
  unfold whole
  rw [if_pos]
  rw [List.any_eq_true]
  exact ⟨x, hx, by rw [h]; rfl⟩
theorem mand_zero (G : Gra) (a b : Nat) : mand (G, 0) a b = (((and G a b).1, (and G a b).2.2), (and G a b).2.1) := by unfold mand; rw [if_neg (by simp)]
theorem mand_bad {s : Mk} (h : s.2 ≠ 0) (a b : Nat) : mand s a b = (s, 0) := by unfold mand; rw [if_pos h]
theorem mand_fine {s : Mk} (h : s.2 = 0) (a b : Nat) : mand s a b = (((and s.1 a b).1, (and s.1 a b).2.2), (and s.1 a b).2.1) := by unfold mand; rw [if_neg (by simp [h])]
theorem whole_and {G : Gra} {l : List Int} (h : ∀ x ∈ l, right G.nodes x = true) (a b : Nat) : whole G l (fun s => mand s a b) = and G a b := by
  rw [whole_ok h, mand_zero]
  dsimp only
  split
  · rename_i he; exact (and_err he).symm
  · rename_i he
    simp only [ne_eq, Decidable.not_not] at he
    rw [← he]
theorem whole_or {G : Gra} {l : List Int} (h : ∀ x ∈ l, right G.nodes x = true) (a b : Nat) : whole G l (fun s => mor s a b) = rOr G a b := by
  rw [whole_ok h]
  unfold mor rOr
  rw [mand_zero]
theorem mall_bad : ∀ (l : List Nat) {s : Mk} (out : Nat), s.2 ≠ 0 → (mall s out l).1 = s
  | [], _, _, _ => rfl
  | r :: l, s, out, h => by
    unfold mall
    rw [mand_bad h]
    exact mall_bad l 0 h
theorem mall_from (G0 : Gra) : ∀ (l : List Nat) (G : Gra) (out : Nat), (if (mall (G, 0) out l).1.2 ≠ 0 then (G0, 0, (mall (G, 0) out l).1.2) else ((mall (G, 0) out l).1.1, (mall (G, 0) out l).2, 0) : Res) = rAllFrom G0 G out l
  | [], G, out => by simp [mall, rAllFrom]
  | r :: l, G, out => by
    unfold mall rAllFrom
    rw [mand_zero]
    dsimp only
    by_cases he : (and G out r).2.2 ≠ 0
    · rw [if_pos he]
      rw [mall_bad l _ (s := ((and G out r).1, (and G out r).2.2)) he, if_pos he]
    · rw [if_neg he]
      have he' : (and G out r).2.2 = 0 := by simpa using he
      rw [he']
      exact mall_from G0 l _ _
theorem whole_all {G : Gra} {l : List Int} (h : ∀ x ∈ l, right G.nodes x = true) (ns : List Nat) : whole G l (fun s => mall s 1 ns) = rAll G ns := by
  rw [whole_ok h]
  exact mall_from G ns G 1
theorem whole_any {G : Gra} {l : List Int} (h : ∀ x ∈ l, right G.nodes x = true) (ns : List Nat) : whole G l (fun s => many s ns) = rAny G ns := by
  rw [whole_ok h]
  unfold many rAny rAll
  rw [← mall_from G (ns.map neg) G 1]
  by_cases he : (mall (G, 0) 1 (ns.map neg)).1.2 ≠ 0
  · simp only [if_pos he]
  · simp only [if_neg he]; simp
theorem whole_mux {G : Gra} {l : List Int} (h : ∀ x ∈ l, right G.nodes x = true) (c a b : Nat) : whole G l (fun s => mmux s c a b) = rMux G c a b := by
  rw [whole_ok h]
  unfold mmux rMux mor
  dsimp only
  rw [mand_zero]
  dsimp only
  generalize and G c a = X
  unfold rThen
  by_cases h1 : X.2.2 ≠ 0
  · rw [if_pos h1]
    simp only [mand_bad (s := (X.1, X.2.2)) h1]
    rw [if_pos h1]
  · rw [if_neg h1]
    have e1 : X.2.2 = 0 := by simpa using h1
    simp only [mand_fine (s := (X.1, X.2.2)) e1]
    generalize and X.1 (neg c) b = Y
    by_cases h2 : Y.2.2 ≠ 0
    · rw [if_pos h2]
      simp only [mand_bad (s := (Y.1, Y.2.2)) h2]
      rw [if_pos h2]
    · rw [if_neg h2]
      have e2 : Y.2.2 = 0 := by simpa using h2
      simp only [mand_fine (s := (Y.1, Y.2.2)) e2]
      unfold rOr
      by_cases h3 : (and Y.1 (neg X.2.1) (neg Y.2.1)).2.2 ≠ 0
      · simp only [if_pos h3]
      · simp only [if_neg h3]; simp
theorem right_nat {ns : List Nd} {x : Int} (h : right ns x = true) : ∃ r : Nat, x = r ∧ r < 2 * ns.length := by
  unfold right at h
  have := of_decide_eq_true h
  exact ⟨x.toNat, by omega, by omega⟩
theorem rights_nat {ns : List Nd} : ∀ {l : List Int}, (∀ x ∈ l, right ns x = true) → l = (l.map Int.toNat).map (fun (r : Nat) => (r : Int)) ∧ ∀ r ∈ l.map Int.toNat, r < 2 * ns.length
  | [], _ => ⟨rfl, by simp⟩
  | x :: l, h => by
    obtain ⟨r, rfl, hr⟩ := right_nat (h x (by simp))
    obtain ⟨h1, h2⟩ := rights_nat (l := l) (fun y hy => h y (by simp [hy]))
    refine ⟨by simp only [List.map_cons, Int.toNat_natCast]; rw [← h1], fun q hq => ?_⟩
    simp only [List.map_cons, Int.toNat_natCast, List.mem_cons] at hq
    rcases hq with rfl | hq
    · exact hr
    · exact h2 q hq
end Go.Aig
namespace Go.Proofs.Ytkedpifopclipaa
open Go.RowKit Go.Mem Go.Aig
section
set_option maxRecDepth 100000 in
set_option maxHeartbeats 1000000 in
theorem IFint_ch {w : World} {a : Option Addr} {xs : List Int} (cap fid : Nat) (caps : Array Value) (p : Int → Bool) (h : Sl w a xs) (hf : ∀ W, Ch [] w W → ∀ x ∈ xs, Calls Try.prog fid (#[.int .i64 x] ++ caps) W fun e w' => e = .returned (.bool (p x)) ∧ Ch [] W w')
    (hfn : Fnv fid) :
    Calls Try.prog 89 #[.slice a xs.length cap, .func (.func fid) #[] caps] w fun e w' => e = .returned (.int .i64 (idxOf p xs)) ∧ Ch [] w w' := by
  have hbd := h.bd
  have hcf : ∀ (args : Array Value) (w : World), (callFunc fid args).run Try.prog w = .ok (.enter fid args) w := hfn
  have HF := Lib.hid hf; clear hf
  have H := Lib.hid h; clear h
  go_enter Try.func89, Try.ntmps89
  go_wp2_with fail
  go_loopw [8] (fun i wr => ∃ k : Nat, k ≤ xs.length ∧ i = .int .i64 k ∧ Ch [] w wr ∧ ∀ (j : Nat) (y : Int), j < k → xs[j]? = some y → p y = false) (fun i _ => xs.length - (intOf i).toNat)
  case atStart => exact ⟨0, Nat.zero_le _, rfl, Ch.refl _ _, fun j y hj => by omega⟩
  case round =>
    obtain ⟨k, hk, rfl, hc, hno⟩ := hrel
    have HN := Lib.hid hno; clear hno
    by_cases hlt : k < xs.length
    · obtain ⟨b, o, rfl, hcl⟩ := H.out.at (by omega)
      have hx : xs[k]? = some xs[k] := List.getElem?_eq_getElem hlt
      have c1 := (hc.cell (cell_lt (hcl k _ hx)) (by simp)).trans (hcl k _ hx)
      have hcall := HF.out wr hc xs[k] (List.getElem_mem hlt)
      have HX := Lib.hid hx; clear hx hcl
      generalize xs[k] = x at *
      have HC := Lib.hid hcall; clear hcall
      have HCH := Lib.hid hc; clear hc
      cases hp : p x
      · rw [hp] at HC
        go_wp2_with fail
        refine HC.out.mono ?_
        rintro e w' ⟨rfl, hc2⟩
        have HC2 := Lib.hid hc2; clear hc2
        go_wp2_with fail
        go_roundw
        case rel => 
          refine ⟨k + 1, by omega, by go_num, HCH.out.trans HC2.out (by simp), fun j y hj hy => ?_⟩
          by_cases hjk : j = k
          · subst hjk; rw [HX.out] at hy; cases hy; exact hp
          · exact HN.out j y (by omega) hy
        case measure => simp [intOf]; omega
      · rw [hp] at HC
        go_wp2_with fail
        refine HC.out.mono ?_
        rintro e w' ⟨rfl, hc2⟩
        have HC2 := Lib.hid hc2; clear hc2
        go_wp2_with fail
        go_ret
        exact ⟨ret_int (idxOf_yes HX.out hp HN.out).symm, HCH.out.trans HC2.out (by simp)⟩
    · have HCH := Lib.hid hc; clear hc
      go_wp2_with fail
      go_ret
      exact ⟨ret_int (idxOf_no (fun j y hy => HN.out j y (by have := (List.getElem?_eq_some_iff.1 hy).1; omega) hy)).symm, HCH.out⟩
end
end Go.Proofs.Ytkedpifopclipaa
namespace Go.Aig
/-- what a step of the reference leaves -/
def rstep (s : Mk) (R : Res) : Mk × Nat := if s.2 ≠ 0 then (s, 0) else if R.2.2 ≠ 0 then ((s.1, R.2.2), 0) else ((R.1, 0), R.2.1)
/-- what a step of the program leaves -/
def mput (s : Mk) (R : Res) : Mk × Nat := ((R.1, if s.2 = 0 then R.2.2 else s.2), R.2.1)
/-- a result that is right, and leaves the graph if there is an error -/
structure RFull (G : Gra) (R : Res) : Prop where
  ok : ROk G R
  keep : R.2.2 ≠ 0 → R = (G, 0, 201)
theorem and_full {G : Gra} (h : Ok G) {a b : Nat} (ha : a < 2 * G.nodes.length) (hb : b < 2 * G.nodes.length) : RFull G (and G a b) := by
  refine ⟨and_rok h ha hb, fun he => ?_⟩
  have h1 := and_err he
  have h2 := (and_rok h ha hb).err
  rw [h1]
  rcases h2 with e | e
  · exact absurd e he
  · rw [e]
theorem rOr_full {G : Gra} (h : Ok G) {a b : Nat} (ha : a < 2 * G.nodes.length) (hb : b < 2 * G.nodes.length) : RFull G (rOr G a b) := by
  refine ⟨rOr_rok h ha hb, fun he => ?_⟩
  have h2 := (and_rok h (neg_lt ha) (neg_lt hb)).err
  unfold rOr at he ⊢
  split
  · rcases h2 with e | e
    · rename_i h3; exact absurd e h3
    · rw [e]
  · rename_i h3; rw [if_neg h3] at he; exact absurd rfl he
theorem rThen_full {G : Gra} {X Y : Res} (hr : ROk G (rThen G X Y)) (hX : X.2.2 = 0 ∨ X.2.2 = 201) (hY : Y.2.2 ≠ 0 → Y = (G, 0, 201)) : RFull G (rThen G X Y) := by
  refine ⟨hr, fun he => ?_⟩
  unfold rThen at he ⊢
  split
  · rcases hX with e | e
    · rename_i h3; exact absurd e h3
    · rw [e]
  · rename_i h3; rw [if_neg h3] at he; exact hY he
theorem rMux_full {G : Gra} (h : Ok G) {c a b : Nat} (hc : c < 2 * G.nodes.length) (ha : a < 2 * G.nodes.length) (hb : b < 2 * G.nodes.length) : RFull G (rMux G c a b) := by
  have h1 := and_rok h hc ha
  have h2 := and_rok h1.ok (h1.ext.lt (neg_lt hc)) (h1.ext.lt hb)
  have h3 := rOr_rok h2.ok (h2.ext.lt h1.lt) h2.lt
  have hk : ∀ X Y : Res, (X.2.2 = 0 ∨ X.2.2 = 201) → (Y.2.2 ≠ 0 → Y = (G, 0, 201)) → (rThen G X Y).2.2 ≠ 0 → rThen G X Y = (G, 0, 201) := fun X Y hX hY he => by
    unfold rThen at he ⊢
    split
    · rcases hX with e | e
      · rename_i h3; exact absurd e h3
      · rw [e]
    · rename_i h3; rw [if_neg h3] at he; exact hY he
  refine ⟨rMux_rok h hc ha hb, ?_⟩
  unfold rMux
  refine hk _ _ h1.err (hk _ _ h2.err (hk _ _ h3.err ?_))
  intro he; exact absurd rfl he
theorem rXor_full {G : Gra} (h : Ok G) {a b : Nat} (ha : a < 2 * G.nodes.length) (hb : b < 2 * G.nodes.length) : RFull G (rXor G a b) := rMux_full h ha (neg_lt hb) hb
theorem rAllFrom_err (G0 : Gra) (h0 : Ok G0) : ∀ (l : List Nat) {G : Gra} {out : Nat}, Ok G → out < 2 * G.nodes.length → (∀ r ∈ l, r < 2 * G.nodes.length) → (rAllFrom G0 G out l).2.2 ≠ 0 → rAllFrom G0 G out l = (G0, 0, 201)
  | [], G, out, _, _, _, he => absurd rfl he
  | r :: l, G, out, h, ho, hl, he => by
    have h1 := and_rok h ho (hl r (by simp))
    unfold rAllFrom at he ⊢
    split
    · rcases h1.err with e | e
      · rename_i h3; exact absurd e h3
      · rw [e]
    · rename_i h3
      rw [if_neg h3] at he
      exact rAllFrom_err G0 h0 l h1.ok h1.lt (fun x hx => h1.ext.lt (hl x (by simp [hx]))) he
theorem rAll_full {G : Gra} (h : Ok G) {l : List Nat} (hl : ∀ r ∈ l, r < 2 * G.nodes.length) : RFull G (rAll G l) :=
  ⟨rAll_rok h hl, rAllFrom_err G h l h (by have := h.wf.pos; omega) hl⟩
theorem rAny_full {G : Gra} (h : Ok G) {l : List Nat} (hl : ∀ r ∈ l, r < 2 * G.nodes.length) : RFull G (rAny G l) := by
  refine ⟨rAny_rok h hl, fun he => ?_⟩
  have h2 := (rAll_rok h (negs_lt hl)).err
  unfold rAny at he ⊢
  split
  · rcases h2 with e | e
    · rename_i h3; exact absurd e h3
    · rw [e]
  · rename_i h3; rw [if_neg h3] at he; exact absurd rfl he
theorem put_full {G : Gra} (h : Ok G) : RFull G (put G ⟨2, 0, 0, 0⟩) := by
  have hp := h.wf.pos
  unfold put
  split
  · exact ⟨⟨h, .refl _, by show 0 < 2 * G.nodes.length; omega, .inr rfl⟩, fun _ => rfl⟩
  · rename_i hm
    exact ⟨⟨⟨h.wf.input, by simp; omega, h.most⟩, ⟨rfl, _, rfl⟩, by simp, .inl rfl⟩, fun he => absurd rfl he⟩
/-- the program's state beside that of the reference -/
structure Sim (G0 : Gra) (P R : Mk) : Prop where
  ok : Ok P.1
  ext : Ext G0 P.1
  rel : (R.2 = 0 ∧ P = R) ∨ (R.2 = 201 ∧ P.2 = 201)
  rok : Ok R.1
  rext : Ext G0 R.1
theorem Sim.start {G : Gra} (h : Ok G) : Sim G (G, 0) (G, 0) := ⟨h, .refl _, .inl ⟨rfl, rfl⟩, h, .refl _⟩
theorem rstep_bad {s : Mk} (h : s.2 ≠ 0) (R : Res) : rstep s R = (s, 0) := by unfold rstep; rw [if_pos h]
theorem rstep_no {s : Mk} (h : s.2 = 0) {R : Res} (hR : R.2.2 ≠ 0) : rstep s R = ((s.1, R.2.2), 0) := by unfold rstep; rw [if_neg (by simp [h]), if_pos hR]
theorem rstep_ok {s : Mk} (h : s.2 = 0) {R : Res} (hR : R.2.2 = 0) : rstep s R = ((R.1, 0), R.2.1) := by unfold rstep; rw [if_neg (by simp [h]), if_neg (by simp [hR])]
theorem mput_bad {s : Mk} (h : s.2 ≠ 0) (R : Res) : mput s R = ((R.1, s.2), R.2.1) := by unfold mput; rw [if_neg h]
theorem mput_ok {s : Mk} (h : s.2 = 0) (R : Res) : mput s R = ((R.1, R.2.2), R.2.1) := by unfold mput; rw [if_pos h]
theorem Sim.step {G0 : Gra} {P R : Mk} (h : Sim G0 P R) {X Y : Res} (hX : RFull P.1 X) (he : R.2 = 0 → P = R → X = Y) :
    Sim G0 (mput P X).1 (rstep R Y).1 ∧ (mput P X).2 < 2 * (mput P X).1.1.nodes.length ∧ (rstep R Y).2 < 2 * (rstep R Y).1.1.nodes.length ∧ ((rstep R Y).1.2 = 0 → (mput P X).2 = (rstep R Y).2) ∧ Ext P.1 (mput P X).1.1 ∧ Ext R.1 (rstep R Y).1.1 ∧ (R.2 ≠ 0 → (rstep R Y).1.2 ≠ 0) := by
  have hrp := h.rok.wf.pos
  rcases h.rel with ⟨e0, e1⟩ | ⟨e0, e1⟩
  · have e2 := he e0 e1
    subst e2; subst e1
    by_cases hx : X.2.2 = 0
    · rw [rstep_ok e0 hx, mput_ok e0, hx]
      exact ⟨⟨hX.ok.ok, h.ext.trans hX.ok.ext, .inl ⟨rfl, rfl⟩, hX.ok.ok, h.ext.trans hX.ok.ext⟩, hX.ok.lt, hX.ok.lt, fun _ => rfl, hX.ok.ext, hX.ok.ext, fun hz => absurd e0 hz⟩
    · rw [rstep_no e0 hx, mput_ok e0, hX.keep hx]
      show Sim G0 (P.1, 201) (P.1, 201) ∧ 0 < 2 * P.1.nodes.length ∧ 0 < 2 * P.1.nodes.length ∧ ((201 : Nat) = 0 → (0 : Nat) = 0) ∧ Ext P.1 P.1 ∧ Ext P.1 P.1 ∧ (P.2 ≠ 0 → (201 : Nat) ≠ 0)
      exact ⟨⟨h.ok, h.ext, .inr ⟨rfl, rfl⟩, h.rok, h.rext⟩, by omega, by omega, fun _ => rfl, .refl _, .refl _, fun _ => by omega⟩
  · rw [rstep_bad (by omega), mput_bad (by omega)]
    exact ⟨⟨hX.ok.ok, h.ext.trans hX.ok.ext, .inr ⟨e0, e1⟩, h.rok, h.rext⟩, hX.ok.lt, by show 0 < 2 * R.1.nodes.length; omega, fun hz => absurd (show R.2 = 0 from hz) (by omega), hX.ok.ext, .refl _, fun hz => hz⟩
/-! ### the operations of the reference on a state -/
def sAnd (s : Mk) (a b : Nat) : Mk × Nat := rstep s (and s.1 a b)
def sOr (s : Mk) (a b : Nat) : Mk × Nat := rstep s (rOr s.1 a b)
def sXor (s : Mk) (a b : Nat) : Mk × Nat := rstep s (rXor s.1 a b)
def sMux (s : Mk) (c a b : Nat) : Mk × Nat := rstep s (rMux s.1 c a b)
def sAny (s : Mk) (l : List Nat) : Mk × Nat := rstep s (rAny s.1 l)
def sPut (s : Mk) : Mk × Nat := rstep s (put s.1 ⟨2, 0, 0, 0⟩)
/-- one after the other, each making a bit of a word -/
def eachS (op : Mk → Nat → Nat → Mk × Nat) (q : Mk × List Nat) (p : Nat × Nat) : Mk × List Nat := ((op q.1 p.1 p.2).1, q.2 ++ [(op q.1 p.1 p.2).2])
def eachF (op : Mk → Nat → Nat → Mk × Nat) (s : Mk) (l : List (Nat × Nat)) : Mk × List Nat := l.foldl (eachS op) (s, [])
/-- the sum, bit by bit: the state, the word, the carry -/
def sumS (n : Nat) (q : Mk × List Nat × Nat) (p : Nat × Nat) : Mk × List Nat × Nat :=
  let x := sXor q.1 p.1 p.2
  let r := sXor x.1 x.2 q.2.2
  if q.2.1.length + 1 < n then
    let both := sAnd r.1 p.1 p.2
    let more := sAnd both.1 x.2 q.2.2
    let next := sOr more.1 both.2 more.2
    (next.1, q.2.1 ++ [r.2], next.2)
  else (r.1, q.2.1 ++ [r.2], q.2.2)
def sumF (n : Nat) (s : Mk) (l : List (Nat × Nat)) (c : Nat) : Mk × List Nat × Nat := l.foldl (sumS n) (s, [], c)
/-- less than, from the lowest bit on -/
def ltS (q : Mk × Nat) (p : Nat × Nat) : Mk × Nat := sMux (sXor q.1 p.1 p.2).1 (sXor q.1 p.1 p.2).2 p.2 q.2
def ltF (s : Mk) (l : List (Nat × Nat)) : Mk × Nat := l.foldl ltS (s, 0)
def inS (q : Mk × List Nat) : Mk × List Nat := ((sPut q.1).1, q.2 ++ [(sPut q.1).2])
def inF (s : Mk) : Nat → Mk × List Nat
  | 0 => (s, [])
  | n + 1 => inS (inF s n)
end Go.Aig
namespace Go.Proofs.Ytkedpifopclipaa
open Go.RowKit Go.Mem Go.Aig
theorem doAnd_r {G : Gra} {a b : Nat} (ha : a < 2 * G.nodes.length) (hb : b < 2 * G.nodes.length) : doAnd G a b = and G a b := by
  unfold doAnd
  rw [whole_and (by simp [right]; omega)]; rfl
theorem doOr_r {G : Gra} {a b : Nat} (ha : a < 2 * G.nodes.length) (hb : b < 2 * G.nodes.length) : doOr G a b = rOr G a b := by
  unfold doOr
  rw [whole_or (by simp [right]; omega)]; rfl
theorem doXor_r {G : Gra} {a b : Nat} (ha : a < 2 * G.nodes.length) (hb : b < 2 * G.nodes.length) : doXor G a b = rXor G a b := by
  unfold doXor rXor
  rw [whole_mux (by simp [right]; omega)]; rfl
theorem doMux_r {G : Gra} {c a b : Nat} (hc : c < 2 * G.nodes.length) (ha : a < 2 * G.nodes.length) (hb : b < 2 * G.nodes.length) : doMux G c a b = rMux G c a b := by
  unfold doMux
  rw [whole_mux (by simp [right]; omega)]; rfl
theorem toNats (l : List Nat) : (l.map fun (r : Nat) => (r : Int)).map Int.toNat = l := by
  induction l with
  | nil => rfl
  | cons a l ih => simp only [List.map_cons, ih]; rfl
theorem doAny_r {G : Gra} {l : List Nat} (hl : ∀ r ∈ l, r < 2 * G.nodes.length) : doAny G (l.map fun (r : Nat) => (r : Int)) = rAny G l := by
  unfold doAny
  rw [toNats, whole_any (by
    intro x hx
    obtain ⟨r, hr, rfl⟩ := List.mem_map.1 hx
    have := hl r hr
    simp [right]; omega)]
/-- the maker in memory beside its graph -/
structure MIn (w : World) (g m : Nat) (P : Mk) (F : List Nat) : Prop where
  gin : GIn w g P.1 F
  bk : blk w m [.pointer (some ⟨g, 0, none⟩), .int .i64 P.2]
  apart : m ∉ F
/-- what a step leaves of a maker and its graph -/
def MTo (w : World) (g m : Nat) (P : Mk) (F : List Nat) (w' : World) : Prop := ∃ F', MIn w' g m P F' ∧ Ch (m :: F) w w' ∧ (∀ k ∈ F', k ∈ F ∨ w.heap.size ≤ k) ∧ F'[2]? = F[2]?
theorem MIn.same {w w' : World} {g m : Nat} {P : Mk} {F F' : List Nat} (h : MIn w g m P F) (hc : Ch F' w w') (hF : ∀ k ∈ m :: F, k ∉ F') : MIn w' g m P F :=
  ⟨h.gin.same hc (fun k hk => hF k (by simp [hk])), h.bk.ch hc (hF m (by simp)), h.apart⟩
theorem MTo.of {w w1 w' : World} {g m : Nat} {P P' : Mk} {F : List Nat} (h : MIn w g m P F) (ht : GTo w g P'.1 F w1) (hb : blk w1 m [.pointer (some ⟨g, 0, none⟩), .int .i64 P.2] → blk w' m [.pointer (some ⟨g, 0, none⟩), .int .i64 P'.2]) (hc : Ch [m] w1 w') : MTo w g m P' F w' := by
  obtain ⟨F', h1, h2, h3, h4⟩ := ht
  have hm := h.bk.lt
  have hmF : m ∉ F' := fun hk => (h3 m hk).elim h.apart (by omega)
  exact ⟨F', ⟨h1.same hc (fun k hk e => hmF (by simp at e; exact e ▸ hk)), hb (h.bk.ch h2 h.apart), hmF⟩, (h2.mono (fun k hk => .inl (by simp [hk]))).trans hc (fun k hk => .inl (by simp at hk; simp [hk])), h3, h4⟩
section
variable {w : World} {g m : Nat}
set_option maxRecDepth 100000 in
set_option maxHeartbeats 1000000 in
theorem sput_is {e : Nat} (hb : blk w m [.pointer (some ⟨g, 0, none⟩), .int .i64 e]) (r : Nat) (f : Nat) :
    Calls Try.prog 123 #[.pointer (some ⟨m, 0, none⟩), .int .i64 r, .int .i64 f] w fun x w' => x = .returned (.int .i64 r) ∧ blk w' m [.pointer (some ⟨g, 0, none⟩), .int .i64 ((if e = 0 then f else e : Nat) : Int)] ∧ Ch [m] w w' := by
  have m1 := hb.cell (i := 1) rfl
  have m1f := hb.frozen (i := 1)
  have HB := Lib.hid hb; clear hb
  by_cases he : e = 0
  · subst he
    rw [if_pos rfl]
    go_enter Try.func123, Try.ntmps123
    go_wp2_with fail
    go_ret
    exact ⟨rfl, HB.out.set (i := 1) _, (Ch.refl _ _).setCell (by simp) _⟩
  · have hq : ((e : Int) == 0) = false := beqN (by omega)
    rw [if_neg he]
    go_enter Try.func123, Try.ntmps123
    go_wp2_with fail
    go_ret
    exact ⟨rfl, HB.out, Ch.refl _ _⟩
theorem mput_err (P : Mk) (R : Res) : (mput P R).1.2 = if P.2 = 0 then R.2.2 else P.2 := rfl
set_option maxRecDepth 100000 in
set_option maxHeartbeats 1000000 in
theorem sxor_is {P : Mk} {F : List Nat} (h : MIn w g m P F) {a b : Nat} (ha : a < 2 * P.1.nodes.length) (hb : b < 2 * P.1.nodes.length) :
    Calls Try.prog 138 #[.pointer (some ⟨m, 0, none⟩), .int .i64 a, .int .i64 b] w fun e w' => e = .returned (.int .i64 (mput P (rXor P.1 a b)).2) ∧ MTo w g m (mput P (rXor P.1 a b)).1 F w' := by
  have hl := h.gin.ok.room
  have hl2 := h.gin.ok.most
  have HX := Xor_g h.gin a b (by omega) (by omega)
  rw [doXor_r ha hb] at HX
  have m0 := h.bk.cell (i := 0) rfl
  have H := Lib.hid h; clear h
  clear hl hl2
  generalize hR : rXor P.1 a b = R at *
  clear hR
  go_enter Try.func138, Try.ntmps138
  go_wp2_with fail
  refine HX.mono ?_
  rintro e w1 ⟨rfl, ht⟩
  have hb1 := H.out.bk.ch ht.gin.choose_spec.2.1 H.out.apart
  have HP := sput_is hb1 R.2.1 R.2.2
  have HT := Lib.hid ht; clear ht
  clear hb1
  go_wp2_with fail
  refine HP.mono ?_
  rintro e w2 ⟨rfl, hb2, hc2⟩
  have HB := Lib.hid hb2; clear hb2
  have HC := Lib.hid hc2; clear hc2
  go_wp2_with fail
  go_ret
  exact ⟨rfl, MTo.of H.out HT.out (fun _ => HB.out) HC.out⟩
set_option maxRecDepth 100000 in
set_option maxHeartbeats 1000000 in
theorem smux_is {P : Mk} {F : List Nat} (h : MIn w g m P F) {c a b : Nat} (hc : c < 2 * P.1.nodes.length) (ha : a < 2 * P.1.nodes.length) (hb : b < 2 * P.1.nodes.length) :
    Calls Try.prog 137 #[.pointer (some ⟨m, 0, none⟩), .int .i64 c, .int .i64 a, .int .i64 b] w fun e w' => e = .returned (.int .i64 (mput P (rMux P.1 c a b)).2) ∧ MTo w g m (mput P (rMux P.1 c a b)).1 F w' := by
  have hl := h.gin.ok.room
  have hl2 := h.gin.ok.most
  have HX := Mux_g h.gin c a b (by omega) (by omega) (by omega)
  rw [doMux_r hc ha hb] at HX
  have m0 := h.bk.cell (i := 0) rfl
  have H := Lib.hid h; clear h
  clear hl hl2
  generalize hR : rMux P.1 c a b = R at *
  clear hR
  go_enter Try.func137, Try.ntmps137
  go_wp2_with fail
  refine HX.mono ?_
  rintro e w1 ⟨rfl, ht⟩
  have hb1 := H.out.bk.ch ht.gin.choose_spec.2.1 H.out.apart
  have HP := sput_is hb1 R.2.1 R.2.2
  have HT := Lib.hid ht; clear ht
  clear hb1
  go_wp2_with fail
  refine HP.mono ?_
  rintro e w2 ⟨rfl, hb2, hc2⟩
  have HB := Lib.hid hb2; clear hb2
  have HC := Lib.hid hc2; clear hc2
  go_wp2_with fail
  go_ret
  exact ⟨rfl, MTo.of H.out HT.out (fun _ => HB.out) HC.out⟩
end
end Go.Proofs.Ytkedpifopclipaa
namespace Go
open Go.RowKit Go.Mem
section
variable {F : Fence} {n : Nat} {P : Program}
/-- the blocks K are as they were; the two blocks that a loop keeps are as they were -/
def Kept (K : List Nat) (W W' : World) : Prop := ∀ k ∈ K, W'.heap[k]? = W.heap[k]?
def Books (B : Nat) (W W' : World) : Prop := W'.heap[B]? = W.heap[B]? ∧ W'.heap[B + 1]? = W.heap[B + 1]?
theorem Kept.of_ch {K L : List Nat} {W W' : World} (hc : Ch L W W') (h : ∀ k ∈ K, k < W.heap.size ∧ k ∉ L) : Kept K W W' := fun k hk => hc.block k (h k hk).1 (h k hk).2
theorem Books.of_ch {B : Nat} {L : List Nat} {W W' : World} (hc : Ch L W W') (hB : B + 2 ≤ W.heap.size) (h : ∀ k ∈ L, k ≠ B ∧ k ≠ B + 1) : Books B W W' :=
  ⟨hc.block B (by omega) (fun hk => (h B hk).1 rfl), hc.block (B + 1) (by omega) (fun hk => (h (B + 1) hk).2 rfl)⟩
/-- the contract of an iterator that only reads the blocks K -/
def SeqP {α : Type} (F : Fence) (n : Nat) (P : Program) (g : Nat) (lb : Array Value) (encs : α → Array Value) (K : List Nat) (xs : List α) (w : World) : Prop :=
  ∀ (l : Nat) (J : List α → World → Prop) (Jx : World → Prop) (W : World), (∀ k ∈ K, W.heap[k]? = w.heap[k]?) → (∀ s A A', J s A → Ch [] A A' → J s A') → (∀ A A', Jx A → Ch [] A A' → Jx A') →
    (∀ pre x W1, J pre W1 → (pre ++ [x]) <+: xs → YieldAt F (n - 1) P l (encs x) W1 fun e W' => (e = .returned (.bool true) ∧ J (pre ++ [x]) W' ∧ Kept K W1 W') ∨ (e = .returned (.bool false) ∧ Jx W')) →
    J [] W →
    CallsIn F n P g (#[.func (.yield l) #[] #[]] ++ lb) W fun e W' => (∃ v, e = .returned v) ∧ (J xs W' ∨ Jx W')

theorem ch_put {A : World} {l : Nat} {o' : Obj} {L : List Nat} (hl : l ∈ L) : Ch L A (A.putObj l o') := ⟨rfl, rfl, rfl, by simp, fun k _ hn => World.putObj_heap_other (fun e => by subst e; exact hn hl)⟩

theorem wpIn_rangeFunc_P {α : Type} {g : Operand} {ps : Array Tmp} {assign body : Code} {Q : Exit → Act → World → Prop} {a : Act} {w : World} (B : Nat) (hB : w.heap.size = B)
    (hro : F.round = none) (h1 : 1 ≤ n) {gf : Nat} {lb : Array Value} (hg : a.eval g = .func (.func gf) #[] lb) (hFg : F.fn gf) (eg : ∀ args w, (callFunc gf args).run P w = .ok (.enter gf args) w)
    {encs : α → Array Value} {K : List Nat} {xs : List α} (hseq : SeqP F (n - 1) P gf lb encs K xs w) (hK : ∀ k ∈ K, k < B) (hps : ∀ x, (encs x).size = ps.size)
    (I : List α → World → Prop) (Ix : World → Prop) (hI : ∀ s A A', I s A → Ch [B, B + 1] A A' → I s A') (hIx : ∀ A A', Ix A → Ch [B, B + 1] A A' → Ix A') (h0 : I [] w) (a₁ : α → Act)
    (hassign : ∀ (l : Nat) (x : α) (W : World) (K : Act → World → Prop), K (a₁ x) W →
      assign.wpIn (F.inRound l) (n - 1 - 1) P (Exit.then K (fun _ _ _ => False)) { tmps := (ps.zip (encs x)).foldl (fun t (p, v) => t.setIfInBounds p v) a.tmps, defers := [] } W)
    (hbody : ∀ (l : Nat) (pre : List α) (x : α) (W : World), I pre W → B + 2 ≤ W.heap.size → (pre ++ [x]) <+: xs → body.wpIn (F.inRound l) (n - 1 - 1) P (fun e _ W' => Books B W W' ∧ ((e = .normal ∧ I (pre ++ [x]) W' ∧ Kept K W W') ∨ (e = .ret ∧ Ix W'))) (a₁ x) W)
    (hdone : ∀ (W : World), I xs W → W.heap[B]? = some (.deferred (some [])) → B + 2 ≤ W.heap.size → Q .normal { a with defers := { target := .collected B, args := #[] } :: a.defers } W)
    (hstop : ∀ (W : World), Ix W → W.heap[B]? = some (.deferred (some [])) → B + 2 ≤ W.heap.size → (Code.ret).wpIn F n P Q { a with defers := { target := .collected B, args := #[] } :: a.defers } W) :
    (Code.rangeFunc g ps assign body).wpIn F n P Q a w := by
  subst hB
  refine wpIn_rangeFunc fun fn hfn => ?_
  rw [hro]
  let rec0 : LoopState → Option Code → Loop := fun st pe => { state := st, pending := pe, fn, tmps := a.tmps, params := ps, assign, body, defers := w.heap.size }
  obtain ⟨W1, hW1⟩ : ∃ W1, (w.alloc (.deferred (some []))).alloc (.loop (rec0 .ready none)) = W1 := ⟨_, rfl⟩
  have hz1 : W1.heap.size = w.heap.size + 2 := by rw [← hW1]; simp
  have hL1 : W1.heap[w.heap.size + 1]? = some (.loop (rec0 .ready none)) := by
    rw [← hW1]; have := World.alloc_heap_new (w.alloc (.deferred (some []))) (.loop (rec0 .ready none)); rwa [World.size_alloc] at this
  have hK1 : W1.heap[w.heap.size]? = some (.deferred (some [])) := by
    rw [← hW1]; exact (Below.heap_alloc _ _ _ (by simp)).trans (World.alloc_heap_new w _)
  have hc1 : Ch [] w W1 := by rw [← hW1]; exact ((Ch.refl _ _).alloc _).alloc _
  have hI1 : I [] W1 := hI _ _ _ h0 (hc1.mono (by simp))
  refine ⟨w.heap.size + 1, [{ target := .collected w.heap.size, args := #[] }], W1, { target := .fn (.func gf) lb, args := #[.func (.yield (w.heap.size + 1)) #[] #[]] }, W1, gf,
    #[.func (.yield (w.heap.size + 1)) #[] #[]] ++ lb, W1, ?_, ?_, ?_, ?_, fun _ => h1, ?_⟩
  · rw [← hW1]; exact run_enterLoop_outer _ _ _ _ _
  · simp only [resolve, hg]
    simp [go_sem]
  · intro f' hf'; simp [Target.leads] at hf'; subst hf'; exact hFg
  · simp [invoke, go_sem, eg]
  · have hKne : ∀ k ∈ K, k ≠ w.heap.size + 1 := fun k hk => by have := hK k hk; omega
    refine (hseq (w.heap.size + 1) (fun pre W => I pre W ∧ w.heap.size + 2 ≤ W.heap.size ∧ W.heap[w.heap.size + 1]? = some (.loop (rec0 .ready none)) ∧ W.heap[w.heap.size]? = some (.deferred (some [])))
      (fun W => Ix W ∧ w.heap.size + 2 ≤ W.heap.size ∧ W.heap[w.heap.size + 1]? = some (.loop (rec0 .done (some .ret))) ∧ W.heap[w.heap.size]? = some (.deferred (some []))) W1 (fun k hk => hc1.block k (hK k hk) (by simp))
      (fun s A A' hs hc => ⟨hI s A A' hs.1 (hc.mono (by simp)), Nat.le_trans hs.2.1 hc.size, (hc.block _ (by have := hs.2.1; omega) (by simp)).trans hs.2.2.1, (hc.block _ (by have := hs.2.1; omega) (by simp)).trans hs.2.2.2⟩)
      (fun A A' hs hc => ⟨hIx A A' hs.1 (hc.mono (by simp)), Nat.le_trans hs.2.1 hc.size, (hc.block _ (by have := hs.2.1; omega) (by simp)).trans hs.2.2.1, (hc.block _ (by have := hs.2.1; omega) (by simp)).trans hs.2.2.2⟩)
      ?_ ⟨hI1, by omega, hL1, hK1⟩).mono ?_
    · rintro pre x W ⟨hi, hz, hl, hk⟩ hpre
      have hlt : w.heap.size + 1 < W.heap.size := by omega
      refine ⟨fn, _, assign, body, run_yield (P := P) (args := encs x) hl (hps x), roundIn_of_wpIn hfn (hassign _ x W _ ⟨_, run_beginRound hl rfl, ?_⟩)⟩
      have hl2 : (W.putObj (w.heap.size + 1) (.loop (rec0 .busy none))).heap[w.heap.size + 1]? = some (.loop (rec0 .busy none)) := World.putObj_heap_same hlt
      have hk2 : (W.putObj (w.heap.size + 1) (.loop (rec0 .busy none))).heap[w.heap.size]? = some (.deferred (some [])) := (World.putObj_heap_other (by omega)).trans hk
      have hK2 : ∀ k ∈ K, (W.putObj (w.heap.size + 1) (.loop (rec0 .busy none))).heap[k]? = W.heap[k]? := fun k hk => World.putObj_heap_other (hKne k hk)
      refine wpIn_mono (hbody _ pre x _ (hI _ _ _ hi (ch_put (by simp))) (by simp; omega) hpre) ?_
      rintro e a3 W3 ⟨⟨hb0, hb1⟩, (⟨rfl, hi3, hk3⟩ | ⟨rfl, hi3⟩)⟩
      · have hl3 := hb1.trans hl2
        have hlt3 := (Array.getElem?_eq_some_iff.1 hl3).1
        refine ⟨_, _, run_endRound (P := P) none hl3, .inl ⟨rfl, ⟨hI _ _ _ hi3 (ch_put (by simp)), by simp; omega, World.putObj_heap_same hlt3, (World.putObj_heap_other (by omega)).trans (hb0.trans hk2)⟩, fun k hk => ?_⟩⟩
        exact (World.putObj_heap_other (hKne k hk)).trans ((hk3 k hk).trans (hK2 k hk))
      · have hl3 := hb1.trans hl2
        have hlt3 := (Array.getElem?_eq_some_iff.1 hl3).1
        refine ⟨_, _, run_endRound (P := P) (some .ret) hl3, .inr ⟨rfl, hIx _ _ hi3 (ch_put (by simp)), by simp; omega, World.putObj_heap_same hlt3, (World.putObj_heap_other (by omega)).trans (hb0.trans hk2)⟩⟩
    · rintro e W2 ⟨⟨v, rfl⟩, (⟨hi, hz, hl, hk⟩ | ⟨hi, hz, hl, hk⟩)⟩
      · exact ⟨none, _, run_endLoop (P := P) hl (by simp [rec0]), hdone _ (hI _ _ _ hi (ch_put (by simp))) ((World.putObj_heap_other (by omega)).trans hk) (by simp; omega)⟩
      · exact ⟨some .ret, _, run_endLoop (P := P) hl (by simp [rec0]), hstop _ (hIx _ _ hi (ch_put (by simp))) ((World.putObj_heap_other (by omega)).trans hk) (by simp; omega)⟩
end
end Go
namespace Go.Proofs.Ytkedpifopclipaa
open Go.RowKit Go.Mem Go.Aig
/-- the block of a slice, if it has one -/
def ablk (a : Option Addr) : List Nat := match a with | some p => [p.block] | none => []
theorem ablk_of {a : Option Addr} {p : Addr} (h : a = some p) : p.block ∈ ablk a := by subst h; simp [ablk]
theorem keep_cell {w W : World} {k o : Nat} (h : W.heap[k]? = w.heap[k]?) {v : Value} (hv : w.cell? ⟨k, o, none⟩ = some v) : W.cell? ⟨k, o, none⟩ = some v := (World.cell?_of_block h).trans hv
theorem Sl.keep {w W : World} {a : Option Addr} {l : List Int} (h : Sl w a l) (hk : ∀ k ∈ ablk a, W.heap[k]? = w.heap[k]?) : Sl W a l :=
  ⟨fun i x hx => by
    obtain ⟨b, o, rfl, hc⟩ := h.cells i x hx
    exact ⟨b, o, rfl, keep_cell (hk b (by simp [ablk])) hc⟩, h.bd⟩
def pairEnc (p : Nat × Nat) : Array Value := #[.int .i64 p.1, .int .i64 p.2]
theorem sfnvpairs1 : Fnv 193 := fnv_of Try.func193 (by simp [Try.f193]) (by simp [Try.f193])
set_option maxRecDepth 100000 in
set_option maxHeartbeats 2000000 in
theorem spairs_seq (w : World) (F : Fence) (n : Nat) (hf : F.fn 193) (hro : F.round = none) (hn : 1 ≤ n) {bx b2 : Nat} {xa ya : Option Addr} {x y : List Nat} (len xc yc : Nat) (hxl : x.length = len) (hyl : y.length = len) (hbx : w.cell? ⟨bx, 0, none⟩ = some (.slice xa len xc)) (hby : w.cell? ⟨b2, 0, none⟩ = some (.slice ya len yc))
    (hx : Sl w xa (x.map fun (r : Nat) => (r : Int))) (hy : Sl w ya (y.map fun (r : Nat) => (r : Int))) :
    SeqP F n Try.prog 193 #[.pointer (some ⟨bx, 0, none⟩), .pointer (some ⟨b2, 0, none⟩)] pairEnc (bx :: b2 :: (ablk xa ++ ablk ya)) (x.zip y) w := by
  subst hxl
  intro lp J Jx W hK hJ hJx hY h0
  have hbd := hx.bd
  rw [List.length_map] at hbd
  show CallsIn F n Try.prog 193 #[.func (.yield lp) #[] #[], .pointer (some ⟨bx, 0, none⟩), .pointer (some ⟨b2, 0, none⟩)] W _
  have HY := Lib.hid hY; clear hY
  have HJ := Lib.hid hJ; clear hJ
  have HJX := Lib.hid hJx; clear hJx
  have H0 := Lib.hid h0; clear h0
  have HK := Lib.hid hK; clear hK
  have HX := Lib.hid hx; clear hx
  have HYS := Lib.hid hy; clear hy
  have HBX := Lib.hid hbx; clear hbx
  have HBY := Lib.hid hby; clear hby
  have HYL := Lib.hid hyl; clear hyl
  have bx1 := keep_cell (HK.out bx (by simp)) HBX.out
  refine callsIn_of_wp Try.func193 rfl hf ?_ hro
  simp only [Try.ntmps193, List.size_toArray, List.length_cons, List.length_nil, Nat.reduceAdd, Nat.reduceSub, Array.replicate_succ, Array.replicate_zero, List.push_toArray, List.append_toArray, List.nil_append, List.cons_append]
  gi_wp2
  clear bx1
  gi_loopw [8] (fun i wr => ∃ k : Nat, k ≤ x.length ∧ i = .int .i64 k ∧ (∀ q ∈ bx :: b2 :: (ablk xa ++ ablk ya), wr.heap[q]? = w.heap[q]?) ∧ J ((x.zip y).take k) wr) (fun i _ => x.length - (intOf i).toNat)
  case atStart => exact ⟨0, Nat.zero_le _, rfl, HK.out, H0.out⟩
  case round =>
    obtain ⟨k, hk, rfl, hq, hj⟩ := hrel
    by_cases hlt : k < x.length
    · have hxk : x[k]? = some x[k] := List.getElem?_eq_getElem hlt
      have hyk : y[k]? = some (y[k]'(by rw [HYL.out]; exact hlt)) := List.getElem?_eq_getElem (by rw [HYL.out]; exact hlt)
      generalize x[k] = r at hxk
      generalize y[k]'(by rw [HYL.out]; exact hlt) = s at hyk
      obtain ⟨xb, xo, rfl, hxc⟩ := HX.out.cells k (r : Int) (by simp [hxk])
      obtain ⟨yb, yo, rfl, hyc⟩ := HYS.out.cells k (s : Int) (by simp [hyk])
      have d0 := keep_cell (hq xb (by simp [ablk])) hxc
      have d1 := keep_cell (hq yb (by simp [ablk])) hyc
      have e0 := keep_cell (hq b2 (by simp)) HBY.out
      have hz : (x.zip y)[k]? = some (r, s) := by rw [List.getElem?_zip_eq_some]; exact ⟨hxk, hyk⟩
      have hsu : (x.zip y).take (k + 1) = (x.zip y).take k ++ [(r, s)] := by rw [List.take_add_one, hz]; rfl
      obtain ⟨fn, tmps, assign, body, hy1, hR⟩ := HY.out _ (r, s) _ hj (by rw [← hsu]; exact List.take_prefix _ _)
      simp only [pairEnc] at hy1
      have HQ := Lib.hid hq; clear hq
      have HJ1 := Lib.hid hj; clear hj
      have HSU := Lib.hid hsu; clear hsu
      clear hxk hyk hxc hyc hz
      gi_wp2
      refine hR.mono ?_
      rintro e W2 (⟨rfl, hJ2, hk2⟩ | ⟨rfl, hJ2⟩)
      · have HJ2 := Lib.hid hJ2; clear hJ2
        have HK2 := Lib.hid hk2; clear hk2
        gi_wp2
        go_roundw
        case rel => exact ⟨k + 1, by omega, by go_num, fun q hq => (HK2.out q hq).trans (HQ.out q hq), by rw [HSU.out]; exact HJ2.out⟩
        case measure => simp [intOf]; omega
      · have HJ2 := Lib.hid hJ2; clear hJ2
        gi_wp2
        refine bodyPost_ret (results_none rfl _ _ _) rfl ?_
        exact ⟨⟨_, rfl⟩, .inr HJ2.out⟩
    · have hkl : (x.zip y).take k = x.zip y := List.take_of_length_le (by rw [List.length_zip, HYL.out]; omega)
      rw [hkl] at hj
      have HJ1 := Lib.hid hj; clear hj
      clear hkl
      gi_wp2
      go_end0
      exact ⟨⟨_, rfl⟩, .inl HJ1.out⟩
set_option maxRecDepth 100000 in
set_option maxHeartbeats 1000000 in
theorem spairs_is {w : World} (xa ya : Option Addr) (n xc n' yc : Nat) :
    Calls Try.prog 136 #[.slice xa n xc, .slice ya n' yc] w fun e w' => e = .returned (.func (.func 193) #[] #[.pointer (some ⟨w.heap.size, 0, none⟩), .pointer (some ⟨w.heap.size + 1, 0, none⟩)]) ∧ w' = (w.alloc (.cells #[.slice xa n xc] 28)).alloc (.cells #[.slice ya n' yc] 28) := by
  go_enter Try.func136, Try.ntmps136
  go_wp2_with fail
  go_ret
  exact ⟨rfl, rfl⟩
end Go.Proofs.Ytkedpifopclipaa
namespace Go.Aig
/-- what is left of a word that is made, of a reference that is made -/
def wres (G : Gra) (R : Mk × List Nat) : Gra × List Nat × Nat := if R.1.2 ≠ 0 then (G, [], R.1.2) else (R.1.1, R.2, 0)
def rres (G : Gra) (R : Mk × Nat) : Res := if R.1.2 ≠ 0 then (G, 0, R.1.2) else (R.1.1, R.2, 0)
theorem Ext.back {G G' : Gra} (h : Ext G G') : ({ G' with nodes := G'.nodes.take G.nodes.length } : Gra) = G := by
  obtain ⟨e1, more, e2⟩ := h
  show ({ most := G'.most, nodes := G'.nodes.take G.nodes.length } : Gra) = G
  rw [e1, e2, List.take_left]
theorem doCut_back {G G' : Gra} (hG : Ok G) (h : Ext G G') : doCut G' G.nodes.length = (G, 0) := by
  have := h.len
  have := hG.wf.pos
  unfold doCut
  rw [if_neg (by omega)]
  simp only [Int.toNat_natCast]
  rw [h.back]
end Go.Aig
namespace Go.Proofs.Ytkedpifopclipaa
open Go.RowKit Go.Mem Go.Aig
/-- what a function leaves of a graph, with a word of its own -/
def GVo (w : World) (g : Nat) (G : Gra) (X F : List Nat) (v : Value) (l : List Nat) (w' : World) : Prop :=
  ∃ F', GIn w' g G F' ∧ Ch (X ++ F) w w' ∧ (∀ k ∈ F', k ∈ F ∨ w.heap.size ≤ k) ∧ F'[2]? = F[2]? ∧ row w' 45 1 v l.length (refsCells l) ∧ ∀ k, v.ownBlock = some k → w.heap.size ≤ k ∧ k ∉ F'
/-- what a part of build leaves, with a word of its own -/
def MVo (w : World) (g m : Nat) (P : Mk) (X F : List Nat) (v : Value) (l : List Nat) (w' : World) : Prop :=
  ∃ F', MIn w' g m P F' ∧ Ch (m :: (X ++ F)) w w' ∧ (∀ k ∈ F', k ∈ F ∨ w.heap.size ≤ k) ∧ F'[2]? = F[2]? ∧ row w' 45 1 v l.length (refsCells l) ∧ ∀ k, v.ownBlock = some k → w.heap.size ≤ k ∧ k ∉ F' ∧ k ≠ m
theorem GVo.nil {w w' : World} {g : Nat} {G : Gra} {X F F' : List Nat} (h1 : GIn w' g G F') (h2 : Ch (X ++ F) w w') (h3 : ∀ k ∈ F', k ∈ F ∨ w.heap.size ≤ k) (h4 : F'[2]? = F[2]?) : GVo w g G X F (.slice none 0 0) [] w' :=
  ⟨F', h1, h2, h3, h4, ⟨rfl, .inl ⟨rfl, rfl⟩⟩, by simp [Value.ownBlock]⟩
theorem GTo.mk {w w' : World} {g : Nat} {G : Gra} {F F' : List Nat} (h1 : GIn w' g G F') (h2 : Ch F w w') (h3 : ∀ k ∈ F', k ∈ F ∨ w.heap.size ≤ k) (h4 : F'[2]? = F[2]?) : GTo w g G F w' := ⟨F', h1, h2, h3, h4⟩
section
variable {w : World} {g : Nat} {G : Gra} {F : List Nat}
set_option maxRecDepth 100000 in
set_option maxHeartbeats 2000000 in
theorem sbuildW_is (h : GIn w g G F) (fid : Nat) (caps : Array Value) (hfn : Fnv fid) (R : Mk × List Nat) (X : List Nat)
    (hf : ∀ W m, w.heap.size ≤ m → Ch [] w W → MIn W g m (G, 0) F → Calls Try.prog fid (#[.pointer (some ⟨m, 0, none⟩)] ++ caps) W fun e W' => ∃ v P l, e = .returned v ∧ Sim G P R.1 ∧ (R.1.2 = 0 → l = R.2) ∧ MVo W g m P X F v l W') :
    Calls Try.prog 121 #[.pointer (some ⟨g, 0, none⟩), .func (.func fid) #[] caps] w fun e w' => ∃ v, e = .returned (.tuple #[v, .int .i64 (wres G R).2.2]) ∧ GVo w g (wres G R).1 X F v (wres G R).2.1 w' := by
  have HL := Len_g h
  have hg := h.lt
  have hok := h.ok
  have hroom := h.ok.room
  have hmost := h.ok.most
  have hms : MIn (w.alloc (.cells #[.pointer (some ⟨g, 0, none⟩), .int .i64 0] 254)) g w.heap.size (G, 0) F := ⟨h.same ((Ch.refl [] _).alloc _) (by simp), blk.new' _ _ rfl, fun hm => by have := hg _ hm; omega⟩
  have HF := hf _ w.heap.size (Nat.le_refl _) ((Ch.refl _ _).alloc _) hms
  have hcf : ∀ args w, (callFunc fid args).run Try.prog w = .ok (.enter fid args) w := hfn
  have H := Lib.hid h; clear h
  have HG := Lib.hid hg; clear hg
  have HOK := Lib.hid hok; clear hok
  clear hf hms
  generalize hWW : wres G R = WW
  have HWW := Lib.hid hWW; clear hWW
  go_enter Try.func121, Try.ntmps121
  go_wp2_with fail
  refine HL.mono ?_
  rintro e w' ⟨rfl, rfl⟩
  go_wp2_with fail
  refine HF.mono ?_
  rintro e w1 ⟨v, P, l, rfl, hsim, hl, F', hm, hc, hF', hF2, hrow, hown⟩
  obtain ⟨va, vc, rfl⟩ := row.shape hrow
  have m1 := hm.bk.cell (i := 1) rfl
  have hc0 : Ch (X ++ F) w w1 := (((Ch.refl (X ++ F) w).alloc (.cells #[.pointer (some ⟨g, 0, none⟩), .int .i64 0] 254))).trans hc (fun k hk => by
    simp only [List.mem_cons] at hk
    rcases hk with rfl | hk
    · right; omega
    · exact .inl hk)
  have hz := hc0.size
  have hF0 : ∀ k ∈ F', k ∈ F ∨ w.heap.size ≤ k := fun k hk => (hF' k hk).imp id (fun e => by simp at e; omega)
  have hrel := hsim.rel
  have hext := hsim.ext
  have HROW := Lib.hid hrow; clear hrow
  have HC0 := Lib.hid hc0; clear hc0
  have HF0 := Lib.hid hF0; clear hF0
  have HOWN := Lib.hid hown; clear hown
  have HM := Lib.hid hm; clear hm
  have HEXT := Lib.hid hext; clear hext
  clear hc hF' hsim
  rcases hrel with ⟨he, rfl⟩ | ⟨he, hp⟩
  · have hw : wres G R = (R.1.1, R.2, 0) := by unfold wres; rw [if_neg (by simp [he])]
    have hww := HWW.out
    rw [hw] at hww
    subst hww
    rw [he] at m1
    have hl := hl he
    subst hl
    clear hw HOK
    have HE := Lib.hid he; clear he
    go_wp2_with fail
    go_ret2
    exact ⟨_, rfl, F', HM.out.gin, HC0.out, HF0.out, hF2, HROW.out, fun k hk => ⟨by have := (HOWN.out k hk).1; simp at this; omega, (HOWN.out k hk).2.1⟩⟩
  · have hw : wres G R = (G, [], 201) := by unfold wres; rw [if_pos (by simp [he]), he]
    have hww := HWW.out
    rw [hw] at hww
    subst hww
    rw [hp] at m1
    have hcut := Cut_g HM.out.gin G.nodes.length (by omega) (by omega)
    rw [doCut_back HOK.out HEXT.out] at hcut
    have hmlt := HM.out.bk.lt
    have hmF := HM.out.apart
    clear hw hl
    have HE := Lib.hid he; clear he
    have HP := Lib.hid hp; clear hp
    have HMF := Lib.hid hmF; clear hmF
    go_wp2_with fail
    refine hcut.mono ?_
    rintro e w4 ⟨rfl, F4, hg4, hc4, hF4, hF42⟩
    have hm4 : w4.cell? ⟨w.heap.size, 1, none⟩ = some (.int .i64 201) := (hc4.cell (p := ⟨w.heap.size, 1, none⟩) hmlt HMF.out).trans m1
    clear m1
    have HG4 := Lib.hid hg4; clear hg4
    have HC4 := Lib.hid hc4; clear hc4
    have HF4 := Lib.hid hF4; clear hF4
    go_wp2_with fail
    refine Ord.St.door (fun _ => True) [.fl, .fl, .fl, .fl, .rd, .fl, .fl] [0, 0, 2, 6, 14, 1, 63] [0, 1, 2, 3, 4, 5, 6] mixed (by kernel_rfl) rfl ?_
    refine Ord.St.fl2 (T' := ?_) 0 [1, 2, 3, 4, 5, 6] _ _ rfl (by kernel_rfl) rfl rfl rfl rfl (fun K w' hk => ?_) ?_
    rotate_left
    · go_step; exact hk
    refine Ord.St.fl2 (T' := ?_) 1 [2, 3, 4, 5, 6] _ _ rfl (by kernel_rfl) rfl rfl rfl rfl (fun K w' hk => ?_) ?_
    rotate_left
    · go_step; exact hk
    refine Ord.St.fl2 (T' := ?_) 2 [3, 4, 5, 6] _ _ rfl (by kernel_rfl) rfl rfl rfl rfl (fun K w' hk => ?_) ?_
    rotate_left
    · go_step; exact hk
    refine Ord.St.fl2 (T' := ?_) 3 [4, 5, 6] _ _ rfl (by kernel_rfl) rfl rfl rfl rfl (fun K w' hk => ?_) ?_
    rotate_left
    · go_step; exact hk
    refine Ord.St.rd2 (T' := ?_) 4 [5, 6] _ _ rfl (by kernel_rfl) rfl rfl rfl rfl (fun K hk => ?_) ?_
    rotate_left
    · go_step; exact hk
    refine Ord.St.fl2 (T' := ?_) 5 [6] _ _ rfl (by kernel_rfl) rfl rfl rfl rfl (fun K w' hk => ?_) ?_
    rotate_left
    · go_step; exact hk
    refine Ord.St.fl2 (T' := ?_) 6 [] _ _ rfl (by kernel_rfl) rfl rfl rfl rfl (fun K w' hk => ?_) ?_
    rotate_left
    · go_step; exact hk
    refine Ord.St.nil ?_
    go_wp2_with fail
    go_ret2
    refine ⟨_, rfl, GVo.nil (F' := F4) (HG4.out.same (F' := []) (Ch.refl _ _).drew (by simp)) (HC0.out.trans HC4.out.drew (fun k hk => (HF0.out k hk).imp (fun e => List.mem_append_right _ e) id)) (fun k hk => ?_) (hF42.trans hF2)⟩
    rcases HF4.out k hk with e | e
    · exact HF0.out k e
    · exact .inr (by omega)
set_option maxRecDepth 100000 in
set_option maxHeartbeats 2000000 in
theorem sbuildR_is (h : GIn w g G F) (fid : Nat) (caps : Array Value) (hfn : Fnv fid) (R : Mk × Nat)
    (hf : ∀ W m, w.heap.size ≤ m → Ch [] w W → MIn W g m (G, 0) F → Calls Try.prog fid (#[.pointer (some ⟨m, 0, none⟩)] ++ caps) W fun e W' => ∃ (P : Mk) (r : Nat), e = .returned (.int .i64 r) ∧ Sim G P R.1 ∧ (R.1.2 = 0 → r = R.2) ∧ MTo W g m P F W') :
    Calls Try.prog 134 #[.pointer (some ⟨g, 0, none⟩), .func (.func fid) #[] caps] w fun e w' => e = .returned (.tuple #[.int .i64 (rres G R).2.1, .int .i64 (rres G R).2.2]) ∧ GTo w g (rres G R).1 F w' := by
  have HL := Len_g h
  have hg := h.lt
  have hok := h.ok
  have hroom := h.ok.room
  have hmost := h.ok.most
  have hms : MIn (w.alloc (.cells #[.pointer (some ⟨g, 0, none⟩), .int .i64 0] 254)) g w.heap.size (G, 0) F := ⟨h.same ((Ch.refl [] _).alloc _) (by simp), blk.new' _ _ rfl, fun hm => by have := hg _ hm; omega⟩
  have HF := hf _ w.heap.size (Nat.le_refl _) ((Ch.refl _ _).alloc _) hms
  have hcf : ∀ args w, (callFunc fid args).run Try.prog w = .ok (.enter fid args) w := hfn
  have H := Lib.hid h; clear h
  have HG := Lib.hid hg; clear hg
  have HOK := Lib.hid hok; clear hok
  clear hf hms
  generalize hWW : rres G R = WW
  have HWW := Lib.hid hWW; clear hWW
  go_enter Try.func134, Try.ntmps134
  go_wp2_with fail
  refine HL.mono ?_
  rintro e w' ⟨rfl, rfl⟩
  go_wp2_with fail
  refine HF.mono ?_
  rintro e w1 ⟨P, r, rfl, hsim, hl, F', hm, hc, hF', hF2⟩
  have m1 := hm.bk.cell (i := 1) rfl
  have hc0 : Ch F w w1 := (((Ch.refl F w).alloc (.cells #[.pointer (some ⟨g, 0, none⟩), .int .i64 0] 254))).trans hc (fun k hk => by
    simp only [List.mem_cons] at hk
    rcases hk with rfl | hk
    · right; omega
    · exact .inl hk)
  have hz := hc0.size
  have hF0 : ∀ k ∈ F', k ∈ F ∨ w.heap.size ≤ k := fun k hk => (hF' k hk).imp id (fun e => by simp at e; omega)
  have hrel := hsim.rel
  have hext := hsim.ext
  have HC0 := Lib.hid hc0; clear hc0
  have HF0 := Lib.hid hF0; clear hF0
  have HM := Lib.hid hm; clear hm
  have HEXT := Lib.hid hext; clear hext
  clear hc hF' hsim
  rcases hrel with ⟨he, rfl⟩ | ⟨he, hp⟩
  · have hw : rres G R = (R.1.1, R.2, 0) := by unfold rres; rw [if_neg (by simp [he])]
    have hww := HWW.out
    rw [hw] at hww
    subst hww
    rw [he] at m1
    have hl := hl he
    subst hl
    clear hw HOK
    have HE := Lib.hid he; clear he
    go_wp2_with fail
    go_ret2
    exact ⟨rfl, F', HM.out.gin, HC0.out, HF0.out, hF2⟩
  · have hw : rres G R = (G, 0, 201) := by unfold rres; rw [if_pos (by simp [he]), he]
    have hww := HWW.out
    rw [hw] at hww
    subst hww
    rw [hp] at m1
    have hcut := Cut_g HM.out.gin G.nodes.length (by omega) (by omega)
    rw [doCut_back HOK.out HEXT.out] at hcut
    have hmlt := HM.out.bk.lt
    have hmF := HM.out.apart
    clear hw hl
    have HE := Lib.hid he; clear he
    have HP := Lib.hid hp; clear hp
    have HMF := Lib.hid hmF; clear hmF
    go_wp2_with fail
    refine hcut.mono ?_
    rintro e w4 ⟨rfl, F4, hg4, hc4, hF4, hF42⟩
    have hm4 : w4.cell? ⟨w.heap.size, 1, none⟩ = some (.int .i64 201) := (hc4.cell (p := ⟨w.heap.size, 1, none⟩) hmlt HMF.out).trans m1
    clear m1
    have HG4 := Lib.hid hg4; clear hg4
    have HC4 := Lib.hid hc4; clear hc4
    have HF4 := Lib.hid hF4; clear hF4
    go_wp2_with fail
    refine Ord.St.door (fun _ => True) [.fl, .fl, .fl, .fl, .rd, .fl, .fl] [0, 0, 2, 6, 14, 1, 63] [0, 1, 2, 3, 4, 5, 6] mixed (by kernel_rfl) rfl ?_
    refine Ord.St.fl2 (T' := ?_) 0 [1, 2, 3, 4, 5, 6] _ _ rfl (by kernel_rfl) rfl rfl rfl rfl (fun K w' hk => ?_) ?_
    rotate_left
    · go_step; exact hk
    refine Ord.St.fl2 (T' := ?_) 1 [2, 3, 4, 5, 6] _ _ rfl (by kernel_rfl) rfl rfl rfl rfl (fun K w' hk => ?_) ?_
    rotate_left
    · go_step; exact hk
    refine Ord.St.fl2 (T' := ?_) 2 [3, 4, 5, 6] _ _ rfl (by kernel_rfl) rfl rfl rfl rfl (fun K w' hk => ?_) ?_
    rotate_left
    · go_step; exact hk
    refine Ord.St.fl2 (T' := ?_) 3 [4, 5, 6] _ _ rfl (by kernel_rfl) rfl rfl rfl rfl (fun K w' hk => ?_) ?_
    rotate_left
    · go_step; exact hk
    refine Ord.St.rd2 (T' := ?_) 4 [5, 6] _ _ rfl (by kernel_rfl) rfl rfl rfl rfl (fun K hk => ?_) ?_
    rotate_left
    · go_step; exact hk
    refine Ord.St.fl2 (T' := ?_) 5 [6] _ _ rfl (by kernel_rfl) rfl rfl rfl rfl (fun K w' hk => ?_) ?_
    rotate_left
    · go_step; exact hk
    refine Ord.St.fl2 (T' := ?_) 6 [] _ _ rfl (by kernel_rfl) rfl rfl rfl rfl (fun K w' hk => ?_) ?_
    rotate_left
    · go_step; exact hk
    refine Ord.St.nil ?_
    go_wp2_with fail
    go_ret2
    refine ⟨rfl, GTo.mk (F' := F4) (HG4.out.same (F' := []) (Ch.refl _ _).drew (by simp)) (HC0.out.trans HC4.out.drew HF0.out) (fun k hk => ?_) (hF42.trans hF2)⟩
    rcases HF4.out k hk with e | e
    · exact HF0.out k e
    · exact .inr (by omega)
end
end Go.Proofs.Ytkedpifopclipaa
namespace Go.Aig
def rightW (n : Int) : Bool := decide (1 ≤ n) && decide (n ≤ 17)
def badIn (G : Gra) (x : List Int) : Bool := x.any fun r => !right G.nodes r
def badAs (n0 : Nat) (x : List Int) : Bool := !rightW x.length || (x.length : Int) != n0
/-- what check finds wrong -/
def chk (G : Gra) (ws : List (List Int)) : Nat :=
  if ws.any (badAs (ws.headD []).length) then 230 else if ws.any (badIn G) then 200 else 0
end Go.Aig
namespace Go.Proofs.Ytkedpifopclipaa
open Go.RowKit Go.Mem Go.Aig
/-- a word as a value: where it lies, its numbers, its capacity -/
structure WV where
  a : Option Addr
  l : List Int
  c : Nat
def WV.val (x : WV) : Value := .slice x.a x.l.length x.c
structure WVok (w : World) (x : WV) : Prop where
  sl : Sl w x.a x.l
  bd : ∀ r ∈ x.l, -9223372036854775808 ≤ r ∧ r ≤ 9223372036854775807
  len : x.l.length ≤ 1000000
theorem WVok.ch {F : List Nat} {w w' : World} {x : WV} (h : WVok w x) (hc : Ch F w w') (hF : ∀ p, x.a = some p → p.block ∉ F) : WVok w' x := ⟨h.sl.ch hc hF, h.bd, h.len⟩
section
variable {w : World} {g : Nat} {G : Gra} {F : List Nat}
set_option maxRecDepth 100000 in
set_option maxHeartbeats 1000000 in
theorem sright_is (n : Int) : Calls Try.prog 120 #[.int .i64 n] w fun e w' => e = .returned (.bool (rightW n)) ∧ w = w' := by
  unfold rightW
  by_cases h : 1 ≤ n
  · have h1 : decide ((1 : Int) ≤ n) = true := decide_eq_true h
    go_enter Try.func120, Try.ntmps120
    go_wp2_with fail
    go_ret
    exact ⟨by rw [h1]; rfl, rfl⟩
  · have h1 : decide ((1 : Int) ≤ n) = false := decide_eq_false h
    go_enter Try.func120, Try.ntmps120
    go_wp2_with fail
    go_ret
    exact ⟨rfl, rfl⟩
theorem fnvscheck1 : Fnv 190 := fnv_of Try.func190 (by simp [Try.f190]) (by simp [Try.f190])
set_option maxRecDepth 100000 in
set_option maxHeartbeats 1000000 in
theorem scheck1_is (h : GIn w g G F) {bx : Nat} (hb : w.cell? ⟨bx, 0, none⟩ = some (.pointer (some ⟨g, 0, none⟩))) (r : Int) (hr : r ≤ 9223372036854775807) :
    Calls Try.prog 190 (#[.int .i64 r] ++ #[.pointer (some ⟨bx, 0, none⟩)]) w fun e w' => e = .returned (.bool (!right G.nodes r)) ∧ w = w' := by
  show Calls Try.prog 190 #[.int .i64 r, .pointer (some ⟨bx, 0, none⟩)] w _
  have HR := Right_g h r hr
  clear h
  generalize right G.nodes r = q at *
  go_enter Try.func190, Try.ntmps190
  go_wp2_with fail
  refine HR.mono ?_
  rintro e w' ⟨rfl, rfl⟩
  go_wp2_with fail
  go_ret
  exact ⟨ret_bool rfl, rfl⟩
set_option maxRecDepth 100000 in
set_option maxHeartbeats 4000000 in
theorem scheck_is (h : GIn w g G F) {b : Nat} {ws : List WV} (n c : Nat) (hn : ws.length = n) (hn0 : n ≤ 2) (hc : ∀ i x, ws[i]? = some x → w.cell? ⟨b, i, none⟩ = some x.val) (hS : ∀ x ∈ ws, WVok w x) :
    Calls Try.prog 131 #[.pointer (some ⟨g, 0, none⟩), .slice (some ⟨b, 0, none⟩) n c] w fun e w' => e = .returned (.int .i64 (chk G (ws.map WV.l))) ∧ Ch [] w w' := by
  subst hn
  have hW1 : Ch [] w (w.alloc (.cells #[.pointer (some ⟨g, 0, none⟩)] 27)) := (Ch.refl _ _).alloc _
  have H1 := h.same hW1 (by simp)
  have HL := Len_g H1
  have b1 : (w.alloc (.cells #[.pointer (some ⟨g, 0, none⟩)] 27)).cell? ⟨w.heap.size, 0, none⟩ = some (.pointer (some ⟨g, 0, none⟩)) := by go_simp
  have hpos := h.ok.wf.pos
  have HCF : ∀ x ∈ ws, Calls Try.prog 84 #[.slice x.a x.l.length x.c, .func (.func 190) #[] #[.pointer (some ⟨w.heap.size, 0, none⟩)]] (w.alloc (.cells #[.pointer (some ⟨g, 0, none⟩)] 27)) fun e w' => e = .returned (.bool (badIn G x.l)) ∧ (w.alloc (.cells #[.pointer (some ⟨g, 0, none⟩)] 27)) = w' := fun x hx =>
    CFref_is x.c 190 #[.pointer (some ⟨w.heap.size, 0, none⟩)] (fun r => !right G.nodes r) ((hS x hx).ch hW1 (by simp)).sl (fun r hr => scheck1_is H1 b1 r ((hS x hx).bd r hr).2) fnvscheck1
  have hcc : ∀ i x, ws[i]? = some x → (w.alloc (.cells #[.pointer (some ⟨g, 0, none⟩)] 27)).cell? ⟨b, i, none⟩ = some (.slice x.a x.l.length x.c) := fun i x hx => (hW1.cell (p := ⟨b, i, none⟩) (cell_lt (hc i x hx)) (by simp)).trans (hc i x hx)
  have hlen : ∀ x ∈ ws, x.l.length ≤ 1000000 := fun x hx => (hS x hx).len
  have hroom := h.ok.room
  have hmost := h.ok.most
  have hp0 : ((G.nodes.length : Int) == 0) = false := beqN (by omega)
  have HCC := Lib.hid hcc; clear hcc
  have HCF := Lib.hid HCF
  clear hc hS h H1 b1
  generalize hWC : chk G (ws.map WV.l) = WC
  have HWC := Lib.hid hWC; clear hWC
  have HW1 := Lib.hid hW1; clear hW1
  have HLEN := Lib.hid hlen; clear hlen
  go_enter Try.func131, Try.ntmps131
  go_wp2_with fail
  refine wp_scope_straight ?_
  go_wp2_with fail
  refine HL.mono ?_
  rintro e w' ⟨rfl, rfl⟩
  go_wp2_with fail
  refine wp_label ?_
  go_wp2_with fail
  go_loopw [5, 13] (fun e i wr => ∃ k : Nat, k ≤ ws.length ∧ i = .int .i64 k ∧ wr = w.alloc (.cells #[.pointer (some ⟨g, 0, none⟩)] 27) ∧ ((ws.map WV.l).take k).any (badAs ((ws.map WV.l).headD []).length) = false ∧ e = .int .i64 (if ((ws.map WV.l).take k).any (badIn G) then 200 else 0 : Nat)) (fun _ i _ => ws.length - (intOf i).toNat)
  case atStart => exact ⟨0, by omega, rfl, rfl, rfl, rfl⟩
  case round =>
    obtain ⟨k, hk, rfl, rfl, hno, rfl⟩ := hrel
    generalize hE : (if ((ws.map WV.l).take k).any (badIn G) then 200 else 0 : Nat) = E
    have HE := Lib.hid hE; clear hE
    by_cases hlt : k < ws.length
    · obtain ⟨x, hx⟩ : ∃ x, ws[k]? = some x := ⟨_, List.getElem?_eq_getElem hlt⟩
      obtain ⟨x0, hx0⟩ : ∃ x0, ws[0]? = some x0 := ⟨_, List.getElem?_eq_getElem (by omega)⟩
      have c0 := HCC.out 0 x0 hx0
      have c1 := HCC.out k x hx
      have hh0 : ((ws.map WV.l).headD []).length = x0.l.length := by
        cases ws with
        | nil => cases hx0
        | cons y ws => simp at hx0; subst hx0; rfl
      rw [hh0] at hno
      have hxm : (ws.map WV.l)[k]? = some x.l := by simp [hx]
      have hmem : x ∈ ws := List.mem_of_getElem? hx
      have HR := sright_is (w := w.alloc (.cells #[.pointer (some ⟨g, 0, none⟩)] 27)) x.l.length
      have HC := HCF.out x hmem
      have hxl := HLEN.out x hmem
      have hx0l := HLEN.out x0 (List.mem_of_getElem? hx0)
      have HNO := Lib.hid hno; clear hno
      have HH0 := Lib.hid hh0; clear hh0
      have HXM := Lib.hid hxm; clear hxm
      have hchk : badAs x0.l.length x.l = true → chk G (ws.map WV.l) = 230 := fun hb => by
        unfold chk
        rw [HH0.out, if_pos (List.any_eq_true.2 ⟨x.l, List.mem_of_getElem? HXM.out, hb⟩)]
      clear hx hx0 hmem
      by_cases hr : rightW x.l.length = true
      · rw [hr] at HR
        by_cases hll : x.l.length = x0.l.length
        · have hq : ((x.l.length : Int) != (x0.l.length : Int)) = false := by rw [hll]; simp
          have hgood : badAs x0.l.length x.l = false := by unfold badAs; rw [hr, hq]; rfl
          have h1 : ((ws.map WV.l).take (k + 1)).any (badAs x0.l.length) = false := by
            rw [List.take_add_one, HXM.out, List.any_append, HNO.out]; simp [hgood]
          have h2 : (if ((ws.map WV.l).take (k + 1)).any (badIn G) then 200 else 0 : Nat) = if badIn G x.l then 200 else E := by
            rw [List.take_add_one, HXM.out, List.any_append, ← HE.out]
            cases hb : badIn G x.l <;> simp [hb]
          have H1 := Lib.hid h1; clear h1
          have H2 := Lib.hid h2; clear h2
          clear hchk hgood hll hr
          cases hb : badIn G x.l
          · rw [hb] at HC
            have HB := Lib.hid hb; clear hb
            go_wp2_with fail
            refine HR.mono ?_
            rintro e w' ⟨rfl, rfl⟩
            go_wp2_with fail
            refine HC.mono ?_
            rintro e w' ⟨rfl, rfl⟩
            go_wp2_with fail
            go_roundw
            case rel => exact ⟨k + 1, by omega, by go_num, by first | trivial | rfl, by rw [HH0.out]; exact H1.out, by rw [H2.out, HB.out]; rfl⟩
            case measure => simp [intOf]; omega
          · rw [hb] at HC
            have HB := Lib.hid hb; clear hb
            go_wp2_with fail
            refine HR.mono ?_
            rintro e w' ⟨rfl, rfl⟩
            go_wp2_with fail
            refine HC.mono ?_
            rintro e w' ⟨rfl, rfl⟩
            go_wp2_with fail
            go_roundw
            case rel => exact ⟨k + 1, by omega, by go_num, by first | trivial | rfl, by rw [HH0.out]; exact H1.out, by rw [H2.out, HB.out]; rfl⟩
            case measure => simp [intOf]; omega
        · have hq : ((x.l.length : Int) != (x0.l.length : Int)) = true := by simp; omega
          have hbad := hchk (by unfold badAs; rw [hq]; simp)
          have HBAD := Lib.hid hbad; clear hbad hchk hr
          clear HC hll
          go_wp2_with fail
          refine HR.mono ?_
          rintro e w' ⟨rfl, rfl⟩
          go_wp2_with fail
          rw [Exit.noGoto_ret]
          go_ret
          have hwc := HWC.out
          rw [HBAD.out] at hwc
          subst hwc
          exact ⟨rfl, HW1.out⟩
      · have hr0 : rightW x.l.length = false := by simpa using hr
        have hbad := hchk (by unfold badAs; rw [hr0]; rfl)
        have HBAD := Lib.hid hbad; clear hbad hchk hr
        rw [hr0] at HR
        clear HC hr0
        go_wp2_with fail
        refine HR.mono ?_
        rintro e w' ⟨rfl, rfl⟩
        go_wp2_with fail
        rw [Exit.noGoto_ret]
        go_ret
        have hwc := HWC.out
        rw [HBAD.out] at hwc
        subst hwc
        exact ⟨rfl, HW1.out⟩
    · have hwc := HWC.out
      have he := HE.out
      rw [List.take_of_length_le (by rw [List.length_map]; omega)] at hno he
      unfold chk at hwc
      rw [hno, if_neg (by simp), he] at hwc
      subst hwc
      clear HWC hno he
      go_wp2_with fail
      rw [Exit.noGoto_ret]
      go_ret
      exact ⟨rfl, HW1.out⟩
end
end Go.Proofs.Ytkedpifopclipaa
namespace Go.Ord
open Go
def noDefer (o : Oper) : Bool := match o.op with | .defer _ => false | _ => true
theorem noDefer_ne {o : Oper} (h : noDefer o = true) : ∀ c, o.op ≠ .defer c := fun c e => by unfold noDefer at h; rw [e] at h; cases h
theorem wide_in {l n : Nat} {P : Program} {o : Oper} (hq : noDefer o = true) {a : Act} {w : World} {K : Act → World → Prop} {Q : Exit → Act → World → Prop} (h : o.wp P a w K Q) : o.wpIn (Fence.wide.inRound l) n P a w K Q := by
  refine ⟨fun f _ => trivial, ?_⟩
  rw [Oper.semAt_eq _ _ _ (noDefer_ne hq)]
  unfold Oper.wp at h
  cases hr : (execOp a.eval o).run P w with
  | ok x w' =>
    rw [hr] at h
    cases x with
    | enter f args => exact ⟨(fun hd => by cases hd), CallsIn.inRound l ((callsIn_wide (n := n - 1)).2 h)⟩
    | row row args => exact ⟨(fun hd => by cases hd), fun c cs _ => let ⟨v, w1, r, s⟩ := h c cs; ⟨v, w1, r, (stepsIn_wide (P := P)).2 s⟩⟩
    | round => exact h.elim
    | _ => exact h
  | halt x w' =>
    rw [hr] at h
    cases x <;> exact h
theorem any_wide {l n : Nat} {P : Program} {ops : Array Oper} {Q : Exit → Act → World → Prop} {md : Region.Mode} (hnl : ¬ LetsOut Q) (hq : ∀ o ∈ ops.toList, noDefer o = true) : ∀ (m : Nat) (listed : Array Bool) (a : Act) (w : World), wpAny P md ops Q m listed a w → wpAnyIn (Fence.wide.inRound l) n P md ops Q m listed a w := by
  intro m
  induction m with
  | zero => intro listed a w h; exact h
  | succ m ih =>
    intro listed a w h
    refine ⟨h.1, fun i hi => ?_⟩
    have h2 := h.2 i hi
    refine wpOpIn_mono (fun a w => ih _ a w) ?_
    unfold wpOp at h2
    unfold wpOpIn
    cases ho : ops[i]? with
    | none => simpa [ho] using h2
    | some o =>
      have hqo : noDefer o = true := hq o (by
        have := Array.mem_of_getElem? ho
        exact Array.mem_def.1 this)
      simp only [ho] at h2 ⊢
      split
      · rename_i hw; simp only [hw, if_true] at h2; exact wide_in hqo (h2.resolve_right fun h => hnl h.2)
      · rename_i hw
        simp only [hw] at h2
        exact ⟨fun f _ => trivial, h2⟩
section
variable {n : Nat} {P : Program} {l : List Oper} {Q' : Exit → Act → World → Prop}
theorem St.doorR {lp id : Nat} {a : Act} {w : World} (C : World → Prop) (ks : List Kd) (A : List Nat) (R : List Nat) (hm : P.follows .mixedOrders = true) (hqq : l.all noDefer = true) (hs : stat l.toArray ks A = true) (hR : List.range l.length = R)
    (h : St P l ks A C (Q' .normal) R a w.drew) : (Code.region id l.toArray true).wpIn (Fence.wide.inRound lp) n P Q' a w := by
  refine wpIn_mono (Q := only (Q' .normal)) ?_ (fun e a w ⟨he, hq⟩ => he ▸ hq)
  refine wpIn_region_any hm ?_
  subst hR
  have h2 := h List.nodup_range (fun k o e hk _ _ _ => List.mem_range.2 (by have := lt_size hk; simpa using this)) (by simp) (stat_spec hs)
  have := wpAny_of_all (P := P) (C := C) (stat_spec hs) (Q' .normal) l.length (List.range l.length) (Array.replicate l.length false) a w.drew List.nodup_range (by simp) (by simp) (by simp)
    (fun k hk => by simp at hk; simp [hk]) (by simpa using h2)
  have h3 := any_wide (l := lp) (n := n) (only_lets _) (fun o ho => List.all_eq_true.1 hqq o (by simpa using ho)) _ _ _ _ this
  simpa using h3
end
end Go.Ord
namespace Go.Aig
def rop (f : Gra → Nat → Nat → Res) (s : Mk) (a b : Nat) : Mk × Nat := rstep s (f s.1 a b)
def Full2 (f : Gra → Nat → Nat → Res) : Prop := ∀ (G : Gra), Ok G → ∀ a b, a < 2 * G.nodes.length → b < 2 * G.nodes.length → RFull G (f G a b)
theorem full_and : Full2 and := fun _ h _ _ ha hb => and_full h ha hb
theorem full_or : Full2 rOr := fun _ h _ _ ha hb => rOr_full h ha hb
theorem full_xor : Full2 rXor := fun _ h _ _ ha hb => rXor_full h ha hb
theorem eachF_snoc (op : Mk → Nat → Nat → Mk × Nat) (s : Mk) (l : List (Nat × Nat)) (p : Nat × Nat) : eachF op s (l ++ [p]) = eachS op (eachF op s l) p := by
  unfold eachF; rw [List.foldl_append]; rfl
theorem zip_lt {x y : List Nat} {n : Nat} (hx : ∀ r ∈ x, r < n) (hy : ∀ r ∈ y, r < n) : ∀ p ∈ x.zip y, p.1 < n ∧ p.2 < n := fun p hp => by
  obtain ⟨a, b⟩ := p
  exact ⟨hx _ (List.of_mem_zip hp).1, hy _ (List.of_mem_zip hp).2⟩
end Go.Aig
namespace Go.Proofs.Ytkedpifopclipaa
open Go.RowKit Go.Mem Go.Aig
/-- the blocks around a loop that makes a word: m the maker, X what else is written, B the first block behind, ob the word's box, mb the maker's box -/
structure EF (w : World) (m : Nat) (X F : List Nat) (B ob mb : Nat) : Prop where
  low : ∀ k ∈ m :: (X ++ F), k < w.heap.size
  ob1 : w.heap.size ≤ ob
  ob2 : ob < B
  mb1 : w.heap.size ≤ mb
  mb2 : mb < B
  ne : ob ≠ mb
  mX : m ∉ X
  XF : ∀ k ∈ X, k ∉ F
/-- what is known between two rounds of a loop that makes a word -/
structure EI (w : World) (g m : Nat) (G : Gra) (X F : List Nat) (B ob mb n : Nat) (R : Mk) (out : List Nat) (W : World) (v : Value) (P : Mk) (l : List Nat) (F' : List Nat) : Prop where
  sim : Sim G P R
  out : R.2 = 0 → l = out
  len : l.length = n
  all : ∀ r ∈ l, r < 2 * P.1.nodes.length
  mem : MIn W g m P F'
  ch : Ch (m :: (X ++ F)) w W
  own : ∀ k ∈ F', k ∈ F ∨ B + 2 ≤ k
  map : F'[2]? = F[2]?
  ob : blk W ob [v]
  mb : blk W mb [.pointer (some ⟨m, 0, none⟩)]
  row : row W 45 1 v l.length (refsCells l)
  fresh : ∀ k, v.ownBlock = some k → B + 2 ≤ k ∧ k ∉ F'
def Kok (w : World) (m : Nat) (X F : List Nat) (B ob : Nat) (K : List Nat) : Prop := ∀ k ∈ K, (k < w.heap.size ∧ k ∉ m :: (X ++ F)) ∨ (w.heap.size ≤ k ∧ k < B ∧ k ≠ ob)
theorem _root_.Go.Books.trans {B : Nat} {a b c : World} (h : Books B a b) (h' : Books B b c) : Books B a c := ⟨h'.1.trans h.1, h'.2.trans h.2⟩
theorem _root_.Go.Kept.trans {K : List Nat} {a b c : World} (h : Kept K a b) (h' : Kept K b c) : Kept K a c := fun k hk => (h' k hk).trans (h k hk)
theorem Kok.ch0 {w A A' : World} {m : Nat} {X F : List Nat} {B ob : Nat} {K : List Nat} (h : Kok w m X F B ob K) (hw : w.heap.size ≤ B) (hz : B + 2 ≤ A.heap.size) (hc : Ch [] A A') : Kept K A A' :=
  Kept.of_ch hc fun k hk => ⟨by rcases h k hk with e | e <;> omega, by simp⟩
theorem _root_.Go.Books.drew {B : Nat} {a : World} : Books B a a.drew := ⟨rfl, rfl⟩
section
variable {w : World} {g m : Nat} {G : Gra} {X F : List Nat} {B ob mb n : Nat} {R : Mk} {out : List Nat} {A A' : World} {v : Value} {P : Mk} {l F' : List Nat}
theorem EI.sep (h : EI w g m G X F B ob mb n R out A v P l F') (e : EF w m X F B ob mb) : ∀ k ∈ m :: (X ++ F'), (k ∈ m :: (X ++ F) ∧ k < w.heap.size) ∨ (k ∈ F' ∧ B + 2 ≤ k) := fun k hk => by
  simp only [List.mem_cons, List.mem_append] at hk
  rcases hk with rfl | hk | hk
  · exact .inl ⟨by simp, e.low _ (by simp)⟩
  · exact .inl ⟨by simp [hk], e.low _ (by simp [hk])⟩
  · rcases h.own k hk with h1 | h1
    · exact .inl ⟨by simp [h1], e.low _ (by simp [h1])⟩
    · exact .inr ⟨hk, h1⟩
theorem EI.same (h : EI w g m G X F B ob mb n R out A v P l F') (e : EF w m X F B ob mb) (hc : Ch [B, B + 1] A A') : EI w g m G X F B ob mb n R out A' v P l F' := by
  have ho := e.ob1; have ho2 := e.ob2; have hm1 := e.mb1; have hm2 := e.mb2
  have hs := h.sep e
  refine ⟨h.sim, h.out, h.len, h.all, h.mem.same hc ?_, h.ch.trans hc (by intro k hk; simp at hk; omega), h.own, h.map, h.ob.ch hc (by simp; omega), h.mb.ch hc (by simp; omega), h.row.ch hc ?_, h.fresh⟩
  · intro k hk
    have := hs k (by simp only [List.mem_cons, List.mem_append] at hk ⊢; rcases hk with e | e <;> simp [e])
    simp; omega
  · intro k hk
    have := (h.fresh k hk).1
    simp; omega
theorem EI.ch0 (h : EI w g m G X F B ob mb n R out A v P l F') (e : EF w m X F B ob mb) (hc : Ch [] A A') : EI w g m G X F B ob mb n R out A' v P l F' := h.same e (hc.mono (by simp))
theorem EI.notX {bc : Nat} (h : EI w g m G [bc] F B ob mb n R out A v P l F') (e : EF w m [bc] F B ob mb) : bc ∉ m :: F' := fun hk => by
  have h1 := e.mX
  have h2 := e.XF bc (by simp)
  have h3 := e.low bc (by simp)
  have h4 := e.ob1; have h5 := e.ob2
  simp only [List.mem_cons] at hk
  rcases hk with rfl | hk
  · simp at h1
  · rcases h.own bc hk with h6 | h6
    · exact h2 h6
    · omega
theorem EI.notM (h : EI w g m G X F B ob mb n R out A v P l F') (e : EF w m X F B ob mb) : mb ∉ F' := fun hk => by
  have h1 := e.mb1; have h2 := e.mb2
  have := h.sep e mb (by simp [hk])
  omega
theorem EI.notR (h : EI w g m G X F B ob mb n R out A v P l F') (e : EF w m X F B ob mb) {k : Nat} (hk : k < w.heap.size) (hn : k ∉ m :: (X ++ F)) : k ∉ F' := fun hk2 => by
  have h1 := e.mb1; have h2 := e.mb2
  rcases h.sep e k (by simp [hk2]) with h3 | h3
  · exact hn h3.1
  · omega
/-- a step of the maker -/
theorem EI.more (h : EI w g m G X F B ob mb n R out A v P l F') (e : EF w m X F B ob mb) (hz : B + 2 ≤ A.heap.size) {P' R' : Mk} {F1 : List Nat} (hm : MIn A' g m P' F1) (hc : Ch (m :: (X ++ F')) A A') (hF : ∀ k ∈ F1, k ∈ F' ∨ A.heap.size ≤ k) (hmap : F1[2]? = F'[2]?)
    (hs : Sim G P' R') (hext : Ext P.1 P'.1) (hr : R.2 ≠ 0 → R'.2 ≠ 0) : Books B A A' ∧ EI w g m G X F B ob mb n R' out A' v P' l F1 ∧ ∀ K, Kok w m X F B ob K → Kept K A A' := by
  have ho := e.ob1; have ho2 := e.ob2; have hm1 := e.mb1; have hm2 := e.mb2
  have hsep := h.sep e
  have hown : ∀ k, v.ownBlock = some k → k < A.heap.size := fun k hk => (h.row.lt k hk).2
  have hcz := hc.size
  refine ⟨Books.of_ch hc hz (fun k hk => by have := hsep k hk; omega), ⟨hs, fun hz => h.out ?_, h.len, fun r hr => hext.lt (h.all r hr), hm, h.ch.trans hc (fun k hk => (hsep k hk).imp (fun e => e.1) (fun e => by omega)), fun k hk => ?_, hmap.trans h.map, h.ob.ch hc (fun hk => by have := hsep _ hk; omega), h.mb.ch hc (fun hk => by have := hsep _ hk; omega), h.row.ch hc (fun k hk hk2 => ?_), fun k hk => ⟨(h.fresh k hk).1, fun hk2 => ?_⟩⟩, fun K hK => Kept.of_ch hc (fun k hk => ?_)⟩
  · by_cases h0 : R.2 = 0
    · exact h0
    · exact absurd hz (hr h0)
  · rcases hF k hk with h1 | h1
    · exact h.own k h1
    · exact .inr (by omega)
  · have h1 := h.fresh k hk
    rcases hsep k hk2 with h2 | h2
    · omega
    · exact h1.2 h2.1
  · rcases hF k hk2 with h1 | h1
    · exact (h.fresh k hk).2 h1
    · have := hown k hk; omega
  · rcases hK k hk with ⟨h1, h2⟩ | ⟨h1, h2, h3⟩
    · have h4 := h.ch.size
      refine ⟨by omega, fun hk2 => ?_⟩
      rcases hsep k hk2 with h5 | h5
      · exact h2 h5.1
      · omega
    · refine ⟨by omega, fun hk2 => ?_⟩
      have := hsep k hk2; omega
/-- a reference is appended -/
theorem EI.app {va : Option Addr} {vc : Nat} (h : EI w g m G X F B ob mb n R out A (.slice va l.length vc) P l F') (e : EF w m X F B ob mb) (hz : B + 2 ≤ A.heap.size) {r : Nat} {o : Obj} {w4 : World} {gb gc : Nat} (hrow : Go.Mem.row w4 45 1 (.slice (some ⟨gb, 0, none⟩) (l.length + 1) gc) (l.length + 1) (refsCells l ++ [.int .i64 r]))
    (hc4 : Ch (Value.slice va l.length vc).ownBlock.toList (A.alloc o) w4) (hf4 : ∀ k, (Value.slice (some ⟨gb, 0, none⟩) (l.length + 1) gc).ownBlock = some k → (Value.slice va l.length vc).ownBlock = some k ∨ (A.alloc o).heap.size ≤ k) (hr : r < 2 * P.1.nodes.length) {out' : List Nat} (hout : R.2 = 0 → out' = out ++ [r]) :
    Books B A (w4.setCell ⟨ob, 0, none⟩ (.slice (some ⟨gb, 0, none⟩) (l.length + 1) gc)) ∧ EI w g m G X F B ob mb (n + 1) R out' (w4.setCell ⟨ob, 0, none⟩ (.slice (some ⟨gb, 0, none⟩) (l.length + 1) gc)) (.slice (some ⟨gb, 0, none⟩) (l.length + 1) gc) P (l ++ [r]) F' ∧ ∀ K, Kok w m X F B ob K → Kept K A (w4.setCell ⟨ob, 0, none⟩ (.slice (some ⟨gb, 0, none⟩) (l.length + 1) gc)) := by
  have ho := e.ob1; have ho2 := e.ob2; have hm1 := e.mb1; have hm2 := e.mb2
  have hsep := h.sep e
  have hfresh := h.fresh
  have hownlt : ∀ k, (Value.slice va l.length vc).ownBlock = some k → k < A.heap.size := fun k hk => (h.row.lt k hk).2
  have hA : Ch (Value.slice va l.length vc).ownBlock.toList A w4 := ((Ch.refl _ A).alloc o).trans hc4 (fun k hk => .inl hk)
  have hA5 : Ch ((Value.slice va l.length vc).ownBlock.toList ++ [ob]) A (w4.setCell ⟨ob, 0, none⟩ (.slice (some ⟨gb, 0, none⟩) (l.length + 1) gc)) := (hA.mono (fun k hk => .inl (List.mem_append_left _ hk))).setCell (.inl (by simp)) _
  have hL : ∀ k ∈ (Value.slice va l.length vc).ownBlock.toList ++ [ob], (B + 2 ≤ k ∧ k ∉ F') ∨ k = ob := fun k hk => by
    simp only [List.mem_append, Option.mem_toList, List.mem_singleton] at hk
    exact hk.imp (fun e => hfresh k e) id
  have hgb : (B + 2 ≤ gb ∧ gb ∉ F') := by
    rcases hf4 gb rfl with h1 | h1
    · exact hfresh gb h1
    · rw [World.size_alloc] at h1
      exact ⟨by omega, fun hk => by have := GIn.lt h.mem.gin gb hk; omega⟩
  have hnot : ∀ k ∈ m :: (X ++ F'), k ∉ (Value.slice va l.length vc).ownBlock.toList ++ [ob] := fun k hk hk2 => by
    have h1 := hsep k hk
    rcases hL k hk2 with h2 | h2
    · rcases h1 with h1 | h1
      · omega
      · exact h2.2 h1.1
    · omega
  refine ⟨Books.of_ch hA5 hz (fun k hk => by have := hL k hk; omega), ⟨h.sim, fun hz0 => ?_, by simp [h.len], fun q hq => ?_, h.mem.same hA5 (fun k hk => hnot k (by simp only [List.mem_cons, List.mem_append] at hk ⊢; rcases hk with e | e <;> simp [e])), h.ch.trans hA5 (fun k hk => .inr (by have := hL k hk; omega)), h.own, h.map, (h.ob.ch hA (fun hk => by have := (hfresh ob (by simpa using hk)).1; omega)).set (i := 0) _, (h.mb.ch hA (fun hk => by have := (hfresh mb (by simpa using hk)).1; omega)).other (by exact e.ne.symm) _, ?_, fun k hk => ?_⟩, fun K hK => Kept.of_ch hA5 (fun k hk => ?_)⟩
  · rw [hout hz0, h.out hz0]
  · simp only [List.mem_append, List.mem_singleton] at hq
    rcases hq with hq | rfl
    · exact h.all q hq
    · exact hr
  · rw [show refsCells (l ++ [r]) = refsCells l ++ [.int .i64 r] from by simp [refsCells], List.length_append]
    refine hrow.ch (F := [ob]) ((Ch.refl _ _).setCell (by simp) _) (fun k hk => ?_)
    cases hk
    simp; omega
  · cases hk
    exact hgb
  · have h4 := h.ch.size
    rcases hK k hk with ⟨h1, h2⟩ | ⟨h1, h2, h3⟩
    · refine ⟨by omega, fun hk2 => ?_⟩
      have := hL k hk2; omega
    · refine ⟨by omega, fun hk2 => ?_⟩
      have := hL k hk2; omega
/-- the end of such a loop -/
theorem EI.done (h : EI w g m G X F B ob mb n R out A v P l F') (e : EF w m X F B ob mb) (o : Obj) : MVo w g m P X F v l (A.putObj B o) := by
  have ho := e.ob1; have ho2 := e.ob2
  have hcD : Ch [B] A (A.putObj B o) := ch_put (by simp)
  have hsep := h.sep e
  refine ⟨F', h.mem.same hcD (fun k hk => ?_), h.ch.trans hcD (fun k hk => by simp at hk; omega), fun k hk => (h.own k hk).imp id (fun e => by omega), h.map, h.row.ch hcD (fun k hk => by have := (h.fresh k hk).1; simp; omega), fun k hk => ?_⟩
  · have := hsep k (by simp only [List.mem_cons, List.mem_append] at hk ⊢; rcases hk with e | e <;> simp [e])
    simp; omega
  · obtain ⟨f1, f2⟩ := h.fresh k hk
    have := e.low m (by simp)
    exact ⟨by omega, f2, by omega⟩
end
theorem MVo.to {w w' : World} {g m : Nat} {P : Mk} {F : List Nat} {v : Value} {l : List Nat} (h : MVo w g m P [] F v l w') : MTo w g m P F w' := by
  obtain ⟨F', h1, h2, h3, h4, _⟩ := h
  exact ⟨F', h1, h2, h3, h4⟩
/-- what is known between two rounds of a loop that makes a reference -/
structure EL (w : World) (g m : Nat) (G : Gra) (X F : List Nat) (B ob mb : Nat) (R : Mk) (out : Nat) (W : World) (P : Mk) (r : Nat) (F' : List Nat) : Prop where
  sim : Sim G P R
  out : R.2 = 0 → r = out
  lt : r < 2 * P.1.nodes.length
  mem : MIn W g m P F'
  ch : Ch (m :: (X ++ F)) w W
  own : ∀ k ∈ F', k ∈ F ∨ B + 2 ≤ k
  map : F'[2]? = F[2]?
  ob : blk W ob [.int .i64 r]
  mb : blk W mb [.pointer (some ⟨m, 0, none⟩)]
section
variable {w : World} {g m : Nat} {G : Gra} {X F : List Nat} {B ob mb : Nat} {R : Mk} {out : Nat} {A A' : World} {P : Mk} {r : Nat} {F' : List Nat}
theorem EL.sep (h : EL w g m G X F B ob mb R out A P r F') (e : EF w m X F B ob mb) : ∀ k ∈ m :: (X ++ F'), (k ∈ m :: (X ++ F) ∧ k < w.heap.size) ∨ (k ∈ F' ∧ B + 2 ≤ k) := fun k hk => by
  simp only [List.mem_cons, List.mem_append] at hk
  rcases hk with rfl | hk | hk
  · exact .inl ⟨by simp, e.low _ (by simp)⟩
  · exact .inl ⟨by simp [hk], e.low _ (by simp [hk])⟩
  · rcases h.own k hk with h1 | h1
    · exact .inl ⟨by simp [h1], e.low _ (by simp [h1])⟩
    · exact .inr ⟨hk, h1⟩
theorem EL.same (h : EL w g m G X F B ob mb R out A P r F') (e : EF w m X F B ob mb) (hc : Ch [B, B + 1] A A') : EL w g m G X F B ob mb R out A' P r F' := by
  have ho := e.ob1; have ho2 := e.ob2; have hm1 := e.mb1; have hm2 := e.mb2
  have hs := h.sep e
  refine ⟨h.sim, h.out, h.lt, h.mem.same hc ?_, h.ch.trans hc (by intro k hk; simp at hk; omega), h.own, h.map, h.ob.ch hc (by simp; omega), h.mb.ch hc (by simp; omega)⟩
  intro k hk
  have := hs k (by simp only [List.mem_cons, List.mem_append] at hk ⊢; rcases hk with e | e <;> simp [e])
  simp; omega
theorem EL.ch0 (h : EL w g m G X F B ob mb R out A P r F') (e : EF w m X F B ob mb) (hc : Ch [] A A') : EL w g m G X F B ob mb R out A' P r F' := h.same e (hc.mono (by simp))
theorem EL.more (h : EL w g m G X F B ob mb R out A P r F') (e : EF w m X F B ob mb) (hz : B + 2 ≤ A.heap.size) {P' R' : Mk} {F1 : List Nat} (hm : MIn A' g m P' F1) (hc : Ch (m :: (X ++ F')) A A') (hF : ∀ k ∈ F1, k ∈ F' ∨ A.heap.size ≤ k) (hmap : F1[2]? = F'[2]?)
    (hs : Sim G P' R') (hext : Ext P.1 P'.1) (hr : R.2 ≠ 0 → R'.2 ≠ 0) : Books B A A' ∧ EL w g m G X F B ob mb R' out A' P' r F1 ∧ ∀ K, Kok w m X F B ob K → Kept K A A' := by
  have ho := e.ob1; have ho2 := e.ob2; have hm1 := e.mb1; have hm2 := e.mb2
  have hsep := h.sep e
  have hcz := hc.size
  refine ⟨Books.of_ch hc hz (fun k hk => by have := hsep k hk; omega), ⟨hs, fun hz => h.out ?_, hext.lt h.lt, hm, h.ch.trans hc (fun k hk => (hsep k hk).imp (fun e => e.1) (fun e => by omega)), fun k hk => ?_, hmap.trans h.map, h.ob.ch hc (fun hk => by have := hsep _ hk; omega), h.mb.ch hc (fun hk => by have := hsep _ hk; omega)⟩, fun K hK => Kept.of_ch hc (fun k hk => ?_)⟩
  · by_cases h0 : R.2 = 0
    · exact h0
    · exact absurd hz (hr h0)
  · rcases hF k hk with h1 | h1
    · exact h.own k h1
    · exact .inr (by omega)
  · rcases hK k hk with ⟨h1, h2⟩ | ⟨h1, h2, h3⟩
    · have h4 := h.ch.size
      refine ⟨by omega, fun hk2 => ?_⟩
      rcases hsep k hk2 with h5 | h5
      · exact h2 h5.1
      · omega
    · refine ⟨by omega, fun hk2 => ?_⟩
      have := hsep k hk2; omega
theorem EL.put (h : EL w g m G X F B ob mb R out A P r F') (e : EF w m X F B ob mb) (hz : B + 2 ≤ A.heap.size) {r' out' : Nat} (hr : r' < 2 * P.1.nodes.length) (hout : R.2 = 0 → r' = out') :
    Books B A (A.setCell ⟨ob, 0, none⟩ (.int .i64 r')) ∧ EL w g m G X F B ob mb R out' (A.setCell ⟨ob, 0, none⟩ (.int .i64 r')) P r' F' ∧ ∀ K, Kok w m X F B ob K → Kept K A (A.setCell ⟨ob, 0, none⟩ (.int .i64 r')) := by
  have ho := e.ob1; have ho2 := e.ob2; have hm1 := e.mb1; have hm2 := e.mb2
  have hsep := h.sep e
  have hA5 : Ch [ob] A (A.setCell ⟨ob, 0, none⟩ (.int .i64 r')) := (Ch.refl _ _).setCell (.inl (by simp)) _
  refine ⟨Books.of_ch hA5 hz (fun k hk => by simp at hk; omega), ⟨h.sim, hout, hr, h.mem.same hA5 (fun k hk => ?_), h.ch.trans hA5 (fun k hk => .inr (by simp at hk; omega)), h.own, h.map, h.ob.set (i := 0) _, h.mb.other (by exact e.ne.symm) _⟩, fun K hK => Kept.of_ch hA5 (fun k hk => ?_)⟩
  · have := hsep k (by simp only [List.mem_cons, List.mem_append] at hk ⊢; rcases hk with e | e <;> simp [e])
    simp; omega
  · have h4 := h.ch.size
    rcases hK k hk with ⟨h1, h2⟩ | ⟨h1, h2, h3⟩
    · exact ⟨by omega, by simp; omega⟩
    · exact ⟨by omega, by simp; omega⟩
theorem EL.done (h : EL w g m G [] F B ob mb R out A P r F') (e : EF w m [] F B ob mb) (o : Obj) : MTo w g m P F (A.putObj B o) := by
  have ho := e.ob1; have ho2 := e.ob2
  have hcD : Ch [B] A (A.putObj B o) := ch_put (by simp)
  have hsep := h.sep e
  refine ⟨F', h.mem.same hcD (fun k hk => ?_), h.ch.trans hcD (fun k hk => by simp at hk; omega), fun k hk => (h.own k hk).imp id (fun e => by omega), h.map⟩
  have := hsep k (by simp only [List.mem_cons, List.mem_append] at hk ⊢; rcases hk with e | e <;> simp [e])
  simp; omega
end
def ELe (w : World) (g m : Nat) (G : Gra) (X F : List Nat) (B ob mb : Nat) (R : Mk) (out : Nat) (W : World) : Prop := ∃ P r F', EL w g m G X F B ob mb R out W P r F'
def EIe (w : World) (g m : Nat) (G : Gra) (X F : List Nat) (B ob mb n : Nat) (R : Mk) (out : List Nat) (W : World) : Prop := ∃ v P l F', EI w g m G X F B ob mb n R out W v P l F'
theorem wp_named {P : Program} {c : Code} {Q : Exit → Act → World → Prop} {a : Act} {w : World} (h : ∀ W, W = w → c.wp P Q a W) : c.wp P Q a w := h w rfl
end Go.Proofs.Ytkedpifopclipaa
namespace Go.Proofs.Ytkedpifopclipaa
open Go.RowKit Go.Mem Go.Aig
attribute [local go_sem] Oper.semAt_some
section
variable {w : World} {g m : Nat} {G : Gra} {F : List Nat}
end
end Go.Proofs.Ytkedpifopclipaa
namespace Go.Aig
theorem rstep_zero {s : Mk} {R : Res} (h : (rstep s R).1.2 = 0) : s.2 = 0 := by
  by_cases hs : s.2 = 0
  · exact hs
  · rw [rstep_bad hs] at h; exact h
theorem sumF_snoc (n : Nat) (s : Mk) (l : List (Nat × Nat)) (c : Nat) (p : Nat × Nat) : sumF n s (l ++ [p]) c = sumS n (sumF n s l c) p := by
  unfold sumF; rw [List.foldl_append]; rfl
end Go.Aig
namespace Go.Proofs.Ytkedpifopclipaa
open Go.RowKit Go.Mem Go.Aig
attribute [local go_sem] Oper.semAt_some
theorem fnvssum1 : Fnv 191 := fnv_of Try.func191 (by simp [Try.f191]) (by simp [Try.f191])
theorem wpIn_named {F : Fence} {n : Nat} {P : Program} {c : Code} {Q : Exit → Act → World → Prop} {a : Act} {w : World} (h : ∀ W, W = w → c.wpIn F n P Q a W) : c.wpIn F n P Q a w := h w rfl
section
variable {w : World} {g m : Nat} {G : Gra} {F : List Nat}
theorem And_r {F : List Nat} {G : Gra} (h : GIn w g G F) {a b : Nat} (ha : a < 2 * G.nodes.length) (hb : b < 2 * G.nodes.length) : Calls Try.prog 69 #[.pointer (some ⟨g, 0, none⟩), .int .i64 a, .int .i64 b] w fun e w' => e = .returned (.tuple #[.int .i64 (and G a b).2.1, .int .i64 (and G a b).2.2]) ∧ GTo w g (and G a b).1 F w' := by
  have hr := h.ok.room; have hm := h.ok.most
  have := And_g h a b (by omega) (by omega)
  rw [doAnd_r ha hb] at this
  exact this
theorem Or_r {F : List Nat} {G : Gra} (h : GIn w g G F) {a b : Nat} (ha : a < 2 * G.nodes.length) (hb : b < 2 * G.nodes.length) : Calls Try.prog 70 #[.pointer (some ⟨g, 0, none⟩), .int .i64 a, .int .i64 b] w fun e w' => e = .returned (.tuple #[.int .i64 (rOr G a b).2.1, .int .i64 (rOr G a b).2.2]) ∧ GTo w g (rOr G a b).1 F w' := by
  have hr := h.ok.room; have hm := h.ok.most
  have := Or_g h a b (by omega) (by omega)
  rw [doOr_r ha hb] at this
  exact this
theorem Xor_r {F : List Nat} {G : Gra} (h : GIn w g G F) {a b : Nat} (ha : a < 2 * G.nodes.length) (hb : b < 2 * G.nodes.length) : Calls Try.prog 194 #[.pointer (some ⟨g, 0, none⟩), .int .i64 a, .int .i64 b] w fun e w' => e = .returned (.tuple #[.int .i64 (rXor G a b).2.1, .int .i64 (rXor G a b).2.2]) ∧ GTo w g (rXor G a b).1 F w' := by
  have hr := h.ok.room; have hm := h.ok.most
  have := Xor_g h a b (by omega) (by omega)
  rw [doXor_r ha hb] at this
  exact this
/-- between two rounds of sum -/
structure ES (w : World) (g m : Nat) (G : Gra) (bc : Nat) (F : List Nat) (B ob mb n : Nat) (R : Mk × List Nat × Nat) (W : World) (v : Value) (P : Mk) (l F' : List Nat) (c : Nat) : Prop where
  ei : EI w g m G [bc] F B ob mb n R.1 R.2.1 W v P l F'
  cb : blk W bc [.int .i64 c]
  lt : c < 2 * P.1.nodes.length
  cR : R.1.2 = 0 → c = R.2.2
def ESe (w : World) (g m : Nat) (G : Gra) (bc : Nat) (F : List Nat) (B ob mb n : Nat) (R : Mk × List Nat × Nat) (W : World) : Prop := ∃ v P l F' c, ES w g m G bc F B ob mb n R W v P l F' c
theorem sumF_len (n : Nat) (s : Mk) (c : Nat) (l : List (Nat × Nat)) : (sumF n s l c).2.1.length = l.length := by
  have : ∀ (l : List (Nat × Nat)) (q : Mk × List Nat × Nat), (l.foldl (sumS n) q).2.1.length = q.2.1.length + l.length := by
    intro l
    induction l with
    | nil => intro q; rfl
    | cons p l ih =>
      intro q
      rw [List.foldl_cons, ih]
      unfold sumS
      dsimp only
      split <;> simp <;> omega
  have h := this l (s, [], c)
  simpa [sumF] using h
set_option maxRecDepth 100000 in
set_option maxHeartbeats 4000000 in
theorem ssum1_is (h : MIn w g m (G, 0) F)
    {x y : List Nat} {xa ya : Option Addr} (len xc yc : Nat) (hxl : x.length = len) (hyl : y.length = len) (hlen : len ≤ 1000) {bx b2 bc bg c0 : Nat} (hbx : w.cell? ⟨bx, 0, none⟩ = some (.slice xa len xc)) (hby : w.cell? ⟨b2, 0, none⟩ = some (.slice ya len yc)) (hbc : blk w bc [.int .i64 c0]) (hbg : w.cell? ⟨bg, 0, none⟩ = some (.pointer (some ⟨g, 0, none⟩)))
    (hc0l : c0 < 2 * G.nodes.length) (hbxF : bx ∉ m :: bc :: F) (hbgF : bg ∉ m :: bc :: F) (hbcF : bc ∉ m :: F) (hx : Sl w xa (x.map fun (r : Nat) => (r : Int))) (hy : Sl w ya (y.map fun (r : Nat) => (r : Int))) (hxa : ∀ k ∈ ablk xa, k ∉ m :: bc :: F ∧ k < w.heap.size) (hya : ∀ k ∈ ablk ya, k ∉ m :: bc :: F ∧ k < w.heap.size)
    (hxr : ∀ r ∈ x, r < 2 * G.nodes.length) (hyr : ∀ r ∈ y, r < 2 * G.nodes.length) :
    Calls Try.prog 191 (#[.pointer (some ⟨m, 0, none⟩)] ++ #[.pointer (some ⟨bx, 0, none⟩), .pointer (some ⟨b2, 0, none⟩), .pointer (some ⟨bc, 0, none⟩), .pointer (some ⟨bg, 0, none⟩)]) w fun e W' => ∃ v P l, e = .returned v ∧ Sim G P (sumF len (G, 0) (x.zip y) c0).1 ∧ ((sumF len (G, 0) (x.zip y) c0).1.2 = 0 → l = (sumF len (G, 0) (x.zip y) c0).2.1) ∧ MVo w g m P [bc] F v l W' := by
  show Calls Try.prog 191 #[.pointer (some ⟨m, 0, none⟩), .pointer (some ⟨bx, 0, none⟩), .pointer (some ⟨b2, 0, none⟩), .pointer (some ⟨bc, 0, none⟩), .pointer (some ⟨bg, 0, none⟩)] w _
  have hml := h.bk.lt
  have hFl := h.gin.lt
  have hok := h.gin.ok
  have hbclt := hbc.lt
  have hbglt := cell_lt hbg
  have hbxlt := cell_lt hbx
  have hbylt := cell_lt hby
  simp only at hbxlt hbylt hbglt
  have HPAIR := fun W => spairs_is (w := W) xa ya len xc len yc
  have H := Lib.hid h; clear h
  have HX := Lib.hid hx; clear hx
  have HY := Lib.hid hy; clear hy
  refine (callsIn_wide (n := 4)).1 ?_
  refine callsIn_of_wp_marks Try.func191 rfl trivial ?_ rfl
  simp only [Try.ntmps191, List.size_toArray, List.length_cons, List.length_nil, Nat.reduceAdd, Nat.reduceSub, Array.replicate_succ, Array.replicate_zero, List.push_toArray, List.append_toArray, List.nil_append, List.cons_append]
  refine wpIn_wide.2 ?_
  go_wp2_with fail
  refine (HPAIR _).mono ?_
  rintro e w' ⟨rfl, rfl⟩
  go_wp2_with fail
  refine wp_named fun W0 hW0 => ?_
  have hc0 : Ch [] w W0 := by rw [hW0]; exact ((((Ch.refl _ _).alloc _).alloc _).alloc _).alloc _
  have hz0 : W0.heap.size = w.heap.size + 4 := by rw [hW0]; simp
  have hbm : blk W0 w.heap.size [.pointer (some ⟨m, 0, none⟩)] := by rw [hW0]; exact (((blk.new' _ _ (by simp)).alloc _).alloc _).alloc _
  have hbo : blk W0 (w.heap.size + 1) [.slice none 0 0] := by rw [hW0]; exact ((blk.new' _ _ (by simp)).alloc _).alloc _
  have hb2 : blk W0 (w.heap.size + 2) [.slice xa len xc] := by rw [hW0]; exact (blk.new' _ _ (by simp)).alloc _
  have hb3 : blk W0 (w.heap.size + 3) [.slice ya len yc] := by rw [hW0]; exact blk.new' _ _ (by simp)
  clear hW0
  have hEF : EF w m [bc] F (w.heap.size + 4) (w.heap.size + 1) w.heap.size := ⟨fun k hk => by
    simp only [List.mem_cons, List.nil_append, List.cons_append] at hk
    rcases hk with rfl | rfl | hk
    · exact hml
    · exact hbclt
    · exact hFl k hk, by omega, by omega, by omega, by omega, by omega, by simp at hbcF ⊢; exact fun e => hbcF.1 e.symm, by simp at hbcF ⊢; exact hbcF.2⟩
  refine (wpIn_wide (n := 4)).1 ?_
  have hseq := spairs_seq W0 Fence.wide 3 trivial rfl (by omega) len xc yc hxl hyl (hb2.cell (i := 0) rfl) (hb3.cell (i := 0) rfl) (HX.out.keep fun k hk => hc0.block k (hxa k hk).2 (by simp)) (HY.out.keep fun k hk => hc0.block k (hya k hk).2 (by simp))
  have hKok : Kok w m [bc] F (w.heap.size + 4) (w.heap.size + 1) ((w.heap.size + 2) :: (w.heap.size + 3) :: (ablk xa ++ ablk ya)) := fun k hk => by
    simp only [List.mem_cons, List.mem_append] at hk
    rcases hk with rfl | rfl | hk | hk
    · exact .inr ⟨by omega, by omega, by omega⟩
    · exact .inr ⟨by omega, by omega, by omega⟩
    · exact .inl ⟨(hxa k hk).2, (hxa k hk).1⟩
    · exact .inl ⟨(hya k hk).2, (hya k hk).1⟩
  refine wpIn_rangeFunc_P (n := 4) (w.heap.size + 4) hz0 rfl (by omega) rfl trivial (fun args w => sfnvpairs1 args w) hseq ?kb (fun _ => rfl)
    (fun pre W => ESe w g m G bc F (w.heap.size + 4) (w.heap.size + 1) w.heap.size pre.length (sumF len (G, 0) pre c0) W)
    (fun _ => False) ?hi (fun _ _ h _ => h) ?h0 ?a1 ?assign ?body ?done (fun _ h _ _ => h.elim)
  case assign =>
    intro q x W K hK
    simp only [pairEnc]
    gi_wp2
    exact hK
  case kb =>
    intro k hk
    simp only [List.mem_cons, List.mem_append] at hk
    rcases hk with rfl | rfl | hk | hk
    · omega
    · omega
    · have := (hxa k hk).2; omega
    · have := (hya k hk).2; omega
  case hi =>
    rintro pre A A' ⟨v, P, l, F', c, h⟩ hc
    exact ⟨v, P, l, F', c, h.ei.same hEF hc, h.cb.ch hc (by simp; omega), h.lt, h.cR⟩
  case h0 =>
    refine ⟨.slice none 0 0, (G, 0), [], F, c0, ⟨Sim.start hok, fun _ => rfl, rfl, by simp, H.out.same hc0 (by simp), hc0.mono (by simp), fun k hk => .inl hk, rfl, hbo, hbm, ⟨rfl, .inl ⟨rfl, rfl⟩⟩, by simp [Value.ownBlock]⟩, hbc.ch hc0 (by simp), hc0l, fun _ => rfl⟩
  case body =>
    rintro q pre ⟨a, b⟩ W ⟨v, P, l, F', c, hES⟩ hWl hpx
    obtain ⟨hE, hcW, hcl, hcR⟩ := hES
    obtain ⟨va, vc, rfl⟩ := row.shape hE.row
    have hpm := List.IsPrefix.subset hpx (List.mem_append_right pre (List.mem_singleton.2 rfl))
    obtain ⟨ha0, hb0⟩ := zip_lt hxr hyr _ hpm
    have ha := hE.sim.ext.lt ha0
    have hb := hE.sim.ext.lt hb0
    have hln2 : pre.length + 1 ≤ len := by
      have h2 := hpx.length_le
      rw [List.length_append, List.length_zip] at h2
      simp at h2
      omega
    have hln : l.length ≤ 1000 := by have h1 := hE.len; omega
    have hol := sumF_len len (G, 0) c0 pre
    have hln3 := hE.len
    generalize hRR : sumF len (G, 0) pre c0 = RR at *
    obtain ⟨R, out, cR⟩ := RR
    dsimp only at hE hcR hol
    have HOL := Lib.hid hol; clear hol
    have HLN3 := Lib.hid hln3; clear hln3
    have hst := hE.sim.step (rXor_full hE.mem.gin.ok ha hb) (Y := rXor R.1 a b) (fun _ e => by rw [e])
    obtain ⟨Q, hQ⟩ : ∃ Q, Q = rXor P.1 a b := ⟨_, rfl⟩
    rw [← hQ] at hst
    have HQ := Lib.hid hQ; clear hQ
    have hc1 := hst.2.2.2.2.1.lt hcl
    have hst2 := hst.1.step (rXor_full hst.1.ok hst.2.1 hc1) (Y := rXor (sXor R a b).1.1 (sXor R a b).2 cR) (fun h0 e => by
      rw [e, hst.2.2.2.1 h0, hcR (rstep_zero h0)]; rfl)
    obtain ⟨Q2, hQ2⟩ : ∃ Q2, Q2 = rXor (mput P Q).1.1 (mput P Q).2 c := ⟨_, rfl⟩
    rw [← hQ2] at hst2
    have HQ2 := Lib.hid hQ2; clear hQ2
    have HX1 := sxor_is hE.mem ha hb
    rw [← HQ.out] at HX1
    have hbm0 := hE.mb.cell (i := 0) rfl
    have HE := Lib.hid hE; clear hE
    have HPX := Lib.hid hpx; clear hpx
    have HST := Lib.hid hst; clear hst
    have HST2 := Lib.hid hst2; clear hst2
    have HA := Lib.hid ha; clear ha
    have HB := Lib.hid hb; clear hb
    have HC1 := Lib.hid hc1; clear hc1
    have HCR := Lib.hid hcR; clear hcR
    have HRR := Lib.hid hRR; clear hRR
    have HCW := Lib.hid hcW; clear hcW
    have HCL := Lib.hid hcl; clear hcl
    clear hpm ha0 hb0 hb2 hb3 hseq HPAIR
    gi_wp2_with fail
    refine ⟨trivial, (CallsIn.inRound q ((callsIn_wide (n := _)).2 HX1)).mono ?_⟩
    rintro e w1 ⟨rfl, F1, hmt, hcm, hFm, hmm⟩
    obtain ⟨k1, k2, k3⟩ := HE.out.more hEF hWl hmt (hcm.mono (fun k hk => .inl (by simp only [List.mem_cons, List.cons_append, List.nil_append] at hk ⊢; rcases hk with e | e <;> simp [e]))) hFm hmm HST.out.1 HST.out.2.2.2.2.1 HST.out.2.2.2.2.2.2
    have hz1 : w.heap.size + 4 + 2 ≤ w1.heap.size := Nat.le_trans hWl hcm.size
    have hc_1 : blk w1 bc [.int .i64 c] := HCW.out.ch hcm (HE.out.notX hEF)
    have HE1 := Lib.hid k2; clear k2
    have HB1 := Lib.hid k1; clear k1
    have HK1 := Lib.hid k3; clear k3
    clear HX1 hcm hFm hmm hmt hbm0
    gi_wp2
    refine Ord.St.doorR (fun w' => w'.cell? ⟨w.heap.size + 1, 0, none⟩ = some (.slice va l.length vc)) [.ho, .rd, .fl, .rd, .ef, .ef, .ef, .ef] [0, 0, 0, 0, 14, 30, 63, 127] [0, 1, 2, 3, 4, 5, 6, 7] mixed (by kernel_rfl) (by kernel_rfl) rfl ?_
    obtain ⟨Wc, hWc⟩ : ∃ Wc, Wc = w1.drew := ⟨_, rfl⟩
    rw [← hWc]
    have hcur : Ch [] w1 Wc := by rw [hWc]; exact (Ch.refl _ _).drew
    clear hWc
    have hE := HE1.out.ch0 hEF hcur
    have hzc : w.heap.size + 4 + 2 ≤ Wc.heap.size := Nat.le_trans hz1 hcur.size
    have hbo := hE.ob
    have hbm := hE.mb.cell (i := 0) rfl
    have hcc := hc_1.ch hcur (by simp)
    have hcc0 := hcc.cell (i := 0) rfl
    have HX2 := sxor_is hE.mem HST.out.2.1 HC1.out
    rw [← HQ2.out] at HX2
    have HE := Lib.hid hE; clear hE
    have HB1 := Lib.hid (HB1.out.trans (Books.of_ch hcur hz1 (by simp)))
    have HK1 := Lib.hid (fun K (hK : Kok w m [bc] F (w.heap.size + 4) (w.heap.size + 1) K) => (HK1.out K hK).trans (hK.ch0 (by omega) hz1 hcur))
    have HCC := Lib.hid hcc; clear hcc
    clear hcur hc_1
    refine Ord.St.ho2 (T' := ?_) 0 [1, 2, 3, 4, 5, 6, 7] _ _ rfl (by kernel_rfl) rfl rfl rfl rfl ?_ (fun K w' hw' hk => ?_) ?_
    rotate_left
    · exact hbo.cell rfl
    · have q1 := hw'; go_step; exact hk
    refine Ord.St.rd2 (T' := ?_) 1 [2, 3, 4, 5, 6, 7] _ _ rfl (by kernel_rfl) rfl rfl rfl rfl (fun K hk => ?_) ?_
    rotate_left
    · go_step; exact hk
    refine Ord.St.fl2 (T' := ?_) 2 [3, 4, 5, 6, 7] _ _ rfl (by kernel_rfl) rfl rfl rfl rfl (fun K w' hk => ?_) ?_
    rotate_left
    · go_step; exact hk
    refine Ord.St.rd2 (T' := ?_) 3 [4, 5, 6, 7] _ _ rfl (by kernel_rfl) rfl rfl rfl rfl (fun K hk => ?_) ?_
    rotate_left
    · go_step; exact hk
    refine Ord.St.efC 4 [5, 6, 7] _ rfl (by kernel_rfl) (fun K hK => ?_)
    go_wp2_with fail
    refine HX2.mono ?_
    rintro e w2 ⟨rfl, F2, hmt, hcm, hFm, hmm⟩
    have hc_2 : blk w2 bc [.int .i64 c] := HCC.out.ch hcm (HE.out.notX hEF)
    obtain ⟨k1, k2, k3⟩ := HE.out.more hEF hzc hmt (hcm.mono (fun k hk => .inl (by simp only [List.mem_cons, List.cons_append, List.nil_append] at hk ⊢; rcases hk with e | e <;> simp [e]))) hFm hmm HST2.out.1 HST2.out.2.2.2.2.1 HST2.out.2.2.2.2.2.2
    have hz2 : w.heap.size + 4 + 2 ≤ w2.heap.size := Nat.le_trans hzc hcm.size
    have hrow3 := k2.row.ch ((Ch.refl [] w2).alloc (.cells #[.int .i64 (mput (mput P Q).1 Q2).2] 45)) (by simp)
    have hnew3 : blk (w2.alloc (.cells #[.int .i64 (mput (mput P Q).1 Q2).2] 45)) w2.heap.size [.int .i64 (mput (mput P Q).1 Q2).2] := blk.new' _ _ rfl
    replace hbo := k2.ob
    have hbx2 : w2.cell? ⟨bx, 0, none⟩ = some (.slice xa len xc) := (k2.ch.cell (p := ⟨bx, 0, none⟩) hbxlt (by simpa using hbxF)).trans hbx
    have hbx3 := (((Ch.refl [] w2).alloc (.cells #[.int .i64 (mput (mput P Q).1 Q2).2] 45)).cell (cell_lt hbx2) (by simp)).trans hbx2
    have hc_3 := hc_2.alloc (.cells #[.int .i64 (mput (mput P Q).1 Q2).2] 45)
    have HROW3 := Lib.hid hrow3; clear hrow3
    have HNEW3 := Lib.hid hnew3; clear hnew3
    have HE2 := Lib.hid k2; clear k2
    have HB2 := Lib.hid (HB1.out.trans k1); clear k1
    have HK2 := Lib.hid (fun K (hK : Kok w m [bc] F (w.heap.size + 4) (w.heap.size + 1) K) => (HK1.out K hK).trans (k3 K hK)); clear k3
    have HBX3 := Lib.hid hbx3; clear hbx3 hbx2
    have HC3 := Lib.hid hc_3; clear hc_3 hc_2
    clear HX2 hbm hcm hFm hmm hmt hcc0 HE HE1 HB1 HK1
    go_wp2_with fail
    refine ⟨rfl, hK _ _ ?_ ?_⟩
    · exact hbo.cell rfl
    clear hK K
    refine Ord.St.efC 5 [6, 7] _ rfl (by kernel_rfl) (fun K hK => ?_)
    go_wp2_with fail
    replace hbo := hbo.alloc (.cells #[.int .i64 (mput (mput P Q).1 Q2).2] 45)
    refine ⟨rfl, hK _ _ ?_ ?_⟩
    · exact hbo.cell rfl
    clear hK K
    refine Ord.St.ef 6 [7] _ rfl (by kernel_rfl) (fun K hK => ?_)
    go_wp2_with (at_builtin; go_loud (refine wpList_append_row slRefs rfl _ _ rfl (v := .slice va l.length vc) (n := l.length) (xs := refsCells l) rfl HROW3.out (ad := ⟨w2.heap.size, 0, none⟩) (m := 1) (c := 1) (news := [.int .i64 (mput (mput P Q).1 Q2).2]) rfl rfl (news_blk HNEW3.out) (by simp [Value.oneCell']) (by omega) (by omega) ?_; intro v' w4 hown4 hC4 hf4; obtain ⟨gb, gc, rfl⟩ := row.parts hown4 (by omega); have HO4 := Lib.hid hown4; clear hown4; have HC4 := Lib.hid hC4; clear hC4; have HF4 := Lib.hid hf4; clear hf4))
    replace hbo := hbo.ch HC4.out (fun hk => by have := (HE2.out.fresh _ (by simpa using hk)).1; omega)
    have k1 := hbo.cell (i := 0) rfl
    have k2 := hbo.frozen (i := 0)
    have hbx4 := (HC4.out.cell (p := ⟨bx, 0, none⟩) (cell_lt HBX3.out) (fun hk => by have := (HE2.out.fresh bx (by simpa using hk)).1; omega)).trans HBX3.out
    refine ⟨rfl, hK _ _ ?_⟩; clear hK K
    refine Ord.St.ef 7 [] _ rfl (by kernel_rfl) (fun K hK => ?_)
    go_wp2_with fail
    refine ⟨rfl, hK _ _ ?_⟩; clear hK K
    refine Ord.St.nil ?_
    obtain ⟨p1, p2, p3⟩ := HE2.out.app hEF hz2 HO4.out HC4.out HF4.out (r := (mput (mput P Q).1 Q2).2) HST2.out.2.1 (out' := out ++ [(sXor (sXor R a b).1 (sXor R a b).2 cR).2]) (fun hz0 => by rw [HST2.out.2.2.2.1 hz0]; rfl)
    have hc_5 := (HC3.out.ch HC4.out (fun hk => by have := (HE2.out.fresh _ (by simpa using hk)).1; omega)).other (p := ⟨w.heap.size + 1, 0, none⟩) (by show bc ≠ w.heap.size + 1; omega) (.slice (some ⟨gb, 0, none⟩) (l.length + 1) gc)
    have HP1 := Lib.hid (HB2.out.trans p1); clear p1
    have HP3 := Lib.hid (fun K (hK : Kok w m [bc] F (w.heap.size + 4) (w.heap.size + 1) K) => (HK2.out K hK).trans (p3 K hK)); clear p3
    have hm1 : w.heap.size + 4 + 2 ≤ (w4.setCell ⟨w.heap.size + 1, 0, none⟩ (.slice (some ⟨gb, 0, none⟩) (l.length + 1) gc)).heap.size := by
      have h1 := HC4.out.size
      simp [World.setCell] at h1 ⊢
      omega
    have HP2 := Lib.hid p2; clear p2
    have HC5 := Lib.hid hc_5; clear hc_5
    have HM1 := Lib.hid hm1; clear hm1
    clear HROW3 HNEW3 HBX3 HC3 HE2 HB2 HK2 HO4 HC4 HF4
    by_cases hlast : l.length + 1 < len
    · have hsum : sumS len (R, out, cR) (a, b) = ((sOr (sAnd (sAnd (sXor (sXor R a b).1 (sXor R a b).2 cR).1 a b).1 (sXor R a b).2 cR).1 (sAnd (sXor (sXor R a b).1 (sXor R a b).2 cR).1 a b).2 (sAnd (sAnd (sXor (sXor R a b).1 (sXor R a b).2 cR).1 a b).1 (sXor R a b).2 cR).2).1, out ++ [(sXor (sXor R a b).1 (sXor R a b).2 cR).2], (sOr (sAnd (sAnd (sXor (sXor R a b).1 (sXor R a b).2 cR).1 a b).1 (sXor R a b).2 cR).1 (sAnd (sXor (sXor R a b).1 (sXor R a b).2 cR).1 a b).2 (sAnd (sAnd (sXor (sXor R a b).1 (sXor R a b).2 cR).1 a b).1 (sXor R a b).2 cR).2).2) := by
        unfold sumS
        have h1 := HOL.out
        have h2 := HLN3.out
        rw [if_pos (by dsimp only; omega)]
      have hp1 := HST.out.2.1
      have hx1 : (sXor R a b).1.2 = 0 → (mput P Q).2 = (sXor R a b).2 := fun h0 => HST.out.2.2.2.1 h0
      have hx2 : (sXor (sXor R a b).1 (sXor R a b).2 cR).1.2 = 0 → c = cR := fun h0 => HCR.out (rstep_zero (rstep_zero h0))
      have hs2 : Sim G (mput (mput P Q).1 Q2).1 (sXor (sXor R a b).1 (sXor R a b).2 cR).1 := HST2.out.1
      have e1 : Ext P.1 (mput P Q).1.1 := HST.out.2.2.2.2.1
      have e2 : Ext (mput P Q).1.1 (mput (mput P Q).1 Q2).1.1 := HST2.out.2.2.2.2.1
      have ha3 := e2.lt (e1.lt HA.out)
      have hb3 := e2.lt (e1.lt HB.out)
      have hp3 := e2.lt hp1
      have hc3 := e2.lt (e1.lt HCL.out)
      have HSUM := Lib.hid hsum; clear hsum
      have HX1 := Lib.hid hx1; clear hx1
      have HX2 := Lib.hid hx2; clear hx2
      replace HP2 : Hid (EI w g m G [bc] F (w.heap.size + 4) (w.heap.size + 1) w.heap.size (pre.length + 1) (sXor (sXor R a b).1 (sXor R a b).2 cR).1 (out ++ [(sXor (sXor R a b).1 (sXor R a b).2 cR).2]) (w4.setCell ⟨w.heap.size + 1, 0, none⟩ (.slice (some ⟨gb, 0, none⟩) (l.length + 1) gc)) (.slice (some ⟨gb, 0, none⟩) (l.length + 1) gc) (mput (mput P Q).1 Q2).1 (l ++ [(mput (mput P Q).1 Q2).2]) F2) := HP2
      clear hp1 e1 e2
      gi_wp2
      clear k1 k2 hbo hbx4
      refine wpIn_named fun W5 hW5 => ?_
      rw [← hW5] at HP1 HP2 HP3 HC5 HM1
      clear hW5
      generalize hr2 : (mput (mput P Q).1 Q2).2 = r2 at *
      generalize hP2 : (mput (mput P Q).1 Q2).1 = P2 at *
      generalize hR2 : (sXor (sXor R a b).1 (sXor R a b).2 cR).1 = R2 at *
      generalize hrr : (sXor (sXor R a b).1 (sXor R a b).2 cR).2 = rr at *
      generalize hpR : (sXor R a b).2 = pR at *
      generalize hpp : (mput P Q).2 = pp at *
      have hx3 : R2.2 = 0 → pp = pR := fun h0 => HX1.out (by rw [← hR2] at h0; exact rstep_zero h0)
      have HX3 := Lib.hid hx3; clear hx3
      clear hr2 hP2 hR2 hrr hpR hpp HX1
      have hst3 := hs2.step (and_full hs2.ok ha3 hb3) (Y := and R2.1 a b) (fun _ e => by rw [e])
      obtain ⟨Q3, hQ3⟩ : ∃ Q3, Q3 = and P2.1 a b := ⟨_, rfl⟩
      rw [← hQ3] at hst3
      have HQ3 := Lib.hid hQ3; clear hQ3
      have hp4 := hst3.2.2.2.2.1.lt hp3
      have hc4 := hst3.2.2.2.2.1.lt hc3
      have hst4 := hst3.1.step (and_full hst3.1.ok hp4 hc4) (Y := and (sAnd R2 a b).1.1 pR cR) (fun h0 e => by rw [e, HX3.out (rstep_zero h0), HX2.out (rstep_zero h0)]; rfl)
      obtain ⟨Q4, hQ4⟩ : ∃ Q4, Q4 = and (mput P2 Q3).1.1 pp c := ⟨_, rfl⟩
      rw [← hQ4] at hst4
      have HQ4 := Lib.hid hQ4; clear hQ4
      have hbo4 := hst4.2.2.2.2.1.lt hst3.2.1
      have hst5 := hst4.1.step (rOr_full hst4.1.ok hbo4 hst4.2.1) (Y := rOr (sAnd (sAnd R2 a b).1 pR cR).1.1 (sAnd R2 a b).2 (sAnd (sAnd R2 a b).1 pR cR).2) (fun h0 e => by rw [e, hst4.2.2.2.1 h0, hst3.2.2.2.1 (rstep_zero h0)]; rfl)
      obtain ⟨Q5, hQ5⟩ : ∃ Q5, Q5 = rOr (mput (mput P2 Q3).1 Q4).1.1 (mput P2 Q3).2 (mput (mput P2 Q3).1 Q4).2 := ⟨_, rfl⟩
      rw [← hQ5] at hst5
      have HQ5 := Lib.hid hQ5; clear hQ5
      have HS3 := Lib.hid hst3; clear hst3
      have HS4 := Lib.hid hst4; clear hst4
      have HS5 := Lib.hid hst5; clear hst5
      have HA3 := Lib.hid ha3; clear ha3
      have HB3 := Lib.hid hb3; clear hb3
      have HP4 := Lib.hid hp4; clear hp4
      have HC4 := Lib.hid hc4; clear hc4
      have HBO4 := Lib.hid hbo4; clear hbo4
      clear hp3 hc3 HST HST2 HCL HC1 hs2
      refine Ord.St.doorR (fun w' => w'.cell? ⟨w.heap.size, 0, none⟩ = some (.pointer (some ⟨m, 0, none⟩))) [.ho, .rd, .fl, .fl, .ef, .fl, .fl, .ef, .fl] [0, 0, 0, 0, 14, 30, 30, 127, 255] [0, 1, 2, 3, 4, 5, 6, 7, 8] mixed (by kernel_rfl) (by kernel_rfl) rfl ?_
      obtain ⟨Wc, hWc⟩ : ∃ Wc, Wc = W5.drew := ⟨_, rfl⟩
      rw [← hWc]
      have hcur : Ch [] W5 Wc := by rw [hWc]; exact (Ch.refl _ _).drew
      clear hWc
      have hE := HP2.out.ch0 hEF hcur
      have hzc : w.heap.size + 4 + 2 ≤ Wc.heap.size := Nat.le_trans HM1.out hcur.size
      have hbm := hE.mb
      have hbk := hE.mem.bk
      have hbg1 : Wc.cell? ⟨bg, 0, none⟩ = some (.pointer (some ⟨g, 0, none⟩)) := (hE.ch.cell (p := ⟨bg, 0, none⟩) hbglt (by simpa using hbgF)).trans hbg
      have HX := And_r hE.mem.gin HA3.out HB3.out
      rw [← HQ3.out] at HX
      have HE := Lib.hid hE; clear hE
      have HB1 := Lib.hid (HP1.out.trans (Books.of_ch hcur HM1.out (by simp)))
      have HK1 := Lib.hid (fun K (hK : Kok w m [bc] F (w.heap.size + 4) (w.heap.size + 1) K) => (HP3.out K hK).trans (hK.ch0 (by omega) HM1.out hcur))
      have HCC := Lib.hid (HC5.out.ch hcur (by simp))
      clear hcur
      refine Ord.St.ho2 (T' := ?_) 0 [1, 2, 3, 4, 5, 6, 7, 8] _ _ rfl (by kernel_rfl) rfl rfl rfl rfl ?_ (fun K w' hw' hk => ?_) ?_
      rotate_left
      · exact hbm.cell rfl
      · have q1 := hw'; go_step; exact hk
      refine Ord.St.rd2 (T' := ?_) 1 [2, 3, 4, 5, 6, 7, 8] _ _ rfl (by kernel_rfl) rfl rfl rfl rfl (fun K hk => ?_) ?_
      rotate_left
      · go_step; exact hk
      refine Ord.St.fl2 (T' := ?_) 2 [3, 4, 5, 6, 7, 8] _ _ rfl (by kernel_rfl) rfl rfl rfl rfl (fun K w' hk => ?_) ?_
      rotate_left
      · go_step; exact hk
      refine Ord.St.fl2 (T' := ?_) 3 [4, 5, 6, 7, 8] _ _ rfl (by kernel_rfl) rfl rfl rfl rfl (fun K w' hk => ?_) ?_
      rotate_left
      · go_step; exact hk
      refine Ord.St.efC 4 [5, 6, 7, 8] _ rfl (by kernel_rfl) (fun K hK => ?_)
      go_wp2_with fail
      refine HX.mono ?_
      rintro e w6 ⟨rfl, F3, hg1, hc1, hF1, hm1⟩
      replace hbm := hbm.ch hc1 (fun hk => HE.out.notM hEF hk)
      replace hbk := hbk.ch hc1 HE.out.mem.apart
      have HPUT := sput_is hbk Q3.2.1 Q3.2.2
      clear HX hbg1
      go_wp2_with fail
      refine ⟨rfl, hK _ _ ?_ ?_⟩
      · exact hbm.cell rfl
      clear hK K
      refine Ord.St.fl2 (T' := ?_) 5 [6, 7, 8] _ _ rfl (by kernel_rfl) rfl rfl rfl rfl (fun K w' hk => ?_) ?_
      rotate_left
      · go_step; exact hk
      refine Ord.St.fl2 (T' := ?_) 6 [7, 8] _ _ rfl (by kernel_rfl) rfl rfl rfl rfl (fun K w' hk => ?_) ?_
      rotate_left
      · go_step; exact hk
      refine Ord.St.ef 7 [8] _ rfl (by kernel_rfl) (fun K hK => ?_)
      go_wp2_with fail
      refine HPUT.mono ?_
      rintro e w7 ⟨rfl, hbk2, hc2⟩
      obtain ⟨F3', hmt, hcm, hFm, hmm⟩ := MTo.of (P' := (mput P2 Q3).1) HE.out.mem ⟨F3, hg1, hc1, hF1, hm1⟩ (fun _ => hbk2) hc2
      have hcb := HCC.out.ch hcm (HE.out.notX hEF)
      obtain ⟨k1, k2, k3⟩ := HE.out.more hEF hzc hmt (hcm.mono (fun k hk => .inl (by simp only [List.mem_cons, List.cons_append, List.nil_append] at hk ⊢; rcases hk with e | e <;> simp [e]))) hFm hmm HS3.out.1 HS3.out.2.2.2.2.1 HS3.out.2.2.2.2.2.2
      have HZ7 := Lib.hid (show w.heap.size + 4 + 2 ≤ w7.heap.size from Nat.le_trans hzc hcm.size)
      have HE7 := Lib.hid k2; clear k2
      have HB7 := Lib.hid (HB1.out.trans k1); clear k1
      have HK7 := Lib.hid (fun K (hK : Kok w m [bc] F (w.heap.size + 4) (w.heap.size + 1) K) => (HK1.out K hK).trans (k3 K hK)); clear k3
      have HC7 := Lib.hid hcb; clear hcb
      clear HPUT hbk hbm hg1 hc1 hF1 hm1 hc2 hbk2 hcm hFm hmm hmt HE HB1 HK1 HCC hzc
      go_wp2_with fail
      refine ⟨rfl, hK _ _ ?_⟩; clear hK K
      refine Ord.St.fl2 (T' := ?_) 8 [] _ _ rfl (by kernel_rfl) rfl rfl rfl rfl (fun K w' hk => ?_) ?_
      rotate_left
      · go_step; exact hk
      refine Ord.St.nil ?_
      clear HP1 HP2 HP3 HC5 HM1
      gi_wp2
      refine Ord.St.doorR (fun w' => w'.cell? ⟨w.heap.size, 0, none⟩ = some (.pointer (some ⟨m, 0, none⟩)) ∧ w'.cell? ⟨bg, 0, none⟩ = some (.pointer (some ⟨g, 0, none⟩))) [.ho, .ho, .fl, .ho, .rd, .fl, .rd, .ef, .fl, .fl, .ef, .ef, .fl, .fl, .ef, .ef] [0, 0, 0, 0, 0, 0, 0, 112, 240, 240, 1016, 2046, 4094, 4094, 16383, 32767] [0, 1, 2, 3, 4, 5, 6, 7, 8, 9, 10, 11, 12, 13, 14, 15] mixed (by kernel_rfl) (by kernel_rfl) rfl ?_
      obtain ⟨Wc, hWc⟩ : ∃ Wc, Wc = w7.drew := ⟨_, rfl⟩
      rw [← hWc]
      have hcur : Ch [] w7 Wc := by rw [hWc]; exact (Ch.refl _ _).drew
      clear hWc
      have hE := HE7.out.ch0 hEF hcur
      have hzc : w.heap.size + 4 + 2 ≤ Wc.heap.size := Nat.le_trans HZ7.out hcur.size
      have hbm := hE.mb
      have hbk := hE.mem.bk
      have hbg1 : Wc.cell? ⟨bg, 0, none⟩ = some (.pointer (some ⟨g, 0, none⟩)) := (hE.ch.cell (p := ⟨bg, 0, none⟩) hbglt (by simpa using hbgF)).trans hbg
      have HX := And_r hE.mem.gin HP4.out HC4.out
      rw [← HQ4.out] at HX
      have HE := Lib.hid hE; clear hE
      have HB1 := Lib.hid (HB7.out.trans (Books.of_ch hcur HZ7.out (by simp)))
      have HK1 := Lib.hid (fun K (hK : Kok w m [bc] F (w.heap.size + 4) (w.heap.size + 1) K) => (HK7.out K hK).trans (hK.ch0 (by omega) HZ7.out hcur))
      have hcc := HC7.out.ch hcur (by simp)
      have hcc0 := hcc.cell (i := 0) rfl
      have HCC := Lib.hid hcc; clear hcc
      clear hcur HE7 HB7 HK7 HC7 HZ7
      refine Ord.St.ho2 (T' := ?_) 0 [1, 2, 3, 4, 5, 6, 7, 8, 9, 10, 11, 12, 13, 14, 15] _ _ rfl (by kernel_rfl) rfl rfl rfl rfl ?_ (fun K w' hw' hk => ?_) ?_
      rotate_left
      · exact ⟨hbm.cell rfl, hbg1⟩
      · obtain ⟨q1, q2⟩ := hw'; go_step; exact hk
      refine Ord.St.ho2 (T' := ?_) 1 [2, 3, 4, 5, 6, 7, 8, 9, 10, 11, 12, 13, 14, 15] _ _ rfl (by kernel_rfl) rfl rfl rfl rfl ?_ (fun K w' hw' hk => ?_) ?_
      rotate_left
      · exact ⟨hbm.cell rfl, hbg1⟩
      · obtain ⟨q1, q2⟩ := hw'; go_step; exact hk
      refine Ord.St.fl2 (T' := ?_) 2 [3, 4, 5, 6, 7, 8, 9, 10, 11, 12, 13, 14, 15] _ _ rfl (by kernel_rfl) rfl rfl rfl rfl (fun K w' hk => ?_) ?_
      rotate_left
      · go_step; exact hk
      refine Ord.St.ho2 (T' := ?_) 3 [4, 5, 6, 7, 8, 9, 10, 11, 12, 13, 14, 15] _ _ rfl (by kernel_rfl) rfl rfl rfl rfl ?_ (fun K w' hw' hk => ?_) ?_
      rotate_left
      · exact ⟨hbm.cell rfl, hbg1⟩
      · obtain ⟨q1, q2⟩ := hw'; go_step; exact hk
      refine Ord.St.rd2 (T' := ?_) 4 [5, 6, 7, 8, 9, 10, 11, 12, 13, 14, 15] _ _ rfl (by kernel_rfl) rfl rfl rfl rfl (fun K hk => ?_) ?_
      rotate_left
      · go_step; exact hk
      refine Ord.St.fl2 (T' := ?_) 5 [6, 7, 8, 9, 10, 11, 12, 13, 14, 15] _ _ rfl (by kernel_rfl) rfl rfl rfl rfl (fun K w' hk => ?_) ?_
      rotate_left
      · go_step; exact hk
      refine Ord.St.rd2 (T' := ?_) 6 [7, 8, 9, 10, 11, 12, 13, 14, 15] _ _ rfl (by kernel_rfl) rfl rfl rfl rfl (fun K hk => ?_) ?_
      rotate_left
      · go_step; exact hk
      refine Ord.St.efC 7 [8, 9, 10, 11, 12, 13, 14, 15] _ rfl (by kernel_rfl) (fun K hK => ?_)
      go_wp2_with fail
      refine HX.mono ?_
      rintro e w8 ⟨rfl, F4, hg1, hc1, hF1, hm1⟩
      replace hbm := hbm.ch hc1 (fun hk => HE.out.notM hEF hk)
      replace hbk := hbk.ch hc1 HE.out.mem.apart
      replace hbg1 := (hc1.cell (cell_lt hbg1) (fun hk => HE.out.notR hEF hbglt hbgF hk)).trans hbg1
      have HPUT := sput_is hbk Q4.2.1 Q4.2.2
      clear HX hcc0
      go_wp2_with fail
      refine ⟨rfl, hK _ _ ?_ ?_⟩
      · exact ⟨hbm.cell rfl, hbg1⟩
      clear hK K
      refine Ord.St.fl2 (T' := ?_) 8 [9, 10, 11, 12, 13, 14, 15] _ _ rfl (by kernel_rfl) rfl rfl rfl rfl (fun K w' hk => ?_) ?_
      rotate_left
      · go_step; exact hk
      refine Ord.St.fl2 (T' := ?_) 9 [10, 11, 12, 13, 14, 15] _ _ rfl (by kernel_rfl) rfl rfl rfl rfl (fun K w' hk => ?_) ?_
      rotate_left
      · go_step; exact hk
      refine Ord.St.efC 10 [11, 12, 13, 14, 15] _ rfl (by kernel_rfl) (fun K hK => ?_)
      go_wp2_with fail
      refine HPUT.mono ?_
      rintro e w9 ⟨rfl, hbk2, hc2⟩
      obtain ⟨F4', hmt, hcm, hFm, hmm⟩ := MTo.of (P' := (mput (mput P2 Q3).1 Q4).1) HE.out.mem ⟨F4, hg1, hc1, hF1, hm1⟩ (fun _ => hbk2) hc2
      have hcb := HCC.out.ch hcm (HE.out.notX hEF)
      obtain ⟨k1, k2, k3⟩ := HE.out.more hEF hzc hmt (hcm.mono (fun k hk => .inl (by simp only [List.mem_cons, List.cons_append, List.nil_append] at hk ⊢; rcases hk with e | e <;> simp [e]))) hFm hmm HS4.out.1 HS4.out.2.2.2.2.1 HS4.out.2.2.2.2.2.2
      have hz9 : w.heap.size + 4 + 2 ≤ w9.heap.size := Nat.le_trans hzc hcm.size
      clear hbm hbg1
      have hbm := k2.mb
      replace hbk := k2.mem.bk
      have hbg1 : w9.cell? ⟨bg, 0, none⟩ = some (.pointer (some ⟨g, 0, none⟩)) := (k2.ch.cell (p := ⟨bg, 0, none⟩) hbglt (by simpa using hbgF)).trans hbg
      have HX := Or_r k2.mem.gin HBO4.out HS4.out.2.1
      rw [← HQ5.out] at HX
      have HE9 := Lib.hid k2; clear k2
      have HB9 := Lib.hid (HB1.out.trans k1); clear k1
      have HK9 := Lib.hid (fun K (hK : Kok w m [bc] F (w.heap.size + 4) (w.heap.size + 1) K) => (HK1.out K hK).trans (k3 K hK)); clear k3
      have HC9 := Lib.hid hcb; clear hcb
      clear HPUT hg1 hc1 hF1 hm1 hc2 hbk2 hcm hFm hmm hmt HE HB1 HK1 HCC hzc
      go_wp2_with fail
      refine ⟨rfl, hK _ _ ?_ ?_⟩
      · exact ⟨hbm.cell rfl, hbg1⟩
      clear hK K
      refine Ord.St.efC 11 [12, 13, 14, 15] _ rfl (by kernel_rfl) (fun K hK => ?_)
      go_wp2_with fail
      refine HX.mono ?_
      rintro e w10 ⟨rfl, F5, hg1, hc1, hF1, hm1⟩
      replace hbm := hbm.ch hc1 (fun hk => HE9.out.notM hEF hk)
      replace hbk := hbk.ch hc1 HE9.out.mem.apart
      replace hbg1 := (hc1.cell (cell_lt hbg1) (fun hk => HE9.out.notR hEF hbglt hbgF hk)).trans hbg1
      have HPUT := sput_is hbk Q5.2.1 Q5.2.2
      clear HX
      go_wp2_with fail
      refine ⟨rfl, hK _ _ ?_ ?_⟩
      · exact ⟨hbm.cell rfl, hbg1⟩
      clear hK K
      refine Ord.St.fl2 (T' := ?_) 12 [13, 14, 15] _ _ rfl (by kernel_rfl) rfl rfl rfl rfl (fun K w' hk => ?_) ?_
      rotate_left
      · go_step; exact hk
      refine Ord.St.fl2 (T' := ?_) 13 [14, 15] _ _ rfl (by kernel_rfl) rfl rfl rfl rfl (fun K w' hk => ?_) ?_
      rotate_left
      · go_step; exact hk
      refine Ord.St.ef 14 [15] _ rfl (by kernel_rfl) (fun K hK => ?_)
      go_wp2_with fail
      refine HPUT.mono ?_
      rintro e w11 ⟨rfl, hbk2, hc2⟩
      obtain ⟨F5', hmt, hcm, hFm, hmm⟩ := MTo.of (P' := (mput (mput (mput P2 Q3).1 Q4).1 Q5).1) HE9.out.mem ⟨F5, hg1, hc1, hF1, hm1⟩ (fun _ => hbk2) hc2
      have hcb := HC9.out.ch hcm (HE9.out.notX hEF)
      have hcb0 := hcb.cell (i := 0) rfl
      have hcb1 := hcb.frozen (i := 0)
      obtain ⟨k1, k2, k3⟩ := HE9.out.more hEF hz9 hmt (hcm.mono (fun k hk => .inl (by simp only [List.mem_cons, List.cons_append, List.nil_append] at hk ⊢; rcases hk with e | e <;> simp [e]))) hFm hmm HS5.out.1 HS5.out.2.2.2.2.1 HS5.out.2.2.2.2.2.2
      have hz11 : w.heap.size + 4 + 2 ≤ w11.heap.size := Nat.le_trans hz9 hcm.size
      clear hbm hbg1
      have hbm := k2.mb
      have hbg1 : w11.cell? ⟨bg, 0, none⟩ = some (.pointer (some ⟨g, 0, none⟩)) := (k2.ch.cell (p := ⟨bg, 0, none⟩) hbglt (by simpa using hbgF)).trans hbg
      have HE11 := Lib.hid k2; clear k2
      have HB11 := Lib.hid (HB9.out.trans k1); clear k1
      have HK11 := Lib.hid (fun K (hK : Kok w m [bc] F (w.heap.size + 4) (w.heap.size + 1) K) => (HK9.out K hK).trans (k3 K hK)); clear k3
      have HC11 := Lib.hid hcb; clear hcb
      clear HPUT hbk hg1 hc1 hF1 hm1 hc2 hbk2 hcm hFm hmm hmt HE9 HB9 HK9 HC9 hz9
      go_wp2_with fail
      refine ⟨rfl, hK _ _ ?_⟩; clear hK K
      refine Ord.St.ef 15 [] _ rfl (by kernel_rfl) (fun K hK => ?_)
      go_wp2_with fail
      refine ⟨rfl, hK _ _ ?_⟩; clear hK K
      refine Ord.St.nil ?_
      gi_wp2
      have hcS : Ch [bc] w11 (w11.setCell ⟨bc, 0, none⟩ (.int .i64 (mput (mput (mput P2 Q3).1 Q4).1 Q5).2)) := (Ch.refl _ _).setCell (by simp) _
      obtain ⟨k1, k2, k3⟩ := HE11.out.more hEF hz11 (HE11.out.mem.same hcS (fun k hk => by simp only [List.mem_singleton]; rintro rfl; exact HE11.out.notX hEF hk)) (hcS.mono (fun k hk => .inl (by simp at hk; simp [hk]))) (fun k hk => .inl hk) rfl HE11.out.sim (.refl _) (fun h => h)
      refine ⟨HB11.out.trans k1, ?_, (HK11.out _ hKok).trans (k3 _ hKok)⟩
      rw [sumF_snoc, HRR.out, HSUM.out]
      exact ⟨_, _, _, _, (mput (mput (mput P2 Q3).1 Q4).1 Q5).2, k2, HC11.out.set (i := 0) _, HS5.out.2.1, fun h0 => HS5.out.2.2.2.1 h0⟩
    · have hsum : sumS len (R, out, cR) (a, b) = ((sXor (sXor R a b).1 (sXor R a b).2 cR).1, out ++ [(sXor (sXor R a b).1 (sXor R a b).2 cR).2], cR) := by
        unfold sumS
        have h1 := HOL.out
        have h2 := HLN3.out
        rw [if_neg (by dsimp only; omega)]
      have HSUM := Lib.hid hsum; clear hsum
      gi_wp2
      refine ⟨HP1.out, ?_, HP3.out _ hKok⟩
      rw [sumF_snoc, HRR.out, HSUM.out]
      exact ⟨_, _, _, _, c, HP2.out, HC5.out, HST2.out.2.2.2.2.1.lt (HST.out.2.2.2.2.1.lt HCL.out), fun h0 => HCR.out (rstep_zero (rstep_zero h0))⟩
  case done =>
    rintro W ⟨v, P, l, F', c, hE, hcW, hcl, hcR⟩ hK _
    obtain ⟨va, vc, rfl⟩ := row.shape hE.row
    have c_o := hE.ob.cell (i := 0) rfl
    have HE := Lib.hid hE; clear hE
    have HK := Lib.hid hK; clear hK
    clear hb2 hb3 hbm hbo hseq
    go_wp2
    refine ⟨by simp, .inl ⟨_, _, rfl, run_takeDeferred HK.out, ?_⟩⟩
    exact ⟨_, results_tmp rfl _ _ _, .slice va l.length vc, P, l, rfl, HE.out.sim, HE.out.out, HE.out.done hEF _⟩
end
end Go.Proofs.Ytkedpifopclipaa
namespace Go.Aig
def neF (s : Mk) (l : List (Nat × Nat)) : Mk × Nat := sAny (eachF (rop rXor) s l).1 (eachF (rop rXor) s l).2
end Go.Aig
namespace Go.Proofs.Ytkedpifopclipaa
open Go.RowKit Go.Mem Go.Aig
attribute [local go_sem] Oper.semAt_some
theorem fnvsNe1 : Fnv 192 := fnv_of Try.func192 (by simp [Try.f192]) (by simp [Try.f192])
section
variable {w : World} {g m : Nat} {G : Gra} {F : List Nat}
set_option maxRecDepth 100000 in
set_option maxHeartbeats 4000000 in
theorem sNe1_is (h : MIn w g m (G, 0) F)
    {x y : List Nat} {xa ya : Option Addr} (len xc yc : Nat) (hxl : x.length = len) (hyl : y.length = len) (hlen : len ≤ 1000) {bx b2 bg : Nat} (hbx : w.cell? ⟨bx, 0, none⟩ = some (.slice xa len xc)) (hby : w.cell? ⟨b2, 0, none⟩ = some (.slice ya len yc)) (hbg : w.cell? ⟨bg, 0, none⟩ = some (.pointer (some ⟨g, 0, none⟩)))
    (hbgF : bg ∉ m :: F) (hx : Sl w xa (x.map fun (r : Nat) => (r : Int))) (hy : Sl w ya (y.map fun (r : Nat) => (r : Int))) (hxa : ∀ k ∈ ablk xa, k ∉ m :: F ∧ k < w.heap.size) (hya : ∀ k ∈ ablk ya, k ∉ m :: F ∧ k < w.heap.size)
    (hxr : ∀ r ∈ x, r < 2 * G.nodes.length) (hyr : ∀ r ∈ y, r < 2 * G.nodes.length) :
    Calls Try.prog 192 (#[.pointer (some ⟨m, 0, none⟩)] ++ #[.pointer (some ⟨bx, 0, none⟩), .pointer (some ⟨b2, 0, none⟩), .pointer (some ⟨bg, 0, none⟩)]) w fun e W' => ∃ (P : Mk) (r : Nat), e = .returned (.int .i64 r) ∧ Sim G P (neF (G, 0) (x.zip y)).1 ∧ ((neF (G, 0) (x.zip y)).1.2 = 0 → r = (neF (G, 0) (x.zip y)).2) ∧ MTo w g m P F W' := by
  show Calls Try.prog 192 #[.pointer (some ⟨m, 0, none⟩), .pointer (some ⟨bx, 0, none⟩), .pointer (some ⟨b2, 0, none⟩), .pointer (some ⟨bg, 0, none⟩)] w _
  have hml := h.bk.lt
  have hFl := h.gin.lt
  have hok := h.gin.ok
  have hbflt := cell_lt hbg
  have hbxlt := cell_lt hbx
  have hbylt := cell_lt hby
  simp only at hbflt hbxlt hbylt
  have HPAIR := fun W => spairs_is (w := W) xa ya len xc len yc
  have H := Lib.hid h; clear h
  have HX := Lib.hid hx; clear hx
  have HY := Lib.hid hy; clear hy
  refine (callsIn_wide (n := 4)).1 ?_
  refine callsIn_of_wp_marks Try.func192 rfl trivial ?_ rfl
  simp only [Try.ntmps192, List.size_toArray, List.length_cons, List.length_nil, Nat.reduceAdd, Nat.reduceSub, Array.replicate_succ, Array.replicate_zero, List.push_toArray, List.append_toArray, List.nil_append, List.cons_append]
  refine wpIn_wide.2 ?_
  go_wp2_with fail
  refine (HPAIR _).mono ?_
  rintro e w' ⟨rfl, rfl⟩
  go_wp2_with fail
  refine wp_named fun W0 hW0 => ?_
  have hc0 : Ch [] w W0 := by rw [hW0]; exact ((((Ch.refl _ _).alloc _).alloc _).alloc _).alloc _
  have hz0 : W0.heap.size = w.heap.size + 4 := by rw [hW0]; simp
  have hbm : blk W0 w.heap.size [.pointer (some ⟨m, 0, none⟩)] := by rw [hW0]; exact (((blk.new' _ _ (by simp)).alloc _).alloc _).alloc _
  have hbo : blk W0 (w.heap.size + 1) [.slice none 0 0] := by rw [hW0]; exact ((blk.new' _ _ (by simp)).alloc _).alloc _
  have hb2 : blk W0 (w.heap.size + 2) [.slice xa len xc] := by rw [hW0]; exact (blk.new' _ _ (by simp)).alloc _
  have hb3 : blk W0 (w.heap.size + 3) [.slice ya len yc] := by rw [hW0]; exact blk.new' _ _ (by simp)
  clear hW0
  have hEF : EF w m [] F (w.heap.size + 4) (w.heap.size + 1) w.heap.size := ⟨fun k hk => by
    simp only [List.mem_cons, List.nil_append] at hk
    rcases hk with rfl | hk
    · exact hml
    · exact hFl k hk, by omega, by omega, by omega, by omega, by omega, by simp, by simp⟩
  refine (wpIn_wide (n := 4)).1 ?_
  have hseq := spairs_seq W0 Fence.wide 3 trivial rfl (by omega) len xc yc hxl hyl (hb2.cell (i := 0) rfl) (hb3.cell (i := 0) rfl) (HX.out.keep fun k hk => hc0.block k (hxa k hk).2 (by simp)) (HY.out.keep fun k hk => hc0.block k (hya k hk).2 (by simp))
  have hKok : Kok w m [] F (w.heap.size + 4) (w.heap.size + 1) ((w.heap.size + 2) :: (w.heap.size + 3) :: (ablk xa ++ ablk ya)) := fun k hk => by
    simp only [List.mem_cons, List.mem_append] at hk
    rcases hk with rfl | rfl | hk | hk
    · exact .inr ⟨by omega, by omega, by omega⟩
    · exact .inr ⟨by omega, by omega, by omega⟩
    · exact .inl ⟨(hxa k hk).2, (hxa k hk).1⟩
    · exact .inl ⟨(hya k hk).2, (hya k hk).1⟩
  refine wpIn_rangeFunc_P (n := 4) (w.heap.size + 4) hz0 rfl (by omega) rfl trivial (fun args w => sfnvpairs1 args w) hseq ?kb (fun _ => rfl)
    (fun pre W => EIe w g m G [] F (w.heap.size + 4) (w.heap.size + 1) w.heap.size pre.length (eachF (rop rXor) (G, 0) pre).1 (eachF (rop rXor) (G, 0) pre).2 W)
    (fun _ => False) ?hi (fun _ _ h _ => h) ?h0 ?a1 ?assign ?body ?done (fun _ h _ _ => h.elim)
  case assign =>
    intro q x W K hK
    simp only [pairEnc]
    gi_wp2
    exact hK
  case kb =>
    intro k hk
    simp only [List.mem_cons, List.mem_append] at hk
    rcases hk with rfl | rfl | hk | hk
    · omega
    · omega
    · have := (hxa k hk).2; omega
    · have := (hya k hk).2; omega
  case hi =>
    rintro pre A A' ⟨v, P, l, F', h⟩ hc
    exact ⟨v, P, l, F', h.same hEF hc⟩
  case h0 =>
    refine ⟨.slice none 0 0, (G, 0), [], F, Sim.start hok, fun _ => rfl, rfl, by simp, H.out.same hc0 (by simp), hc0.mono (by simp), fun k hk => .inl hk, rfl, hbo, hbm, ⟨rfl, .inl ⟨rfl, rfl⟩⟩, by simp [Value.ownBlock]⟩
  case body =>
    rintro q pre ⟨a, b⟩ W ⟨v, P, l, F', hE⟩ hWl hpx
    obtain ⟨va, vc, rfl⟩ := row.shape hE.row
    have hpm := List.IsPrefix.subset hpx (List.mem_append_right pre (List.mem_singleton.2 rfl))
    obtain ⟨ha0, hb0⟩ := zip_lt hxr hyr _ hpm
    have ha := hE.sim.ext.lt ha0
    have hb := hE.sim.ext.lt hb0
    have hst := hE.sim.step (rXor_full hE.mem.gin.ok ha hb) (fun _ e => by rw [e])
    obtain ⟨Q, hQ⟩ : ∃ Q, Q = rXor P.1 a b := ⟨_, rfl⟩
    rw [← hQ] at hst
    have HQ := Lib.hid hQ; clear hQ
    have hln : l.length ≤ 1000 := by
      have h1 := hE.len
      have h2 := hpx.length_le
      rw [List.length_append, List.length_zip] at h2
      simp at h2
      omega
    have hbo := hE.ob
    have hbm := hE.mb
    have hbk := hE.mem.bk
    have hsep := hE.sep hEF
    have HE := Lib.hid hE; clear hE
    have HPX := Lib.hid hpx; clear hpx
    have HST := Lib.hid hst; clear hst
    have HSEP := Lib.hid hsep; clear hsep
    have HA := Lib.hid ha; clear ha
    have HB := Lib.hid hb; clear hb
    clear hpm ha0 hb0 hb2 hb3 hseq HPAIR
    gi_wp2
    refine Ord.St.doorR (fun w' => w'.cell? ⟨w.heap.size + 1, 0, none⟩ = some (.slice va l.length vc)) [.ho, .rd, .fl, .fl, .ef, .ef, .ef, .ef] [0, 0, 0, 0, 14, 30, 63, 127] [0, 1, 2, 3, 4, 5, 6, 7] mixed (by kernel_rfl) (by kernel_rfl) rfl ?_
    obtain ⟨Wc, hWc⟩ : ∃ Wc, Wc = W.drew := ⟨_, rfl⟩
    rw [← hWc]
    have hcur : Ch [] W Wc := by rw [hWc]; exact (Ch.refl _ _).drew
    clear hWc
    have hE := HE.out.ch0 hEF hcur
    have hWc : w.heap.size + 4 + 2 ≤ Wc.heap.size := Nat.le_trans hWl hcur.size
    have hbo := hE.ob
    have hbm := hE.mb.cell (i := 0) rfl
    have HFC := sxor_is hE.mem HA.out HB.out
    have HE := Lib.hid hE; clear hE
    have HCUR := Lib.hid hcur; clear hcur
    rw [← HQ.out] at HFC
    refine Ord.St.ho2 (T' := ?_) 0 [1, 2, 3, 4, 5, 6, 7] _ _ rfl (by kernel_rfl) rfl rfl rfl rfl ?_ (fun K w' hw' hk => ?_) ?_
    rotate_left
    · exact hbo.cell rfl
    · have q1 := hw'; go_step; exact hk
    refine Ord.St.rd2 (T' := ?_) 1 [2, 3, 4, 5, 6, 7] _ _ rfl (by kernel_rfl) rfl rfl rfl rfl (fun K hk => ?_) ?_
    rotate_left
    · go_step; exact hk
    refine Ord.St.fl2 (T' := ?_) 2 [3, 4, 5, 6, 7] _ _ rfl (by kernel_rfl) rfl rfl rfl rfl (fun K w' hk => ?_) ?_
    rotate_left
    · go_step; exact hk
    refine Ord.St.fl2 (T' := ?_) 3 [4, 5, 6, 7] _ _ rfl (by kernel_rfl) rfl rfl rfl rfl (fun K w' hk => ?_) ?_
    rotate_left
    · go_step; exact hk
    refine Ord.St.efC 4 [5, 6, 7] _ rfl (by kernel_rfl) (fun K hK => ?_)
    go_wp2_with fail
    refine HFC.mono ?_
    rintro e w2 ⟨rfl, F1', hmt, hcm, hFm, hmm⟩
    obtain ⟨k1, k2, k3⟩ := HE.out.more hEF hWc hmt hcm hFm hmm HST.out.1 HST.out.2.2.2.2.1 HST.out.2.2.2.2.2.2
    have hz2 : w.heap.size + 4 + 2 ≤ w2.heap.size := Nat.le_trans hWc hcm.size
    have hrow3 := k2.row.ch ((Ch.refl [] w2).alloc (.cells #[.int .i64 (mput P Q).2] 45)) (by simp)
    have hnew3 : blk (w2.alloc (.cells #[.int .i64 (mput P Q).2] 45)) w2.heap.size [.int .i64 (mput P Q).2] := blk.new' _ _ rfl
    replace hbo := k2.ob
    have HROW3 := Lib.hid hrow3; clear hrow3
    have HNEW3 := Lib.hid hnew3; clear hnew3
    have HE2 := Lib.hid k2; clear k2
    have HB2 := Lib.hid k1; clear k1
    have HK2 := Lib.hid k3; clear k3
    clear HFC hbm hcm hFm hmm hmt
    go_wp2_with fail
    refine ⟨rfl, hK _ _ ?_ ?_⟩
    · exact hbo.cell rfl
    clear hK K
    refine Ord.St.efC 5 [6, 7] _ rfl (by kernel_rfl) (fun K hK => ?_)
    go_wp2_with fail
    replace hbo := hbo.alloc (.cells #[.int .i64 (mput P Q).2] 45)
    skip
    refine ⟨rfl, hK _ _ ?_ ?_⟩
    · exact hbo.cell rfl
    clear hK K
    refine Ord.St.ef 6 [7] _ rfl (by kernel_rfl) (fun K hK => ?_)
    go_wp2_with (at_builtin; go_loud (refine wpList_append_row slRefs rfl _ _ rfl (v := .slice va l.length vc) (n := l.length) (xs := refsCells l) rfl HROW3.out (ad := ⟨w2.heap.size, 0, none⟩) (m := 1) (c := 1) (news := [.int .i64 (mput P Q).2]) rfl rfl (news_blk HNEW3.out) (by simp [Value.oneCell']) (by omega) (by omega) ?_; intro v' w4 hown4 hC4 hf4; obtain ⟨gb, gc, rfl⟩ := row.parts hown4 (by omega); have HO4 := Lib.hid hown4; clear hown4; have HC4 := Lib.hid hC4; clear hC4; have HF4 := Lib.hid hf4; clear hf4))
    replace hbo := hbo.ch HC4.out (fun hk => by have := (HE2.out.fresh _ (by simpa using hk)).1; omega)
    have k1 := hbo.cell (i := 0) rfl
    have k2 := hbo.frozen (i := 0)
    refine ⟨rfl, hK _ _ ?_⟩; clear hK K
    refine Ord.St.ef 7 [] _ rfl (by kernel_rfl) (fun K hK => ?_)
    go_wp2_with fail
    refine ⟨rfl, hK _ _ ?_⟩; clear hK K
    refine Ord.St.nil ?_
    gi_wp2
    obtain ⟨p1, p2, p3⟩ := HE2.out.app hEF hz2 HO4.out HC4.out HF4.out (r := (mput P Q).2) HST.out.2.1 (out' := (eachF (rop rXor) (G, 0) pre).2 ++ [(rop rXor (eachF (rop rXor) (G, 0) pre).1 a b).2]) (fun hz0 => by rw [HST.out.2.2.2.1 hz0]; rfl)
    refine ⟨((Books.of_ch HCUR.out hWl (by simp)).trans HB2.out).trans p1, ⟨_, _, _, _, by rw [eachF_snoc]; exact p2⟩, (((hKok.ch0 (by omega) hWl HCUR.out).trans (HK2.out _ hKok)).trans (p3 _ hKok))⟩
  case done =>
    rintro W ⟨v, P, l, F', hE⟩ hK hWl
    obtain ⟨va, vc, rfl⟩ := row.shape hE.row
    have hall := hE.all
    have hln : l.length ≤ 1000 := by have := hE.len; rw [List.length_zip] at this; omega
    have hbg2 : W.cell? ⟨bg, 0, none⟩ = some (.pointer (some ⟨g, 0, none⟩)) := (hE.ch.cell (p := ⟨bg, 0, none⟩) hbflt (by simpa using hbgF)).trans hbg
    have hst := hE.sim.step (rAny_full hE.mem.gin.ok hall) (Y := rAny (eachF (rop rXor) (G, 0) (x.zip y)).1.1 (eachF (rop rXor) (G, 0) (x.zip y)).2) (fun h0 e => by rw [hE.out h0, e])
    obtain ⟨Q, hQ⟩ : ∃ Q, Q = rAny P.1 l := ⟨_, rfl⟩
    rw [← hQ] at hst
    have HQ := Lib.hid hQ; clear hQ
    have hbo := hE.ob
    have hbm := hE.mb
    have hbk := hE.mem.bk
    have HALL := Lib.hid hall; clear hall
    have HE := Lib.hid hE; clear hE
    have HK := Lib.hid hK; clear hK
    have HST := Lib.hid hst; clear hst
    clear hb2 hb3 hseq
    go_wp2_with fail
    refine Ord.St.door (fun w' => w'.cell? ⟨w.heap.size, 0, none⟩ = some (.pointer (some ⟨m, 0, none⟩))) [.ho, .rd, .rd, .ef, .fl, .fl, .ef, .fl] [0, 0, 0, 6, 14, 14, 63, 127] [0, 1, 2, 3, 4, 5, 6, 7] mixed (by kernel_rfl) rfl ?_
    obtain ⟨Wc, hWc⟩ : ∃ Wc, Wc = W.drew := ⟨_, rfl⟩
    rw [← hWc]
    have hcur : Ch [] W Wc := by rw [hWc]; exact (Ch.refl _ _).drew
    clear hWc
    have hE := HE.out.ch0 hEF hcur
    have hK2 : Wc.heap[w.heap.size + 4]? = some (.deferred (some [])) := (hcur.block _ (Array.getElem?_eq_some_iff.1 HK.out).1 (by simp)).trans HK.out
    have hWl2 : w.heap.size + 4 + 2 ≤ Wc.heap.size := Nat.le_trans hWl hcur.size
    have hbm := hE.mb
    have hbk := hE.mem.bk
    have hbo2 := hE.ob.cell (i := 0) rfl
    have hbg3 := (hcur.cell (cell_lt hbg2) (by simp)).trans hbg2
    have hroom := hE.mem.gin.ok.room
    have hmost := hE.mem.gin.ok.most
    have HANY := Any_g hE.mem.gin (l := l.map fun (r : Nat) => (r : Int)) l.length vc (by simp) (Sl.of_row' hE.row rfl (by omega)) (by intro x hx; obtain ⟨r, hr, rfl⟩ := List.mem_map.1 hx; have := HALL.out r hr; omega) (fun p hp => ⟨(hE.row.lt p.block (by rw [hp]; rfl)).2, (hE.fresh p.block (by rw [hp]; rfl)).2⟩)
    rw [doAny_r HALL.out, ← HQ.out] at HANY
    have hsep := hE.sep hEF
    have HE := Lib.hid hE; clear hE
    have HK := Lib.hid hK2; clear hK2
    have HSEP := Lib.hid hsep; clear hsep
    clear hroom hmost hcur hbg2
    refine Ord.St.ho2 (T' := ?_) 0 [1, 2, 3, 4, 5, 6, 7] _ _ rfl (by kernel_rfl) rfl rfl rfl rfl ?_ (fun K w' hw' hk => ?_) ?_
    rotate_left
    · exact hbm.cell rfl
    · have q1 := hw'; go_step; exact hk
    refine Ord.St.rd2 (T' := ?_) 1 [2, 3, 4, 5, 6, 7] _ _ rfl (by kernel_rfl) rfl rfl rfl rfl (fun K hk => ?_) ?_
    rotate_left
    · go_step; exact hk
    refine Ord.St.rd2 (T' := ?_) 2 [3, 4, 5, 6, 7] _ _ rfl (by kernel_rfl) rfl rfl rfl rfl (fun K hk => ?_) ?_
    rotate_left
    · go_step; exact hk
    refine Ord.St.efC 3 [4, 5, 6, 7] _ rfl (by kernel_rfl) (fun K hK => ?_)
    go_wp2_with fail
    refine HANY.mono ?_
    rintro e w1 ⟨rfl, F1, hg1, hc1, hF1, hm1⟩
    replace hbm := hbm.ch hc1 (fun hk => by have := HSEP.out _ (by simp only [List.mem_cons, List.nil_append]; exact .inr hk); omega)
    replace hbk := hbk.ch hc1 HE.out.mem.apart
    have HPUT := sput_is hbk Q.2.1 Q.2.2
    clear hbg3 HANY
    go_wp2_with fail
    refine ⟨rfl, hK _ _ ?_ ?_⟩
    · exact hbm.cell rfl
    clear hK K
    refine Ord.St.fl2 (T' := ?_) 4 [5, 6, 7] _ _ rfl (by kernel_rfl) rfl rfl rfl rfl (fun K w' hk => ?_) ?_
    rotate_left
    · go_step; exact hk
    refine Ord.St.fl2 (T' := ?_) 5 [6, 7] _ _ rfl (by kernel_rfl) rfl rfl rfl rfl (fun K w' hk => ?_) ?_
    rotate_left
    · go_step; exact hk
    refine Ord.St.ef 6 [7] _ rfl (by kernel_rfl) (fun K hK => ?_)
    go_wp2_with fail
    refine HPUT.mono ?_
    rintro e w2 ⟨rfl, hbk2, hc2⟩
    obtain ⟨F1', hmt, hcm, hFm, hmm⟩ := MTo.of (P' := (mput P Q).1) HE.out.mem ⟨F1, hg1, hc1, hF1, hm1⟩ (fun _ => hbk2) hc2
    obtain ⟨k1, k2, k3⟩ := HE.out.more hEF hWl2 hmt hcm hFm hmm HST.out.1 HST.out.2.2.2.2.1 HST.out.2.2.2.2.2.2
    have hK2 := k1.1.trans HK.out
    have HE2 := Lib.hid k2; clear k2
    have HK2 := Lib.hid hK2; clear hK2
    clear HPUT hbk hbm hg1 hc1 hF1 hm1 hc2 hbk2 hcm hFm hmm hmt k1 k3
    go_wp2_with fail
    refine ⟨rfl, hK _ _ ?_⟩; clear hK K
    refine Ord.St.fl2 (T' := ?_) 7 [] _ _ rfl (by kernel_rfl) rfl rfl rfl rfl (fun K w' hk => ?_) ?_
    rotate_left
    · go_step; exact hk
    refine Ord.St.nil ?_
    go_wp2
    refine ⟨by simp, .inl ⟨_, _, rfl, run_takeDeferred HK2.out, ?_⟩⟩
    refine ⟨_, results_tmp rfl _ _ _, (mput P Q).1, (mput P Q).2, rfl, HST.out.1, fun h0 => HST.out.2.2.2.1 h0, (HE2.out.done hEF _).to⟩
end
end Go.Proofs.Ytkedpifopclipaa
namespace Go.Aig
theorem ltF_snoc (s : Mk) (l : List (Nat × Nat)) (p : Nat × Nat) : ltF s (l ++ [p]) = ltS (ltF s l) p := by
  unfold ltF; rw [List.foldl_append]; rfl
end Go.Aig
namespace Go.Proofs.Ytkedpifopclipaa
open Go.RowKit Go.Mem Go.Aig
attribute [local go_sem] Oper.semAt_some
theorem fnvsLt1 : Fnv 135 := fnv_of Try.func135 (by simp [Try.f135]) (by simp [Try.f135])
section
variable {w : World} {g m : Nat} {G : Gra} {F : List Nat}
set_option maxRecDepth 100000 in
set_option maxHeartbeats 4000000 in
theorem sLt1_is (h : MIn w g m (G, 0) F)
    {x y : List Nat} {xa ya : Option Addr} (len xc yc : Nat) (hxl : x.length = len) (hyl : y.length = len) {bx b2 : Nat} (hbx : w.cell? ⟨bx, 0, none⟩ = some (.slice xa len xc)) (hby : w.cell? ⟨b2, 0, none⟩ = some (.slice ya len yc))
    (hx : Sl w xa (x.map fun (r : Nat) => (r : Int))) (hy : Sl w ya (y.map fun (r : Nat) => (r : Int))) (hxa : ∀ k ∈ ablk xa, k ∉ m :: F ∧ k < w.heap.size) (hya : ∀ k ∈ ablk ya, k ∉ m :: F ∧ k < w.heap.size)
    (hxr : ∀ r ∈ x, r < 2 * G.nodes.length) (hyr : ∀ r ∈ y, r < 2 * G.nodes.length) :
    Calls Try.prog 135 (#[.pointer (some ⟨m, 0, none⟩)] ++ #[.pointer (some ⟨bx, 0, none⟩), .pointer (some ⟨b2, 0, none⟩)]) w fun e W' => ∃ (P : Mk) (r : Nat), e = .returned (.int .i64 r) ∧ Sim G P (ltF (G, 0) (x.zip y)).1 ∧ ((ltF (G, 0) (x.zip y)).1.2 = 0 → r = (ltF (G, 0) (x.zip y)).2) ∧ MTo w g m P F W' := by
  show Calls Try.prog 135 #[.pointer (some ⟨m, 0, none⟩), .pointer (some ⟨bx, 0, none⟩), .pointer (some ⟨b2, 0, none⟩)] w _
  have hml := h.bk.lt
  have hFl := h.gin.lt
  have hok := h.gin.ok
  have hbxlt := cell_lt hbx
  have hbylt := cell_lt hby
  simp only at hbxlt hbylt
  have HPAIR := fun W => spairs_is (w := W) xa ya len xc len yc
  have H := Lib.hid h; clear h
  have HX := Lib.hid hx; clear hx
  have HY := Lib.hid hy; clear hy
  refine (callsIn_wide (n := 4)).1 ?_
  refine callsIn_of_wp_marks Try.func135 rfl trivial ?_ rfl
  simp only [Try.ntmps135, List.size_toArray, List.length_cons, List.length_nil, Nat.reduceAdd, Nat.reduceSub, Array.replicate_succ, Array.replicate_zero, List.push_toArray, List.append_toArray, List.nil_append, List.cons_append]
  refine wpIn_wide.2 ?_
  go_wp2_with fail
  refine (HPAIR _).mono ?_
  rintro e w' ⟨rfl, rfl⟩
  go_wp2_with fail
  refine wp_named fun W0 hW0 => ?_
  have hc0 : Ch [] w W0 := by rw [hW0]; exact ((((Ch.refl _ _).alloc _).alloc _).alloc _).alloc _
  have hz0 : W0.heap.size = w.heap.size + 4 := by rw [hW0]; simp
  have hbm : blk W0 w.heap.size [.pointer (some ⟨m, 0, none⟩)] := by rw [hW0]; exact (((blk.new' _ _ (by simp)).alloc _).alloc _).alloc _
  have hbo : blk W0 (w.heap.size + 1) [.int .i64 (0 : Nat)] := by rw [hW0]; exact ((blk.new' _ _ (by simp)).alloc _).alloc _
  have hb2 : blk W0 (w.heap.size + 2) [.slice xa len xc] := by rw [hW0]; exact (blk.new' _ _ (by simp)).alloc _
  have hb3 : blk W0 (w.heap.size + 3) [.slice ya len yc] := by rw [hW0]; exact blk.new' _ _ (by simp)
  clear hW0
  have hEF : EF w m [] F (w.heap.size + 4) (w.heap.size + 1) w.heap.size := ⟨fun k hk => by
    simp only [List.mem_cons, List.nil_append] at hk
    rcases hk with rfl | hk
    · exact hml
    · exact hFl k hk, by omega, by omega, by omega, by omega, by omega, by simp, by simp⟩
  refine (wpIn_wide (n := 4)).1 ?_
  have hseq := spairs_seq W0 Fence.wide 3 trivial rfl (by omega) len xc yc hxl hyl (hb2.cell (i := 0) rfl) (hb3.cell (i := 0) rfl) (HX.out.keep fun k hk => hc0.block k (hxa k hk).2 (by simp)) (HY.out.keep fun k hk => hc0.block k (hya k hk).2 (by simp))
  have hKok : Kok w m [] F (w.heap.size + 4) (w.heap.size + 1) ((w.heap.size + 2) :: (w.heap.size + 3) :: (ablk xa ++ ablk ya)) := fun k hk => by
    simp only [List.mem_cons, List.mem_append] at hk
    rcases hk with rfl | rfl | hk | hk
    · exact .inr ⟨by omega, by omega, by omega⟩
    · exact .inr ⟨by omega, by omega, by omega⟩
    · exact .inl ⟨(hxa k hk).2, (hxa k hk).1⟩
    · exact .inl ⟨(hya k hk).2, (hya k hk).1⟩
  refine wpIn_rangeFunc_P (n := 4) (w.heap.size + 4) hz0 rfl (by omega) rfl trivial (fun args w => sfnvpairs1 args w) hseq ?kb (fun _ => rfl)
    (fun pre W => ELe w g m G [] F (w.heap.size + 4) (w.heap.size + 1) w.heap.size (ltF (G, 0) pre).1 (ltF (G, 0) pre).2 W)
    (fun _ => False) ?hi (fun _ _ h _ => h) ?h0 ?a1 ?assign ?body ?done (fun _ h _ _ => h.elim)
  case assign =>
    intro q x W K hK
    simp only [pairEnc]
    gi_wp2
    exact hK
  case kb =>
    intro k hk
    simp only [List.mem_cons, List.mem_append] at hk
    rcases hk with rfl | rfl | hk | hk
    · omega
    · omega
    · have := (hxa k hk).2; omega
    · have := (hya k hk).2; omega
  case hi =>
    rintro pre A A' ⟨P, r, F', h⟩ hc
    exact ⟨P, r, F', h.same hEF hc⟩
  case h0 =>
    exact ⟨(G, 0), 0, F, Sim.start hok, fun _ => rfl, by have := hok.wf.pos; show 0 < 2 * G.nodes.length; omega, H.out.same hc0 (by simp), hc0.mono (by simp), fun k hk => .inl hk, rfl, hbo, hbm⟩
  case body =>
    rintro q pre ⟨a, b⟩ W ⟨P, r, F', hE⟩ hWl hpx
    have hpm := List.IsPrefix.subset hpx (List.mem_append_right pre (List.mem_singleton.2 rfl))
    obtain ⟨ha0, hb0⟩ := zip_lt hxr hyr _ hpm
    have ha := hE.sim.ext.lt ha0
    have hb := hE.sim.ext.lt hb0
    have hst := hE.sim.step (rXor_full hE.mem.gin.ok ha hb) (Y := rXor (ltF (G, 0) pre).1.1 a b) (fun _ e => by rw [e])
    obtain ⟨Q, hQ⟩ : ∃ Q, Q = rXor P.1 a b := ⟨_, rfl⟩
    rw [← hQ] at hst
    have HQ := Lib.hid hQ; clear hQ
    have hb1 := hst.2.2.2.2.1.lt hb
    have hr1 := hst.2.2.2.2.1.lt hE.lt
    have hst2 := hst.1.step (rMux_full hst.1.ok hst.2.1 hb1 hr1) (Y := rMux (rstep (ltF (G, 0) pre).1 (rXor (ltF (G, 0) pre).1.1 a b)).1.1 (rstep (ltF (G, 0) pre).1 (rXor (ltF (G, 0) pre).1.1 a b)).2 b (ltF (G, 0) pre).2) (fun h0 e => by
      rw [e, hst.2.2.2.1 h0, hE.out (by
        by_cases hz : (ltF (G, 0) pre).1.2 = 0
        · exact hz
        · exact absurd h0 (hst.2.2.2.2.2.2 hz))])
    obtain ⟨Q2, hQ2⟩ : ∃ Q2, Q2 = rMux (mput P Q).1.1 (mput P Q).2 b r := ⟨_, rfl⟩
    rw [← hQ2] at hst2
    have HQ2 := Lib.hid hQ2; clear hQ2
    have HE := Lib.hid hE; clear hE
    have HPX := Lib.hid hpx; clear hpx
    have HST := Lib.hid hst; clear hst
    have HST2 := Lib.hid hst2; clear hst2
    have HA := Lib.hid ha; clear ha
    have HB := Lib.hid hb; clear hb
    have HB1 := Lib.hid hb1; clear hb1
    have HR1 := Lib.hid hr1; clear hr1
    clear hpm ha0 hb0 hb2 hb3 hseq HPAIR
    gi_wp2
    refine Ord.St.doorR (fun w' => w'.cell? ⟨w.heap.size + 1, 0, none⟩ = some (.int .i64 r) ∧ w'.cell? ⟨w.heap.size, 0, none⟩ = some (.pointer (some ⟨m, 0, none⟩))) [.ho, .rd, .fl, .fl, .ef, .fl, .ho, .ef, .ef] [0, 0, 0, 0, 14, 0, 0, 127, 255] [0, 1, 2, 3, 4, 5, 6, 7, 8] mixed (by kernel_rfl) (by kernel_rfl) rfl ?_
    obtain ⟨Wc, hWc⟩ : ∃ Wc, Wc = W.drew := ⟨_, rfl⟩
    rw [← hWc]
    have hcur : Ch [] W Wc := by rw [hWc]; exact (Ch.refl _ _).drew
    clear hWc
    have hE := HE.out.ch0 hEF hcur
    have hWc : w.heap.size + 4 + 2 ≤ Wc.heap.size := Nat.le_trans hWl hcur.size
    have hbo := hE.ob
    have hbm := hE.mb
    have hbm0 := hbm.cell (i := 0) rfl
    have HFC := sxor_is hE.mem HA.out HB.out
    have HE := Lib.hid hE; clear hE
    have HCUR := Lib.hid hcur; clear hcur
    rw [← HQ.out] at HFC
    refine Ord.St.ho2 (T' := ?_) 0 [1, 2, 3, 4, 5, 6, 7, 8] _ _ rfl (by kernel_rfl) rfl rfl rfl rfl ?_ (fun K w' hw' hk => ?_) ?_
    rotate_left
    · exact ⟨hbo.cell rfl, hbm.cell rfl⟩
    · obtain ⟨q1, q2⟩ := hw'; go_step; exact hk
    refine Ord.St.rd2 (T' := ?_) 1 [2, 3, 4, 5, 6, 7, 8] _ _ rfl (by kernel_rfl) rfl rfl rfl rfl (fun K hk => ?_) ?_
    rotate_left
    · go_step; exact hk
    refine Ord.St.fl2 (T' := ?_) 2 [3, 4, 5, 6, 7, 8] _ _ rfl (by kernel_rfl) rfl rfl rfl rfl (fun K w' hk => ?_) ?_
    rotate_left
    · go_step; exact hk
    refine Ord.St.fl2 (T' := ?_) 3 [4, 5, 6, 7, 8] _ _ rfl (by kernel_rfl) rfl rfl rfl rfl (fun K w' hk => ?_) ?_
    rotate_left
    · go_step; exact hk
    refine Ord.St.fl2 (T' := ?_) 5 [4, 6, 7, 8] _ _ rfl (by kernel_rfl) rfl rfl rfl rfl (fun K w' hk => ?_) ?_
    rotate_left
    · go_step; exact hk
    refine Ord.St.ho2 (T' := ?_) 6 [4, 7, 8] _ _ rfl (by kernel_rfl) rfl rfl rfl rfl ?_ (fun K w' hw' hk => ?_) ?_
    rotate_left
    · exact ⟨hbo.cell rfl, hbm.cell rfl⟩
    · obtain ⟨q1, q2⟩ := hw'; go_step; exact hk
    refine Ord.St.efC 4 [7, 8] _ rfl (by kernel_rfl) (fun K hK => ?_)
    go_wp2_with fail
    refine HFC.mono ?_
    rintro e w2 ⟨rfl, F1', hmt, hcm, hFm, hmm⟩
    obtain ⟨k1, k2, k3⟩ := HE.out.more hEF hWc hmt hcm hFm hmm HST.out.1 HST.out.2.2.2.2.1 HST.out.2.2.2.2.2.2
    have hz2 : w.heap.size + 4 + 2 ≤ w2.heap.size := Nat.le_trans hWc hcm.size
    have HMC := smux_is k2.mem HST.out.2.1 HB1.out HR1.out
    rw [← HQ2.out] at HMC
    clear hbo hbm hbm0
    have hbo := k2.ob
    have hbm := k2.mb
    have HE2 := Lib.hid k2; clear k2
    have HB2 := Lib.hid k1; clear k1
    have HK2 := Lib.hid k3; clear k3
    clear HFC hcm hFm hmm hmt
    go_wp2_with fail
    refine ⟨rfl, hK _ _ ?_ ?_⟩
    · exact ⟨hbo.cell rfl, hbm.cell rfl⟩
    clear hK K
    refine Ord.St.ef 7 [8] _ rfl (by kernel_rfl) (fun K hK => ?_)
    go_wp2_with fail
    refine HMC.mono ?_
    rintro e w3 ⟨rfl, F2', hmt, hcm, hFm, hmm⟩
    obtain ⟨k1, k2, k3⟩ := HE2.out.more hEF hz2 hmt hcm hFm hmm HST2.out.1 HST2.out.2.2.2.2.1 HST2.out.2.2.2.2.2.2
    have hz3 : w.heap.size + 4 + 2 ≤ w3.heap.size := Nat.le_trans hz2 hcm.size
    clear hbo hbm
    have hbo := k2.ob
    have hbm := k2.mb
    have s1 := hbo.cell (i := 0) rfl
    have s2 := hbo.frozen (i := 0)
    have HE3 := Lib.hid k2; clear k2
    have HB3 := Lib.hid k1; clear k1
    have HK3 := Lib.hid k3; clear k3
    clear HMC hcm hFm hmm hmt
    go_wp2_with fail
    refine ⟨rfl, hK _ _ ?_⟩; clear hK K
    refine Ord.St.ef 8 [] _ rfl (by kernel_rfl) (fun K hK => ?_)
    go_wp2_with fail
    refine ⟨rfl, hK _ _ ?_⟩; clear hK K
    refine Ord.St.nil ?_
    gi_wp2
    obtain ⟨p1, p2, p3⟩ := HE3.out.put hEF hz3 HST2.out.2.1 (fun hz0 => HST2.out.2.2.2.1 hz0)
    refine ⟨(((Books.of_ch HCUR.out hWl (by simp)).trans HB2.out).trans HB3.out).trans p1, ⟨_, _, _, by rw [ltF_snoc]; exact p2⟩, ((((hKok.ch0 (by omega) hWl HCUR.out).trans (HK2.out _ hKok)).trans (HK3.out _ hKok)).trans (p3 _ hKok))⟩
  case done =>
    rintro W ⟨P, r, F', hE⟩ hK _
    have c_o := hE.ob.cell (i := 0) rfl
    have HE := Lib.hid hE; clear hE
    have HK := Lib.hid hK; clear hK
    clear hb2 hb3 hbm hbo hseq
    go_wp2
    refine ⟨by simp, .inl ⟨_, _, rfl, run_takeDeferred HK.out, ?_⟩⟩
    exact ⟨_, results_tmp rfl _ _ _, P, r, rfl, HE.out.sim, HE.out.out, HE.out.done hEF _⟩
end
end Go.Proofs.Ytkedpifopclipaa
namespace Go.Aig
theorem inF_succ (s : Mk) (n : Nat) : inF s (n + 1) = inS (inF s n) := rfl
end Go.Aig
namespace Go.Proofs.Ytkedpifopclipaa
open Go.RowKit Go.Mem Go.Aig
theorem fnvsInput1 : Fnv 122 := fnv_of Try.func122 (by simp [Try.f122]) (by simp [Try.f122])
theorem MVo.step {w W w2 w4 : World} {g m : Nat} {P' : Mk} {X F F' F1 : List Nat} {va : Option Addr} {vc : Nat} {l : List Nat} (hlow : ∀ k ∈ m :: (X ++ F), k < w.heap.size)
    (hc : Ch (m :: (X ++ F)) w W) (hF' : ∀ k ∈ F', k ∈ F ∨ w.heap.size ≤ k) (hmap : F'[2]? = F[2]?) (hrow0 : row W 45 1 (.slice va l.length vc) l.length (refsCells l)) (hfr : ∀ k, (Value.slice va l.length vc).ownBlock = some k → w.heap.size ≤ k ∧ k ∉ F' ∧ k ≠ m)
    (k1 : MIn w2 g m P' F1) (k2 : Ch (m :: F') W w2) (k3 : ∀ k ∈ F1, k ∈ F' ∨ W.heap.size ≤ k) (k4 : F1[2]? = F'[2]?) {r gb gc : Nat} {o : Obj} (hrow : row w4 45 1 (.slice (some ⟨gb, 0, none⟩) (l.length + 1) gc) (l.length + 1) (refsCells l ++ [.int .i64 r]))
    (hc4 : Ch (Value.slice va l.length vc).ownBlock.toList (w2.alloc o) w4) (hf4 : ∀ k, (Value.slice (some ⟨gb, 0, none⟩) (l.length + 1) gc).ownBlock = some k → (Value.slice va l.length vc).ownBlock = some k ∨ (w2.alloc o).heap.size ≤ k) : MVo w g m P' X F (.slice (some ⟨gb, 0, none⟩) (l.length + 1) gc) (l ++ [r]) w4 := by
  have hcz := hc.size
  have hkz := k2.size
  have hmlow := hlow m (by simp)
  have hown : ∀ k, (Value.slice va l.length vc).ownBlock = some k → k < W.heap.size ∧ w.heap.size ≤ k ∧ k ∉ F' ∧ k ≠ m := fun k hk => ⟨(hrow0.lt k hk).2, hfr k hk⟩
  have hF1 : ∀ k ∈ m :: F1, k ∉ (Value.slice va l.length vc).ownBlock.toList := fun k hk hk2 => by
    have h1 := hown k (by simpa using hk2)
    simp only [List.mem_cons] at hk
    rcases hk with e | hk
    · exact h1.2.2.2 e
    · rcases k3 k hk with e | e
      · exact h1.2.2.1 e
      · omega
  have hA : Ch (Value.slice va l.length vc).ownBlock.toList w2 w4 := ((Ch.refl _ w2).alloc o).trans hc4 (fun k hk => .inl hk)
  have hgb : w.heap.size ≤ gb ∧ gb ∉ F1 ∧ gb ≠ m := by
    rcases hf4 gb rfl with e | e
    · have h1 := hown gb e
      refine ⟨h1.2.1, fun hk => hF1 gb (by simp [hk]) (by simpa using e), h1.2.2.2⟩
    · rw [World.size_alloc] at e
      exact ⟨by omega, fun hk => by have := GIn.lt k1.gin gb hk; omega, by omega⟩
  refine ⟨F1, k1.same hA hF1, (hc.trans k2 (fun k hk => ?_)).trans hA (fun k hk => .inr (hown k (by simpa using hk)).2.1), fun k hk => ?_, k4.trans hmap, ?_, fun k hk => ?_⟩
  · simp only [List.mem_cons] at hk ⊢
    rcases hk with e | hk
    · exact .inl (.inl e)
    · rcases hF' k hk with e | e
      · exact .inl (.inr (List.mem_append_right _ e))
      · exact .inr e
  · rcases k3 k hk with e | e
    · exact hF' k e
    · exact .inr (by omega)
  · rw [show refsCells (l ++ [r]) = refsCells l ++ [.int .i64 r] from by simp [refsCells], List.length_append]
    exact hrow
  · cases hk
    exact hgb
section
variable {w : World} {g m : Nat} {G : Gra} {F : List Nat}
set_option maxRecDepth 100000 in
set_option maxHeartbeats 4000000 in
theorem sInput1_is (h : MIn w g m (G, 0) F) {bw bg n : Nat} (hn : n ≤ 1000) (hbw : w.cell? ⟨bw, 0, none⟩ = some (.int .i64 n)) (hbg : w.cell? ⟨bg, 0, none⟩ = some (.pointer (some ⟨g, 0, none⟩))) (hbgF : bg ∉ m :: F) :
    Calls Try.prog 122 (#[.pointer (some ⟨m, 0, none⟩)] ++ #[.pointer (some ⟨bw, 0, none⟩), .pointer (some ⟨bg, 0, none⟩)]) w fun e W' => ∃ v P l, e = .returned v ∧ Sim G P (inF (G, 0) n).1 ∧ ((inF (G, 0) n).1.2 = 0 → l = (inF (G, 0) n).2) ∧ MVo w g m P [] F v l W' := by
  show Calls Try.prog 122 #[.pointer (some ⟨m, 0, none⟩), .pointer (some ⟨bw, 0, none⟩), .pointer (some ⟨bg, 0, none⟩)] w _
  have hlow : ∀ k ∈ m :: ([] ++ F), k < w.heap.size := fun k hk => by
    simp only [List.nil_append, List.mem_cons] at hk
    rcases hk with rfl | hk
    · exact h.bk.lt
    · exact GIn.lt h.gin k hk
  have hbglt := cell_lt hbg
  have H := Lib.hid h; clear h
  go_enter Try.func122, Try.ntmps122
  go_wp2_with fail
  go_loopw [5, 7] (fun o i wr => ∃ (k : Nat) (P : Mk) (l : List Nat), k ≤ n ∧ i = .int .i64 k ∧ Sim G P (inF (G, 0) k).1 ∧ ((inF (G, 0) k).1.2 = 0 → l = (inF (G, 0) k).2) ∧ l.length = k ∧ MVo w g m P [] F o l wr) (fun _ i _ => n - (intOf i).toNat)
  case atStart => exact ⟨0, (G, 0), [], by omega, rfl, Sim.start H.out.gin.ok, fun _ => rfl, rfl, F, H.out, Ch.refl _ _, fun k hk => .inl hk, rfl, ⟨rfl, .inl ⟨rfl, rfl⟩⟩, by simp [Value.ownBlock]⟩
  case round =>
    obtain ⟨k, P, l, hk, rfl, hsim, hl, hlen, hmv⟩ := hrel
    obtain ⟨oa, oc, rfl⟩ := row.shape hmv.choose_spec.2.2.2.2.1
    by_cases hlt : k < n
    · obtain ⟨F', hm, hc, hF', hmap, hrow, hfr⟩ := hmv
      have hst := hsim.step (put_full hm.gin.ok) (Y := put (inF (G, 0) k).1.1 ⟨2, 0, 0, 0⟩) (fun _ e => by rw [e])
      have hcg := (hc.cell (p := ⟨bg, 0, none⟩) hbglt (by simpa using hbgF)).trans hbg
      have HI := Input_g hm.gin
      unfold doInput at HI
      obtain ⟨Q, hQ⟩ : ∃ Q, Q = put P.1 ⟨2, 0, 0, 0⟩ := ⟨_, rfl⟩
      rw [← hQ] at HI hst
      have hbk := hm.bk
      have HST := Lib.hid hst; clear hst hQ
      have HSIM := Lib.hid hsim; clear hsim
      have HL := Lib.hid hl; clear hl
      have HM := Lib.hid hm; clear hm
      have HC := Lib.hid hc; clear hc
      have HF' := Lib.hid hF'; clear hF'
      have HMAP := Lib.hid hmap; clear hmap
      have HROW := Lib.hid hrow; clear hrow
      have HFR := Lib.hid hfr; clear hfr
      have HLOW := Lib.hid hlow; clear hlow
      have HLEN := Lib.hid hlen
      have hlen2 : l.length ≤ 1000 := by omega
      clear hlen
      go_wp2_with fail
      refine HI.mono ?_
      rintro e w1 ⟨rfl, F1, hg1, hc1, hF1, hm1⟩
      replace hbk := hbk.ch hc1 HM.out.apart
      have HPUT := sput_is hbk Q.2.1 Q.2.2
      clear HI hcg
      go_wp2_with fail
      refine HPUT.mono ?_
      rintro e w2 ⟨rfl, hbk2, hc2⟩
      obtain ⟨F1', hmt, hcm, hFm, hmm⟩ := MTo.of (P' := (mput P Q).1) HM.out ⟨F1, hg1, hc1, hF1, hm1⟩ (fun _ => hbk2) hc2
      have hrow3 := (HROW.out.ch hcm (fun k hk => by have h1 := HFR.out k hk; simp only [List.mem_cons, not_or]; exact ⟨h1.2.2, h1.2.1⟩)).ch ((Ch.refl [] w2).alloc (.cells #[.int .i64 Q.2.1] 45)) (by simp)
      have hnew3 : blk (w2.alloc (.cells #[.int .i64 Q.2.1] 45)) w2.heap.size [.int .i64 Q.2.1] := blk.new' _ _ rfl
      have HROW3 := Lib.hid hrow3; clear hrow3
      have HNEW3 := Lib.hid hnew3; clear hnew3
      have HMT := Lib.hid hmt; clear hmt
      have HCM := Lib.hid hcm; clear hcm
      have HFM := Lib.hid hFm; clear hFm
      have HMM := Lib.hid hmm; clear hmm
      clear HPUT hbk hg1 hc1 hF1 hm1 hbk2 hc2
      go_wp2_with (at_builtin; go_loud (refine wpList_append_row slRefs rfl _ _ rfl (v := .slice oa l.length oc) (n := l.length) (xs := refsCells l) rfl HROW3.out (ad := ⟨w2.heap.size, 0, none⟩) (m := 1) (c := 1) (news := [.int .i64 Q.2.1]) rfl rfl (news_blk HNEW3.out) (by simp [Value.oneCell']) (by omega) (by omega) ?_; intro v' w4 hown4 hC4 hf4; obtain ⟨gb, gc, rfl⟩ := row.parts hown4 (by omega); have HO4 := Lib.hid hown4; clear hown4; have HC4 := Lib.hid hC4; clear hC4; have HF4 := Lib.hid hf4; clear hf4))
      go_roundw
      case rel =>
        refine ⟨k + 1, (mput P Q).1, l ++ [Q.2.1], by omega, by go_num, HST.out.1, fun h0 => ?_, by simp [HLEN.out], MVo.step HLOW.out HC.out HF'.out HMAP.out HROW.out HFR.out HMT.out HCM.out HFM.out HMM.out HO4.out HC4.out HF4.out⟩
        rw [HL.out (rstep_zero h0), show Q.2.1 = (mput P Q).2 from rfl, HST.out.2.2.2.1 h0]; rfl
      case measure => simp [intOf]; omega
    · have hkn : k = n := by omega
      subst hkn
      have HMV := Lib.hid hmv; clear hmv
      go_wp2_with fail
      go_ret
      exact ⟨.slice oa l.length oc, P, l, rfl, hsim, hl, HMV.out⟩
end
end Go.Proofs.Ytkedpifopclipaa
namespace Go.Aig
def nats (l : List Int) : List Nat := l.map Int.toNat
@[simp] theorem nats_len (l : List Int) : (nats l).length = l.length := by simp [nats]
/-- what a function of words returns: a word, a reference -/
def wordG (G : Gra) (ws : List (List Int)) (R : Mk × List Nat) : Gra × List Nat × Nat := if chk G ws ≠ 0 then (G, [], chk G ws) else wres G R
def refG (G : Gra) (ws : List (List Int)) (R : Mk × Nat) : Res := if chk G ws ≠ 0 then (G, 0, chk G ws) else rres G R
theorem badIn_no {G : Gra} {x : List Int} (h : badIn G x = false) : (nats x).map (fun (r : Nat) => (r : Int)) = x ∧ ∀ r ∈ nats x, r < 2 * G.nodes.length := by
  unfold badIn at h
  rw [List.any_eq_false] at h
  have h1 : ∀ r ∈ x, 0 ≤ r ∧ r < 2 * G.nodes.length := fun r hr => by simpa [right] using h r hr
  clear h
  constructor
  · unfold nats
    rw [List.map_map]
    refine (List.map_congr_left (g := id) fun r hr => ?_).trans (List.map_id _)
    have := h1 r hr
    simp; omega
  · intro r hr
    obtain ⟨q, hq, rfl⟩ := List.mem_map.1 hr
    have := h1 q hq
    omega
structure ChkOk (G : Gra) (n : Nat) (x : List Int) : Prop where
  len : x.length = n
  r1 : 1 ≤ n
  r2 : n ≤ 17
  cast : (nats x).map (fun (r : Nat) => (r : Int)) = x
  lt : ∀ r ∈ nats x, r < 2 * G.nodes.length
theorem chk_ok {G : Gra} {x0 : List Int} {ws : List (List Int)} (h : chk G (x0 :: ws) = 0) : ∀ x ∈ x0 :: ws, ChkOk G x0.length x := by
  unfold chk at h
  split at h
  · cases h
  · rename_i h1
    split at h
    · cases h
    · rename_i h2
      intro x hx
      have h3 : badAs x0.length x = false := by
        have := List.any_eq_false.1 (by simpa using h1) x hx
        simpa using this
      have h4 : badIn G x = false := by
        have := List.any_eq_false.1 (by simpa using h2) x hx
        simpa using this
      unfold badAs rightW at h3
      simp at h3
      obtain ⟨⟨a1, a2⟩, a3⟩ := h3
      obtain ⟨b1, b2⟩ := badIn_no h4
      exact ⟨by omega, by omega, by omega, b1, b2⟩
theorem chk_small (G : Gra) (ws : List (List Int)) : chk G ws ≤ 230 := by unfold chk; split; omega; split <;> omega
end Go.Aig
namespace Go.Proofs.Ytkedpifopclipaa
open Go.RowKit Go.Mem Go.Aig
theorem calls_named {P : Program} {f : FuncId} {args : Array Value} {w : World} {R : Ending → World → Prop} (h : ∀ W, W = w → Calls P f args W R) : Calls P f args w R := h w rfl
/-- a word that goes in: apart from the graph's blocks -/
structure WVin (w : World) (F : List Nat) (x : WV) : Prop where
  ok : WVok w x
  apart : ∀ k ∈ ablk x.a, k ∉ F ∧ k < w.heap.size
theorem WVin.ch {w w' : World} {F : List Nat} {x : WV} (h : WVin w F x) (hc : Ch [] w w') : WVin w' F x := ⟨h.ok.ch hc (by simp), fun k hk => ⟨(h.apart k hk).1, Nat.lt_of_lt_of_le (h.apart k hk).2 hc.size⟩⟩
theorem GVo.since {w w1 w' : World} {g : Nat} {G : Gra} {X F : List Nat} {v : Value} {l : List Nat} (hc : Ch [] w w1) (h : GVo w1 g G X F v l w') : GVo w g G X F v l w' := by
  obtain ⟨F', h1, h2, h3, h4, h5, h6⟩ := h
  exact ⟨F', h1, (hc.mono (by simp)).trans h2 (fun k hk => .inl hk), fun k hk => (h3 k hk).imp id (fun e => Nat.le_trans hc.size e), h4, h5, fun k hk => ⟨Nat.le_trans hc.size (h6 k hk).1, (h6 k hk).2⟩⟩
theorem GTo.since {w w1 w' : World} {g : Nat} {G : Gra} {F : List Nat} (hc : Ch [] w w1) (h : GTo w1 g G F w') : GTo w g G F w' := by
  obtain ⟨F', h1, h2, h3, h4⟩ := h
  exact ⟨F', h1, (hc.mono (by simp)).trans h2 (fun k hk => .inl hk), fun k hk => (h3 k hk).imp id (fun e => Nat.le_trans hc.size e), h4⟩
theorem GVo.none {w w' : World} {g : Nat} {G : Gra} {F : List Nat} (h : GIn w g G F) (hc : Ch [] w w') : GVo w g G [] F (.slice none 0 0) [] w' :=
  GVo.nil (F' := F) (h.same hc (by simp)) (hc.mono (by simp)) (fun _ hk => .inl hk) rfl
theorem chk2_at {w : World} {g : Nat} {G : Gra} {F : List Nat} (h : GIn w g G F) {b : Nat} {x y : WV} (hb : blk w b [x.val, y.val]) (hx : WVok w x) (hy : WVok w y) :
    Calls Try.prog 131 #[.pointer (some ⟨g, 0, none⟩), .slice (some ⟨b, 0, none⟩) 2 2] w fun e w' => e = .returned (.int .i64 (chk G [x.l, y.l])) ∧ Ch [] w w' :=
  scheck_is h (ws := [x, y]) 2 2 rfl (by omega) (fun i z hz => by
    rcases i with _ | _ | i
    · cases hz; exact hb.cell rfl
    · cases hz; exact hb.cell rfl
    · cases hz) (fun z hz => by simp at hz; rcases hz with rfl | rfl; exact hx; exact hy)
theorem chk1_at {w : World} {g : Nat} {G : Gra} {F : List Nat} (h : GIn w g G F) {b : Nat} {x : WV} (hb : blk w b [x.val]) (hx : WVok w x) :
    Calls Try.prog 131 #[.pointer (some ⟨g, 0, none⟩), .slice (some ⟨b, 0, none⟩) 1 1] w fun e w' => e = .returned (.int .i64 (chk G [x.l])) ∧ Ch [] w w' :=
  scheck_is h (ws := [x]) 1 1 rfl (by omega) (fun i z hz => by
    rcases i with _ | i
    · cases hz; exact hb.cell rfl
    · cases hz) (fun z hz => by simp at hz; subst hz; exact hx)
section
variable {w : World} {g : Nat} {G : Gra} {F : List Nat}
end
end Go.Proofs.Ytkedpifopclipaa
namespace Go.Aig
def sumW (n : Nat) (s : Mk) (l : List (Nat × Nat)) (c : Nat) : Mk × List Nat := ((sumF n s l c).1, (sumF n s l c).2.1)
end Go.Aig
namespace Go.Proofs.Ytkedpifopclipaa
open Go.RowKit Go.Mem Go.Aig
section
variable {w : World} {g : Nat} {G : Gra} {F : List Nat}
set_option maxRecDepth 100000 in
set_option maxHeartbeats 2000000 in
theorem sNe_is (h : GIn w g G F) {x y : WV} (hx : WVin w F x) (hy : WVin w F y) :
    Calls Try.prog 133 #[.pointer (some ⟨g, 0, none⟩), x.val, y.val] w fun e w' => e = .returned (.tuple #[.int .i64 (refG G [x.l, y.l] (neF (G, 0) ((nats x.l).zip (nats y.l)))).2.1, .int .i64 (refG G [x.l, y.l] (neF (G, 0) ((nats x.l).zip (nats y.l)))).2.2]) ∧ GTo w g (refG G [x.l, y.l] (neF (G, 0) ((nats x.l).zip (nats y.l)))).1 F w' := by
  have hFl := h.lt
  have hxlen := hx.ok.len
  have hylen := hy.ok.len
  obtain ⟨xa, xl, xc⟩ := x
  obtain ⟨ya, yl, yc⟩ := y
  simp only [WV.val] at *
  unfold refG
  have hch := chk_ok (G := G) (x0 := xl) (ws := [yl])
  have hcs := chk_small G [xl, yl]
  generalize hR : neF (G, 0) ((nats xl).zip (nats yl)) = R
  generalize hc : chk G [xl, yl] = cc at *
  have hC : ∀ W, Ch [] w W → ∀ b, blk W b [.slice xa xl.length xc, .slice ya yl.length yc] → Calls Try.prog 131 #[.pointer (some ⟨g, 0, none⟩), .slice (some ⟨b, 0, none⟩) 2 2] W fun e w' => e = .returned (.int .i64 cc) ∧ Ch [] W w' := fun W hW b hb => by
    have := chk2_at (h.same hW (by simp)) (x := ⟨xa, xl, xc⟩) (y := ⟨ya, yl, yc⟩) hb (hx.ch hW).ok (hy.ch hW).ok
    rw [hc] at this
    exact this
  have HC := Lib.hid hC; clear hC
  have HCC := Lib.hid hc; clear hc
  have HX := Lib.hid hx; clear hx
  have HY := Lib.hid hy; clear hy
  have H := Lib.hid h; clear h
  have HCH := Lib.hid hch; clear hch
  generalize hWW : (if cc ≠ 0 then (G, 0, cc) else rres G R : Res) = WW
  have HWW := Lib.hid hWW; clear hWW
  have HR := Lib.hid hR; clear hR
  go_enter Try.func133, Try.ntmps133
  go_wp2_with fail
  refine calls_named fun W0 hW0 => ?_
  have hc0 : Ch [] w W0 := by rw [hW0]; exact ((((Ch.refl _ _).alloc _).alloc _).alloc _).alloc _
  have hbg : blk W0 w.heap.size [.pointer (some ⟨g, 0, none⟩)] := by rw [hW0]; exact (((blk.new' _ _ (by simp)).alloc _).alloc _).alloc _
  have hbx : blk W0 (w.heap.size + 1) [.slice xa xl.length xc] := by rw [hW0]; exact ((blk.new' _ _ (by simp)).alloc _).alloc _
  have hby : blk W0 (w.heap.size + 2) [.slice ya yl.length yc] := by rw [hW0]; exact (blk.new' _ _ (by simp)).alloc _
  have hbl : blk W0 (w.heap.size + 3) [.slice xa xl.length xc, .slice ya yl.length yc] := by rw [hW0]; exact blk.new' _ _ (by simp)
  clear hW0
  refine (HC.out W0 hc0 _ hbl).mono ?_
  rintro e w1 ⟨rfl, hc1⟩
  have HC01 := Lib.hid (hc0.trans hc1 (by simp))
  replace hbg := hbg.ch hc1 (by simp)
  have hbg0 := hbg.cell (i := 0) rfl
  have HBG := Lib.hid hbg; clear hbg
  replace hbx := hbx.ch hc1 (by simp)
  have hbx0 := hbx.cell (i := 0) rfl
  have HBX := Lib.hid hbx; clear hbx
  replace hby := hby.ch hc1 (by simp)
  have hby0 := hby.cell (i := 0) rfl
  have HBY := Lib.hid hby; clear hby
  clear hbl hc0 hc1
  by_cases hcc : cc = 0
  · subst hcc
    obtain ⟨h1, h2⟩ : (∃ _ : ChkOk G xl.length xl, ChkOk G xl.length yl) := ⟨HCH.out rfl xl (by simp), HCH.out rfl yl (by simp)⟩
    have hww := HWW.out
    rw [if_neg (by simp)] at hww
    have hB := sbuildR_is (H.out.same HC01.out (by simp)) 192 #[.pointer (some ⟨w.heap.size + 1, 0, none⟩), .pointer (some ⟨w.heap.size + 2, 0, none⟩), .pointer (some ⟨w.heap.size, 0, none⟩)] fnvsNe1 (neF (G, 0) ((nats xl).zip (nats yl))) (fun W m hm hW hM => by
      have hz1 := HC01.out.size
      have hall : Ch [] w W := HC01.out.trans hW (by simp)
      have hbgl := HBG.out.lt
      refine sNe1_is hM (x := nats xl) (y := nats yl) (xa := xa) (ya := ya) xl.length xc yc (by simp) (by simp [h2.len]) (by have := h1.r2; omega) ((HBX.out.ch hW (by simp)).cell (i := 0) rfl) (by
        have := (HBY.out.ch hW (by simp)).cell (i := 0) rfl
        rw [h2.len] at this
        exact this) ((HBG.out.ch hW (by simp)).cell (i := 0) rfl) (fun hk => by
        simp only [List.mem_cons] at hk
        rcases hk with e | e
        · omega
        · have := hFl _ e; omega) (by rw [h1.cast]; exact (HX.out.ok.sl.ch hall (by simp))) (by rw [h2.cast]; exact (HY.out.ok.sl.ch hall (by simp))) (fun k hk => ?_) (fun k hk => ?_) h1.lt h2.lt
      · have := HX.out.apart k hk
        refine ⟨fun hk2 => ?_, by have := hall.size; omega⟩
        simp only [List.mem_cons] at hk2
        rcases hk2 with e | e
        · omega
        · exact this.1 e
      · have := HY.out.apart k hk
        refine ⟨fun hk2 => ?_, by have := hall.size; omega⟩
        simp only [List.mem_cons] at hk2
        rcases hk2 with e | e
        · omega
        · exact this.1 e)
    rw [HR.out, hww] at hB
    have HB := Lib.hid hB; clear hB
    clear hww h1 h2
    go_wp2_with fail
    refine HB.out.mono ?_
    rintro e w2 ⟨rfl, hg⟩
    have HG := Lib.hid hg; clear hg
    go_wp2_with fail
    go_ret2
    exact ⟨rfl, GTo.since HC01.out HG.out⟩
  · have hww := HWW.out
    rw [if_pos (by simpa using hcc)] at hww
    subst hww
    have hq : ((cc : Int) != 0) = true := by simp; omega
    have HQ := Lib.hid hcc; clear hcc
    go_wp2_with fail
    go_ret2
    exact ⟨rfl, GTo.same H.out HC01.out⟩
set_option maxRecDepth 100000 in
set_option maxHeartbeats 2000000 in
theorem sLt_is (h : GIn w g G F) {x y : WV} (hx : WVin w F x) (hy : WVin w F y) :
    Calls Try.prog 67 #[.pointer (some ⟨g, 0, none⟩), x.val, y.val] w fun e w' => e = .returned (.tuple #[.int .i64 (refG G [x.l, y.l] (ltF (G, 0) ((nats x.l).zip (nats y.l)))).2.1, .int .i64 (refG G [x.l, y.l] (ltF (G, 0) ((nats x.l).zip (nats y.l)))).2.2]) ∧ GTo w g (refG G [x.l, y.l] (ltF (G, 0) ((nats x.l).zip (nats y.l)))).1 F w' := by
  have hFl := h.lt
  have hxlen := hx.ok.len
  have hylen := hy.ok.len
  obtain ⟨xa, xl, xc⟩ := x
  obtain ⟨ya, yl, yc⟩ := y
  simp only [WV.val] at *
  unfold refG
  have hch := chk_ok (G := G) (x0 := xl) (ws := [yl])
  have hcs := chk_small G [xl, yl]
  generalize hR : ltF (G, 0) ((nats xl).zip (nats yl)) = R
  generalize hc : chk G [xl, yl] = cc at *
  have hC : ∀ W, Ch [] w W → ∀ b, blk W b [.slice xa xl.length xc, .slice ya yl.length yc] → Calls Try.prog 131 #[.pointer (some ⟨g, 0, none⟩), .slice (some ⟨b, 0, none⟩) 2 2] W fun e w' => e = .returned (.int .i64 cc) ∧ Ch [] W w' := fun W hW b hb => by
    have := chk2_at (h.same hW (by simp)) (x := ⟨xa, xl, xc⟩) (y := ⟨ya, yl, yc⟩) hb (hx.ch hW).ok (hy.ch hW).ok
    rw [hc] at this
    exact this
  have HC := Lib.hid hC; clear hC
  have HCC := Lib.hid hc; clear hc
  have HX := Lib.hid hx; clear hx
  have HY := Lib.hid hy; clear hy
  have H := Lib.hid h; clear h
  have HCH := Lib.hid hch; clear hch
  generalize hWW : (if cc ≠ 0 then (G, 0, cc) else rres G R : Res) = WW
  have HWW := Lib.hid hWW; clear hWW
  have HR := Lib.hid hR; clear hR
  go_enter Try.func67, Try.ntmps67
  go_wp2_with fail
  refine calls_named fun W0 hW0 => ?_
  have hc0 : Ch [] w W0 := by rw [hW0]; exact (((Ch.refl _ _).alloc _).alloc _).alloc _
  have hbx : blk W0 w.heap.size [.slice xa xl.length xc] := by rw [hW0]; exact ((blk.new' _ _ (by simp)).alloc _).alloc _
  have hby : blk W0 (w.heap.size + 1) [.slice ya yl.length yc] := by rw [hW0]; exact (blk.new' _ _ (by simp)).alloc _
  have hbl : blk W0 (w.heap.size + 2) [.slice xa xl.length xc, .slice ya yl.length yc] := by rw [hW0]; exact blk.new' _ _ (by simp)
  clear hW0
  refine (HC.out W0 hc0 _ hbl).mono ?_
  rintro e w1 ⟨rfl, hc1⟩
  have HC01 := Lib.hid (hc0.trans hc1 (by simp))
  replace hbx := hbx.ch hc1 (by simp)
  have hbx0 := hbx.cell (i := 0) rfl
  have HBX := Lib.hid hbx; clear hbx
  replace hby := hby.ch hc1 (by simp)
  have hby0 := hby.cell (i := 0) rfl
  have HBY := Lib.hid hby; clear hby
  clear hbl hc0 hc1
  by_cases hcc : cc = 0
  · subst hcc
    obtain ⟨h1, h2⟩ : (∃ _ : ChkOk G xl.length xl, ChkOk G xl.length yl) := ⟨HCH.out rfl xl (by simp), HCH.out rfl yl (by simp)⟩
    have hww := HWW.out
    rw [if_neg (by simp)] at hww
    have hB := sbuildR_is (H.out.same HC01.out (by simp)) 135 #[.pointer (some ⟨w.heap.size, 0, none⟩), .pointer (some ⟨w.heap.size + 1, 0, none⟩)] fnvsLt1 (ltF (G, 0) ((nats xl).zip (nats yl))) (fun W m hm hW hM => by
      have hz1 := HC01.out.size
      have hall : Ch [] w W := HC01.out.trans hW (by simp)
      refine sLt1_is hM (x := nats xl) (y := nats yl) (xa := xa) (ya := ya) xl.length xc yc (by simp) (by simp [h2.len]) ((HBX.out.ch hW (by simp)).cell (i := 0) rfl) (by
        have := (HBY.out.ch hW (by simp)).cell (i := 0) rfl
        rw [h2.len] at this
        exact this) (by rw [h1.cast]; exact (HX.out.ok.sl.ch hall (by simp))) (by rw [h2.cast]; exact (HY.out.ok.sl.ch hall (by simp))) (fun k hk => ?_) (fun k hk => ?_) h1.lt h2.lt
      · have := HX.out.apart k hk
        refine ⟨fun hk2 => ?_, by have := hall.size; omega⟩
        simp only [List.mem_cons] at hk2
        rcases hk2 with e | e
        · omega
        · exact this.1 e
      · have := HY.out.apart k hk
        refine ⟨fun hk2 => ?_, by have := hall.size; omega⟩
        simp only [List.mem_cons] at hk2
        rcases hk2 with e | e
        · omega
        · exact this.1 e)
    rw [HR.out, hww] at hB
    have HB := Lib.hid hB; clear hB
    clear hww h1 h2
    go_wp2_with fail
    refine HB.out.mono ?_
    rintro e w2 ⟨rfl, hg⟩
    have HG := Lib.hid hg; clear hg
    go_wp2_with fail
    go_ret2
    exact ⟨rfl, GTo.since HC01.out HG.out⟩
  · have hww := HWW.out
    rw [if_pos (by simpa using hcc)] at hww
    subst hww
    have hq : ((cc : Int) != 0) = true := by simp; omega
    have HQ := Lib.hid hcc; clear hcc
    go_wp2_with fail
    go_ret2
    exact ⟨rfl, GTo.same H.out HC01.out⟩
end
end Go.Proofs.Ytkedpifopclipaa
