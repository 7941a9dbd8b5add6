/-
  Walks over the reference's Xor, Cut, Inputs, Depths, and over the law's refs. Conditions: a graph that can be read; a slice that can be read.
-/
import Derived.Test.YtnajonchjlplmaaQR4
import Derived.Test.YtnajonchjlplmaaQW40
import Derived.Test.YtnajonchjlplmaaQW42
namespace Go.Proofs.Ytnajonchjlplmaa
open Go.RowKit Go.Mem Go.Aig
theorem slInts : SliceTy Try.prog 54 3 1 8 (.int .i64 0) := ⟨Try.underlying54, infoInt, rfl, by decide⟩
/-- a row that a call grew, and all before it -/
theorem app_step {W0 w W W4 : World} {v v' : Value} (h0 : Ch [] W0 w) (h1 : Ch [] w W) (hlo : ∀ q ∈ v.ownBlock.toList, W0.heap.size ≤ q) (hC : Ch v.ownBlock.toList W W4) (hf : ∀ k, v'.ownBlock = some k → v.ownBlock = some k ∨ W.heap.size ≤ k) :
    Ch [] W0 W4 ∧ ∀ q ∈ v'.ownBlock.toList, W0.heap.size ≤ q := by
  refine ⟨(h0.trans h1 (by simp)).trans hC (fun k hk => .inr (hlo k hk)), fun q hq => ?_⟩
  rcases hf q (by simpa using hq) with e | e
  · exact hlo q (by simpa using e)
  · have := h0.size; have := h1.size; omega
theorem rXor_rok {G : Gra} (h : Ok G) {a b : Nat} (ha : a < 2 * G.nodes.length) (hb : b < 2 * G.nodes.length) : ROk G (rXor G a b) := rMux_rok h ha (neg_lt hb) hb
theorem max_nat' (n k m : Nat) (h : max n k = m) (ats : Array TypeId) (ty : TypeId) : Builtin.max_ ats ty #[.int .i64 (n : Int), .int .i64 (k : Int)] = pure (.int .i64 (m : Int)) := by
  have e : (if (k : Int) > n then (k : Int) else n) = m := by split <;> omega
  rw [← e]
  simp [Builtin.max_, Builtin.max2]
theorem Sl.of_row' {w : World} {e : TypeId} {a : Option Addr} {n cap : Nat} {l : List Nat} (h : row w e 1 (.slice a n cap) n (refsCells l)) (hl : l.length = n) (hn : n ≤ 1000000) : Sl w a (l.map fun (r : Nat) => (r : Int)) := by
  refine ⟨fun i x hx => ?_, by simp; omega⟩
  rw [List.getElem?_map] at hx
  cases hr : l[i]? with
  | none => rw [hr] at hx; cases hx
  | some r =>
    rw [hr] at hx
    simp at hx
    subst hx
    obtain ⟨gb, go, hge, gc⟩ := (row.sv h rfl hn).cells i (.int .i64 r) (by simp [refsCells, hr])
    exact ⟨gb, go, hge, gc⟩
section
set_option maxRecDepth 100000 in
set_option maxHeartbeats 2000000 in
theorem rXor_is {w : World} {rb cap : Nat} {G : Gra} (h : RG w rb cap G) {a b : Nat} (ha : a < 2 * G.nodes.length) (hb : b < 2 * G.nodes.length) : Calls Try.prog 78 #[.agg #[.int .i64 G.most, .slice (some ⟨rb, 0, none⟩) G.nodes.length cap], .int .i64 a, .int .i64 b] w (RTo w rb (rXor G a b)) := by
  obtain ⟨hl, hp, hmo⟩ := h.len
  have hle := h.le
  have hmx := h.mx
  have hrb := h.lt
  have hN := fun (W : World) => rNot_is W b (by omega)
  have HN := Lib.hid hN; clear hN
  have hA1 := fun (W : World) (hW : Ch [] w W) => rMux_is (h.ch hW (by simp)) ha (neg_lt hb) hb
  have hro : rXor G a b = rMux G a (neg b) b := rfl
  rw [hro]
  clear hro
  generalize rMux G a (neg b) b = X at *
  generalize neg b = nb at *
  have HA1 := Lib.hid hA1; clear hA1
  have H := Lib.hid h; clear h
  go_enter Try.func78, Try.ntmps78
  go_wp2_with fail
  refine wp_alw ?_
  intro W0 hW0
  have hc0 : Ch [] w W0 := by rw [hW0]; exact ((Ch.refl _ _).alloc _).alloc _
  have b2 : blk W0 w.heap.size [.int .i64 G.most, .slice (some ⟨rb, 0, none⟩) G.nodes.length cap] := by rw [hW0]; exact (blk.new' (w := w) [.int .i64 G.most, .slice (some ⟨rb, 0, none⟩) G.nodes.length cap] 105 rfl).alloc _
  have b4 : blk W0 (w.heap.size + 1) [.int .i64 0, .slice none 0 0] := by rw [hW0]; exact blk.new' [.int .i64 0, .slice none 0 0] 105 (by simp)
  clear hW0
  have y0 := b2.cell (i := 0) rfl
  have y1 := b2.cell (i := 1) rfl
  have B4 := Lib.hid b4; clear b4
  have HC0 := Lib.hid hc0; clear hc0 b2
  refine Ord.St.door (fun _ => True) [.rd, .fl, .fl, .fl, .fl, .ef, .fl, .fl, .fl, .ef, .fl, .fl] [0, 0, 0, 4, 0, 31, 63, 63, 63, 511, 1023, 2047] [0, 1, 2, 3, 4, 5, 6, 7, 8, 9, 10, 11] mixed (by kernel_rfl) rfl ?_
  refine Ord.St.rd2 (T' := ?_) 0 [1, 2, 3, 4, 5, 6, 7, 8, 9, 10, 11] _ _ rfl (by kernel_rfl) rfl rfl rfl rfl (fun K hk => ?_) ?_
  rotate_left
  · go_step; exact hk
  refine Ord.St.fl2 (T' := ?_) 1 [2, 3, 4, 5, 6, 7, 8, 9, 10, 11] _ _ rfl (by kernel_rfl) rfl rfl rfl rfl (fun K w' hk => ?_) ?_
  rotate_left
  · go_step; exact hk
  refine Ord.St.fl2 (T' := ?_) 2 [3, 4, 5, 6, 7, 8, 9, 10, 11] _ _ rfl (by kernel_rfl) rfl rfl rfl rfl (fun K w' hk => ?_) ?_
  rotate_left
  · go_step; exact hk
  refine Ord.St.fl2 (T' := ?_) 3 [4, 5, 6, 7, 8, 9, 10, 11] _ _ rfl (by kernel_rfl) rfl rfl rfl rfl (fun K w' hk => ?_) ?_
  rotate_left
  · go_step; refine (HN.out _).mono ?_; rintro e w'' ⟨rfl, rfl⟩; exact hk
  refine Ord.St.fl2 (T' := ?_) 4 [5, 6, 7, 8, 9, 10, 11] _ _ rfl (by kernel_rfl) rfl rfl rfl rfl (fun K w' hk => ?_) ?_
  rotate_left
  · go_step; exact hk
  refine Ord.St.ef 5 [6, 7, 8, 9, 10, 11] _ rfl (by kernel_rfl) (fun K hK => ?_)
  have HA := Lib.hid (HA1.out _ (HC0.out.drew))
  go_wp2_with fail
  refine HA.out.mono ?_
  rintro e w5 ⟨rb1, cap1, rfl, hrg, hch, hfr⟩
  have hr1 : rb1 = rb ∨ w.heap.size + 1 < rb1 := hfr.imp id (fun e => by have := B4.out.lt; simp at e; omega)
  have hc5 := HC0.out.drew.trans hch (by simp)
  have b5 := B4.out.drew.ch hch (by simp)
  have v0 := b5.cell (i := 0) rfl
  have v1 := b5.cell (i := 1) rfl
  have f0 := b5.frozen (i := 0)
  have f1 := b5.frozen (i := 1)
  have HC5 := Lib.hid hc5; clear hc5
  have HRG := Lib.hid hrg; clear hrg
  clear hch hfr b5 HA y0 y1
  go_wp2_with fail
  refine ⟨rfl, hK _ _ ?_⟩; clear hK K
  refine Ord.St.fl2 (T' := ?_) 6 [7, 8, 9, 10, 11] _ _ rfl (by kernel_rfl) rfl rfl rfl rfl (fun K w' hk => ?_) ?_
  rotate_left
  · go_step; exact hk
  refine Ord.St.fl2 (T' := ?_) 7 [8, 9, 10, 11] _ _ rfl (by kernel_rfl) rfl rfl rfl rfl (fun K w' hk => ?_) ?_
  rotate_left
  · go_step; exact hk
  refine Ord.St.fl2 (T' := ?_) 8 [9, 10, 11] _ _ rfl (by kernel_rfl) rfl rfl rfl rfl (fun K w' hk => ?_) ?_
  rotate_left
  · go_step; exact hk
  refine Ord.St.ef 9 [10, 11] _ rfl (by kernel_rfl) (fun K hK => ?_)
  go_wp2_with fail
  refine ⟨rfl, hK _ _ ?_⟩; clear hK K
  refine Ord.St.fl2 (T' := ?_) 10 [11] _ _ rfl (by kernel_rfl) rfl rfl rfl rfl (fun K w' hk => ?_) ?_
  rotate_left
  · go_step; exact hk
  refine Ord.St.fl2 (T' := ?_) 11 [] _ _ rfl (by kernel_rfl) rfl rfl rfl rfl (fun K w' hk => ?_) ?_
  rotate_left
  · go_step; exact hk
  refine Ord.St.nil ?_
  go_wp2_with fail
  have hcc := set2_ch (w := w5) (b := w.heap.size + 1) (u := .int .i64 X.1.most) (v := .slice (some ⟨rb1, 0, none⟩) X.1.nodes.length cap1) rfl
  refine bodyPost_ret (v := .tuple #[.agg #[.int .i64 X.1.most, .slice (some ⟨rb1, 0, none⟩) X.1.nodes.length cap1], .int .i64 X.2.1, .int .i64 X.2.2]) (by simp [results, Try.results78, go_sem, v0, v1]) rfl ?_
  exact ⟨rb1, cap1, rfl, HRG.out.ch hcc (by simp; omega), HC5.out.trans hcc (fun k hk => .inr (by simp at hk; omega)), by omega⟩
/-- what Cut returns -/
def RCut (w : World) (rb : Nat) (R : Gra × Nat) (e : Ending) (w' : World) : Prop := ∃ cap', e = .returned (.tuple #[.agg #[.int .i64 R.1.most, .slice (some ⟨rb, 0, none⟩) R.1.nodes.length cap'], .int .i64 R.2]) ∧ RG w' rb cap' R.1 ∧ Ch [] w w'
set_option maxRecDepth 100000 in
set_option maxHeartbeats 2000000 in
theorem rCut_is {w : World} {rb cap : Nat} {G : Gra} (h : RG w rb cap G) (n : Int) : Calls Try.prog 82 #[.agg #[.int .i64 G.most, .slice (some ⟨rb, 0, none⟩) G.nodes.length cap], .int .i64 n] w (RCut w rb (doCut G n)) := by
  obtain ⟨hl, hp, hmo⟩ := h.len
  have hle := h.le
  have hmx := h.mx
  have H := Lib.hid h; clear h
  have hc2 : Ch [] w ((w.alloc (.cells #[.int .i64 G.most, .slice (some ⟨rb, 0, none⟩) G.nodes.length cap] 105)).alloc (.cells #[.int .i64 G.most, .slice (some ⟨rb, 0, none⟩) G.nodes.length cap] 105)) := ((Ch.refl _ _).alloc _).alloc _
  have HC2 := Lib.hid hc2; clear hc2
  unfold doCut
  by_cases h1 : n < 1
  · rw [if_pos (.inl h1)]
    go_enter Try.func82, Try.ntmps82
    go_wp2_with fail
    exact bodyPost_ret (v := .tuple #[.agg #[.int .i64 G.most, .slice (some ⟨rb, 0, none⟩) G.nodes.length cap], .int .i64 2]) (by simp [results, Try.results82, go_sem]) rfl ⟨cap, rfl, H.out.ch HC2.out (by simp), HC2.out⟩
  · by_cases h2 : (G.nodes.length : Int) < n
    · rw [if_pos (.inr h2)]
      go_enter Try.func82, Try.ntmps82
      go_wp2_with fail
      exact bodyPost_ret (v := .tuple #[.agg #[.int .i64 G.most, .slice (some ⟨rb, 0, none⟩) G.nodes.length cap], .int .i64 2]) (by simp [results, Try.results82, go_sem]) rfl ⟨cap, rfl, H.out.ch HC2.out (by simp), HC2.out⟩
    · rw [if_neg (by omega)]
      obtain ⟨m, rfl⟩ := Int.eq_ofNat_of_zero_le (show 0 ≤ n by omega)
      have k0 : (0 : Int) ≤ (m : Int) := by omega
      have k1 : (m : Int) ≤ (cap : Int) := by omega
      have hml : (G.nodes.take m).length = m := by rw [List.length_take]; omega
      have hok : Ok { G with nodes := G.nodes.take m } := H.out.ok.take (by omega)
      have hrg : RG w rb cap { G with nodes := G.nodes.take m } := ⟨fun j u hu => H.out.cells j u (rCells_take hu), H.out.lt, by simp; omega, H.out.mx, hok⟩
      have HRG := Lib.hid hrg; clear hrg hok
      have HML := Lib.hid hml; clear hml
      go_enter Try.func82, Try.ntmps82
      go_wp2_with fail
      refine bodyPost_ret (v := .tuple #[.agg #[.int .i64 G.most, .slice (some ⟨rb, 0, none⟩) m cap], .int .i64 0]) (by simp [results, Try.results82, go_sem]) rfl ?_
      have hc9 : Ch [] w ((w.alloc (.cells #[.int .i64 G.most, .slice (some ⟨rb, 0, none⟩) m cap] 105)).alloc (.cells #[.int .i64 G.most, .slice (some ⟨rb, 0, none⟩) m cap] 105)) := ((Ch.refl _ _).alloc _).alloc _
      exact ⟨cap, by simp [HML.out], HRG.out.ch hc9 (by simp), hc9⟩
set_option maxRecDepth 100000 in
set_option maxHeartbeats 2000000 in
theorem rInputs_is {w : World} {rb cap : Nat} {G : Gra} (h : RG w rb cap G) : Calls Try.prog 84 #[.agg #[.int .i64 G.most, .slice (some ⟨rb, 0, none⟩) G.nodes.length cap]] w fun e w' => ∃ v, e = .returned v ∧ row w' 3 1 v (inputs G.nodes).length (refsCells (inputs G.nodes)) ∧ (∀ q ∈ v.ownBlock.toList, w.heap.size ≤ q) ∧ Ch [] w w' := by
  obtain ⟨hl, hp, hmo⟩ := h.len
  have hle := h.le
  have hmx := h.mx
  have H := Lib.hid h; clear h
  go_enter Try.func84, Try.ntmps84
  go_wp2_with fail
  refine wp_alw ?_
  intro W0 hW0
  have hc0 : Ch [] w W0 := by rw [hW0]; exact (Ch.refl _ _).alloc _
  have b2 : blk W0 w.heap.size [.int .i64 G.most, .slice (some ⟨rb, 0, none⟩) G.nodes.length cap] := by rw [hW0]; exact blk.new' (w := w) [.int .i64 G.most, .slice (some ⟨rb, 0, none⟩) G.nodes.length cap] 105 rfl
  clear hW0
  have hr0 := H.out.ch hc0 (by simp)
  have B2 := Lib.hid b2; clear b2
  have HC0 := Lib.hid hc0; clear hc0
  have HR0 := Lib.hid hr0; clear hr0
  go_loopw [3, 4] (fun o i wr => ∃ k : Nat, k ≤ G.nodes.length ∧ i = .int .i64 k ∧ Ch [] W0 wr ∧ row wr 3 1 o (inputs (G.nodes.take k)).length (refsCells (inputs (G.nodes.take k))) ∧ ∀ q ∈ o.ownBlock.toList, W0.heap.size ≤ q) (fun _ i _ => G.nodes.length - (intOf i).toNat)
  case atStart => exact ⟨0, by omega, rfl, Ch.refl _ _, ⟨rfl, .inl ⟨rfl, rfl⟩⟩, by simp⟩
  case round =>
    obtain ⟨k, hk, rfl, hc, hrow, hlo⟩ := hrel
    obtain ⟨oa, oc, rfl⟩ := row.shape hrow
    have y1 := (B2.out.ch hc (by simp)).cell (i := 1) rfl
    by_cases hlt : k < G.nodes.length
    · obtain ⟨x, hx⟩ : ∃ x, G.nodes[k]? = some x := ⟨_, List.getElem?_eq_getElem hlt⟩
      obtain ⟨c0, c1, c2⟩ := (HR0.out.ch hc (by simp)).node hx
      have hsucc : inputs (G.nodes.take (k + 1)) = inputs (G.nodes.take k) ++ (if x.k = 2 then [2 * k] else []) := by
        have := inputsFrom_split [x] (G.nodes.take k) 0
        unfold inputs
        rw [List.take_add_one, hx]
        simp only [Option.toList_some]
        rw [this]
        have hlen : (G.nodes.take k).length = k := by rw [List.length_take]; omega
        simp only [inputsFrom, hlen, Nat.zero_add]
      have hil : (inputs (G.nodes.take k)).length ≤ k := by
        have key : ∀ (l : List Nd) (n : Nat), (inputsFrom l n).length ≤ l.length := fun l => by
          induction l with
          | nil => intro n; simp [inputsFrom]
          | cons a l ih => intro n; unfold inputsFrom; split <;> simp <;> have := ih (n + 1) <;> omega
        have := key (G.nodes.take k) 0
        rw [List.length_take] at this
        unfold inputs
        omega
      have HSU := Lib.hid hsucc; clear hsucc hx
      have HLO := Lib.hid hlo; clear hlo
      have HC := Lib.hid hc; clear hc
      by_cases h2 : x.k = 2
      · have q : ((x.k : Int) == 2) = true := by simp [h2]
        have hsu := HSU.out
        rw [if_pos h2] at hsu
        have HSU2 := Lib.hid hsu; clear hsu HSU h2
        have hcA : Ch [] wr (wr.alloc (.cells #[.int .i64 (2 * (k : Int))] 3)) := (Ch.refl _ _).alloc _
        have hrA := hrow.ch hcA (by simp)
        have hbA : blk (wr.alloc (.cells #[.int .i64 (2 * (k : Int))] 3)) wr.heap.size [.int .i64 (2 * (k : Int))] := blk.new' _ _ rfl
        have HRA := Lib.hid hrA; clear hrA hrow
        have HBA := Lib.hid hbA; clear hbA
        have HCA := Lib.hid hcA; clear hcA
        generalize inputs (G.nodes.take k) = L at *
        go_wp2_with (at_builtin; go_loud (refine wpList_append_row slInts rfl _ _ rfl (v := .slice oa L.length oc) (n := L.length) (xs := refsCells L) rfl HRA.out (ad := ⟨wr.heap.size, 0, none⟩) (m := 1) (c := 1) (news := [.int .i64 (2 * (k : Int))]) rfl rfl (news_blk HBA.out) (by simp [Value.oneCell']) (by omega) (by omega) ?_; intro v' w4 hown4 hC4 hf4; have HO4 := Lib.hid hown4; clear hown4; have HC4 := Lib.hid hC4; clear hC4; have HF4 := Lib.hid hf4; clear hf4))
        go_roundw
        case rel =>
          obtain ⟨q1, q2⟩ := app_step HC.out HCA.out HLO.out HC4.out HF4.out
          refine ⟨k + 1, by omega, by go_num, q1, ?_, q2⟩
          have := HO4.out
          rw [HSU2.out]
          simpa [refsCells] using this
        case measure => simp [intOf]; omega
      · have q : ((x.k : Int) == 2) = false := by simp; omega
        have hsu := HSU.out
        rw [if_neg h2, List.append_nil] at hsu
        have HSU2 := Lib.hid hsu; clear hsu HSU h2
        have HROW := Lib.hid hrow; clear hrow
        go_wp2_with fail
        go_roundw
        case rel => exact ⟨k + 1, by omega, by go_num, HC.out, by rw [HSU2.out]; exact HROW.out, HLO.out⟩
        case measure => simp [intOf]; omega
    · have hkn : k = G.nodes.length := by omega
      have hrow' := hrow
      rw [hkn, List.take_length] at hrow'
      rw [hkn, List.take_length] at hlo
      have HROW := Lib.hid hrow'
      have HLO := Lib.hid hlo; clear hlo hrow'
      have HC := Lib.hid hc; clear hc hkn
      have hlen : (inputs (G.nodes.take k)).length = (inputs G.nodes).length := by rw [List.take_of_length_le (by omega)]
      rw [hlen]
      clear hlen hrow
      go_wp2_with fail
      go_ret
      exact ⟨.slice oa (inputs G.nodes).length oc, rfl, HROW.out, fun q hq => by have := HLO.out q hq; have := HC0.out.size; omega, HC0.out.trans HC.out (by simp)⟩
end
end Go.Proofs.Ytnajonchjlplmaa
