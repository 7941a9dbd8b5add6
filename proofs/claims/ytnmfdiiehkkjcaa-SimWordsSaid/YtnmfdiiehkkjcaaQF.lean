/-
  Walks over few, index, ref and made of chapter 21's laws. Conditions: a slice of nodes of any integers.
  From a law's arguments to what the walks say: nodes, slices of words. Conditions: those of the given row.
  Walk over slices.Equal of words; the functions of sim as steps of a walk that holds slices. Conditions: slices that can be read.
  Walk over the chapter's examples (awake of sim): true. Conditions: none.
  append of a number of zeros to a row of any shape. Conditions: a row, an element type of the table.
  Walk over slices.Clone of words; words fitted to as many as inputs; what the nodes are for words of the inputs, node by node. Conditions: a slice that can be read.
  The support of references, plainly: what does not lie in it does not matter. No program in sight. Conditions: a graph in order.
  The reference of chapter 21: Column, Assignment, Values, Value. Conditions: a graph of the reference that can be read, values 0 or 1.
  The reference of chapter 21: Value, Assignment, Column, True. Conditions: a graph of the reference that can be read, at most 17 inputs.
  The reference of chapter 21: True, Support. Conditions: a graph of the reference that can be read, at most 17 inputs.
  Words and bits of all references, plainly. Conditions: none beyond the hypotheses.
  What tables, counts and first assignments are, plainly, for the laws of chapter 21. Conditions: none beyond the hypotheses.
  The reference of chapter 21: Parted. Conditions: a graph of the reference that can be read, at most 17 inputs.
  The reference of chapter 21: Support. Conditions: a graph of the reference that can be read, references of it.
  Walk over Begin of chapter 23's laws: a graph, and the same one of the reference. Conditions: numbers in range.
  Walks over build and inputs of chapter 21's laws: a graph, and the same one of the reference. Conditions: a slice of at most 61 nodes of any integers.
  Walks over EqualFunc of two slices that agree, over same of chapter 21's laws. Conditions: slices that can be read.
  A table out of the numbers for which something is true, plainly; a reference's graph among the slices that are held. Conditions: none beyond the hypotheses.
-/
import Derived.Test.YtnmfdiiehkkjcaaQE
import Derived.Test.YtnmfdiiehkkjcaaQD
import Derived.Test.YtnmfdiiehkkjcaaQB
import Derived.Test.YtnmfdiiehkkjcaaQA
import Derived.Lib.AppendZeros
import Derived.Test.YtnmfdiiehkkjcaaQC
namespace Go.Aig
/-- a node that is wanted -/
structure N21 where
  inp : Bool
  l : Int
  r : Int
deriving Inhabited
def fewS (q : List N21 × Nat) (x : N21) : List N21 × Nat := (if q.2 + x.inp.toNat ≤ 8 ∨ x.inp = false then q.1 ++ [x] else q.1, q.2 + x.inp.toNat)
def fewL (l : List N21) : List N21 := ((l.take 40).foldl fewS ([], 0)).1
def cntI (l : List N21) : Nat := (l.filter fun x => x.inp).length
theorem cntI_snoc (l : List N21) (x : N21) : cntI (l ++ [x]) = cntI l + x.inp.toNat := by
  unfold cntI
  rw [List.filter_append, List.length_append]
  cases h : x.inp <;> simp [h]
theorem few_inv : ∀ l : List N21, (l.foldl fewS ([], 0)).1.length ≤ l.length ∧ cntI (l.foldl fewS ([], 0)).1 ≤ 8 ∧ cntI (l.foldl fewS ([], 0)).1 ≤ (l.foldl fewS ([], 0)).2 ∧ (l.foldl fewS ([], 0)).2 ≤ l.length := by
  intro l
  induction l using List.snocRec with
  | nil => exact ⟨Nat.le_refl _, by simp [cntI], by simp [cntI], Nat.le_refl _⟩
  | snoc l x ih =>
    obtain ⟨h1, h2, h3, h4⟩ := ih
    rw [List.foldl_append]
    generalize l.foldl fewS ([], 0) = q at *
    have hx : x.inp.toNat ≤ 1 := by cases x.inp <;> simp
    show (fewS q x).1.length ≤ _ ∧ cntI (fewS q x).1 ≤ 8 ∧ cntI (fewS q x).1 ≤ (fewS q x).2 ∧ (fewS q x).2 ≤ _
    unfold fewS
    simp only
    split
    · rename_i h
      rw [List.length_append, List.length_append, cntI_snoc]
      refine ⟨by simp; omega, ?_, by omega, by simp; omega⟩
      rcases h with h | h
      · omega
      · rw [h]; simpa using h2
    · rw [List.length_append]
      exact ⟨by omega, h2, by omega, by simp; omega⟩
theorem fewS_sub : ∀ (l : List N21) (q : List N21 × Nat), ∀ x ∈ (l.foldl fewS q).1, x ∈ q.1 ∨ x ∈ l := by
  intro l
  induction l with
  | nil => intro q x hx; exact .inl hx
  | cons y l ih =>
    intro q x hx
    rcases ih _ x hx with h | h
    · unfold fewS at h
      simp only at h
      split at h
      · rcases List.mem_append.1 h with h | h
        · exact .inl h
        · rw [List.mem_singleton.1 h]; exact .inr (List.mem_cons_self ..)
      · exact .inl h
    · exact .inr (List.mem_cons_of_mem _ h)
theorem fewL_sub {l : List N21} {x : N21} (h : x ∈ fewL l) : x ∈ l := by
  rcases fewS_sub (l.take 40) ([], 0) x h with h | h
  · simp at h
  · exact List.mem_of_mem_take h
theorem fewL_len (l : List N21) : (fewL l).length ≤ 40 ∧ cntI (fewL l) ≤ 8 := by
  have := few_inv (l.take 40)
  unfold fewL
  rw [List.length_take] at this
  omega
end Go.Aig
namespace Go.Proofs.Ytnmfdiiehkkjcaa
open Go.RowKit Go.Mem Go.Aig
theorem and_room21 {G : Gra} (a b : Nat) (h : G.nodes.length < G.most) : (Aig.and G a b).2.2 = 0 ∧ (Aig.and G a b).1.most = G.most ∧ (Aig.and G a b).1.nodes.length ≤ G.nodes.length + 1 ∧ inputs (Aig.and G a b).1.nodes = inputs G.nodes := by
  unfold Aig.and
  split
  · exact ⟨rfl, rfl, by simp, rfl⟩
  · split
    · exact ⟨rfl, rfl, by simp, rfl⟩
    · unfold put
      rw [if_neg (by omega)]
      refine ⟨rfl, rfl, by simp, ?_⟩
      exact inputs_append (by simp)
theorem input_room {G : Gra} (h : G.nodes.length < G.most) : (doInput G).2.2 = 0 ∧ (doInput G).1.most = G.most ∧ (doInput G).1.nodes.length = G.nodes.length + 1 ∧ (inputs (doInput G).1.nodes).length = (inputs G.nodes).length + 1 := by
  unfold doInput put
  rw [if_neg (by omega)]
  refine ⟨rfl, rfl, by simp, ?_⟩
  show (inputs (G.nodes ++ [_])).length = _
  rw [inputs_input rfl]
  simp
/-- a slice of nodes -/
structure NodeS (w : World) (a : Option Addr) (n cap : Nat) (l : List N21) : Prop where
  len : l.length = n
  le : n ≤ cap
  max : cap ≤ 9223372036854775807
  cells : ∀ (i : Nat) (x : N21), l[i]? = some x → ∃ b o, a = some ⟨b, o, none⟩ ∧ w.cell? ⟨b, o + i * 3, none⟩ = some (.bool x.inp) ∧ w.cell? ⟨b, o + i * 3 + 1, none⟩ = some (.int .i64 x.l) ∧ w.cell? ⟨b, o + i * 3 + 2, none⟩ = some (.int .i64 x.r)
  bd : ∀ x ∈ l, (-9223372036854775808 ≤ x.l ∧ x.l ≤ 9223372036854775807) ∧ (-9223372036854775808 ≤ x.r ∧ x.r ≤ 9223372036854775807)
theorem NodeS.ch {w w' : World} {a : Option Addr} {n cap : Nat} {l : List N21} (h : NodeS w a n cap l) (hc : Ch [] w w') : NodeS w' a n cap l :=
  ⟨h.len, h.le, h.max, fun i x hx => by
    obtain ⟨b, o, e, h1, h2, h3⟩ := h.cells i x hx
    exact ⟨b, o, e, (hc.cell (cell_lt h1) (by simp)).trans h1, (hc.cell (cell_lt h2) (by simp)).trans h2, (hc.cell (cell_lt h3) (by simp)).trans h3⟩, h.bd⟩
def n21Cells (l : List N21) : List Value := l.flatMap fun x => [.bool x.inp, .int .i64 x.l, .int .i64 x.r]
theorem n21Cells_snoc (l : List N21) (x : N21) : n21Cells (l ++ [x]) = n21Cells l ++ [.bool x.inp, .int .i64 x.l, .int .i64 x.r] := by simp [n21Cells]
theorem n21_at : ∀ {L : List N21} {k : Nat} {x : N21}, L[k]? = some x → (n21Cells L)[k * 3]? = some (.bool x.inp) ∧ (n21Cells L)[k * 3 + 1]? = some (.int .i64 x.l) ∧ (n21Cells L)[k * 3 + 2]? = some (.int .i64 x.r)
  | [], k, x, h => by simp at h
  | y :: L, 0, x, h => by
    have e : y = x := by simpa using h
    subst e
    exact ⟨rfl, rfl, rfl⟩
  | y :: L, k + 1, x, h => by
    have ih := n21_at (L := L) (k := k) (x := x) (by simpa using h)
    have e : n21Cells (y :: L) = [.bool y.inp, .int .i64 y.l, .int .i64 y.r] ++ n21Cells L := by simp [n21Cells]
    rw [e, show (k + 1) * 3 = k * 3 + 3 by omega]
    refine ⟨?_, ?_, ?_⟩
    · rw [List.getElem?_append_right (by simp)]; simpa using ih.1
    · rw [List.getElem?_append_right (by simp)]; simpa using ih.2.1
    · rw [List.getElem?_append_right (by simp)]; simpa using ih.2.2
theorem row_cell {w : World} {e : TypeId} {size b n c m : Nat} {vs : List Value} (h : row w e size (.slice (some ⟨b, 0, none⟩) n c) m vs) {k : Nat} {v : Value} (hk : vs[k]? = some v) : w.cell? ⟨b, k, none⟩ = some v := by
  have := h.cells (g := b) rfl k v hk
  rw [Addr.add_lit] at this
  simpa using this
theorem infoNode21 : (Try.prog.info? 69).map (fun i => (i.zero, i.size, i.bytes)) = some (some (.agg #[.bool false, .int .i64 0, .int .i64 0]), 3, 24) := by kernel_rfl
theorem slNodes21 : SliceTy Try.prog 22 69 3 24 (.agg #[.bool false, .int .i64 0, .int .i64 0]) := ⟨Try.underlying22, infoNode21, rfl, by decide⟩
set_option maxRecDepth 100000 in
set_option maxHeartbeats 1000000 in
theorem index21_is (w : World) (n : Int) (_hn : -9223372036854775808 ≤ n ∧ n ≤ 9223372036854775807) (k : Nat) (hk : 1 ≤ k) (hk2 : k ≤ 1000000) :
    Calls Try.prog 80 #[.int .i64 n, .int .i64 k] w fun e w' => e = .returned (.int .i64 (n % k)) ∧ w = w' := by
  have hb := Int.emod_nonneg n (show (k : Int) ≠ 0 by omega)
  have hb2 := Int.emod_lt_of_pos n (show (0 : Int) < k by omega)
  have hk0 : ((k : Int) == 0) = false := beqN (by omega)
  have ht := Int.tmod_eq_emod (a := n) (b := (k : Int))
  obtain ⟨r, hr⟩ : ∃ r, Int.tmod n k = r := ⟨_, rfl⟩
  have hr1 : -(k : Int) < r ∧ r < k := by
    have := Int.natAbs_tmod n k
    have h2 : (Int.tmod n k).natAbs < k := by rw [this]; exact Nat.mod_lt _ (by omega)
    rw [hr] at h2
    omega
  have hres : n % k = if r < 0 then r + k else r := by
    rw [hr] at ht
    split at ht
    · split <;> omega
    · have : ((k : Int).natAbs : Int) = k := by simp
      rw [this] at ht
      split <;> omega
  by_cases h0 : r < 0
  · rw [if_pos h0] at hres
    rw [hres]
    have HH := Lib.hid hres
    clear hres ht hb hb2
    go_enter Try.func80, Try.ntmps80
    go_wp2_with fail
    go_ret
    exact ⟨rfl, rfl⟩
  · rw [if_neg h0] at hres
    rw [hres]
    clear hres ht hb hb2
    go_enter Try.func80, Try.ntmps80
    go_wp2_with fail
    go_ret
    exact ⟨rfl, rfl⟩
set_option maxRecDepth 100000 in
set_option maxHeartbeats 4000000 in
theorem few21_is {w : World} {a : Option Addr} {n cap : Nat} {l : List N21} (hS : NodeS w a n cap l) :
    Calls Try.prog 79 #[.slice a n cap] w fun e w' => ∃ v, e = .returned v ∧ row w' 69 3 v (fewL l).length (n21Cells (fewL l)) ∧ (∀ q ∈ v.ownBlock.toList, w.heap.size ≤ q) ∧ Ch [] w w' := by
  have hlen := hS.len
  have hle := hS.le
  have hmx := hS.max
  obtain ⟨m, hm, hm40, hmn⟩ : ∃ m, min n 40 = m ∧ m ≤ 40 ∧ m ≤ n := ⟨_, rfl, by omega, by omega⟩
  have hmin : ∀ ats ty, Builtin.min_ ats ty #[.int .i64 (n : Int), .int .i64 40] = pure (.int .i64 (m : Int)) := fun ats ty => by
    have e : (if (40 : Int) < n then 40 else (n : Int)) = m := by split <;> omega
    rw [← e]
    simp [Builtin.min_, Builtin.min2]
  have hall : (l.take 40) = l.take m := by
    rw [← hm, ← hlen]
    by_cases h : l.length ≤ 40
    · rw [List.take_of_length_le h, List.take_of_length_le (by omega)]
    · rw [show min l.length 40 = 40 by omega]
  have hinv := fun k => few_inv (l.take k)
  unfold fewL
  rw [hall]
  have HS := Lib.hid hS; clear hS
  have HINV := Lib.hid hinv; clear hinv
  clear hall
  have HM := Lib.hid hm; clear hm
  have HLEN := Lib.hid hlen; clear hlen
  go_enter Try.func79, Try.ntmps79
  go_wp2_with fail
  obtain ⟨Q, hQ⟩ : ∃ Q : Nat → List N21 × Nat, Q = fun k => (l.take k).foldl fewS ([], 0) := ⟨_, rfl⟩
  have hQ0 : Q 0 = ([], 0) := by rw [hQ]; rfl
  have hQm : ((l.take m).foldl fewS ([], 0)).1 = (Q m).1 := by rw [hQ]
  have hQs : ∀ (k : Nat) (x : N21), l[k]? = some x → Q (k + 1) = fewS (Q k) x := fun k x hx => by
    rw [hQ]
    show (l.take (k + 1)).foldl _ _ = _
    rw [List.take_add_one, hx, List.foldl_append]
    rfl
  have hQb : ∀ k, k ≤ 40 → (Q k).1.length ≤ 40 ∧ (Q k).2 ≤ 40 := fun k hk => by
    have := HINV.out k
    rw [List.length_take] at this
    rw [hQ]
    show ((l.take k).foldl fewS ([], 0)).1.length ≤ 40 ∧ ((l.take k).foldl fewS ([], 0)).2 ≤ 40
    omega
  have HQ0 := Lib.hid hQ0; clear hQ0
  have HQM := Lib.hid hQm; clear hQm
  have HQS := Lib.hid hQs; clear hQs
  have HQB := Lib.hid hQb; clear hQb
  clear hQ HINV hmin
  go_loopw [3, 4, 13] (fun o q i wr => ∃ k : Nat, k ≤ m ∧ i = .int .i64 k ∧ q = .int .i64 (Q k).2 ∧ Ch [] w wr ∧ row wr 69 3 o (Q k).1.length (n21Cells (Q k).1) ∧ ∀ z ∈ o.ownBlock.toList, w.heap.size ≤ z) (fun _ _ i _ => m - (intOf i).toNat)
  case atStart => exact ⟨0, by omega, rfl, by rw [HQ0.out]; rfl, Ch.refl _ _, by rw [HQ0.out]; exact ⟨rfl, .inl ⟨rfl, rfl⟩⟩, by simp⟩
  case round =>
    obtain ⟨k, hk, rfl, rfl, hc, hrow, hlo⟩ := hrel
    obtain ⟨oa, oc, rfl⟩ := row.shape hrow
    by_cases hlt : k < m
    · obtain ⟨x, hx⟩ : ∃ x, l[k]? = some x := ⟨_, List.getElem?_eq_getElem (by rw [HLEN.out]; omega)⟩
      obtain ⟨ab, ao, rfl, d0, d1, d2⟩ := HS.out.cells k x hx
      have hs := HQS.out k x hx
      have hb := HQB.out k (by omega)
      generalize hQN : Q (k + 1) = QN at hs
      generalize Q k = q at hs hb hrow hlo ⊢
      obtain ⟨L, c⟩ := q
      simp only at hb hrow hlo ⊢
      have c0 := (hc.cell (cell_lt d0) (by simp)).trans d0
      have c1 := (hc.cell (cell_lt d1) (by simp)).trans d1
      have c2 := (hc.cell (cell_lt d2) (by simp)).trans d2
      clear d0 d1 d2 hx
      have HC := Lib.hid hc; clear hc
      have HROW := Lib.hid hrow; clear hrow
      have HLO := Lib.hid hlo; clear hlo
      have HQN := Lib.hid hQN; clear hQN
      have HSS := Lib.hid hs; clear hs
      obtain ⟨inp, xl, xr⟩ := x
      simp only at c0 c1 c2
      go_upto_region 6 with fail
      refine wp_named fun W1 hW1 => ?_
      have hcA : Ch [] wr W1 := by rw [hW1]; exact (Ch.refl _ _).alloc _
      have hb1 : blk W1 wr.heap.size [.bool inp, .int .i64 xl, .int .i64 xr] := by rw [hW1]; exact blk.new' _ _ rfl
      have e0 := hb1.cell (i := 0) rfl
      have e1 := hb1.cell (i := 1) rfl
      have e2 := hb1.cell (i := 2) rfl
      clear hW1 hb1 c0 c1 c2
      cases inp
      · by_cases h8 : c ≤ 8
        · have hf : QN = (L ++ [⟨false, xl, xr⟩], c) := by rw [HSS.out]; simp [fewS]
          have hb2 : blk (W1.alloc (.cells #[.bool false, .int .i64 xl, .int .i64 xr] 69)) W1.heap.size [.bool false, .int .i64 xl, .int .i64 xr] := blk.new' _ _ rfl
          have hcB : Ch [] wr (W1.alloc (.cells #[.bool false, .int .i64 xl, .int .i64 xr] 69)) := hcA.alloc _
          have hrB := HROW.out.ch hcB (by simp)
          have HB2 := Lib.hid hb2; clear hb2
          have HCB := Lib.hid hcB; clear hcB
          have HRB := Lib.hid hrB; clear hrB
          have HF := Lib.hid hf; clear hf
          go_wp2_with (at_builtin; go_loud (refine wpList_append_row slNodes21 rfl _ _ rfl (v := .slice oa L.length oc) (n := L.length) (xs := n21Cells L) rfl HRB.out (ad := ⟨W1.heap.size, 0, none⟩) (m := 1) (c := 1) (news := [.bool false, .int .i64 xl, .int .i64 xr]) rfl rfl (news_blk HB2.out) (by simp [Value.oneCell']) (by omega) (by omega) ?_; intro v' w5 hown4 hC4 hf4; have HO4 := Lib.hid hown4; clear hown4; have HCC4 := Lib.hid hC4; clear hC4; have HF4 := Lib.hid hf4; clear hf4))
          go_roundw
          case rel =>
            obtain ⟨q1, q2⟩ := app_step HC.out HCB.out HLO.out HCC4.out HF4.out
            refine ⟨k + 1, by omega, by go_num, by rw [HQN.out, HF.out] <;> go_num, q1, ?_, q2⟩
            rw [HQN.out, HF.out]
            simp only [List.length_append, List.length_cons, List.length_nil, n21Cells_snoc]
            exact HO4.out
          case measure => simp [intOf]; omega
        · have hf : QN = (L ++ [⟨false, xl, xr⟩], c) := by rw [HSS.out]; simp [fewS]
          have hb2 : blk (W1.alloc (.cells #[.bool false, .int .i64 xl, .int .i64 xr] 69)) W1.heap.size [.bool false, .int .i64 xl, .int .i64 xr] := blk.new' _ _ rfl
          have hcB : Ch [] wr (W1.alloc (.cells #[.bool false, .int .i64 xl, .int .i64 xr] 69)) := hcA.alloc _
          have hrB := HROW.out.ch hcB (by simp)
          have HB2 := Lib.hid hb2; clear hb2
          have HCB := Lib.hid hcB; clear hcB
          have HRB := Lib.hid hrB; clear hrB
          have HF := Lib.hid hf; clear hf
          go_wp2_with (at_builtin; go_loud (refine wpList_append_row slNodes21 rfl _ _ rfl (v := .slice oa L.length oc) (n := L.length) (xs := n21Cells L) rfl HRB.out (ad := ⟨W1.heap.size, 0, none⟩) (m := 1) (c := 1) (news := [.bool false, .int .i64 xl, .int .i64 xr]) rfl rfl (news_blk HB2.out) (by simp [Value.oneCell']) (by omega) (by omega) ?_; intro v' w5 hown4 hC4 hf4; have HO4 := Lib.hid hown4; clear hown4; have HCC4 := Lib.hid hC4; clear hC4; have HF4 := Lib.hid hf4; clear hf4))
          go_roundw
          case rel =>
            obtain ⟨q1, q2⟩ := app_step HC.out HCB.out HLO.out HCC4.out HF4.out
            refine ⟨k + 1, by omega, by go_num, by rw [HQN.out, HF.out] <;> go_num, q1, ?_, q2⟩
            rw [HQN.out, HF.out]
            simp only [List.length_append, List.length_cons, List.length_nil, n21Cells_snoc]
            exact HO4.out
          case measure => simp [intOf]; omega
      · by_cases h8 : c + 1 ≤ 8
        · have hf : QN = (L ++ [⟨true, xl, xr⟩], c + 1) := by rw [HSS.out]; simp [fewS]; omega
          have hb2 : blk (W1.alloc (.cells #[.bool true, .int .i64 xl, .int .i64 xr] 69)) W1.heap.size [.bool true, .int .i64 xl, .int .i64 xr] := blk.new' _ _ rfl
          have hcB : Ch [] wr (W1.alloc (.cells #[.bool true, .int .i64 xl, .int .i64 xr] 69)) := hcA.alloc _
          have hrB := HROW.out.ch hcB (by simp)
          have HB2 := Lib.hid hb2; clear hb2
          have HCB := Lib.hid hcB; clear hcB
          have HRB := Lib.hid hrB; clear hrB
          have HF := Lib.hid hf; clear hf
          go_wp2_with (at_builtin; go_loud (refine wpList_append_row slNodes21 rfl _ _ rfl (v := .slice oa L.length oc) (n := L.length) (xs := n21Cells L) rfl HRB.out (ad := ⟨W1.heap.size, 0, none⟩) (m := 1) (c := 1) (news := [.bool true, .int .i64 xl, .int .i64 xr]) rfl rfl (news_blk HB2.out) (by simp [Value.oneCell']) (by omega) (by omega) ?_; intro v' w5 hown4 hC4 hf4; have HO4 := Lib.hid hown4; clear hown4; have HCC4 := Lib.hid hC4; clear hC4; have HF4 := Lib.hid hf4; clear hf4))
          go_roundw
          case rel =>
            obtain ⟨q1, q2⟩ := app_step HC.out HCB.out HLO.out HCC4.out HF4.out
            refine ⟨k + 1, by omega, by go_num, by rw [HQN.out, HF.out] <;> go_num, q1, ?_, q2⟩
            rw [HQN.out, HF.out]
            simp only [List.length_append, List.length_cons, List.length_nil, n21Cells_snoc]
            exact HO4.out
          case measure => simp [intOf]; omega
        · have hf : QN = (L, c + 1) := by rw [HSS.out]; simp [fewS]; omega
          have HF := Lib.hid hf; clear hf
          have HCA := Lib.hid hcA; clear hcA
          go_wp2_with fail
          go_roundw
          case rel =>
            refine ⟨k + 1, by omega, by go_num, by rw [HQN.out, HF.out] <;> go_num, HC.out.trans HCA.out (by simp), ?_, HLO.out⟩
            rw [HQN.out, HF.out]
            exact HROW.out.ch HCA.out (by simp)
          case measure => simp [intOf]; omega
    · have hkm : k = m := by omega
      subst hkm
      have HC := Lib.hid hc; clear hc
      have HROW := Lib.hid hrow; clear hrow
      have HLO := Lib.hid hlo; clear hlo
      go_wp2_with fail
      go_ret
      exact ⟨_, rfl, by rw [HQM.out]; exact HROW.out, HLO.out, HC.out⟩
set_option maxRecDepth 100000 in
set_option maxHeartbeats 1000000 in
/-- a reference of a graph by a number -/
theorem ref21_is {w : World} {g : Nat} {G : Gra} {F : List Nat} (h : GIn w g G F) (n : Nat) (hn : n ≤ 255) :
    Calls Try.prog 18 #[.pointer (some ⟨g, 0, none⟩), .int .u8 n] w fun e w' => e = .returned (.int .i64 (n % (2 * G.nodes.length) : Nat)) ∧ w = w' := by
  have hpos := h.ok.wf.pos
  have hL := Len_g h
  have hnl : G.nodes.length ≤ 65536 := by have := h.ok.room; have := h.ok.most; omega
  generalize hN : G.nodes.length = N at *
  have hmx : ∀ ats ty, Builtin.max_ ats ty #[.int .i64 (N : Int), .int .i64 1] = pure (.int .i64 (N : Int)) := fun ats ty => max_one N N (by omega) ats ty
  have hne : ((2 * (N : Int)) == 0) = false := by rw [beq_eq_false_iff_ne]; omega
  clear h hN
  go_enter Try.func18, Try.ntmps18
  go_wp2_with fail
  refine hL.mono ?_
  rintro e w' ⟨rfl, rfl⟩
  go_wp2_with fail
  go_ret
  exact ⟨ret_int (by simp), rfl⟩
set_option maxRecDepth 100000 in
set_option maxHeartbeats 4000000 in
theorem made21_is {w : World} {a : Option Addr} {n cap : Nat} {l : List N21} (hS : NodeS w a n cap l) :
    Calls Try.prog 17 #[.slice a n cap] w fun e w' => ∃ g G F, e = .returned (.tuple #[.pointer (some ⟨g, 0, none⟩), .bool true]) ∧ Own w w' g G F ∧ G.most = 200 ∧ G.nodes.length ≤ 41 ∧ (inputs G.nodes).length ≤ 8 := by
  have hfl := fewL_len l
  have hbd : ∀ x ∈ fewL l, (-9223372036854775808 ≤ x.l ∧ x.l ≤ 9223372036854775807) ∧ (-9223372036854775808 ≤ x.r ∧ x.r ≤ 9223372036854775807) := fun x hx => hS.bd x (fewL_sub hx)
  have hfew := fun (W : World) (hW : Ch [] w W) => few21_is (hS.ch hW)
  have HFEW := Lib.hid hfew; clear hfew
  have HBD := Lib.hid hbd; clear hbd
  clear hS
  generalize hLL : fewL l = L at *
  clear hLL
  have HN := Lib.hid (New_yes (w := w) 200 (by decide) (by decide))
  go_enter Try.func17, Try.ntmps17
  go_wp2_with fail
  refine HN.out.mono ?_
  rintro e w1 ⟨g, F, rfl, hg, hF, hc⟩
  have hown : Own w w1 g (newG 200) F := ⟨hg, hF, hc⟩
  have HC := Lib.hid hc; clear hc hg HN
  have HOWN1 := Lib.hid hown.gin.lt
  have HOWN := Lib.hid hown; clear hown
  go_wp2_with fail
  refine (HFEW.out w1 HC.out).mono ?_
  rintro e w2 ⟨v, rfl, hrow, hv, hc2⟩
  obtain ⟨fa, fc, rfl⟩ := row.shape hrow
  have ho2 := HOWN.out.same hc2
  have HROW := Lib.hid hrow; clear hrow
  have HC2 := Lib.hid hc2; clear hc2
  have HV := Lib.hid hv; clear hv HOWN HFEW
  have HO2 := Lib.hid ho2; clear ho2
  go_wp2_with fail
  go_loopw [22] (fun i wr => ∃ (k : Nat) (G : Gra) (F : List Nat), k ≤ L.length ∧ i = .int .i64 k ∧ Own w wr g G F ∧ G.most = 200 ∧ G.nodes.length ≤ k + 1 ∧ (inputs G.nodes).length ≤ cntI (L.take k) ∧ row wr 69 3 (.slice fa L.length fc) L.length (n21Cells L) ∧ ∀ z ∈ (Value.slice fa L.length fc).ownBlock.toList, w1.heap.size ≤ z ∧ z ∉ F) (fun i _ => L.length - (intOf i).toNat)
  case atStart =>
    refine ⟨0, newG 200, F, by omega, rfl, HO2.out, rfl, by decide, Nat.zero_le _, HROW.out, fun z hz => ⟨HV.out z hz, fun hin => ?_⟩⟩
    have h1 := HV.out z hz
    have h2 := HOWN1.out z hin
    omega
  case round =>
    obtain ⟨k, G, F, hk, rfl, hown, hm, hnl, hil, hrow, hv⟩ := hrel
    clear HO2 HROW HV
    have hok := hown.gin.ok
    have hpos := hok.wf.pos
    by_cases hlt : k < L.length
    · obtain ⟨fb, fcap, e⟩ := hrow.parts (by omega)
      cases e
      obtain ⟨x, hx⟩ : ∃ x, L[k]? = some x := ⟨_, List.getElem?_eq_getElem hlt⟩
      obtain ⟨t0, t1, t2⟩ := n21_at hx
      have hxb := HBD.out x (List.mem_of_getElem? hx)
      have hcs : cntI (L.take (k + 1)) = cntI (L.take k) + x.inp.toNat := by rw [List.take_add_one, hx]; exact cntI_snoc _ _
      have c0 := row_cell hrow t0
      have c1 := row_cell hrow t1
      have c2 := row_cell hrow t2
      have hvf := (hv fb (by simp [Value.ownBlock])).2
      have hvlt := (hrow.lt fb rfl).2
      have HROW := Lib.hid hrow; clear hrow
      have HV := Lib.hid hv; clear hv
      have HOWN := Lib.hid hown; clear hown
      have HCS := Lib.hid hcs; clear hcs
      obtain ⟨inp, xl, xr⟩ := x
      simp only at c0 c1 c2 hxb
      have HIL := Lib.hid hil; clear hil
      have HM := Lib.hid hm; clear hm
      go_upto_region 7 with fail
      refine wp_named fun W1 hW1 => ?_
      have hcA : Ch [] wr W1 := by rw [hW1]; exact (Ch.refl _ _).alloc _
      have hb1 : blk W1 wr.heap.size [.bool inp, .int .i64 xl, .int .i64 xr] := by rw [hW1]; exact blk.new' _ _ rfl
      have e0 := hb1.cell (i := 0) rfl
      have hB7 : wr.heap.size ∉ F := fun hin => by have := HOWN.out.gin.lt _ hin; omega
      have hO1 := HOWN.out.same hcA
      have HR1 := Lib.hid (HROW.out.ch hcA (by simp))
      clear hW1 c0 c1 c2 t0 t1 t2 HOWN HROW
      have HCA := Lib.hid hcA; clear hcA
      have hgo : ∀ (G' : Gra) (W' : World), GTo W1 g G' F W' → ∃ F', Own w W' g G' F' ∧ row W' 69 3 (.slice (some ⟨fb, 0, none⟩) L.length fc) L.length (n21Cells L) ∧ ∀ z ∈ (Value.slice (some ⟨fb, 0, none⟩) L.length fc).ownBlock.toList, w1.heap.size ≤ z ∧ z ∉ F' := fun G' W' hto => by
        obtain ⟨F', h1, h2, h3, h4⟩ := hto
        refine ⟨F', ⟨h1, fun q hq => (h3 q hq).elim (hO1.own q) (fun e => Nat.le_trans hO1.ch.size e), hO1.ch.trans h2 (fun q hq => .inr (hO1.own q hq))⟩, HR1.out.ch h2 (fun q hq => by cases hq; exact hvf), fun z hz => ⟨(HV.out z hz).1, fun hin => ?_⟩⟩
        simp [Value.ownBlock] at hz
        subst hz
        rcases h3 _ hin with e | e
        · exact hvf e
        · have := HCA.out.size; omega
      have HGO := Lib.hid hgo; clear hgo
      cases inp
      · have hLen := Len_g hO1.gin
        obtain ⟨N, hN⟩ : ∃ N, G.nodes.length = N := ⟨_, rfl⟩
        rw [hN] at hLen hnl hpos
        have hmx : ∀ ats ty, Builtin.max_ ats ty #[.int .i64 (2 * (N : Int)), .int .i64 2] = pure (.int .i64 ((2 * N : Nat) : Int)) := fun ats ty => max_nat (2 * (N : Int)) 2 (2 * N) (by omega) ats ty
        obtain ⟨p, hp, hpl⟩ : ∃ p : Nat, xl % ((2 * N : Nat) : Int) = p ∧ p < 2 * N := ⟨(xl % ((2 * N : Nat) : Int)).toNat, by
          have := Int.emod_nonneg xl (show ((2 * N : Nat) : Int) ≠ 0 by omega)
          omega, by
          have := Int.emod_nonneg xl (show ((2 * N : Nat) : Int) ≠ 0 by omega)
          have := Int.emod_lt_of_pos xl (show (0 : Int) < ((2 * N : Nat) : Int) by omega)
          omega⟩
        obtain ⟨q, hq, hql⟩ : ∃ q : Nat, xr % ((2 * N : Nat) : Int) = q ∧ q < 2 * N := ⟨(xr % ((2 * N : Nat) : Int)).toNat, by
          have := Int.emod_nonneg xr (show ((2 * N : Nat) : Int) ≠ 0 by omega)
          omega, by
          have := Int.emod_nonneg xr (show ((2 * N : Nat) : Int) ≠ 0 by omega)
          have := Int.emod_lt_of_pos xr (show (0 : Int) < ((2 * N : Nat) : Int) by omega)
          omega⟩
        have HI1 := fun W => index21_is W xl hxb.1 (2 * N) (by omega) (by omega)
        have HI2 := fun W => index21_is W xr hxb.2 (2 * N) (by omega) (by omega)
        simp only [hp] at HI1
        simp only [hq] at HI2
        have hroom := and_room21 (G := G) p q (by rw [hN, HM.out]; omega)
        have hand : doAnd G p q = Aig.and G p q := doAnd_r (by omega) (by omega)
        have HAN := fun (W : World) (hW : Ch [] W1 W) => And_g (hO1.gin.same hW (by simp)) p q (by omega) (by omega)
        simp only [hand, hroom.1] at HAN
        have HROOM := Lib.hid hroom; clear hroom
        have HI1 := Lib.hid HI1
        have HI2 := Lib.hid HI2
        have HAN := Lib.hid HAN
        have HBK := Lib.hid hb1; clear hb1
        have HNN := Lib.hid hN
        clear hand hp hq hN
        go_wp2_with fail
        refine hLen.mono ?_
        rintro e w' ⟨rfl, rfl⟩
        go_wp2_with fail
        refine Ord.St.door (fun w' => w'.cell? ⟨wr.heap.size, 1, none⟩ = some (.int .i64 xl) ∧ w'.cell? ⟨wr.heap.size, 2, none⟩ = some (.int .i64 xr)) [.fl, .fl, .ho, .fl, .ef, .fl, .ho, .fl, .ef, .ef, .fl, .fl, .fl, .fl] [0, 0, 2, 0, 14, 0, 32, 0, 254, 511, 1023, 2047, 2047, 8191] [0, 1, 2, 3, 4, 5, 6, 7, 8, 9, 10, 11, 12, 13] mixed (by kernel_rfl) rfl ?_
        obtain ⟨Wc, hWc⟩ : ∃ Wc, Wc = W1.drew := ⟨_, rfl⟩
        rw [← hWc]
        have hcur : Ch [] W1 Wc := by rw [hWc]; exact (Ch.refl _ _).drew
        clear hWc
        have hbk := HBK.out.ch hcur (by simp)
        have HCUR := Lib.hid hcur
        refine Ord.St.fl2 (T' := ?_) 0 [1, 2, 3, 4, 5, 6, 7, 8, 9, 10, 11, 12, 13] _ _ rfl (by kernel_rfl) rfl rfl rfl rfl (fun K w' hk => ?_) ?_
        rotate_left
        · go_step; exact hk
        refine Ord.St.fl2 (T' := ?_) 1 [2, 3, 4, 5, 6, 7, 8, 9, 10, 11, 12, 13] _ _ rfl (by kernel_rfl) rfl rfl rfl rfl (fun K w' hk => ?_) ?_
        rotate_left
        · go_step; exact hk
        refine Ord.St.ho2 (T' := ?_) 2 [3, 4, 5, 6, 7, 8, 9, 10, 11, 12, 13] _ _ rfl (by kernel_rfl) rfl rfl rfl rfl ?_ (fun K w' hw' hk => ?_) ?_
        rotate_left
        · exact ⟨hbk.cell rfl, hbk.cell rfl⟩
        · obtain ⟨q1, q2⟩ := hw'; go_step; exact hk
        refine Ord.St.fl2 (T' := ?_) 3 [4, 5, 6, 7, 8, 9, 10, 11, 12, 13] _ _ rfl (by kernel_rfl) rfl rfl rfl rfl (fun K w' hk => ?_) ?_
        rotate_left
        · go_step; exact hk
        refine Ord.St.fl2 (T' := ?_) 5 [4, 6, 7, 8, 9, 10, 11, 12, 13] _ _ rfl (by kernel_rfl) rfl rfl rfl rfl (fun K w' hk => ?_) ?_
        rotate_left
        · go_step; exact hk
        refine Ord.St.ho2 (T' := ?_) 6 [4, 7, 8, 9, 10, 11, 12, 13] _ _ rfl (by kernel_rfl) rfl rfl rfl rfl ?_ (fun K w' hw' hk => ?_) ?_
        rotate_left
        · exact ⟨hbk.cell rfl, hbk.cell rfl⟩
        · obtain ⟨q1, q2⟩ := hw'; go_step; exact hk
        refine Ord.St.fl2 (T' := ?_) 7 [4, 8, 9, 10, 11, 12, 13] _ _ rfl (by kernel_rfl) rfl rfl rfl rfl (fun K w' hk => ?_) ?_
        rotate_left
        · go_step; exact hk
        refine Ord.St.efC 4 [8, 9, 10, 11, 12, 13] _ rfl (by kernel_rfl) (fun K hK => ?_)
        go_wp2_with fail
        refine (HI1.out _).mono ?_
        rintro e w' ⟨rfl, rfl⟩
        go_wp2_with fail
        refine ⟨rfl, hK _ _ ?_ ?_⟩
        · exact ⟨hbk.cell rfl, hbk.cell rfl⟩
        clear hK K
        refine Ord.St.ef 8 [9, 10, 11, 12, 13] _ rfl (by kernel_rfl) (fun K hK => ?_)
        go_wp2_with fail
        refine (HI2.out _).mono ?_
        rintro e w' ⟨rfl, rfl⟩
        go_wp2_with fail
        refine ⟨rfl, hK _ _ ?_⟩; clear hK K
        refine Ord.St.ef 9 [10, 11, 12, 13] _ rfl (by kernel_rfl) (fun K hK => ?_)
        have han := HAN.out Wc hcur
        have HAN1 := Lib.hid han; clear han HAN
        go_wp2_with fail
        refine HAN1.out.mono ?_
        rintro e w5 ⟨rfl, hto⟩
        have HTO := Lib.hid hto; clear hto
        go_wp2_with fail
        refine ⟨rfl, hK _ _ ?_⟩; clear hK K
        refine Ord.St.fl2 (T' := ?_) 10 [11, 12, 13] _ _ rfl (by kernel_rfl) rfl rfl rfl rfl (fun K w' hk => ?_) ?_
        rotate_left
        · go_step; exact hk
        refine Ord.St.fl2 (T' := ?_) 11 [12, 13] _ _ rfl (by kernel_rfl) rfl rfl rfl rfl (fun K w' hk => ?_) ?_
        rotate_left
        · go_step; exact hk
        refine Ord.St.fl2 (T' := ?_) 12 [13] _ _ rfl (by kernel_rfl) rfl rfl rfl rfl (fun K w' hk => ?_) ?_
        rotate_left
        · go_step; exact hk
        refine Ord.St.fl2 (T' := ?_) 13 [] _ _ rfl (by kernel_rfl) rfl rfl rfl rfl (fun K w' hk => ?_) ?_
        rotate_left
        · go_step; exact hk
        refine Ord.St.nil ?_
        go_wp2_with fail
        go_roundw
        case rel =>
          obtain ⟨F', k1, k2, k3⟩ := HGO.out _ _ (GTo.since HCUR.out HTO.out)
          obtain ⟨r1, r2, r3, r4⟩ := HROOM.out
          have hnn := HNN.out
          exact ⟨k + 1, _, F', by omega, by go_num, k1, by rw [r2]; exact HM.out, by omega, by rw [r4, HCS.out]; exact HIL.out, k2, k3⟩
        case measure => simp [intOf]; omega
      · have hroom := input_room (G := G) (by rw [HM.out]; omega)
        have HIN := Input_g hO1.gin
        rw [hroom.1] at HIN
        have HROOM := Lib.hid hroom; clear hroom
        have HIN := Lib.hid HIN
        clear hb1
        go_wp2_with fail
        refine HIN.out.mono ?_
        rintro e w5 ⟨rfl, hto⟩
        have HTO := Lib.hid hto; clear hto
        go_wp2_with fail
        go_roundw
        case rel =>
          obtain ⟨F', k1, k2, k3⟩ := HGO.out _ _ HTO.out
          obtain ⟨r1, r2, r3, r4⟩ := HROOM.out
          refine ⟨k + 1, _, F', by omega, by go_num, k1, by rw [r2]; exact HM.out, by omega, ?_, k2, k3⟩
          rw [r4, HCS.out]
          have := HIL.out
          simp
          omega
        case measure => simp [intOf]; omega
    · have hkn : k = L.length := by omega
      subst hkn
      have hLen := Len_g hown.gin
      have e1 : decide ((G.nodes.length : Int) > 0) = true := decide_eq_true (by omega)
      have HOWN := Lib.hid hown; clear hown
      have HIL := Lib.hid hil; clear hil
      clear hrow hv
      go_wp2_with fail
      refine hLen.mono ?_
      rintro e w' ⟨rfl, rfl⟩
      go_wp2_with fail
      go_ret2
      refine ⟨g, G, F, rfl, HOWN.out, hm, by omega, ?_⟩
      have := HIL.out
      rw [List.take_of_length_le (Nat.le_refl _)] at this
      omega
end Go.Proofs.Ytnmfdiiehkkjcaa
namespace Go.Proofs.Ytnmfdiiehkkjcaa
open Go.ChangeShapes Go.WideShapes Go.ChangeAt Go.RowKit Go.Mem Go.Aig Go.Deep
theorem wf_u64 {n : Int} (h : (Lit.int .u64 n).wf = true) : ∃ m : Nat, n = m ∧ m < 2 ^ 64 := by
  have : 0 ≤ n ∧ n ≤ 18446744073709551615 := by simpa [Lit.wf, IntKind.min, IntKind.max, IntKind.signed, IntKind.bits] using h
  exact ⟨n.toNat, by omega, by omega⟩
theorem wf_u16 {n : Int} (h : (Lit.int .u16 n).wf = true) : ∃ m : Nat, n = m ∧ m < 2 ^ 16 := by
  have : 0 ≤ n ∧ n ≤ 65535 := by simpa [Lit.wf, IntKind.min, IntKind.max, IntKind.signed, IntKind.bits] using h
  exact ⟨n.toNat, by omega, by omega⟩
theorem wf_u8' {n : Int} (h : (Lit.int .u8 n).wf = true) : ∃ m : Nat, n = m ∧ m < 2 ^ 8 := by
  have : 0 ≤ n ∧ n ≤ 255 := by simpa [Lit.wf, IntKind.min, IntKind.max, IntKind.signed, IntKind.bits] using h
  exact ⟨n.toNat, by omega, by omega⟩
/-- a slice of numbers of one kind that came in -/
structure NumS (k : IntKind) (bits : Nat) (w : World) (a : Option Addr) (n cap : Nat) (l : List Nat) : Prop where
  sv : Sv w a (l.map fun (x : Nat) => .int k x)
  len : l.length = n
  bd : ∀ x ∈ l, x < 2 ^ bits
  le : n ≤ cap
  max : cap ≤ 9223372036854775807
section
variable {H : Type} {enc : TypeId × Value → H} {W : World}
set_option maxRecDepth 100000 in
theorem u64s_open6 {a : Option Addr} {len cap : Nat} {d : DataW H} {p : List MemPlace} (h : DataW.Trod enc Try.prog W 0 (fun _ => true) true 33 (.slice a len cap) d p) : ∃ l, NumS .u64 64 W a len cap l := by
  obtain ⟨fuel, hf⟩ := h
  rcases open_slice Try.underlying33 hf with ⟨hcs, _⟩ | ⟨y, l, cp, m, n, D, Pl, hcs, _, hl, hm, hmm, _, hi⟩
  · simp [Value.cells] at hcs
    obtain ⟨rfl, rfl, rfl⟩ := hcs
    exact ⟨[], ⟨by simp, by simp⟩, rfl, by simp, by omega, by omega⟩
  · simp [Value.cells] at hcs
    obtain ⟨rfl, rfl, rfl⟩ := hcs
    have hm' : cap ≤ 9223372036854775807 := by unfold maxLen at hm; exact hm
    have hC : Try.prog.cellsOf 45 = 1 := by kernel_rfl
    have hspot : 0 < len → y.spot = none := fun h0 => by
      obtain ⟨cs', hc, _⟩ := hi 0 (by rw [hmm]; simp; omega)
      rw [hC] at hc
      obtain ⟨_, hcl, hat⟩ := World.cells?_some hc
      have e0 := hat 0 (by omega)
      rw [List.getElem?_eq_getElem (by omega)] at e0
      simpa [Addr.add] using World.cell?_spot e0
    have key : ∀ i, i < len → ∃ z : Nat, (∃ b o, (some y : Option Addr) = some ⟨b, o, none⟩ ∧ W.cell? ⟨b, o + i, none⟩ = some (.int .u64 z)) ∧ z < 2 ^ 64 := by
      intro i hlt
      obtain ⟨cs', hc, ht⟩ := hi i (by rw [hmm]; simp; omega)
      rw [hC] at hc
      obtain ⟨_, hcl, hat⟩ := World.cells?_some hc
      match cs', hcl with
      | [c0], _ =>
        obtain ⟨z, hz, _, hw⟩ := DataW.trod_int Try.underlying45 ht
        obtain ⟨m, rfl, hb⟩ := wf_u64 hw
        simp at hz
        subst hz
        have e0 := hat 0 (by omega)
        simp at e0
        obtain ⟨b, o, spot⟩ := y
        have hsp : spot = none := hspot (by omega)
        subst hsp
        simp only [Addr.add_lit] at e0
        exact ⟨m, ⟨b, o, rfl, by simpa using e0⟩, hb⟩
    obtain ⟨ll, hll, hp⟩ := list_of _ len key
    refine ⟨ll, ⟨fun i s hs => ?_, by rw [List.length_map]; omega⟩, hll, fun s hs => ?_, hl, hm'⟩
    · rw [List.getElem?_map, Option.map_eq_some_iff] at hs
      obtain ⟨q, hq, rfl⟩ := hs
      exact (hp i q hq).1
    · obtain ⟨i, hi2⟩ := List.mem_iff_getElem?.1 hs
      exact (hp i s hi2).2
set_option maxRecDepth 100000 in
theorem u16s_open6 {a : Option Addr} {len cap : Nat} {d : DataW H} {p : List MemPlace} (h : DataW.Trod enc Try.prog W 0 (fun _ => true) true 94 (.slice a len cap) d p) : ∃ l, NumS .u16 16 W a len cap l := by
  obtain ⟨fuel, hf⟩ := h
  rcases open_slice Try.underlying94 hf with ⟨hcs, _⟩ | ⟨y, l, cp, m, n, D, Pl, hcs, _, hl, hm, hmm, _, hi⟩
  · simp [Value.cells] at hcs
    obtain ⟨rfl, rfl, rfl⟩ := hcs
    exact ⟨[], ⟨by simp, by simp⟩, rfl, by simp, by omega, by omega⟩
  · simp [Value.cells] at hcs
    obtain ⟨rfl, rfl, rfl⟩ := hcs
    have hm' : cap ≤ 9223372036854775807 := by unfold maxLen at hm; exact hm
    have hC : Try.prog.cellsOf 97 = 1 := by kernel_rfl
    have hspot : 0 < len → y.spot = none := fun h0 => by
      obtain ⟨cs', hc, _⟩ := hi 0 (by rw [hmm]; simp; omega)
      rw [hC] at hc
      obtain ⟨_, hcl, hat⟩ := World.cells?_some hc
      have e0 := hat 0 (by omega)
      rw [List.getElem?_eq_getElem (by omega)] at e0
      simpa [Addr.add] using World.cell?_spot e0
    have key : ∀ i, i < len → ∃ z : Nat, (∃ b o, (some y : Option Addr) = some ⟨b, o, none⟩ ∧ W.cell? ⟨b, o + i, none⟩ = some (.int .u16 z)) ∧ z < 2 ^ 16 := by
      intro i hlt
      obtain ⟨cs', hc, ht⟩ := hi i (by rw [hmm]; simp; omega)
      rw [hC] at hc
      obtain ⟨_, hcl, hat⟩ := World.cells?_some hc
      match cs', hcl with
      | [c0], _ =>
        obtain ⟨z, hz, _, hw⟩ := DataW.trod_int Try.underlying97 ht
        obtain ⟨m, rfl, hb⟩ := wf_u16 hw
        simp at hz
        subst hz
        have e0 := hat 0 (by omega)
        simp at e0
        obtain ⟨b, o, spot⟩ := y
        have hsp : spot = none := hspot (by omega)
        subst hsp
        simp only [Addr.add_lit] at e0
        exact ⟨m, ⟨b, o, rfl, by simpa using e0⟩, hb⟩
    obtain ⟨ll, hll, hp⟩ := list_of _ len key
    refine ⟨ll, ⟨fun i s hs => ?_, by rw [List.length_map]; omega⟩, hll, fun s hs => ?_, hl, hm'⟩
    · rw [List.getElem?_map, Option.map_eq_some_iff] at hs
      obtain ⟨q, hq, rfl⟩ := hs
      exact (hp i q hq).1
    · obtain ⟨i, hi2⟩ := List.mem_iff_getElem?.1 hs
      exact (hp i s hi2).2
set_option maxRecDepth 100000 in
theorem u8s_open6 {a : Option Addr} {len cap : Nat} {d : DataW H} {p : List MemPlace} (h : DataW.Trod enc Try.prog W 0 (fun _ => true) true 72 (.slice a len cap) d p) : ∃ l, NumS .u8 8 W a len cap l := by
  obtain ⟨fuel, hf⟩ := h
  rcases open_slice Try.underlying72 hf with ⟨hcs, _⟩ | ⟨y, l, cp, m, n, D, Pl, hcs, _, hl, hm, hmm, _, hi⟩
  · simp [Value.cells] at hcs
    obtain ⟨rfl, rfl, rfl⟩ := hcs
    exact ⟨[], ⟨by simp, by simp⟩, rfl, by simp, by omega, by omega⟩
  · simp [Value.cells] at hcs
    obtain ⟨rfl, rfl, rfl⟩ := hcs
    have hm' : cap ≤ 9223372036854775807 := by unfold maxLen at hm; exact hm
    have hC : Try.prog.cellsOf 5 = 1 := by kernel_rfl
    have hspot : 0 < len → y.spot = none := fun h0 => by
      obtain ⟨cs', hc, _⟩ := hi 0 (by rw [hmm]; simp; omega)
      rw [hC] at hc
      obtain ⟨_, hcl, hat⟩ := World.cells?_some hc
      have e0 := hat 0 (by omega)
      rw [List.getElem?_eq_getElem (by omega)] at e0
      simpa [Addr.add] using World.cell?_spot e0
    have key : ∀ i, i < len → ∃ z : Nat, (∃ b o, (some y : Option Addr) = some ⟨b, o, none⟩ ∧ W.cell? ⟨b, o + i, none⟩ = some (.int .u8 z)) ∧ z < 2 ^ 8 := by
      intro i hlt
      obtain ⟨cs', hc, ht⟩ := hi i (by rw [hmm]; simp; omega)
      rw [hC] at hc
      obtain ⟨_, hcl, hat⟩ := World.cells?_some hc
      match cs', hcl with
      | [c0], _ =>
        obtain ⟨z, hz, _, hw⟩ := DataW.trod_int Try.underlying5 ht
        obtain ⟨m, rfl, hb⟩ := wf_u8' hw
        simp at hz
        subst hz
        have e0 := hat 0 (by omega)
        simp at e0
        obtain ⟨b, o, spot⟩ := y
        have hsp : spot = none := hspot (by omega)
        subst hsp
        simp only [Addr.add_lit] at e0
        exact ⟨m, ⟨b, o, rfl, by simpa using e0⟩, hb⟩
    obtain ⟨ll, hll, hp⟩ := list_of _ len key
    refine ⟨ll, ⟨fun i s hs => ?_, by rw [List.length_map]; omega⟩, hll, fun s hs => ?_, hl, hm'⟩
    · rw [List.getElem?_map, Option.map_eq_some_iff] at hs
      obtain ⟨q, hq, rfl⟩ := hs
      exact (hp i q hq).1
    · obtain ⟨i, hi2⟩ := List.mem_iff_getElem?.1 hs
      exact (hp i s hi2).2
set_option maxRecDepth 100000 in
theorem nodes_open {a : Option Addr} {len cap : Nat} {d : DataW H} {p : List MemPlace} (h : DataW.Trod enc Try.prog W 0 (fun _ => true) true 22 (.slice a len cap) d p) : ∃ l, NodeS W a len cap l := by
  obtain ⟨fuel, hf⟩ := h
  rcases open_slice Try.underlying22 hf with ⟨hcs, _⟩ | ⟨x, l, c, m, n, D, Pl, hcs, _, hl, hm, hmm, _, hi⟩
  · simp [Value.cells] at hcs
    obtain ⟨rfl, rfl, rfl⟩ := hcs
    exact ⟨[], rfl, by omega, by omega, by simp, by simp⟩
  · simp [Value.cells] at hcs
    obtain ⟨rfl, rfl, rfl⟩ := hcs
    have hC : Try.prog.cellsOf 69 = 3 := by kernel_rfl
    have hspot : 0 < len → x.spot = none := fun h0 => by
      obtain ⟨cs', hc, _⟩ := hi 0 (by rw [hmm]; simp; omega)
      rw [hC] at hc
      obtain ⟨_, hcl, hat⟩ := World.cells?_some hc
      have e0 := hat 0 (by omega)
      rw [List.getElem?_eq_getElem (by omega)] at e0
      simpa [Addr.add] using World.cell?_spot e0
    have key : ∀ i, i < len → ∃ s : N21, (∃ b o, (some x : Option Addr) = some ⟨b, o, none⟩ ∧ W.cell? ⟨b, o + i * 3, none⟩ = some (.bool s.inp) ∧ W.cell? ⟨b, o + i * 3 + 1, none⟩ = some (.int .i64 s.l) ∧ W.cell? ⟨b, o + i * 3 + 2, none⟩ = some (.int .i64 s.r)) ∧
        (-9223372036854775808 ≤ s.l ∧ s.l ≤ 9223372036854775807) ∧ (-9223372036854775808 ≤ s.r ∧ s.r ≤ 9223372036854775807) := by
      intro i hlt
      obtain ⟨cs', hc, ht⟩ := hi i (by rw [hmm]; simp; omega)
      rw [hC] at hc
      obtain ⟨ys, n', _, _, hlen, _, hfd⟩ := DataW.trod_struct Try.underlying69 ht
      obtain ⟨_, hcl, hat⟩ := World.cells?_some hc
      match cs', hcl with
      | [c0, c1, c2], _ =>
        have f0 := hfd 0 _ rfl
        have f1 := hfd 1 _ rfl
        have f2 := hfd 2 _ rfl
        have hu : Try.prog.cellsOf 4 = 1 := by kernel_rfl
        have hi9 : Try.prog.cellsOf 3 = 1 := by kernel_rfl
        simp only [List.getElem_toArray, List.getElem_cons_zero, List.getElem_cons_succ, hu, hi9, List.drop_zero, List.drop_succ_cons, List.take_succ_cons, List.take_zero] at f0 f1 f2
        have hys : ys.length = 3 := by have := ‹ys.length = _›; simpa using this
        rw [List.getElem?_eq_getElem (by omega)] at f0 f1 f2
        obtain ⟨z0, hz0, _⟩ := DataW.trod_bool Try.underlying4 f0
        obtain ⟨z1, hz1, _, hw1⟩ := DataW.trod_int Try.underlying3 f1
        obtain ⟨z2, hz2, _, hw2⟩ := DataW.trod_int Try.underlying3 f2
        have b1 := wf_i64 hw1
        have b2 := wf_i64 hw2
        simp at hz0 hz1 hz2
        subst hz0 hz1 hz2
        have e0 := hat 0 (by omega)
        have e1 := hat 1 (by omega)
        have e2 := hat 2 (by omega)
        simp at e0 e1 e2
        obtain ⟨b, o, spot⟩ := x
        have hsp : spot = none := hspot (by omega)
        subst hsp
        simp only [Addr.add_lit] at e0 e1 e2
        exact ⟨⟨z0, z1, z2⟩, ⟨b, o, rfl, by simpa using e0, by simpa using e1, by simpa using e2⟩, b1, b2⟩
    obtain ⟨ll, hll, hp⟩ := list_of _ len key
    have idx : ∀ s ∈ ll, ∃ i : Nat, ll[i]? = some s := fun s hs => List.mem_iff_getElem?.1 hs
    exact ⟨ll, hll, hl, by unfold maxLen at hm; exact hm, fun i s hs => (hp i s hs).1, fun s hs => by obtain ⟨i, hi2⟩ := idx s hs; exact (hp i s hi2).2⟩
end
end Go.Proofs.Ytnmfdiiehkkjcaa
namespace Go.Proofs.Ytnmfdiiehkkjcaa
open Go.RowKit Go.Mem Go.Aig
theorem takeN_succ {xs ys : List Nat} {k : Nat} {x y : Nat} (h : xs.take k = ys.take k) (hx : xs[k]? = some x) (hy : ys[k]? = some y) (e : x = y) : xs.take (k + 1) = ys.take (k + 1) := by
  rw [List.take_add_one, List.take_add_one, h, hx, hy, e]
section
variable {w : World}
set_option maxRecDepth 100000 in
set_option maxHeartbeats 1000000 in
theorem EQu64_is {a b : Option Addr} {xs ys : List Nat} (ca cb : Nat) (hx : Sv w a (u64s xs)) (hy : Sv w b (u64s ys)) :
    Calls Try.prog 35 #[.slice a xs.length ca, .slice b ys.length cb] w fun e w' => e = .returned (.bool (decide (xs = ys))) ∧ Ch [] w w' := by
  have hbx : xs.length ≤ 9223372036854775807 := by have := hx.bd; simpa [u64s] using this
  have hby : ys.length ≤ 9223372036854775807 := by have := hy.bd; simpa [u64s] using this
  have HX := Lib.hid hx; clear hx
  have HY := Lib.hid hy; clear hy
  by_cases hl : xs.length = ys.length
  · have hne : ((xs.length : Int) != (ys.length : Int)) = false := by simp [hl]
    generalize hd : decide (xs = ys) = d
    have HD := Lib.hid hd; clear hd
    have HL := Lib.hid hl; clear hl
    go_enter Try.func35, Try.ntmps35
    go_wp2_with fail
    go_loopw [13] (fun i wr => ∃ k : Nat, k ≤ xs.length ∧ i = .int .i64 k ∧ xs.take k = ys.take k ∧ Ch [] w wr) (fun i _ => xs.length - (intOf i).toNat)
    case atStart => exact ⟨0, Nat.zero_le _, rfl, rfl, Ch.refl _ _⟩
    case round =>
      obtain ⟨k, hk, rfl, ht, hc⟩ := hrel
      have HT := Lib.hid ht; clear ht
      by_cases hlt : k < xs.length
      · have hlt2 : k < ys.length := by have := HL.out; omega
        have hxk : xs[k]? = some xs[k] := List.getElem?_eq_getElem hlt
        have hyk : ys[k]? = some ys[k] := List.getElem?_eq_getElem hlt2
        obtain ⟨b1, o1, rfl, c1⟩ := (HX.out.ch hc (by simp)).cells k (.int .u64 (xs[k] : Nat)) (u64s_get hxk)
        obtain ⟨b2, o2, rfl, c2⟩ := (HY.out.ch hc (by simp)).cells k (.int .u64 (ys[k] : Nat)) (u64s_get hyk)
        generalize xs[k] = x at *
        generalize ys[k] = y at *
        have HXK := Lib.hid hxk; clear hxk
        have HYK := Lib.hid hyk; clear hyk
        have HC := Lib.hid hc; clear hc
        by_cases hxy : x = y
        · have hb : ((x : Int) != y) = false := by simp [hxy]
          have HE := Lib.hid hxy; clear hxy
          go_wp2_with fail
          refine Ord.St.door (fun _ => True) [.fl, .fl, .fl, .rd, .fl, .fl, .fl, .rd, .fl] [0, 0, 3, 7, 0, 0, 48, 112, 255] [0, 1, 2, 3, 4, 5, 6, 7, 8] mixed (by kernel_rfl) rfl ?_
          refine Ord.St.fl2 (T' := ?_) 0 [1, 2, 3, 4, 5, 6, 7, 8] _ _ rfl (by kernel_rfl) rfl rfl rfl rfl (fun K w' hk => ?_) ?_
          rotate_left
          · go_step; exact hk
          refine Ord.St.fl2 (T' := ?_) 1 [2, 3, 4, 5, 6, 7, 8] _ _ rfl (by kernel_rfl) rfl rfl rfl rfl (fun K w' hk => ?_) ?_
          rotate_left
          · go_step; exact hk
          refine Ord.St.fl2 (T' := ?_) 2 [3, 4, 5, 6, 7, 8] _ _ rfl (by kernel_rfl) rfl rfl rfl rfl (fun K w' hk => ?_) ?_
          rotate_left
          · go_step; exact hk
          refine Ord.St.rd2 (T' := ?_) 3 [4, 5, 6, 7, 8] _ _ rfl (by kernel_rfl) rfl rfl rfl rfl (fun K hk => ?_) ?_
          rotate_left
          · go_step; exact hk
          refine Ord.St.fl2 (T' := ?_) 4 [5, 6, 7, 8] _ _ rfl (by kernel_rfl) rfl rfl rfl rfl (fun K w' hk => ?_) ?_
          rotate_left
          · go_step; exact hk
          refine Ord.St.fl2 (T' := ?_) 5 [6, 7, 8] _ _ rfl (by kernel_rfl) rfl rfl rfl rfl (fun K w' hk => ?_) ?_
          rotate_left
          · go_step; exact hk
          refine Ord.St.fl2 (T' := ?_) 6 [7, 8] _ _ rfl (by kernel_rfl) rfl rfl rfl rfl (fun K w' hk => ?_) ?_
          rotate_left
          · go_step; exact hk
          refine Ord.St.rd2 (T' := ?_) 7 [8] _ _ rfl (by kernel_rfl) rfl rfl rfl rfl (fun K hk => ?_) ?_
          rotate_left
          · go_step; exact hk
          refine Ord.St.fl2 (T' := ?_) 8 [] _ _ rfl (by kernel_rfl) rfl rfl rfl rfl (fun K w' hk => ?_) ?_
          rotate_left
          · go_step; exact hk
          refine Ord.St.nil ?_
          go_wp2_with fail
          go_roundw
          case rel => exact ⟨k + 1, by omega, by go_num, takeN_succ HT.out HXK.out HYK.out HE.out, HC.out.drew⟩
          case measure => simp [intOf]; omega
        · have hb : ((x : Int) != y) = true := by simp; omega
          have hdf : d = false := by
            rw [← HD.out]
            refine decide_eq_false fun e => hxy ?_
            have h1 := HXK.out
            rw [e, HYK.out] at h1
            cases h1; rfl
          have HDF := Lib.hid hdf; clear hdf
          clear hxy
          go_wp2_with fail
          refine Ord.St.door (fun _ => True) [.fl, .fl, .fl, .rd, .fl, .fl, .fl, .rd, .fl] [0, 0, 3, 7, 0, 0, 48, 112, 255] [0, 1, 2, 3, 4, 5, 6, 7, 8] mixed (by kernel_rfl) rfl ?_
          refine Ord.St.fl2 (T' := ?_) 0 [1, 2, 3, 4, 5, 6, 7, 8] _ _ rfl (by kernel_rfl) rfl rfl rfl rfl (fun K w' hk => ?_) ?_
          rotate_left
          · go_step; exact hk
          refine Ord.St.fl2 (T' := ?_) 1 [2, 3, 4, 5, 6, 7, 8] _ _ rfl (by kernel_rfl) rfl rfl rfl rfl (fun K w' hk => ?_) ?_
          rotate_left
          · go_step; exact hk
          refine Ord.St.fl2 (T' := ?_) 2 [3, 4, 5, 6, 7, 8] _ _ rfl (by kernel_rfl) rfl rfl rfl rfl (fun K w' hk => ?_) ?_
          rotate_left
          · go_step; exact hk
          refine Ord.St.rd2 (T' := ?_) 3 [4, 5, 6, 7, 8] _ _ rfl (by kernel_rfl) rfl rfl rfl rfl (fun K hk => ?_) ?_
          rotate_left
          · go_step; exact hk
          refine Ord.St.fl2 (T' := ?_) 4 [5, 6, 7, 8] _ _ rfl (by kernel_rfl) rfl rfl rfl rfl (fun K w' hk => ?_) ?_
          rotate_left
          · go_step; exact hk
          refine Ord.St.fl2 (T' := ?_) 5 [6, 7, 8] _ _ rfl (by kernel_rfl) rfl rfl rfl rfl (fun K w' hk => ?_) ?_
          rotate_left
          · go_step; exact hk
          refine Ord.St.fl2 (T' := ?_) 6 [7, 8] _ _ rfl (by kernel_rfl) rfl rfl rfl rfl (fun K w' hk => ?_) ?_
          rotate_left
          · go_step; exact hk
          refine Ord.St.rd2 (T' := ?_) 7 [8] _ _ rfl (by kernel_rfl) rfl rfl rfl rfl (fun K hk => ?_) ?_
          rotate_left
          · go_step; exact hk
          refine Ord.St.fl2 (T' := ?_) 8 [] _ _ rfl (by kernel_rfl) rfl rfl rfl rfl (fun K w' hk => ?_) ?_
          rotate_left
          · go_step; exact hk
          refine Ord.St.nil ?_
          go_wp2_with fail
          go_ret
          rw [HDF.out]
          exact ⟨rfl, HC.out.drew⟩
      · have hdt : d = true := by
          rw [← HD.out]
          have h1 := HT.out
          rw [List.take_of_length_le (by omega), List.take_of_length_le (by have := HL.out; omega)] at h1
          exact decide_eq_true h1
        have HDT := Lib.hid hdt; clear hdt
        have HC := Lib.hid hc; clear hc
        go_wp2_with fail
        go_ret
        rw [HDT.out]
        exact ⟨rfl, HC.out⟩
  · have hne : ((xs.length : Int) != (ys.length : Int)) = true := by rw [bne_iff_ne]; omega
    have hd : decide (xs = ys) = false := decide_eq_false fun e => hl (by rw [e])
    rw [hd]
    clear hd
    go_enter Try.func35, Try.ntmps35
    go_wp2_with fail
    go_ret
    exact ⟨rfl, Ch.refl _ _⟩
end
/-- what is known along a walk that changes no graph: the graph, and slices that are held -/
structure HS (w0 w : World) (g : Nat) (G : Gra) (F : List Nat) (L : List (Option Addr × List Value)) : Prop where
  own : Own w0 w g G F
  held : ∀ p ∈ L, Sv w p.1 p.2
section
variable {w0 w : World} {g : Nat} {G : Gra} {F : List Nat} {L : List (Option Addr × List Value)}
theorem HS.same {w' : World} (h : HS w0 w g G F L) (hc : Ch [] w w') : HS w0 w' g G F L := ⟨h.own.same hc, fun p hp => (h.held p hp).ch hc (by simp)⟩
theorem HS.add {a : Option Addr} {xs : List Value} (h : HS w0 w g G F L) (hs : Sv w a xs) : HS w0 w g G F ((a, xs) :: L) := ⟨h.own, fun p hp => by
  rcases List.mem_cons.1 hp with rfl | hp
  · exact hs
  · exact h.held p hp⟩
theorem HS.drop {p : Option Addr × List Value} (h : HS w0 w g G F (p :: L)) : HS w0 w g G F L := ⟨h.own, fun q hq => h.held q (List.mem_cons_of_mem _ hq)⟩
theorem HS.blk {b : Nat} {xs : List Value} (h : HS w0 w g G F L) (hb : blk w b xs) (hl : xs.length ≤ 9223372036854775807) : HS w0 w g G F ((some ⟨b, 0, none⟩, xs) :: L) := h.add ⟨fun i x hx => ⟨b, 0, rfl, by
  rw [Nat.zero_add]
  exact hb.cell hx⟩, hl⟩
theorem simTable_h (h : HS w0 w g G F L) (r : Int) (hr : -9223372036854775808 ≤ r ∧ r ≤ 9223372036854775807) {T : List Nat} {e k : Nat} (hR : tableR G r = (T, e)) (hk : T.length = k) (hkl : k ≤ 1000000) :
    Calls Try.prog 20 #[.pointer (some ⟨g, 0, none⟩), .int .i64 r] w fun en w' => ∃ a c, en = .returned (.tuple #[.slice a k c, .int .i64 e]) ∧ HS w0 w' g G F ((a, u64s T) :: L) := by
  have H := simTable_is h.own.gin r hr
  rw [hR] at H
  refine H.mono ?_
  rintro en w' ⟨v, rfl, hrow, _, hc⟩
  obtain ⟨a, c, rfl⟩ := row.shape hrow
  simp only [hk] at hrow
  exact ⟨a, c, by simp only [hk], (h.same hc).add (row.sv hrow rfl hkl)⟩
theorem simCount_h (h : HS w0 w g G F L) (r : Int) (hr : -9223372036854775808 ≤ r ∧ r ≤ 9223372036854775807) {n e : Nat} (hR : countR G r = (n, e)) :
    Calls Try.prog 22 #[.pointer (some ⟨g, 0, none⟩), .int .i64 r] w fun en w' => en = .returned (.tuple #[.int .i64 n, .int .i64 e]) ∧ HS w0 w' g G F L := by
  have H := simCount_is h.own.gin r hr
  rw [hR] at H
  refine H.mono ?_
  rintro en w' ⟨rfl, hc⟩
  exact ⟨rfl, h.same hc⟩
theorem simFirst_h (h : HS w0 w g G F L) (r : Int) (hr : -9223372036854775808 ≤ r ∧ r ≤ 9223372036854775807) {B : List Bool} {b : Bool} {e k : Nat} (hR : firstG G r = ((B, b), e)) (hk : B.length = k) (hkl : k ≤ 1000000) :
    Calls Try.prog 23 #[.pointer (some ⟨g, 0, none⟩), .int .i64 r] w fun en w' => ∃ a c, en = .returned (.tuple #[.slice a k c, .bool b, .int .i64 e]) ∧ HS w0 w' g G F ((a, bools B) :: L) := by
  have H := simFirst_is h.own.gin r hr
  rw [hR] at H
  refine H.mono ?_
  rintro en w' ⟨v, rfl, hrow, _, hc⟩
  obtain ⟨a, c, rfl⟩ := row.shape hrow
  simp only [hk] at hrow
  exact ⟨a, c, by simp only [hk], (h.same hc).add (row.sv hrow rfl hkl)⟩
theorem simParts_h (h : HS w0 w g G F L) (r s : Int) (hr : -9223372036854775808 ≤ r ∧ r ≤ 9223372036854775807) (hs : -9223372036854775808 ≤ s ∧ s ≤ 9223372036854775807) {B : List Bool} {b : Bool} {e k : Nat} (hR : partsG G r s = ((B, b), e)) (hk : B.length = k) (hkl : k ≤ 1000000) :
    Calls Try.prog 32 #[.pointer (some ⟨g, 0, none⟩), .int .i64 r, .int .i64 s] w fun en w' => ∃ a c, en = .returned (.tuple #[.slice a k c, .bool b, .int .i64 e]) ∧ HS w0 w' g G F ((a, bools B) :: L) := by
  have H := simParts_is h.own.gin r s hr hs
  rw [hR] at H
  refine H.mono ?_
  rintro en w' ⟨v, rfl, hrow, _, hc⟩
  obtain ⟨a, c, rfl⟩ := row.shape hrow
  simp only [hk] at hrow
  exact ⟨a, c, by simp only [hk], (h.same hc).add (row.sv hrow rfl hkl)⟩
theorem simWords_h (h : HS w0 w g G F L) {xa : Option Addr} {ins : List Nat} {m xc : Nat} (hx : (xa, u64s ins) ∈ L) (hm : ins.length = m) (hlt : ∀ v ∈ ins, v < 2 ^ 64) (hcap : m ≤ xc) (hxc : xc ≤ 9223372036854775807) {a : Option Addr} {l : List Int} {n c : Nat} (hn : l.length = n) (hL : Sl w a l) (hbd : ∀ r ∈ l, -9223372036854775808 ≤ r ∧ r ≤ 9223372036854775807) (hll : n ≤ 100000) {ws : List Nat} {e k : Nat} (hR : wordsR G ins l = (ws, e)) (hk : ws.length = k) (hkl : k ≤ 1000000) :
    Calls Try.prog 29 #[.pointer (some ⟨g, 0, none⟩), .slice xa m xc, .slice a n c] w fun en w' => ∃ ya yc, en = .returned (.tuple #[.slice ya k yc, .int .i64 e]) ∧ HS w0 w' g G F ((ya, u64s ws) :: L) := by
  subst hm hn
  have H := simWords_is h.own.gin (xa := xa) (ins := ins) xc (h.held _ hx) hlt hcap hxc c hL hbd hll
  rw [hR] at H
  refine H.mono ?_
  rintro en w' ⟨v, rfl, hrow, _, hc⟩
  obtain ⟨ya, yc, rfl⟩ := row.shape hrow
  simp only [hk] at hrow
  exact ⟨ya, yc, by simp only [hk], (h.same hc).add (row.sv hrow rfl hkl)⟩
theorem simBits_h (h : HS w0 w g G F L) {xa : Option Addr} {ins : List Bool} {m xc : Nat} (hx : (xa, bools ins) ∈ L) (hm : ins.length = m) (hml : m ≤ 100000) {a : Option Addr} {l : List Int} {n c : Nat} (hn : l.length = n) (hL : Sl w a l) (hbd : ∀ r ∈ l, -9223372036854775808 ≤ r ∧ r ≤ 9223372036854775807) (hll : n ≤ 100000) {bs : List Bool} {e k : Nat} (hR : bitsR G ins l = (bs, e)) (hk : bs.length = k) (hkl : k ≤ 1000000) :
    Calls Try.prog 24 #[.pointer (some ⟨g, 0, none⟩), .slice xa m xc, .slice a n c] w fun en w' => ∃ ya yc, en = .returned (.tuple #[.slice ya k yc, .int .i64 e]) ∧ HS w0 w' g G F ((ya, bools bs) :: L) := by
  have H := simBits_is h.own.gin (xa := xa) (ins := ins) m xc hm (h.held _ hx) hml n c hn hL hbd hll
  rw [hR] at H
  refine H.mono ?_
  rintro en w' ⟨v, rfl, hrow, _, hc⟩
  obtain ⟨ya, yc, rfl⟩ := row.shape hrow
  simp only [hk] at hrow
  exact ⟨ya, yc, by simp only [hk], (h.same hc).add (row.sv hrow rfl hkl)⟩
theorem simSupport_h (h : HS w0 w g G F L) {a : Option Addr} {l : List Int} {n c : Nat} (hn : l.length = n) (hL : Sl w a l) (hlow : ∀ q, a = some q → q.block < w.heap.size) (hbd : ∀ r ∈ l, -9223372036854775808 ≤ r ∧ r ≤ 9223372036854775807) {s : List Nat} {e k : Nat} (hR : suppR G l = (s, e)) (hk : s.length = k) (hkl : k ≤ 1000000) :
    Calls Try.prog 33 #[.pointer (some ⟨g, 0, none⟩), .slice a n c] w fun en w' => ∃ ya yc, en = .returned (.tuple #[.slice ya k yc, .int .i64 e]) ∧ HS w0 w' g G F ((ya, refsCells s) :: L) := by
  have H := simSupport_is h.own.gin (a := a) (l := l) n c hn hL hlow hbd
  rw [hR] at H
  refine H.mono ?_
  rintro en w' ⟨v, rfl, hrow, _, hc⟩
  obtain ⟨ya, yc, rfl⟩ := row.shape hrow
  simp only [hk] at hrow
  exact ⟨ya, yc, by simp only [hk], (h.same hc).add (row.sv hrow rfl hkl)⟩
theorem EQu64_h (h : HS w0 w g G F L) {a b : Option Addr} {xs ys : List Nat} {n m ca cb : Nat} (hx : (a, u64s xs) ∈ L) (hy : Sv w b (u64s ys)) (hn : xs.length = n) (hm : ys.length = m) {q : Bool} (hq : decide (xs = ys) = q) :
    Calls Try.prog 35 #[.slice a n ca, .slice b m cb] w fun e w' => e = .returned (.bool q) ∧ HS w0 w' g G F L := by
  subst hn hm hq
  exact (EQu64_is ca cb (h.held _ hx) hy).mono fun e w' ⟨he, hc⟩ => ⟨he, h.same hc⟩
theorem Eqbool_h (h : HS w0 w g G F L) {a b : Option Addr} {xs ys : List Bool} {n m ca cb : Nat} (hx : (a, bools xs) ∈ L) (hy : Sv w b (bools ys)) (hn : xs.length = n) (hm : ys.length = m) {q : Bool} (hq : decide (xs = ys) = q) :
    Calls Try.prog 25 #[.slice a n ca, .slice b m cb] w fun e w' => e = .returned (.bool q) ∧ HS w0 w' g G F L := by
  subst hn hm hq
  exact (Eqbool_is ca cb (h.held _ hx) hy).mono fun e w' ⟨he, hc⟩ => ⟨he, h.same hc⟩
theorem Eqint_h (h : HS w0 w g G F L) {a b : Option Addr} {xs ys : List Int} {n m ca cb : Nat} (hx : Sl w a xs) (hy : Sl w b ys) (hn : xs.length = n) (hm : ys.length = m) {q : Bool} (hq : decide (xs = ys) = q) :
    Calls Try.prog 78 #[.slice a n ca, .slice b m cb] w fun e w' => e = .returned (.bool q) ∧ HS w0 w' g G F L := by
  subst hn hm hq
  exact (Eqint_is ca cb hx hy).mono fun e w' ⟨he, hc⟩ => ⟨he, h.same hc⟩
end
end Go.Proofs.Ytnmfdiiehkkjcaa
namespace Go.Proofs.Ytnmfdiiehkkjcaa
open Go.RowKit Go.Mem Go.Aig
def sb1 : Gra := ⟨20, [⟨1, 0, 0, 0⟩, ⟨2, 0, 0, 0⟩]⟩
def sb2 : Gra := ⟨20, [⟨1, 0, 0, 0⟩, ⟨2, 0, 0, 0⟩, ⟨2, 0, 0, 0⟩]⟩
def sb3 : Gra := ⟨20, [⟨1, 0, 0, 0⟩, ⟨2, 0, 0, 0⟩, ⟨2, 0, 0, 0⟩, ⟨3, 2, 5, 1⟩, ⟨3, 3, 4, 1⟩, ⟨3, 7, 9, 2⟩]⟩
def sb4 : Gra := ⟨20, [⟨1, 0, 0, 0⟩, ⟨2, 0, 0, 0⟩, ⟨2, 0, 0, 0⟩, ⟨3, 2, 5, 1⟩, ⟨3, 3, 4, 1⟩, ⟨3, 7, 9, 2⟩, ⟨3, 3, 5, 1⟩]⟩
theorem blkSv {w : World} {b : Nat} {xs : List Value} (hb : blk w b xs) (hl : xs.length ≤ 9223372036854775807) : Sv w (some ⟨b, 0, none⟩) xs := ⟨fun i x hx => ⟨b, 0, rfl, by
  rw [Nat.zero_add]
  exact hb.cell hx⟩, hl⟩
theorem blkSl {w : World} {b : Nat} {l : List Int} {xs : List Value} (hb : blk w b xs) (hx : xs = l.map fun z => .int .i64 z) (hl : l.length ≤ 9223372036854775807) : Sl w (some ⟨b, 0, none⟩) l := ⟨fun i x hi => ⟨b, 0, rfl, by
  rw [Nat.zero_add]
  refine hb.cell ?_
  rw [hx, List.getElem?_map, hi]
  rfl⟩, hl⟩
theorem svSl {w : World} {a : Option Addr} {l : List Nat} (h : Sv w a (refsCells l)) : Sl w a (l.map fun (r : Nat) => (r : Int)) := ⟨fun i x hx => by
  rw [List.getElem?_map] at hx
  cases hl : l[i]? with
  | none => rw [hl] at hx; cases hx
  | some r =>
    rw [hl] at hx
    cases hx
    exact h.cells i _ (by simp [refsCells, hl]), by have := h.bd; simpa [refsCells] using this⟩
section
variable {w0 w : World} {g : Nat} {G : Gra} {F : List Nat}
theorem New_s (n : Nat) (h1 : 1 ≤ n) (h2 : n ≤ 65536) : Calls Try.prog 68 #[.int .i64 n] w fun e w' => ∃ g F, e = .returned (.tuple #[.pointer (some ⟨g, 0, none⟩), .int .i64 0]) ∧ HS w w' g (newG n) F [] :=
  (New_yes n h1 h2).mono fun e w' ⟨g, F, he, hg, hF, hc⟩ => ⟨g, F, he, ⟨hg, hF, hc⟩, by simp⟩
theorem Input_s (h : HS w0 w g G F []) {G' : Gra} {r e : Nat} (hR : doInput G = (G', r, e)) : Calls Try.prog 34 #[.pointer (some ⟨g, 0, none⟩)] w fun en w' => ∃ F', en = .returned (.tuple #[.int .i64 r, .int .i64 e]) ∧ HS w0 w' g G' F' [] := by
  have H := Input_g h.own.gin
  rw [hR] at H
  refine H.mono ?_
  rintro en w' ⟨rfl, hto⟩
  obtain ⟨F', ho⟩ := h.own.to hto
  exact ⟨F', rfl, ho, by simp⟩
theorem And_s (h : HS w0 w g G F []) (a b : Int) (ba : a ≤ 9223372036854775807) (bb : b ≤ 9223372036854775807) {G' : Gra} {r e : Nat} (hR : doAnd G a b = (G', r, e)) : Calls Try.prog 59 #[.pointer (some ⟨g, 0, none⟩), .int .i64 a, .int .i64 b] w fun en w' => ∃ F', en = .returned (.tuple #[.int .i64 r, .int .i64 e]) ∧ HS w0 w' g G' F' [] := by
  have H := And_g h.own.gin a b ba bb
  rw [hR] at H
  refine H.mono ?_
  rintro en w' ⟨rfl, hto⟩
  obtain ⟨F', ho⟩ := h.own.to hto
  exact ⟨F', rfl, ho, by simp⟩
theorem Or_s (h : HS w0 w g G F []) (a b : Int) (ba : a ≤ 9223372036854775807) (bb : b ≤ 9223372036854775807) {G' : Gra} {r e : Nat} (hR : doOr G a b = (G', r, e)) : Calls Try.prog 58 #[.pointer (some ⟨g, 0, none⟩), .int .i64 a, .int .i64 b] w fun en w' => ∃ F', en = .returned (.tuple #[.int .i64 r, .int .i64 e]) ∧ HS w0 w' g G' F' [] := by
  have H := Or_g h.own.gin a b ba bb
  rw [hR] at H
  refine H.mono ?_
  rintro en w' ⟨rfl, hto⟩
  obtain ⟨F', ho⟩ := h.own.to hto
  exact ⟨F', rfl, ho, by simp⟩
theorem Xor_s (h : HS w0 w g G F []) (a b : Int) (ba : a ≤ 9223372036854775807) (bb : b ≤ 9223372036854775807) {G' : Gra} {r e : Nat} (hR : doXor G a b = (G', r, e)) : Calls Try.prog 77 #[.pointer (some ⟨g, 0, none⟩), .int .i64 a, .int .i64 b] w fun en w' => ∃ F', en = .returned (.tuple #[.int .i64 r, .int .i64 e]) ∧ HS w0 w' g G' F' [] := by
  have H := Xor_g h.own.gin a b ba bb
  rw [hR] at H
  refine H.mono ?_
  rintro en w' ⟨rfl, hto⟩
  obtain ⟨F', ho⟩ := h.own.to hto
  exact ⟨F', rfl, ho, by simp⟩
end
set_option maxRecDepth 100000 in
set_option maxHeartbeats 4000000 in
theorem awake21_is (w : World) : Calls Try.prog 16 #[] w fun e w' => e = .returned (.bool true) ∧ Ch [] w w' := by
  have hN := New_s (w := w) 20 (by decide) (by decide)
  have HN := Lib.hid hN; clear hN
  go_enter Try.func16, Try.ntmps16
  go_wp2_with fail
  refine HN.out.mono ?_
  rintro e w1 ⟨g, F1, rfl, ho⟩
  have HO := Lib.hid ho; clear ho HN
  go_wp2_with fail
  refine (Input_s HO.out (G' := sb1) (r := 2) (e := 0) (by kernel_rfl)).mono ?_
  rintro e w2 ⟨F2, rfl, ho⟩
  clear HO; have HO := Lib.hid ho; clear ho
  go_wp2_with fail
  refine (Input_s HO.out (G' := sb2) (r := 4) (e := 0) (by kernel_rfl)).mono ?_
  rintro e w3 ⟨F3, rfl, ho⟩
  clear HO; have HO := Lib.hid ho; clear ho
  go_wp2_with fail
  refine (Xor_s HO.out 2 4 (by decide) (by decide) (G' := sb3) (r := 11) (e := 0) (by kernel_rfl)).mono ?_
  rintro e w4 ⟨F4, rfl, ho⟩
  clear HO; have HO := Lib.hid ho; clear ho
  go_wp2_with fail
  refine (Or_s HO.out 2 4 (by decide) (by decide) (G' := sb4) (r := 13) (e := 0) (by kernel_rfl)).mono ?_
  rintro e w5 ⟨F5, rfl, ho⟩
  clear HO; have HO := Lib.hid ho; clear ho
  go_wp2_with fail
  refine (simTable_h HO.out 11 (by decide) (T := [6]) (e := 0) (k := 1) (by kernel_rfl) rfl (by decide)).mono ?_
  rintro e w6 ⟨a0, c0, rfl, ho⟩
  clear HO; have HO := Lib.hid ho; clear ho
  go_wp2_with fail
  refine (simTable_h HO.out 2 (by decide) (T := [10]) (e := 0) (k := 1) (by kernel_rfl) rfl (by decide)).mono ?_
  rintro e w7 ⟨a1, c1, rfl, ho⟩
  clear HO; have HO := Lib.hid ho; clear ho
  go_wp2_with fail
  refine (simTable_h HO.out 1 (by decide) (T := [15]) (e := 0) (k := 1) (by kernel_rfl) rfl (by decide)).mono ?_
  rintro e w8 ⟨a2, c2, rfl, ho⟩
  clear HO; have HO := Lib.hid ho; clear ho
  go_wp2_with fail
  refine (simCount_h HO.out 11 (by decide) (n := 2) (e := 0) (by kernel_rfl)).mono ?_
  rintro e w9 ⟨rfl, ho⟩
  clear HO; have HO := Lib.hid ho; clear ho
  go_wp2_with fail
  refine (simFirst_h HO.out 11 (by decide) (B := [true, false]) (b := true) (e := 0) (k := 2) (by kernel_rfl) rfl (by decide)).mono ?_
  rintro e w10 ⟨a3, c3, rfl, ho⟩
  clear HO; have HO := Lib.hid ho; clear ho
  go_wp2_with fail
  refine calls_named fun w11 hW => ?_
  have hc : Ch [] w10 w11 := by rw [hW]; exact ((Ch.refl _ _).alloc _)
  have hk11_0 : blk w11 (w10.heap.size) [.int .u64 6] := by rw [hW]; exact blk.new' _ _ (by simp)
  clear hW
  have ho := HO.out.same hc
  clear HO hc; have HO := Lib.hid ho; clear ho
  refine (EQu64_h HO.out (a := a0) (ca := c0) (xs := [6]) (ys := [6]) (by simp) (blkSv hk11_0 (by decide)) rfl rfl (q := true) (by decide)).mono ?_
  rintro e w12 ⟨rfl, ho⟩
  clear HO; have HO := Lib.hid ho; clear ho
  go_wp2_with fail
  refine calls_named fun w13 hW => ?_
  have hc : Ch [] w12 w13 := by rw [hW]; exact ((Ch.refl _ _).alloc _)
  have hk13_0 : blk w13 (w12.heap.size) [.int .u64 10] := by rw [hW]; exact blk.new' _ _ (by simp)
  clear hW
  have ho := HO.out.same hc
  clear HO hc; have HO := Lib.hid ho; clear ho
  refine (EQu64_h HO.out (a := a1) (ca := c1) (xs := [10]) (ys := [10]) (by simp) (blkSv hk13_0 (by decide)) rfl rfl (q := true) (by decide)).mono ?_
  rintro e w14 ⟨rfl, ho⟩
  clear HO; have HO := Lib.hid ho; clear ho
  go_wp2_with fail
  refine calls_named fun w15 hW => ?_
  have hc : Ch [] w14 w15 := by rw [hW]; exact ((Ch.refl _ _).alloc _)
  have hk15_0 : blk w15 (w14.heap.size) [.int .u64 15] := by rw [hW]; exact blk.new' _ _ (by simp)
  clear hW
  have ho := HO.out.same hc
  clear HO hc; have HO := Lib.hid ho; clear ho
  refine (EQu64_h HO.out (a := a2) (ca := c2) (xs := [15]) (ys := [15]) (by simp) (blkSv hk15_0 (by decide)) rfl rfl (q := true) (by decide)).mono ?_
  rintro e w16 ⟨rfl, ho⟩
  clear HO; have HO := Lib.hid ho; clear ho
  go_wp2_with fail
  refine calls_named fun w17 hW => ?_
  have hc : Ch [] w16 w17 := by rw [hW]; exact ((Ch.refl _ _).alloc _)
  have hk17_0 : blk w17 (w16.heap.size) [.bool true, .bool false] := by rw [hW]; exact blk.new' _ _ (by simp)
  clear hW
  have ho := HO.out.same hc
  clear HO hc; have HO := Lib.hid ho; clear ho
  refine (Eqbool_h HO.out (a := a3) (ca := c3) (xs := [true, false]) (ys := [true, false]) (by simp) (blkSv hk17_0 (by decide)) rfl rfl (q := true) (by decide)).mono ?_
  rintro e w18 ⟨rfl, ho⟩
  clear HO; have HO := Lib.hid ho; clear ho
  go_wp2_with fail
  refine (simParts_h HO.out 2 4 (by decide) (by decide) (B := [true, false]) (b := true) (e := 0) (k := 2) (by kernel_rfl) rfl (by decide)).mono ?_
  rintro e w19 ⟨a4, c4, rfl, ho⟩
  clear HO; have HO := Lib.hid ho; clear ho
  go_wp2_with fail
  refine (simParts_h HO.out 11 13 (by decide) (by decide) (B := [true, true]) (b := true) (e := 0) (k := 2) (by kernel_rfl) rfl (by decide)).mono ?_
  rintro e w20 ⟨a5, c5, rfl, ho⟩
  clear HO; have HO := Lib.hid ho; clear ho
  go_wp2_with fail
  refine calls_named fun w21 hW => ?_
  have hc : Ch [] w20 w21 := by rw [hW]; exact (((Ch.refl _ _).alloc _).alloc _)
  have hk21_0 : blk w21 (w20.heap.size) [.int .u64 12, .int .u64 10] := by rw [hW]; exact (blk.new' _ _ (by simp)).alloc _
  have hk21_1 : blk w21 (w20.heap.size + 1) [.int .i64 2, .int .i64 11] := by rw [hW]; exact blk.new' _ _ (by simp)
  clear hW
  have ho := HO.out.same hc
  clear HO hc; have HO := Lib.hid ho; clear ho
  have ho := HO.out.blk hk21_0 (by decide)
  clear HO; have HO := Lib.hid ho; clear ho
  refine (simWords_h HO.out (xa := some ⟨w20.heap.size, 0, none⟩) (ins := [12, 10]) (m := 2) (xc := 2) (by simp [u64s]) rfl (by decide) (by decide) (by decide) (l := [2, 11]) (n := 2) (c := 2) rfl (blkSl hk21_1 rfl (by decide)) (by decide) (by decide) (ws := [12, 6]) (e := 0) (k := 2) (by kernel_rfl) rfl (by decide)).mono ?_
  rintro e w22 ⟨a6, c6, rfl, ho⟩
  clear HO; have HO := Lib.hid ho; clear ho
  go_wp2_with fail
  refine calls_named fun w23 hW => ?_
  have hc : Ch [] w22 w23 := by rw [hW]; exact ((Ch.refl _ _).alloc _)
  have hk23_0 : blk w23 (w22.heap.size) [.int .i64 1] := by rw [hW]; exact blk.new' _ _ (by simp)
  clear hW
  have ho := HO.out.same hc
  clear HO hc; have HO := Lib.hid ho; clear ho
  refine (simSupport_h HO.out (l := [1]) (n := 1) (c := 1) rfl (blkSl hk23_0 rfl (by decide)) (fun q hq => by cases hq; exact hk23_0.lt) (by decide) (s := []) (e := 0) (k := 0) (by kernel_rfl) rfl (by decide)).mono ?_
  rintro e w24 ⟨a7, c7, rfl, ho⟩
  clear HO; have HO := Lib.hid ho; clear ho
  go_wp2_with fail
  refine calls_named fun w25 hW => ?_
  have hc : Ch [] w24 w25 := by rw [hW]; exact ((Ch.refl _ _).alloc _)
  have hk25_0 : blk w25 (w24.heap.size) [.int .i64 11] := by rw [hW]; exact blk.new' _ _ (by simp)
  clear hW
  have ho := HO.out.same hc
  clear HO hc; have HO := Lib.hid ho; clear ho
  refine (simSupport_h HO.out (l := [11]) (n := 1) (c := 1) rfl (blkSl hk25_0 rfl (by decide)) (fun q hq => by cases hq; exact hk25_0.lt) (by decide) (s := [0, 1]) (e := 0) (k := 2) (by kernel_rfl) rfl (by decide)).mono ?_
  rintro e w26 ⟨a8, c8, rfl, ho⟩
  clear HO; have HO := Lib.hid ho; clear ho
  go_wp2_with fail
  refine (New_s 1 (by decide) (by decide)).mono ?_
  rintro e w27 ⟨g2, G2, rfl, hn⟩
  have HN := Lib.hid hn; clear hn
  go_wp2_with fail
  refine (simTable_h HN.out 1 (by decide) (T := [1]) (e := 0) (k := 1) (by kernel_rfl) rfl (by decide)).mono ?_
  rintro e w28 ⟨a9, c9, rfl, hn⟩
  have ho := (HO.out.same hn.own.ch).add (hn.held _ (List.mem_cons_self ..))
  clear HO HN hn; have HO := Lib.hid ho; clear ho
  go_wp2_with fail
  refine calls_named fun w29 hW => ?_
  have hc : Ch [] w28 w29 := by rw [hW]; exact ((Ch.refl _ _).alloc _)
  have hk29_0 : blk w29 (w28.heap.size) [.bool true, .bool false] := by rw [hW]; exact blk.new' _ _ (by simp)
  clear hW
  have ho := HO.out.same hc
  clear HO hc; have HO := Lib.hid ho; clear ho
  refine (Eqbool_h HO.out (a := a4) (ca := c4) (xs := [true, false]) (ys := [true, false]) (by simp) (blkSv hk29_0 (by decide)) rfl rfl (q := true) (by decide)).mono ?_
  rintro e w30 ⟨rfl, ho⟩
  clear HO; have HO := Lib.hid ho; clear ho
  go_wp2_with fail
  refine calls_named fun w31 hW => ?_
  have hc : Ch [] w30 w31 := by rw [hW]; exact ((Ch.refl _ _).alloc _)
  have hk31_0 : blk w31 (w30.heap.size) [.bool true, .bool true] := by rw [hW]; exact blk.new' _ _ (by simp)
  clear hW
  have ho := HO.out.same hc
  clear HO hc; have HO := Lib.hid ho; clear ho
  refine (Eqbool_h HO.out (a := a5) (ca := c5) (xs := [true, true]) (ys := [true, true]) (by simp) (blkSv hk31_0 (by decide)) rfl rfl (q := true) (by decide)).mono ?_
  rintro e w32 ⟨rfl, ho⟩
  clear HO; have HO := Lib.hid ho; clear ho
  go_wp2_with fail
  refine calls_named fun w33 hW => ?_
  have hc : Ch [] w32 w33 := by rw [hW]; exact ((Ch.refl _ _).alloc _)
  have hk33_0 : blk w33 (w32.heap.size) [.int .u64 12, .int .u64 6] := by rw [hW]; exact blk.new' _ _ (by simp)
  clear hW
  have ho := HO.out.same hc
  clear HO hc; have HO := Lib.hid ho; clear ho
  refine (EQu64_h HO.out (a := a6) (ca := c6) (xs := [12, 6]) (ys := [12, 6]) (by simp) (blkSv hk33_0 (by decide)) rfl rfl (q := true) (by decide)).mono ?_
  rintro e w34 ⟨rfl, ho⟩
  clear HO; have HO := Lib.hid ho; clear ho
  go_wp2_with fail
  refine calls_named fun w35 hW => ?_
  have hc : Ch [] w34 w35 := by rw [hW]; exact ((Ch.refl _ _).alloc _)
  have hk35_0 : blk w35 (w34.heap.size) [.int .i64 0, .int .i64 1] := by rw [hW]; exact blk.new' _ _ (by simp)
  clear hW
  have ho := HO.out.same hc
  clear HO hc; have HO := Lib.hid ho; clear ho
  refine (Eqint_h HO.out (a := a8) (ca := c8) (xs := [0, 1]) (ys := [0, 1]) (svSl (l := [0, 1]) (HO.out.held (a8, refsCells [0, 1]) (by simp))) (blkSl hk35_0 rfl (by decide)) rfl rfl (q := true) (by decide)).mono ?_
  rintro e w36 ⟨rfl, ho⟩
  clear HO; have HO := Lib.hid ho; clear ho
  go_wp2_with fail
  refine calls_named fun w37 hW => ?_
  have hc : Ch [] w36 w37 := by rw [hW]; exact ((Ch.refl _ _).alloc _)
  have hk37_0 : blk w37 (w36.heap.size) [.int .u64 1] := by rw [hW]; exact blk.new' _ _ (by simp)
  clear hW
  have ho := HO.out.same hc
  clear HO hc; have HO := Lib.hid ho; clear ho
  refine (EQu64_h HO.out (a := a9) (ca := c9) (xs := [1]) (ys := [1]) (by simp) (blkSv hk37_0 (by decide)) rfl rfl (q := true) (by decide)).mono ?_
  rintro e w38 ⟨rfl, ho⟩
  clear HO; have HO := Lib.hid ho; clear ho
  go_wp2_with fail
  go_ret
  exact ⟨rfl, HO.out.own.ch⟩
end Go.Proofs.Ytnmfdiiehkkjcaa
namespace Go
open Go.RowKit Go.Mem
section
variable {P : Program} (w : World)
theorem run_append_zeros_room (t tn ty e : TypeId) (i : TypeInfo) (z : Value) (kn : IntKind) (ht : P.underlying t = some (.slice e)) (htn : P.underlying tn = some (.int kn)) (hi : P.info? e = some i) (hz : i.zero = some z) (hs : 0 < i.size)
    (g sLen sCap : Nat) (cur : Array Value) (hg : w.heap[g]? = some (.cells cur e (0, 0))) (m : Nat) (hl : (Builtin.zeroCells z.cells m).toList.length = m * i.size) (h1 : ∀ u ∈ (Builtin.zeroCells z.cells m).toList, u.oneCell' = true)
    (hm63 : m ≤ 1000000) (hmb : m * i.bytes ≤ 281474976710656) (hroom : sLen + m ≤ sCap) (hfit : sLen * i.size + m * i.size ≤ cur.size) :
    (Builtin.append_ #[t, tn] ty #[.slice (some ⟨g, 0, none⟩) sLen sCap, .int .i64 m]).run P w =
      .ok (.slice (some ⟨g, 0, none⟩) (sLen + m) sCap) (w.setRow g (cur.toList.take (sLen * i.size) ++ (Builtin.zeroCells z.cells m).toList ++ cur.toList.drop (sLen * i.size + m * i.size)).toArray) := by
  have hst := run_storeCells_at P g (sLen * i.size) e (Builtin.zeroCells z.cells m).toList 0 cur w hg (by rw [hl]; simpa using hfit) h1
  simp only [Nat.add_zero] at hst
  have hw : IntKind.i64.wrap (m : Int) = m := by rw [IntKind.wrap_i64]; omega
  have hneg : ¬ ((m : Int) < 0) := by omega
  have h48i : ¬ (281474976710656 < (m : Int) * (i.bytes : Int)) := by
    rw [← Int.natCast_mul]
    omega
  rw [hl] at hst
  by_cases hm : m = 0
  · subst hm
    have hz0 : (Builtin.zeroCells z.cells 0).toList = [] := by simp [Builtin.zeroCells]
    rw [hz0] at hst ⊢
    have hw0 : IntKind.i64.wrap 0 = 0 := by rw [IntKind.wrap_i64]; rfl
    simp at hst hroom ⊢
    simp [Builtin.append_, run_underlying ht, run_underlying htn, sizeOf, typeInfo, hi, asInt, asIntOf, hw0, hroom, Addr.add_lit, hst]
  · have hns : ¬ (m * i.size = 0) := Nat.mul_ne_zero hm (by omega)
    simp [Builtin.append_, run_underlying ht, run_underlying htn, sizeOf, typeInfo, zeroValue, hi, hz, asInt, asIntOf, hw, hneg, h48i, hns, hroom, Addr.add_lit, hst]
theorem run_append_zeros_grow (t tn ty e : TypeId) (i : TypeInfo) (z : Value) (kn : IntKind) (ht : P.underlying t = some (.slice e)) (htn : P.underlying tn = some (.int kn)) (hi : P.info? e = some i) (hz : i.zero = some z) (hs : 0 < i.size)
    (b : Addr) (sLen sCap : Nat) (olds : List Value) (hlo : olds.length = sLen * i.size) (holds : ∀ j v, olds[j]? = some v → w.cell? (b.add j) = some v) (m : Nat) (hm : m ≠ 0) (hm63 : m ≤ 1000000) (hmb : m * i.bytes ≤ 281474976710656)
    (hg : sCap < sLen + m) (h63 : ((sLen + m : Nat) : Int) ≤ 9223372036854775807) (hfit : Builtin.nextslicecap (sLen + m) sCap * i.bytes ≤ 281474976710656) :
    (Builtin.append_ #[t, tn] ty #[.slice (some b) sLen sCap, .int .i64 m]).run P w =
      .ok (.slice (some ⟨w.heap.size, 0, none⟩) (sLen + m) (grownCap w (sLen + m) sCap e))
        (w.drew.alloc (.cells (olds.toArray ++ Builtin.zeroCells z.cells m ++ Builtin.zeroCells z.cells (grownCap w (sLen + m) sCap e - (sLen + m))) e)) := by
  have hn : ¬ (sLen + m ≤ sCap) := by omega
  have h63' : ¬ (9223372036854775807 < ((sLen : Int) + (m : Int))) := by omega
  have h48' : ¬ (281474976710656 < Builtin.nextslicecap (sLen + m) sCap * i.bytes) := by omega
  have hfo := run_firstCells_some (P := P) w.drew i.size sLen b sLen sCap olds hlo (by simpa using holds)
  have hw : IntKind.i64.wrap (m : Int) = m := by rw [IntKind.wrap_i64]; omega
  have hneg : ¬ ((m : Int) < 0) := by omega
  have h48i : ¬ (281474976710656 < (m : Int) * (i.bytes : Int)) := by
    rw [← Int.natCast_mul]
    omega
  have hns : ¬ (m * i.size = 0) := Nat.mul_ne_zero hm (by omega)
  simp [Builtin.append_, run_underlying ht, run_underlying htn, sizeOf, typeInfo, zeroValue, hi, hz, asInt, asIntOf, hw, hneg, h48i, hns, hn, h63', h48', Question.forced, hfo, newRow, grownCap]
end
theorem run_append_zeros {P : Program} (w : World) {t tn e : TypeId} {size bytes : Nat} {z : Value} (S : SliceTy P t e size bytes z) (ty : TypeId) {kn : IntKind} (htn : P.underlying tn = some (.int kn))
    (v : Value) (n : Nat) (xs : List Value) (hown : row w e size v n xs) (m : Nat) (zs : List Value) (hzs : (Builtin.zeroCells z.cells m).toList = zs) (h1 : ∀ u ∈ zs, u.oneCell' = true)
    (hm63 : m ≤ 1000000) (hbytes : (n + m) * bytes ≤ 140737488355328) (h63 : n + m ≤ maxLen) :
    ∃ v' w', (Builtin.append_ #[t, tn] ty #[v, .int .i64 m]).run P w = .ok v' w' ∧ row w' e size v' (n + m) (xs ++ zs) ∧ Ch v.ownBlock.toList w w' ∧ (∀ k, v'.ownBlock = some k → v.ownBlock = some k ∨ w.heap.size ≤ k) := by
  obtain ⟨i, hi, hz, hsize, hby⟩ := info_parts S.info
  subst hsize hby hzs
  have hl : (Builtin.zeroCells z.cells m).toList.length = m * i.size := by rw [Array.length_toList, size_zeroCells, S.zs]
  have hsmall : n + m ≤ 9223372036854775807 := by simp only [maxLen] at h63; omega
  have hmb : m * i.bytes ≤ 281474976710656 := by
    have := Nat.mul_le_mul_right i.bytes (show m ≤ n + m by omega)
    omega
  have hlen : (xs ++ (Builtin.zeroCells z.cells m).toList).length = (n + m) * i.size := by rw [List.length_append, hown.1, hl, Nat.add_mul]
  have grown : ∀ (old : Nat), old < n + m → row (w.drew.alloc (.cells (xs.toArray ++ Builtin.zeroCells z.cells m ++ Builtin.zeroCells z.cells (grownCap w (n + m) old e - (n + m))) e)) e i.size
        (.slice (some ⟨w.heap.size, 0, none⟩) (n + m) (grownCap w (n + m) old e)) (n + m) (xs ++ (Builtin.zeroCells z.cells m).toList) ∧
      Ch [] w (w.drew.alloc (.cells (xs.toArray ++ Builtin.zeroCells z.cells m ++ Builtin.zeroCells z.cells (grownCap w (n + m) old e - (n + m))) e)) := by
    intro old ho
    have hge := grownCap_ge w (n + m) old e
    have hcm : grownCap w (n + m) old e ≤ maxLen := grownCap_le_maxLen w (n + m) old e h63
    refine ⟨⟨hlen, .inr ⟨w.heap.size, _, _, rfl, Nat.zero_le _, heap_alloc_new w.drew _, hge, hcm, ?_, ?_⟩⟩, (Ch.refl _ _).drew.alloc _⟩
    · simp only [Array.size_append, List.size_toArray, size_zeroCells, S.zs, hown.1, ← Nat.add_mul]
      congr 1
      omega
    · simp only [Array.toList_append, List.append_assoc]
      rw [← List.append_assoc, ← hlen]
      exact List.take_left
  rcases hown.2 with ⟨rfl, rfl⟩ | ⟨g, cap, cur, rfl, hbg, hg, hnc, hcm, hcs, htake⟩
  · have hx : xs = [] := List.eq_nil_of_length_eq_zero (by simpa using hown.1)
    subst hx
    by_cases hm : m = 0
    · subst hm
      have hz0 : (Builtin.zeroCells z.cells 0).toList = [] := by simp [Builtin.zeroCells]
      rw [hz0]
      refine ⟨.slice none 0 0, w, ?_, ⟨by simp, .inl ⟨rfl, rfl⟩⟩, Ch.refl _ _, by simp [Value.ownBlock]⟩
      have hw0 : IntKind.i64.wrap 0 = 0 := by rw [IntKind.wrap_i64]; rfl
      simp [Builtin.append_, run_underlying S.under, run_underlying htn, sizeOf, typeInfo, hi, asInt, asIntOf, hw0]
    · have hr := Lib.run_append_nil_zeros (P := P) w t tn ty e i z .i64 kn S.under htn hi hz m (by omega) S.pos (by omega) hmb
      have hgr := grown 0 (by omega)
      simp only [Nat.zero_add, List.nil_append, Array.empty_append] at hgr ⊢
      refine ⟨_, _, hr, ?_, ?_, fun k hk => .inr ?_⟩
      · have := hgr.1
        simpa using this
      · have := hgr.2
        exact (by simpa using this : Ch [] w _).mono (by simp)
      · simp [Value.ownBlock] at hk; omega
  · by_cases hroom : n + m ≤ cap
    · have hfit : n * i.size + m * i.size ≤ cur.size := by rw [hcs, ← Nat.add_mul]; exact Nat.mul_le_mul_right _ hroom
      have hr := run_append_zeros_room (P := P) w t tn ty e i z kn S.under htn hi hz S.pos g n cap cur hg m hl h1 hm63 hmb hroom hfit
      refine ⟨_, _, hr, ⟨hlen, .inr ⟨g, cap, _, rfl, hbg, setRow_heap w g cur _ e _ hg, hroom, hcm, ?_, ?_⟩⟩, ?_, fun k hk => .inl hk⟩
      · simp only [List.size_toArray, List.length_append, List.length_take, List.length_drop, Array.length_toList, hl]
        rw [Array.length_toList] at hl
        omega
      · rw [htake, ← hlen]
        exact List.take_left
      · exact ⟨rfl, rfl, rfl, by simp, fun k _ hk => setRow_other w g k _ (fun e => hk (by simp [Value.ownBlock, e]))⟩
    · have hm : m ≠ 0 := by omega
      have holds : ∀ j u, xs[j]? = some u → w.cell? ((⟨g, 0, none⟩ : Addr).add j) = some u := hown.cells (g := g) rfl
      have hr := run_append_zeros_grow (P := P) w t tn ty e i z kn S.under htn hi hz S.pos ⟨g, 0, none⟩ n cap xs hown.1 holds m hm hm63 hmb (by omega) (by omega) (growslice_fits (by omega) hbytes)
      have hgr := grown cap (by omega)
      exact ⟨_, _, hr, hgr.1, hgr.2.mono (by simp), fun k hk => .inr (by simp [Value.ownBlock] at hk; omega)⟩
/-- the operation, for the walk -/
theorem wpList_append_zeros {P : Program} {w : World} {ops : Array Oper} {rest : List Oper} {o : Oper} {a : Act} {Q : Exit → Act → World → Prop} {t tn e : TypeId} {size bytes : Nat} {z : Value} (S : SliceTy P t e size bytes z) {kn : IntKind} (htn : P.underlying tn = some (.int kn)) (hgd : o.guard = none) (s x : Operand)
    (ho : o.op = .call { callee := .builtin .append, args := #[s, x], argTypes := #[t, tn] }) {v : Value} {n : Nat} {xs : List Value} (hs : a.eval s = v) (hown : row w e size v n xs) {m : Nat} (hx : a.eval x = .int .i64 m) (zs : List Value) (hzs : (Builtin.zeroCells z.cells m).toList = zs) (h1 : ∀ u ∈ zs, u.oneCell' = true)
    (hm63 : m ≤ 1000000) (hbytes : (n + m) * bytes ≤ 140737488355328) (h63 : n + m ≤ maxLen)
    (h : ∀ v' w', row w' e size v' (n + m) (xs ++ zs) → Ch v.ownBlock.toList w w' → (∀ k, v'.ownBlock = some k → v.ownBlock = some k ∨ w.heap.size ≤ k) → wpList P ops Q rest (a.put o.dst v') w') : wpList P ops Q (o :: rest) a w := by
  obtain ⟨v', w', hr, h2, h3, h4⟩ := run_append_zeros w S o.type htn v n xs hown m zs hzs h1 hm63 hbytes h63
  exact Lib.wpList_append_run w hgd s x t tn ho v (.int .i64 m) hs hx v' w' hr (h v' w' h2 h3 h4)
end Go
namespace Go.Aig
theorem wvF_app (M : Nat) (ins : List Nat) (a b : List Nd) : ∃ t, (wvF M ins (a ++ b)).1 = (wvF M ins a).1 ++ t := by
  induction b using List.snocRec with
  | nil => exact ⟨[], by simp⟩
  | snoc b x ih =>
    obtain ⟨t, ht⟩ := ih
    obtain ⟨v, hv⟩ := wvF_ext M ins (a ++ b) x
    rw [← List.append_assoc]
    exact ⟨t ++ [v], by rw [hv, ht, List.append_assoc]⟩
/-- what a node is, by its kind -/
theorem wv_node {ns : List Nd} (hw : WF ns) (M : Nat) (ins : List Nat) {n : Nat} {x : Nd} (hx : ns[n]? = some x) :
    (wvF M ins ns).1[n]? = some (if x.k = 3 then wref M (wvF M ins ns).1 x.l &&& wref M (wvF M ins ns).1 x.r else if x.k = 2 then ins.getD (inputs (ns.take n)).length 0 else 0) := by
  have hn := (List.getElem?_eq_some_iff.1 hx).1
  obtain ⟨t, ht⟩ := wvF_app M ins (ns.take (n + 1)) (ns.drop (n + 1))
  rw [List.take_append_drop] at ht
  have h1 : wvF M ins (ns.take (n + 1)) = wvStep M (wvF M ins (ns.take n)) x := by rw [List.take_add_one, hx]; exact wvF_snoc M ins (ns.take n) x
  have hl : (wvF M ins (ns.take n)).1.length = n := by rw [wvF_len, List.length_take]; omega
  have hr : ∀ r, r < 2 * n → wref M (wvF M ins ns).1 r = wref M (wvF M ins (ns.take n)).1 r := fun r hr => by
    obtain ⟨t2, ht2⟩ := wvF_app M ins (ns.take n) (ns.drop n)
    rw [List.take_append_drop] at ht2
    rw [ht2, wref_ext (by omega)]
  have h2 : (wvF M ins (ns.take n)).2 = ins.drop (inputs (ns.take n)).length := by
    have : ∀ ms : List Nd, (wvF M ins ms).2 = ins.drop (inputs ms).length := by
      intro ms
      induction ms using List.snocRec with
      | nil => rfl
      | snoc ms y ih =>
        rw [wvF_snoc]
        unfold wvStep
        split
        · rename_i h; rw [Go.Proofs.Ytnmfdiiehkkjcaa.inputs_append (by omega)]; exact ih
        · split
          · rename_i h; rw [Go.Proofs.Ytnmfdiiehkkjcaa.inputs_input h, List.length_append]; simp only [ih, List.tail_drop, List.length_cons, List.length_nil]
          · rename_i h; rw [Go.Proofs.Ytnmfdiiehkkjcaa.inputs_append h]; exact ih
    exact this _
  have key : (wvF M ins ns).1[n]? = (wvStep M (wvF M ins (ns.take n)) x).1[n]? := by rw [ht, List.getElem?_append_left (by rw [wvF_len, List.length_take]; omega), h1]
  rw [key]
  unfold wvStep
  split
  · rename_i h3
    have hs := hw.sides hx h3
    simp only
    rw [List.getElem?_append_right (by omega), hl, Nat.sub_self, hr x.l (by omega), hr x.r (by omega)]
    rfl
  · split
    · simp only
      rw [List.getElem?_append_right (by omega), hl, Nat.sub_self, h2]
      simp [List.headD_eq_head?_getD, List.head?_drop, List.getD_eq_getElem?_getD]
    · simp only
      rw [List.getElem?_append_right (by omega), hl, Nat.sub_self]
      rfl
/-- words for just as many inputs as there are -/
def fitI (ins : List Nat) (k : Nat) : List Nat := ins.take (min ins.length k) ++ List.replicate (k - ins.length) 0
theorem fitI_len (ins : List Nat) (k : Nat) : (fitI ins k).length = k := by
  unfold fitI
  rw [List.length_append, List.length_take, List.length_replicate]
  omega
theorem fitI_lt {ins : List Nat} (h : ∀ v ∈ ins, v < 2 ^ 64) (k : Nat) : ∀ v ∈ fitI ins k, v < 2 ^ 64 := fun v hv => by
  unfold fitI at hv
  rcases List.mem_append.1 hv with hv | hv
  · exact h v (List.mem_of_mem_take hv)
  · rw [(List.mem_replicate.1 hv).2]; omega
end Go.Aig
namespace Go.Proofs.Ytnmfdiiehkkjcaa
open Go.RowKit Go.Mem Go.Aig
theorem zeros_u64 (m : Nat) : (Builtin.zeroCells (Value.int .u64 0).cells m).toList = u64s (List.replicate m 0) := by
  unfold Builtin.zeroCells u64s
  rw [show (Value.int .u64 0).cells = #[.int .u64 0] from rfl]
  apply List.ext_getElem
  · simp
  · intro i h1 h2
    simp [Nat.mod_one]
theorem eqSliceNilW (w : World) (a : Option Addr) (n c : Nat) : (binOp .eql 33 (.slice a n c) (.slice none 0 0)).run Try.prog w = .ok (.bool a.isNone) w := by
  have h : Try.prog.underlying 33 = some (.slice 45) := Try.underlying33
  simp only [binOp]
  simp [run_equal_slice_nil w _ _ a n c h]
attribute [local go_sem] eqSliceNilW
section
variable {w : World}
set_option maxRecDepth 100000 in
set_option maxHeartbeats 1000000 in
theorem CLu64_is {a : Option Addr} {l : List Nat} (n c : Nat) (hn : l.length = n) (h : Sv w a (u64s l)) (hm : n ≤ 1000000) : Calls Try.prog 26 #[.slice a n c] w fun e w' => ∃ v, e = .returned v ∧ row w' 45 1 v n (u64s l) ∧ (∀ q ∈ v.ownBlock.toList, w.heap.size ≤ q) ∧ Ch [] w w' := by
  subst hn
  cases a with
  | none =>
    have hl : l = [] := by
      cases l with
      | nil => rfl
      | cons y l =>
        obtain ⟨b, o, e, _⟩ := h.cells 0 (.int .u64 y) rfl
        cases e
    subst hl
    clear h
    go_enter Try.func26, Try.ntmps26
    go_wp2_with fail
    go_ret
    exact ⟨_, rfl, ⟨rfl, .inl ⟨rfl, rfl⟩⟩, by simp, Ch.refl _ _⟩
  | some p =>
    have hO : row (w.alloc (.cells #[] 45)) 45 1 (.slice (some ⟨w.heap.size, 0, none⟩) 0 0) 0 [] := ⟨rfl, .inr ⟨w.heap.size, 0, #[], rfl, by omega, heap_alloc_new w _, by omega, by unfold maxLen; omega, rfl, rfl⟩⟩
    have hN : ∀ j u, (u64s l)[j]? = some u → (w.alloc (.cells #[] 45)).cell? (p.add j) = some u := fun j u hu => by
      obtain ⟨b, o, e, hc⟩ := h.cells j u hu
      cases e
      rw [Addr.add_lit]
      exact (((Ch.refl [] w).alloc _).cell (cell_lt hc) (by simp)).trans hc
    have h1 : ∀ u ∈ u64s l, u.oneCell' = true := fun u hu => by
      obtain ⟨r, _, rfl⟩ := List.mem_map.1 hu
      rfl
    have HO := Lib.hid hO; clear hO
    have HN := Lib.hid hN; clear hN h
    have H1 := Lib.hid h1; clear h1
    go_enter Try.func26, Try.ntmps26
    go_wp2_with (at_builtin; go_loud (refine wpList_append_row slU64s rfl _ _ rfl (v := .slice (some ⟨w.heap.size, 0, none⟩) 0 0) (n := 0) (xs := []) rfl HO.out (ad := p) (m := l.length) (c := c) (news := u64s l) rfl (by simp [u64s]) HN.out H1.out (by omega) (by omega) ?_; intro v' w2 hown hC2 hfresh; have HOWN := Lib.hid hown; clear hown; have HC2 := Lib.hid hC2; clear hC2; have HFR := Lib.hid hfresh; clear hfresh))
    go_ret
    have hown := HOWN.out
    rw [Nat.zero_add, List.nil_append] at hown
    refine ⟨_, rfl, hown, fun k hk => ?_, (((Ch.refl [] w).alloc (.cells #[] 45))).trans HC2.out (by simp)⟩
    rcases HFR.out k (by simpa using hk) with e | e
    · simp at e; omega
    · simp at e; omega

end
end Go.Proofs.Ytnmfdiiehkkjcaa
namespace Go.Aig
open Go.Proofs.Ytnmfdiiehkkjcaa
theorem metDown_mono {ns : List Nd} (hw : WF ns) : ∀ (n : Nat) (met : List Bool), met.length = ns.length → ∀ m, met.getD m false = true → (metDown ns n met).getD m false = true
  | 0, _, _, _, h => h
  | n + 1, met, hl, m, h => by
    unfold metDown
    split
    · exact metDown_mono hw n _ (by rw [stepMet_len, hl]) m ((stepMet_getD hw hl m).2 (.inl h))
    · exact metDown_mono hw n _ hl m h
theorem metDown_closed {ns : List Nd} (hw : WF ns) : ∀ (n : Nat) (met : List Bool), met.length = ns.length → ∀ d, d < n → (metDown ns n met).getD d false = true → ∀ x, ns[d]? = some x → x.k = 3 → (metDown ns n met).getD (x.l / 2) false = true ∧ (metDown ns n met).getD (x.r / 2) false = true
  | 0, _, _, d, hd, _, _, _, _ => by omega
  | n + 1, met, hl, d, hd, h, x, hx, h3 => by
    unfold metDown at h ⊢
    by_cases hdn : d < n
    · split at h
      · rename_i hm
        rw [if_pos hm]
        exact metDown_closed hw n _ (by rw [stepMet_len, hl]) d hdn h x hx h3
      · rename_i hm
        rw [if_neg hm]
        exact metDown_closed hw n _ hl d hdn h x hx h3
    · have e : d = n := by omega
      subst e
      split at h
      · rename_i hm
        rw [if_pos hm]
        have h1 := (stepMet_getD hw hl (d := d) (x.l / 2)).2 (.inr ⟨x, hx, h3, .inl rfl⟩)
        have h2 := (stepMet_getD hw hl (d := d) (x.r / 2)).2 (.inr ⟨x, hx, h3, .inr rfl⟩)
        exact ⟨metDown_mono hw d _ (by rw [stepMet_len, hl]) _ h1, metDown_mono hw d _ (by rw [stepMet_len, hl]) _ h2⟩
      · rename_i hm
        rw [metDown_far hw d met d (Nat.le_refl _)] at h
        exact absurd h hm
theorem mem_cone {ns : List Nd} (hw : WF ns) (l : List Nat) (d : Nat) : d ∈ cone ns l ↔ d < ns.length ∧ (metDown ns ns.length (met0 ns.length l)).getD d false = true := by
  rw [cone_filter hw, List.mem_filter, List.mem_range]
theorem cone_closed {ns : List Nd} (hw : WF ns) {l : List Nat} {d : Nat} {x : Nd} (h : d ∈ cone ns l) (hx : ns[d]? = some x) (h3 : x.k = 3) : x.l / 2 ∈ cone ns l ∧ x.r / 2 ∈ cone ns l := by
  obtain ⟨h1, h2⟩ := (mem_cone hw l d).1 h
  have hs := hw.sides hx h3
  obtain ⟨a, b⟩ := metDown_closed hw ns.length _ (met0_len _ _) d h1 h2 x hx h3
  exact ⟨(mem_cone hw l _).2 ⟨by omega, a⟩, (mem_cone hw l _).2 ⟨by omega, b⟩⟩
theorem marked : ∀ (l : List Nat) (met : List Bool) (r : Nat), r ∈ l → r / 2 < met.length → (l.foldl setMark met).getD (r / 2) false = true
  | [], _, _, h, _ => by cases h
  | q :: l, met, r, h, hr => by
    rw [List.foldl_cons]
    rcases List.mem_cons.1 h with rfl | h
    · refine foldl_mark_mono l _ _ ?_
      unfold setMark
      exact getD_set.2 (.inr ⟨rfl, hr⟩)
    · exact marked l _ r h (by rw [setMark_len]; exact hr)
theorem mem_marked : ∀ (l : List Nat) (met : List Bool) (m : Nat), (l.foldl setMark met).getD m false = true → met.getD m false = true ∨ ∃ r ∈ l, m = r / 2
  | [], _, _, h => .inl h
  | q :: l, met, m, h => by
    rw [List.foldl_cons] at h
    rcases mem_marked l _ m h with h | ⟨r, hr, e⟩
    · unfold setMark at h
      rcases getD_set.1 h with h | ⟨h, _⟩
      · exact .inl h
      · exact .inr ⟨q, List.mem_cons_self .., h⟩
    · exact .inr ⟨r, List.mem_cons_of_mem _ hr, e⟩
theorem cone_has {ns : List Nd} (hw : WF ns) {l : List Nat} {r : Nat} (h : r ∈ l) (hr : r < 2 * ns.length) : r / 2 ∈ cone ns l :=
  (mem_cone hw l _).2 ⟨by omega, metDown_mono hw _ _ (met0_len _ _) _ (by unfold met0; exact marked l _ r h (by simp; omega))⟩
/-- the cone of references whose nodes are among those of others -/
theorem cone_sub {ns : List Nd} (hw : WF ns) {l l' : List Nat} (h : ∀ r ∈ l, r < 2 * ns.length ∧ ∃ q ∈ l', r / 2 = q / 2) : ∀ d ∈ cone ns l, d ∈ cone ns l' := fun d hd => by
  unfold cone coneDown at hd ⊢
  rw [List.mem_reverse] at hd ⊢
  refine coneFrom_mono hw ns.length _ _ (met0_len _ _) (met0_len _ _) (fun m hm => ?_) d hd
  unfold met0 at hm ⊢
  rcases mem_marked l _ m hm with h1 | ⟨r, hr, rfl⟩
  · rw [List.getD_eq_getElem?_getD, List.getElem?_replicate] at h1
    split at h1 <;> simp at h1
  · obtain ⟨h2, q, hq, e⟩ := h r hr
    rw [e]
    exact marked l' _ q hq (by simp; omega)
theorem inputsFrom_app : ∀ (a b : List Nd) (n : Nat), inputsFrom (a ++ b) n = inputsFrom a n ++ inputsFrom b (n + a.length)
  | [], b, n => rfl
  | x :: a, b, n => by
    show (if x.k = 2 then 2 * n :: inputsFrom (a ++ b) (n + 1) else inputsFrom (a ++ b) (n + 1)) = (if x.k = 2 then 2 * n :: inputsFrom a (n + 1) else inputsFrom a (n + 1)) ++ inputsFrom b (n + (a.length + 1))
    rw [inputsFrom_app a b (n + 1), show n + 1 + a.length = n + (a.length + 1) by omega]
    split <;> rfl
/-- which input a node is -/
theorem input_at {ns : List Nd} {n : Nat} {x : Nd} (hx : ns[n]? = some x) (h2 : x.k = 2) : (inputs (ns.take n)).length < (inputs ns).length ∧ (inputs ns).getD (inputs (ns.take n)).length 0 = 2 * n := by
  have hn := (List.getElem?_eq_some_iff.1 hx).1
  have e : ns = ns.take n ++ x :: ns.drop (n + 1) := by
    have h1 := List.take_append_drop n ns
    rw [List.drop_eq_getElem_cons hn, (List.getElem?_eq_some_iff.1 hx).2] at h1
    exact h1.symm
  have h3 : inputs ns = inputs (ns.take n) ++ 2 * n :: inputsFrom (ns.drop (n + 1)) (n + 1) := by
    conv => lhs; rw [e]
    unfold inputs
    rw [inputsFrom_app, Nat.zero_add, List.length_take, Nat.min_eq_left (by omega)]
    congr 1
    show (if x.k = 2 then _ else _) = _
    rw [if_pos h2]
  constructor
  · rw [h3]; simp
  · rw [h3, List.getD_eq_getElem?_getD, List.getElem?_append_right (Nat.le_refl _), Nat.sub_self]
    rfl
/-- two assignments that are the same in the support make the same of what lies in the cone -/
theorem cone_same {ns : List Nd} (hw : WF ns) (M : Nat) {l : List Nat} {I J : List Nat} (h : ∀ i ∈ Go.Proofs.Ytnmfdiiehkkjcaa.suppL ns l (inputs ns).length, I.getD i 0 = J.getD i 0) :
    ∀ n, n ∈ cone ns l → (wvF M I ns).1.getD n 0 = (wvF M J ns).1.getD n 0 := by
  intro n
  induction n using Nat.strongRecOn with
  | _ n ih =>
    intro hn
    obtain ⟨h1, _⟩ := (mem_cone hw l n).1 hn
    obtain ⟨x, hx⟩ : ∃ x, ns[n]? = some x := ⟨_, List.getElem?_eq_getElem h1⟩
    rw [List.getD_eq_getElem?_getD, List.getD_eq_getElem?_getD, wv_node hw M I hx, wv_node hw M J hx]
    show (if x.k = 3 then _ else _) = (if x.k = 3 then _ else _)
    by_cases h3 : x.k = 3
    · rw [if_pos h3, if_pos h3]
      have hs := hw.sides hx h3
      obtain ⟨c1, c2⟩ := cone_closed hw hn hx h3
      have e1 := ih (x.l / 2) (by omega) c1
      have e2 := ih (x.r / 2) (by omega) c2
      unfold wref
      rw [e1, e2]
    · rw [if_neg h3, if_neg h3]
      by_cases h2 : x.k = 2
      · rw [if_pos h2, if_pos h2]
        obtain ⟨q1, q2⟩ := input_at hx h2
        refine h _ ?_
        unfold Go.Proofs.Ytnmfdiiehkkjcaa.suppL
        refine List.mem_filter.2 ⟨List.mem_range.2 q1, decide_eq_true ?_⟩
        rw [q2, show 2 * n / 2 = n by omega]
        exact hn
      · rw [if_neg h2, if_neg h2]
theorem words_same {G : Gra} (hw : WF G.nodes) {l : List Nat} (hl : ∀ r ∈ l, r < 2 * G.nodes.length) {I J : List Nat} (h : ∀ i ∈ Go.Proofs.Ytnmfdiiehkkjcaa.suppL G.nodes l (inputs G.nodes).length, I.getD i 0 = J.getD i 0) : wsOf I G.nodes l = wsOf J G.nodes l := by
  unfold wsOf
  refine List.map_congr_left fun r hr => ?_
  have e := cone_same hw 18446744073709551615 h (r / 2) (cone_has hw hr (hl r hr))
  unfold wref
  rw [e]
/-- the support of fewer references is in that of more -/
theorem supp_sub {ns : List Nd} (hw : WF ns) {l l' : List Nat} (h : ∀ r ∈ l, r < 2 * ns.length ∧ ∃ q ∈ l', r / 2 = q / 2) (k : Nat) : ∀ i ∈ Go.Proofs.Ytnmfdiiehkkjcaa.suppL ns l k, i ∈ Go.Proofs.Ytnmfdiiehkkjcaa.suppL ns l' k := fun i hi => by
  unfold Go.Proofs.Ytnmfdiiehkkjcaa.suppL at hi ⊢
  obtain ⟨h1, h2⟩ := List.mem_filter.1 hi
  exact List.mem_filter.2 ⟨h1, decide_eq_true (cone_sub hw h _ (of_decide_eq_true h2))⟩
theorem supp_asc (ns : List Nd) (l : List Nat) (k : Nat) : (Go.Proofs.Ytnmfdiiehkkjcaa.suppL ns l k).Pairwise (fun a b => a < b) := by
  unfold Go.Proofs.Ytnmfdiiehkkjcaa.suppL
  exact List.Pairwise.filter _ (List.pairwise_lt_range)
theorem supp_lt (ns : List Nd) (l : List Nat) (k : Nat) : ∀ i ∈ Go.Proofs.Ytnmfdiiehkkjcaa.suppL ns l k, i < k := fun i hi => List.mem_range.1 (List.mem_filter.1 hi).1
end Go.Aig
namespace Go.Proofs.Ytnmfdiiehkkjcaa
open Go.RowKit Go.Mem Go.Aig
theorem bits_xor_i64_nat (a b : Nat) (ha : a < 9223372036854775808) (hb : b < 9223372036854775808) : bits .xor .i64 (a : Int) (b : Int) = ((a ^^^ b : Nat) : Int) := by
  have hx : a ^^^ b < 2 ^ 63 := Nat.xor_lt_two_pow (by omega) (by omega)
  have h1 : (BitVec.ofInt 64 (a : Int)).toNat = a := by
    rw [BitVec.ofInt_natCast, BitVec.toNat_ofNat]; exact Nat.mod_eq_of_lt (by omega)
  have h2 : (BitVec.ofInt 64 (b : Int)).toNat = b := by
    rw [BitVec.ofInt_natCast, BitVec.toNat_ofNat]; exact Nat.mod_eq_of_lt (by omega)
  show IntKind.i64.wrap ((BitVec.ofInt 64 (a : Int) ^^^ BitVec.ofInt 64 (b : Int)).toNat : Int) = _
  rw [BitVec.toNat_xor, h1, h2, IntKind.wrap_i64]
  omega
def bitN (b : Bool) : Nat := b.toNat
/-- what all nodes are, 0 or 1 -/
def valsN (I : List Nat) (ns : List Nd) : List Nat := (wvF 1 I ns).1
theorem valsN_len (I : List Nat) (ns : List Nd) : (valsN I ns).length = ns.length := wvF_len 1 I ns
theorem valsN_le {I : List Nat} (h : ∀ v ∈ I, v ≤ 1) (ns : List Nd) : ∀ v ∈ valsN I ns, v ≤ 1 := fun v hv => by
  have := (wvF_lt (N := 1) (ins := I) (fun v hv => by have := h v hv; omega) ns).1 v hv
  omega
theorem wref1 (V : List Nat) (r : Nat) : wref 1 V r = V.getD (r / 2) 0 ^^^ (r % 2) := by
  unfold wref
  rcases Nat.mod_two_eq_zero_or_one r with h | h <;> rw [h]
  · simp
  · rw [if_pos rfl, Nat.xor_comm]
theorem bit_mul {a b : Nat} (ha : a ≤ 1) (hb : b ≤ 1) : a * b = a &&& b := by
  rcases (by omega : a = 0 ∨ a = 1) with rfl | rfl <;> rcases (by omega : b = 0 ∨ b = 1) with rfl | rfl <;> rfl
theorem xor_le1 {a b : Nat} (ha : a ≤ 1) (hb : b ≤ 1) : a ^^^ b ≤ 1 := by
  rcases (by omega : a = 0 ∨ a = 1) with rfl | rfl <;> rcases (by omega : b = 0 ∨ b = 1) with rfl | rfl <;> decide
section
variable {w : World}
set_option maxRecDepth 100000 in
set_option maxHeartbeats 2000000 in
theorem r21Values_is {rb cap : Nat} {G : Gra} (h : RG w rb cap G) {xa : Option Addr} {I : List Nat} (m xc : Nat) (hm : I.length = m) (hI : Sv w xa (refsCells I)) (hle : ∀ v ∈ I, v ≤ 1) (hlen : (inputs G.nodes).length ≤ m) :
    Calls Try.prog 158 #[.agg #[.int .i64 G.most, .slice (some ⟨rb, 0, none⟩) G.nodes.length cap], .slice xa m xc] w fun e w' => ∃ v, e = .returned v ∧ row w' 3 1 v G.nodes.length (refsCells (valsN I G.nodes)) ∧ (∀ q ∈ v.ownBlock.toList, w.heap.size ≤ q) ∧ Ch [] w w' := by
  obtain ⟨hl, hp, hmo⟩ := h.len
  have hle0 := h.le
  have hmx := h.mx
  have hV1 := valsN_le hle G.nodes
  have hVl := valsN_len I G.nodes
  have hwf := h.ok.wf
  have hVn := fun (i : Nat) (x : Nd) (hx : G.nodes[i]? = some x) => wv_node hwf 1 I hx
  have hin := fun (i : Nat) (x : Nd) (hx : G.nodes[i]? = some x) (h2 : x.k = 2) => input_at hx h2
  have hIb : I.length ≤ 9223372036854775807 := by have := hI.bd; simpa [refsCells] using this
  obtain ⟨V, hV⟩ : ∃ V, valsN I G.nodes = V := ⟨_, rfl⟩
  have hV' : (wvF 1 I G.nodes).1 = V := hV
  rw [hV] at hV1 hVl
  simp only [hV'] at hVn
  rw [hV]
  clear hV hV'
  have H := Lib.hid h; clear h
  have HI := Lib.hid hI; clear hI
  have HM := Lib.hid hm; clear hm
  have HV1 := Lib.hid hV1; clear hV1
  have HVL := Lib.hid hVl; clear hVl
  have HVN := Lib.hid hVn; clear hVn
  have HIN := Lib.hid hin; clear hin
  have HLE := Lib.hid hle; clear hle
  go_enter Try.func158, Try.ntmps158
  go_wp2_with fail
  refine wp_alw ?_
  intro W0 hW0
  have hc0 : Ch [] w W0 := by rw [hW0]; exact (Ch.refl _ _).alloc _
  have b2 : blk W0 w.heap.size [.int .i64 G.most, .slice (some ⟨rb, 0, none⟩) G.nodes.length cap] := by rw [hW0]; exact blk.new' (w := w) [.int .i64 G.most, .slice (some ⟨rb, 0, none⟩) G.nodes.length cap] 115 rfl
  clear hW0
  have hr0 := H.out.ch hc0 (by simp)
  have hi0 := HI.out.ch hc0 (by simp)
  have B2 := Lib.hid b2; clear b2
  have HC0 := Lib.hid hc0; clear hc0
  have HR0 := Lib.hid hr0; clear hr0
  have HI0 := Lib.hid hi0; clear hi0
  go_loopw [5, 6, 7] (fun o q i wr => ∃ n : Nat, n ≤ G.nodes.length ∧ i = .int .i64 n ∧ q = .int .i64 ((inputs (G.nodes.take n)).length : Nat) ∧ Ch [] W0 wr ∧ row wr 3 1 o n (refsCells (V.take n)) ∧ ∀ q ∈ o.ownBlock.toList, W0.heap.size ≤ q) (fun _ _ i _ => G.nodes.length - (intOf i).toNat)
  case atStart => exact ⟨0, by omega, rfl, rfl, Ch.refl _ _, ⟨rfl, .inl ⟨rfl, rfl⟩⟩, by simp⟩
  case round =>
    obtain ⟨n, hn, rfl, rfl, hc, hrow, hlo⟩ := hrel
    obtain ⟨oa, oc, rfl⟩ := row.shape hrow
    have y1 := (B2.out.ch hc (by simp)).cell (i := 1) rfl
    by_cases hlt : n < G.nodes.length
    · obtain ⟨x, hx⟩ : ∃ x, G.nodes[n]? = some x := ⟨_, List.getElem?_eq_getElem hlt⟩
      obtain ⟨c0, c1, c2⟩ := (HR0.out.ch hc (by simp)).node hx
      have hvn := HVN.out n x hx
      obtain ⟨v, hv⟩ : ∃ v, V[n]? = some v := ⟨_, List.getElem?_eq_getElem (by rw [HVL.out]; exact hlt)⟩
      rw [hv] at hvn
      replace hvn := Option.some.inj hvn
      have hts : V.take (n + 1) = V.take n ++ [v] := by rw [List.take_add_one, hv]; rfl
      have hv1 := HV1.out v (List.mem_of_getElem? hv)
      have hins : (inputs (G.nodes.take n)).length ≤ n := by
        have : ∀ (l : List Nd) (k : Nat), (inputsFrom l k).length ≤ l.length := fun l => by
          induction l with
          | nil => intro n; simp [inputsFrom]
          | cons a l ih => intro n; unfold inputsFrom; split <;> simp <;> have := ih (n + 1) <;> omega
        have := this (G.nodes.take n) 0
        rw [List.length_take] at this
        unfold inputs
        omega
      have hisucc : (inputs (G.nodes.take (n + 1))).length = (inputs (G.nodes.take n)).length + (if x.k = 2 then 1 else 0) := by
        rw [List.take_add_one, hx]
        show (inputs (G.nodes.take n ++ [x])).length = _
        by_cases h2 : x.k = 2
        · rw [inputs_input h2, if_pos h2]; simp
        · rw [inputs_append h2, if_neg h2]; rfl
      have HTS := Lib.hid hts; clear hts
      have HC := Lib.hid hc; clear hc
      have HROW := Lib.hid hrow; clear hrow
      have HLO := Lib.hid hlo; clear hlo
      have HVNN := Lib.hid hvn; clear hvn
      have HIS := Lib.hid hisucc; clear hisucc
      have HXX := Lib.hid hx
      go_upto_region 7 with fail
      refine wp_named fun W1 hW1 => ?_
      have hc1 : Ch [] wr W1 := by rw [hW1]; exact (Ch.refl _ _).alloc _
      have hb1 : blk W1 wr.heap.size [.int .i64 x.k, .int .i64 x.l, .int .i64 x.r] := by rw [hW1]; exact blk.new' _ _ rfl
      have d0 := hb1.cell (i := 0) rfl
      clear hW1 y1 c0 c1 c2
      have hc1' := Lib.hid hc1; clear hc1
      by_cases h3 : x.k = 3
      · have q2 : ((x.k : Int) == 2) = false := by rw [h3]; rfl
        have q3 : ((x.k : Int) == 3) = true := by rw [h3]; rfl
        have hsd := hwf.sides hx h3
        have hvn := HVNN.out
        rw [if_pos h3, wref1, wref1] at hvn
        have his := HIS.out
        rw [if_neg (by omega), Nat.add_zero] at his
        obtain ⟨L, hL⟩ : ∃ L, x.l / 2 = L := ⟨_, rfl⟩
        obtain ⟨R, hR⟩ : ∃ R, x.r / 2 = R := ⟨_, rfl⟩
        obtain ⟨lm, hlm⟩ : ∃ lm, x.l % 2 = lm := ⟨_, rfl⟩
        obtain ⟨rm, hrm⟩ : ∃ rm, x.r % 2 = rm := ⟨_, rfl⟩
        have hLn : L < n := by omega
        have hRn : R < n := by omega
        rw [hL, hR, hlm, hrm] at hvn
        obtain ⟨p, hp⟩ : ∃ p, V[L]? = some p := ⟨_, List.getElem?_eq_getElem (by rw [HVL.out]; omega)⟩
        obtain ⟨q, hq⟩ : ∃ q, V[R]? = some q := ⟨_, List.getElem?_eq_getElem (by rw [HVL.out]; omega)⟩
        have hp1 := HV1.out p (List.mem_of_getElem? hp)
        have hq1 := HV1.out q (List.mem_of_getElem? hq)
        rw [List.getD_eq_getElem?_getD, List.getD_eq_getElem?_getD, hp, hq] at hvn
        simp only [Option.getD_some] at hvn
        have hpt : (V.take n)[L]? = some p := by rw [List.getElem?_take, if_pos hLn]; exact hp
        have hqt : (V.take n)[R]? = some q := by rw [List.getElem?_take, if_pos hRn]; exact hq
        obtain ⟨ob, oc', hoe⟩ := row.parts HROW.out (by omega)
        cases hoe
        have cp := row_cell (HROW.out.ch hc1'.out (by simp)) (k := L) (v := .int .i64 p) (by unfold refsCells; rw [List.getElem?_map, hpt]; rfl)
        have cq := row_cell (HROW.out.ch hc1'.out (by simp)) (k := R) (v := .int .i64 q) (by unfold refsCells; rw [List.getElem?_map, hqt]; rfl)
        have d1 := hb1.cell (i := 1) rfl
        have d2 := hb1.cell (i := 2) rfl
        have hlm1 : lm ≤ 1 := by omega
        have hrm1 : rm ≤ 1 := by omega
        have ex1 := bits_xor_i64_nat p lm (by omega) (by omega)
        have ex2 := bits_xor_i64_nat q rm (by omega) (by omega)
        have ha1 := xor_le1 hp1 hlm1
        have hb1' := xor_le1 hq1 hrm1
        obtain ⟨A, hA⟩ : ∃ A, p ^^^ lm = A := ⟨_, rfl⟩
        obtain ⟨B, hB⟩ : ∃ B, q ^^^ rm = B := ⟨_, rfl⟩
        rw [hA] at ex1 ha1 hvn
        rw [hB] at ex2 hb1' hvn
        rw [← bit_mul ha1 hb1'] at hvn
        have em : (A : Int) * (B : Int) = (v : Int) := by rw [hvn]; simp
        have em1 : ∀ [Nonempty Unit], wrap64 ((A : Int) * (B : Int)) = (v : Int) := by rw [em]; exact IntWalk.wrap64_in _ (by omega)
        have em2 : ∀ [Nonempty Unit], IntKind.i64.wrap ((A : Int) * (B : Int)) = (v : Int) := by rw [em]; exact IntWalk.i64_in _ (by omega)
        have el1 : (x.l : Int) / 2 = (L : Int) := by omega
        have el2 : (x.l : Int) % 2 = (lm : Int) := by omega
        have er1 : (x.r : Int) / 2 = (R : Int) := by omega
        have er2 : (x.r : Int) % 2 = (rm : Int) := by omega
        have hxb : x.l ≤ 200000 ∧ x.r ≤ 200000 := by omega
        have HIS2 := Lib.hid his; clear his HIS
        have HSD := Lib.hid hsd; clear hsd
        clear hvn hp hq hpt hqt hA hB hL hR hlm hrm em HVNN hx h3 hb1
        go_wp2_with fail
        refine Ord.St.door (fun _ => True) [.fl, .fl, .rd, .fl, .fl, .rd, .fl, .rd, .fl, .fl, .fl, .fl, .rd, .fl, .fl, .rd, .fl, .rd, .fl, .fl, .fl, .fl] [0, 0, 2, 6, 15, 31, 0, 64, 192, 511, 0, 0, 2048, 6144, 15360, 31744, 0, 65536, 196608, 523264, 1048575, 2097151] [0, 1, 2, 3, 4, 5, 6, 7, 8, 9, 10, 11, 12, 13, 14, 15, 16, 17, 18, 19, 20, 21] mixed (by kernel_rfl) rfl ?_
        refine Ord.St.fl2 (T' := ?_) 0 [1, 2, 3, 4, 5, 6, 7, 8, 9, 10, 11, 12, 13, 14, 15, 16, 17, 18, 19, 20, 21] _ _ rfl (by kernel_rfl) rfl rfl rfl rfl (fun K w' hk => ?_) ?_
        rotate_left
        · go_step; exact hk
        refine Ord.St.fl2 (T' := ?_) 1 [2, 3, 4, 5, 6, 7, 8, 9, 10, 11, 12, 13, 14, 15, 16, 17, 18, 19, 20, 21] _ _ rfl (by kernel_rfl) rfl rfl rfl rfl (fun K w' hk => ?_) ?_
        rotate_left
        · go_step; exact hk
        refine Ord.St.rd2 (T' := ?_) 2 [3, 4, 5, 6, 7, 8, 9, 10, 11, 12, 13, 14, 15, 16, 17, 18, 19, 20, 21] _ _ rfl (by kernel_rfl) rfl rfl rfl rfl (fun K hk => ?_) ?_
        rotate_left
        · go_step; exact hk
        refine Ord.St.fl2 (T' := ?_) 3 [4, 5, 6, 7, 8, 9, 10, 11, 12, 13, 14, 15, 16, 17, 18, 19, 20, 21] _ _ rfl (by kernel_rfl) rfl rfl rfl rfl (fun K w' hk => ?_) ?_
        rotate_left
        · go_step; exact hk
        refine Ord.St.fl2 (T' := ?_) 4 [5, 6, 7, 8, 9, 10, 11, 12, 13, 14, 15, 16, 17, 18, 19, 20, 21] _ _ rfl (by kernel_rfl) rfl rfl rfl rfl (fun K w' hk => ?_) ?_
        rotate_left
        · go_step; exact hk
        refine Ord.St.rd2 (T' := ?_) 5 [6, 7, 8, 9, 10, 11, 12, 13, 14, 15, 16, 17, 18, 19, 20, 21] _ _ rfl (by kernel_rfl) rfl rfl rfl rfl (fun K hk => ?_) ?_
        rotate_left
        · go_step; exact hk
        refine Ord.St.fl2 (T' := ?_) 6 [7, 8, 9, 10, 11, 12, 13, 14, 15, 16, 17, 18, 19, 20, 21] _ _ rfl (by kernel_rfl) rfl rfl rfl rfl (fun K w' hk => ?_) ?_
        rotate_left
        · go_step; exact hk
        refine Ord.St.rd2 (T' := ?_) 7 [8, 9, 10, 11, 12, 13, 14, 15, 16, 17, 18, 19, 20, 21] _ _ rfl (by kernel_rfl) rfl rfl rfl rfl (fun K hk => ?_) ?_
        rotate_left
        · go_step; exact hk
        refine Ord.St.fl2 (T' := ?_) 8 [9, 10, 11, 12, 13, 14, 15, 16, 17, 18, 19, 20, 21] _ _ rfl (by kernel_rfl) rfl rfl rfl rfl (fun K w' hk => ?_) ?_
        rotate_left
        · go_step; exact hk
        refine Ord.St.fl2 (T' := ?_) 9 [10, 11, 12, 13, 14, 15, 16, 17, 18, 19, 20, 21] _ _ rfl (by kernel_rfl) rfl rfl rfl rfl (fun K w' hk => ?_) ?_
        rotate_left
        · go_step; exact hk
        refine Ord.St.fl2 (T' := ?_) 10 [11, 12, 13, 14, 15, 16, 17, 18, 19, 20, 21] _ _ rfl (by kernel_rfl) rfl rfl rfl rfl (fun K w' hk => ?_) ?_
        rotate_left
        · go_step; exact hk
        refine Ord.St.fl2 (T' := ?_) 11 [12, 13, 14, 15, 16, 17, 18, 19, 20, 21] _ _ rfl (by kernel_rfl) rfl rfl rfl rfl (fun K w' hk => ?_) ?_
        rotate_left
        · go_step; exact hk
        refine Ord.St.rd2 (T' := ?_) 12 [13, 14, 15, 16, 17, 18, 19, 20, 21] _ _ rfl (by kernel_rfl) rfl rfl rfl rfl (fun K hk => ?_) ?_
        rotate_left
        · go_step; exact hk
        refine Ord.St.fl2 (T' := ?_) 13 [14, 15, 16, 17, 18, 19, 20, 21] _ _ rfl (by kernel_rfl) rfl rfl rfl rfl (fun K w' hk => ?_) ?_
        rotate_left
        · go_step; exact hk
        refine Ord.St.fl2 (T' := ?_) 14 [15, 16, 17, 18, 19, 20, 21] _ _ rfl (by kernel_rfl) rfl rfl rfl rfl (fun K w' hk => ?_) ?_
        rotate_left
        · go_step; exact hk
        refine Ord.St.rd2 (T' := ?_) 15 [16, 17, 18, 19, 20, 21] _ _ rfl (by kernel_rfl) rfl rfl rfl rfl (fun K hk => ?_) ?_
        rotate_left
        · go_step; exact hk
        refine Ord.St.fl2 (T' := ?_) 16 [17, 18, 19, 20, 21] _ _ rfl (by kernel_rfl) rfl rfl rfl rfl (fun K w' hk => ?_) ?_
        rotate_left
        · go_step; exact hk
        refine Ord.St.rd2 (T' := ?_) 17 [18, 19, 20, 21] _ _ rfl (by kernel_rfl) rfl rfl rfl rfl (fun K hk => ?_) ?_
        rotate_left
        · go_step; exact hk
        refine Ord.St.fl2 (T' := ?_) 18 [19, 20, 21] _ _ rfl (by kernel_rfl) rfl rfl rfl rfl (fun K w' hk => ?_) ?_
        rotate_left
        · go_step; exact hk
        refine Ord.St.fl2 (T' := ?_) 19 [20, 21] _ _ rfl (by kernel_rfl) rfl rfl rfl rfl (fun K w' hk => ?_) ?_
        rotate_left
        · go_step; exact hk
        refine Ord.St.fl2 (T' := ?_) 20 [21] _ _ rfl (by kernel_rfl) rfl rfl rfl rfl (fun K w' hk => ?_) ?_
        rotate_left
        · go_step; exact hk
        refine Ord.St.fl2 (T' := ?_) 21 [] _ _ rfl (by kernel_rfl) rfl rfl rfl rfl (fun K w' hk => ?_) ?_
        rotate_left
        · go_step; exact hk
        refine Ord.St.nil ?_
        clear cp cq d0 d1 d2 ex1 ex2 em1 em2 el1 el2 er1 er2
        have hcA : Ch [] W1.drew (W1.drew.alloc (.cells #[.int .i64 v] 3)) := (Ch.refl _ _).alloc _
        have hrA := (HROW.out.ch (hc1'.out.drew) (by simp)).ch hcA (by simp)
        have hbA : blk (W1.drew.alloc (.cells #[.int .i64 v] 3)) W1.drew.heap.size [.int .i64 v] := blk.new' _ _ rfl
        have HRA := Lib.hid hrA; clear hrA
        have HBA := Lib.hid hbA; clear hbA
        have HCA := Lib.hid hcA; clear hcA
        go_wp2_with (at_builtin; go_loud (refine wpList_append_row slInts rfl _ _ rfl (v := .slice (some ⟨ob, 0, none⟩) n oc) (n := n) (xs := refsCells (V.take n)) rfl HRA.out (ad := ⟨W1.drew.heap.size, 0, none⟩) (m := 1) (c := 1) (news := [.int .i64 v]) rfl rfl (news_blk HBA.out) (by simp [Value.oneCell']) (by omega) (by omega) ?_; intro v' w4 hown4 hC4 hf4; have HO4 := Lib.hid hown4; clear hown4; have HC4 := Lib.hid hC4; clear hC4; have HF4 := Lib.hid hf4; clear hf4))
        go_roundw
        case rel =>
          obtain ⟨q1, q2⟩ := app_step (HC.out.trans (hc1'.out.drew) (by simp)) HCA.out HLO.out HC4.out HF4.out
          refine ⟨n + 1, by omega, by go_num, by rw [HIS2.out]; rfl, q1, ?_, q2⟩
          rw [HTS.out, show refsCells (V.take n ++ [v]) = refsCells (V.take n) ++ [.int .i64 v] by simp [refsCells]]
          exact HO4.out
        case measure => simp [intOf]; omega
      · by_cases h2 : x.k = 2
        · have q2 : ((x.k : Int) == 2) = true := by rw [h2]; rfl
          have q3 : ((x.k : Int) == 3) = false := by rw [h2]; rfl
          have hvn := HVNN.out
          rw [if_neg h3, if_pos h2] at hvn
          have his := HIS.out
          rw [if_pos h2] at his
          obtain ⟨h5, _⟩ := HIN.out n x hx h2
          obtain ⟨K, hK⟩ : ∃ K, (inputs (G.nodes.take n)).length = K := ⟨_, rfl⟩
          rw [hK] at hvn his h5 hins ⊢
          obtain ⟨iv, hiv⟩ : ∃ iv, I[K]? = some iv := ⟨_, List.getElem?_eq_getElem (by rw [HM.out]; omega)⟩
          rw [List.getD_eq_getElem?_getD, hiv] at hvn
          replace hvn : v = iv := hvn
          subst hvn
          obtain ⟨b1, o1, rfl, ci⟩ := ((HI0.out.ch HC.out (by simp)).ch hc1'.out (by simp)).cells K (.int .i64 v) (by unfold refsCells; rw [List.getElem?_map, hiv]; rfl)
          have HIS2 := Lib.hid his; clear his HIS
          have hKm : K < m := by omega
          have hK2 : K ≤ 65536 := by omega
          clear hiv HVNN hx h2 h3 hb1 hK hv HXX hwf h5 hlen
          have hcA : Ch [] W1 (W1.alloc (.cells #[.int .i64 v] 3)) := (Ch.refl _ _).alloc _
          have hrA := (HROW.out.ch hc1'.out (by simp)).ch hcA (by simp)
          have hbA : blk (W1.alloc (.cells #[.int .i64 v] 3)) W1.heap.size [.int .i64 v] := blk.new' _ _ rfl
          have HRA := Lib.hid hrA; clear hrA
          have HBA := Lib.hid hbA; clear hbA
          have HCA := Lib.hid hcA; clear hcA
          go_wp2_with (at_builtin; go_loud (refine wpList_append_row slInts rfl _ _ rfl (v := .slice oa n oc) (n := n) (xs := refsCells (V.take n)) rfl HRA.out (ad := ⟨W1.heap.size, 0, none⟩) (m := 1) (c := 1) (news := [.int .i64 v]) rfl rfl (news_blk HBA.out) (by simp [Value.oneCell']) (by omega) (by omega) ?_; intro v' w4 hown4 hC4 hf4; have HO4 := Lib.hid hown4; clear hown4; have HC4 := Lib.hid hC4; clear hC4; have HF4 := Lib.hid hf4; clear hf4))
          go_roundw
          case rel =>
            obtain ⟨q1, q2⟩ := app_step (HC.out.trans hc1'.out (by simp)) HCA.out HLO.out HC4.out HF4.out
            refine ⟨n + 1, by omega, by go_num, by rw [HIS2.out]; go_num, q1, ?_, q2⟩
            rw [HTS.out, show refsCells (V.take n ++ [v]) = refsCells (V.take n) ++ [.int .i64 v] by simp [refsCells]]
            exact HO4.out
          case measure => simp [intOf]; omega
        · have q2 : ((x.k : Int) == 2) = false := by rw [beq_eq_false_iff_ne]; omega
          have q3 : ((x.k : Int) == 3) = false := by rw [beq_eq_false_iff_ne]; omega
          have hvn := HVNN.out
          rw [if_neg h3, if_neg h2] at hvn
          replace hvn : v = 0 := hvn
          subst hvn
          have his := HIS.out
          rw [if_neg h2, Nat.add_zero] at his
          have HIS2 := Lib.hid his; clear his HIS
          clear HVNN hx h2 h3 hb1
          have hcA : Ch [] W1 (W1.alloc (.cells #[.int .i64 0] 3)) := (Ch.refl _ _).alloc _
          have hrA := (HROW.out.ch hc1'.out (by simp)).ch hcA (by simp)
          have hbA : blk (W1.alloc (.cells #[.int .i64 0] 3)) W1.heap.size [.int .i64 0] := blk.new' _ _ rfl
          have HRA := Lib.hid hrA; clear hrA
          have HBA := Lib.hid hbA; clear hbA
          have HCA := Lib.hid hcA; clear hcA
          go_wp2_with (at_builtin; go_loud (refine wpList_append_row slInts rfl _ _ rfl (v := .slice oa n oc) (n := n) (xs := refsCells (V.take n)) rfl HRA.out (ad := ⟨W1.heap.size, 0, none⟩) (m := 1) (c := 1) (news := [.int .i64 0]) rfl rfl (news_blk HBA.out) (by simp [Value.oneCell']) (by omega) (by omega) ?_; intro v' w4 hown4 hC4 hf4; have HO4 := Lib.hid hown4; clear hown4; have HC4 := Lib.hid hC4; clear hC4; have HF4 := Lib.hid hf4; clear hf4))
          go_roundw
          case rel =>
            obtain ⟨q1, q2⟩ := app_step (HC.out.trans hc1'.out (by simp)) HCA.out HLO.out HC4.out HF4.out
            refine ⟨n + 1, by omega, by go_num, by rw [HIS2.out]; rfl, q1, ?_, q2⟩
            rw [HTS.out, show refsCells (V.take n ++ [0]) = refsCells (V.take n) ++ [.int .i64 0] by simp [refsCells]]
            exact HO4.out
          case measure => simp [intOf]; omega
    · have hnl : n = G.nodes.length := by omega
      have hrow' := hrow
      rw [hnl, List.take_of_length_le (by rw [HVL.out]; omega)] at hrow'
      have HROW := Lib.hid hrow'; clear hrow' hrow
      have HLO := Lib.hid hlo; clear hlo
      have HC := Lib.hid hc; clear hc
      go_wp2_with fail
      go_ret
      refine ⟨_, rfl, ?_, fun q hq => Nat.le_trans HC0.out.size (HLO.out q hq), HC0.out.trans HC.out (by simp)⟩
      have := HROW.out
      rwa [← hnl] at this ⊢
end
end Go.Proofs.Ytnmfdiiehkkjcaa
namespace Go.Aig
/-- the values of the inputs for an assignment -/
def asgN (n a : Nat) : List Nat := (List.range n).map fun i => (a.testBit i).toNat
theorem asgN_len (n a : Nat) : (asgN n a).length = n := by simp [asgN]
theorem asgN_le (n a : Nat) : ∀ v ∈ asgN n a, v ≤ 1 := fun v hv => by
  obtain ⟨i, _, rfl⟩ := List.mem_map.1 hv
  cases a.testBit i <;> simp
theorem asgN_snoc (n a k : Nat) (hk : k < n) : (asgN n a).take (k + 1) = (asgN n a).take k ++ [(a.testBit k).toNat] := by
  rw [List.take_add_one]
  congr 1
  unfold asgN
  rw [List.getElem?_map, List.getElem?_range hk]
  rfl
theorem half_bit (a k : Nat) : a / 2 ^ k % 2 = (a.testBit k).toNat := by
  rw [Nat.testBit_eq_decide_div_mod_eq]
  rcases Nat.mod_two_eq_zero_or_one (a / 2 ^ k) with h | h <;> rw [h] <;> rfl
theorem half_half (a k : Nat) : a / 2 ^ k / 2 = a / 2 ^ (k + 1) := by rw [Nat.div_div_eq_div_mul, ← Nat.pow_succ]
/-- the column k of words -/
def colN (I : List Nat) (k : Nat) : List Nat := I.map fun v => (v.testBit k).toNat
theorem colN_len (I : List Nat) (k : Nat) : (colN I k).length = I.length := by simp [colN]
theorem colN_le (I : List Nat) (k : Nat) : ∀ v ∈ colN I k, v ≤ 1 := fun v hv => by
  obtain ⟨x, _, rfl⟩ := List.mem_map.1 hv
  cases x.testBit k <;> simp
theorem bit_of {v : Nat} (h : v ≤ 1) : v = (v.testBit 0).toNat := by
  rcases (by omega : v = 0 ∨ v = 1) with rfl | rfl <;> rfl
/-- what a reference is, 0 or 1 -/
theorem vals_bv {I : List Nat} (hI : ∀ v ∈ I, v ≤ 1) (ns : List Nd) (r : Nat) : wref 1 (Go.Proofs.Ytnmfdiiehkkjcaa.valsN I ns) r = (bv (fun i => (I.getD i 0).testBit 0) ns r).toNat := by
  have h := wv_bv (N := 1) (k := 0) (by omega) I ns r
  have h2 : wref 1 (Go.Proofs.Ytnmfdiiehkkjcaa.valsN I ns) r ≤ 1 := by
    have : wref 1 (Go.Proofs.Ytnmfdiiehkkjcaa.valsN I ns) r < 2 := wref_lt (N := 1) (vs := Go.Proofs.Ytnmfdiiehkkjcaa.valsN I ns) (fun v hv => by have := Go.Proofs.Ytnmfdiiehkkjcaa.valsN_le hI ns v hv; omega) r
    omega
  rw [bit_of h2]
  congr 1
theorem asgN_bits (n a : Nat) : (fun i => ((asgN n a).getD i 0).testBit 0) = asg n a := by
  funext i
  unfold asgN asg
  rw [List.getD_eq_getElem?_getD, List.getElem?_map]
  by_cases h : i < n
  · rw [List.getElem?_range h, decide_eq_true h]
    show ((a.testBit i).toNat).testBit 0 = _
    cases a.testBit i <;> rfl
  · rw [List.getElem?_eq_none (by simp; omega), decide_eq_false h]
    simp
theorem colN_bits (I : List Nat) (k : Nat) : (fun i => ((colN I k).getD i 0).testBit 0) = fun i => (I.getD i 0).testBit k := by
  funext i
  unfold colN
  rw [List.getD_eq_getElem?_getD, List.getElem?_map, List.getD_eq_getElem?_getD]
  cases I[i]? with
  | none => simp
  | some v =>
    show ((v.testBit k).toNat).testBit 0 = v.testBit k
    cases v.testBit k <;> rfl
end Go.Aig
namespace Go.Proofs.Ytnmfdiiehkkjcaa
open Go.RowKit Go.Mem Go.Aig
section
variable {w : World}
set_option maxRecDepth 100000 in
set_option maxHeartbeats 2000000 in
theorem r21Value_is {rb cap : Nat} {G : Gra} (h : RG w rb cap G) {xa : Option Addr} {I : List Nat} (m xc : Nat) (hm : I.length = m) (hI : Sv w xa (refsCells I)) (hle : ∀ v ∈ I, v ≤ 1) (hlen : (inputs G.nodes).length ≤ m) (r : Nat) (hr : r < 2 * G.nodes.length) :
    Calls Try.prog 142 #[.agg #[.int .i64 G.most, .slice (some ⟨rb, 0, none⟩) G.nodes.length cap], .slice xa m xc, .int .i64 r] w fun e w' => e = .returned (.int .i64 (wref 1 (valsN I G.nodes) r : Nat)) ∧ Ch [] w w' := by
  obtain ⟨hl, hp, hmo⟩ := h.len
  have hV1 := valsN_le hle G.nodes
  have hVl := valsN_len I G.nodes
  have HC := fun (W : World) (hW : Ch [] w W) => r21Values_is (h.ch hW (by simp)) (xa := xa) m xc hm (hI.ch hW (by simp)) hle hlen
  have HC := Lib.hid HC
  clear h hI hle hm
  rw [wref1]
  generalize valsN I G.nodes = V at *
  obtain ⟨L, hL⟩ : ∃ L, r / 2 = L := ⟨_, rfl⟩
  obtain ⟨rm, hrm⟩ : ∃ rm, r % 2 = rm := ⟨_, rfl⟩
  obtain ⟨p, hpp⟩ : ∃ p, V[L]? = some p := ⟨_, List.getElem?_eq_getElem (by omega)⟩
  have hp1 := hV1 p (List.mem_of_getElem? hpp)
  rw [hL, hrm, List.getD_eq_getElem?_getD, hpp]
  simp only [Option.getD_some]
  have ex1 := bits_xor_i64_nat p rm (by omega) (by omega)
  have el1 : (r : Int) / 2 = (L : Int) := by omega
  have el2 : (r : Int) % 2 = (rm : Int) := by omega
  have hLn : L < G.nodes.length := by omega
  generalize p ^^^ rm = A at ex1 ⊢
  have hcl : (refsCells V)[L]? = some (.int .i64 p) := by unfold refsCells; rw [List.getElem?_map, hpp]; rfl
  have HCL := Lib.hid hcl; clear hcl hpp hVl
  have HV1 := Lib.hid hV1; clear hV1
  clear hL hrm
  go_enter Try.func142, Try.ntmps142
  go_wp2_with fail
  refine calls_named fun W1 hW1 => ?_
  have hc1 := alw_ch hW1
  clear hW1
  refine (HC.out W1 hc1).mono ?_
  rintro e w2 ⟨v, rfl, hrow, _, hc2⟩
  obtain ⟨ob, oc, rfl⟩ := row.parts hrow (by omega)
  have cp := row_cell hrow HCL.out
  have hcc := hc1.trans hc2 (by simp)
  clear hrow hc1 hc2 HC
  go_wp2_with fail
  go_ret
  exact ⟨rfl, hcc⟩
set_option maxRecDepth 100000 in
set_option maxHeartbeats 2000000 in
theorem r21Assignment_is (n a : Nat) (hn : n ≤ 60) (ha : a ≤ 9223372036854775807) :
    Calls Try.prog 143 #[.int .i64 n, .int .i64 a] w fun e w' => ∃ v, e = .returned v ∧ row w' 3 1 v n (refsCells (asgN n a)) ∧ (∀ q ∈ v.ownBlock.toList, w.heap.size ≤ q) ∧ Ch [] w w' := by
  have HSN := Lib.hid (asgN_snoc n a)
  have HB := Lib.hid (half_bit a)
  have HH := Lib.hid (half_half a)
  have hAl := asgN_len n a
  obtain ⟨Q, hQ⟩ : ∃ Q : Nat → Nat, Q = fun k => a / 2 ^ k := ⟨_, rfl⟩
  have hQ0 : Q 0 = a := by rw [hQ]; simp
  have hQb : ∀ k, Q k % 2 = (a.testBit k).toNat := fun k => by rw [hQ]; exact HB.out k
  have hQs : ∀ k, Q k / 2 = Q (k + 1) := fun k => by rw [hQ]; exact HH.out k
  have hQl : ∀ k, Q k ≤ a := fun k => by rw [hQ]; exact Nat.div_le_self _ _
  clear hQ HB HH
  generalize asgN n a = A at *
  have HQ0 := Lib.hid hQ0; clear hQ0
  have HQB := Lib.hid hQb; clear hQb
  have HQS := Lib.hid hQs; clear hQs
  have HQL := Lib.hid hQl; clear hQl
  have HAL := Lib.hid hAl; clear hAl
  go_enter Try.func143, Try.ntmps143
  go_wp2_with fail
  go_loopw [1, 5, 6] (fun z o i wr => ∃ k : Nat, k ≤ n ∧ i = .int .i64 k ∧ z = .int .i64 (Q k : Nat) ∧ Ch [] w wr ∧ row wr 3 1 o k (refsCells (A.take k)) ∧ ∀ q ∈ o.ownBlock.toList, w.heap.size ≤ q) (fun _ _ i _ => n - (intOf i).toNat)
  case atStart => exact ⟨0, by omega, rfl, by rw [HQ0.out], Ch.refl _ _, ⟨rfl, .inl ⟨rfl, rfl⟩⟩, by simp⟩
  case round =>
    obtain ⟨k, hk, rfl, rfl, hc, hrow, hlo⟩ := hrel
    obtain ⟨oa, oc, rfl⟩ := row.shape hrow
    have HROW := Lib.hid hrow; clear hrow
    by_cases hlt : k < n
    · have hsn := HSN.out k hlt
      have hqb := HQB.out k
      have hqs := HQS.out k
      have hql := HQL.out k
      obtain ⟨q, hq⟩ : ∃ q, Q k = q := ⟨_, rfl⟩
      obtain ⟨b, hb⟩ : ∃ b, (a.testBit k).toNat = b := ⟨_, rfl⟩
      obtain ⟨q2, hq2⟩ : ∃ q2, Q (k + 1) = q2 := ⟨_, rfl⟩
      rw [hb] at hsn hqb
      rw [hq] at hqb hqs hql ⊢
      rw [hq2] at hqs
      have e1 : (q : Int) % 2 = (b : Int) := by omega
      have e2 : (q : Int) / 2 = (q2 : Int) := by omega
      have HQ2 := Lib.hid hq2; clear hq2
      have HC := Lib.hid hc; clear hc
      have HLO := Lib.hid hlo; clear hlo
      have HSU := Lib.hid hsn; clear hsn
      clear hq hb hqb hqs
      have hcA : Ch [] wr (wr.alloc (.cells #[.int .i64 b] 3)) := (Ch.refl _ _).alloc _
      have hrA := HROW.out.ch hcA (by simp)
      have hbA : blk (wr.alloc (.cells #[.int .i64 b] 3)) wr.heap.size [.int .i64 b] := blk.new' _ _ rfl
      have HRA := Lib.hid hrA; clear hrA
      have HBA := Lib.hid hbA; clear hbA
      have HCA := Lib.hid hcA; clear hcA
      go_wp2_with (at_builtin; go_loud (refine wpList_append_row slInts rfl _ _ rfl (v := .slice oa k oc) (n := k) (xs := refsCells (A.take k)) rfl HRA.out (ad := ⟨wr.heap.size, 0, none⟩) (m := 1) (c := 1) (news := [.int .i64 b]) rfl rfl (news_blk HBA.out) (by simp [Value.oneCell']) (by omega) (by omega) ?_; intro v' w4 hown4 hC4 hf4; have HO4 := Lib.hid hown4; clear hown4; have HC4 := Lib.hid hC4; clear hC4; have HF4 := Lib.hid hf4; clear hf4))
      go_roundw
      case rel =>
        obtain ⟨q1, q2'⟩ := app_step HC.out HCA.out HLO.out HC4.out HF4.out
        refine ⟨k + 1, by omega, by go_num, by rw [HQ2.out], q1, ?_, q2'⟩
        rw [HSU.out, show refsCells (A.take k ++ [b]) = refsCells (A.take k) ++ [.int .i64 b] by simp [refsCells]]
        exact HO4.out
      case measure => simp [intOf]; omega
    · have hkn : k = n := by omega
      subst hkn
      have hrow := HROW.out
      rw [List.take_of_length_le (by rw [HAL.out]; omega)] at hrow
      have HR := Lib.hid hrow; clear hrow HROW
      have HC := Lib.hid hc; clear hc
      have HLO := Lib.hid hlo; clear hlo
      go_wp2_with fail
      go_ret
      exact ⟨_, rfl, HR.out, HLO.out, HC.out⟩
set_option maxRecDepth 100000 in
set_option maxHeartbeats 2000000 in
theorem r21Column_is {xa : Option Addr} {I : List Nat} (m xc k : Nat) (hm : I.length = m) (hI : Sv w xa (u64s I)) (hlt : ∀ v ∈ I, v < 2 ^ 64) (hml : m ≤ 1000000) (hk : k ≤ 63) :
    Calls Try.prog 159 #[.slice xa m xc, .int .i64 k] w fun e w' => ∃ v, e = .returned v ∧ row w' 3 1 v m (refsCells (colN I k)) ∧ (∀ q ∈ v.ownBlock.toList, w.heap.size ≤ q) ∧ Ch [] w w' := by
  have hAl := colN_len I k
  have hsn : ∀ j v, I[j]? = some v → (colN I k).take (j + 1) = (colN I k).take j ++ [(v.testBit k).toNat] := fun j v hv => by
    rw [List.take_add_one]
    congr 1
    unfold colN
    rw [List.getElem?_map, hv]
    rfl
  rw [hm] at hAl
  generalize colN I k = A at *
  have HSN := Lib.hid hsn; clear hsn
  have HAL := Lib.hid hAl; clear hAl
  have HI := Lib.hid hI; clear hI
  have HM := Lib.hid hm; clear hm
  have HLT := Lib.hid hlt; clear hlt
  go_enter Try.func159, Try.ntmps159
  go_wp2_with fail
  go_loopw [5, 6] (fun o i wr => ∃ j : Nat, j ≤ m ∧ i = .int .i64 j ∧ Ch [] w wr ∧ row wr 3 1 o j (refsCells (A.take j)) ∧ ∀ q ∈ o.ownBlock.toList, w.heap.size ≤ q) (fun _ i _ => m - (intOf i).toNat)
  case atStart => exact ⟨0, by omega, rfl, Ch.refl _ _, ⟨rfl, .inl ⟨rfl, rfl⟩⟩, by simp⟩
  case round =>
    obtain ⟨j, hj, rfl, hc, hrow, hlo⟩ := hrel
    obtain ⟨oa, oc, rfl⟩ := row.shape hrow
    have HROW := Lib.hid hrow; clear hrow
    by_cases hlt : j < m
    · obtain ⟨x, hx⟩ : ∃ x, I[j]? = some x := ⟨_, List.getElem?_eq_getElem (by rw [HM.out]; exact hlt)⟩
      have hxb := HLT.out x (List.mem_of_getElem? hx)
      have hsn := HSN.out j x hx
      obtain ⟨b1, o1, rfl, c0⟩ := (HI.out.ch hc (by simp)).cells j (.int .u64 x) (u64s_get hx)
      obtain ⟨q, hq⟩ : ∃ q, x / 2 ^ k = q := ⟨_, rfl⟩
      have hqb := half_bit x k
      obtain ⟨b, hb⟩ : ∃ b, (x.testBit k).toNat = b := ⟨_, rfl⟩
      rw [hb] at hsn hqb
      rw [hq] at hqb
      have hqx : q ≤ x := by rw [← hq]; exact Nat.div_le_self _ _
      have e1 : ∀ [Nonempty Unit], (x : Int) / 2 ^ k = (q : Int) := by rw [← hq]; simp
      have e2 : (q : Int) % 2 = (b : Int) := by omega
      have hbb : b ≤ 1 := by omega
      have HC := Lib.hid hc; clear hc
      have HLO := Lib.hid hlo; clear hlo
      have HSU := Lib.hid hsn; clear hsn
      clear hq hb hqb hx
      have hcA : Ch [] wr (wr.alloc (.cells #[.int .i64 b] 3)) := (Ch.refl _ _).alloc _
      have hrA := HROW.out.ch hcA (by simp)
      have hbA : blk (wr.alloc (.cells #[.int .i64 b] 3)) wr.heap.size [.int .i64 b] := blk.new' _ _ rfl
      have HRA := Lib.hid hrA; clear hrA
      have HBA := Lib.hid hbA; clear hbA
      have HCA := Lib.hid hcA; clear hcA
      go_wp2_with (at_builtin; go_loud (refine wpList_append_row slInts rfl _ _ rfl (v := .slice oa j oc) (n := j) (xs := refsCells (A.take j)) rfl HRA.out (ad := ⟨wr.heap.size, 0, none⟩) (m := 1) (c := 1) (news := [.int .i64 b]) rfl rfl (news_blk HBA.out) (by simp [Value.oneCell']) (by omega) (by omega) ?_; intro v' w4 hown4 hC4 hf4; have HO4 := Lib.hid hown4; clear hown4; have HC4 := Lib.hid hC4; clear hC4; have HF4 := Lib.hid hf4; clear hf4))
      go_roundw
      case rel =>
        obtain ⟨q1, q2'⟩ := app_step HC.out HCA.out HLO.out HC4.out HF4.out
        refine ⟨j + 1, by omega, by go_num, q1, ?_, q2'⟩
        rw [HSU.out, show refsCells (A.take j ++ [b]) = refsCells (A.take j) ++ [.int .i64 b] by simp [refsCells]]
        exact HO4.out
      case measure => simp [intOf]; omega
    · have hkn : j = m := by omega
      subst hkn
      have hrow := HROW.out
      rw [List.take_of_length_le (by rw [HAL.out]; omega)] at hrow
      have HR := Lib.hid hrow; clear hrow HROW
      have HC := Lib.hid hc; clear hc
      have HLO := Lib.hid hlo; clear hlo
      go_wp2_with fail
      go_ret
      exact ⟨_, rfl, HR.out, HLO.out, HC.out⟩
end
end Go.Proofs.Ytnmfdiiehkkjcaa
namespace Go.Aig
/-- the numbers for which something is true -/
def trueL (n : Nat) (p : Nat → Bool) : List Nat := (List.range (2 ^ n)).filter p
theorem filter_succ (p : Nat → Bool) (x : Nat) : (List.range (x + 1)).filter p = (List.range x).filter p ++ (if p x then [x] else []) := by
  rw [List.range_succ, List.filter_append]
  congr 1
  cases h : p x <;> simp [h]
theorem filter_len_le (p : Nat → Bool) (x : Nat) : ((List.range x).filter p).length ≤ x := by
  have := List.length_filter_le p (List.range x)
  rwa [List.length_range] at this
end Go.Aig
namespace Go.Proofs.Ytnmfdiiehkkjcaa
open Go.RowKit Go.Mem Go.Aig
section
variable {w : World}
theorem tell_val {ns : List Nd} {n r : Nat} (x : Nat) : wref 1 (valsN (asgN n x) ns) r = (tellR ns n r x).toNat := by
  rw [vals_bv (asgN_le n x), asgN_bits]
  rfl
set_option maxRecDepth 100000 in
set_option maxHeartbeats 2000000 in
theorem r21True_is {rb cap : Nat} {G : Gra} (h : RG w rb cap G) {n : Nat} (hn : (inputs G.nodes).length = n) (hn17 : n ≤ 17) (r : Nat) (hr : r < 2 * G.nodes.length) :
    Calls Try.prog 74 #[.agg #[.int .i64 G.most, .slice (some ⟨rb, 0, none⟩) G.nodes.length cap], .int .i64 r] w fun e w' => ∃ v, e = .returned v ∧ row w' 3 1 v (trueL n (tellR G.nodes n r)).length (refsCells (trueL n (tellR G.nodes n r))) ∧ (∀ q ∈ v.ownBlock.toList, w.heap.size ≤ q) ∧ Ch [] w w' := by
  obtain ⟨hl, hp, hmo⟩ := h.len
  have hVAL := fun (W : World) (hW : Ch [] w W) (x : Nat) (xa : Option Addr) (xc : Nat) (hI : Sv W xa (refsCells (asgN n x))) => r21Value_is (h.ch hW (by simp)) (xa := xa) n xc (asgN_len n x) hI (asgN_le n x) (by omega) r hr
  simp only [tell_val] at hVAL
  have hIN := fun (W : World) (hW : Ch [] w W) => rInputs_is (h.ch hW (by simp))
  simp only [hn] at hIN
  have hAS := fun (W : World) (x : Nat) (hx : x ≤ 9223372036854775807) => r21Assignment_is (w := W) n x (by omega) hx
  obtain ⟨P, hP⟩ : ∃ P : Nat → Nat, P = fun k => 2 ^ k := ⟨_, rfl⟩
  have hP0 : P 0 = 1 := by rw [hP]
  have hPs : ∀ k, P (k + 1) = 2 * P k := fun k => by rw [hP]; exact Nat.pow_succ'
  have hPb : ∀ k, k ≤ 17 → P k ≤ 131072 := fun k hk => by
    rw [hP]
    have : (2 : Nat) ^ k ≤ 2 ^ 17 := Nat.pow_le_pow_right (by omega) hk
    exact this
  have hPn : trueL n (tellR G.nodes n r) = (List.range (P n)).filter (tellR G.nodes n r) := by rw [hP]; rfl
  rw [hPn]
  have hrb : r ≤ 200000 := by omega
  clear h hP hPn hn hr
  generalize tellR G.nodes n r = p at *
  have HVAL := Lib.hid hVAL; clear hVAL
  have HIN := Lib.hid hIN; clear hIN
  have HAS := Lib.hid hAS; clear hAS
  have HP0 := Lib.hid hP0; clear hP0
  have HPS := Lib.hid hPs; clear hPs
  have HPB := Lib.hid hPb; clear hPb
  go_enter Try.func74, Try.ntmps74
  go_wp2_with fail
  refine calls_named fun W0 hW0 => ?_
  have hc0 : Ch [] w W0 := by rw [hW0]; exact (Ch.refl _ _).alloc _
  have b2 : blk W0 w.heap.size [.int .i64 G.most, .slice (some ⟨rb, 0, none⟩) G.nodes.length cap] := by rw [hW0]; exact blk.new' (w := w) [.int .i64 G.most, .slice (some ⟨rb, 0, none⟩) G.nodes.length cap] 115 rfl
  clear hW0
  refine (HIN.out W0 hc0).mono ?_
  rintro e w1 ⟨v, rfl, hrow, _, hc1⟩
  obtain ⟨ia, ic, rfl⟩ := row.shape hrow
  have B2 := Lib.hid (b2.ch hc1 (by simp)); clear b2
  have HC1 := Lib.hid (hc0.trans hc1 (by simp)); clear hc0 hc1 hrow HIN
  generalize w.heap.size = bx at B2 ⊢
  go_wp2_with fail
  go_loopw [6, 7] (fun q i wr => ∃ k : Nat, k ≤ n ∧ i = .int .i64 k ∧ q = .int .i64 (P k : Nat) ∧ w1 = wr) (fun _ i _ => n - (intOf i).toNat)
  case atStart => exact ⟨0, by omega, rfl, by rw [HP0.out]; rfl, rfl⟩
  case round =>
    obtain ⟨k, hk, rfl, rfl, rfl⟩ := hrel
    by_cases hlt : k < n
    · have hps := HPS.out k
      have hpb := HPB.out k (by omega)
      obtain ⟨q, hq⟩ : ∃ q, P k = q := ⟨_, rfl⟩
      rw [hq] at hps hpb ⊢
      have HPK := Lib.hid hps; clear hps hq
      go_wp2_with fail
      go_roundw
      case rel => exact ⟨k + 1, by omega, by go_num, by rw [HPK.out]; go_num, trivial⟩
      case measure => simp [intOf]; omega
    · have hkn : k = n := by omega
      subst hkn
      have hDb := HPB.out k hn17
      obtain ⟨D, hD⟩ : ∃ D, P k = D := ⟨_, rfl⟩
      rw [hD] at hDb ⊢
      have HD := Lib.hid hD; clear hD
      clear HPB HPS HP0
      go_wp2_with fail
      go_loopw [8, 9] (fun o i wr => ∃ x : Nat, x ≤ D ∧ i = .int .i64 x ∧ Ch [] w1 wr ∧ row wr 3 1 o ((List.range x).filter p).length (refsCells ((List.range x).filter p)) ∧ ∀ q ∈ o.ownBlock.toList, w1.heap.size ≤ q) (fun _ i _ => D - (intOf i).toNat)
      case atStart => exact ⟨0, by omega, rfl, Ch.refl _ _, ⟨rfl, .inl ⟨rfl, rfl⟩⟩, by simp⟩
      case round =>
        obtain ⟨x, hx, rfl, hc, hrow, hlo⟩ := hrel
        obtain ⟨oa, oc, rfl⟩ := row.shape hrow
        by_cases hlt2 : x < D
        · have hfs := filter_succ p x
          have hfl := filter_len_le p x
          generalize hLx : (List.range x).filter p = Lx at *
          have HFS := Lib.hid hfs; clear hfs hLx
          have HROW := Lib.hid hrow; clear hrow
          have HLO := Lib.hid hlo; clear hlo
          have bR := B2.out.ch hc (by simp)
          have HBR := Lib.hid bR
          have cx0 := bR.cell (i := 0) rfl
          have cx1 := bR.cell (i := 1) rfl
          have HC := Lib.hid hc; clear hc bR
          go_wp2_with fail
          refine Ord.St.door (fun w' => w'.cell? ⟨bx, 0, none⟩ = some (.int .i64 G.most) ∧ w'.cell? ⟨bx, 1, none⟩ = some (.slice (some ⟨rb, 0, none⟩) G.nodes.length cap)) [.ho, .fl, .fl, .ef, .fl, .ef, .fl] [0, 0, 0, 6, 0, 31, 63] [0, 1, 2, 3, 4, 5, 6] mixed (by kernel_rfl) rfl ?_
          obtain ⟨Wc, hWc⟩ : ∃ Wc, Wc = wr.drew := ⟨_, rfl⟩
          rw [← hWc]
          have hcc : Ch [] wr Wc := by rw [hWc]; exact (Ch.refl _ _).drew
          clear hWc cx0 cx1
          have HCC := Lib.hid hcc
          have cx0 := (HBR.out.ch hcc (by simp)).cell (i := 0) rfl
          have cx1 := (HBR.out.ch hcc (by simp)).cell (i := 1) rfl
          clear hcc
          refine Ord.St.ho2 (T' := ?_) 0 [1, 2, 3, 4, 5, 6] _ _ rfl (by kernel_rfl) rfl rfl rfl rfl ?_ (fun K w' hw' hk => ?_) ?_
          rotate_left
          · exact ⟨cx0, cx1⟩
          · obtain ⟨q1, q2⟩ := hw'; go_step; exact hk
          refine Ord.St.fl2 (T' := ?_) 1 [2, 3, 4, 5, 6] _ _ rfl (by kernel_rfl) rfl rfl rfl rfl (fun K w' hk => ?_) ?_
          rotate_left
          · go_step; exact hk
          refine Ord.St.fl2 (T' := ?_) 2 [3, 4, 5, 6] _ _ rfl (by kernel_rfl) rfl rfl rfl rfl (fun K w' hk => ?_) ?_
          rotate_left
          · go_step; exact hk
          refine Ord.St.fl2 (T' := ?_) 4 [3, 5, 6] _ _ rfl (by kernel_rfl) rfl rfl rfl rfl (fun K w' hk => ?_) ?_
          rotate_left
          · go_step; exact hk
          refine Ord.St.efC 3 [5, 6] _ rfl (by kernel_rfl) (fun K hK => ?_)
          go_wp2_with fail
          refine (HAS.out Wc x (by omega)).mono ?_
          rintro e w3 ⟨v, rfl, hrw, _, hc3⟩
          obtain ⟨aa, ac, rfl⟩ := row.shape hrw
          have hsv := row.sv hrw rfl (by omega)
          have HSV := Lib.hid hsv
          have HCD := Lib.hid (HCC.out.trans hc3 (by simp))
          clear hrw hsv hc3 cx0 cx1
          have cx0 := (HBR.out.ch HCD.out (by simp)).cell (i := 0) rfl
          have cx1 := (HBR.out.ch HCD.out (by simp)).cell (i := 1) rfl
          go_wp2_with fail
          refine ⟨rfl, hK _ _ ?_ ?_⟩
          · exact ⟨cx0, cx1⟩
          clear hK K
          refine Ord.St.ef 5 [6] _ rfl (by kernel_rfl) (fun K hK => ?_)
          have hvv := HVAL.out w3 ((HC1.out.trans HC.out (by simp)).trans HCD.out (by simp)) x aa ac HSV.out
          obtain ⟨pb, hpb⟩ : ∃ pb, p x = pb := ⟨_, rfl⟩
          rw [hpb] at hvv
          have HVV := Lib.hid hvv
          have hfs := HFS.out
          rw [hpb] at hfs
          have HFS2 := Lib.hid hfs
          clear hvv hpb hfs HFS
          go_wp2_with fail
          refine HVV.out.mono ?_
          rintro e w4 ⟨rfl, hc4⟩
          have HCE := Lib.hid (HCD.out.trans hc4 (by simp))
          clear hc4 HVV cx0 cx1
          go_wp2_with fail
          refine ⟨rfl, hK _ _ ?_⟩; clear hK K
          refine Ord.St.fl2 (T' := ?_) 6 [] _ _ rfl (by kernel_rfl) rfl rfl rfl rfl (fun K w' hk => ?_) ?_
          rotate_left
          · go_step; exact hk
          refine Ord.St.nil ?_
          cases pb
          · go_wp2_with fail
            go_roundw
            case rel => exact ⟨x + 1, by omega, by go_num, HC.out.trans HCE.out (by simp), by rw [HFS2.out]; simpa using HROW.out.ch HCE.out (by simp), HLO.out⟩
            case measure => simp [intOf]; omega
          · have hcA : Ch [] w4 (w4.alloc (.cells #[.int .i64 x] 3)) := (Ch.refl _ _).alloc _
            have hrA := (HROW.out.ch HCE.out (by simp)).ch hcA (by simp)
            have hbA : blk (w4.alloc (.cells #[.int .i64 x] 3)) w4.heap.size [.int .i64 x] := blk.new' _ _ rfl
            have HRA := Lib.hid hrA; clear hrA
            have HBA := Lib.hid hbA; clear hbA
            have HCA := Lib.hid hcA; clear hcA
            go_wp2_with (at_builtin; go_loud (refine wpList_append_row slInts rfl _ _ rfl (v := .slice oa Lx.length oc) (n := Lx.length) (xs := refsCells Lx) rfl HRA.out (ad := ⟨w4.heap.size, 0, none⟩) (m := 1) (c := 1) (news := [.int .i64 x]) rfl rfl (news_blk HBA.out) (by simp [Value.oneCell']) (by omega) (by omega) ?_; intro v' w5 hown4 hC4 hf4; have HO4 := Lib.hid hown4; clear hown4; have HC4 := Lib.hid hC4; clear hC4; have HF4 := Lib.hid hf4; clear hf4))
            go_roundw
            case rel =>
              obtain ⟨q1, q2⟩ := app_step (HC.out.trans HCE.out (by simp)) HCA.out HLO.out HC4.out HF4.out
              refine ⟨x + 1, by omega, by go_num, q1, ?_, q2⟩
              rw [HFS2.out, if_pos rfl, show refsCells (Lx ++ [x]) = refsCells Lx ++ [.int .i64 x] by simp [refsCells], List.length_append]
              exact HO4.out
            case measure => simp [intOf]; omega
        · have hxD : x = D := by omega
          subst hxD
          have HROW := Lib.hid hrow; clear hrow
          have HLO := Lib.hid hlo; clear hlo
          have HC := Lib.hid hc; clear hc
          go_wp2_with fail
          go_ret
          refine ⟨_, rfl, ?_, fun q hq => Nat.le_trans HC1.out.size (HLO.out q hq), HC1.out.trans HC.out (by simp)⟩
          rw [HD.out]
          exact HROW.out
end
end Go.Proofs.Ytnmfdiiehkkjcaa
namespace Go.Proofs.Ytnmfdiiehkkjcaa
open Go.RowKit Go.Mem Go.Aig
theorem badIn_range {G : Gra} {m : Nat} (h : m ≤ 2 * G.nodes.length) : badIn G (natInts (List.range m)) = false := by
  unfold badIn natInts
  rw [List.any_map, List.any_eq_false]
  intro r hr
  have := List.mem_range.1 hr
  simp [right]
  omega
theorem nats_natInts (l : List Nat) : nats (natInts l) = l := toNats l
/-- the words of the first references -/
def allW (V : List Nat) (m : Nat) : List Nat := (List.range m).map (wref U64 V)
theorem allW_len (V : List Nat) (m : Nat) : (allW V m).length = m := by simp [allW]
theorem allW_at (V : List Nat) {m r : Nat} (h : r < m) : (allW V m)[r]? = some (wref U64 V r) := by
  unfold allW
  rw [List.getElem?_map, List.getElem?_range h]
  rfl
theorem range_snoc2 (k : Nat) : List.range (2 * (k + 1)) = List.range (2 * k) ++ [2 * k, 2 * k + 1] := by
  rw [show 2 * (k + 1) = 2 * k + 1 + 1 by omega, List.range_succ, List.range_succ, List.append_assoc]
  rfl
theorem words_all {G : Gra} {I : List Nat} (hI : I.length = (inputs G.nodes).length) {m : Nat} (h : m ≤ 2 * G.nodes.length) : wordsR G I (natInts (List.range m)) = (allW (wvF U64 I G.nodes).1 m, 0) := by
  unfold wordsR
  rw [badIn_range h, if_neg (by simp), if_neg (by simpa using hI), nats_natInts]
  rfl
theorem bits_words {G : Gra} {I : List Nat} (hI : I.length = (inputs G.nodes).length) {l : List Int} (hb : badIn G l = false) {kk : Nat} (hk : kk < 64) : bitsR G (I.map fun v => v.testBit kk) l = ((wsOf I G.nodes (nats l)).map fun v => v.testBit kk, 0) := by
  unfold bitsR
  rw [hb, if_neg (by simp), if_neg (by simpa using hI)]
  congr 1
  unfold bsOf wsOf
  rw [List.map_map]
  apply List.map_congr_left
  intro r _
  have := wv_bv (N := 64) hk I G.nodes r
  rw [u64_pow] at this
  show _ = (wref 18446744073709551615 (wvF 18446744073709551615 I G.nodes).1 r).testBit kk
  rw [this]
  congr 1
  funext i
  rw [List.getD_eq_getElem?_getD, List.getD_eq_getElem?_getD, List.getElem?_map]
  cases I[i]? <;> simp
end Go.Proofs.Ytnmfdiiehkkjcaa
namespace Go.Aig
theorem tabE_zero {G : Gra} {l : List Nat} (hr : ∀ r ∈ l, r < 2 * G.nodes.length) (hk : (inputs G.nodes).length ≤ 16) : Go.Proofs.Ytnmfdiiehkkjcaa.tabE G (natInts l) = 0 := by
  have hb : badIn G (natInts l) = false := by
    unfold badIn natInts
    rw [List.any_map, List.any_eq_false]
    intro r h
    have := hr r h
    simp [right]
    omega
  unfold Go.Proofs.Ytnmfdiiehkkjcaa.tabE
  rw [hb, if_neg (by simp), if_neg (by omega)]
theorem table_ok {G : Gra} {r k : Nat} (hr : r < 2 * G.nodes.length) (hk : (inputs G.nodes).length = k) (h16 : k ≤ 16) : Go.Proofs.Ytnmfdiiehkkjcaa.tableR G (r : Int) = (tabW G.nodes (Go.Proofs.Ytnmfdiiehkkjcaa.oneF r) k, 0) := by
  have h := tabE_zero (G := G) (l := [r]) (by simpa using hr) (by omega)
  unfold Go.Proofs.Ytnmfdiiehkkjcaa.tableR
  rw [show [(r : Int)] = natInts [r] from rfl, h, if_pos rfl, hk]
theorem count_ok {G : Gra} {r k : Nat} (hr : r < 2 * G.nodes.length) (hk : (inputs G.nodes).length = k) (h16 : k ≤ 16) : Go.Proofs.Ytnmfdiiehkkjcaa.countR G (r : Int) = (countV k (tellR G.nodes k r), 0) := by
  have h := tabE_zero (G := G) (l := [r]) (by simpa using hr) (by omega)
  unfold Go.Proofs.Ytnmfdiiehkkjcaa.countR
  rw [show [(r : Int)] = natInts [r] from rfl, h, if_pos rfl, hk]
  rfl
theorem first_ok {G : Gra} {r k : Nat} (hr : r < 2 * G.nodes.length) (hk : (inputs G.nodes).length = k) (h16 : k ≤ 16) : Go.Proofs.Ytnmfdiiehkkjcaa.firstG G (r : Int) = (firstR k (tellR G.nodes k r), 0) := by
  have h := tabE_zero (G := G) (l := [r]) (by simpa using hr) (by omega)
  unfold Go.Proofs.Ytnmfdiiehkkjcaa.firstG
  rw [show [(r : Int)] = natInts [r] from rfl, h, if_pos rfl, hk]
  rfl
theorem parts_ok {G : Gra} {r s k : Nat} (hr : r < 2 * G.nodes.length) (hs : s < 2 * G.nodes.length) (hk : (inputs G.nodes).length = k) (h16 : k ≤ 16) : Go.Proofs.Ytnmfdiiehkkjcaa.partsG G (r : Int) (s : Int) = (firstR k (tellX G.nodes k r s), 0) := by
  have h := tabE_zero (G := G) (l := [r, s]) (by intro x hx; simp only [List.mem_cons, List.not_mem_nil, or_false] at hx; rcases hx with rfl | rfl <;> assumption) (by omega)
  unfold Go.Proofs.Ytnmfdiiehkkjcaa.partsG
  rw [show [(r : Int), (s : Int)] = natInts [r, s] from rfl, h, if_pos rfl, hk]
  rfl
theorem tellR_neg (ns : List Nd) (k r : Nat) : tellR ns k (neg r) = fun a => !tellR ns k r a := by
  funext a
  unfold tellR
  rw [bv_neg]
theorem firstR_len (k : Nat) (p : Nat → Bool) : (firstR k p).1.length = if (firstR k p).2 then k else 0 := by
  unfold firstR
  cases firstV k p with
  | none => rfl
  | some a => simp [asgBits_len]
theorem firstR_is (k : Nat) (p : Nat → Bool) : (firstR k p).2 = decide (0 < countV k p) := by
  cases h : firstV k p with
  | none =>
    have h2 := firstV_none.1 h
    have : ¬ 0 < countV k p := fun h0 => by
      obtain ⟨a, h1, h3⟩ := (countV_pos k p).1 h0
      rw [h2 a h1] at h3; cases h3
    unfold firstR
    rw [h, decide_eq_false this]
  | some a =>
    obtain ⟨h1, h2, _⟩ := firstV_some h
    have : 0 < countV k p := (countV_pos k p).2 ⟨a, h1, h2⟩
    unfold firstR
    rw [h, decide_eq_true this]
/-- the first number below a of which p is true; -1 if there is none -/
def fstI (p : Nat → Bool) (a : Nat) : Int := match (List.range a).find? p with
  | none => -1
  | some x => x
theorem fstI_succ (p : Nat → Bool) (a : Nat) : fstI p (a + 1) = if fstI p a < 0 ∧ p a = true then (a : Int) else fstI p a := by
  unfold fstI
  rw [List.range_succ, List.find?_append]
  cases h : (List.range a).find? p with
  | none =>
    cases hp : p a with
    | false => simp [hp]
    | true => simp [hp]
  | some x => simp; omega
theorem fstI_lt (p : Nat → Bool) (a : Nat) : fstI p a < a ∧ -1 ≤ fstI p a := by
  unfold fstI
  cases h : (List.range a).find? p with
  | none => simp; omega
  | some x =>
    have := List.mem_of_find?_eq_some h
    have := List.mem_range.1 this
    simp; omega
theorem fstI_neg {p : Nat → Bool} {a : Nat} (h : fstI p a < 0) : ∀ b, b < a → p b = false := by
  unfold fstI at h
  cases hf : (List.range a).find? p with
  | none =>
    intro b hb
    have := List.find?_eq_none.1 hf b (List.mem_range.2 hb)
    simpa using this
  | some x => rw [hf] at h; simp at h; omega
theorem cnt_succ (p : Nat → Bool) (a : Nat) : ((List.range (a + 1)).filter p).length = ((List.range a).filter p).length + (p a).toNat := by
  rw [List.range_succ, List.filter_append, List.length_append]
  cases h : p a <;> simp [h]
end Go.Aig
namespace Go.Proofs.Ytnmfdiiehkkjcaa
open Go.RowKit Go.Mem Go.Aig
theorem tab_bit64 {T : List Nat} {n : Nat} {p : Nat → Bool} (h : TabOf T n p) (hT : ∀ v ∈ T, v < 2 ^ 64) {a : Nat} (ha : a < 2 ^ n) : ∃ x, T[a / 64]? = some x ∧ (bits .and .u64 ((x : Int) / 2 ^ (a % 64)) 1 == 1) = p a := by
  have hle := blocks_le n
  have hl : a / 64 < T.length := by rw [h.len]; omega
  refine ⟨T[a / 64], List.getElem?_eq_getElem hl, ?_⟩
  rw [bit_u64 _ _ (hT _ (List.getElem_mem hl)), ← h.at' a ha]
  unfold tbit
  rw [List.getD_eq_getElem?_getD, List.getElem?_eq_getElem hl]
  rfl
theorem bits_one {G : Gra} {k a r : Nat} (hk : (inputs G.nodes).length = k) (hr : r < 2 * G.nodes.length) : bitsR G (asgBits k a) [(r : Int)] = ([tellR G.nodes k r a], 0) := by
  have hb : badIn G (natInts [r]) = false := by
    unfold badIn natInts
    simp [right]
    omega
  unfold bitsR
  rw [show [(r : Int)] = natInts [r] from rfl, hb, if_neg (by simp), if_neg (by rw [asgBits_len, hk]; simp), nats_natInts]
  unfold bsOf tellR
  rw [asgBits_at]
  rfl
theorem Eqbool_c {w : World} {a b : Option Addr} {xs ys : List Bool} {n m ca cb : Nat} (hx : Sb w a xs) (hy : Sb w b ys) (hn : xs.length = n) (hm : ys.length = m) {q : Bool} (hq : decide (xs = ys) = q) :
    Calls Try.prog 25 #[.slice a n ca, .slice b m cb] w fun e w' => e = .returned (.bool q) ∧ Ch [] w w' := by
  subst hn hm hq
  exact Eqbool_is ca cb hx hy
end Go.Proofs.Ytnmfdiiehkkjcaa
namespace Go.Aig
theorem filter_at (p : Nat → Bool) : ∀ (N k z : Nat), ((List.range N).filter p)[k]? = some z → p z = true ∧ z < N ∧ ((List.range N).filter p).take k = (List.range z).filter p
  | 0, k, z, h => by simp at h
  | N + 1, k, z, h => by
    rw [filter_succ] at h ⊢
    by_cases hk : k < ((List.range N).filter p).length
    · rw [List.getElem?_append_left hk] at h
      obtain ⟨h1, h2, h3⟩ := filter_at p N k z h
      exact ⟨h1, by omega, by rw [List.take_append_of_le_length (by omega)]; exact h3⟩
    · rw [List.getElem?_append_right (by omega)] at h
      by_cases hp : p N = true
      · rw [if_pos hp] at h
        have hlt := (List.getElem?_eq_some_iff.1 h).1
        simp only [List.length_cons, List.length_nil] at hlt
        have e : k - ((List.range N).filter p).length = 0 := by omega
        rw [e] at h
        have hz : N = z := by simpa using h
        subst hz
        refine ⟨hp, by omega, ?_⟩
        rw [List.take_append_of_le_length (by omega), List.take_of_length_le (by omega)]
      · rw [if_neg hp] at h
        simp at h
theorem mem_filter_range {p : Nat → Bool} {z j : Nat} : j ∈ (List.range z).filter p ↔ j < z ∧ p j = true := by rw [List.mem_filter, List.mem_range]
/-- the first number for which two are not the same, -1 if there is none -/
def partL (n : Nat) (p q : Nat → Bool) : Int := match firstV n (fun k => p k ^^ q k) with
  | none => -1
  | some x => x
theorem partL_some {n d : Nat} {p q : Nat → Bool} (hd : d < 2 ^ n) (h1 : p d ≠ q d) (h2 : ∀ j, j < d → p j = q j) : partL n p q = d := by
  have : firstV n (fun k => p k ^^ q k) = some d := by
    unfold firstV
    refine find_range _ d ?_ (fun b hb => ?_) _ hd
    · cases h3 : p d <;> cases h4 : q d <;> simp_all
    · rw [h2 b hb, Bool.xor_self]
  unfold partL
  rw [this]
section
variable {n k z u : Nat} {p q : Nat → Bool} (ht : (trueL n p).take k = (trueL n q).take k)
include ht
theorem part_both (hx : (trueL n p)[k]? = some z) (hy : (trueL n q)[k]? = some u) (hne : z ≠ u) : partL n p q = (min z u : Nat) := by
  obtain ⟨a1, a2, a3⟩ := filter_at p _ k z hx
  obtain ⟨b1, b2, b3⟩ := filter_at q _ k u hy
  have ht' : (List.range z).filter p = (List.range u).filter q := by rw [← a3, ← b3]; exact ht
  have key : ∀ j, (j < z ∧ p j = true) ↔ (j < u ∧ q j = true) := fun j => by rw [← mem_filter_range, ← mem_filter_range, ht']
  have hb : ∀ j, j < min z u → p j = q j := fun j hj => by
    have := key j
    cases h3 : p j <;> cases h4 : q j <;> simp_all <;> omega
  refine partL_some (by omega) ?_ hb
  by_cases hzu : z < u
  · rw [Nat.min_eq_left (by omega), a1]
    intro e
    have := (key z).2 ⟨hzu, e.symm⟩
    omega
  · rw [Nat.min_eq_right (by omega), b1]
    intro e
    have := (key u).1 ⟨by omega, e⟩
    omega
theorem part_right (hx : (trueL n p).length = k) (hy : (trueL n q)[k]? = some u) : partL n p q = u := by
  obtain ⟨b1, b2, b3⟩ := filter_at q _ k u hy
  have ht' : (List.range (2 ^ n)).filter p = (List.range u).filter q := by
    rw [← b3]
    have := ht
    rw [List.take_of_length_le (by omega)] at this
    exact this
  have key : ∀ j, (j < 2 ^ n ∧ p j = true) ↔ (j < u ∧ q j = true) := fun j => by rw [← mem_filter_range, ← mem_filter_range, ht']
  refine partL_some b2 ?_ (fun j hj => ?_)
  · rw [b1]
    intro e
    have := (key u).1 ⟨b2, e⟩
    omega
  · have := key j
    cases h3 : p j <;> cases h4 : q j <;> simp_all <;> omega
theorem part_left (hy : (trueL n q).length = k) (hx : (trueL n p)[k]? = some z) : partL n p q = z := by
  obtain ⟨b1, b2, b3⟩ := filter_at p _ k z hx
  have ht' : (List.range z).filter p = (List.range (2 ^ n)).filter q := by
    rw [← b3]
    have := ht
    rw [List.take_of_length_le (l := trueL n q) (by omega)] at this
    exact this
  have key : ∀ j, (j < z ∧ p j = true) ↔ (j < 2 ^ n ∧ q j = true) := fun j => by rw [← mem_filter_range, ← mem_filter_range, ht']
  refine partL_some b2 ?_ (fun j hj => ?_)
  · rw [b1]
    intro e
    have := (key z).2 ⟨b2, e.symm⟩
    omega
  · have := key j
    cases h3 : p j <;> cases h4 : q j <;> simp_all <;> omega
theorem part_none (hx : (trueL n p).length = k) (hy : (trueL n q).length = k) : partL n p q = -1 := by
  have ht' : (List.range (2 ^ n)).filter p = (List.range (2 ^ n)).filter q := by
    have := ht
    rw [List.take_of_length_le (by omega), List.take_of_length_le (by omega)] at this
    exact this
  have key : ∀ j, (j < 2 ^ n ∧ p j = true) ↔ (j < 2 ^ n ∧ q j = true) := fun j => by rw [← mem_filter_range, ← mem_filter_range, ht']
  have : firstV n (fun k => p k ^^ q k) = none := firstV_none.2 fun j hj => by
    have := key j
    cases h3 : p j <;> cases h4 : q j <;> simp_all
  unfold partL
  rw [this]
end
end Go.Aig
namespace Go.Proofs.Ytnmfdiiehkkjcaa
open Go.RowKit Go.Mem Go.Aig
section
variable {w : World}
theorem takeR_succ {xs ys : List Nat} {k x y : Nat} (h : xs.take k = ys.take k) (hx : xs[k]? = some x) (hy : ys[k]? = some y) (e : x = y) : xs.take (k + 1) = ys.take (k + 1) := by
  rw [List.take_add_one, List.take_add_one, h, hx, hy, e]
set_option maxRecDepth 100000 in
set_option maxHeartbeats 2000000 in
theorem r21Parted_is {rb cap : Nat} {G : Gra} (h : RG w rb cap G) {n : Nat} (hn : (inputs G.nodes).length = n) (hn17 : n ≤ 17) (r s : Nat) (hr : r < 2 * G.nodes.length) (hs : s < 2 * G.nodes.length) :
    Calls Try.prog 76 #[.agg #[.int .i64 G.most, .slice (some ⟨rb, 0, none⟩) G.nodes.length cap], .int .i64 r, .int .i64 s] w fun e w' => e = .returned (.int .i64 (partL n (tellR G.nodes n r) (tellR G.nodes n s))) ∧ Ch [] w w' := by
  have hT1 := fun (W : World) (hW : Ch [] w W) => r21True_is (h.ch hW (by simp)) hn hn17 r hr
  have hT2 := fun (W : World) (hW : Ch [] w W) => r21True_is (h.ch hW (by simp)) hn hn17 s hs
  have hD : (2 : Nat) ^ n ≤ 131072 := Nat.pow_le_pow_right (by omega) hn17
  have hxl := filter_len_le (tellR G.nodes n r) (2 ^ n)
  have hyl := filter_len_le (tellR G.nodes n s) (2 ^ n)
  have hxm : ∀ z ∈ trueL n (tellR G.nodes n r), z < 2 ^ n := fun z hz => List.mem_range.1 (List.mem_filter.1 hz).1
  have hym : ∀ z ∈ trueL n (tellR G.nodes n s), z < 2 ^ n := fun z hz => List.mem_range.1 (List.mem_filter.1 hz).1
  have q1 := fun {k z u} => @part_both n k z u (tellR G.nodes n r) (tellR G.nodes n s)
  have q2 := fun {k u} => @part_right n k u (tellR G.nodes n r) (tellR G.nodes n s)
  have q3 := fun {k z} => @part_left n k z (tellR G.nodes n r) (tellR G.nodes n s)
  have q4 := fun {k} => @part_none n k (tellR G.nodes n r) (tellR G.nodes n s)
  change (trueL n (tellR G.nodes n r)).length ≤ 2 ^ n at hxl
  change (trueL n (tellR G.nodes n s)).length ≤ 2 ^ n at hyl
  obtain ⟨m, hm⟩ : ∃ m, partL n (tellR G.nodes n r) (tellR G.nodes n s) = m := ⟨_, rfl⟩
  rw [hm]
  simp only [hm] at q1 q2 q3 q4
  obtain ⟨X, hX⟩ : ∃ X, trueL n (tellR G.nodes n r) = X := ⟨_, rfl⟩
  obtain ⟨Y, hY⟩ : ∃ Y, trueL n (tellR G.nodes n s) = Y := ⟨_, rfl⟩
  simp only [hX] at hT1 hxl hxm q1 q2 q3 q4
  simp only [hY] at hT2 hyl hym q1 q2 q3 q4
  replace hxl : X.length ≤ 131072 := by omega
  replace hyl : Y.length ≤ 131072 := by omega
  replace hxm : ∀ z ∈ X, z < 131072 := fun z hz => by have := hxm z hz; omega
  replace hym : ∀ z ∈ Y, z < 131072 := fun z hz => by have := hym z hz; omega
  clear hX hY hm hr hs hD
  have HT1 := Lib.hid hT1; clear hT1
  have HT2 := Lib.hid hT2; clear hT2
  have HXM := Lib.hid hxm; clear hxm
  have HYM := Lib.hid hym; clear hym
  have Q1 := Lib.hid (fun (k z u : Nat) => q1 (k := k) (z := z) (u := u)); clear q1
  have Q2 := Lib.hid (fun (k u : Nat) => q2 (k := k) (u := u)); clear q2
  have Q3 := Lib.hid (fun (k z : Nat) => q3 (k := k) (z := z)); clear q3
  have Q4 := Lib.hid (fun (k : Nat) => q4 (k := k)); clear q4
  clear hn h
  go_enter Try.func76, Try.ntmps76
  go_wp2_with fail
  refine wp_named fun W0 hW0 => ?_
  have hc0 : Ch [] w W0 := by rw [hW0]; exact (Ch.refl _ _).alloc _
  have b2 : blk W0 w.heap.size [.int .i64 G.most, .slice (some ⟨rb, 0, none⟩) G.nodes.length cap] := by rw [hW0]; exact blk.new' (w := w) [.int .i64 G.most, .slice (some ⟨rb, 0, none⟩) G.nodes.length cap] 115 rfl
  clear hW0
  have cx0 := b2.cell (i := 0) rfl
  have cx1 := b2.cell (i := 1) rfl
  have HBR := Lib.hid b2; clear b2
  have HC0 := Lib.hid hc0; clear hc0
  generalize w.heap.size = bx at HBR cx0 cx1 ⊢
  go_upto_region 1 with fail
  go_cut [7, 8] (fun a b wd => ∃ xa xc ya yc, a = .slice xa X.length xc ∧ b = .slice ya Y.length yc ∧ Sv wd xa (refsCells X) ∧ Sv wd ya (refsCells Y) ∧ Ch [] w wd)
  case first =>
    refine Ord.St.door (fun w' => w'.cell? ⟨bx, 0, none⟩ = some (.int .i64 G.most) ∧ w'.cell? ⟨bx, 1, none⟩ = some (.slice (some ⟨rb, 0, none⟩) G.nodes.length cap)) [.rd, .fl, .ef, .ho, .fl, .ef, .fl, .fl] [0, 0, 3, 0, 0, 31, 63, 127] [0, 1, 2, 3, 4, 5, 6, 7] mixed (by kernel_rfl) rfl ?_
    obtain ⟨Wc, hWc⟩ : ∃ Wc, Wc = W0.drew := ⟨_, rfl⟩
    rw [← hWc]
    have hcc : Ch [] W0 Wc := by rw [hWc]; exact (Ch.refl _ _).drew
    clear hWc cx0 cx1
    have HCC := Lib.hid hcc
    have cx0 := (HBR.out.ch hcc (by simp)).cell (i := 0) rfl
    have cx1 := (HBR.out.ch hcc (by simp)).cell (i := 1) rfl
    clear hcc
    refine Ord.St.rd2 (T' := ?_) 0 [1, 2, 3, 4, 5, 6, 7] _ _ rfl (by kernel_rfl) rfl rfl rfl rfl (fun K hk => ?_) ?_
    rotate_left
    · go_step; exact hk
    refine Ord.St.fl2 (T' := ?_) 1 [2, 3, 4, 5, 6, 7] _ _ rfl (by kernel_rfl) rfl rfl rfl rfl (fun K w' hk => ?_) ?_
    rotate_left
    · go_step; exact hk
    refine Ord.St.ho2 (T' := ?_) 3 [2, 4, 5, 6, 7] _ _ rfl (by kernel_rfl) rfl rfl rfl rfl ?_ (fun K w' hw' hk => ?_) ?_
    rotate_left
    · exact ⟨cx0, cx1⟩
    · obtain ⟨q1, q2⟩ := hw'; go_step; exact hk
    refine Ord.St.fl2 (T' := ?_) 4 [2, 5, 6, 7] _ _ rfl (by kernel_rfl) rfl rfl rfl rfl (fun K w' hk => ?_) ?_
    rotate_left
    · go_step; exact hk
    refine Ord.St.efC 2 [5, 6, 7] _ rfl (by kernel_rfl) (fun K hK => ?_)
    go_wp2_with fail
    refine (HT1.out Wc (HC0.out.trans HCC.out (by simp))).mono ?_
    rintro e w3 ⟨v, rfl, hrw, _, hc3⟩
    obtain ⟨aa, ac, rfl⟩ := row.shape hrw
    have hsv := row.sv hrw rfl (by omega)
    have HSV := Lib.hid hsv
    have HCD := Lib.hid (HCC.out.trans hc3 (by simp))
    clear hrw hsv hc3 cx0 cx1
    have cx0 := (HBR.out.ch HCD.out (by simp)).cell (i := 0) rfl
    have cx1 := (HBR.out.ch HCD.out (by simp)).cell (i := 1) rfl
    go_wp2_with fail
    refine ⟨rfl, hK _ _ ?_ ?_⟩
    · exact ⟨cx0, cx1⟩
    clear hK K
    refine Ord.St.ef 5 [6, 7] _ rfl (by kernel_rfl) (fun K hK => ?_)
    go_wp2_with fail
    refine (HT2.out w3 (HC0.out.trans HCD.out (by simp))).mono ?_
    rintro e w4 ⟨v, rfl, hrw, _, hc4⟩
    obtain ⟨ab, ad, rfl⟩ := row.shape hrw
    have hsv := row.sv hrw rfl (by omega)
    have HSW := Lib.hid hsv
    have HCE := Lib.hid (HCD.out.trans hc4 (by simp))
    have HSX := Lib.hid (HSV.out.ch hc4 (by simp))
    clear hrw hsv hc4 cx0 cx1
    go_wp2_with fail
    refine ⟨rfl, hK _ _ ?_⟩; clear hK K
    refine Ord.St.fl2 (T' := ?_) 6 [7] _ _ rfl (by kernel_rfl) rfl rfl rfl rfl (fun K w' hk => ?_) ?_
    rotate_left
    · go_step; exact hk
    refine Ord.St.fl2 (T' := ?_) 7 [] _ _ rfl (by kernel_rfl) rfl rfl rfl rfl (fun K w' hk => ?_) ?_
    rotate_left
    · go_step; exact hk
    refine Ord.St.nil ?_
    go_wp2_with fail
    go_meet
    case rel => exact ⟨aa, ac, ab, ad, rfl, rfl, HSX.out, HSW.out, HC0.out.trans HCE.out (by simp)⟩
  case rest =>
    obtain ⟨xa, xc, ya, yc, rfl, rfl, hsx, hsy, hcw⟩ := hcut
    have HSX := Lib.hid hsx; clear hsx
    have HSY := Lib.hid hsy; clear hsy
    have HCW := Lib.hid hcw; clear hcw
    clear HT1 HT2 HBR cx0 cx1
    go_wp2_with fail
    go_loopw [9] (fun i wr => ∃ k : Nat, k ≤ X.length ∧ k ≤ Y.length ∧ i = .int .i64 k ∧ X.take k = Y.take k ∧ Ch [] wc wr) (fun i _ => X.length - (intOf i).toNat)
    case atStart => exact ⟨0, by omega, by omega, rfl, rfl, Ch.refl _ _⟩
    case round =>
      obtain ⟨k, hkx, hky, rfl, ht, hc⟩ := hrel
      have HT := Lib.hid ht; clear ht
      have hcc := HCW.out.trans hc (by simp)
      by_cases hx : k < X.length
      · have d1 : decide (k < X.length) = true := decide_eq_true hx
        have d1' : decide (X.length ≤ k) = false := decide_eq_false (by omega)
        obtain ⟨z, hz⟩ : ∃ z, X[k]? = some z := ⟨_, List.getElem?_eq_getElem hx⟩
        obtain ⟨b1, o1, rfl, c1⟩ := (HSX.out.ch hc (by simp)).cells k (.int .i64 z) (by unfold refsCells; rw [List.getElem?_map, hz]; rfl)
        by_cases hy : k < Y.length
        · have d2 : decide (Y.length ≤ k) = false := decide_eq_false (by omega)
          obtain ⟨u, hu⟩ : ∃ u, Y[k]? = some u := ⟨_, List.getElem?_eq_getElem hy⟩
          obtain ⟨b2, o2, rfl, c2⟩ := (HSY.out.ch hc (by simp)).cells k (.int .i64 u) (by unfold refsCells; rw [List.getElem?_map, hu]; rfl)
          have HZ := Lib.hid hz; clear hz
          have HU := Lib.hid hu; clear hu
          have HC := Lib.hid hc; clear hc
          have HCC := Lib.hid hcc; clear hcc
          by_cases hzu : z = u
          · have e1 : ((z : Int) != u) = false := by rw [hzu]; simp
            have HE := Lib.hid hzu; clear hzu
            go_wp2_with fail
            refine Ord.St.door (fun _ => True) [.fl, .fl, .fl, .rd, .fl, .fl, .fl, .rd, .fl] [0, 0, 3, 7, 0, 0, 48, 112, 255] [0, 1, 2, 3, 4, 5, 6, 7, 8] mixed (by kernel_rfl) rfl ?_
            refine Ord.St.fl2 (T' := ?_) 0 [1, 2, 3, 4, 5, 6, 7, 8] _ _ rfl (by kernel_rfl) rfl rfl rfl rfl (fun K w' hk => ?_) ?_
            rotate_left
            · go_step; exact hk
            refine Ord.St.fl2 (T' := ?_) 1 [2, 3, 4, 5, 6, 7, 8] _ _ rfl (by kernel_rfl) rfl rfl rfl rfl (fun K w' hk => ?_) ?_
            rotate_left
            · go_step; exact hk
            refine Ord.St.fl2 (T' := ?_) 2 [3, 4, 5, 6, 7, 8] _ _ rfl (by kernel_rfl) rfl rfl rfl rfl (fun K w' hk => ?_) ?_
            rotate_left
            · go_step; exact hk
            refine Ord.St.rd2 (T' := ?_) 3 [4, 5, 6, 7, 8] _ _ rfl (by kernel_rfl) rfl rfl rfl rfl (fun K hk => ?_) ?_
            rotate_left
            · go_step; exact hk
            refine Ord.St.fl2 (T' := ?_) 4 [5, 6, 7, 8] _ _ rfl (by kernel_rfl) rfl rfl rfl rfl (fun K w' hk => ?_) ?_
            rotate_left
            · go_step; exact hk
            refine Ord.St.fl2 (T' := ?_) 5 [6, 7, 8] _ _ rfl (by kernel_rfl) rfl rfl rfl rfl (fun K w' hk => ?_) ?_
            rotate_left
            · go_step; exact hk
            refine Ord.St.fl2 (T' := ?_) 6 [7, 8] _ _ rfl (by kernel_rfl) rfl rfl rfl rfl (fun K w' hk => ?_) ?_
            rotate_left
            · go_step; exact hk
            refine Ord.St.rd2 (T' := ?_) 7 [8] _ _ rfl (by kernel_rfl) rfl rfl rfl rfl (fun K hk => ?_) ?_
            rotate_left
            · go_step; exact hk
            refine Ord.St.fl2 (T' := ?_) 8 [] _ _ rfl (by kernel_rfl) rfl rfl rfl rfl (fun K w' hk => ?_) ?_
            rotate_left
            · go_step; exact hk
            refine Ord.St.nil ?_
            go_wp2_with fail
            go_roundw
            case rel => exact ⟨k + 1, by omega, by omega, by go_num, takeR_succ HT.out HZ.out HU.out HE.out, HC.out.drew⟩
            case measure => simp [intOf]; omega
          · have e1 : ((z : Int) != u) = true := by rw [bne_iff_ne]; omega
            have hmin := min_nat z u (min z u) rfl
            have hq := Q1.out k z u HT.out HZ.out HU.out hzu
            have HQ := Lib.hid hq; clear hq hzu
            generalize min z u = mm at hmin HQ
            go_wp2_with fail
            refine Ord.St.door (fun _ => True) [.fl, .fl, .fl, .rd, .fl, .fl, .fl, .rd, .fl] [0, 0, 3, 7, 0, 0, 48, 112, 255] [0, 1, 2, 3, 4, 5, 6, 7, 8] mixed (by kernel_rfl) rfl ?_
            refine Ord.St.fl2 (T' := ?_) 0 [1, 2, 3, 4, 5, 6, 7, 8] _ _ rfl (by kernel_rfl) rfl rfl rfl rfl (fun K w' hk => ?_) ?_
            rotate_left
            · go_step; exact hk
            refine Ord.St.fl2 (T' := ?_) 1 [2, 3, 4, 5, 6, 7, 8] _ _ rfl (by kernel_rfl) rfl rfl rfl rfl (fun K w' hk => ?_) ?_
            rotate_left
            · go_step; exact hk
            refine Ord.St.fl2 (T' := ?_) 2 [3, 4, 5, 6, 7, 8] _ _ rfl (by kernel_rfl) rfl rfl rfl rfl (fun K w' hk => ?_) ?_
            rotate_left
            · go_step; exact hk
            refine Ord.St.rd2 (T' := ?_) 3 [4, 5, 6, 7, 8] _ _ rfl (by kernel_rfl) rfl rfl rfl rfl (fun K hk => ?_) ?_
            rotate_left
            · go_step; exact hk
            refine Ord.St.fl2 (T' := ?_) 4 [5, 6, 7, 8] _ _ rfl (by kernel_rfl) rfl rfl rfl rfl (fun K w' hk => ?_) ?_
            rotate_left
            · go_step; exact hk
            refine Ord.St.fl2 (T' := ?_) 5 [6, 7, 8] _ _ rfl (by kernel_rfl) rfl rfl rfl rfl (fun K w' hk => ?_) ?_
            rotate_left
            · go_step; exact hk
            refine Ord.St.fl2 (T' := ?_) 6 [7, 8] _ _ rfl (by kernel_rfl) rfl rfl rfl rfl (fun K w' hk => ?_) ?_
            rotate_left
            · go_step; exact hk
            refine Ord.St.rd2 (T' := ?_) 7 [8] _ _ rfl (by kernel_rfl) rfl rfl rfl rfl (fun K hk => ?_) ?_
            rotate_left
            · go_step; exact hk
            refine Ord.St.fl2 (T' := ?_) 8 [] _ _ rfl (by kernel_rfl) rfl rfl rfl rfl (fun K w' hk => ?_) ?_
            rotate_left
            · go_step; exact hk
            refine Ord.St.nil ?_
            go_wp2_with fail
            refine Ord.St.door (fun _ => True) [.fl, .fl, .fl, .rd, .fl, .fl, .fl, .rd, .fl, .fl] [0, 0, 3, 7, 0, 0, 48, 112, 255, 511] [0, 1, 2, 3, 4, 5, 6, 7, 8, 9] mixed (by kernel_rfl) rfl ?_
            refine Ord.St.fl2 (T' := ?_) 0 [1, 2, 3, 4, 5, 6, 7, 8, 9] _ _ rfl (by kernel_rfl) rfl rfl rfl rfl (fun K w' hk => ?_) ?_
            rotate_left
            · go_step; exact hk
            refine Ord.St.fl2 (T' := ?_) 1 [2, 3, 4, 5, 6, 7, 8, 9] _ _ rfl (by kernel_rfl) rfl rfl rfl rfl (fun K w' hk => ?_) ?_
            rotate_left
            · go_step; exact hk
            refine Ord.St.fl2 (T' := ?_) 2 [3, 4, 5, 6, 7, 8, 9] _ _ rfl (by kernel_rfl) rfl rfl rfl rfl (fun K w' hk => ?_) ?_
            rotate_left
            · go_step; exact hk
            refine Ord.St.rd2 (T' := ?_) 3 [4, 5, 6, 7, 8, 9] _ _ rfl (by kernel_rfl) rfl rfl rfl rfl (fun K hk => ?_) ?_
            rotate_left
            · go_step; exact hk
            refine Ord.St.fl2 (T' := ?_) 4 [5, 6, 7, 8, 9] _ _ rfl (by kernel_rfl) rfl rfl rfl rfl (fun K w' hk => ?_) ?_
            rotate_left
            · go_step; exact hk
            refine Ord.St.fl2 (T' := ?_) 5 [6, 7, 8, 9] _ _ rfl (by kernel_rfl) rfl rfl rfl rfl (fun K w' hk => ?_) ?_
            rotate_left
            · go_step; exact hk
            refine Ord.St.fl2 (T' := ?_) 6 [7, 8, 9] _ _ rfl (by kernel_rfl) rfl rfl rfl rfl (fun K w' hk => ?_) ?_
            rotate_left
            · go_step; exact hk
            refine Ord.St.rd2 (T' := ?_) 7 [8, 9] _ _ rfl (by kernel_rfl) rfl rfl rfl rfl (fun K hk => ?_) ?_
            rotate_left
            · go_step; exact hk
            refine Ord.St.fl2 (T' := ?_) 8 [9] _ _ rfl (by kernel_rfl) rfl rfl rfl rfl (fun K w' hk => ?_) ?_
            rotate_left
            · go_step; exact hk
            refine Ord.St.fl2 (T' := ?_) 9 [] _ _ rfl (by kernel_rfl) rfl rfl rfl rfl (fun K w' hk => ?_) ?_
            rotate_left
            · go_step; exact hk
            refine Ord.St.nil ?_
            go_wp2_with fail
            go_ret
            rw [HQ.out]
            exact ⟨rfl, HCC.out.drew.drew⟩
        · have d2 : decide (Y.length ≤ k) = true := decide_eq_true (by omega)
          have hq := Q3.out k z HT.out (by omega) hz
          have HQ := Lib.hid hq; clear hq hz
          have HCC := Lib.hid hcc; clear hcc hc
          go_wp2_with fail
          go_ret
          rw [HQ.out]
          exact ⟨rfl, HCC.out⟩
      · have d1 : decide (k < X.length) = false := decide_eq_false hx
        by_cases hy : k < Y.length
        · have d1' : decide (X.length ≤ k) = true := decide_eq_true (by omega)
          have d2 : decide (k < Y.length) = true := decide_eq_true hy
          obtain ⟨u, hu⟩ : ∃ u, Y[k]? = some u := ⟨_, List.getElem?_eq_getElem hy⟩
          obtain ⟨b2, o2, rfl, c2⟩ := (HSY.out.ch hc (by simp)).cells k (.int .i64 u) (by unfold refsCells; rw [List.getElem?_map, hu]; rfl)
          have hq := Q2.out k u HT.out (by omega) hu
          have HQ := Lib.hid hq; clear hq hu
          have HCC := Lib.hid hcc; clear hcc hc
          go_wp2_with fail
          go_ret
          rw [HQ.out]
          exact ⟨rfl, HCC.out⟩
        · have d2 : decide (k < Y.length) = false := decide_eq_false hy
          have hq := Q4.out k HT.out (by omega) (by omega)
          have HQ := Lib.hid hq; clear hq
          have HCC := Lib.hid hcc; clear hcc hc
          go_wp2_with fail
          go_ret
          rw [HQ.out]
          exact ⟨rfl, HCC.out⟩
end
end Go.Proofs.Ytnmfdiiehkkjcaa
namespace Go.Aig
theorem inputs_even {ns : List Nd} {i z : Nat} (h : (inputs ns)[i]? = some z) : z % 2 = 0 ∧ z < 2 * ns.length := by
  have := inputsFrom_ge ns 0 z (List.mem_of_getElem? h)
  exact ⟨this.2.1, by omega⟩
/-- an input, if its node is among those met so far -/
def metI (C : List Nat) (z i c : Nat) : List Nat := if z / 2 ∈ C.take c then [i] else []
theorem metI_zero (C : List Nat) (z i : Nat) : metI C z i 0 = [] := by unfold metI; simp
theorem metI_succ {C : List Nat} (hC : C.Pairwise (fun a b => a < b)) {z i c d : Nat} (hz : z % 2 = 0) (hd : C[c]? = some d) : metI C z i (c + 1) = metI C z i c ++ (if 2 * d = z then [i] else []) := by
  have hlt := (List.getElem?_eq_some_iff.1 hd).1
  have hde := (List.getElem?_eq_some_iff.1 hd).2
  unfold metI
  rw [List.take_add_one, hd]
  by_cases h : 2 * d = z
  · have hn : z / 2 ∉ C.take c := fun hin => by
      obtain ⟨j, hj, e⟩ := List.mem_iff_getElem.1 hin
      have hjl : j < C.length := by rw [List.length_take] at hj; omega
      have hjc : j < c := by rw [List.length_take] at hj; omega
      have := List.pairwise_iff_getElem.1 hC j c hjl hlt hjc
      rw [List.getElem_take] at e
      rw [e, hde] at this
      omega
    rw [if_neg hn, if_pos h, if_pos (by simp; right; omega)]
    rfl
  · rw [if_neg h, List.append_nil]
    have : (z / 2 ∈ C.take c ++ (some d).toList) ↔ z / 2 ∈ C.take c := by
      simp only [Option.toList_some, List.mem_append, List.mem_singleton]
      constructor
      · rintro (h1 | h1)
        · exact h1
        · omega
      · exact .inl
    by_cases h2 : z / 2 ∈ C.take c
    · rw [if_pos h2, if_pos (this.2 h2)]
    · rw [if_neg h2, if_neg (fun h3 => h2 (this.1 h3))]
theorem metI_all {C : List Nat} {z i : Nat} : metI C z i C.length = if z / 2 ∈ C then [i] else [] := by
  unfold metI
  rw [List.take_length]
theorem metI_len (C : List Nat) (z i c : Nat) : (metI C z i c).length ≤ 1 := by unfold metI; split <;> simp
end Go.Aig
namespace Go.Proofs.Ytnmfdiiehkkjcaa
open Go.RowKit Go.Mem Go.Aig
section
variable {w : World}
set_option maxRecDepth 100000 in
set_option maxHeartbeats 2000000 in
theorem r21Support_is {rb cap : Nat} {G : Gra} (h : RG w rb cap G) {a : Option Addr} {l : List Nat} (n acap : Nat) (hn : l.length = n) (hs : Sl w a (natInts l)) (hr : ∀ r ∈ l, r < 2 * G.nodes.length) (hm : n ≤ 1000000) :
    Calls Try.prog 96 #[.agg #[.int .i64 G.most, .slice (some ⟨rb, 0, none⟩) G.nodes.length cap], .slice a n acap] w fun e w' => ∃ v, e = .returned v ∧ row w' 3 1 v (suppL G.nodes l (inputs G.nodes).length).length (refsCells (suppL G.nodes l (inputs G.nodes).length)) ∧ (∀ q ∈ v.ownBlock.toList, w.heap.size ≤ q) ∧ Ch [] w w' := by
  obtain ⟨hl, hp, hmo⟩ := h.len
  have hIN := fun (W : World) (hW : Ch [] w W) => rInputs_is (h.ch hW (by simp))
  have hCO := fun (W : World) (hW : Ch [] w W) => rCone_is (h.ch hW (by simp)) (a := a) (l := l) n acap hn (hs.ch hW (by simp)) hr hm
  have hasc := cone_asc G.nodes l
  have hcb : ∀ d ∈ cone G.nodes l, d < G.nodes.length := fun d hd => ((mem_cone h.ok.wf l d).1 hd).1
  have hev := fun i z => @inputs_even G.nodes i z
  have hss := suppL_succ G.nodes l
  have hsl := suppL_len G.nodes l
  have hil : (inputs G.nodes).length ≤ G.nodes.length := by
    have : ∀ (l : List Nd) (k : Nat), (inputsFrom l k).length ≤ l.length := fun l => by
      induction l with
      | nil => intro n; simp [inputsFrom]
      | cons a l ih => intro n; unfold inputsFrom; split <;> simp <;> have := ih (n + 1) <;> omega
    exact this G.nodes 0
  have hcl : (cone G.nodes l).length ≤ 65536 := by
    have : (cone G.nodes l).length ≤ G.nodes.length := by
      unfold cone coneDown
      rw [List.length_reverse]
      exact coneFrom_len _ _ _
    omega
  obtain ⟨C, hC⟩ : ∃ C, cone G.nodes l = C := ⟨_, rfl⟩
  obtain ⟨I, hI⟩ : ∃ I, inputs G.nodes = I := ⟨_, rfl⟩
  obtain ⟨S, hS⟩ : ∃ S, suppL G.nodes l = S := ⟨_, rfl⟩
  have hS0 : S 0 = [] := by rw [← hS]; rfl
  rw [hI] at hil
  rw [hC] at hasc hcl
  simp only [hC] at hCO hcb
  simp only [hI] at hIN hev hss
  simp only [hS] at hss hsl
  simp only [hC] at hss
  rw [hS, hI]
  clear h hs hC hI hS hr
  have HIN := Lib.hid hIN; clear hIN
  have HCO := Lib.hid hCO; clear hCO
  have HASC := Lib.hid hasc; clear hasc
  have HCB := Lib.hid hcb; clear hcb
  have HEV := Lib.hid hev; clear hev
  have HSS := Lib.hid hss; clear hss
  have HSL := Lib.hid hsl; clear hsl
  have HS0 := Lib.hid hS0; clear hS0
  go_enter Try.func96, Try.ntmps96
  go_wp2_with fail
  refine calls_named fun W0 hW0 => ?_
  have hc0 : Ch [] w W0 := by rw [hW0]; exact (Ch.refl _ _).alloc _
  have b2 : blk W0 w.heap.size [.int .i64 G.most, .slice (some ⟨rb, 0, none⟩) G.nodes.length cap] := by rw [hW0]; exact blk.new' (w := w) [.int .i64 G.most, .slice (some ⟨rb, 0, none⟩) G.nodes.length cap] 115 rfl
  clear hW0
  have HBR := Lib.hid b2; clear b2
  have HC0 := Lib.hid hc0; clear hc0
  generalize w.heap.size = bx at HBR ⊢
  refine (HCO.out W0 HC0.out).mono ?_
  rintro e w1 ⟨v, rfl, hrow, _, hc1⟩
  obtain ⟨ca, cc, rfl⟩ := row.shape hrow
  have hsv := row.sv hrow rfl (by omega)
  have hbr := HBR.out.ch hc1 (by simp)
  have cx0 := hbr.cell (i := 0) rfl
  have cx1 := hbr.cell (i := 1) rfl
  have HSC := Lib.hid hsv; clear hsv
  have HC1 := Lib.hid (HC0.out.trans hc1 (by simp)); clear hrow hc1 HCO HBR hbr
  go_wp2_with fail
  refine (HIN.out w1 HC1.out).mono ?_
  rintro e w2 ⟨v, rfl, hrow, _, hc2⟩
  obtain ⟨ia, ic, rfl⟩ := row.shape hrow
  have hsv := row.sv hrow rfl (by omega)
  have HSI := Lib.hid hsv; clear hsv
  have HSC2 := Lib.hid (HSC.out.ch hc2 (by simp))
  have HC2 := Lib.hid (HC1.out.trans hc2 (by simp)); clear hrow hc2 HIN cx0 cx1 HC1 HSC
  go_wp2_with fail
  go_loopw [7, 8] (fun o i wr => ∃ x : Nat, x ≤ I.length ∧ i = .int .i64 x ∧ Ch [] w2 wr ∧ row wr 3 1 o (S x).length (refsCells (S x)) ∧ ∀ q ∈ o.ownBlock.toList, w2.heap.size ≤ q) (fun _ i _ => I.length - (intOf i).toNat)
  case atStart => exact ⟨0, by omega, rfl, Ch.refl _ _, by rw [HS0.out]; exact ⟨rfl, .inl ⟨rfl, rfl⟩⟩, by simp⟩
  case round =>
    obtain ⟨x, hx, rfl, hc, hrow, hlo⟩ := hrel
    by_cases hlt : x < I.length
    · obtain ⟨z, hz⟩ : ∃ z, I[x]? = some z := ⟨_, List.getElem?_eq_getElem hlt⟩
      obtain ⟨hz2, hzl⟩ := HEV.out x z hz
      have hss := HSS.out x
      rw [List.getD_eq_getElem?_getD, hz] at hss
      simp only [Option.getD_some] at hss
      rw [← metI_all (z := z) (i := x)] at hss
      have hmz := metI_zero C z x
      have hms := fun (c d : Nat) (hd : C[c]? = some d) => metI_succ HASC.out (z := z) (i := x) hz2 hd
      have hml := metI_len C z x
      have hsl := HSL.out x
      obtain ⟨T, hT⟩ : ∃ T, S x = T := ⟨_, rfl⟩
      rw [hT] at hrow hss hsl
      generalize metI C z x = f at *
      have HSX := Lib.hid hss; clear hss hT
      have HMZ := Lib.hid hmz; clear hmz
      have HMS := Lib.hid hms; clear hms
      have HML := Lib.hid hml; clear hml
      have HLO := Lib.hid hlo; clear hlo
      have HROW := Lib.hid hrow; clear hrow
      have HC := Lib.hid hc; clear hc
      have HZ := Lib.hid hz; clear hz
      obtain ⟨wo, hwo⟩ : ∃ wo, wo = wr := ⟨_, rfl⟩
      subst hwo
      go_wp2_with fail
      go_loopw [7, 9] (fun o i wr => ∃ c : Nat, c ≤ C.length ∧ i = .int .i64 c ∧ Ch [] w2 wr ∧ row wr 3 1 o (T.length + (f c).length) (refsCells (T ++ f c)) ∧ ∀ q ∈ o.ownBlock.toList, w2.heap.size ≤ q) (fun _ i _ => C.length - (intOf i).toNat)
      case atStart => exact ⟨0, by omega, rfl, HC.out, by rw [HMZ.out, List.append_nil]; exact HROW.out, HLO.out⟩
      case round =>
        clear HROW HC HLO
        obtain ⟨c, hcl', rfl, hc, hrow, hlo⟩ := hrel
        obtain ⟨oa, oc, rfl⟩ := row.shape hrow
        have HROW := Lib.hid hrow; clear hrow
        have HLO := Lib.hid hlo; clear hlo
        by_cases hlt2 : c < C.length
        · obtain ⟨d, hd⟩ : ∃ d, C[c]? = some d := ⟨_, List.getElem?_eq_getElem hlt2⟩
          have hdb := HCB.out d (List.mem_of_getElem? hd)
          have hms := HMS.out c d hd
          have hml := HML.out c
          obtain ⟨b1, o1, rfl, c1⟩ := (HSC2.out.ch hc (by simp)).cells c (.int .i64 d) (by unfold refsCells; rw [List.getElem?_map, hd]; rfl)
          obtain ⟨b2, o2, rfl, c2⟩ := (HSI.out.ch hc (by simp)).cells x (.int .i64 z) (by unfold refsCells; rw [List.getElem?_map, HZ.out]; rfl)
          have HC := Lib.hid hc; clear hc hd
          have HMS1 := Lib.hid hms; clear hms
          have hd2 : 2 * (d : Int) ≤ 131072 := by omega
          by_cases hq : 2 * d = z
          · have e1 : ((2 * (d : Int)) == (z : Int)) = true := by rw [beq_iff_eq]; omega
            have hms := HMS1.out
            rw [if_pos hq] at hms
            have HMS2 := Lib.hid hms; clear hms HMS1 hq
            obtain ⟨m, hm⟩ : ∃ m, T.length + (f c).length = m := ⟨_, rfl⟩
            have hmb : m ≤ 200000 := by omega
            have HM := Lib.hid hm
            rw [hm] at HROW HLO ⊢
            clear hm
            go_wp2_with fail
            refine Ord.St.door (fun _ => True) [.fl, .fl, .fl, .rd, .fl, .fl, .fl, .fl, .rd, .fl] [0, 0, 3, 7, 15, 0, 0, 96, 224, 511] [0, 1, 2, 3, 4, 5, 6, 7, 8, 9] mixed (by kernel_rfl) rfl ?_
            refine Ord.St.fl2 (T' := ?_) 0 [1, 2, 3, 4, 5, 6, 7, 8, 9] _ _ rfl (by kernel_rfl) rfl rfl rfl rfl (fun K w' hk => ?_) ?_
            rotate_left
            · go_step; exact hk
            refine Ord.St.fl2 (T' := ?_) 1 [2, 3, 4, 5, 6, 7, 8, 9] _ _ rfl (by kernel_rfl) rfl rfl rfl rfl (fun K w' hk => ?_) ?_
            rotate_left
            · go_step; exact hk
            refine Ord.St.fl2 (T' := ?_) 2 [3, 4, 5, 6, 7, 8, 9] _ _ rfl (by kernel_rfl) rfl rfl rfl rfl (fun K w' hk => ?_) ?_
            rotate_left
            · go_step; exact hk
            refine Ord.St.rd2 (T' := ?_) 3 [4, 5, 6, 7, 8, 9] _ _ rfl (by kernel_rfl) rfl rfl rfl rfl (fun K hk => ?_) ?_
            rotate_left
            · go_step; exact hk
            refine Ord.St.fl2 (T' := ?_) 4 [5, 6, 7, 8, 9] _ _ rfl (by kernel_rfl) rfl rfl rfl rfl (fun K w' hk => ?_) ?_
            rotate_left
            · go_step; exact hk
            refine Ord.St.fl2 (T' := ?_) 5 [6, 7, 8, 9] _ _ rfl (by kernel_rfl) rfl rfl rfl rfl (fun K w' hk => ?_) ?_
            rotate_left
            · go_step; exact hk
            refine Ord.St.fl2 (T' := ?_) 6 [7, 8, 9] _ _ rfl (by kernel_rfl) rfl rfl rfl rfl (fun K w' hk => ?_) ?_
            rotate_left
            · go_step; exact hk
            refine Ord.St.fl2 (T' := ?_) 7 [8, 9] _ _ rfl (by kernel_rfl) rfl rfl rfl rfl (fun K w' hk => ?_) ?_
            rotate_left
            · go_step; exact hk
            refine Ord.St.rd2 (T' := ?_) 8 [9] _ _ rfl (by kernel_rfl) rfl rfl rfl rfl (fun K hk => ?_) ?_
            rotate_left
            · go_step; exact hk
            refine Ord.St.fl2 (T' := ?_) 9 [] _ _ rfl (by kernel_rfl) rfl rfl rfl rfl (fun K w' hk => ?_) ?_
            rotate_left
            · go_step; exact hk
            refine Ord.St.nil ?_
            have hcA : Ch [] wr.drew (wr.drew.alloc (.cells #[.int .i64 x] 3)) := (Ch.refl _ _).alloc _
            have hrA := (HROW.out.ch ((Ch.refl [] wr).drew) (by simp)).ch hcA (by simp)
            have hbA : blk (wr.drew.alloc (.cells #[.int .i64 x] 3)) wr.drew.heap.size [.int .i64 x] := blk.new' _ _ rfl
            have HRA := Lib.hid hrA; clear hrA
            have HBA := Lib.hid hbA; clear hbA
            have HCA := Lib.hid hcA; clear hcA
            clear c1 c2
            go_wp2_with (at_builtin; go_loud (refine wpList_append_row slInts rfl _ _ rfl (v := .slice oa m oc) (n := m) (xs := refsCells (T ++ f c)) rfl HRA.out (ad := ⟨wr.drew.heap.size, 0, none⟩) (m := 1) (c := 1) (news := [.int .i64 x]) rfl rfl (news_blk HBA.out) (by simp [Value.oneCell']) (by omega) (by omega) ?_; intro v' w5 hown4 hC4 hf4; have HO4 := Lib.hid hown4; clear hown4; have HC4 := Lib.hid hC4; clear hC4; have HF4 := Lib.hid hf4; clear hf4))
            go_roundw
            case rel =>
              obtain ⟨q1, q2⟩ := app_step HC.out.drew HCA.out HLO.out HC4.out HF4.out
              refine ⟨c + 1, by omega, by go_num, q1, ?_, q2⟩
              rw [HMS2.out, List.length_append, ← Nat.add_assoc, HM.out, ← List.append_assoc, show refsCells (T ++ f c ++ [x]) = refsCells (T ++ f c) ++ [.int .i64 x] by simp [refsCells]]
              exact HO4.out
            case measure => simp [intOf]; omega
          · have e1 : ((2 * (d : Int)) == (z : Int)) = false := by rw [beq_eq_false_iff_ne]; omega
            have hms := HMS1.out
            rw [if_neg hq, List.append_nil] at hms
            have HMS2 := Lib.hid hms; clear hms HMS1 hq
            go_wp2_with fail
            refine Ord.St.door (fun _ => True) [.fl, .fl, .fl, .rd, .fl, .fl, .fl, .fl, .rd, .fl] [0, 0, 3, 7, 15, 0, 0, 96, 224, 511] [0, 1, 2, 3, 4, 5, 6, 7, 8, 9] mixed (by kernel_rfl) rfl ?_
            refine Ord.St.fl2 (T' := ?_) 0 [1, 2, 3, 4, 5, 6, 7, 8, 9] _ _ rfl (by kernel_rfl) rfl rfl rfl rfl (fun K w' hk => ?_) ?_
            rotate_left
            · go_step; exact hk
            refine Ord.St.fl2 (T' := ?_) 1 [2, 3, 4, 5, 6, 7, 8, 9] _ _ rfl (by kernel_rfl) rfl rfl rfl rfl (fun K w' hk => ?_) ?_
            rotate_left
            · go_step; exact hk
            refine Ord.St.fl2 (T' := ?_) 2 [3, 4, 5, 6, 7, 8, 9] _ _ rfl (by kernel_rfl) rfl rfl rfl rfl (fun K w' hk => ?_) ?_
            rotate_left
            · go_step; exact hk
            refine Ord.St.rd2 (T' := ?_) 3 [4, 5, 6, 7, 8, 9] _ _ rfl (by kernel_rfl) rfl rfl rfl rfl (fun K hk => ?_) ?_
            rotate_left
            · go_step; exact hk
            refine Ord.St.fl2 (T' := ?_) 4 [5, 6, 7, 8, 9] _ _ rfl (by kernel_rfl) rfl rfl rfl rfl (fun K w' hk => ?_) ?_
            rotate_left
            · go_step; exact hk
            refine Ord.St.fl2 (T' := ?_) 5 [6, 7, 8, 9] _ _ rfl (by kernel_rfl) rfl rfl rfl rfl (fun K w' hk => ?_) ?_
            rotate_left
            · go_step; exact hk
            refine Ord.St.fl2 (T' := ?_) 6 [7, 8, 9] _ _ rfl (by kernel_rfl) rfl rfl rfl rfl (fun K w' hk => ?_) ?_
            rotate_left
            · go_step; exact hk
            refine Ord.St.fl2 (T' := ?_) 7 [8, 9] _ _ rfl (by kernel_rfl) rfl rfl rfl rfl (fun K w' hk => ?_) ?_
            rotate_left
            · go_step; exact hk
            refine Ord.St.rd2 (T' := ?_) 8 [9] _ _ rfl (by kernel_rfl) rfl rfl rfl rfl (fun K hk => ?_) ?_
            rotate_left
            · go_step; exact hk
            refine Ord.St.fl2 (T' := ?_) 9 [] _ _ rfl (by kernel_rfl) rfl rfl rfl rfl (fun K w' hk => ?_) ?_
            rotate_left
            · go_step; exact hk
            refine Ord.St.nil ?_
            go_wp2_with fail
            go_roundw
            case rel => exact ⟨c + 1, by omega, by go_num, HC.out.drew, by rw [HMS2.out]; exact HROW.out.ch ((Ch.refl [] wr).drew) (by simp), HLO.out⟩
            case measure => simp [intOf]; omega
        · have hcC : c = C.length := by omega
          have HC := Lib.hid hc; clear hc
          go_wp2_with fail
          go_roundw
          case rel =>
            have hr := HROW.out
            rw [hcC] at hr
            refine ⟨x + 1, by omega, by go_num, HC.out, ?_, HLO.out⟩
            rw [HSX.out, List.length_append]
            rw [hcC]
            exact hr
          case measure => simp [intOf]; omega
    · have hxI : x = I.length := by omega
      subst hxI
      have HROW := Lib.hid hrow; clear hrow
      have HLO := Lib.hid hlo; clear hlo
      have HC := Lib.hid hc; clear hc
      go_wp2_with fail
      go_ret
      refine ⟨_, rfl, ?_, fun q hq => Nat.le_trans HC2.out.size (HLO.out q hq), HC2.out.trans HC.out (by simp)⟩
      exact HROW.out
end
end Go.Proofs.Ytnmfdiiehkkjcaa
namespace Go.Proofs.Ytnmfdiiehkkjcaa
open Go.RowKit Go.Mem Go.Aig
/-- a graph, and the same one of the reference, apart from each other, made since a world -/
structure Both (w0 w : World) (g rb cap : Nat) (G : Gra) (F : List Nat) : Prop where
  gin : GIn w g G F
  rg : RG w rb cap G
  ap : rb ∉ F
  own : ∀ k ∈ F, w0.heap.size ≤ k
  rlo : w0.heap.size ≤ rb
  ch : Ch [] w0 w
theorem Both.same {w0 w w' : World} {g rb cap : Nat} {G : Gra} {F : List Nat} (h : Both w0 w g rb cap G F) (hc : Ch [] w w') : Both w0 w' g rb cap G F :=
  ⟨h.gin.same hc (by simp), h.rg.ch hc (by simp), h.ap, h.own, h.rlo, h.ch.trans hc (by simp)⟩
/-- both graphs are changed in the same way -/
theorem Both.next {w0 w w1 w2 : World} {g rb cap : Nat} {G G' : Gra} {F F' : List Nat} (h : Both w0 w g rb cap G F) (hg : GIn w1 g G' F') (hc1 : Ch F w w1) (hF : ∀ k ∈ F', k ∈ F ∨ w.heap.size ≤ k) {rb' cap' : Nat} (hr : RG w2 rb' cap' G') (hc2 : Ch [] w1 w2) (hb : rb' = rb ∨ w1.heap.size ≤ rb') : Both w0 w2 g rb' cap' G' F' := by
  have hrl := h.rg.lt
  have hz := hc1.size
  refine ⟨hg.same hc2 (by simp), hr, fun hin => ?_, fun k hk => (hF k hk).elim (h.own k) (fun e => Nat.le_trans h.ch.size e), ?_, (h.ch.trans hc1 (fun k hk => .inr (h.own k hk))).trans hc2 (by simp)⟩
  · have hlt := hg.lt _ hin
    rcases hb with rfl | e
    · rcases hF _ hin with e | e
      · exact h.ap e
      · omega
    · omega
  · rcases hb with rfl | e
    · exact h.rlo
    · have := h.ch.size; omega
theorem Both.set {w0 w w' : World} {g rb cap b : Nat} {G : Gra} {F : List Nat} (h : Both w0 w g rb cap G F) (hc : Ch [b] w w') (hb : b ∉ F) (hr : rb ≠ b) (hlo : w0.heap.size ≤ b) : Both w0 w' g rb cap G F :=
  ⟨h.gin.same hc (fun k hk hk2 => hb (by rw [List.mem_singleton.1 hk2] at hk; exact hk)), h.rg.ch hc (by simpa using hr), h.ap, h.own, h.rlo, h.ch.trans hc (fun k hk => .inr (by rw [List.mem_singleton.1 hk]; exact hlo))⟩
section
end
end Go.Proofs.Ytnmfdiiehkkjcaa
namespace Go.Proofs.Ytnmfdiiehkkjcaa
open Go.RowKit Go.Mem Go.Aig
section
variable {w : World}
set_option maxRecDepth 100000 in
set_option maxHeartbeats 2000000 in
theorem inputs21_any {a : Option Addr} {n cap : Nat} {l : List N21} (hS : NodeS w a n cap l) :
    Calls Try.prog 14 #[.slice a n cap] w fun e w' => e = .returned (.int .i64 (cntI l : Nat)) ∧ Ch [] w w' := by
  have hlen := hS.len
  have hle := hS.le
  have hmx := hS.max
  have hcn : ∀ k x, l[k]? = some x → cntI (l.take (k + 1)) = cntI (l.take k) + x.inp.toNat := fun k x hx => by rw [List.take_add_one, hx]; exact cntI_snoc _ _
  have hcl : ∀ k, cntI (l.take k) ≤ k := fun k => by
    have := List.length_filter_le (fun x : N21 => x.inp) (l.take k)
    rw [List.length_take] at this
    unfold cntI
    omega
  have hfull : cntI (l.take n) = cntI l := by rw [List.take_of_length_le (by omega)]
  obtain ⟨Q, hQ⟩ : ∃ Q : Nat → Nat, Q = fun k => cntI (l.take k) := ⟨_, rfl⟩
  have hQ0 : Q 0 = 0 := by rw [hQ]; rfl
  have hQs : ∀ k x, l[k]? = some x → Q (k + 1) = Q k + x.inp.toNat := fun k x hx => by rw [hQ]; exact hcn k x hx
  have hQl : ∀ k, Q k ≤ k := fun k => by rw [hQ]; exact hcl k
  have hQn : cntI l = Q n := by rw [hQ]; exact hfull.symm
  rw [hQn]
  clear hQ hQn hcn hcl hfull
  have HS := Lib.hid hS; clear hS
  have HLEN := Lib.hid hlen; clear hlen
  have HQ0 := Lib.hid hQ0; clear hQ0
  have HQS := Lib.hid hQs; clear hQs
  have HQL := Lib.hid hQl; clear hQl
  go_enter Try.func14, Try.ntmps14
  go_wp2_with fail
  go_loopw [3, 8] (fun q i wr => ∃ k : Nat, k ≤ n ∧ i = .int .i64 k ∧ q = .int .i64 (Q k : Nat) ∧ Ch [] w wr) (fun _ i _ => n - (intOf i).toNat)
  case atStart => exact ⟨0, by omega, rfl, by rw [HQ0.out]; rfl, Ch.refl _ _⟩
  case round =>
    obtain ⟨k, hk, rfl, rfl, hc⟩ := hrel
    by_cases hlt : k < n
    · obtain ⟨x, hx⟩ : ∃ x, l[k]? = some x := ⟨_, List.getElem?_eq_getElem (by rw [HLEN.out]; omega)⟩
      obtain ⟨ab, ao, rfl, d0, d1, d2⟩ := (HS.out.ch hc).cells k x hx
      have hqs := HQS.out k x hx
      have hql := HQL.out k
      obtain ⟨q, hq⟩ : ∃ q, Q k = q := ⟨_, rfl⟩
      rw [hq] at hqs hql ⊢
      have HC := Lib.hid hc; clear hc hq hx
      obtain ⟨inp, xl, xr⟩ := x
      simp only at d0 d1 d2 hqs
      have HQK := Lib.hid hqs; clear hqs
      go_upto_region 5 with fail
      refine wp_named fun W1 hW1 => ?_
      have hcA : Ch [] wr W1 := by rw [hW1]; exact (Ch.refl _ _).alloc _
      have hb1 : blk W1 wr.heap.size [.bool inp, .int .i64 xl, .int .i64 xr] := by rw [hW1]; exact blk.new' _ _ rfl
      have e0 := hb1.cell (i := 0) rfl
      clear hW1 hb1 d0 d1 d2
      have HCA := Lib.hid hcA; clear hcA
      cases inp
      · go_wp2_with fail
        go_roundw
        case rel => exact ⟨k + 1, by omega, by go_num, by rw [HQK.out]; rfl, HC.out.trans HCA.out (by simp)⟩
        case measure => simp [intOf]; omega
      · go_wp2_with fail
        go_roundw
        case rel => exact ⟨k + 1, by omega, by go_num, by rw [HQK.out]; go_num, HC.out.trans HCA.out (by simp)⟩
        case measure => simp [intOf]; omega
    · have hkn : k = n := by omega
      subst hkn
      have HC := Lib.hid hc; clear hc
      go_wp2_with fail
      go_ret
      exact ⟨rfl, HC.out⟩
theorem inputs21_is {a : Option Addr} {n cap : Nat} {l : List N21} (hS : NodeS w a n cap l) (_hn : n ≤ 1000000) :
    Calls Try.prog 14 #[.slice a n cap] w fun e w' => e = .returned (.int .i64 (cntI l : Nat)) ∧ Ch [] w w' := inputs21_any hS
set_option maxRecDepth 100000 in
set_option maxHeartbeats 8000000 in
theorem build21_is {a : Option Addr} {n ncap : Nat} {l : List N21} (hS : NodeS w a n ncap l) (hn : n ≤ 61) :
    Calls Try.prog 72 #[.slice a n ncap] w fun e w' => ∃ g F rb cap G, e = .returned (.tuple #[.pointer (some ⟨g, 0, none⟩), .agg #[.int .i64 G.most, .slice (some ⟨rb, 0, none⟩) G.nodes.length cap], .bool true]) ∧ Both w w' g rb cap G F ∧ G.most = 200 ∧ G.nodes.length ≤ n + 1 ∧ (inputs G.nodes).length = cntI l := by
  have hlen := hS.len
  have hbd := hS.bd
  have hN := fun W => New_yes (w := W) 200 (by decide) (by decide)
  have hR := fun W => rNew_yes W 200 (by decide) (by decide)
  have hcn : ∀ k x, l[k]? = some x → cntI (l.take (k + 1)) = cntI (l.take k) + x.inp.toNat := fun k x hx => by rw [List.take_add_one, hx]; exact cntI_snoc _ _
  have hfull : cntI (l.take n) = cntI l := by rw [List.take_of_length_le (by omega)]
  have HN := Lib.hid hN; clear hN
  have HR := Lib.hid hR; clear hR
  have HS := Lib.hid hS; clear hS
  have HLEN := Lib.hid hlen; clear hlen
  have HBD := Lib.hid hbd; clear hbd
  have HCN := Lib.hid hcn; clear hcn
  have HFULL := Lib.hid hfull; clear hfull
  go_enter Try.func72, Try.ntmps72
  go_wp2_with fail
  refine calls_named fun W hW => ?_
  have b3 : blk W w.heap.size [.int .i64 0, .slice none 0 0] := by rw [hW]; exact blk.new' _ _ (by simp)
  have hc : Ch [] w W := by rw [hW]; exact (Ch.refl _ _).alloc _
  have hz : W.heap.size = w.heap.size + 1 := by rw [hW]; simp
  clear hW
  refine (HN.out W).mono ?_
  rintro e w1 ⟨g, F1, rfl, hg1, hF1, hc1⟩
  have b3 := b3.ch hc1 (by simp)
  have hc := hc.trans hc1 (by simp)
  have hF2 : ∀ k ∈ F1, w.heap.size + 1 ≤ k ∧ k < w1.heap.size := fun k hk => ⟨by have := hF1 k hk; omega, hg1.lt k hk⟩
  have HF2 := Lib.hid hF2; clear hF2 hF1 hc1
  have HC := Lib.hid hc; clear hc
  have HG1 := Lib.hid hg1; clear hg1
  have B3 := Lib.hid b3; clear b3
  go_wp2_with fail
  refine (HR.out _).mono ?_
  rintro e w2 ⟨rb, cap, rfl, hrg, hc2, hlo⟩
  have hz2 := hc2.size
  have hz3 := B3.out.lt
  have hbt : Both w w2 g rb cap (newG 200) F1 := ⟨HG1.out.same hc2 (by simp), hrg, fun hin => by have := HF2.out _ hin; omega, fun k hk => by have := HF2.out k hk; omega, by omega, HC.out.trans hc2 (by simp)⟩
  have b3 := B3.out.ch hc2 (by simp)
  have hG0 : (newG 200).most = 200 ∧ (newG 200).nodes.length = 1 ∧ (inputs (newG 200).nodes).length = 0 := ⟨rfl, rfl, rfl⟩
  generalize newG 200 = G0 at *
  have HBT := Lib.hid hbt; clear hbt hrg hc2 HC HG1
  clear B3
  have B3 := Lib.hid b3; clear b3
  go_upto_region 3 with fail
  refine wp_alw ?_
  intro W3 hW3
  have hb6 : blk W3 w2.heap.size [.int .i64 G0.most, .slice (some ⟨rb, 0, none⟩) G0.nodes.length cap] := by
    rw [hG0.1, hG0.2.1]
    exact alw_blk (xs := [.int .i64 200, .slice (some ⟨rb, 0, none⟩) 1 cap]) hW3
  have hc3 := alw_ch hW3
  have hbt := HBT.out.same hc3
  have b3 := B3.out.ch hc3 (by simp)
  have hrb6 : rb ≠ w2.heap.size := rg_ne HBT.out.rg
  have hlo2 : w.heap.size + 1 ≤ rb := by omega
  have h6F : w2.heap.size ∉ F1 := fun hin => by have := HF2.out _ hin; omega
  have h3F : w.heap.size ∉ F1 := fun hin => by have := HF2.out _ hin; omega
  have h6lo : w.heap.size + 1 ≤ w2.heap.size := by omega
  clear hW3 hc3 HBT B3 hlo
  generalize w2.heap.size = b6 at *
  have HBT := Lib.hid hbt; clear hbt
  have B6 := Lib.hid hb6; clear hb6
  have B3 := Lib.hid b3; clear b3
  have HG0 := Lib.hid hG0; clear hG0
  go_wp2_with fail
  go_loopw [31] (fun i wr => ∃ (k : Nat) (G : Gra) (F : List Nat) (rb cap : Nat), k ≤ n ∧ i = .int .i64 k ∧ Both w wr g rb cap G F ∧ b6 ∉ F ∧ w.heap.size ∉ F ∧ rb ≠ b6 ∧ w.heap.size + 1 ≤ rb ∧ blk wr b6 [.int .i64 G.most, .slice (some ⟨rb, 0, none⟩) G.nodes.length cap] ∧ blk wr w.heap.size [.int .i64 0, .slice none 0 0] ∧ G.most = 200 ∧ G.nodes.length ≤ k + 1 ∧ (inputs G.nodes).length = cntI (l.take k)) (fun i _ => n - (intOf i).toNat)
  case atStart => exact ⟨0, G0, F1, rb, cap, by omega, rfl, HBT.out, h6F, h3F, hrb6, hlo2, B6.out, B3.out, HG0.out.1, by rw [HG0.out.2.1]; omega, HG0.out.2.2⟩
  case round =>
    clear HBT B6 B3 h6F h3F hrb6 hlo2 HN HR HF2 HG0
    obtain ⟨k, G, F, rb, cap, hk, rfl, hbt, h6F, h3F, hrb6, hlo2, b6c, b3, hm, hnl, hil⟩ := hrel
    have hwr6 := b6c.lt
    have HM := Lib.hid hm; clear hm
    have HIL := Lib.hid hil; clear hil
    by_cases hlt : k < n
    · obtain ⟨x, hx⟩ : ∃ x, l[k]? = some x := ⟨_, List.getElem?_eq_getElem (by rw [HLEN.out]; omega)⟩
      obtain ⟨ab, ao, rfl, d0, d1, d2⟩ := (HS.out.ch hbt.ch).cells k x hx
      have hxb := HBD.out x (List.mem_of_getElem? hx)
      have hcn := HCN.out k x hx
      have HCNK := Lib.hid hcn; clear hcn hx
      obtain ⟨inp, xl, xr⟩ := x
      simp only at d0 d1 d2 hxb HCNK
      have HBT := Lib.hid hbt; clear hbt
      have B6 := Lib.hid b6c; clear b6c
      have B3 := Lib.hid b3; clear b3
      go_upto_region 8 with fail
      refine wp_named fun W1 hW1 => ?_
      have hcA : Ch [] wr W1 := by rw [hW1]; exact (Ch.refl _ _).alloc _
      have hb1 : blk W1 wr.heap.size [.bool inp, .int .i64 xl, .int .i64 xr] := by rw [hW1]; exact blk.new' _ _ rfl
      have e0 := hb1.cell (i := 0) rfl
      have hbt := HBT.out.same hcA
      have b6c := B6.out.ch hcA (by simp)
      have b3 := B3.out.ch hcA (by simp)
      have hzA := hcA.size
      clear hW1 d0 d1 d2 HBT B6 B3 hcA
      have HBT := Lib.hid hbt; clear hbt
      have B6 := Lib.hid b6c
      have B3 := Lib.hid b3; clear b3
      have y0 := b6c.cell (i := 0) rfl
      have y1 := b6c.cell (i := 1) rfl
      have hwr6 := b6c.lt
      have hpos := HBT.out.gin.ok.wf.pos
      clear b6c
      cases inp
      · obtain ⟨N, hN⟩ : ∃ N, G.nodes.length = N := ⟨_, rfl⟩
        rw [hN] at hnl hpos
        obtain ⟨p, hp, hpl⟩ : ∃ p : Nat, xl % ((2 * N : Nat) : Int) = p ∧ p < 2 * N := ⟨(xl % ((2 * N : Nat) : Int)).toNat, by
          have := Int.emod_nonneg xl (show ((2 * N : Nat) : Int) ≠ 0 by omega)
          omega, by
          have := Int.emod_nonneg xl (show ((2 * N : Nat) : Int) ≠ 0 by omega)
          have := Int.emod_lt_of_pos xl (show (0 : Int) < ((2 * N : Nat) : Int) by omega)
          omega⟩
        obtain ⟨q, hq, hql⟩ : ∃ q : Nat, xr % ((2 * N : Nat) : Int) = q ∧ q < 2 * N := ⟨(xr % ((2 * N : Nat) : Int)).toNat, by
          have := Int.emod_nonneg xr (show ((2 * N : Nat) : Int) ≠ 0 by omega)
          omega, by
          have := Int.emod_nonneg xr (show ((2 * N : Nat) : Int) ≠ 0 by omega)
          have := Int.emod_lt_of_pos xr (show (0 : Int) < ((2 * N : Nat) : Int) by omega)
          omega⟩
        have HI1 := fun W => index21_is W xl hxb.1 (2 * N) (by omega) (by omega)
        have HI2 := fun W => index21_is W xr hxb.2 (2 * N) (by omega) (by omega)
        simp only [hp] at HI1
        simp only [hq] at HI2
        rw [show ((2 * N : Nat) : Int) = 2 * (N : Int) by omega] at HI1 HI2
        have hroom := and_room21 (G := G) p q (by rw [hN, HM.out]; omega)
        have hand : doAnd G p q = Aig.and G p q := doAnd_r (by omega) (by omega)
        have HAN := fun (W : World) (hW : Ch [] W1 W) => And_g (HBT.out.same hW).gin p q (by omega) (by omega)
        simp only [hand, hroom.1] at HAN
        have HRA := fun (W : World) (F9 : List Nat) (hW : Ch F9 W1 W) (hF : rb ∉ F9) => rAnd_is (HBT.out.rg.ch hW hF) (a := p) (b := q) (by omega) (by omega)
        have HROOM := Lib.hid hroom; clear hroom
        have HI1 := Lib.hid HI1
        have HI2 := Lib.hid HI2
        have HAN := Lib.hid HAN
        have HRA := Lib.hid HRA
        have HBK := Lib.hid hb1; clear hb1
        have HNN := Lib.hid hN
        clear hand hp hq
        rw [hN] at y1
        clear hN
        have hp2 : p ≤ 1000 := by omega
        have hq2 : q ≤ 1000 := by omega
        go_wp2_with fail
        refine Ord.St.door (fun w' => w'.cell? ⟨wr.heap.size, 1, none⟩ = some (.int .i64 xl) ∧ w'.cell? ⟨wr.heap.size, 2, none⟩ = some (.int .i64 xr)) [.fl, .ho, .fl, .ef, .fl, .ho, .fl, .ef, .fl, .fl] [0, 1, 0, 7, 0, 16, 0, 127, 255, 511] [0, 1, 2, 3, 4, 5, 6, 7, 8, 9] mixed (by kernel_rfl) rfl ?_
        obtain ⟨Wc, hWc⟩ : ∃ Wc, Wc = W1.drew := ⟨_, rfl⟩
        rw [← hWc]
        have hcur : Ch [] W1 Wc := by rw [hWc]; exact (Ch.refl _ _).drew
        clear hWc
        have hbk := HBK.out.ch hcur (by simp)
        have HCUR := Lib.hid hcur
        refine Ord.St.fl2 (T' := ?_) 0 [1, 2, 3, 4, 5, 6, 7, 8, 9] _ _ rfl (by kernel_rfl) rfl rfl rfl rfl (fun K w' hk => ?_) ?_
        rotate_left
        · go_step; exact hk
        refine Ord.St.ho2 (T' := ?_) 1 [2, 3, 4, 5, 6, 7, 8, 9] _ _ rfl (by kernel_rfl) rfl rfl rfl rfl ?_ (fun K w' hw' hk => ?_) ?_
        rotate_left
        · exact ⟨hbk.cell rfl, hbk.cell rfl⟩
        · obtain ⟨q1, q2⟩ := hw'; go_step; exact hk
        refine Ord.St.fl2 (T' := ?_) 2 [3, 4, 5, 6, 7, 8, 9] _ _ rfl (by kernel_rfl) rfl rfl rfl rfl (fun K w' hk => ?_) ?_
        rotate_left
        · go_step; exact hk
        refine Ord.St.fl2 (T' := ?_) 4 [3, 5, 6, 7, 8, 9] _ _ rfl (by kernel_rfl) rfl rfl rfl rfl (fun K w' hk => ?_) ?_
        rotate_left
        · go_step; exact hk
        refine Ord.St.ho2 (T' := ?_) 5 [3, 6, 7, 8, 9] _ _ rfl (by kernel_rfl) rfl rfl rfl rfl ?_ (fun K w' hw' hk => ?_) ?_
        rotate_left
        · exact ⟨hbk.cell rfl, hbk.cell rfl⟩
        · obtain ⟨q1, q2⟩ := hw'; go_step; exact hk
        refine Ord.St.fl2 (T' := ?_) 6 [3, 7, 8, 9] _ _ rfl (by kernel_rfl) rfl rfl rfl rfl (fun K w' hk => ?_) ?_
        rotate_left
        · go_step; exact hk
        refine Ord.St.efC 3 [7, 8, 9] _ rfl (by kernel_rfl) (fun K hK => ?_)
        go_wp2_with fail
        refine (HI1.out _).mono ?_
        rintro e w' ⟨rfl, rfl⟩
        go_wp2_with fail
        refine ⟨rfl, hK _ _ ?_ ?_⟩
        · exact ⟨hbk.cell rfl, hbk.cell rfl⟩
        clear hK K
        refine Ord.St.ef 7 [8, 9] _ rfl (by kernel_rfl) (fun K hK => ?_)
        go_wp2_with fail
        refine (HI2.out _).mono ?_
        rintro e w' ⟨rfl, rfl⟩
        go_wp2_with fail
        refine ⟨rfl, hK _ _ ?_⟩; clear hK K
        refine Ord.St.fl2 (T' := ?_) 8 [9] _ _ rfl (by kernel_rfl) rfl rfl rfl rfl (fun K w' hk => ?_) ?_
        rotate_left
        · go_step; exact hk
        refine Ord.St.fl2 (T' := ?_) 9 [] _ _ rfl (by kernel_rfl) rfl rfl rfl rfl (fun K w' hk => ?_) ?_
        rotate_left
        · go_step; exact hk
        refine Ord.St.nil ?_
        have han := HAN.out Wc HCUR.out
        have HAN1 := Lib.hid han; clear han HAN
        have hbtc := HBT.out.same HCUR.out
        have B6c := Lib.hid (B6.out.ch HCUR.out (by simp))
        have B3c := Lib.hid (B3.out.ch HCUR.out (by simp))
        have hzc := HCUR.out.size
        have HBTc := Lib.hid hbtc; clear hbtc hbk
        go_wp2_with fail
        refine HAN1.out.mono ?_
        rintro e w5 ⟨rfl, F', hg5, hc5, hF5, _⟩
        have hB5 := HRA.out w5 F (HCUR.out.mono (by simp) |>.trans hc5 (fun k hk => .inl hk)) HBT.out.ap
        have b6c := B6c.out.ch hc5 h6F
        have b3 := B3c.out.ch hc5 h3F
        have y0 := b6c.cell (i := 0) rfl
        have y1 := b6c.cell (i := 1) rfl
        have h6F' : b6 ∉ F' := fun hin => by rcases hF5 _ hin with e | e; exact h6F e; have := B6c.out.lt; omega
        have h3F' : w.heap.size ∉ F' := fun hin => by rcases hF5 _ hin with e | e; exact h3F e; have := B3c.out.lt; omega
        have hz5 := b6c.lt
        have HB5 := Lib.hid hB5; clear hB5 HRA
        have HG5 := Lib.hid hg5; clear hg5
        have HC5 := Lib.hid hc5; clear hc5
        have HF5 := Lib.hid hF5; clear hF5
        have BB6 := Lib.hid b6c; clear b6c
        have BB3 := Lib.hid b3; clear b3
        clear B6 B3 B6c B3c HAN1
        go_wp2_with fail
        refine HB5.out.mono ?_
        rintro e w6 ⟨rb', cap', rfl, hrg6, hc6, hfr⟩
        have hbt6 := HBTc.out.next (G' := (Aig.and G p q).1) HG5.out HC5.out HF5.out hrg6 hc6 hfr
        clear HB5 HG5 HC5 HF5 HBTc HBT
        obtain ⟨G1, hG1⟩ : ∃ G1, (Aig.and G p q).1 = G1 := ⟨_, rfl⟩
        have hrm := HROOM.out
        rw [hG1] at hbt6 hrg6 hrm ⊢
        have HRM := Lib.hid hrm; clear hrm HROOM hG1
        have hrb' : rb' ≠ b6 := by rcases hfr with e | e <;> omega
        have hlo' : w.heap.size + 1 ≤ rb' := by rcases hfr with e | e <;> omega
        have b6c := BB6.out.ch hc6 (by simp)
        have b3 := BB3.out.ch hc6 (by simp)
        have f0 := b6c.frozen (i := 0)
        have f1 := b6c.frozen (i := 1)
        have y0 := b6c.cell (i := 0) rfl
        have y1 := b6c.cell (i := 1) rfl
        have HBT6 := Lib.hid hbt6; clear hbt6
        have BC6 := Lib.hid b6c; clear b6c
        have BC3 := Lib.hid b3; clear b3
        clear BB6 BB3 hrg6 hc6 hfr
        go_upto_region 15 with fail
        refine wp_named fun W7 hW7 => ?_
        have hcs : Ch [b6] w6 W7 := set2_ch (u := .int .i64 G1.most) (v := .slice (some ⟨rb', 0, none⟩) G1.nodes.length cap') hW7
        have hbt7 := HBT6.out.set hcs h6F' hrb' (by omega)
        have b67 : blk W7 b6 [.int .i64 G1.most, .slice (some ⟨rb', 0, none⟩) G1.nodes.length cap'] := by rw [hW7]; exact (BC6.out.set (i := 0) _).set (i := 1) _
        have b37 := BC3.out.ch hcs (by simp; omega)
        clear hW7 hcs y0 y1 f0 f1 BC6 BC3 HBT6
        have y1 := b67.cell (i := 1) rfl
        have HBT7 := Lib.hid hbt7; clear hbt7
        have B67 := Lib.hid b67; clear b67
        have B37 := Lib.hid b37; clear b37
        have hLn := fun (W : World) (hW : Ch [] W7 W) => Len_g (HBT7.out.same hW).gin
        have HLN := Lib.hid hLn; clear hLn
        obtain ⟨N1, hN1⟩ : ∃ N1, G1.nodes.length = N1 := ⟨_, rfl⟩
        rw [hN1] at HLN y1
        have e9 : ((N1 : Int) != (N1 : Int)) = false := by simp
        have HN1 := Lib.hid hN1; clear hN1
        refine Ord.St.door (fun _ => True) [.fl, .fl, .fl, .fl, .rd, .fl, .rd, .rd, .fl, .fl] [0, 1, 3, 7, 15, 7, 39, 103, 255, 511] [0, 1, 2, 3, 4, 5, 6, 7, 8, 9] mixed (by kernel_rfl) rfl ?_
        refine Ord.St.fl2 (T' := ?_) 0 [1, 2, 3, 4, 5, 6, 7, 8, 9] _ _ rfl (by kernel_rfl) rfl rfl rfl rfl (fun K w' hk => ?_) ?_
        rotate_left
        · go_step; exact hk
        refine Ord.St.fl2 (T' := ?_) 1 [2, 3, 4, 5, 6, 7, 8, 9] _ _ rfl (by kernel_rfl) rfl rfl rfl rfl (fun K w' hk => ?_) ?_
        rotate_left
        · go_step; exact hk
        refine Ord.St.fl2 (T' := ?_) 2 [3, 4, 5, 6, 7, 8, 9] _ _ rfl (by kernel_rfl) rfl rfl rfl rfl (fun K w' hk => ?_) ?_
        rotate_left
        · go_step; exact hk
        first | (refine Ord.St.fl2 (T' := ?_) 3 [4, 5, 6, 7, 8, 9] _ _ rfl (by kernel_rfl) ?_ rfl rfl rfl (fun K w' hk => ?_) ?_; rotate_left; (first | rfl | (simp [Region.wanted, yielded, *]; done)); focus (go_step; exact hk)) | (refine Ord.St.skip 3 [4, 5, 6, 7, 8, 9] _ rfl (by kernel_rfl) ?_ (fun K hK => ?_); (first | rfl | (simp [Region.wanted, yielded, *]; done)); go_simp; refine hK _ ?_; clear hK K)
        first | (refine Ord.St.rd2 (T' := ?_) 4 [5, 6, 7, 8, 9] _ _ rfl (by kernel_rfl) ?_ rfl rfl rfl (fun K hk => ?_) ?_; rotate_left; (first | rfl | (simp [Region.wanted, yielded, *]; done)); focus (go_step; refine (HLN.out _ (Ch.refl _ _).drew).mono ?_; rintro e w' ⟨rfl, rfl⟩; exact hk)) | (refine Ord.St.skipr 4 [5, 6, 7, 8, 9] _ rfl (by kernel_rfl) ?_ (fun K hK => ?_); (first | rfl | (simp [Region.wanted, yielded, *]; done)); go_simp; refine hK _ ?_; clear hK K)
        first | (refine Ord.St.fl2 (T' := ?_) 5 [6, 7, 8, 9] _ _ rfl (by kernel_rfl) ?_ rfl rfl rfl (fun K w' hk => ?_) ?_; rotate_left; (first | rfl | (simp [Region.wanted, yielded, *]; done)); focus (go_step; exact hk)) | (refine Ord.St.skip 5 [6, 7, 8, 9] _ rfl (by kernel_rfl) ?_ (fun K hK => ?_); (first | rfl | (simp [Region.wanted, yielded, *]; done)); go_simp; refine hK _ ?_; clear hK K)
        first | (refine Ord.St.rd2 (T' := ?_) 6 [7, 8, 9] _ _ rfl (by kernel_rfl) ?_ rfl rfl rfl (fun K hk => ?_) ?_; rotate_left; (first | rfl | (simp [Region.wanted, yielded, *]; done)); focus (go_step; exact hk)) | (refine Ord.St.skipr 6 [7, 8, 9] _ rfl (by kernel_rfl) ?_ (fun K hK => ?_); (first | rfl | (simp [Region.wanted, yielded, *]; done)); go_simp; refine hK _ ?_; clear hK K)
        first | (refine Ord.St.rd2 (T' := ?_) 7 [8, 9] _ _ rfl (by kernel_rfl) ?_ rfl rfl rfl (fun K hk => ?_) ?_; rotate_left; (first | rfl | (simp [Region.wanted, yielded, *]; done)); focus (go_step; exact hk)) | (refine Ord.St.skipr 7 [8, 9] _ rfl (by kernel_rfl) ?_ (fun K hK => ?_); (first | rfl | (simp [Region.wanted, yielded, *]; done)); go_simp; refine hK _ ?_; clear hK K)
        first | (refine Ord.St.fl2 (T' := ?_) 8 [9] _ _ rfl (by kernel_rfl) ?_ rfl rfl rfl (fun K w' hk => ?_) ?_; rotate_left; (first | rfl | (simp [Region.wanted, yielded, *]; done)); focus (go_step; exact hk)) | (refine Ord.St.skip 8 [9] _ rfl (by kernel_rfl) ?_ (fun K hK => ?_); (first | rfl | (simp [Region.wanted, yielded, *]; done)); go_simp; refine hK _ ?_; clear hK K)
        refine Ord.St.fl2 (T' := ?_) 9 [] _ _ rfl (by kernel_rfl) rfl rfl rfl rfl (fun K w' hk => ?_) ?_
        rotate_left
        · go_step; exact hk
        refine Ord.St.nil ?_
        go_wp2_with fail
        go_roundw
        case rel => exact ⟨k + 1, G1, F', rb', cap', by omega, by go_num, HBT7.out.same (Ch.refl _ _).drew, h6F', h3F', hrb', hlo', B67.out.ch (Ch.refl [] _).drew (by simp), B37.out.ch (Ch.refl [] _).drew (by simp), by rw [HRM.out.2.1]; exact HM.out, by have := HRM.out.2.2.1; have := HNN.out; omega, by rw [HRM.out.2.2.2, HCNK.out, HIL.out]; rfl⟩
        case measure => simp [intOf]; omega
      · have hroom := input_room (G := G) (by rw [HM.out]; omega)
        have hI := Input_g HBT.out.gin
        rw [hroom.1] at hI
        have HI := Lib.hid hI; clear hI
        have HROOM := Lib.hid hroom; clear hroom hb1
        go_wp2_with fail
        refine HI.out.mono ?_
        rintro e w5 ⟨rfl, F', hg5, hc5, hF5, _⟩
        have hB5 := rPut_is (HBT.out.rg.ch hc5 HBT.out.ap) ⟨2, 0, 0, 0⟩ (fun hm => by
          have hok := hg5.ok
          unfold doInput put at hok
          rw [if_neg (by omega)] at hok
          exact hok)
        have b6c := B6.out.ch hc5 h6F
        have b3 := B3.out.ch hc5 h3F
        have y0 := b6c.cell (i := 0) rfl
        have y1 := b6c.cell (i := 1) rfl
        have h6F' : b6 ∉ F' := fun hin => by rcases hF5 _ hin with e | e; exact h6F e; have := B6.out.lt; omega
        have h3F' : w.heap.size ∉ F' := fun hin => by rcases hF5 _ hin with e | e; exact h3F e; have := B3.out.lt; omega
        have hz5 := b6c.lt
        have HB5 := Lib.hid hB5; clear hB5
        have HG5 := Lib.hid hg5; clear hg5
        have HC5 := Lib.hid hc5; clear hc5
        have HF5 := Lib.hid hF5; clear hF5
        have BB6 := Lib.hid b6c; clear b6c
        have BB3 := Lib.hid b3; clear b3
        clear B6 B3 HI
        go_wp2_with fail
        refine HB5.out.mono ?_
        rintro e w6 ⟨rb', cap', rfl, hrg6, hc6, hfr⟩
        have hbt6 := HBT.out.next (G' := (put G ⟨2, 0, 0, 0⟩).1) HG5.out HC5.out HF5.out hrg6 hc6 hfr
        clear HB5 HG5 HC5 HF5 HBT
        obtain ⟨G1, hG1⟩ : ∃ G1, (put G ⟨2, 0, 0, 0⟩).1 = G1 := ⟨_, rfl⟩
        have hrm := HROOM.out
        change (put G ⟨2, 0, 0, 0⟩).2.2 = 0 ∧ (put G ⟨2, 0, 0, 0⟩).1.most = G.most ∧ (put G ⟨2, 0, 0, 0⟩).1.nodes.length = G.nodes.length + 1 ∧ (inputs (put G ⟨2, 0, 0, 0⟩).1.nodes).length = (inputs G.nodes).length + 1 at hrm
        rw [hG1] at hbt6 hrg6 hrm ⊢
        have HRM := Lib.hid hrm; clear hrm HROOM hG1
        have hrb' : rb' ≠ b6 := by rcases hfr with e | e <;> omega
        have hlo' : w.heap.size + 1 ≤ rb' := by rcases hfr with e | e <;> omega
        have b6c := BB6.out.ch hc6 (by simp)
        have b3 := BB3.out.ch hc6 (by simp)
        have f0 := b6c.frozen (i := 0)
        have f1 := b6c.frozen (i := 1)
        have y0 := b6c.cell (i := 0) rfl
        have y1 := b6c.cell (i := 1) rfl
        have HBT6 := Lib.hid hbt6; clear hbt6
        have BC6 := Lib.hid b6c; clear b6c
        have BC3 := Lib.hid b3; clear b3
        clear BB6 BB3 hrg6 hc6 hfr
        go_upto_region 15 with fail
        refine wp_named fun W7 hW7 => ?_
        have hcs : Ch [b6] w6 W7 := set2_ch (u := .int .i64 G1.most) (v := .slice (some ⟨rb', 0, none⟩) G1.nodes.length cap') hW7
        have hbt7 := HBT6.out.set hcs h6F' hrb' (by omega)
        have b67 : blk W7 b6 [.int .i64 G1.most, .slice (some ⟨rb', 0, none⟩) G1.nodes.length cap'] := by rw [hW7]; exact (BC6.out.set (i := 0) _).set (i := 1) _
        have b37 := BC3.out.ch hcs (by simp; omega)
        clear hW7 hcs y0 y1 f0 f1 BC6 BC3 HBT6
        have y1 := b67.cell (i := 1) rfl
        have HBT7 := Lib.hid hbt7; clear hbt7
        have B67 := Lib.hid b67; clear b67
        have B37 := Lib.hid b37; clear b37
        have hLn := fun (W : World) (hW : Ch [] W7 W) => Len_g (HBT7.out.same hW).gin
        have HLN := Lib.hid hLn; clear hLn
        obtain ⟨N1, hN1⟩ : ∃ N1, G1.nodes.length = N1 := ⟨_, rfl⟩
        rw [hN1] at HLN y1
        have e9 : ((N1 : Int) != (N1 : Int)) = false := by simp
        have HN1 := Lib.hid hN1; clear hN1
        refine Ord.St.door (fun _ => True) [.fl, .fl, .fl, .fl, .rd, .fl, .rd, .rd, .fl, .fl] [0, 1, 3, 7, 15, 7, 39, 103, 255, 511] [0, 1, 2, 3, 4, 5, 6, 7, 8, 9] mixed (by kernel_rfl) rfl ?_
        refine Ord.St.fl2 (T' := ?_) 0 [1, 2, 3, 4, 5, 6, 7, 8, 9] _ _ rfl (by kernel_rfl) rfl rfl rfl rfl (fun K w' hk => ?_) ?_
        rotate_left
        · go_step; exact hk
        refine Ord.St.fl2 (T' := ?_) 1 [2, 3, 4, 5, 6, 7, 8, 9] _ _ rfl (by kernel_rfl) rfl rfl rfl rfl (fun K w' hk => ?_) ?_
        rotate_left
        · go_step; exact hk
        refine Ord.St.fl2 (T' := ?_) 2 [3, 4, 5, 6, 7, 8, 9] _ _ rfl (by kernel_rfl) rfl rfl rfl rfl (fun K w' hk => ?_) ?_
        rotate_left
        · go_step; exact hk
        first | (refine Ord.St.fl2 (T' := ?_) 3 [4, 5, 6, 7, 8, 9] _ _ rfl (by kernel_rfl) ?_ rfl rfl rfl (fun K w' hk => ?_) ?_; rotate_left; (first | rfl | (simp [Region.wanted, yielded, *]; done)); focus (go_step; exact hk)) | (refine Ord.St.skip 3 [4, 5, 6, 7, 8, 9] _ rfl (by kernel_rfl) ?_ (fun K hK => ?_); (first | rfl | (simp [Region.wanted, yielded, *]; done)); go_simp; refine hK _ ?_; clear hK K)
        first | (refine Ord.St.rd2 (T' := ?_) 4 [5, 6, 7, 8, 9] _ _ rfl (by kernel_rfl) ?_ rfl rfl rfl (fun K hk => ?_) ?_; rotate_left; (first | rfl | (simp [Region.wanted, yielded, *]; done)); focus (go_step; refine (HLN.out _ (Ch.refl _ _).drew).mono ?_; rintro e w' ⟨rfl, rfl⟩; exact hk)) | (refine Ord.St.skipr 4 [5, 6, 7, 8, 9] _ rfl (by kernel_rfl) ?_ (fun K hK => ?_); (first | rfl | (simp [Region.wanted, yielded, *]; done)); go_simp; refine hK _ ?_; clear hK K)
        first | (refine Ord.St.fl2 (T' := ?_) 5 [6, 7, 8, 9] _ _ rfl (by kernel_rfl) ?_ rfl rfl rfl (fun K w' hk => ?_) ?_; rotate_left; (first | rfl | (simp [Region.wanted, yielded, *]; done)); focus (go_step; exact hk)) | (refine Ord.St.skip 5 [6, 7, 8, 9] _ rfl (by kernel_rfl) ?_ (fun K hK => ?_); (first | rfl | (simp [Region.wanted, yielded, *]; done)); go_simp; refine hK _ ?_; clear hK K)
        first | (refine Ord.St.rd2 (T' := ?_) 6 [7, 8, 9] _ _ rfl (by kernel_rfl) ?_ rfl rfl rfl (fun K hk => ?_) ?_; rotate_left; (first | rfl | (simp [Region.wanted, yielded, *]; done)); focus (go_step; exact hk)) | (refine Ord.St.skipr 6 [7, 8, 9] _ rfl (by kernel_rfl) ?_ (fun K hK => ?_); (first | rfl | (simp [Region.wanted, yielded, *]; done)); go_simp; refine hK _ ?_; clear hK K)
        first | (refine Ord.St.rd2 (T' := ?_) 7 [8, 9] _ _ rfl (by kernel_rfl) ?_ rfl rfl rfl (fun K hk => ?_) ?_; rotate_left; (first | rfl | (simp [Region.wanted, yielded, *]; done)); focus (go_step; exact hk)) | (refine Ord.St.skipr 7 [8, 9] _ rfl (by kernel_rfl) ?_ (fun K hK => ?_); (first | rfl | (simp [Region.wanted, yielded, *]; done)); go_simp; refine hK _ ?_; clear hK K)
        first | (refine Ord.St.fl2 (T' := ?_) 8 [9] _ _ rfl (by kernel_rfl) ?_ rfl rfl rfl (fun K w' hk => ?_) ?_; rotate_left; (first | rfl | (simp [Region.wanted, yielded, *]; done)); focus (go_step; exact hk)) | (refine Ord.St.skip 8 [9] _ rfl (by kernel_rfl) ?_ (fun K hK => ?_); (first | rfl | (simp [Region.wanted, yielded, *]; done)); go_simp; refine hK _ ?_; clear hK K)
        refine Ord.St.fl2 (T' := ?_) 9 [] _ _ rfl (by kernel_rfl) rfl rfl rfl rfl (fun K w' hk => ?_) ?_
        rotate_left
        · go_step; exact hk
        refine Ord.St.nil ?_
        go_wp2_with fail
        go_roundw
        case rel => exact ⟨k + 1, G1, F', rb', cap', by omega, by go_num, HBT7.out.same (Ch.refl _ _).drew, h6F', h3F', hrb', hlo', B67.out.ch (Ch.refl [] _).drew (by simp), B37.out.ch (Ch.refl [] _).drew (by simp), by rw [HRM.out.2.1]; exact HM.out, by have := HRM.out.2.2.1; omega, by rw [HRM.out.2.2.2, HCNK.out, HIL.out]; rfl⟩
        case measure => simp [intOf]; omega
    · have hkn : k = n := by omega
      have HBT := Lib.hid hbt; clear hbt
      have z0 := b3.cell (i := 0) rfl
      have z1 := b3.cell (i := 1) rfl
      have g0 := b3.frozen (i := 0)
      have g1 := b3.frozen (i := 1)
      have y0 := b6c.cell (i := 0) rfl
      have y1 := b6c.cell (i := 1) rfl
      clear b6c b3
      go_wp2_with fail
      refine Ord.St.door (fun _ => True) [.fl, .rd, .fl, .ef, .fl] [0, 0, 1, 7, 15] [0, 1, 2, 3, 4] mixed (by kernel_rfl) rfl ?_
      refine Ord.St.fl2 (T' := ?_) 0 [1, 2, 3, 4] _ _ rfl (by kernel_rfl) rfl rfl rfl rfl (fun K w' hk => ?_) ?_
      rotate_left
      · go_step; exact hk
      refine Ord.St.rd2 (T' := ?_) 1 [2, 3, 4] _ _ rfl (by kernel_rfl) rfl rfl rfl rfl (fun K hk => ?_) ?_
      rotate_left
      · go_step; exact hk
      refine Ord.St.fl2 (T' := ?_) 2 [3, 4] _ _ rfl (by kernel_rfl) rfl rfl rfl rfl (fun K w' hk => ?_) ?_
      rotate_left
      · go_step; exact hk
      refine Ord.St.ef 3 [4] _ rfl (by kernel_rfl) (fun K hK => ?_)
      go_wp2_with fail
      refine ⟨rfl, hK _ _ ?_⟩; clear hK K
      refine Ord.St.fl2 (T' := ?_) 4 [] _ _ rfl (by kernel_rfl) rfl rfl rfl rfl (fun K w' hk => ?_) ?_
      rotate_left
      · go_step; exact hk
      refine Ord.St.nil ?_
      go_wp2_with fail
      have hcs : Ch [w.heap.size] wr ((wr.setCell ⟨w.heap.size, 0, none⟩ (.int .i64 G.most)).setCell ⟨w.heap.size, 1, none⟩ (.slice (some ⟨rb, 0, none⟩) G.nodes.length cap)).drew := (((Ch.refl _ _).setCell (by simp) _).setCell (by simp) _).drew
      refine bodyPost_ret (v := .tuple #[.pointer (some ⟨g, 0, none⟩), .agg #[.int .i64 G.most, .slice (some ⟨rb, 0, none⟩) G.nodes.length cap], .bool true]) (by simp [results, Try.results72, go_sem, z0, z1]) rfl ?_
      refine ⟨g, F, rb, cap, G, rfl, HBT.out.set hcs h3F (by omega) (by omega), HM.out, by omega, ?_⟩
      rw [HIL.out, hkn, HFULL.out]
end
end Go.Proofs.Ytnmfdiiehkkjcaa
namespace Go.Proofs.Ytnmfdiiehkkjcaa
open Go.RowKit Go.Mem Go.Aig
section
variable {w : World}
set_option maxRecDepth 100000 in
set_option maxHeartbeats 1000000 in
theorem EFbool_yes {a b : Option Addr} {xs : List Bool} {ys : List Int} (n ca cb fid : Nat) (hx : xs.length = n) (hy : ys.length = n) (hn : n ≤ 1000000) (h : Sb w a xs) (h2 : Sl w b ys) (hf : ∀ (k : Nat) x y, xs[k]? = some x → ys[k]? = some y → Calls Try.prog fid #[.bool x, .int .i64 y] w fun e w' => e = .returned (.bool true) ∧ w = w') (hfn : Fnv fid) :
    Calls Try.prog 144 #[.slice a n ca, .slice b n cb, .func (.func fid) #[] #[]] w fun e w' => e = .returned (.bool true) ∧ w = w' := by
  have hcf : ∀ (args : Array Value) (w : World), (callFunc fid args).run Try.prog w = .ok (.enter fid args) w := hfn
  have HF := Lib.hid hf; clear hf
  have H := Lib.hid h; clear h
  have H2 := Lib.hid h2; clear h2
  have HX := Lib.hid hx; clear hx
  have HY := Lib.hid hy; clear hy
  go_enter Try.func144, Try.ntmps144
  go_wp2_with fail
  go_loopw [17] (fun i wr => ∃ k : Nat, k ≤ n ∧ i = .int .i64 k ∧ w = wr) (fun i _ => n - (intOf i).toNat)
  case atStart => exact ⟨0, by omega, rfl, rfl⟩
  case round =>
    obtain ⟨k, hk, rfl, rfl⟩ := hrel
    by_cases hlt : k < n
    · obtain ⟨x, hx⟩ : ∃ x, xs[k]? = some x := ⟨_, List.getElem?_eq_getElem (by rw [HX.out]; exact hlt)⟩
      obtain ⟨y, hy⟩ : ∃ y, ys[k]? = some y := ⟨_, List.getElem?_eq_getElem (by rw [HY.out]; exact hlt)⟩
      have HC := Lib.hid (HF.out k x y hx hy)
      obtain ⟨b1, o1, rfl, c1⟩ := H.out.cells k (.bool x) (by simp [hx])
      obtain ⟨b2, o2, rfl, c2⟩ := H2.out.cells k y hy
      clear hx hy
      go_wp2_with fail
      refine HC.out.mono ?_
      rintro e w' ⟨rfl, rfl⟩
      go_wp2_with fail
      go_roundw
      case rel => exact ⟨k + 1, by omega, by go_num, trivial⟩
      case measure => simp [intOf]; omega
    · go_wp2_with fail
      go_ret
      exact ⟨rfl, rfl⟩
set_option maxRecDepth 100000 in
set_option maxHeartbeats 1000000 in
theorem EFref_yes {a b : Option Addr} {xs ys : List Int} (n ca cb fid : Nat) (hx : xs.length = n) (hy : ys.length = n) (hn : n ≤ 1000000) (h : Sl w a xs) (h2 : Sl w b ys) (hf : ∀ (k : Nat) x y, xs[k]? = some x → ys[k]? = some y → Calls Try.prog fid #[.int .i64 x, .int .i64 y] w fun e w' => e = .returned (.bool true) ∧ w = w') (hfn : Fnv fid) :
    Calls Try.prog 98 #[.slice a n ca, .slice b n cb, .func (.func fid) #[] #[]] w fun e w' => e = .returned (.bool true) ∧ w = w' := by
  have hcf : ∀ (args : Array Value) (w : World), (callFunc fid args).run Try.prog w = .ok (.enter fid args) w := hfn
  have HF := Lib.hid hf; clear hf
  have H := Lib.hid h; clear h
  have H2 := Lib.hid h2; clear h2
  have HX := Lib.hid hx; clear hx
  have HY := Lib.hid hy; clear hy
  go_enter Try.func98, Try.ntmps98
  go_wp2_with fail
  go_loopw [17] (fun i wr => ∃ k : Nat, k ≤ n ∧ i = .int .i64 k ∧ w = wr) (fun i _ => n - (intOf i).toNat)
  case atStart => exact ⟨0, by omega, rfl, rfl⟩
  case round =>
    obtain ⟨k, hk, rfl, rfl⟩ := hrel
    by_cases hlt : k < n
    · obtain ⟨x, hx⟩ : ∃ x, xs[k]? = some x := ⟨_, List.getElem?_eq_getElem (by rw [HX.out]; exact hlt)⟩
      obtain ⟨y, hy⟩ : ∃ y, ys[k]? = some y := ⟨_, List.getElem?_eq_getElem (by rw [HY.out]; exact hlt)⟩
      have HC := Lib.hid (HF.out k x y hx hy)
      obtain ⟨b1, o1, rfl, c1⟩ := H.out.cells k x hx
      obtain ⟨b2, o2, rfl, c2⟩ := H2.out.cells k y hy
      clear hx hy
      go_wp2_with fail
      refine HC.out.mono ?_
      rintro e w' ⟨rfl, rfl⟩
      go_wp2_with fail
      go_roundw
      case rel => exact ⟨k + 1, by omega, by go_num, trivial⟩
      case measure => simp [intOf]; omega
    · go_wp2_with fail
      go_ret
      exact ⟨rfl, rfl⟩
theorem fnvsame21_1 : Fnv 145 := fnv_of Try.func145 (by simp [Try.f145]) (by simp [Try.f145])
theorem fnvwords21_1 : Fnv 99 := fnv_of Try.func99 (by simp [Try.f99]) (by simp [Try.f99])
set_option maxRecDepth 100000 in
theorem same21_1_is (x : Bool) : Calls Try.prog 145 #[.bool x, .int .i64 (x.toNat : Nat)] w fun e w' => e = .returned (.bool true) ∧ w = w' := by
  cases x
  · go_enter Try.func145, Try.ntmps145
    go_wp2_with fail
    go_ret
    exact ⟨rfl, rfl⟩
  · go_enter Try.func145, Try.ntmps145
    go_wp2_with fail
    go_ret
    exact ⟨rfl, rfl⟩
set_option maxRecDepth 100000 in
theorem words21_1_is (x : Int) : Calls Try.prog 99 #[.int .i64 x, .int .i64 x] w fun e w' => e = .returned (.bool true) ∧ w = w' := by
  have e1 : (x == x) = true := by simp
  go_enter Try.func99, Try.ntmps99
  go_wp2_with fail
  go_ret
  exact ⟨ret_bool (by simp), rfl⟩
set_option maxRecDepth 100000 in
set_option maxHeartbeats 1000000 in
theorem same21_no (k c : Nat) (a : Option Addr) (z : Int) (hz : z < 0) : Calls Try.prog 75 #[.slice a 0 c, .bool false, .int .i64 k, .int .i64 z] w fun e w' => e = .returned (.bool true) ∧ Ch [] w w' := by
  go_enter Try.func75, Try.ntmps75
  go_wp2_with fail
  go_ret
  exact ⟨rfl, Ch.refl _ _⟩
set_option maxRecDepth 100000 in
set_option maxHeartbeats 1000000 in
theorem same21_yes (k c x : Nat) (hk : k ≤ 60) (hx : x ≤ 9223372036854775807) {a : Option Addr} (h : Sb w a (asgBits k x)) : Calls Try.prog 75 #[.slice a k c, .bool true, .int .i64 k, .int .i64 x] w fun e w' => e = .returned (.bool true) ∧ Ch [] w w' := by
  have hAS := r21Assignment_is (w := w) k x hk hx
  have hEF := fun (W : World) (hW : Ch [] w W) (b : Option Addr) (cb : Nat) (hb : Sv W b (refsCells (asgN k x))) => EFbool_yes (w := W) (a := a) (b := b) (xs := asgBits k x) (ys := natInts (asgN k x)) k c cb 145 (asgBits_len k x) (by rw [natInts_len, asgN_len]) (by omega) (h.ch hW (by simp)) ⟨fun i y hy => hb.cells i _ (by
      unfold natInts at hy
      unfold refsCells
      rw [List.getElem?_map] at hy ⊢
      cases h1 : (asgN k x)[i]? with
      | none => rw [h1] at hy; cases hy
      | some r => rw [h1] at hy; simp at hy; subst hy; rfl), by simp [natInts, asgN]; omega⟩ (fun i u y hu hy => by
      have h1 : y = ((u.toNat : Nat) : Int) := by
        unfold asgBits at hu
        unfold natInts asgN at hy
        rw [List.getElem?_map] at hu
        rw [List.getElem?_map, List.getElem?_map] at hy
        cases h2 : (List.range k)[i]? with
        | none => rw [h2] at hu; cases hu
        | some q => rw [h2] at hu hy; simp at hu hy; rw [← hu, ← hy]
      rw [h1]
      exact same21_1_is u) fnvsame21_1
  have HAS := Lib.hid hAS; clear hAS
  have HEF := Lib.hid hEF; clear hEF h
  go_enter Try.func75, Try.ntmps75
  go_wp2_with fail
  refine HAS.out.mono ?_
  rintro e w1 ⟨v, rfl, hrow, _, hc1⟩
  obtain ⟨ba, bc, rfl⟩ := row.shape hrow
  have hef := HEF.out w1 hc1 ba bc (row.sv hrow rfl (by omega))
  have HEF1 := Lib.hid hef; clear hef hrow
  have HC1 := Lib.hid hc1; clear hc1
  go_wp2_with fail
  refine HEF1.out.mono ?_
  rintro e w' ⟨rfl, rfl⟩
  go_wp2_with fail
  go_ret
  exact ⟨rfl, HC1.out⟩
end
end Go.Proofs.Ytnmfdiiehkkjcaa
namespace Go.Aig
def setB (T : List Nat) (i : Nat) : List Nat := T.set (i / 64) (T.getD (i / 64) 0 ||| 2 ^ (i % 64))
theorem setB_len (T : List Nat) (i : Nat) : (setB T i).length = T.length := by simp [setB]
theorem setB_bit {T : List Nat} {i : Nat} (hi : i / 64 < T.length) (a : Nat) : tbit (setB T i) a = (tbit T a || decide (a = i)) := by
  unfold tbit setB
  rw [List.getD_eq_getElem?_getD, List.getElem?_set]
  by_cases h : i / 64 = a / 64
  · rw [if_pos h, if_pos hi]
    simp only [Option.getD_some]
    rw [Nat.testBit_or, h, Nat.testBit_two_pow]
    congr 1
    by_cases h2 : i % 64 = a % 64
    · rw [decide_eq_true h2, decide_eq_true (by omega)]
    · rw [decide_eq_false h2, decide_eq_false (by omega)]
  · rw [if_neg h, ← List.getD_eq_getElem?_getD, decide_eq_false (by omega), Bool.or_false]
theorem setB_lt {T : List Nat} (h : ∀ v ∈ T, v < 2 ^ 64) (i : Nat) : ∀ v ∈ setB T i, v < 2 ^ 64 := fun v hv => by
  unfold setB at hv
  rcases List.mem_or_eq_of_mem_set hv with h1 | h1
  · exact h v h1
  · rw [h1]
    refine Nat.or_lt_two_pow ?_ (Nat.pow_lt_pow_right (by omega) (by omega))
    by_cases hi : i / 64 < T.length
    · rw [List.getD_eq_getElem?_getD, List.getElem?_eq_getElem hi]
      exact h _ (List.getElem_mem _)
    · rw [List.getD_eq_getElem?_getD, List.getElem?_eq_none (by omega)]
      decide
def setBs (T : List Nat) (X : List Nat) : List Nat := X.foldl setB T
theorem setBs_snoc (T X : List Nat) (i : Nat) : setBs T (X ++ [i]) = setB (setBs T X) i := by unfold setBs; rw [List.foldl_append]; rfl
theorem setBs_len (T : List Nat) : ∀ X, (setBs T X).length = T.length := fun X => by
  induction X using List.snocRec with
  | nil => rfl
  | snoc X x ih => rw [setBs_snoc, setB_len, ih]
theorem setBs_lt {T : List Nat} (h : ∀ v ∈ T, v < 2 ^ 64) : ∀ X, ∀ v ∈ setBs T X, v < 2 ^ 64 := fun X => by
  induction X using List.snocRec with
  | nil => exact h
  | snoc X x ih => rw [setBs_snoc]; exact setB_lt ih x
theorem setBs_bit {C : Nat} : ∀ X : List Nat, (∀ i ∈ X, i / 64 < C) → ∀ a, tbit (setBs (List.replicate C 0) X) a = decide (a ∈ X) := fun X => by
  induction X using List.snocRec with
  | nil =>
    intro _ a
    have : (List.replicate C 0).getD (a / 64) 0 = 0 := by
      rw [List.getD_eq_getElem?_getD, List.getElem?_replicate]
      split <;> rfl
    show ((List.replicate C 0).getD (a / 64) 0).testBit (a % 64) = _
    rw [this]
    simp
  | snoc X x ih =>
    intro h a
    rw [setBs_snoc, setB_bit (by rw [setBs_len, List.length_replicate]; exact h x (by simp)), ih (fun i hi => h i (by simp [hi]))]
    by_cases h1 : a ∈ X <;> by_cases h2 : a = x <;> simp [h1, h2]
/-- the table that is built out of the numbers is the table -/
theorem table_of {n : Nat} {p : Nat → Bool} {T : List Nat} (hT : TabOf T n p) (hTb : ∀ v ∈ T, v < 2 ^ 64) : setBs (List.replicate (2 ^ (n - 6)) 0) (trueL n p) = T := by
  have hle := blocks_le n
  have hX : ∀ i ∈ trueL n p, i / 64 < 2 ^ (n - 6) := fun i hi => by
    have := List.mem_range.1 (List.mem_filter.1 hi).1
    omega
  have hb := setBs_bit (C := 2 ^ (n - 6)) (trueL n p) hX
  refine TabOf.ext (n := n) (p := p) ⟨by rw [setBs_len, List.length_replicate], fun a ha => ?_, fun a h1 _ => ?_⟩ hT (setBs_lt (fun v hv => by rw [(List.mem_replicate.1 hv).2]; decide) _) hTb
  · rw [hb a]
    unfold trueL
    cases h : p a
    · exact decide_eq_false (fun hin => by rw [(List.mem_filter.1 hin).2] at h; cases h)
    · exact decide_eq_true (List.mem_filter.2 ⟨List.mem_range.2 ha, h⟩)
  · rw [hb a]
    exact decide_eq_false (fun hin => by have := List.mem_range.1 (List.mem_filter.1 hin).1; omega)
/-- the first one -/
theorem first_none {n : Nat} {p : Nat → Bool} (h : trueL n p = []) : firstR n p = ([], false) := by
  have : firstV n p = none := firstV_none.2 fun a ha => by
    cases h2 : p a
    · rfl
    · have : a ∈ trueL n p := List.mem_filter.2 ⟨List.mem_range.2 ha, h2⟩
      rw [h] at this
      cases this
  unfold firstR
  rw [this]
theorem first_some {n x : Nat} {p : Nat → Bool} (h : (trueL n p)[0]? = some x) : firstR n p = (asgBits n x, true) ∧ x < 2 ^ n := by
  obtain ⟨h1, h2, h3⟩ := filter_at p _ 0 x h
  have : firstV n p = some x := by
    unfold firstV
    refine find_range p x h1 (fun b hb => ?_) _ h2
    cases h4 : p b
    · rfl
    · have : b ∈ (List.range x).filter p := mem_filter_range.2 ⟨hb, h4⟩
      rw [← h3] at this
      simp at this
  unfold firstR
  rw [this]
  exact ⟨rfl, h2⟩
theorem part_first {ns : List Nd} {n a b : Nat} : (partL n (tellR ns n a) (tellR ns n b) = -1 ∧ firstR n (tellX ns n a b) = ([], false)) ∨ ∃ x : Nat, partL n (tellR ns n a) (tellR ns n b) = x ∧ firstR n (tellX ns n a b) = (asgBits n x, true) ∧ x < 2 ^ n := by
  have e : partL n (tellR ns n a) (tellR ns n b) = match firstV n (tellX ns n a b) with
    | none => -1
    | some x => (x : Int) := rfl
  cases h : firstV n (tellX ns n a b) with
  | none =>
    refine .inl ⟨by rw [e, h], ?_⟩
    unfold firstR
    rw [h]
  | some x =>
    refine .inr ⟨x, by rw [e, h], ?_, (firstV_some h).1⟩
    unfold firstR
    rw [h]
end Go.Aig
namespace Go.Proofs.Ytnmfdiiehkkjcaa
open Go.RowKit Go.Mem Go.Aig
theorem rCells_len0 (ns : List Nd) : (rCells ns).length = ns.length * 3 := rCells_length ns
/-- the reference's graph out of a slice that is held -/
theorem RG.held {w : World} {rb cap : Nat} {G : Gra} (h : Sv w (some ⟨rb, 0, none⟩) (rCells G.nodes)) (hle : G.nodes.length ≤ cap) (hmx : cap ≤ 9223372036854775807) (ok : Ok G) : RG w rb cap G := by
  have hc : ∀ j u, (rCells G.nodes)[j]? = some u → w.cell? ⟨rb, j, none⟩ = some u := fun j u hu => by
    obtain ⟨b, o, e, hh⟩ := h.cells j u hu
    cases e
    rwa [Nat.zero_add] at hh
  have hp := ok.wf.pos
  refine ⟨hc, ?_, hle, hmx, ok⟩
  have hl := rCells_length G.nodes
  have := hc 0 _ (List.getElem?_eq_getElem (by omega))
  exact cell_lt this
theorem RG.sv {w : World} {rb cap : Nat} {G : Gra} (h : RG w rb cap G) : Sv w (some ⟨rb, 0, none⟩) (rCells G.nodes) := ⟨fun i x hx => ⟨rb, 0, rfl, by rw [Nat.zero_add]; exact h.cells i x hx⟩, by
  have := h.len
  rw [rCells_length]
  omega⟩
theorem bits_or_u64_pow (u r : Nat) (hu : u < 18446744073709551616) (hr : r < 64) : bits .or .u64 (u : Int) (IntKind.u64.wrap ((2 : Int) ^ r)) = ((u ||| 2 ^ r : Nat) : Int) := by
  have hp : 2 ^ r < 2 ^ 64 := Nat.pow_lt_pow_right (by omega) hr
  have h0 : ((2 : Int) ^ r) = ((2 ^ r : Nat) : Int) := by simp
  rw [h0]
  generalize 2 ^ r = P at hp
  have hw : IntKind.u64.wrap (P : Int) = (P : Int) := by simp only [IntKind.wrap, show IntKind.u64.bits = 64 from rfl, show IntKind.u64.signed = false from rfl]; simp; omega
  rw [hw]
  have hx : u ||| P < 2 ^ 64 := Nat.or_lt_two_pow (by omega) hp
  have h1 : (BitVec.ofInt 64 (u : Int)).toNat = u := by
    rw [BitVec.ofInt_natCast, BitVec.toNat_ofNat]; exact Nat.mod_eq_of_lt (by omega)
  have h2 : (BitVec.ofInt 64 (P : Int)).toNat = P := by
    rw [BitVec.ofInt_natCast, BitVec.toNat_ofNat]; exact Nat.mod_eq_of_lt (by omega)
  show IntKind.u64.wrap ((BitVec.ofInt 64 (u : Int) ||| BitVec.ofInt 64 (P : Int)).toNat : Int) = _
  rw [BitVec.toNat_or, h1, h2]
  simp only [IntKind.wrap, show IntKind.u64.bits = 64 from rfl, show IntKind.u64.signed = false from rfl]
  simp
  omega
end Go.Proofs.Ytnmfdiiehkkjcaa
