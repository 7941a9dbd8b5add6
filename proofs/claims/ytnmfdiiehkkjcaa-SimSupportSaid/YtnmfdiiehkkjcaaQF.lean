/-
  Walks over few, index, ref and made of chapter 21's laws. Conditions: a slice of nodes of any integers.
  From a law's arguments to what the walks say: nodes, slices of words. Conditions: those of the given row.
  Walk over slices.Equal of words; the functions of sim as steps of a walk that holds slices. Conditions: slices that can be read.
  Walk over the chapter's examples (awake of sim): true. Conditions: none.
  append of a number of zeros to a row of any shape. Conditions: a row, an element type of the table.
  Walk over slices.Clone of words; words fitted to as many as inputs; what the nodes are for words of the inputs, node by node. Conditions: a slice that can be read.
  The support of references, plainly: what does not lie in it does not matter. No program in sight. Conditions: a graph in order.
  Words and bits of all references, plainly. Conditions: none beyond the hypotheses.
  What tables, counts and first assignments are, plainly, for the laws of chapter 21. Conditions: none beyond the hypotheses.
  Walks over Clone and Compact of numbers; the function of SimSupport that asks whether a number is not there. Conditions: slices that can be read.
  Words that are refused: what check says of them, and what the functions of sums do with them. Conditions: a graph in memory, words that are held.
  New words that are changed, or grown, before they are held. Conditions: none beyond the hypotheses.
  Walk over SimSupport: true, whatever comes in. Conditions: nodes of any integers, any bytes, any words.
-/
import Derived.Test.YtnmfdiiehkkjcaaQE
import Derived.Test.YtnmfdiiehkkjcaaQD
import Derived.Test.YtnmfdiiehkkjcaaQB
import Derived.Test.YtnmfdiiehkkjcaaQA
import Derived.Lib.AppendZeros
import Derived.Test.YtnmfdiiehkkjcaaQC
namespace Go.Aig
/-- a node that is wanted -/
structure N21 where
  inp : Bool
  l : Int
  r : Int
deriving Inhabited
def fewS (q : List N21 × Nat) (x : N21) : List N21 × Nat := (if q.2 + x.inp.toNat ≤ 8 ∨ x.inp = false then q.1 ++ [x] else q.1, q.2 + x.inp.toNat)
def fewL (l : List N21) : List N21 := ((l.take 40).foldl fewS ([], 0)).1
def cntI (l : List N21) : Nat := (l.filter fun x => x.inp).length
theorem cntI_snoc (l : List N21) (x : N21) : cntI (l ++ [x]) = cntI l + x.inp.toNat := by
  unfold cntI
  rw [List.filter_append, List.length_append]
  cases h : x.inp <;> simp [h]
theorem few_inv : ∀ l : List N21, (l.foldl fewS ([], 0)).1.length ≤ l.length ∧ cntI (l.foldl fewS ([], 0)).1 ≤ 8 ∧ cntI (l.foldl fewS ([], 0)).1 ≤ (l.foldl fewS ([], 0)).2 ∧ (l.foldl fewS ([], 0)).2 ≤ l.length := by
  intro l
  induction l using List.snocRec with
  | nil => exact ⟨Nat.le_refl _, by simp [cntI], by simp [cntI], Nat.le_refl _⟩
  | snoc l x ih =>
    obtain ⟨h1, h2, h3, h4⟩ := ih
    rw [List.foldl_append]
    generalize l.foldl fewS ([], 0) = q at *
    have hx : x.inp.toNat ≤ 1 := by cases x.inp <;> simp
    show (fewS q x).1.length ≤ _ ∧ cntI (fewS q x).1 ≤ 8 ∧ cntI (fewS q x).1 ≤ (fewS q x).2 ∧ (fewS q x).2 ≤ _
    unfold fewS
    simp only
    split
    · rename_i h
      rw [List.length_append, List.length_append, cntI_snoc]
      refine ⟨by simp; omega, ?_, by omega, by simp; omega⟩
      rcases h with h | h
      · omega
      · rw [h]; simpa using h2
    · rw [List.length_append]
      exact ⟨by omega, h2, by omega, by simp; omega⟩
theorem fewS_sub : ∀ (l : List N21) (q : List N21 × Nat), ∀ x ∈ (l.foldl fewS q).1, x ∈ q.1 ∨ x ∈ l := by
  intro l
  induction l with
  | nil => intro q x hx; exact .inl hx
  | cons y l ih =>
    intro q x hx
    rcases ih _ x hx with h | h
    · unfold fewS at h
      simp only at h
      split at h
      · rcases List.mem_append.1 h with h | h
        · exact .inl h
        · rw [List.mem_singleton.1 h]; exact .inr (List.mem_cons_self ..)
      · exact .inl h
    · exact .inr (List.mem_cons_of_mem _ h)
theorem fewL_sub {l : List N21} {x : N21} (h : x ∈ fewL l) : x ∈ l := by
  rcases fewS_sub (l.take 40) ([], 0) x h with h | h
  · simp at h
  · exact List.mem_of_mem_take h
theorem fewL_len (l : List N21) : (fewL l).length ≤ 40 ∧ cntI (fewL l) ≤ 8 := by
  have := few_inv (l.take 40)
  unfold fewL
  rw [List.length_take] at this
  omega
end Go.Aig
namespace Go.Proofs.Ytnmfdiiehkkjcaa
open Go.RowKit Go.Mem Go.Aig
theorem and_room21 {G : Gra} (a b : Nat) (h : G.nodes.length < G.most) : (Aig.and G a b).2.2 = 0 ∧ (Aig.and G a b).1.most = G.most ∧ (Aig.and G a b).1.nodes.length ≤ G.nodes.length + 1 ∧ inputs (Aig.and G a b).1.nodes = inputs G.nodes := by
  unfold Aig.and
  split
  · exact ⟨rfl, rfl, by simp, rfl⟩
  · split
    · exact ⟨rfl, rfl, by simp, rfl⟩
    · unfold put
      rw [if_neg (by omega)]
      refine ⟨rfl, rfl, by simp, ?_⟩
      exact inputs_append (by simp)
theorem input_room {G : Gra} (h : G.nodes.length < G.most) : (doInput G).2.2 = 0 ∧ (doInput G).1.most = G.most ∧ (doInput G).1.nodes.length = G.nodes.length + 1 ∧ (inputs (doInput G).1.nodes).length = (inputs G.nodes).length + 1 := by
  unfold doInput put
  rw [if_neg (by omega)]
  refine ⟨rfl, rfl, by simp, ?_⟩
  show (inputs (G.nodes ++ [_])).length = _
  rw [inputs_input rfl]
  simp
/-- a slice of nodes -/
structure NodeS (w : World) (a : Option Addr) (n cap : Nat) (l : List N21) : Prop where
  len : l.length = n
  le : n ≤ cap
  max : cap ≤ 9223372036854775807
  cells : ∀ (i : Nat) (x : N21), l[i]? = some x → ∃ b o, a = some ⟨b, o, none⟩ ∧ w.cell? ⟨b, o + i * 3, none⟩ = some (.bool x.inp) ∧ w.cell? ⟨b, o + i * 3 + 1, none⟩ = some (.int .i64 x.l) ∧ w.cell? ⟨b, o + i * 3 + 2, none⟩ = some (.int .i64 x.r)
  bd : ∀ x ∈ l, (-9223372036854775808 ≤ x.l ∧ x.l ≤ 9223372036854775807) ∧ (-9223372036854775808 ≤ x.r ∧ x.r ≤ 9223372036854775807)
theorem NodeS.ch {w w' : World} {a : Option Addr} {n cap : Nat} {l : List N21} (h : NodeS w a n cap l) (hc : Ch [] w w') : NodeS w' a n cap l :=
  ⟨h.len, h.le, h.max, fun i x hx => by
    obtain ⟨b, o, e, h1, h2, h3⟩ := h.cells i x hx
    exact ⟨b, o, e, (hc.cell (cell_lt h1) (by simp)).trans h1, (hc.cell (cell_lt h2) (by simp)).trans h2, (hc.cell (cell_lt h3) (by simp)).trans h3⟩, h.bd⟩
def n21Cells (l : List N21) : List Value := l.flatMap fun x => [.bool x.inp, .int .i64 x.l, .int .i64 x.r]
theorem n21Cells_snoc (l : List N21) (x : N21) : n21Cells (l ++ [x]) = n21Cells l ++ [.bool x.inp, .int .i64 x.l, .int .i64 x.r] := by simp [n21Cells]
theorem n21_at : ∀ {L : List N21} {k : Nat} {x : N21}, L[k]? = some x → (n21Cells L)[k * 3]? = some (.bool x.inp) ∧ (n21Cells L)[k * 3 + 1]? = some (.int .i64 x.l) ∧ (n21Cells L)[k * 3 + 2]? = some (.int .i64 x.r)
  | [], k, x, h => by simp at h
  | y :: L, 0, x, h => by
    have e : y = x := by simpa using h
    subst e
    exact ⟨rfl, rfl, rfl⟩
  | y :: L, k + 1, x, h => by
    have ih := n21_at (L := L) (k := k) (x := x) (by simpa using h)
    have e : n21Cells (y :: L) = [.bool y.inp, .int .i64 y.l, .int .i64 y.r] ++ n21Cells L := by simp [n21Cells]
    rw [e, show (k + 1) * 3 = k * 3 + 3 by omega]
    refine ⟨?_, ?_, ?_⟩
    · rw [List.getElem?_append_right (by simp)]; simpa using ih.1
    · rw [List.getElem?_append_right (by simp)]; simpa using ih.2.1
    · rw [List.getElem?_append_right (by simp)]; simpa using ih.2.2
theorem row_cell {w : World} {e : TypeId} {size b n c m : Nat} {vs : List Value} (h : row w e size (.slice (some ⟨b, 0, none⟩) n c) m vs) {k : Nat} {v : Value} (hk : vs[k]? = some v) : w.cell? ⟨b, k, none⟩ = some v := by
  have := h.cells (g := b) rfl k v hk
  rw [Addr.add_lit] at this
  simpa using this
theorem infoNode21 : (Try.prog.info? 69).map (fun i => (i.zero, i.size, i.bytes)) = some (some (.agg #[.bool false, .int .i64 0, .int .i64 0]), 3, 24) := by kernel_rfl
theorem slNodes21 : SliceTy Try.prog 22 69 3 24 (.agg #[.bool false, .int .i64 0, .int .i64 0]) := ⟨Try.underlying22, infoNode21, rfl, by decide⟩
set_option maxRecDepth 100000 in
set_option maxHeartbeats 1000000 in
theorem index21_is (w : World) (n : Int) (_hn : -9223372036854775808 ≤ n ∧ n ≤ 9223372036854775807) (k : Nat) (hk : 1 ≤ k) (hk2 : k ≤ 1000000) :
    Calls Try.prog 80 #[.int .i64 n, .int .i64 k] w fun e w' => e = .returned (.int .i64 (n % k)) ∧ w = w' := by
  have hb := Int.emod_nonneg n (show (k : Int) ≠ 0 by omega)
  have hb2 := Int.emod_lt_of_pos n (show (0 : Int) < k by omega)
  have hk0 : ((k : Int) == 0) = false := beqN (by omega)
  have ht := Int.tmod_eq_emod (a := n) (b := (k : Int))
  obtain ⟨r, hr⟩ : ∃ r, Int.tmod n k = r := ⟨_, rfl⟩
  have hr1 : -(k : Int) < r ∧ r < k := by
    have := Int.natAbs_tmod n k
    have h2 : (Int.tmod n k).natAbs < k := by rw [this]; exact Nat.mod_lt _ (by omega)
    rw [hr] at h2
    omega
  have hres : n % k = if r < 0 then r + k else r := by
    rw [hr] at ht
    split at ht
    · split <;> omega
    · have : ((k : Int).natAbs : Int) = k := by simp
      rw [this] at ht
      split <;> omega
  by_cases h0 : r < 0
  · rw [if_pos h0] at hres
    rw [hres]
    have HH := Lib.hid hres
    clear hres ht hb hb2
    go_enter Try.func80, Try.ntmps80
    go_wp2_with fail
    go_ret
    exact ⟨rfl, rfl⟩
  · rw [if_neg h0] at hres
    rw [hres]
    clear hres ht hb hb2
    go_enter Try.func80, Try.ntmps80
    go_wp2_with fail
    go_ret
    exact ⟨rfl, rfl⟩
set_option maxRecDepth 100000 in
set_option maxHeartbeats 4000000 in
theorem few21_is {w : World} {a : Option Addr} {n cap : Nat} {l : List N21} (hS : NodeS w a n cap l) :
    Calls Try.prog 79 #[.slice a n cap] w fun e w' => ∃ v, e = .returned v ∧ row w' 69 3 v (fewL l).length (n21Cells (fewL l)) ∧ (∀ q ∈ v.ownBlock.toList, w.heap.size ≤ q) ∧ Ch [] w w' := by
  have hlen := hS.len
  have hle := hS.le
  have hmx := hS.max
  obtain ⟨m, hm, hm40, hmn⟩ : ∃ m, min n 40 = m ∧ m ≤ 40 ∧ m ≤ n := ⟨_, rfl, by omega, by omega⟩
  have hmin : ∀ ats ty, Builtin.min_ ats ty #[.int .i64 (n : Int), .int .i64 40] = pure (.int .i64 (m : Int)) := fun ats ty => by
    have e : (if (40 : Int) < n then 40 else (n : Int)) = m := by split <;> omega
    rw [← e]
    simp [Builtin.min_, Builtin.min2]
  have hall : (l.take 40) = l.take m := by
    rw [← hm, ← hlen]
    by_cases h : l.length ≤ 40
    · rw [List.take_of_length_le h, List.take_of_length_le (by omega)]
    · rw [show min l.length 40 = 40 by omega]
  have hinv := fun k => few_inv (l.take k)
  unfold fewL
  rw [hall]
  have HS := Lib.hid hS; clear hS
  have HINV := Lib.hid hinv; clear hinv
  clear hall
  have HM := Lib.hid hm; clear hm
  have HLEN := Lib.hid hlen; clear hlen
  go_enter Try.func79, Try.ntmps79
  go_wp2_with fail
  obtain ⟨Q, hQ⟩ : ∃ Q : Nat → List N21 × Nat, Q = fun k => (l.take k).foldl fewS ([], 0) := ⟨_, rfl⟩
  have hQ0 : Q 0 = ([], 0) := by rw [hQ]; rfl
  have hQm : ((l.take m).foldl fewS ([], 0)).1 = (Q m).1 := by rw [hQ]
  have hQs : ∀ (k : Nat) (x : N21), l[k]? = some x → Q (k + 1) = fewS (Q k) x := fun k x hx => by
    rw [hQ]
    show (l.take (k + 1)).foldl _ _ = _
    rw [List.take_add_one, hx, List.foldl_append]
    rfl
  have hQb : ∀ k, k ≤ 40 → (Q k).1.length ≤ 40 ∧ (Q k).2 ≤ 40 := fun k hk => by
    have := HINV.out k
    rw [List.length_take] at this
    rw [hQ]
    show ((l.take k).foldl fewS ([], 0)).1.length ≤ 40 ∧ ((l.take k).foldl fewS ([], 0)).2 ≤ 40
    omega
  have HQ0 := Lib.hid hQ0; clear hQ0
  have HQM := Lib.hid hQm; clear hQm
  have HQS := Lib.hid hQs; clear hQs
  have HQB := Lib.hid hQb; clear hQb
  clear hQ HINV hmin
  go_loopw [3, 4, 13] (fun o q i wr => ∃ k : Nat, k ≤ m ∧ i = .int .i64 k ∧ q = .int .i64 (Q k).2 ∧ Ch [] w wr ∧ row wr 69 3 o (Q k).1.length (n21Cells (Q k).1) ∧ ∀ z ∈ o.ownBlock.toList, w.heap.size ≤ z) (fun _ _ i _ => m - (intOf i).toNat)
  case atStart => exact ⟨0, by omega, rfl, by rw [HQ0.out]; rfl, Ch.refl _ _, by rw [HQ0.out]; exact ⟨rfl, .inl ⟨rfl, rfl⟩⟩, by simp⟩
  case round =>
    obtain ⟨k, hk, rfl, rfl, hc, hrow, hlo⟩ := hrel
    obtain ⟨oa, oc, rfl⟩ := row.shape hrow
    by_cases hlt : k < m
    · obtain ⟨x, hx⟩ : ∃ x, l[k]? = some x := ⟨_, List.getElem?_eq_getElem (by rw [HLEN.out]; omega)⟩
      obtain ⟨ab, ao, rfl, d0, d1, d2⟩ := HS.out.cells k x hx
      have hs := HQS.out k x hx
      have hb := HQB.out k (by omega)
      generalize hQN : Q (k + 1) = QN at hs
      generalize Q k = q at hs hb hrow hlo ⊢
      obtain ⟨L, c⟩ := q
      simp only at hb hrow hlo ⊢
      have c0 := (hc.cell (cell_lt d0) (by simp)).trans d0
      have c1 := (hc.cell (cell_lt d1) (by simp)).trans d1
      have c2 := (hc.cell (cell_lt d2) (by simp)).trans d2
      clear d0 d1 d2 hx
      have HC := Lib.hid hc; clear hc
      have HROW := Lib.hid hrow; clear hrow
      have HLO := Lib.hid hlo; clear hlo
      have HQN := Lib.hid hQN; clear hQN
      have HSS := Lib.hid hs; clear hs
      obtain ⟨inp, xl, xr⟩ := x
      simp only at c0 c1 c2
      go_upto_region 6 with fail
      refine wp_named fun W1 hW1 => ?_
      have hcA : Ch [] wr W1 := by rw [hW1]; exact (Ch.refl _ _).alloc _
      have hb1 : blk W1 wr.heap.size [.bool inp, .int .i64 xl, .int .i64 xr] := by rw [hW1]; exact blk.new' _ _ rfl
      have e0 := hb1.cell (i := 0) rfl
      have e1 := hb1.cell (i := 1) rfl
      have e2 := hb1.cell (i := 2) rfl
      clear hW1 hb1 c0 c1 c2
      cases inp
      · by_cases h8 : c ≤ 8
        · have hf : QN = (L ++ [⟨false, xl, xr⟩], c) := by rw [HSS.out]; simp [fewS]
          have hb2 : blk (W1.alloc (.cells #[.bool false, .int .i64 xl, .int .i64 xr] 69)) W1.heap.size [.bool false, .int .i64 xl, .int .i64 xr] := blk.new' _ _ rfl
          have hcB : Ch [] wr (W1.alloc (.cells #[.bool false, .int .i64 xl, .int .i64 xr] 69)) := hcA.alloc _
          have hrB := HROW.out.ch hcB (by simp)
          have HB2 := Lib.hid hb2; clear hb2
          have HCB := Lib.hid hcB; clear hcB
          have HRB := Lib.hid hrB; clear hrB
          have HF := Lib.hid hf; clear hf
          go_wp2_with (at_builtin; go_loud (refine wpList_append_row slNodes21 rfl _ _ rfl (v := .slice oa L.length oc) (n := L.length) (xs := n21Cells L) rfl HRB.out (ad := ⟨W1.heap.size, 0, none⟩) (m := 1) (c := 1) (news := [.bool false, .int .i64 xl, .int .i64 xr]) rfl rfl (news_blk HB2.out) (by simp [Value.oneCell']) (by omega) (by omega) ?_; intro v' w5 hown4 hC4 hf4; have HO4 := Lib.hid hown4; clear hown4; have HCC4 := Lib.hid hC4; clear hC4; have HF4 := Lib.hid hf4; clear hf4))
          go_roundw
          case rel =>
            obtain ⟨q1, q2⟩ := app_step HC.out HCB.out HLO.out HCC4.out HF4.out
            refine ⟨k + 1, by omega, by go_num, by rw [HQN.out, HF.out] <;> go_num, q1, ?_, q2⟩
            rw [HQN.out, HF.out]
            simp only [List.length_append, List.length_cons, List.length_nil, n21Cells_snoc]
            exact HO4.out
          case measure => simp [intOf]; omega
        · have hf : QN = (L ++ [⟨false, xl, xr⟩], c) := by rw [HSS.out]; simp [fewS]
          have hb2 : blk (W1.alloc (.cells #[.bool false, .int .i64 xl, .int .i64 xr] 69)) W1.heap.size [.bool false, .int .i64 xl, .int .i64 xr] := blk.new' _ _ rfl
          have hcB : Ch [] wr (W1.alloc (.cells #[.bool false, .int .i64 xl, .int .i64 xr] 69)) := hcA.alloc _
          have hrB := HROW.out.ch hcB (by simp)
          have HB2 := Lib.hid hb2; clear hb2
          have HCB := Lib.hid hcB; clear hcB
          have HRB := Lib.hid hrB; clear hrB
          have HF := Lib.hid hf; clear hf
          go_wp2_with (at_builtin; go_loud (refine wpList_append_row slNodes21 rfl _ _ rfl (v := .slice oa L.length oc) (n := L.length) (xs := n21Cells L) rfl HRB.out (ad := ⟨W1.heap.size, 0, none⟩) (m := 1) (c := 1) (news := [.bool false, .int .i64 xl, .int .i64 xr]) rfl rfl (news_blk HB2.out) (by simp [Value.oneCell']) (by omega) (by omega) ?_; intro v' w5 hown4 hC4 hf4; have HO4 := Lib.hid hown4; clear hown4; have HCC4 := Lib.hid hC4; clear hC4; have HF4 := Lib.hid hf4; clear hf4))
          go_roundw
          case rel =>
            obtain ⟨q1, q2⟩ := app_step HC.out HCB.out HLO.out HCC4.out HF4.out
            refine ⟨k + 1, by omega, by go_num, by rw [HQN.out, HF.out] <;> go_num, q1, ?_, q2⟩
            rw [HQN.out, HF.out]
            simp only [List.length_append, List.length_cons, List.length_nil, n21Cells_snoc]
            exact HO4.out
          case measure => simp [intOf]; omega
      · by_cases h8 : c + 1 ≤ 8
        · have hf : QN = (L ++ [⟨true, xl, xr⟩], c + 1) := by rw [HSS.out]; simp [fewS]; omega
          have hb2 : blk (W1.alloc (.cells #[.bool true, .int .i64 xl, .int .i64 xr] 69)) W1.heap.size [.bool true, .int .i64 xl, .int .i64 xr] := blk.new' _ _ rfl
          have hcB : Ch [] wr (W1.alloc (.cells #[.bool true, .int .i64 xl, .int .i64 xr] 69)) := hcA.alloc _
          have hrB := HROW.out.ch hcB (by simp)
          have HB2 := Lib.hid hb2; clear hb2
          have HCB := Lib.hid hcB; clear hcB
          have HRB := Lib.hid hrB; clear hrB
          have HF := Lib.hid hf; clear hf
          go_wp2_with (at_builtin; go_loud (refine wpList_append_row slNodes21 rfl _ _ rfl (v := .slice oa L.length oc) (n := L.length) (xs := n21Cells L) rfl HRB.out (ad := ⟨W1.heap.size, 0, none⟩) (m := 1) (c := 1) (news := [.bool true, .int .i64 xl, .int .i64 xr]) rfl rfl (news_blk HB2.out) (by simp [Value.oneCell']) (by omega) (by omega) ?_; intro v' w5 hown4 hC4 hf4; have HO4 := Lib.hid hown4; clear hown4; have HCC4 := Lib.hid hC4; clear hC4; have HF4 := Lib.hid hf4; clear hf4))
          go_roundw
          case rel =>
            obtain ⟨q1, q2⟩ := app_step HC.out HCB.out HLO.out HCC4.out HF4.out
            refine ⟨k + 1, by omega, by go_num, by rw [HQN.out, HF.out] <;> go_num, q1, ?_, q2⟩
            rw [HQN.out, HF.out]
            simp only [List.length_append, List.length_cons, List.length_nil, n21Cells_snoc]
            exact HO4.out
          case measure => simp [intOf]; omega
        · have hf : QN = (L, c + 1) := by rw [HSS.out]; simp [fewS]; omega
          have HF := Lib.hid hf; clear hf
          have HCA := Lib.hid hcA; clear hcA
          go_wp2_with fail
          go_roundw
          case rel =>
            refine ⟨k + 1, by omega, by go_num, by rw [HQN.out, HF.out] <;> go_num, HC.out.trans HCA.out (by simp), ?_, HLO.out⟩
            rw [HQN.out, HF.out]
            exact HROW.out.ch HCA.out (by simp)
          case measure => simp [intOf]; omega
    · have hkm : k = m := by omega
      subst hkm
      have HC := Lib.hid hc; clear hc
      have HROW := Lib.hid hrow; clear hrow
      have HLO := Lib.hid hlo; clear hlo
      go_wp2_with fail
      go_ret
      exact ⟨_, rfl, by rw [HQM.out]; exact HROW.out, HLO.out, HC.out⟩
set_option maxRecDepth 100000 in
set_option maxHeartbeats 1000000 in
/-- a reference of a graph by a number -/
theorem ref21_is {w : World} {g : Nat} {G : Gra} {F : List Nat} (h : GIn w g G F) (n : Nat) (hn : n ≤ 255) :
    Calls Try.prog 18 #[.pointer (some ⟨g, 0, none⟩), .int .u8 n] w fun e w' => e = .returned (.int .i64 (n % (2 * G.nodes.length) : Nat)) ∧ w = w' := by
  have hpos := h.ok.wf.pos
  have hL := Len_g h
  have hnl : G.nodes.length ≤ 65536 := by have := h.ok.room; have := h.ok.most; omega
  generalize hN : G.nodes.length = N at *
  have hmx : ∀ ats ty, Builtin.max_ ats ty #[.int .i64 (N : Int), .int .i64 1] = pure (.int .i64 (N : Int)) := fun ats ty => max_one N N (by omega) ats ty
  have hne : ((2 * (N : Int)) == 0) = false := by rw [beq_eq_false_iff_ne]; omega
  clear h hN
  go_enter Try.func18, Try.ntmps18
  go_wp2_with fail
  refine hL.mono ?_
  rintro e w' ⟨rfl, rfl⟩
  go_wp2_with fail
  go_ret
  exact ⟨ret_int (by simp), rfl⟩
set_option maxRecDepth 100000 in
set_option maxHeartbeats 4000000 in
theorem made21_is {w : World} {a : Option Addr} {n cap : Nat} {l : List N21} (hS : NodeS w a n cap l) :
    Calls Try.prog 17 #[.slice a n cap] w fun e w' => ∃ g G F, e = .returned (.tuple #[.pointer (some ⟨g, 0, none⟩), .bool true]) ∧ Own w w' g G F ∧ G.most = 200 ∧ G.nodes.length ≤ 41 ∧ (inputs G.nodes).length ≤ 8 := by
  have hfl := fewL_len l
  have hbd : ∀ x ∈ fewL l, (-9223372036854775808 ≤ x.l ∧ x.l ≤ 9223372036854775807) ∧ (-9223372036854775808 ≤ x.r ∧ x.r ≤ 9223372036854775807) := fun x hx => hS.bd x (fewL_sub hx)
  have hfew := fun (W : World) (hW : Ch [] w W) => few21_is (hS.ch hW)
  have HFEW := Lib.hid hfew; clear hfew
  have HBD := Lib.hid hbd; clear hbd
  clear hS
  generalize hLL : fewL l = L at *
  clear hLL
  have HN := Lib.hid (New_yes (w := w) 200 (by decide) (by decide))
  go_enter Try.func17, Try.ntmps17
  go_wp2_with fail
  refine HN.out.mono ?_
  rintro e w1 ⟨g, F, rfl, hg, hF, hc⟩
  have hown : Own w w1 g (newG 200) F := ⟨hg, hF, hc⟩
  have HC := Lib.hid hc; clear hc hg HN
  have HOWN1 := Lib.hid hown.gin.lt
  have HOWN := Lib.hid hown; clear hown
  go_wp2_with fail
  refine (HFEW.out w1 HC.out).mono ?_
  rintro e w2 ⟨v, rfl, hrow, hv, hc2⟩
  obtain ⟨fa, fc, rfl⟩ := row.shape hrow
  have ho2 := HOWN.out.same hc2
  have HROW := Lib.hid hrow; clear hrow
  have HC2 := Lib.hid hc2; clear hc2
  have HV := Lib.hid hv; clear hv HOWN HFEW
  have HO2 := Lib.hid ho2; clear ho2
  go_wp2_with fail
  go_loopw [22] (fun i wr => ∃ (k : Nat) (G : Gra) (F : List Nat), k ≤ L.length ∧ i = .int .i64 k ∧ Own w wr g G F ∧ G.most = 200 ∧ G.nodes.length ≤ k + 1 ∧ (inputs G.nodes).length ≤ cntI (L.take k) ∧ row wr 69 3 (.slice fa L.length fc) L.length (n21Cells L) ∧ ∀ z ∈ (Value.slice fa L.length fc).ownBlock.toList, w1.heap.size ≤ z ∧ z ∉ F) (fun i _ => L.length - (intOf i).toNat)
  case atStart =>
    refine ⟨0, newG 200, F, by omega, rfl, HO2.out, rfl, by decide, Nat.zero_le _, HROW.out, fun z hz => ⟨HV.out z hz, fun hin => ?_⟩⟩
    have h1 := HV.out z hz
    have h2 := HOWN1.out z hin
    omega
  case round =>
    obtain ⟨k, G, F, hk, rfl, hown, hm, hnl, hil, hrow, hv⟩ := hrel
    clear HO2 HROW HV
    have hok := hown.gin.ok
    have hpos := hok.wf.pos
    by_cases hlt : k < L.length
    · obtain ⟨fb, fcap, e⟩ := hrow.parts (by omega)
      cases e
      obtain ⟨x, hx⟩ : ∃ x, L[k]? = some x := ⟨_, List.getElem?_eq_getElem hlt⟩
      obtain ⟨t0, t1, t2⟩ := n21_at hx
      have hxb := HBD.out x (List.mem_of_getElem? hx)
      have hcs : cntI (L.take (k + 1)) = cntI (L.take k) + x.inp.toNat := by rw [List.take_add_one, hx]; exact cntI_snoc _ _
      have c0 := row_cell hrow t0
      have c1 := row_cell hrow t1
      have c2 := row_cell hrow t2
      have hvf := (hv fb (by simp [Value.ownBlock])).2
      have hvlt := (hrow.lt fb rfl).2
      have HROW := Lib.hid hrow; clear hrow
      have HV := Lib.hid hv; clear hv
      have HOWN := Lib.hid hown; clear hown
      have HCS := Lib.hid hcs; clear hcs
      obtain ⟨inp, xl, xr⟩ := x
      simp only at c0 c1 c2 hxb
      have HIL := Lib.hid hil; clear hil
      have HM := Lib.hid hm; clear hm
      go_upto_region 7 with fail
      refine wp_named fun W1 hW1 => ?_
      have hcA : Ch [] wr W1 := by rw [hW1]; exact (Ch.refl _ _).alloc _
      have hb1 : blk W1 wr.heap.size [.bool inp, .int .i64 xl, .int .i64 xr] := by rw [hW1]; exact blk.new' _ _ rfl
      have e0 := hb1.cell (i := 0) rfl
      have hB7 : wr.heap.size ∉ F := fun hin => by have := HOWN.out.gin.lt _ hin; omega
      have hO1 := HOWN.out.same hcA
      have HR1 := Lib.hid (HROW.out.ch hcA (by simp))
      clear hW1 c0 c1 c2 t0 t1 t2 HOWN HROW
      have HCA := Lib.hid hcA; clear hcA
      have hgo : ∀ (G' : Gra) (W' : World), GTo W1 g G' F W' → ∃ F', Own w W' g G' F' ∧ row W' 69 3 (.slice (some ⟨fb, 0, none⟩) L.length fc) L.length (n21Cells L) ∧ ∀ z ∈ (Value.slice (some ⟨fb, 0, none⟩) L.length fc).ownBlock.toList, w1.heap.size ≤ z ∧ z ∉ F' := fun G' W' hto => by
        obtain ⟨F', h1, h2, h3, h4⟩ := hto
        refine ⟨F', ⟨h1, fun q hq => (h3 q hq).elim (hO1.own q) (fun e => Nat.le_trans hO1.ch.size e), hO1.ch.trans h2 (fun q hq => .inr (hO1.own q hq))⟩, HR1.out.ch h2 (fun q hq => by cases hq; exact hvf), fun z hz => ⟨(HV.out z hz).1, fun hin => ?_⟩⟩
        simp [Value.ownBlock] at hz
        subst hz
        rcases h3 _ hin with e | e
        · exact hvf e
        · have := HCA.out.size; omega
      have HGO := Lib.hid hgo; clear hgo
      cases inp
      · have hLen := Len_g hO1.gin
        obtain ⟨N, hN⟩ : ∃ N, G.nodes.length = N := ⟨_, rfl⟩
        rw [hN] at hLen hnl hpos
        have hmx : ∀ ats ty, Builtin.max_ ats ty #[.int .i64 (2 * (N : Int)), .int .i64 2] = pure (.int .i64 ((2 * N : Nat) : Int)) := fun ats ty => max_nat (2 * (N : Int)) 2 (2 * N) (by omega) ats ty
        obtain ⟨p, hp, hpl⟩ : ∃ p : Nat, xl % ((2 * N : Nat) : Int) = p ∧ p < 2 * N := ⟨(xl % ((2 * N : Nat) : Int)).toNat, by
          have := Int.emod_nonneg xl (show ((2 * N : Nat) : Int) ≠ 0 by omega)
          omega, by
          have := Int.emod_nonneg xl (show ((2 * N : Nat) : Int) ≠ 0 by omega)
          have := Int.emod_lt_of_pos xl (show (0 : Int) < ((2 * N : Nat) : Int) by omega)
          omega⟩
        obtain ⟨q, hq, hql⟩ : ∃ q : Nat, xr % ((2 * N : Nat) : Int) = q ∧ q < 2 * N := ⟨(xr % ((2 * N : Nat) : Int)).toNat, by
          have := Int.emod_nonneg xr (show ((2 * N : Nat) : Int) ≠ 0 by omega)
          omega, by
          have := Int.emod_nonneg xr (show ((2 * N : Nat) : Int) ≠ 0 by omega)
          have := Int.emod_lt_of_pos xr (show (0 : Int) < ((2 * N : Nat) : Int) by omega)
          omega⟩
        have HI1 := fun W => index21_is W xl hxb.1 (2 * N) (by omega) (by omega)
        have HI2 := fun W => index21_is W xr hxb.2 (2 * N) (by omega) (by omega)
        simp only [hp] at HI1
        simp only [hq] at HI2
        have hroom := and_room21 (G := G) p q (by rw [hN, HM.out]; omega)
        have hand : doAnd G p q = Aig.and G p q := doAnd_r (by omega) (by omega)
        have HAN := fun (W : World) (hW : Ch [] W1 W) => And_g (hO1.gin.same hW (by simp)) p q (by omega) (by omega)
        simp only [hand, hroom.1] at HAN
        have HROOM := Lib.hid hroom; clear hroom
        have HI1 := Lib.hid HI1
        have HI2 := Lib.hid HI2
        have HAN := Lib.hid HAN
        have HBK := Lib.hid hb1; clear hb1
        have HNN := Lib.hid hN
        clear hand hp hq hN
        go_wp2_with fail
        refine hLen.mono ?_
        rintro e w' ⟨rfl, rfl⟩
        go_wp2_with fail
        refine Ord.St.door (fun w' => w'.cell? ⟨wr.heap.size, 1, none⟩ = some (.int .i64 xl) ∧ w'.cell? ⟨wr.heap.size, 2, none⟩ = some (.int .i64 xr)) [.fl, .fl, .ho, .fl, .ef, .fl, .ho, .fl, .ef, .ef, .fl, .fl, .fl, .fl] [0, 0, 2, 0, 14, 0, 32, 0, 254, 511, 1023, 2047, 2047, 8191] [0, 1, 2, 3, 4, 5, 6, 7, 8, 9, 10, 11, 12, 13] mixed (by kernel_rfl) rfl ?_
        obtain ⟨Wc, hWc⟩ : ∃ Wc, Wc = W1.drew := ⟨_, rfl⟩
        rw [← hWc]
        have hcur : Ch [] W1 Wc := by rw [hWc]; exact (Ch.refl _ _).drew
        clear hWc
        have hbk := HBK.out.ch hcur (by simp)
        have HCUR := Lib.hid hcur
        refine Ord.St.fl2 (T' := ?_) 0 [1, 2, 3, 4, 5, 6, 7, 8, 9, 10, 11, 12, 13] _ _ rfl (by kernel_rfl) rfl rfl rfl rfl (fun K w' hk => ?_) ?_
        rotate_left
        · go_step; exact hk
        refine Ord.St.fl2 (T' := ?_) 1 [2, 3, 4, 5, 6, 7, 8, 9, 10, 11, 12, 13] _ _ rfl (by kernel_rfl) rfl rfl rfl rfl (fun K w' hk => ?_) ?_
        rotate_left
        · go_step; exact hk
        refine Ord.St.ho2 (T' := ?_) 2 [3, 4, 5, 6, 7, 8, 9, 10, 11, 12, 13] _ _ rfl (by kernel_rfl) rfl rfl rfl rfl ?_ (fun K w' hw' hk => ?_) ?_
        rotate_left
        · exact ⟨hbk.cell rfl, hbk.cell rfl⟩
        · obtain ⟨q1, q2⟩ := hw'; go_step; exact hk
        refine Ord.St.fl2 (T' := ?_) 3 [4, 5, 6, 7, 8, 9, 10, 11, 12, 13] _ _ rfl (by kernel_rfl) rfl rfl rfl rfl (fun K w' hk => ?_) ?_
        rotate_left
        · go_step; exact hk
        refine Ord.St.fl2 (T' := ?_) 5 [4, 6, 7, 8, 9, 10, 11, 12, 13] _ _ rfl (by kernel_rfl) rfl rfl rfl rfl (fun K w' hk => ?_) ?_
        rotate_left
        · go_step; exact hk
        refine Ord.St.ho2 (T' := ?_) 6 [4, 7, 8, 9, 10, 11, 12, 13] _ _ rfl (by kernel_rfl) rfl rfl rfl rfl ?_ (fun K w' hw' hk => ?_) ?_
        rotate_left
        · exact ⟨hbk.cell rfl, hbk.cell rfl⟩
        · obtain ⟨q1, q2⟩ := hw'; go_step; exact hk
        refine Ord.St.fl2 (T' := ?_) 7 [4, 8, 9, 10, 11, 12, 13] _ _ rfl (by kernel_rfl) rfl rfl rfl rfl (fun K w' hk => ?_) ?_
        rotate_left
        · go_step; exact hk
        refine Ord.St.efC 4 [8, 9, 10, 11, 12, 13] _ rfl (by kernel_rfl) (fun K hK => ?_)
        go_wp2_with fail
        refine (HI1.out _).mono ?_
        rintro e w' ⟨rfl, rfl⟩
        go_wp2_with fail
        refine ⟨rfl, hK _ _ ?_ ?_⟩
        · exact ⟨hbk.cell rfl, hbk.cell rfl⟩
        clear hK K
        refine Ord.St.ef 8 [9, 10, 11, 12, 13] _ rfl (by kernel_rfl) (fun K hK => ?_)
        go_wp2_with fail
        refine (HI2.out _).mono ?_
        rintro e w' ⟨rfl, rfl⟩
        go_wp2_with fail
        refine ⟨rfl, hK _ _ ?_⟩; clear hK K
        refine Ord.St.ef 9 [10, 11, 12, 13] _ rfl (by kernel_rfl) (fun K hK => ?_)
        have han := HAN.out Wc hcur
        have HAN1 := Lib.hid han; clear han HAN
        go_wp2_with fail
        refine HAN1.out.mono ?_
        rintro e w5 ⟨rfl, hto⟩
        have HTO := Lib.hid hto; clear hto
        go_wp2_with fail
        refine ⟨rfl, hK _ _ ?_⟩; clear hK K
        refine Ord.St.fl2 (T' := ?_) 10 [11, 12, 13] _ _ rfl (by kernel_rfl) rfl rfl rfl rfl (fun K w' hk => ?_) ?_
        rotate_left
        · go_step; exact hk
        refine Ord.St.fl2 (T' := ?_) 11 [12, 13] _ _ rfl (by kernel_rfl) rfl rfl rfl rfl (fun K w' hk => ?_) ?_
        rotate_left
        · go_step; exact hk
        refine Ord.St.fl2 (T' := ?_) 12 [13] _ _ rfl (by kernel_rfl) rfl rfl rfl rfl (fun K w' hk => ?_) ?_
        rotate_left
        · go_step; exact hk
        refine Ord.St.fl2 (T' := ?_) 13 [] _ _ rfl (by kernel_rfl) rfl rfl rfl rfl (fun K w' hk => ?_) ?_
        rotate_left
        · go_step; exact hk
        refine Ord.St.nil ?_
        go_wp2_with fail
        go_roundw
        case rel =>
          obtain ⟨F', k1, k2, k3⟩ := HGO.out _ _ (GTo.since HCUR.out HTO.out)
          obtain ⟨r1, r2, r3, r4⟩ := HROOM.out
          have hnn := HNN.out
          exact ⟨k + 1, _, F', by omega, by go_num, k1, by rw [r2]; exact HM.out, by omega, by rw [r4, HCS.out]; exact HIL.out, k2, k3⟩
        case measure => simp [intOf]; omega
      · have hroom := input_room (G := G) (by rw [HM.out]; omega)
        have HIN := Input_g hO1.gin
        rw [hroom.1] at HIN
        have HROOM := Lib.hid hroom; clear hroom
        have HIN := Lib.hid HIN
        clear hb1
        go_wp2_with fail
        refine HIN.out.mono ?_
        rintro e w5 ⟨rfl, hto⟩
        have HTO := Lib.hid hto; clear hto
        go_wp2_with fail
        go_roundw
        case rel =>
          obtain ⟨F', k1, k2, k3⟩ := HGO.out _ _ HTO.out
          obtain ⟨r1, r2, r3, r4⟩ := HROOM.out
          refine ⟨k + 1, _, F', by omega, by go_num, k1, by rw [r2]; exact HM.out, by omega, ?_, k2, k3⟩
          rw [r4, HCS.out]
          have := HIL.out
          simp
          omega
        case measure => simp [intOf]; omega
    · have hkn : k = L.length := by omega
      subst hkn
      have hLen := Len_g hown.gin
      have e1 : decide ((G.nodes.length : Int) > 0) = true := decide_eq_true (by omega)
      have HOWN := Lib.hid hown; clear hown
      have HIL := Lib.hid hil; clear hil
      clear hrow hv
      go_wp2_with fail
      refine hLen.mono ?_
      rintro e w' ⟨rfl, rfl⟩
      go_wp2_with fail
      go_ret2
      refine ⟨g, G, F, rfl, HOWN.out, hm, by omega, ?_⟩
      have := HIL.out
      rw [List.take_of_length_le (Nat.le_refl _)] at this
      omega
end Go.Proofs.Ytnmfdiiehkkjcaa
namespace Go.Proofs.Ytnmfdiiehkkjcaa
open Go.ChangeShapes Go.WideShapes Go.ChangeAt Go.RowKit Go.Mem Go.Aig Go.Deep
theorem wf_u64 {n : Int} (h : (Lit.int .u64 n).wf = true) : ∃ m : Nat, n = m ∧ m < 2 ^ 64 := by
  have : 0 ≤ n ∧ n ≤ 18446744073709551615 := by simpa [Lit.wf, IntKind.min, IntKind.max, IntKind.signed, IntKind.bits] using h
  exact ⟨n.toNat, by omega, by omega⟩
theorem wf_u16 {n : Int} (h : (Lit.int .u16 n).wf = true) : ∃ m : Nat, n = m ∧ m < 2 ^ 16 := by
  have : 0 ≤ n ∧ n ≤ 65535 := by simpa [Lit.wf, IntKind.min, IntKind.max, IntKind.signed, IntKind.bits] using h
  exact ⟨n.toNat, by omega, by omega⟩
theorem wf_u8' {n : Int} (h : (Lit.int .u8 n).wf = true) : ∃ m : Nat, n = m ∧ m < 2 ^ 8 := by
  have : 0 ≤ n ∧ n ≤ 255 := by simpa [Lit.wf, IntKind.min, IntKind.max, IntKind.signed, IntKind.bits] using h
  exact ⟨n.toNat, by omega, by omega⟩
/-- a slice of numbers of one kind that came in -/
structure NumS (k : IntKind) (bits : Nat) (w : World) (a : Option Addr) (n cap : Nat) (l : List Nat) : Prop where
  sv : Sv w a (l.map fun (x : Nat) => .int k x)
  len : l.length = n
  bd : ∀ x ∈ l, x < 2 ^ bits
  le : n ≤ cap
  max : cap ≤ 9223372036854775807
section
variable {H : Type} {enc : TypeId × Value → H} {W : World}
set_option maxRecDepth 100000 in
theorem u64s_open6 {a : Option Addr} {len cap : Nat} {d : DataW H} {p : List MemPlace} (h : DataW.Trod enc Try.prog W 0 (fun _ => true) true 33 (.slice a len cap) d p) : ∃ l, NumS .u64 64 W a len cap l := by
  obtain ⟨fuel, hf⟩ := h
  rcases open_slice Try.underlying33 hf with ⟨hcs, _⟩ | ⟨y, l, cp, m, n, D, Pl, hcs, _, hl, hm, hmm, _, hi⟩
  · simp [Value.cells] at hcs
    obtain ⟨rfl, rfl, rfl⟩ := hcs
    exact ⟨[], ⟨by simp, by simp⟩, rfl, by simp, by omega, by omega⟩
  · simp [Value.cells] at hcs
    obtain ⟨rfl, rfl, rfl⟩ := hcs
    have hm' : cap ≤ 9223372036854775807 := by unfold maxLen at hm; exact hm
    have hC : Try.prog.cellsOf 45 = 1 := by kernel_rfl
    have hspot : 0 < len → y.spot = none := fun h0 => by
      obtain ⟨cs', hc, _⟩ := hi 0 (by rw [hmm]; simp; omega)
      rw [hC] at hc
      obtain ⟨_, hcl, hat⟩ := World.cells?_some hc
      have e0 := hat 0 (by omega)
      rw [List.getElem?_eq_getElem (by omega)] at e0
      simpa [Addr.add] using World.cell?_spot e0
    have key : ∀ i, i < len → ∃ z : Nat, (∃ b o, (some y : Option Addr) = some ⟨b, o, none⟩ ∧ W.cell? ⟨b, o + i, none⟩ = some (.int .u64 z)) ∧ z < 2 ^ 64 := by
      intro i hlt
      obtain ⟨cs', hc, ht⟩ := hi i (by rw [hmm]; simp; omega)
      rw [hC] at hc
      obtain ⟨_, hcl, hat⟩ := World.cells?_some hc
      match cs', hcl with
      | [c0], _ =>
        obtain ⟨z, hz, _, hw⟩ := DataW.trod_int Try.underlying45 ht
        obtain ⟨m, rfl, hb⟩ := wf_u64 hw
        simp at hz
        subst hz
        have e0 := hat 0 (by omega)
        simp at e0
        obtain ⟨b, o, spot⟩ := y
        have hsp : spot = none := hspot (by omega)
        subst hsp
        simp only [Addr.add_lit] at e0
        exact ⟨m, ⟨b, o, rfl, by simpa using e0⟩, hb⟩
    obtain ⟨ll, hll, hp⟩ := list_of _ len key
    refine ⟨ll, ⟨fun i s hs => ?_, by rw [List.length_map]; omega⟩, hll, fun s hs => ?_, hl, hm'⟩
    · rw [List.getElem?_map, Option.map_eq_some_iff] at hs
      obtain ⟨q, hq, rfl⟩ := hs
      exact (hp i q hq).1
    · obtain ⟨i, hi2⟩ := List.mem_iff_getElem?.1 hs
      exact (hp i s hi2).2
set_option maxRecDepth 100000 in
theorem u16s_open6 {a : Option Addr} {len cap : Nat} {d : DataW H} {p : List MemPlace} (h : DataW.Trod enc Try.prog W 0 (fun _ => true) true 94 (.slice a len cap) d p) : ∃ l, NumS .u16 16 W a len cap l := by
  obtain ⟨fuel, hf⟩ := h
  rcases open_slice Try.underlying94 hf with ⟨hcs, _⟩ | ⟨y, l, cp, m, n, D, Pl, hcs, _, hl, hm, hmm, _, hi⟩
  · simp [Value.cells] at hcs
    obtain ⟨rfl, rfl, rfl⟩ := hcs
    exact ⟨[], ⟨by simp, by simp⟩, rfl, by simp, by omega, by omega⟩
  · simp [Value.cells] at hcs
    obtain ⟨rfl, rfl, rfl⟩ := hcs
    have hm' : cap ≤ 9223372036854775807 := by unfold maxLen at hm; exact hm
    have hC : Try.prog.cellsOf 97 = 1 := by kernel_rfl
    have hspot : 0 < len → y.spot = none := fun h0 => by
      obtain ⟨cs', hc, _⟩ := hi 0 (by rw [hmm]; simp; omega)
      rw [hC] at hc
      obtain ⟨_, hcl, hat⟩ := World.cells?_some hc
      have e0 := hat 0 (by omega)
      rw [List.getElem?_eq_getElem (by omega)] at e0
      simpa [Addr.add] using World.cell?_spot e0
    have key : ∀ i, i < len → ∃ z : Nat, (∃ b o, (some y : Option Addr) = some ⟨b, o, none⟩ ∧ W.cell? ⟨b, o + i, none⟩ = some (.int .u16 z)) ∧ z < 2 ^ 16 := by
      intro i hlt
      obtain ⟨cs', hc, ht⟩ := hi i (by rw [hmm]; simp; omega)
      rw [hC] at hc
      obtain ⟨_, hcl, hat⟩ := World.cells?_some hc
      match cs', hcl with
      | [c0], _ =>
        obtain ⟨z, hz, _, hw⟩ := DataW.trod_int Try.underlying97 ht
        obtain ⟨m, rfl, hb⟩ := wf_u16 hw
        simp at hz
        subst hz
        have e0 := hat 0 (by omega)
        simp at e0
        obtain ⟨b, o, spot⟩ := y
        have hsp : spot = none := hspot (by omega)
        subst hsp
        simp only [Addr.add_lit] at e0
        exact ⟨m, ⟨b, o, rfl, by simpa using e0⟩, hb⟩
    obtain ⟨ll, hll, hp⟩ := list_of _ len key
    refine ⟨ll, ⟨fun i s hs => ?_, by rw [List.length_map]; omega⟩, hll, fun s hs => ?_, hl, hm'⟩
    · rw [List.getElem?_map, Option.map_eq_some_iff] at hs
      obtain ⟨q, hq, rfl⟩ := hs
      exact (hp i q hq).1
    · obtain ⟨i, hi2⟩ := List.mem_iff_getElem?.1 hs
      exact (hp i s hi2).2
set_option maxRecDepth 100000 in
theorem u8s_open6 {a : Option Addr} {len cap : Nat} {d : DataW H} {p : List MemPlace} (h : DataW.Trod enc Try.prog W 0 (fun _ => true) true 72 (.slice a len cap) d p) : ∃ l, NumS .u8 8 W a len cap l := by
  obtain ⟨fuel, hf⟩ := h
  rcases open_slice Try.underlying72 hf with ⟨hcs, _⟩ | ⟨y, l, cp, m, n, D, Pl, hcs, _, hl, hm, hmm, _, hi⟩
  · simp [Value.cells] at hcs
    obtain ⟨rfl, rfl, rfl⟩ := hcs
    exact ⟨[], ⟨by simp, by simp⟩, rfl, by simp, by omega, by omega⟩
  · simp [Value.cells] at hcs
    obtain ⟨rfl, rfl, rfl⟩ := hcs
    have hm' : cap ≤ 9223372036854775807 := by unfold maxLen at hm; exact hm
    have hC : Try.prog.cellsOf 5 = 1 := by kernel_rfl
    have hspot : 0 < len → y.spot = none := fun h0 => by
      obtain ⟨cs', hc, _⟩ := hi 0 (by rw [hmm]; simp; omega)
      rw [hC] at hc
      obtain ⟨_, hcl, hat⟩ := World.cells?_some hc
      have e0 := hat 0 (by omega)
      rw [List.getElem?_eq_getElem (by omega)] at e0
      simpa [Addr.add] using World.cell?_spot e0
    have key : ∀ i, i < len → ∃ z : Nat, (∃ b o, (some y : Option Addr) = some ⟨b, o, none⟩ ∧ W.cell? ⟨b, o + i, none⟩ = some (.int .u8 z)) ∧ z < 2 ^ 8 := by
      intro i hlt
      obtain ⟨cs', hc, ht⟩ := hi i (by rw [hmm]; simp; omega)
      rw [hC] at hc
      obtain ⟨_, hcl, hat⟩ := World.cells?_some hc
      match cs', hcl with
      | [c0], _ =>
        obtain ⟨z, hz, _, hw⟩ := DataW.trod_int Try.underlying5 ht
        obtain ⟨m, rfl, hb⟩ := wf_u8' hw
        simp at hz
        subst hz
        have e0 := hat 0 (by omega)
        simp at e0
        obtain ⟨b, o, spot⟩ := y
        have hsp : spot = none := hspot (by omega)
        subst hsp
        simp only [Addr.add_lit] at e0
        exact ⟨m, ⟨b, o, rfl, by simpa using e0⟩, hb⟩
    obtain ⟨ll, hll, hp⟩ := list_of _ len key
    refine ⟨ll, ⟨fun i s hs => ?_, by rw [List.length_map]; omega⟩, hll, fun s hs => ?_, hl, hm'⟩
    · rw [List.getElem?_map, Option.map_eq_some_iff] at hs
      obtain ⟨q, hq, rfl⟩ := hs
      exact (hp i q hq).1
    · obtain ⟨i, hi2⟩ := List.mem_iff_getElem?.1 hs
      exact (hp i s hi2).2
set_option maxRecDepth 100000 in
theorem nodes_open {a : Option Addr} {len cap : Nat} {d : DataW H} {p : List MemPlace} (h : DataW.Trod enc Try.prog W 0 (fun _ => true) true 22 (.slice a len cap) d p) : ∃ l, NodeS W a len cap l := by
  obtain ⟨fuel, hf⟩ := h
  rcases open_slice Try.underlying22 hf with ⟨hcs, _⟩ | ⟨x, l, c, m, n, D, Pl, hcs, _, hl, hm, hmm, _, hi⟩
  · simp [Value.cells] at hcs
    obtain ⟨rfl, rfl, rfl⟩ := hcs
    exact ⟨[], rfl, by omega, by omega, by simp, by simp⟩
  · simp [Value.cells] at hcs
    obtain ⟨rfl, rfl, rfl⟩ := hcs
    have hC : Try.prog.cellsOf 69 = 3 := by kernel_rfl
    have hspot : 0 < len → x.spot = none := fun h0 => by
      obtain ⟨cs', hc, _⟩ := hi 0 (by rw [hmm]; simp; omega)
      rw [hC] at hc
      obtain ⟨_, hcl, hat⟩ := World.cells?_some hc
      have e0 := hat 0 (by omega)
      rw [List.getElem?_eq_getElem (by omega)] at e0
      simpa [Addr.add] using World.cell?_spot e0
    have key : ∀ i, i < len → ∃ s : N21, (∃ b o, (some x : Option Addr) = some ⟨b, o, none⟩ ∧ W.cell? ⟨b, o + i * 3, none⟩ = some (.bool s.inp) ∧ W.cell? ⟨b, o + i * 3 + 1, none⟩ = some (.int .i64 s.l) ∧ W.cell? ⟨b, o + i * 3 + 2, none⟩ = some (.int .i64 s.r)) ∧
        (-9223372036854775808 ≤ s.l ∧ s.l ≤ 9223372036854775807) ∧ (-9223372036854775808 ≤ s.r ∧ s.r ≤ 9223372036854775807) := by
      intro i hlt
      obtain ⟨cs', hc, ht⟩ := hi i (by rw [hmm]; simp; omega)
      rw [hC] at hc
      obtain ⟨ys, n', _, _, hlen, _, hfd⟩ := DataW.trod_struct Try.underlying69 ht
      obtain ⟨_, hcl, hat⟩ := World.cells?_some hc
      match cs', hcl with
      | [c0, c1, c2], _ =>
        have f0 := hfd 0 _ rfl
        have f1 := hfd 1 _ rfl
        have f2 := hfd 2 _ rfl
        have hu : Try.prog.cellsOf 4 = 1 := by kernel_rfl
        have hi9 : Try.prog.cellsOf 3 = 1 := by kernel_rfl
        simp only [List.getElem_toArray, List.getElem_cons_zero, List.getElem_cons_succ, hu, hi9, List.drop_zero, List.drop_succ_cons, List.take_succ_cons, List.take_zero] at f0 f1 f2
        have hys : ys.length = 3 := by have := ‹ys.length = _›; simpa using this
        rw [List.getElem?_eq_getElem (by omega)] at f0 f1 f2
        obtain ⟨z0, hz0, _⟩ := DataW.trod_bool Try.underlying4 f0
        obtain ⟨z1, hz1, _, hw1⟩ := DataW.trod_int Try.underlying3 f1
        obtain ⟨z2, hz2, _, hw2⟩ := DataW.trod_int Try.underlying3 f2
        have b1 := wf_i64 hw1
        have b2 := wf_i64 hw2
        simp at hz0 hz1 hz2
        subst hz0 hz1 hz2
        have e0 := hat 0 (by omega)
        have e1 := hat 1 (by omega)
        have e2 := hat 2 (by omega)
        simp at e0 e1 e2
        obtain ⟨b, o, spot⟩ := x
        have hsp : spot = none := hspot (by omega)
        subst hsp
        simp only [Addr.add_lit] at e0 e1 e2
        exact ⟨⟨z0, z1, z2⟩, ⟨b, o, rfl, by simpa using e0, by simpa using e1, by simpa using e2⟩, b1, b2⟩
    obtain ⟨ll, hll, hp⟩ := list_of _ len key
    have idx : ∀ s ∈ ll, ∃ i : Nat, ll[i]? = some s := fun s hs => List.mem_iff_getElem?.1 hs
    exact ⟨ll, hll, hl, by unfold maxLen at hm; exact hm, fun i s hs => (hp i s hs).1, fun s hs => by obtain ⟨i, hi2⟩ := idx s hs; exact (hp i s hi2).2⟩
end
end Go.Proofs.Ytnmfdiiehkkjcaa
namespace Go.Proofs.Ytnmfdiiehkkjcaa
open Go.RowKit Go.Mem Go.Aig
theorem takeN_succ {xs ys : List Nat} {k : Nat} {x y : Nat} (h : xs.take k = ys.take k) (hx : xs[k]? = some x) (hy : ys[k]? = some y) (e : x = y) : xs.take (k + 1) = ys.take (k + 1) := by
  rw [List.take_add_one, List.take_add_one, h, hx, hy, e]
section
variable {w : World}
set_option maxRecDepth 100000 in
set_option maxHeartbeats 1000000 in
theorem EQu64_is {a b : Option Addr} {xs ys : List Nat} (ca cb : Nat) (hx : Sv w a (u64s xs)) (hy : Sv w b (u64s ys)) :
    Calls Try.prog 35 #[.slice a xs.length ca, .slice b ys.length cb] w fun e w' => e = .returned (.bool (decide (xs = ys))) ∧ Ch [] w w' := by
  have hbx : xs.length ≤ 9223372036854775807 := by have := hx.bd; simpa [u64s] using this
  have hby : ys.length ≤ 9223372036854775807 := by have := hy.bd; simpa [u64s] using this
  have HX := Lib.hid hx; clear hx
  have HY := Lib.hid hy; clear hy
  by_cases hl : xs.length = ys.length
  · have hne : ((xs.length : Int) != (ys.length : Int)) = false := by simp [hl]
    generalize hd : decide (xs = ys) = d
    have HD := Lib.hid hd; clear hd
    have HL := Lib.hid hl; clear hl
    go_enter Try.func35, Try.ntmps35
    go_wp2_with fail
    go_loopw [13] (fun i wr => ∃ k : Nat, k ≤ xs.length ∧ i = .int .i64 k ∧ xs.take k = ys.take k ∧ Ch [] w wr) (fun i _ => xs.length - (intOf i).toNat)
    case atStart => exact ⟨0, Nat.zero_le _, rfl, rfl, Ch.refl _ _⟩
    case round =>
      obtain ⟨k, hk, rfl, ht, hc⟩ := hrel
      have HT := Lib.hid ht; clear ht
      by_cases hlt : k < xs.length
      · have hlt2 : k < ys.length := by have := HL.out; omega
        have hxk : xs[k]? = some xs[k] := List.getElem?_eq_getElem hlt
        have hyk : ys[k]? = some ys[k] := List.getElem?_eq_getElem hlt2
        obtain ⟨b1, o1, rfl, c1⟩ := (HX.out.ch hc (by simp)).cells k (.int .u64 (xs[k] : Nat)) (u64s_get hxk)
        obtain ⟨b2, o2, rfl, c2⟩ := (HY.out.ch hc (by simp)).cells k (.int .u64 (ys[k] : Nat)) (u64s_get hyk)
        generalize xs[k] = x at *
        generalize ys[k] = y at *
        have HXK := Lib.hid hxk; clear hxk
        have HYK := Lib.hid hyk; clear hyk
        have HC := Lib.hid hc; clear hc
        by_cases hxy : x = y
        · have hb : ((x : Int) != y) = false := by simp [hxy]
          have HE := Lib.hid hxy; clear hxy
          go_wp2_with fail
          refine Ord.St.door (fun _ => True) [.fl, .fl, .fl, .rd, .fl, .fl, .fl, .rd, .fl] [0, 0, 3, 7, 0, 0, 48, 112, 255] [0, 1, 2, 3, 4, 5, 6, 7, 8] mixed (by kernel_rfl) rfl ?_
          refine Ord.St.fl2 (T' := ?_) 0 [1, 2, 3, 4, 5, 6, 7, 8] _ _ rfl (by kernel_rfl) rfl rfl rfl rfl (fun K w' hk => ?_) ?_
          rotate_left
          · go_step; exact hk
          refine Ord.St.fl2 (T' := ?_) 1 [2, 3, 4, 5, 6, 7, 8] _ _ rfl (by kernel_rfl) rfl rfl rfl rfl (fun K w' hk => ?_) ?_
          rotate_left
          · go_step; exact hk
          refine Ord.St.fl2 (T' := ?_) 2 [3, 4, 5, 6, 7, 8] _ _ rfl (by kernel_rfl) rfl rfl rfl rfl (fun K w' hk => ?_) ?_
          rotate_left
          · go_step; exact hk
          refine Ord.St.rd2 (T' := ?_) 3 [4, 5, 6, 7, 8] _ _ rfl (by kernel_rfl) rfl rfl rfl rfl (fun K hk => ?_) ?_
          rotate_left
          · go_step; exact hk
          refine Ord.St.fl2 (T' := ?_) 4 [5, 6, 7, 8] _ _ rfl (by kernel_rfl) rfl rfl rfl rfl (fun K w' hk => ?_) ?_
          rotate_left
          · go_step; exact hk
          refine Ord.St.fl2 (T' := ?_) 5 [6, 7, 8] _ _ rfl (by kernel_rfl) rfl rfl rfl rfl (fun K w' hk => ?_) ?_
          rotate_left
          · go_step; exact hk
          refine Ord.St.fl2 (T' := ?_) 6 [7, 8] _ _ rfl (by kernel_rfl) rfl rfl rfl rfl (fun K w' hk => ?_) ?_
          rotate_left
          · go_step; exact hk
          refine Ord.St.rd2 (T' := ?_) 7 [8] _ _ rfl (by kernel_rfl) rfl rfl rfl rfl (fun K hk => ?_) ?_
          rotate_left
          · go_step; exact hk
          refine Ord.St.fl2 (T' := ?_) 8 [] _ _ rfl (by kernel_rfl) rfl rfl rfl rfl (fun K w' hk => ?_) ?_
          rotate_left
          · go_step; exact hk
          refine Ord.St.nil ?_
          go_wp2_with fail
          go_roundw
          case rel => exact ⟨k + 1, by omega, by go_num, takeN_succ HT.out HXK.out HYK.out HE.out, HC.out.drew⟩
          case measure => simp [intOf]; omega
        · have hb : ((x : Int) != y) = true := by simp; omega
          have hdf : d = false := by
            rw [← HD.out]
            refine decide_eq_false fun e => hxy ?_
            have h1 := HXK.out
            rw [e, HYK.out] at h1
            cases h1; rfl
          have HDF := Lib.hid hdf; clear hdf
          clear hxy
          go_wp2_with fail
          refine Ord.St.door (fun _ => True) [.fl, .fl, .fl, .rd, .fl, .fl, .fl, .rd, .fl] [0, 0, 3, 7, 0, 0, 48, 112, 255] [0, 1, 2, 3, 4, 5, 6, 7, 8] mixed (by kernel_rfl) rfl ?_
          refine Ord.St.fl2 (T' := ?_) 0 [1, 2, 3, 4, 5, 6, 7, 8] _ _ rfl (by kernel_rfl) rfl rfl rfl rfl (fun K w' hk => ?_) ?_
          rotate_left
          · go_step; exact hk
          refine Ord.St.fl2 (T' := ?_) 1 [2, 3, 4, 5, 6, 7, 8] _ _ rfl (by kernel_rfl) rfl rfl rfl rfl (fun K w' hk => ?_) ?_
          rotate_left
          · go_step; exact hk
          refine Ord.St.fl2 (T' := ?_) 2 [3, 4, 5, 6, 7, 8] _ _ rfl (by kernel_rfl) rfl rfl rfl rfl (fun K w' hk => ?_) ?_
          rotate_left
          · go_step; exact hk
          refine Ord.St.rd2 (T' := ?_) 3 [4, 5, 6, 7, 8] _ _ rfl (by kernel_rfl) rfl rfl rfl rfl (fun K hk => ?_) ?_
          rotate_left
          · go_step; exact hk
          refine Ord.St.fl2 (T' := ?_) 4 [5, 6, 7, 8] _ _ rfl (by kernel_rfl) rfl rfl rfl rfl (fun K w' hk => ?_) ?_
          rotate_left
          · go_step; exact hk
          refine Ord.St.fl2 (T' := ?_) 5 [6, 7, 8] _ _ rfl (by kernel_rfl) rfl rfl rfl rfl (fun K w' hk => ?_) ?_
          rotate_left
          · go_step; exact hk
          refine Ord.St.fl2 (T' := ?_) 6 [7, 8] _ _ rfl (by kernel_rfl) rfl rfl rfl rfl (fun K w' hk => ?_) ?_
          rotate_left
          · go_step; exact hk
          refine Ord.St.rd2 (T' := ?_) 7 [8] _ _ rfl (by kernel_rfl) rfl rfl rfl rfl (fun K hk => ?_) ?_
          rotate_left
          · go_step; exact hk
          refine Ord.St.fl2 (T' := ?_) 8 [] _ _ rfl (by kernel_rfl) rfl rfl rfl rfl (fun K w' hk => ?_) ?_
          rotate_left
          · go_step; exact hk
          refine Ord.St.nil ?_
          go_wp2_with fail
          go_ret
          rw [HDF.out]
          exact ⟨rfl, HC.out.drew⟩
      · have hdt : d = true := by
          rw [← HD.out]
          have h1 := HT.out
          rw [List.take_of_length_le (by omega), List.take_of_length_le (by have := HL.out; omega)] at h1
          exact decide_eq_true h1
        have HDT := Lib.hid hdt; clear hdt
        have HC := Lib.hid hc; clear hc
        go_wp2_with fail
        go_ret
        rw [HDT.out]
        exact ⟨rfl, HC.out⟩
  · have hne : ((xs.length : Int) != (ys.length : Int)) = true := by rw [bne_iff_ne]; omega
    have hd : decide (xs = ys) = false := decide_eq_false fun e => hl (by rw [e])
    rw [hd]
    clear hd
    go_enter Try.func35, Try.ntmps35
    go_wp2_with fail
    go_ret
    exact ⟨rfl, Ch.refl _ _⟩
end
/-- what is known along a walk that changes no graph: the graph, and slices that are held -/
structure HS (w0 w : World) (g : Nat) (G : Gra) (F : List Nat) (L : List (Option Addr × List Value)) : Prop where
  own : Own w0 w g G F
  held : ∀ p ∈ L, Sv w p.1 p.2
section
variable {w0 w : World} {g : Nat} {G : Gra} {F : List Nat} {L : List (Option Addr × List Value)}
theorem HS.same {w' : World} (h : HS w0 w g G F L) (hc : Ch [] w w') : HS w0 w' g G F L := ⟨h.own.same hc, fun p hp => (h.held p hp).ch hc (by simp)⟩
theorem HS.add {a : Option Addr} {xs : List Value} (h : HS w0 w g G F L) (hs : Sv w a xs) : HS w0 w g G F ((a, xs) :: L) := ⟨h.own, fun p hp => by
  rcases List.mem_cons.1 hp with rfl | hp
  · exact hs
  · exact h.held p hp⟩
theorem HS.drop {p : Option Addr × List Value} (h : HS w0 w g G F (p :: L)) : HS w0 w g G F L := ⟨h.own, fun q hq => h.held q (List.mem_cons_of_mem _ hq)⟩
theorem HS.blk {b : Nat} {xs : List Value} (h : HS w0 w g G F L) (hb : blk w b xs) (hl : xs.length ≤ 9223372036854775807) : HS w0 w g G F ((some ⟨b, 0, none⟩, xs) :: L) := h.add ⟨fun i x hx => ⟨b, 0, rfl, by
  rw [Nat.zero_add]
  exact hb.cell hx⟩, hl⟩
theorem simTable_h (h : HS w0 w g G F L) (r : Int) (hr : -9223372036854775808 ≤ r ∧ r ≤ 9223372036854775807) {T : List Nat} {e k : Nat} (hR : tableR G r = (T, e)) (hk : T.length = k) (hkl : k ≤ 1000000) :
    Calls Try.prog 20 #[.pointer (some ⟨g, 0, none⟩), .int .i64 r] w fun en w' => ∃ a c, en = .returned (.tuple #[.slice a k c, .int .i64 e]) ∧ HS w0 w' g G F ((a, u64s T) :: L) := by
  have H := simTable_is h.own.gin r hr
  rw [hR] at H
  refine H.mono ?_
  rintro en w' ⟨v, rfl, hrow, _, hc⟩
  obtain ⟨a, c, rfl⟩ := row.shape hrow
  simp only [hk] at hrow
  exact ⟨a, c, by simp only [hk], (h.same hc).add (row.sv hrow rfl hkl)⟩
theorem simCount_h (h : HS w0 w g G F L) (r : Int) (hr : -9223372036854775808 ≤ r ∧ r ≤ 9223372036854775807) {n e : Nat} (hR : countR G r = (n, e)) :
    Calls Try.prog 22 #[.pointer (some ⟨g, 0, none⟩), .int .i64 r] w fun en w' => en = .returned (.tuple #[.int .i64 n, .int .i64 e]) ∧ HS w0 w' g G F L := by
  have H := simCount_is h.own.gin r hr
  rw [hR] at H
  refine H.mono ?_
  rintro en w' ⟨rfl, hc⟩
  exact ⟨rfl, h.same hc⟩
theorem simFirst_h (h : HS w0 w g G F L) (r : Int) (hr : -9223372036854775808 ≤ r ∧ r ≤ 9223372036854775807) {B : List Bool} {b : Bool} {e k : Nat} (hR : firstG G r = ((B, b), e)) (hk : B.length = k) (hkl : k ≤ 1000000) :
    Calls Try.prog 23 #[.pointer (some ⟨g, 0, none⟩), .int .i64 r] w fun en w' => ∃ a c, en = .returned (.tuple #[.slice a k c, .bool b, .int .i64 e]) ∧ HS w0 w' g G F ((a, bools B) :: L) := by
  have H := simFirst_is h.own.gin r hr
  rw [hR] at H
  refine H.mono ?_
  rintro en w' ⟨v, rfl, hrow, _, hc⟩
  obtain ⟨a, c, rfl⟩ := row.shape hrow
  simp only [hk] at hrow
  exact ⟨a, c, by simp only [hk], (h.same hc).add (row.sv hrow rfl hkl)⟩
theorem simParts_h (h : HS w0 w g G F L) (r s : Int) (hr : -9223372036854775808 ≤ r ∧ r ≤ 9223372036854775807) (hs : -9223372036854775808 ≤ s ∧ s ≤ 9223372036854775807) {B : List Bool} {b : Bool} {e k : Nat} (hR : partsG G r s = ((B, b), e)) (hk : B.length = k) (hkl : k ≤ 1000000) :
    Calls Try.prog 32 #[.pointer (some ⟨g, 0, none⟩), .int .i64 r, .int .i64 s] w fun en w' => ∃ a c, en = .returned (.tuple #[.slice a k c, .bool b, .int .i64 e]) ∧ HS w0 w' g G F ((a, bools B) :: L) := by
  have H := simParts_is h.own.gin r s hr hs
  rw [hR] at H
  refine H.mono ?_
  rintro en w' ⟨v, rfl, hrow, _, hc⟩
  obtain ⟨a, c, rfl⟩ := row.shape hrow
  simp only [hk] at hrow
  exact ⟨a, c, by simp only [hk], (h.same hc).add (row.sv hrow rfl hkl)⟩
theorem simWords_h (h : HS w0 w g G F L) {xa : Option Addr} {ins : List Nat} {m xc : Nat} (hx : (xa, u64s ins) ∈ L) (hm : ins.length = m) (hlt : ∀ v ∈ ins, v < 2 ^ 64) (hcap : m ≤ xc) (hxc : xc ≤ 9223372036854775807) {a : Option Addr} {l : List Int} {n c : Nat} (hn : l.length = n) (hL : Sl w a l) (hbd : ∀ r ∈ l, -9223372036854775808 ≤ r ∧ r ≤ 9223372036854775807) (hll : n ≤ 100000) {ws : List Nat} {e k : Nat} (hR : wordsR G ins l = (ws, e)) (hk : ws.length = k) (hkl : k ≤ 1000000) :
    Calls Try.prog 29 #[.pointer (some ⟨g, 0, none⟩), .slice xa m xc, .slice a n c] w fun en w' => ∃ ya yc, en = .returned (.tuple #[.slice ya k yc, .int .i64 e]) ∧ HS w0 w' g G F ((ya, u64s ws) :: L) := by
  subst hm hn
  have H := simWords_is h.own.gin (xa := xa) (ins := ins) xc (h.held _ hx) hlt hcap hxc c hL hbd hll
  rw [hR] at H
  refine H.mono ?_
  rintro en w' ⟨v, rfl, hrow, _, hc⟩
  obtain ⟨ya, yc, rfl⟩ := row.shape hrow
  simp only [hk] at hrow
  exact ⟨ya, yc, by simp only [hk], (h.same hc).add (row.sv hrow rfl hkl)⟩
theorem simBits_h (h : HS w0 w g G F L) {xa : Option Addr} {ins : List Bool} {m xc : Nat} (hx : (xa, bools ins) ∈ L) (hm : ins.length = m) (hml : m ≤ 100000) {a : Option Addr} {l : List Int} {n c : Nat} (hn : l.length = n) (hL : Sl w a l) (hbd : ∀ r ∈ l, -9223372036854775808 ≤ r ∧ r ≤ 9223372036854775807) (hll : n ≤ 100000) {bs : List Bool} {e k : Nat} (hR : bitsR G ins l = (bs, e)) (hk : bs.length = k) (hkl : k ≤ 1000000) :
    Calls Try.prog 24 #[.pointer (some ⟨g, 0, none⟩), .slice xa m xc, .slice a n c] w fun en w' => ∃ ya yc, en = .returned (.tuple #[.slice ya k yc, .int .i64 e]) ∧ HS w0 w' g G F ((ya, bools bs) :: L) := by
  have H := simBits_is h.own.gin (xa := xa) (ins := ins) m xc hm (h.held _ hx) hml n c hn hL hbd hll
  rw [hR] at H
  refine H.mono ?_
  rintro en w' ⟨v, rfl, hrow, _, hc⟩
  obtain ⟨ya, yc, rfl⟩ := row.shape hrow
  simp only [hk] at hrow
  exact ⟨ya, yc, by simp only [hk], (h.same hc).add (row.sv hrow rfl hkl)⟩
theorem simSupport_h (h : HS w0 w g G F L) {a : Option Addr} {l : List Int} {n c : Nat} (hn : l.length = n) (hL : Sl w a l) (hlow : ∀ q, a = some q → q.block < w.heap.size) (hbd : ∀ r ∈ l, -9223372036854775808 ≤ r ∧ r ≤ 9223372036854775807) {s : List Nat} {e k : Nat} (hR : suppR G l = (s, e)) (hk : s.length = k) (hkl : k ≤ 1000000) :
    Calls Try.prog 33 #[.pointer (some ⟨g, 0, none⟩), .slice a n c] w fun en w' => ∃ ya yc, en = .returned (.tuple #[.slice ya k yc, .int .i64 e]) ∧ HS w0 w' g G F ((ya, refsCells s) :: L) := by
  have H := simSupport_is h.own.gin (a := a) (l := l) n c hn hL hlow hbd
  rw [hR] at H
  refine H.mono ?_
  rintro en w' ⟨v, rfl, hrow, _, hc⟩
  obtain ⟨ya, yc, rfl⟩ := row.shape hrow
  simp only [hk] at hrow
  exact ⟨ya, yc, by simp only [hk], (h.same hc).add (row.sv hrow rfl hkl)⟩
theorem EQu64_h (h : HS w0 w g G F L) {a b : Option Addr} {xs ys : List Nat} {n m ca cb : Nat} (hx : (a, u64s xs) ∈ L) (hy : Sv w b (u64s ys)) (hn : xs.length = n) (hm : ys.length = m) {q : Bool} (hq : decide (xs = ys) = q) :
    Calls Try.prog 35 #[.slice a n ca, .slice b m cb] w fun e w' => e = .returned (.bool q) ∧ HS w0 w' g G F L := by
  subst hn hm hq
  exact (EQu64_is ca cb (h.held _ hx) hy).mono fun e w' ⟨he, hc⟩ => ⟨he, h.same hc⟩
theorem Eqbool_h (h : HS w0 w g G F L) {a b : Option Addr} {xs ys : List Bool} {n m ca cb : Nat} (hx : (a, bools xs) ∈ L) (hy : Sv w b (bools ys)) (hn : xs.length = n) (hm : ys.length = m) {q : Bool} (hq : decide (xs = ys) = q) :
    Calls Try.prog 25 #[.slice a n ca, .slice b m cb] w fun e w' => e = .returned (.bool q) ∧ HS w0 w' g G F L := by
  subst hn hm hq
  exact (Eqbool_is ca cb (h.held _ hx) hy).mono fun e w' ⟨he, hc⟩ => ⟨he, h.same hc⟩
theorem Eqint_h (h : HS w0 w g G F L) {a b : Option Addr} {xs ys : List Int} {n m ca cb : Nat} (hx : Sl w a xs) (hy : Sl w b ys) (hn : xs.length = n) (hm : ys.length = m) {q : Bool} (hq : decide (xs = ys) = q) :
    Calls Try.prog 78 #[.slice a n ca, .slice b m cb] w fun e w' => e = .returned (.bool q) ∧ HS w0 w' g G F L := by
  subst hn hm hq
  exact (Eqint_is ca cb hx hy).mono fun e w' ⟨he, hc⟩ => ⟨he, h.same hc⟩
end
end Go.Proofs.Ytnmfdiiehkkjcaa
namespace Go.Proofs.Ytnmfdiiehkkjcaa
open Go.RowKit Go.Mem Go.Aig
def sb1 : Gra := ⟨20, [⟨1, 0, 0, 0⟩, ⟨2, 0, 0, 0⟩]⟩
def sb2 : Gra := ⟨20, [⟨1, 0, 0, 0⟩, ⟨2, 0, 0, 0⟩, ⟨2, 0, 0, 0⟩]⟩
def sb3 : Gra := ⟨20, [⟨1, 0, 0, 0⟩, ⟨2, 0, 0, 0⟩, ⟨2, 0, 0, 0⟩, ⟨3, 2, 5, 1⟩, ⟨3, 3, 4, 1⟩, ⟨3, 7, 9, 2⟩]⟩
def sb4 : Gra := ⟨20, [⟨1, 0, 0, 0⟩, ⟨2, 0, 0, 0⟩, ⟨2, 0, 0, 0⟩, ⟨3, 2, 5, 1⟩, ⟨3, 3, 4, 1⟩, ⟨3, 7, 9, 2⟩, ⟨3, 3, 5, 1⟩]⟩
theorem blkSv {w : World} {b : Nat} {xs : List Value} (hb : blk w b xs) (hl : xs.length ≤ 9223372036854775807) : Sv w (some ⟨b, 0, none⟩) xs := ⟨fun i x hx => ⟨b, 0, rfl, by
  rw [Nat.zero_add]
  exact hb.cell hx⟩, hl⟩
theorem blkSl {w : World} {b : Nat} {l : List Int} {xs : List Value} (hb : blk w b xs) (hx : xs = l.map fun z => .int .i64 z) (hl : l.length ≤ 9223372036854775807) : Sl w (some ⟨b, 0, none⟩) l := ⟨fun i x hi => ⟨b, 0, rfl, by
  rw [Nat.zero_add]
  refine hb.cell ?_
  rw [hx, List.getElem?_map, hi]
  rfl⟩, hl⟩
theorem svSl {w : World} {a : Option Addr} {l : List Nat} (h : Sv w a (refsCells l)) : Sl w a (l.map fun (r : Nat) => (r : Int)) := ⟨fun i x hx => by
  rw [List.getElem?_map] at hx
  cases hl : l[i]? with
  | none => rw [hl] at hx; cases hx
  | some r =>
    rw [hl] at hx
    cases hx
    exact h.cells i _ (by simp [refsCells, hl]), by have := h.bd; simpa [refsCells] using this⟩
section
variable {w0 w : World} {g : Nat} {G : Gra} {F : List Nat}
theorem New_s (n : Nat) (h1 : 1 ≤ n) (h2 : n ≤ 65536) : Calls Try.prog 68 #[.int .i64 n] w fun e w' => ∃ g F, e = .returned (.tuple #[.pointer (some ⟨g, 0, none⟩), .int .i64 0]) ∧ HS w w' g (newG n) F [] :=
  (New_yes n h1 h2).mono fun e w' ⟨g, F, he, hg, hF, hc⟩ => ⟨g, F, he, ⟨hg, hF, hc⟩, by simp⟩
theorem Input_s (h : HS w0 w g G F []) {G' : Gra} {r e : Nat} (hR : doInput G = (G', r, e)) : Calls Try.prog 34 #[.pointer (some ⟨g, 0, none⟩)] w fun en w' => ∃ F', en = .returned (.tuple #[.int .i64 r, .int .i64 e]) ∧ HS w0 w' g G' F' [] := by
  have H := Input_g h.own.gin
  rw [hR] at H
  refine H.mono ?_
  rintro en w' ⟨rfl, hto⟩
  obtain ⟨F', ho⟩ := h.own.to hto
  exact ⟨F', rfl, ho, by simp⟩
theorem And_s (h : HS w0 w g G F []) (a b : Int) (ba : a ≤ 9223372036854775807) (bb : b ≤ 9223372036854775807) {G' : Gra} {r e : Nat} (hR : doAnd G a b = (G', r, e)) : Calls Try.prog 59 #[.pointer (some ⟨g, 0, none⟩), .int .i64 a, .int .i64 b] w fun en w' => ∃ F', en = .returned (.tuple #[.int .i64 r, .int .i64 e]) ∧ HS w0 w' g G' F' [] := by
  have H := And_g h.own.gin a b ba bb
  rw [hR] at H
  refine H.mono ?_
  rintro en w' ⟨rfl, hto⟩
  obtain ⟨F', ho⟩ := h.own.to hto
  exact ⟨F', rfl, ho, by simp⟩
theorem Or_s (h : HS w0 w g G F []) (a b : Int) (ba : a ≤ 9223372036854775807) (bb : b ≤ 9223372036854775807) {G' : Gra} {r e : Nat} (hR : doOr G a b = (G', r, e)) : Calls Try.prog 58 #[.pointer (some ⟨g, 0, none⟩), .int .i64 a, .int .i64 b] w fun en w' => ∃ F', en = .returned (.tuple #[.int .i64 r, .int .i64 e]) ∧ HS w0 w' g G' F' [] := by
  have H := Or_g h.own.gin a b ba bb
  rw [hR] at H
  refine H.mono ?_
  rintro en w' ⟨rfl, hto⟩
  obtain ⟨F', ho⟩ := h.own.to hto
  exact ⟨F', rfl, ho, by simp⟩
theorem Xor_s (h : HS w0 w g G F []) (a b : Int) (ba : a ≤ 9223372036854775807) (bb : b ≤ 9223372036854775807) {G' : Gra} {r e : Nat} (hR : doXor G a b = (G', r, e)) : Calls Try.prog 77 #[.pointer (some ⟨g, 0, none⟩), .int .i64 a, .int .i64 b] w fun en w' => ∃ F', en = .returned (.tuple #[.int .i64 r, .int .i64 e]) ∧ HS w0 w' g G' F' [] := by
  have H := Xor_g h.own.gin a b ba bb
  rw [hR] at H
  refine H.mono ?_
  rintro en w' ⟨rfl, hto⟩
  obtain ⟨F', ho⟩ := h.own.to hto
  exact ⟨F', rfl, ho, by simp⟩
end
set_option maxRecDepth 100000 in
set_option maxHeartbeats 4000000 in
theorem awake21_is (w : World) : Calls Try.prog 16 #[] w fun e w' => e = .returned (.bool true) ∧ Ch [] w w' := by
  have hN := New_s (w := w) 20 (by decide) (by decide)
  have HN := Lib.hid hN; clear hN
  go_enter Try.func16, Try.ntmps16
  go_wp2_with fail
  refine HN.out.mono ?_
  rintro e w1 ⟨g, F1, rfl, ho⟩
  have HO := Lib.hid ho; clear ho HN
  go_wp2_with fail
  refine (Input_s HO.out (G' := sb1) (r := 2) (e := 0) (by kernel_rfl)).mono ?_
  rintro e w2 ⟨F2, rfl, ho⟩
  clear HO; have HO := Lib.hid ho; clear ho
  go_wp2_with fail
  refine (Input_s HO.out (G' := sb2) (r := 4) (e := 0) (by kernel_rfl)).mono ?_
  rintro e w3 ⟨F3, rfl, ho⟩
  clear HO; have HO := Lib.hid ho; clear ho
  go_wp2_with fail
  refine (Xor_s HO.out 2 4 (by decide) (by decide) (G' := sb3) (r := 11) (e := 0) (by kernel_rfl)).mono ?_
  rintro e w4 ⟨F4, rfl, ho⟩
  clear HO; have HO := Lib.hid ho; clear ho
  go_wp2_with fail
  refine (Or_s HO.out 2 4 (by decide) (by decide) (G' := sb4) (r := 13) (e := 0) (by kernel_rfl)).mono ?_
  rintro e w5 ⟨F5, rfl, ho⟩
  clear HO; have HO := Lib.hid ho; clear ho
  go_wp2_with fail
  refine (simTable_h HO.out 11 (by decide) (T := [6]) (e := 0) (k := 1) (by kernel_rfl) rfl (by decide)).mono ?_
  rintro e w6 ⟨a0, c0, rfl, ho⟩
  clear HO; have HO := Lib.hid ho; clear ho
  go_wp2_with fail
  refine (simTable_h HO.out 2 (by decide) (T := [10]) (e := 0) (k := 1) (by kernel_rfl) rfl (by decide)).mono ?_
  rintro e w7 ⟨a1, c1, rfl, ho⟩
  clear HO; have HO := Lib.hid ho; clear ho
  go_wp2_with fail
  refine (simTable_h HO.out 1 (by decide) (T := [15]) (e := 0) (k := 1) (by kernel_rfl) rfl (by decide)).mono ?_
  rintro e w8 ⟨a2, c2, rfl, ho⟩
  clear HO; have HO := Lib.hid ho; clear ho
  go_wp2_with fail
  refine (simCount_h HO.out 11 (by decide) (n := 2) (e := 0) (by kernel_rfl)).mono ?_
  rintro e w9 ⟨rfl, ho⟩
  clear HO; have HO := Lib.hid ho; clear ho
  go_wp2_with fail
  refine (simFirst_h HO.out 11 (by decide) (B := [true, false]) (b := true) (e := 0) (k := 2) (by kernel_rfl) rfl (by decide)).mono ?_
  rintro e w10 ⟨a3, c3, rfl, ho⟩
  clear HO; have HO := Lib.hid ho; clear ho
  go_wp2_with fail
  refine calls_named fun w11 hW => ?_
  have hc : Ch [] w10 w11 := by rw [hW]; exact ((Ch.refl _ _).alloc _)
  have hk11_0 : blk w11 (w10.heap.size) [.int .u64 6] := by rw [hW]; exact blk.new' _ _ (by simp)
  clear hW
  have ho := HO.out.same hc
  clear HO hc; have HO := Lib.hid ho; clear ho
  refine (EQu64_h HO.out (a := a0) (ca := c0) (xs := [6]) (ys := [6]) (by simp) (blkSv hk11_0 (by decide)) rfl rfl (q := true) (by decide)).mono ?_
  rintro e w12 ⟨rfl, ho⟩
  clear HO; have HO := Lib.hid ho; clear ho
  go_wp2_with fail
  refine calls_named fun w13 hW => ?_
  have hc : Ch [] w12 w13 := by rw [hW]; exact ((Ch.refl _ _).alloc _)
  have hk13_0 : blk w13 (w12.heap.size) [.int .u64 10] := by rw [hW]; exact blk.new' _ _ (by simp)
  clear hW
  have ho := HO.out.same hc
  clear HO hc; have HO := Lib.hid ho; clear ho
  refine (EQu64_h HO.out (a := a1) (ca := c1) (xs := [10]) (ys := [10]) (by simp) (blkSv hk13_0 (by decide)) rfl rfl (q := true) (by decide)).mono ?_
  rintro e w14 ⟨rfl, ho⟩
  clear HO; have HO := Lib.hid ho; clear ho
  go_wp2_with fail
  refine calls_named fun w15 hW => ?_
  have hc : Ch [] w14 w15 := by rw [hW]; exact ((Ch.refl _ _).alloc _)
  have hk15_0 : blk w15 (w14.heap.size) [.int .u64 15] := by rw [hW]; exact blk.new' _ _ (by simp)
  clear hW
  have ho := HO.out.same hc
  clear HO hc; have HO := Lib.hid ho; clear ho
  refine (EQu64_h HO.out (a := a2) (ca := c2) (xs := [15]) (ys := [15]) (by simp) (blkSv hk15_0 (by decide)) rfl rfl (q := true) (by decide)).mono ?_
  rintro e w16 ⟨rfl, ho⟩
  clear HO; have HO := Lib.hid ho; clear ho
  go_wp2_with fail
  refine calls_named fun w17 hW => ?_
  have hc : Ch [] w16 w17 := by rw [hW]; exact ((Ch.refl _ _).alloc _)
  have hk17_0 : blk w17 (w16.heap.size) [.bool true, .bool false] := by rw [hW]; exact blk.new' _ _ (by simp)
  clear hW
  have ho := HO.out.same hc
  clear HO hc; have HO := Lib.hid ho; clear ho
  refine (Eqbool_h HO.out (a := a3) (ca := c3) (xs := [true, false]) (ys := [true, false]) (by simp) (blkSv hk17_0 (by decide)) rfl rfl (q := true) (by decide)).mono ?_
  rintro e w18 ⟨rfl, ho⟩
  clear HO; have HO := Lib.hid ho; clear ho
  go_wp2_with fail
  refine (simParts_h HO.out 2 4 (by decide) (by decide) (B := [true, false]) (b := true) (e := 0) (k := 2) (by kernel_rfl) rfl (by decide)).mono ?_
  rintro e w19 ⟨a4, c4, rfl, ho⟩
  clear HO; have HO := Lib.hid ho; clear ho
  go_wp2_with fail
  refine (simParts_h HO.out 11 13 (by decide) (by decide) (B := [true, true]) (b := true) (e := 0) (k := 2) (by kernel_rfl) rfl (by decide)).mono ?_
  rintro e w20 ⟨a5, c5, rfl, ho⟩
  clear HO; have HO := Lib.hid ho; clear ho
  go_wp2_with fail
  refine calls_named fun w21 hW => ?_
  have hc : Ch [] w20 w21 := by rw [hW]; exact (((Ch.refl _ _).alloc _).alloc _)
  have hk21_0 : blk w21 (w20.heap.size) [.int .u64 12, .int .u64 10] := by rw [hW]; exact (blk.new' _ _ (by simp)).alloc _
  have hk21_1 : blk w21 (w20.heap.size + 1) [.int .i64 2, .int .i64 11] := by rw [hW]; exact blk.new' _ _ (by simp)
  clear hW
  have ho := HO.out.same hc
  clear HO hc; have HO := Lib.hid ho; clear ho
  have ho := HO.out.blk hk21_0 (by decide)
  clear HO; have HO := Lib.hid ho; clear ho
  refine (simWords_h HO.out (xa := some ⟨w20.heap.size, 0, none⟩) (ins := [12, 10]) (m := 2) (xc := 2) (by simp [u64s]) rfl (by decide) (by decide) (by decide) (l := [2, 11]) (n := 2) (c := 2) rfl (blkSl hk21_1 rfl (by decide)) (by decide) (by decide) (ws := [12, 6]) (e := 0) (k := 2) (by kernel_rfl) rfl (by decide)).mono ?_
  rintro e w22 ⟨a6, c6, rfl, ho⟩
  clear HO; have HO := Lib.hid ho; clear ho
  go_wp2_with fail
  refine calls_named fun w23 hW => ?_
  have hc : Ch [] w22 w23 := by rw [hW]; exact ((Ch.refl _ _).alloc _)
  have hk23_0 : blk w23 (w22.heap.size) [.int .i64 1] := by rw [hW]; exact blk.new' _ _ (by simp)
  clear hW
  have ho := HO.out.same hc
  clear HO hc; have HO := Lib.hid ho; clear ho
  refine (simSupport_h HO.out (l := [1]) (n := 1) (c := 1) rfl (blkSl hk23_0 rfl (by decide)) (fun q hq => by cases hq; exact hk23_0.lt) (by decide) (s := []) (e := 0) (k := 0) (by kernel_rfl) rfl (by decide)).mono ?_
  rintro e w24 ⟨a7, c7, rfl, ho⟩
  clear HO; have HO := Lib.hid ho; clear ho
  go_wp2_with fail
  refine calls_named fun w25 hW => ?_
  have hc : Ch [] w24 w25 := by rw [hW]; exact ((Ch.refl _ _).alloc _)
  have hk25_0 : blk w25 (w24.heap.size) [.int .i64 11] := by rw [hW]; exact blk.new' _ _ (by simp)
  clear hW
  have ho := HO.out.same hc
  clear HO hc; have HO := Lib.hid ho; clear ho
  refine (simSupport_h HO.out (l := [11]) (n := 1) (c := 1) rfl (blkSl hk25_0 rfl (by decide)) (fun q hq => by cases hq; exact hk25_0.lt) (by decide) (s := [0, 1]) (e := 0) (k := 2) (by kernel_rfl) rfl (by decide)).mono ?_
  rintro e w26 ⟨a8, c8, rfl, ho⟩
  clear HO; have HO := Lib.hid ho; clear ho
  go_wp2_with fail
  refine (New_s 1 (by decide) (by decide)).mono ?_
  rintro e w27 ⟨g2, G2, rfl, hn⟩
  have HN := Lib.hid hn; clear hn
  go_wp2_with fail
  refine (simTable_h HN.out 1 (by decide) (T := [1]) (e := 0) (k := 1) (by kernel_rfl) rfl (by decide)).mono ?_
  rintro e w28 ⟨a9, c9, rfl, hn⟩
  have ho := (HO.out.same hn.own.ch).add (hn.held _ (List.mem_cons_self ..))
  clear HO HN hn; have HO := Lib.hid ho; clear ho
  go_wp2_with fail
  refine calls_named fun w29 hW => ?_
  have hc : Ch [] w28 w29 := by rw [hW]; exact ((Ch.refl _ _).alloc _)
  have hk29_0 : blk w29 (w28.heap.size) [.bool true, .bool false] := by rw [hW]; exact blk.new' _ _ (by simp)
  clear hW
  have ho := HO.out.same hc
  clear HO hc; have HO := Lib.hid ho; clear ho
  refine (Eqbool_h HO.out (a := a4) (ca := c4) (xs := [true, false]) (ys := [true, false]) (by simp) (blkSv hk29_0 (by decide)) rfl rfl (q := true) (by decide)).mono ?_
  rintro e w30 ⟨rfl, ho⟩
  clear HO; have HO := Lib.hid ho; clear ho
  go_wp2_with fail
  refine calls_named fun w31 hW => ?_
  have hc : Ch [] w30 w31 := by rw [hW]; exact ((Ch.refl _ _).alloc _)
  have hk31_0 : blk w31 (w30.heap.size) [.bool true, .bool true] := by rw [hW]; exact blk.new' _ _ (by simp)
  clear hW
  have ho := HO.out.same hc
  clear HO hc; have HO := Lib.hid ho; clear ho
  refine (Eqbool_h HO.out (a := a5) (ca := c5) (xs := [true, true]) (ys := [true, true]) (by simp) (blkSv hk31_0 (by decide)) rfl rfl (q := true) (by decide)).mono ?_
  rintro e w32 ⟨rfl, ho⟩
  clear HO; have HO := Lib.hid ho; clear ho
  go_wp2_with fail
  refine calls_named fun w33 hW => ?_
  have hc : Ch [] w32 w33 := by rw [hW]; exact ((Ch.refl _ _).alloc _)
  have hk33_0 : blk w33 (w32.heap.size) [.int .u64 12, .int .u64 6] := by rw [hW]; exact blk.new' _ _ (by simp)
  clear hW
  have ho := HO.out.same hc
  clear HO hc; have HO := Lib.hid ho; clear ho
  refine (EQu64_h HO.out (a := a6) (ca := c6) (xs := [12, 6]) (ys := [12, 6]) (by simp) (blkSv hk33_0 (by decide)) rfl rfl (q := true) (by decide)).mono ?_
  rintro e w34 ⟨rfl, ho⟩
  clear HO; have HO := Lib.hid ho; clear ho
  go_wp2_with fail
  refine calls_named fun w35 hW => ?_
  have hc : Ch [] w34 w35 := by rw [hW]; exact ((Ch.refl _ _).alloc _)
  have hk35_0 : blk w35 (w34.heap.size) [.int .i64 0, .int .i64 1] := by rw [hW]; exact blk.new' _ _ (by simp)
  clear hW
  have ho := HO.out.same hc
  clear HO hc; have HO := Lib.hid ho; clear ho
  refine (Eqint_h HO.out (a := a8) (ca := c8) (xs := [0, 1]) (ys := [0, 1]) (svSl (l := [0, 1]) (HO.out.held (a8, refsCells [0, 1]) (by simp))) (blkSl hk35_0 rfl (by decide)) rfl rfl (q := true) (by decide)).mono ?_
  rintro e w36 ⟨rfl, ho⟩
  clear HO; have HO := Lib.hid ho; clear ho
  go_wp2_with fail
  refine calls_named fun w37 hW => ?_
  have hc : Ch [] w36 w37 := by rw [hW]; exact ((Ch.refl _ _).alloc _)
  have hk37_0 : blk w37 (w36.heap.size) [.int .u64 1] := by rw [hW]; exact blk.new' _ _ (by simp)
  clear hW
  have ho := HO.out.same hc
  clear HO hc; have HO := Lib.hid ho; clear ho
  refine (EQu64_h HO.out (a := a9) (ca := c9) (xs := [1]) (ys := [1]) (by simp) (blkSv hk37_0 (by decide)) rfl rfl (q := true) (by decide)).mono ?_
  rintro e w38 ⟨rfl, ho⟩
  clear HO; have HO := Lib.hid ho; clear ho
  go_wp2_with fail
  go_ret
  exact ⟨rfl, HO.out.own.ch⟩
end Go.Proofs.Ytnmfdiiehkkjcaa
namespace Go
open Go.RowKit Go.Mem
section
variable {P : Program} (w : World)
theorem run_append_zeros_room (t tn ty e : TypeId) (i : TypeInfo) (z : Value) (kn : IntKind) (ht : P.underlying t = some (.slice e)) (htn : P.underlying tn = some (.int kn)) (hi : P.info? e = some i) (hz : i.zero = some z) (hs : 0 < i.size)
    (g sLen sCap : Nat) (cur : Array Value) (hg : w.heap[g]? = some (.cells cur e (0, 0))) (m : Nat) (hl : (Builtin.zeroCells z.cells m).toList.length = m * i.size) (h1 : ∀ u ∈ (Builtin.zeroCells z.cells m).toList, u.oneCell' = true)
    (hm63 : m ≤ 1000000) (hmb : m * i.bytes ≤ 281474976710656) (hroom : sLen + m ≤ sCap) (hfit : sLen * i.size + m * i.size ≤ cur.size) :
    (Builtin.append_ #[t, tn] ty #[.slice (some ⟨g, 0, none⟩) sLen sCap, .int .i64 m]).run P w =
      .ok (.slice (some ⟨g, 0, none⟩) (sLen + m) sCap) (w.setRow g (cur.toList.take (sLen * i.size) ++ (Builtin.zeroCells z.cells m).toList ++ cur.toList.drop (sLen * i.size + m * i.size)).toArray) := by
  have hst := run_storeCells_at P g (sLen * i.size) e (Builtin.zeroCells z.cells m).toList 0 cur w hg (by rw [hl]; simpa using hfit) h1
  simp only [Nat.add_zero] at hst
  have hw : IntKind.i64.wrap (m : Int) = m := by rw [IntKind.wrap_i64]; omega
  have hneg : ¬ ((m : Int) < 0) := by omega
  have h48i : ¬ (281474976710656 < (m : Int) * (i.bytes : Int)) := by
    rw [← Int.natCast_mul]
    omega
  rw [hl] at hst
  by_cases hm : m = 0
  · subst hm
    have hz0 : (Builtin.zeroCells z.cells 0).toList = [] := by simp [Builtin.zeroCells]
    rw [hz0] at hst ⊢
    have hw0 : IntKind.i64.wrap 0 = 0 := by rw [IntKind.wrap_i64]; rfl
    simp at hst hroom ⊢
    simp [Builtin.append_, run_underlying ht, run_underlying htn, sizeOf, typeInfo, hi, asInt, asIntOf, hw0, hroom, Addr.add_lit, hst]
  · have hns : ¬ (m * i.size = 0) := Nat.mul_ne_zero hm (by omega)
    simp [Builtin.append_, run_underlying ht, run_underlying htn, sizeOf, typeInfo, zeroValue, hi, hz, asInt, asIntOf, hw, hneg, h48i, hns, hroom, Addr.add_lit, hst]
theorem run_append_zeros_grow (t tn ty e : TypeId) (i : TypeInfo) (z : Value) (kn : IntKind) (ht : P.underlying t = some (.slice e)) (htn : P.underlying tn = some (.int kn)) (hi : P.info? e = some i) (hz : i.zero = some z) (hs : 0 < i.size)
    (b : Addr) (sLen sCap : Nat) (olds : List Value) (hlo : olds.length = sLen * i.size) (holds : ∀ j v, olds[j]? = some v → w.cell? (b.add j) = some v) (m : Nat) (hm : m ≠ 0) (hm63 : m ≤ 1000000) (hmb : m * i.bytes ≤ 281474976710656)
    (hg : sCap < sLen + m) (h63 : ((sLen + m : Nat) : Int) ≤ 9223372036854775807) (hfit : Builtin.nextslicecap (sLen + m) sCap * i.bytes ≤ 281474976710656) :
    (Builtin.append_ #[t, tn] ty #[.slice (some b) sLen sCap, .int .i64 m]).run P w =
      .ok (.slice (some ⟨w.heap.size, 0, none⟩) (sLen + m) (grownCap w (sLen + m) sCap e))
        (w.drew.alloc (.cells (olds.toArray ++ Builtin.zeroCells z.cells m ++ Builtin.zeroCells z.cells (grownCap w (sLen + m) sCap e - (sLen + m))) e)) := by
  have hn : ¬ (sLen + m ≤ sCap) := by omega
  have h63' : ¬ (9223372036854775807 < ((sLen : Int) + (m : Int))) := by omega
  have h48' : ¬ (281474976710656 < Builtin.nextslicecap (sLen + m) sCap * i.bytes) := by omega
  have hfo := run_firstCells_some (P := P) w.drew i.size sLen b sLen sCap olds hlo (by simpa using holds)
  have hw : IntKind.i64.wrap (m : Int) = m := by rw [IntKind.wrap_i64]; omega
  have hneg : ¬ ((m : Int) < 0) := by omega
  have h48i : ¬ (281474976710656 < (m : Int) * (i.bytes : Int)) := by
    rw [← Int.natCast_mul]
    omega
  have hns : ¬ (m * i.size = 0) := Nat.mul_ne_zero hm (by omega)
  simp [Builtin.append_, run_underlying ht, run_underlying htn, sizeOf, typeInfo, zeroValue, hi, hz, asInt, asIntOf, hw, hneg, h48i, hns, hn, h63', h48', Question.forced, hfo, newRow, grownCap]
end
theorem run_append_zeros {P : Program} (w : World) {t tn e : TypeId} {size bytes : Nat} {z : Value} (S : SliceTy P t e size bytes z) (ty : TypeId) {kn : IntKind} (htn : P.underlying tn = some (.int kn))
    (v : Value) (n : Nat) (xs : List Value) (hown : row w e size v n xs) (m : Nat) (zs : List Value) (hzs : (Builtin.zeroCells z.cells m).toList = zs) (h1 : ∀ u ∈ zs, u.oneCell' = true)
    (hm63 : m ≤ 1000000) (hbytes : (n + m) * bytes ≤ 140737488355328) (h63 : n + m ≤ maxLen) :
    ∃ v' w', (Builtin.append_ #[t, tn] ty #[v, .int .i64 m]).run P w = .ok v' w' ∧ row w' e size v' (n + m) (xs ++ zs) ∧ Ch v.ownBlock.toList w w' ∧ (∀ k, v'.ownBlock = some k → v.ownBlock = some k ∨ w.heap.size ≤ k) := by
  obtain ⟨i, hi, hz, hsize, hby⟩ := info_parts S.info
  subst hsize hby hzs
  have hl : (Builtin.zeroCells z.cells m).toList.length = m * i.size := by rw [Array.length_toList, size_zeroCells, S.zs]
  have hsmall : n + m ≤ 9223372036854775807 := by simp only [maxLen] at h63; omega
  have hmb : m * i.bytes ≤ 281474976710656 := by
    have := Nat.mul_le_mul_right i.bytes (show m ≤ n + m by omega)
    omega
  have hlen : (xs ++ (Builtin.zeroCells z.cells m).toList).length = (n + m) * i.size := by rw [List.length_append, hown.1, hl, Nat.add_mul]
  have grown : ∀ (old : Nat), old < n + m → row (w.drew.alloc (.cells (xs.toArray ++ Builtin.zeroCells z.cells m ++ Builtin.zeroCells z.cells (grownCap w (n + m) old e - (n + m))) e)) e i.size
        (.slice (some ⟨w.heap.size, 0, none⟩) (n + m) (grownCap w (n + m) old e)) (n + m) (xs ++ (Builtin.zeroCells z.cells m).toList) ∧
      Ch [] w (w.drew.alloc (.cells (xs.toArray ++ Builtin.zeroCells z.cells m ++ Builtin.zeroCells z.cells (grownCap w (n + m) old e - (n + m))) e)) := by
    intro old ho
    have hge := grownCap_ge w (n + m) old e
    have hcm : grownCap w (n + m) old e ≤ maxLen := grownCap_le_maxLen w (n + m) old e h63
    refine ⟨⟨hlen, .inr ⟨w.heap.size, _, _, rfl, Nat.zero_le _, heap_alloc_new w.drew _, hge, hcm, ?_, ?_⟩⟩, (Ch.refl _ _).drew.alloc _⟩
    · simp only [Array.size_append, List.size_toArray, size_zeroCells, S.zs, hown.1, ← Nat.add_mul]
      congr 1
      omega
    · simp only [Array.toList_append, List.append_assoc]
      rw [← List.append_assoc, ← hlen]
      exact List.take_left
  rcases hown.2 with ⟨rfl, rfl⟩ | ⟨g, cap, cur, rfl, hbg, hg, hnc, hcm, hcs, htake⟩
  · have hx : xs = [] := List.eq_nil_of_length_eq_zero (by simpa using hown.1)
    subst hx
    by_cases hm : m = 0
    · subst hm
      have hz0 : (Builtin.zeroCells z.cells 0).toList = [] := by simp [Builtin.zeroCells]
      rw [hz0]
      refine ⟨.slice none 0 0, w, ?_, ⟨by simp, .inl ⟨rfl, rfl⟩⟩, Ch.refl _ _, by simp [Value.ownBlock]⟩
      have hw0 : IntKind.i64.wrap 0 = 0 := by rw [IntKind.wrap_i64]; rfl
      simp [Builtin.append_, run_underlying S.under, run_underlying htn, sizeOf, typeInfo, hi, asInt, asIntOf, hw0]
    · have hr := Lib.run_append_nil_zeros (P := P) w t tn ty e i z .i64 kn S.under htn hi hz m (by omega) S.pos (by omega) hmb
      have hgr := grown 0 (by omega)
      simp only [Nat.zero_add, List.nil_append, Array.empty_append] at hgr ⊢
      refine ⟨_, _, hr, ?_, ?_, fun k hk => .inr ?_⟩
      · have := hgr.1
        simpa using this
      · have := hgr.2
        exact (by simpa using this : Ch [] w _).mono (by simp)
      · simp [Value.ownBlock] at hk; omega
  · by_cases hroom : n + m ≤ cap
    · have hfit : n * i.size + m * i.size ≤ cur.size := by rw [hcs, ← Nat.add_mul]; exact Nat.mul_le_mul_right _ hroom
      have hr := run_append_zeros_room (P := P) w t tn ty e i z kn S.under htn hi hz S.pos g n cap cur hg m hl h1 hm63 hmb hroom hfit
      refine ⟨_, _, hr, ⟨hlen, .inr ⟨g, cap, _, rfl, hbg, setRow_heap w g cur _ e _ hg, hroom, hcm, ?_, ?_⟩⟩, ?_, fun k hk => .inl hk⟩
      · simp only [List.size_toArray, List.length_append, List.length_take, List.length_drop, Array.length_toList, hl]
        rw [Array.length_toList] at hl
        omega
      · rw [htake, ← hlen]
        exact List.take_left
      · exact ⟨rfl, rfl, rfl, by simp, fun k _ hk => setRow_other w g k _ (fun e => hk (by simp [Value.ownBlock, e]))⟩
    · have hm : m ≠ 0 := by omega
      have holds : ∀ j u, xs[j]? = some u → w.cell? ((⟨g, 0, none⟩ : Addr).add j) = some u := hown.cells (g := g) rfl
      have hr := run_append_zeros_grow (P := P) w t tn ty e i z kn S.under htn hi hz S.pos ⟨g, 0, none⟩ n cap xs hown.1 holds m hm hm63 hmb (by omega) (by omega) (growslice_fits (by omega) hbytes)
      have hgr := grown cap (by omega)
      exact ⟨_, _, hr, hgr.1, hgr.2.mono (by simp), fun k hk => .inr (by simp [Value.ownBlock] at hk; omega)⟩
/-- the operation, for the walk -/
theorem wpList_append_zeros {P : Program} {w : World} {ops : Array Oper} {rest : List Oper} {o : Oper} {a : Act} {Q : Exit → Act → World → Prop} {t tn e : TypeId} {size bytes : Nat} {z : Value} (S : SliceTy P t e size bytes z) {kn : IntKind} (htn : P.underlying tn = some (.int kn)) (hgd : o.guard = none) (s x : Operand)
    (ho : o.op = .call { callee := .builtin .append, args := #[s, x], argTypes := #[t, tn] }) {v : Value} {n : Nat} {xs : List Value} (hs : a.eval s = v) (hown : row w e size v n xs) {m : Nat} (hx : a.eval x = .int .i64 m) (zs : List Value) (hzs : (Builtin.zeroCells z.cells m).toList = zs) (h1 : ∀ u ∈ zs, u.oneCell' = true)
    (hm63 : m ≤ 1000000) (hbytes : (n + m) * bytes ≤ 140737488355328) (h63 : n + m ≤ maxLen)
    (h : ∀ v' w', row w' e size v' (n + m) (xs ++ zs) → Ch v.ownBlock.toList w w' → (∀ k, v'.ownBlock = some k → v.ownBlock = some k ∨ w.heap.size ≤ k) → wpList P ops Q rest (a.put o.dst v') w') : wpList P ops Q (o :: rest) a w := by
  obtain ⟨v', w', hr, h2, h3, h4⟩ := run_append_zeros w S o.type htn v n xs hown m zs hzs h1 hm63 hbytes h63
  exact Lib.wpList_append_run w hgd s x t tn ho v (.int .i64 m) hs hx v' w' hr (h v' w' h2 h3 h4)
end Go
namespace Go.Aig
theorem wvF_app (M : Nat) (ins : List Nat) (a b : List Nd) : ∃ t, (wvF M ins (a ++ b)).1 = (wvF M ins a).1 ++ t := by
  induction b using List.snocRec with
  | nil => exact ⟨[], by simp⟩
  | snoc b x ih =>
    obtain ⟨t, ht⟩ := ih
    obtain ⟨v, hv⟩ := wvF_ext M ins (a ++ b) x
    rw [← List.append_assoc]
    exact ⟨t ++ [v], by rw [hv, ht, List.append_assoc]⟩
/-- what a node is, by its kind -/
theorem wv_node {ns : List Nd} (hw : WF ns) (M : Nat) (ins : List Nat) {n : Nat} {x : Nd} (hx : ns[n]? = some x) :
    (wvF M ins ns).1[n]? = some (if x.k = 3 then wref M (wvF M ins ns).1 x.l &&& wref M (wvF M ins ns).1 x.r else if x.k = 2 then ins.getD (inputs (ns.take n)).length 0 else 0) := by
  have hn := (List.getElem?_eq_some_iff.1 hx).1
  obtain ⟨t, ht⟩ := wvF_app M ins (ns.take (n + 1)) (ns.drop (n + 1))
  rw [List.take_append_drop] at ht
  have h1 : wvF M ins (ns.take (n + 1)) = wvStep M (wvF M ins (ns.take n)) x := by rw [List.take_add_one, hx]; exact wvF_snoc M ins (ns.take n) x
  have hl : (wvF M ins (ns.take n)).1.length = n := by rw [wvF_len, List.length_take]; omega
  have hr : ∀ r, r < 2 * n → wref M (wvF M ins ns).1 r = wref M (wvF M ins (ns.take n)).1 r := fun r hr => by
    obtain ⟨t2, ht2⟩ := wvF_app M ins (ns.take n) (ns.drop n)
    rw [List.take_append_drop] at ht2
    rw [ht2, wref_ext (by omega)]
  have h2 : (wvF M ins (ns.take n)).2 = ins.drop (inputs (ns.take n)).length := by
    have : ∀ ms : List Nd, (wvF M ins ms).2 = ins.drop (inputs ms).length := by
      intro ms
      induction ms using List.snocRec with
      | nil => rfl
      | snoc ms y ih =>
        rw [wvF_snoc]
        unfold wvStep
        split
        · rename_i h; rw [Go.Proofs.Ytnmfdiiehkkjcaa.inputs_append (by omega)]; exact ih
        · split
          · rename_i h; rw [Go.Proofs.Ytnmfdiiehkkjcaa.inputs_input h, List.length_append]; simp only [ih, List.tail_drop, List.length_cons, List.length_nil]
          · rename_i h; rw [Go.Proofs.Ytnmfdiiehkkjcaa.inputs_append h]; exact ih
    exact this _
  have key : (wvF M ins ns).1[n]? = (wvStep M (wvF M ins (ns.take n)) x).1[n]? := by rw [ht, List.getElem?_append_left (by rw [wvF_len, List.length_take]; omega), h1]
  rw [key]
  unfold wvStep
  split
  · rename_i h3
    have hs := hw.sides hx h3
    simp only
    rw [List.getElem?_append_right (by omega), hl, Nat.sub_self, hr x.l (by omega), hr x.r (by omega)]
    rfl
  · split
    · simp only
      rw [List.getElem?_append_right (by omega), hl, Nat.sub_self, h2]
      simp [List.headD_eq_head?_getD, List.head?_drop, List.getD_eq_getElem?_getD]
    · simp only
      rw [List.getElem?_append_right (by omega), hl, Nat.sub_self]
      rfl
/-- words for just as many inputs as there are -/
def fitI (ins : List Nat) (k : Nat) : List Nat := ins.take (min ins.length k) ++ List.replicate (k - ins.length) 0
theorem fitI_len (ins : List Nat) (k : Nat) : (fitI ins k).length = k := by
  unfold fitI
  rw [List.length_append, List.length_take, List.length_replicate]
  omega
theorem fitI_lt {ins : List Nat} (h : ∀ v ∈ ins, v < 2 ^ 64) (k : Nat) : ∀ v ∈ fitI ins k, v < 2 ^ 64 := fun v hv => by
  unfold fitI at hv
  rcases List.mem_append.1 hv with hv | hv
  · exact h v (List.mem_of_mem_take hv)
  · rw [(List.mem_replicate.1 hv).2]; omega
end Go.Aig
namespace Go.Proofs.Ytnmfdiiehkkjcaa
open Go.RowKit Go.Mem Go.Aig
theorem zeros_u64 (m : Nat) : (Builtin.zeroCells (Value.int .u64 0).cells m).toList = u64s (List.replicate m 0) := by
  unfold Builtin.zeroCells u64s
  rw [show (Value.int .u64 0).cells = #[.int .u64 0] from rfl]
  apply List.ext_getElem
  · simp
  · intro i h1 h2
    simp [Nat.mod_one]
theorem eqSliceNilW (w : World) (a : Option Addr) (n c : Nat) : (binOp .eql 33 (.slice a n c) (.slice none 0 0)).run Try.prog w = .ok (.bool a.isNone) w := by
  have h : Try.prog.underlying 33 = some (.slice 45) := Try.underlying33
  simp only [binOp]
  simp [run_equal_slice_nil w _ _ a n c h]
attribute [local go_sem] eqSliceNilW
section
variable {w : World}
set_option maxRecDepth 100000 in
set_option maxHeartbeats 1000000 in
theorem CLu64_is {a : Option Addr} {l : List Nat} (n c : Nat) (hn : l.length = n) (h : Sv w a (u64s l)) (hm : n ≤ 1000000) : Calls Try.prog 26 #[.slice a n c] w fun e w' => ∃ v, e = .returned v ∧ row w' 45 1 v n (u64s l) ∧ (∀ q ∈ v.ownBlock.toList, w.heap.size ≤ q) ∧ Ch [] w w' := by
  subst hn
  cases a with
  | none =>
    have hl : l = [] := by
      cases l with
      | nil => rfl
      | cons y l =>
        obtain ⟨b, o, e, _⟩ := h.cells 0 (.int .u64 y) rfl
        cases e
    subst hl
    clear h
    go_enter Try.func26, Try.ntmps26
    go_wp2_with fail
    go_ret
    exact ⟨_, rfl, ⟨rfl, .inl ⟨rfl, rfl⟩⟩, by simp, Ch.refl _ _⟩
  | some p =>
    have hO : row (w.alloc (.cells #[] 45)) 45 1 (.slice (some ⟨w.heap.size, 0, none⟩) 0 0) 0 [] := ⟨rfl, .inr ⟨w.heap.size, 0, #[], rfl, by omega, heap_alloc_new w _, by omega, by unfold maxLen; omega, rfl, rfl⟩⟩
    have hN : ∀ j u, (u64s l)[j]? = some u → (w.alloc (.cells #[] 45)).cell? (p.add j) = some u := fun j u hu => by
      obtain ⟨b, o, e, hc⟩ := h.cells j u hu
      cases e
      rw [Addr.add_lit]
      exact (((Ch.refl [] w).alloc _).cell (cell_lt hc) (by simp)).trans hc
    have h1 : ∀ u ∈ u64s l, u.oneCell' = true := fun u hu => by
      obtain ⟨r, _, rfl⟩ := List.mem_map.1 hu
      rfl
    have HO := Lib.hid hO; clear hO
    have HN := Lib.hid hN; clear hN h
    have H1 := Lib.hid h1; clear h1
    go_enter Try.func26, Try.ntmps26
    go_wp2_with (at_builtin; go_loud (refine wpList_append_row slU64s rfl _ _ rfl (v := .slice (some ⟨w.heap.size, 0, none⟩) 0 0) (n := 0) (xs := []) rfl HO.out (ad := p) (m := l.length) (c := c) (news := u64s l) rfl (by simp [u64s]) HN.out H1.out (by omega) (by omega) ?_; intro v' w2 hown hC2 hfresh; have HOWN := Lib.hid hown; clear hown; have HC2 := Lib.hid hC2; clear hC2; have HFR := Lib.hid hfresh; clear hfresh))
    go_ret
    have hown := HOWN.out
    rw [Nat.zero_add, List.nil_append] at hown
    refine ⟨_, rfl, hown, fun k hk => ?_, (((Ch.refl [] w).alloc (.cells #[] 45))).trans HC2.out (by simp)⟩
    rcases HFR.out k (by simpa using hk) with e | e
    · simp at e; omega
    · simp at e; omega

end
end Go.Proofs.Ytnmfdiiehkkjcaa
namespace Go.Aig
open Go.Proofs.Ytnmfdiiehkkjcaa
theorem metDown_mono {ns : List Nd} (hw : WF ns) : ∀ (n : Nat) (met : List Bool), met.length = ns.length → ∀ m, met.getD m false = true → (metDown ns n met).getD m false = true
  | 0, _, _, _, h => h
  | n + 1, met, hl, m, h => by
    unfold metDown
    split
    · exact metDown_mono hw n _ (by rw [stepMet_len, hl]) m ((stepMet_getD hw hl m).2 (.inl h))
    · exact metDown_mono hw n _ hl m h
theorem metDown_closed {ns : List Nd} (hw : WF ns) : ∀ (n : Nat) (met : List Bool), met.length = ns.length → ∀ d, d < n → (metDown ns n met).getD d false = true → ∀ x, ns[d]? = some x → x.k = 3 → (metDown ns n met).getD (x.l / 2) false = true ∧ (metDown ns n met).getD (x.r / 2) false = true
  | 0, _, _, d, hd, _, _, _, _ => by omega
  | n + 1, met, hl, d, hd, h, x, hx, h3 => by
    unfold metDown at h ⊢
    by_cases hdn : d < n
    · split at h
      · rename_i hm
        rw [if_pos hm]
        exact metDown_closed hw n _ (by rw [stepMet_len, hl]) d hdn h x hx h3
      · rename_i hm
        rw [if_neg hm]
        exact metDown_closed hw n _ hl d hdn h x hx h3
    · have e : d = n := by omega
      subst e
      split at h
      · rename_i hm
        rw [if_pos hm]
        have h1 := (stepMet_getD hw hl (d := d) (x.l / 2)).2 (.inr ⟨x, hx, h3, .inl rfl⟩)
        have h2 := (stepMet_getD hw hl (d := d) (x.r / 2)).2 (.inr ⟨x, hx, h3, .inr rfl⟩)
        exact ⟨metDown_mono hw d _ (by rw [stepMet_len, hl]) _ h1, metDown_mono hw d _ (by rw [stepMet_len, hl]) _ h2⟩
      · rename_i hm
        rw [metDown_far hw d met d (Nat.le_refl _)] at h
        exact absurd h hm
theorem mem_cone {ns : List Nd} (hw : WF ns) (l : List Nat) (d : Nat) : d ∈ cone ns l ↔ d < ns.length ∧ (metDown ns ns.length (met0 ns.length l)).getD d false = true := by
  rw [cone_filter hw, List.mem_filter, List.mem_range]
theorem cone_closed {ns : List Nd} (hw : WF ns) {l : List Nat} {d : Nat} {x : Nd} (h : d ∈ cone ns l) (hx : ns[d]? = some x) (h3 : x.k = 3) : x.l / 2 ∈ cone ns l ∧ x.r / 2 ∈ cone ns l := by
  obtain ⟨h1, h2⟩ := (mem_cone hw l d).1 h
  have hs := hw.sides hx h3
  obtain ⟨a, b⟩ := metDown_closed hw ns.length _ (met0_len _ _) d h1 h2 x hx h3
  exact ⟨(mem_cone hw l _).2 ⟨by omega, a⟩, (mem_cone hw l _).2 ⟨by omega, b⟩⟩
theorem marked : ∀ (l : List Nat) (met : List Bool) (r : Nat), r ∈ l → r / 2 < met.length → (l.foldl setMark met).getD (r / 2) false = true
  | [], _, _, h, _ => by cases h
  | q :: l, met, r, h, hr => by
    rw [List.foldl_cons]
    rcases List.mem_cons.1 h with rfl | h
    · refine foldl_mark_mono l _ _ ?_
      unfold setMark
      exact getD_set.2 (.inr ⟨rfl, hr⟩)
    · exact marked l _ r h (by rw [setMark_len]; exact hr)
theorem mem_marked : ∀ (l : List Nat) (met : List Bool) (m : Nat), (l.foldl setMark met).getD m false = true → met.getD m false = true ∨ ∃ r ∈ l, m = r / 2
  | [], _, _, h => .inl h
  | q :: l, met, m, h => by
    rw [List.foldl_cons] at h
    rcases mem_marked l _ m h with h | ⟨r, hr, e⟩
    · unfold setMark at h
      rcases getD_set.1 h with h | ⟨h, _⟩
      · exact .inl h
      · exact .inr ⟨q, List.mem_cons_self .., h⟩
    · exact .inr ⟨r, List.mem_cons_of_mem _ hr, e⟩
theorem cone_has {ns : List Nd} (hw : WF ns) {l : List Nat} {r : Nat} (h : r ∈ l) (hr : r < 2 * ns.length) : r / 2 ∈ cone ns l :=
  (mem_cone hw l _).2 ⟨by omega, metDown_mono hw _ _ (met0_len _ _) _ (by unfold met0; exact marked l _ r h (by simp; omega))⟩
/-- the cone of references whose nodes are among those of others -/
theorem cone_sub {ns : List Nd} (hw : WF ns) {l l' : List Nat} (h : ∀ r ∈ l, r < 2 * ns.length ∧ ∃ q ∈ l', r / 2 = q / 2) : ∀ d ∈ cone ns l, d ∈ cone ns l' := fun d hd => by
  unfold cone coneDown at hd ⊢
  rw [List.mem_reverse] at hd ⊢
  refine coneFrom_mono hw ns.length _ _ (met0_len _ _) (met0_len _ _) (fun m hm => ?_) d hd
  unfold met0 at hm ⊢
  rcases mem_marked l _ m hm with h1 | ⟨r, hr, rfl⟩
  · rw [List.getD_eq_getElem?_getD, List.getElem?_replicate] at h1
    split at h1 <;> simp at h1
  · obtain ⟨h2, q, hq, e⟩ := h r hr
    rw [e]
    exact marked l' _ q hq (by simp; omega)
theorem inputsFrom_app : ∀ (a b : List Nd) (n : Nat), inputsFrom (a ++ b) n = inputsFrom a n ++ inputsFrom b (n + a.length)
  | [], b, n => rfl
  | x :: a, b, n => by
    show (if x.k = 2 then 2 * n :: inputsFrom (a ++ b) (n + 1) else inputsFrom (a ++ b) (n + 1)) = (if x.k = 2 then 2 * n :: inputsFrom a (n + 1) else inputsFrom a (n + 1)) ++ inputsFrom b (n + (a.length + 1))
    rw [inputsFrom_app a b (n + 1), show n + 1 + a.length = n + (a.length + 1) by omega]
    split <;> rfl
/-- which input a node is -/
theorem input_at {ns : List Nd} {n : Nat} {x : Nd} (hx : ns[n]? = some x) (h2 : x.k = 2) : (inputs (ns.take n)).length < (inputs ns).length ∧ (inputs ns).getD (inputs (ns.take n)).length 0 = 2 * n := by
  have hn := (List.getElem?_eq_some_iff.1 hx).1
  have e : ns = ns.take n ++ x :: ns.drop (n + 1) := by
    have h1 := List.take_append_drop n ns
    rw [List.drop_eq_getElem_cons hn, (List.getElem?_eq_some_iff.1 hx).2] at h1
    exact h1.symm
  have h3 : inputs ns = inputs (ns.take n) ++ 2 * n :: inputsFrom (ns.drop (n + 1)) (n + 1) := by
    conv => lhs; rw [e]
    unfold inputs
    rw [inputsFrom_app, Nat.zero_add, List.length_take, Nat.min_eq_left (by omega)]
    congr 1
    show (if x.k = 2 then _ else _) = _
    rw [if_pos h2]
  constructor
  · rw [h3]; simp
  · rw [h3, List.getD_eq_getElem?_getD, List.getElem?_append_right (Nat.le_refl _), Nat.sub_self]
    rfl
/-- two assignments that are the same in the support make the same of what lies in the cone -/
theorem cone_same {ns : List Nd} (hw : WF ns) (M : Nat) {l : List Nat} {I J : List Nat} (h : ∀ i ∈ Go.Proofs.Ytnmfdiiehkkjcaa.suppL ns l (inputs ns).length, I.getD i 0 = J.getD i 0) :
    ∀ n, n ∈ cone ns l → (wvF M I ns).1.getD n 0 = (wvF M J ns).1.getD n 0 := by
  intro n
  induction n using Nat.strongRecOn with
  | _ n ih =>
    intro hn
    obtain ⟨h1, _⟩ := (mem_cone hw l n).1 hn
    obtain ⟨x, hx⟩ : ∃ x, ns[n]? = some x := ⟨_, List.getElem?_eq_getElem h1⟩
    rw [List.getD_eq_getElem?_getD, List.getD_eq_getElem?_getD, wv_node hw M I hx, wv_node hw M J hx]
    show (if x.k = 3 then _ else _) = (if x.k = 3 then _ else _)
    by_cases h3 : x.k = 3
    · rw [if_pos h3, if_pos h3]
      have hs := hw.sides hx h3
      obtain ⟨c1, c2⟩ := cone_closed hw hn hx h3
      have e1 := ih (x.l / 2) (by omega) c1
      have e2 := ih (x.r / 2) (by omega) c2
      unfold wref
      rw [e1, e2]
    · rw [if_neg h3, if_neg h3]
      by_cases h2 : x.k = 2
      · rw [if_pos h2, if_pos h2]
        obtain ⟨q1, q2⟩ := input_at hx h2
        refine h _ ?_
        unfold Go.Proofs.Ytnmfdiiehkkjcaa.suppL
        refine List.mem_filter.2 ⟨List.mem_range.2 q1, decide_eq_true ?_⟩
        rw [q2, show 2 * n / 2 = n by omega]
        exact hn
      · rw [if_neg h2, if_neg h2]
theorem words_same {G : Gra} (hw : WF G.nodes) {l : List Nat} (hl : ∀ r ∈ l, r < 2 * G.nodes.length) {I J : List Nat} (h : ∀ i ∈ Go.Proofs.Ytnmfdiiehkkjcaa.suppL G.nodes l (inputs G.nodes).length, I.getD i 0 = J.getD i 0) : wsOf I G.nodes l = wsOf J G.nodes l := by
  unfold wsOf
  refine List.map_congr_left fun r hr => ?_
  have e := cone_same hw 18446744073709551615 h (r / 2) (cone_has hw hr (hl r hr))
  unfold wref
  rw [e]
/-- the support of fewer references is in that of more -/
theorem supp_sub {ns : List Nd} (hw : WF ns) {l l' : List Nat} (h : ∀ r ∈ l, r < 2 * ns.length ∧ ∃ q ∈ l', r / 2 = q / 2) (k : Nat) : ∀ i ∈ Go.Proofs.Ytnmfdiiehkkjcaa.suppL ns l k, i ∈ Go.Proofs.Ytnmfdiiehkkjcaa.suppL ns l' k := fun i hi => by
  unfold Go.Proofs.Ytnmfdiiehkkjcaa.suppL at hi ⊢
  obtain ⟨h1, h2⟩ := List.mem_filter.1 hi
  exact List.mem_filter.2 ⟨h1, decide_eq_true (cone_sub hw h _ (of_decide_eq_true h2))⟩
theorem supp_asc (ns : List Nd) (l : List Nat) (k : Nat) : (Go.Proofs.Ytnmfdiiehkkjcaa.suppL ns l k).Pairwise (fun a b => a < b) := by
  unfold Go.Proofs.Ytnmfdiiehkkjcaa.suppL
  exact List.Pairwise.filter _ (List.pairwise_lt_range)
theorem supp_lt (ns : List Nd) (l : List Nat) (k : Nat) : ∀ i ∈ Go.Proofs.Ytnmfdiiehkkjcaa.suppL ns l k, i < k := fun i hi => List.mem_range.1 (List.mem_filter.1 hi).1
end Go.Aig
namespace Go.Proofs.Ytnmfdiiehkkjcaa
open Go.RowKit Go.Mem Go.Aig
theorem badIn_range {G : Gra} {m : Nat} (h : m ≤ 2 * G.nodes.length) : badIn G (natInts (List.range m)) = false := by
  unfold badIn natInts
  rw [List.any_map, List.any_eq_false]
  intro r hr
  have := List.mem_range.1 hr
  simp [right]
  omega
theorem nats_natInts (l : List Nat) : nats (natInts l) = l := toNats l
/-- the words of the first references -/
def allW (V : List Nat) (m : Nat) : List Nat := (List.range m).map (wref U64 V)
theorem allW_len (V : List Nat) (m : Nat) : (allW V m).length = m := by simp [allW]
theorem allW_at (V : List Nat) {m r : Nat} (h : r < m) : (allW V m)[r]? = some (wref U64 V r) := by
  unfold allW
  rw [List.getElem?_map, List.getElem?_range h]
  rfl
theorem range_snoc2 (k : Nat) : List.range (2 * (k + 1)) = List.range (2 * k) ++ [2 * k, 2 * k + 1] := by
  rw [show 2 * (k + 1) = 2 * k + 1 + 1 by omega, List.range_succ, List.range_succ, List.append_assoc]
  rfl
theorem words_all {G : Gra} {I : List Nat} (hI : I.length = (inputs G.nodes).length) {m : Nat} (h : m ≤ 2 * G.nodes.length) : wordsR G I (natInts (List.range m)) = (allW (wvF U64 I G.nodes).1 m, 0) := by
  unfold wordsR
  rw [badIn_range h, if_neg (by simp), if_neg (by simpa using hI), nats_natInts]
  rfl
theorem bits_words {G : Gra} {I : List Nat} (hI : I.length = (inputs G.nodes).length) {l : List Int} (hb : badIn G l = false) {kk : Nat} (hk : kk < 64) : bitsR G (I.map fun v => v.testBit kk) l = ((wsOf I G.nodes (nats l)).map fun v => v.testBit kk, 0) := by
  unfold bitsR
  rw [hb, if_neg (by simp), if_neg (by simpa using hI)]
  congr 1
  unfold bsOf wsOf
  rw [List.map_map]
  apply List.map_congr_left
  intro r _
  have := wv_bv (N := 64) hk I G.nodes r
  rw [u64_pow] at this
  show _ = (wref 18446744073709551615 (wvF 18446744073709551615 I G.nodes).1 r).testBit kk
  rw [this]
  congr 1
  funext i
  rw [List.getD_eq_getElem?_getD, List.getD_eq_getElem?_getD, List.getElem?_map]
  cases I[i]? <;> simp
end Go.Proofs.Ytnmfdiiehkkjcaa
namespace Go.Aig
theorem tabE_zero {G : Gra} {l : List Nat} (hr : ∀ r ∈ l, r < 2 * G.nodes.length) (hk : (inputs G.nodes).length ≤ 16) : Go.Proofs.Ytnmfdiiehkkjcaa.tabE G (natInts l) = 0 := by
  have hb : badIn G (natInts l) = false := by
    unfold badIn natInts
    rw [List.any_map, List.any_eq_false]
    intro r h
    have := hr r h
    simp [right]
    omega
  unfold Go.Proofs.Ytnmfdiiehkkjcaa.tabE
  rw [hb, if_neg (by simp), if_neg (by omega)]
theorem table_ok {G : Gra} {r k : Nat} (hr : r < 2 * G.nodes.length) (hk : (inputs G.nodes).length = k) (h16 : k ≤ 16) : Go.Proofs.Ytnmfdiiehkkjcaa.tableR G (r : Int) = (tabW G.nodes (Go.Proofs.Ytnmfdiiehkkjcaa.oneF r) k, 0) := by
  have h := tabE_zero (G := G) (l := [r]) (by simpa using hr) (by omega)
  unfold Go.Proofs.Ytnmfdiiehkkjcaa.tableR
  rw [show [(r : Int)] = natInts [r] from rfl, h, if_pos rfl, hk]
theorem count_ok {G : Gra} {r k : Nat} (hr : r < 2 * G.nodes.length) (hk : (inputs G.nodes).length = k) (h16 : k ≤ 16) : Go.Proofs.Ytnmfdiiehkkjcaa.countR G (r : Int) = (countV k (tellR G.nodes k r), 0) := by
  have h := tabE_zero (G := G) (l := [r]) (by simpa using hr) (by omega)
  unfold Go.Proofs.Ytnmfdiiehkkjcaa.countR
  rw [show [(r : Int)] = natInts [r] from rfl, h, if_pos rfl, hk]
  rfl
theorem first_ok {G : Gra} {r k : Nat} (hr : r < 2 * G.nodes.length) (hk : (inputs G.nodes).length = k) (h16 : k ≤ 16) : Go.Proofs.Ytnmfdiiehkkjcaa.firstG G (r : Int) = (firstR k (tellR G.nodes k r), 0) := by
  have h := tabE_zero (G := G) (l := [r]) (by simpa using hr) (by omega)
  unfold Go.Proofs.Ytnmfdiiehkkjcaa.firstG
  rw [show [(r : Int)] = natInts [r] from rfl, h, if_pos rfl, hk]
  rfl
theorem parts_ok {G : Gra} {r s k : Nat} (hr : r < 2 * G.nodes.length) (hs : s < 2 * G.nodes.length) (hk : (inputs G.nodes).length = k) (h16 : k ≤ 16) : Go.Proofs.Ytnmfdiiehkkjcaa.partsG G (r : Int) (s : Int) = (firstR k (tellX G.nodes k r s), 0) := by
  have h := tabE_zero (G := G) (l := [r, s]) (by intro x hx; simp only [List.mem_cons, List.not_mem_nil, or_false] at hx; rcases hx with rfl | rfl <;> assumption) (by omega)
  unfold Go.Proofs.Ytnmfdiiehkkjcaa.partsG
  rw [show [(r : Int), (s : Int)] = natInts [r, s] from rfl, h, if_pos rfl, hk]
  rfl
theorem tellR_neg (ns : List Nd) (k r : Nat) : tellR ns k (neg r) = fun a => !tellR ns k r a := by
  funext a
  unfold tellR
  rw [bv_neg]
theorem firstR_len (k : Nat) (p : Nat → Bool) : (firstR k p).1.length = if (firstR k p).2 then k else 0 := by
  unfold firstR
  cases firstV k p with
  | none => rfl
  | some a => simp [asgBits_len]
theorem firstR_is (k : Nat) (p : Nat → Bool) : (firstR k p).2 = decide (0 < countV k p) := by
  cases h : firstV k p with
  | none =>
    have h2 := firstV_none.1 h
    have : ¬ 0 < countV k p := fun h0 => by
      obtain ⟨a, h1, h3⟩ := (countV_pos k p).1 h0
      rw [h2 a h1] at h3; cases h3
    unfold firstR
    rw [h, decide_eq_false this]
  | some a =>
    obtain ⟨h1, h2, _⟩ := firstV_some h
    have : 0 < countV k p := (countV_pos k p).2 ⟨a, h1, h2⟩
    unfold firstR
    rw [h, decide_eq_true this]
/-- the first number below a of which p is true; -1 if there is none -/
def fstI (p : Nat → Bool) (a : Nat) : Int := match (List.range a).find? p with
  | none => -1
  | some x => x
theorem fstI_succ (p : Nat → Bool) (a : Nat) : fstI p (a + 1) = if fstI p a < 0 ∧ p a = true then (a : Int) else fstI p a := by
  unfold fstI
  rw [List.range_succ, List.find?_append]
  cases h : (List.range a).find? p with
  | none =>
    cases hp : p a with
    | false => simp [hp]
    | true => simp [hp]
  | some x => simp; omega
theorem fstI_lt (p : Nat → Bool) (a : Nat) : fstI p a < a ∧ -1 ≤ fstI p a := by
  unfold fstI
  cases h : (List.range a).find? p with
  | none => simp; omega
  | some x =>
    have := List.mem_of_find?_eq_some h
    have := List.mem_range.1 this
    simp; omega
theorem fstI_neg {p : Nat → Bool} {a : Nat} (h : fstI p a < 0) : ∀ b, b < a → p b = false := by
  unfold fstI at h
  cases hf : (List.range a).find? p with
  | none =>
    intro b hb
    have := List.find?_eq_none.1 hf b (List.mem_range.2 hb)
    simpa using this
  | some x => rw [hf] at h; simp at h; omega
theorem cnt_succ (p : Nat → Bool) (a : Nat) : ((List.range (a + 1)).filter p).length = ((List.range a).filter p).length + (p a).toNat := by
  rw [List.range_succ, List.filter_append, List.length_append]
  cases h : p a <;> simp [h]
end Go.Aig
namespace Go.Proofs.Ytnmfdiiehkkjcaa
open Go.RowKit Go.Mem Go.Aig
theorem tab_bit64 {T : List Nat} {n : Nat} {p : Nat → Bool} (h : TabOf T n p) (hT : ∀ v ∈ T, v < 2 ^ 64) {a : Nat} (ha : a < 2 ^ n) : ∃ x, T[a / 64]? = some x ∧ (bits .and .u64 ((x : Int) / 2 ^ (a % 64)) 1 == 1) = p a := by
  have hle := blocks_le n
  have hl : a / 64 < T.length := by rw [h.len]; omega
  refine ⟨T[a / 64], List.getElem?_eq_getElem hl, ?_⟩
  rw [bit_u64 _ _ (hT _ (List.getElem_mem hl)), ← h.at' a ha]
  unfold tbit
  rw [List.getD_eq_getElem?_getD, List.getElem?_eq_getElem hl]
  rfl
theorem bits_one {G : Gra} {k a r : Nat} (hk : (inputs G.nodes).length = k) (hr : r < 2 * G.nodes.length) : bitsR G (asgBits k a) [(r : Int)] = ([tellR G.nodes k r a], 0) := by
  have hb : badIn G (natInts [r]) = false := by
    unfold badIn natInts
    simp [right]
    omega
  unfold bitsR
  rw [show [(r : Int)] = natInts [r] from rfl, hb, if_neg (by simp), if_neg (by rw [asgBits_len, hk]; simp), nats_natInts]
  unfold bsOf tellR
  rw [asgBits_at]
  rfl
theorem Eqbool_c {w : World} {a b : Option Addr} {xs ys : List Bool} {n m ca cb : Nat} (hx : Sb w a xs) (hy : Sb w b ys) (hn : xs.length = n) (hm : ys.length = m) {q : Bool} (hq : decide (xs = ys) = q) :
    Calls Try.prog 25 #[.slice a n ca, .slice b m cb] w fun e w' => e = .returned (.bool q) ∧ Ch [] w w' := by
  subst hn hm hq
  exact Eqbool_is ca cb hx hy
end Go.Proofs.Ytnmfdiiehkkjcaa
namespace Go.Proofs.Ytnmfdiiehkkjcaa
open Go.RowKit Go.Mem Go.Aig
def natCells (l : List Nat) : List Value := l.map fun (r : Nat) => .int .i64 r
theorem natCells_refs (l : List Nat) : refsCells l = natCells l := rfl
theorem eqSliceNilI (w : World) (a : Option Addr) (n c : Nat) : (binOp .eql 55 (.slice a n c) (.slice none 0 0)).run Try.prog w = .ok (.bool a.isNone) w := by
  have h : Try.prog.underlying 55 = some (.slice 3) := Try.underlying55
  simp only [binOp]
  simp [run_equal_slice_nil w _ _ a n c h]
attribute [local go_sem] eqSliceNilI
section
variable {w : World}
set_option maxRecDepth 100000 in
set_option maxHeartbeats 1000000 in
theorem CLint_is {a : Option Addr} {l : List Nat} (n c : Nat) (hn : l.length = n) (h : Sv w a (natCells l)) (hm : n ≤ 1000000) : Calls Try.prog 43 #[.slice a n c] w fun e w' => ∃ v, e = .returned v ∧ row w' 3 1 v n (natCells l) ∧ (∀ q ∈ v.ownBlock.toList, w.heap.size ≤ q) ∧ Ch [] w w' := by
  subst hn
  cases a with
  | none =>
    have hl : l = [] := by
      cases l with
      | nil => rfl
      | cons y l =>
        obtain ⟨b, o, e, _⟩ := h.cells 0 (.int .i64 y) rfl
        cases e
    subst hl
    clear h
    go_enter Try.func43, Try.ntmps43
    go_wp2_with fail
    go_ret
    exact ⟨_, rfl, ⟨rfl, .inl ⟨rfl, rfl⟩⟩, by simp, Ch.refl _ _⟩
  | some p =>
    have hO : row (w.alloc (.cells #[] 3)) 3 1 (.slice (some ⟨w.heap.size, 0, none⟩) 0 0) 0 [] := ⟨rfl, .inr ⟨w.heap.size, 0, #[], rfl, by omega, heap_alloc_new w _, by omega, by unfold maxLen; omega, rfl, rfl⟩⟩
    have hN : ∀ j u, (natCells l)[j]? = some u → (w.alloc (.cells #[] 3)).cell? (p.add j) = some u := fun j u hu => by
      obtain ⟨b, o, e, hc⟩ := h.cells j u hu
      cases e
      rw [Addr.add_lit]
      exact (((Ch.refl [] w).alloc _).cell (cell_lt hc) (by simp)).trans hc
    have h1 : ∀ u ∈ natCells l, u.oneCell' = true := fun u hu => by
      obtain ⟨r, _, rfl⟩ := List.mem_map.1 hu
      rfl
    have HO := Lib.hid hO; clear hO
    have HN := Lib.hid hN; clear hN h
    have H1 := Lib.hid h1; clear h1
    go_enter Try.func43, Try.ntmps43
    go_wp2_with (at_builtin; go_loud (refine wpList_append_row slInts rfl _ _ rfl (v := .slice (some ⟨w.heap.size, 0, none⟩) 0 0) (n := 0) (xs := []) rfl HO.out (ad := p) (m := l.length) (c := c) (news := natCells l) rfl (by simp [natCells]) HN.out H1.out (by omega) (by omega) ?_; intro v' w2 hown hC2 hfresh; have HOWN := Lib.hid hown; clear hown; have HC2 := Lib.hid hC2; clear hC2; have HFR := Lib.hid hfresh; clear hfresh))
    go_ret
    have hown := HOWN.out
    rw [Nat.zero_add, List.nil_append] at hown
    refine ⟨_, rfl, hown, fun k hk => ?_, (((Ch.refl [] w).alloc (.cells #[] 3))).trans HC2.out (by simp)⟩
    rcases HFR.out k (by simpa using hk) with e | e
    · simp at e; omega
    · simp at e; omega

set_option maxRecDepth 100000 in
set_option maxHeartbeats 1000000 in
theorem CMint_no {a : Option Addr} {xs : List Int} (n cap : Nat) (hn : xs.length = n) (h : Sl w a xs) (hs : ∀ (i : Nat) (x y : Int), xs[i]? = some x → xs[i + 1]? = some y → x < y) :
    Calls Try.prog 42 #[.slice a n cap] w fun e w' => e = .returned (.slice a n cap) ∧ Ch [] w w' := by
  subst hn
  have hbd := h.bd
  have H := Lib.hid h; clear h
  have HS := Lib.hid hs; clear hs
  by_cases h2 : xs.length < 2
  · go_enter Try.func42, Try.ntmps42
    go_wp2_with fail
    go_ret
    exact ⟨rfl, Ch.refl _ _⟩
  · go_enter Try.func42, Try.ntmps42
    go_wp2_with fail
    go_loopw [3] (fun i wr => ∃ k : Nat, 1 ≤ k ∧ k ≤ xs.length ∧ i = .int .i64 k ∧ Ch [] w wr) (fun i _ => xs.length - (intOf i).toNat)
    case atStart => exact ⟨1, by omega, by omega, rfl, Ch.refl _ _⟩
    case round =>
      obtain ⟨k, hk1, hk, rfl, hc⟩ := hrel
      by_cases hlt : k < xs.length
      · obtain ⟨j, rfl⟩ : ∃ j, k = j + 1 := ⟨k - 1, by omega⟩
        have hxk : xs[j]? = some xs[j] := List.getElem?_eq_getElem (by omega)
        have hyk : xs[j + 1]? = some xs[j + 1] := List.getElem?_eq_getElem (by omega)
        have hle := HS.out j _ _ hxk hyk
        obtain ⟨b, o, rfl, c1⟩ := (H.out.ch hc (by simp)).cells j _ hxk
        obtain ⟨b2, o2, he2, c2⟩ := (H.out.ch hc (by simp)).cells (j + 1) _ hyk
        cases he2
        generalize xs[j] = x at *
        generalize xs[j + 1] = y at *
        have hl : (y == x) = false := by rw [beq_eq_false_iff_ne]; omega
        clear hxk hyk hle
        have HC := Lib.hid hc; clear hc
        have ej : ((j + 1 : Nat) : Int) - 1 = (j : Int) := by omega
        go_wp2_with fail
        refine Ord.St.door (fun _ => True) [.fl, .fl, .fl, .rd, .fl, .fl, .fl, .fl, .rd, .fl] [0, 0, 3, 7, 0, 0, 32, 112, 240, 511] [0, 1, 2, 3, 4, 5, 6, 7, 8, 9] mixed (by kernel_rfl) rfl ?_
        refine Ord.St.fl2 (T' := ?_) 0 [1, 2, 3, 4, 5, 6, 7, 8, 9] _ _ rfl (by kernel_rfl) rfl rfl rfl rfl (fun K w' hk => ?_) ?_
        rotate_left
        · go_step; exact hk
        refine Ord.St.fl2 (T' := ?_) 1 [2, 3, 4, 5, 6, 7, 8, 9] _ _ rfl (by kernel_rfl) rfl rfl rfl rfl (fun K w' hk => ?_) ?_
        rotate_left
        · go_step; exact hk
        refine Ord.St.fl2 (T' := ?_) 2 [3, 4, 5, 6, 7, 8, 9] _ _ rfl (by kernel_rfl) rfl rfl rfl rfl (fun K w' hk => ?_) ?_
        rotate_left
        · go_step; exact hk
        refine Ord.St.rd2 (T' := ?_) 3 [4, 5, 6, 7, 8, 9] _ _ rfl (by kernel_rfl) rfl rfl rfl rfl (fun K hk => ?_) ?_
        rotate_left
        · go_step; exact hk
        refine Ord.St.fl2 (T' := ?_) 4 [5, 6, 7, 8, 9] _ _ rfl (by kernel_rfl) rfl rfl rfl rfl (fun K w' hk => ?_) ?_
        rotate_left
        · go_step; exact hk
        refine Ord.St.fl2 (T' := ?_) 5 [6, 7, 8, 9] _ _ rfl (by kernel_rfl) rfl rfl rfl rfl (fun K w' hk => ?_) ?_
        rotate_left
        · go_step; exact hk
        refine Ord.St.fl2 (T' := ?_) 6 [7, 8, 9] _ _ rfl (by kernel_rfl) rfl rfl rfl rfl (fun K w' hk => ?_) ?_
        rotate_left
        · go_step; exact hk
        refine Ord.St.fl2 (T' := ?_) 7 [8, 9] _ _ rfl (by kernel_rfl) rfl rfl rfl rfl (fun K w' hk => ?_) ?_
        rotate_left
        · go_step; exact hk
        refine Ord.St.rd2 (T' := ?_) 8 [9] _ _ rfl (by kernel_rfl) rfl rfl rfl rfl (fun K hk => ?_) ?_
        rotate_left
        · go_step; exact hk
        refine Ord.St.fl2 (T' := ?_) 9 [] _ _ rfl (by kernel_rfl) rfl rfl rfl rfl (fun K w' hk => ?_) ?_
        rotate_left
        · go_step; exact hk
        refine Ord.St.nil ?_
        go_wp2_with fail
        go_roundw
        case rel => exact ⟨j + 2, by omega, by omega, by go_num, HC.out.drew⟩
        case measure => simp [intOf]; omega
      · have HC := Lib.hid hc; clear hc
        go_wp2_with fail
        go_ret
        exact ⟨rfl, HC.out⟩
theorem fnvSimSupport1 : Fnv 46 := fnv_of Try.func46 (by simp [Try.f46]) (by simp [Try.f46])
set_option maxRecDepth 100000 in
set_option maxHeartbeats 1000000 in
theorem SimSupport1_is {a : Option Addr} {xs : List Int} {bx : Nat} (cap : Nat) (v : Int) (h : Sl w a xs) (hb : w.cell? ⟨bx, 0, none⟩ = some (.slice a xs.length cap)) :
    Calls Try.prog 46 (#[.int .i64 v] ++ #[.pointer (some ⟨bx, 0, none⟩)]) w fun e w' => e = .returned (.bool (!xs.any fun y => v == y)) ∧ w = w' := by
  show Calls Try.prog 46 #[.int .i64 v, .pointer (some ⟨bx, 0, none⟩)] w _
  have HI := Coint_is cap v h
  clear h
  generalize (xs.any fun y => v == y) = q at *
  have HH := Lib.hid HI; clear HI
  go_enter Try.func46, Try.ntmps46
  go_wp2_with fail
  refine HH.out.mono ?_
  rintro e w' ⟨rfl, rfl⟩
  go_wp2_with fail
  go_ret
  exact ⟨ret_bool rfl, rfl⟩
end
/-- whether a number is one of some -/
theorem any_mem (l : List Nat) (i : Nat) : (((natInts l).any fun y => (i : Int) == y) : Bool) = decide (i ∈ l) := by
  by_cases h : i ∈ l
  · rw [decide_eq_true h, List.any_eq_true]
    exact ⟨(i : Int), List.mem_map.2 ⟨i, h, rfl⟩, by simp⟩
  · rw [decide_eq_false h, List.any_eq_false]
    intro y hy
    obtain ⟨q, hq, rfl⟩ := List.mem_map.1 hy
    intro e
    have e2 : (i : Int) = (q : Int) := by simpa using e
    have e3 : i = q := by omega
    exact h (e3 ▸ hq)
theorem asc_at {l : List Nat} (h : l.Pairwise (fun a b => a < b)) : ∀ (i : Nat) (x y : Int), (natInts l)[i]? = some x → (natInts l)[i + 1]? = some y → x < y := by
  intro i x y hx hy
  unfold natInts at hx hy
  rw [List.getElem?_map] at hx hy
  cases h1 : l[i]? with
  | none => rw [h1] at hx; cases hx
  | some p =>
    cases h2 : l[i + 1]? with
    | none => rw [h2] at hy; cases hy
    | some q =>
      rw [h1] at hx; rw [h2] at hy
      simp at hx hy
      obtain ⟨l1, e1⟩ := List.getElem?_eq_some_iff.1 h1
      obtain ⟨l2, e2⟩ := List.getElem?_eq_some_iff.1 h2
      have := List.pairwise_iff_getElem.1 h i (i + 1) l1 l2 (by omega)
      rw [e1, e2] at this
      omega
end Go.Proofs.Ytnmfdiiehkkjcaa
namespace Go.Aig
theorem chk2_w {G : Gra} {x y : List Int} (h : rightW x.length = false) : chk G [x, y] = 230 := by
  unfold chk badAs
  simp [h]
theorem chk2_d {G : Gra} {x y : List Int} (h : y.length ≠ x.length) : chk G [x, y] = 230 := by
  unfold chk badAs
  have e : ((y.length : Int) != (x.length : Int)) = true := bne_iff_ne.2 (by omega)
  simp [e]
theorem chk2_r {G : Gra} {x y : List Int} (h : rightW x.length = true) (hd : y.length = x.length) (hb : badIn G x = true ∨ badIn G y = true) : chk G [x, y] = 200 := by
  unfold chk badAs
  rcases hb with hb | hb <;> simp [h, hd, hb]
theorem chk1_w {G : Gra} {x : List Int} (h : rightW x.length = false) : chk G [x] = 230 := by
  unfold chk badAs
  simp [h]
theorem chk1_r {G : Gra} {x : List Int} (h : rightW x.length = true) (hb : badIn G x = true) : chk G [x] = 200 := by
  unfold chk badAs
  simp [h, hb]
theorem badIn_set {G : Gra} {x : List Int} {i : Nat} {r : Int} (hi : i < x.length) (hr : right G.nodes r = false) : badIn G (x.set i r) = true := by
  unfold badIn
  rw [List.any_eq_true]
  exact ⟨r, List.mem_of_getElem? (i := i) (by rw [List.getElem?_set_self hi]), by simp [hr]⟩
theorem wordG_no {G : Gra} {ws : List (List Int)} (R : Mk × List Nat) {e : Nat} (he : chk G ws = e) (h0 : e ≠ 0) : wordG G ws R = (G, [], e) := by
  subst he
  unfold wordG
  rw [if_pos h0]
theorem refG_no {G : Gra} {ws : List (List Int)} (R : Mk × Nat) {e : Nat} (he : chk G ws = e) (h0 : e ≠ 0) : refG G ws R = (G, 0, e) := by
  subst he
  unfold refG
  rw [if_pos h0]
theorem negG_no (G : Gra) {e : Nat} (h0 : e ≠ 0) : negG (G, 0, e) = (G, 0, e) := by
  unfold negG
  rw [if_pos h0]
end Go.Aig
namespace Go.Proofs.Ytnmfdiiehkkjcaa
open Go.RowKit Go.Mem Go.Aig
section
variable {w0 : Base} {w : World} {g : Nat} {G : Gra} {F : List Nat} {L : List (Value × List Int)}
theorem Hold.tail {p : Value × List Int} (h : Hold w0 w g G F (p :: L)) : Hold w0 w g G F L := ⟨h.own, fun q hq => h.held q (List.mem_cons_of_mem _ hq), h.kept⟩
theorem Hold.sub {L' : List (Value × List Int)} (h : Hold w0 w g G F L) (hs : ∀ p ∈ L', p ∈ L) : Hold w0 w g G F L' := ⟨h.own, fun q hq => h.held q (hs q hq), h.kept⟩
theorem Hold.nil (h : Hold w0 w g G F L) : Hold w0 w g G F ((.slice none 0 0, []) :: L) := ⟨h.own, fun p hp => by
  rcases List.mem_cons.1 hp with rfl | hp
  · exact ⟨⟨rfl, .inl ⟨rfl, rfl⟩⟩, by simp, by simp, fun k hk => by simp at hk⟩
  · exact h.held p hp, h.kept⟩
theorem wno {fid : FuncId} {args : Array Value} {e : Nat} (h : Calls Try.prog fid args w fun en w' => ∃ a c F', en = .returned (.tuple #[.slice a 0 c, .int .i64 e]) ∧ Hold w0 w' g G F' ((.slice a 0 c, natInts []) :: L)) :
    Calls Try.prog fid args w fun en w' => ∃ a c F', en = .returned (.tuple #[.slice a 0 c, .int .i64 e]) ∧ Hold w0 w' g G F' L := by
  refine h.mono ?_
  rintro en w' ⟨a, c, F', rfl, hh⟩
  exact ⟨a, c, F', rfl, hh.tail⟩
theorem sXor_no (h : Hold w0 w g G F L) {xa ya : Option Addr} {xl yl : List Int} {n m xc yc : Nat} (hx : (.slice xa n xc, xl) ∈ L) (hxn : xl.length = n) (hy : (.slice ya m yc, yl) ∈ L) (hym : yl.length = m) {e : Nat} (he : chk G [xl, yl] = e) (h0 : e ≠ 0) :
    Calls Try.prog 103 #[.pointer (some ⟨g, 0, none⟩), .slice xa n xc, .slice ya m yc] w fun en w' => ∃ a c F', en = .returned (.tuple #[.slice a 0 c, .int .i64 e]) ∧ Hold w0 w' g G F' L := wno (sXor_h h hx hxn hy hym (wordG_no _ he h0) rfl (by simp) (by omega))
theorem sAdd_no (h : Hold w0 w g G F L) {xa ya : Option Addr} {xl yl : List Int} {n m xc yc : Nat} (hx : (.slice xa n xc, xl) ∈ L) (hxn : xl.length = n) (hy : (.slice ya m yc, yl) ∈ L) (hym : yl.length = m) {e : Nat} (he : chk G [xl, yl] = e) (h0 : e ≠ 0) :
    Calls Try.prog 50 #[.pointer (some ⟨g, 0, none⟩), .slice xa n xc, .slice ya m yc] w fun en w' => ∃ a c F', en = .returned (.tuple #[.slice a 0 c, .int .i64 e]) ∧ Hold w0 w' g G F' L := wno (sAdd_h h hx hxn hy hym (wordG_no _ he h0) rfl (by simp) (by omega))
theorem sSub_no (h : Hold w0 w g G F L) {xa ya : Option Addr} {xl yl : List Int} {n m xc yc : Nat} (hx : (.slice xa n xc, xl) ∈ L) (hxn : xl.length = n) (hy : (.slice ya m yc, yl) ∈ L) (hym : yl.length = m) {e : Nat} (he : chk G [xl, yl] = e) (h0 : e ≠ 0) :
    Calls Try.prog 51 #[.pointer (some ⟨g, 0, none⟩), .slice xa n xc, .slice ya m yc] w fun en w' => ∃ a c F', en = .returned (.tuple #[.slice a 0 c, .int .i64 e]) ∧ Hold w0 w' g G F' L := wno (sSub_h h hx hxn hy hym (by unfold subG; exact wordG_no _ he h0) rfl (by simp) (by omega))
theorem sNe_no (h : Hold w0 w g G F L) {xa ya : Option Addr} {xl yl : List Int} {n m xc yc : Nat} (hx : (.slice xa n xc, xl) ∈ L) (hxn : xl.length = n) (hy : (.slice ya m yc, yl) ∈ L) (hym : yl.length = m) {e : Nat} (he : chk G [xl, yl] = e) (h0 : e ≠ 0) :
    Calls Try.prog 54 #[.pointer (some ⟨g, 0, none⟩), .slice xa n xc, .slice ya m yc] w fun en w' => ∃ F', en = .returned (.tuple #[.int .i64 (0 : Nat), .int .i64 e]) ∧ Hold w0 w' g G F' L := sNe_h h hx hxn hy hym (refG_no _ he h0)
theorem sLt_no (h : Hold w0 w g G F L) {xa ya : Option Addr} {xl yl : List Int} {n m xc yc : Nat} (hx : (.slice xa n xc, xl) ∈ L) (hxn : xl.length = n) (hy : (.slice ya m yc, yl) ∈ L) (hym : yl.length = m) {e : Nat} (he : chk G [xl, yl] = e) (h0 : e ≠ 0) :
    Calls Try.prog 56 #[.pointer (some ⟨g, 0, none⟩), .slice xa n xc, .slice ya m yc] w fun en w' => ∃ F', en = .returned (.tuple #[.int .i64 (0 : Nat), .int .i64 e]) ∧ Hold w0 w' g G F' L := sLt_h h hx hxn hy hym (refG_no _ he h0)
theorem sEq_no (h : Hold w0 w g G F L) {xa ya : Option Addr} {xl yl : List Int} {n m xc yc : Nat} (hx : (.slice xa n xc, xl) ∈ L) (hxn : xl.length = n) (hy : (.slice ya m yc, yl) ∈ L) (hym : yl.length = m) {e : Nat} (he : chk G [xl, yl] = e) (h0 : e ≠ 0) :
    Calls Try.prog 104 #[.pointer (some ⟨g, 0, none⟩), .slice xa n xc, .slice ya m yc] w fun en w' => ∃ F', en = .returned (.tuple #[.int .i64 (0 : Nat), .int .i64 e]) ∧ Hold w0 w' g G F' L := sEq_h h hx hxn hy hym (by rw [refG_no _ he h0, negG_no _ h0])
theorem sLe_no (h : Hold w0 w g G F L) {xa ya : Option Addr} {xl yl : List Int} {n m xc yc : Nat} (hx : (.slice xa n xc, xl) ∈ L) (hxn : xl.length = n) (hy : (.slice ya m yc, yl) ∈ L) (hym : yl.length = m) {e : Nat} (he : chk G [yl, xl] = e) (h0 : e ≠ 0) :
    Calls Try.prog 57 #[.pointer (some ⟨g, 0, none⟩), .slice xa n xc, .slice ya m yc] w fun en w' => ∃ F', en = .returned (.tuple #[.int .i64 (0 : Nat), .int .i64 e]) ∧ Hold w0 w' g G F' L := sLe_h h hx hxn hy hym (by rw [refG_no _ he h0, negG_no _ h0])
theorem sNeg_no (h : Hold w0 w g G F L) {xa : Option Addr} {xl : List Int} {n xc : Nat} (hx : (.slice xa n xc, xl) ∈ L) (hxn : xl.length = n) {e : Nat} (he : chk G [List.replicate n 0, xl] = e) (h0 : e ≠ 0) :
    Calls Try.prog 52 #[.pointer (some ⟨g, 0, none⟩), .slice xa n xc] w fun en w' => ∃ a c F', en = .returned (.tuple #[.slice a 0 c, .int .i64 e]) ∧ Hold w0 w' g G F' L := wno (sNeg_h h hx hxn (by unfold subG; exact wordG_no _ he h0) rfl (by simp) (by omega))
theorem sAny_no (h : Hold w0 w g G F L) {xa : Option Addr} {xl : List Int} {n xc : Nat} (hx : (.slice xa n xc, xl) ∈ L) (hxn : xl.length = n) {e : Nat} (he : chk G [xl] = e) (h0 : e ≠ 0) :
    Calls Try.prog 55 #[.pointer (some ⟨g, 0, none⟩), .slice xa n xc] w fun en w' => ∃ F', en = .returned (.tuple #[.int .i64 (0 : Nat), .int .i64 e]) ∧ Hold w0 w' g G F' L := sAny_h h hx hxn (refG_no _ he h0)
theorem sInput_no (h : Hold w0 w g G F L) (i : Int) (hi : rightW i = false) :
    Calls Try.prog 69 #[.pointer (some ⟨g, 0, none⟩), .int .i64 i] w fun en w' => ∃ a c F', en = .returned (.tuple #[.slice a 0 c, .int .i64 (230 : Nat)]) ∧ Hold w0 w' g G F' L := wno (sInput_h h i (by unfold inG; rw [hi]; rfl) rfl (by simp) (by omega))
theorem sConst_no (h : Hold w0 w g G F L) (x : Nat) (hx : x < 4294967296) (i : Int) (hi : rightW i = false) :
    Calls Try.prog 49 #[.int .u32 x, .int .i64 i] w fun en w' => ∃ a c F', en = .returned (.tuple #[.slice a 0 c, .int .i64 (230 : Nat)]) ∧ Hold w0 w' g G F' L := by
  have hc := sConst_is (w := w) x hx i
  rw [hi] at hc
  refine (Calls.wnew (l := []) (k := 0) h hc rfl (by simp) (by omega)).mono ?_
  rintro en w' ⟨a, c, rfl, hh⟩
  exact ⟨a, c, F, rfl, hh.tail⟩
theorem sCast_no (h : Hold w0 w g G F L) {xa : Option Addr} {xl : List Int} {n xc : Nat} (hx : (.slice xa n xc, xl) ∈ L) (hxn : xl.length = n) (i : Int) (hi : (rightW i && rightW n) = false) :
    Calls Try.prog 70 #[.slice xa n xc, .int .i64 i] w fun en w' => ∃ a c F', en = .returned (.tuple #[.slice a 0 c, .int .i64 (230 : Nat)]) ∧ Hold w0 w' g G F' L := by
  have hc := sCast_is (h.at hx hxn).ok (by have := (h.held _ hx).cap; simp only [hxn]; omega) i
  simp only [WV.val, hxn, hi] at hc
  refine (Calls.wnew (l := []) (k := 0) h hc rfl (by simp) (by omega)).mono ?_
  rintro en w' ⟨a, c, rfl, hh⟩
  exact ⟨a, c, F, rfl, hh.tail⟩
end
end Go.Proofs.Ytnmfdiiehkkjcaa
namespace Go.Proofs.Ytnmfdiiehkkjcaa
open Go.RowKit Go.Mem Go.Aig
theorem max_ii (z q : Int) (ats : Array TypeId) (ty : TypeId) : Builtin.max_ ats ty #[.int .i64 z, .int .i64 q] = pure (.int .i64 (max z q)) := by
  have e : (if z < q then q else z) = max z q := by split <;> omega
  rw [← e]
  simp [Builtin.max_, Builtin.max2]
theorem min_ii (z q : Int) (ats : Array TypeId) (ty : TypeId) : Builtin.min_ ats ty #[.int .i64 z, .int .i64 q] = pure (.int .i64 (min z q)) := by
  have e : (if q < z then q else z) = min z q := by split <;> omega
  rw [← e]
  simp [Builtin.min_, Builtin.min2]
theorem WNew.set {w w' : World} {b n c i : Nat} {l : List Int} (h : WNew w (.slice (some ⟨b, 0, none⟩) n c) (intCells l) w') (hn : l.length = n) (r : Int) : WNew w (.slice (some ⟨b, 0, none⟩) n c) (intCells (l.set i r)) (w'.setCell ⟨b, i, none⟩ (.int .i64 r)) := by
  obtain ⟨h1, h2, h3⟩ := h
  have e : intCells (l.set i r) = (intCells l).set i (.int .i64 r) := by unfold intCells; rw [List.map_set]
  refine ⟨?_, h2, h3.setCell (.inr (h2 b (by simp))) _⟩
  have e2 : (intCells l).length = n := by simp [intCells, hn]
  have e3 : (intCells (l.set i r)).length = n := by simp [intCells, hn]
  rw [e3, e]
  rw [e2] at h1
  exact row.set h1 (.int .i64 r)
theorem WNew.app {w w1 w2 w3 : World} {v v' : Value} {l : List Int} {n : Nat} (h : WNew w v (intCells l) w1) (hc : Ch [] w1 w2) {r : Int} (hn : l.length = n) (hr : row w3 29 1 v' (n + 1) (intCells l ++ [.int .i64 r])) (h23 : Ch v.ownBlock.toList w2 w3) (hf : ∀ k, v'.ownBlock = some k → v.ownBlock = some k ∨ w2.heap.size ≤ k) : WNew w v' (intCells (l ++ [r])) w3 := by
  obtain ⟨h1, h2, h3⟩ := h
  have e : intCells (l ++ [r]) = intCells l ++ [.int .i64 r] := by simp [intCells]
  have e3 : (intCells (l ++ [r])).length = n + 1 := by simp [intCells, hn]
  have h02 := h3.trans hc (by simp)
  refine ⟨by rw [e3, e]; exact hr, fun q hq => ?_, h02.trans h23 (fun k hk => .inr (h2 k hk))⟩
  rcases hf q (by simpa using hq) with h | h
  · exact h2 q (by simpa using h)
  · have := h02.size; omega
theorem bd_set {l : List Int} {i : Nat} {r : Int} (h : ∀ x ∈ l, -9223372036854775808 ≤ x ∧ x ≤ 9223372036854775807) (hr : -9223372036854775808 ≤ r ∧ r ≤ 9223372036854775807) : ∀ x ∈ l.set i r, -9223372036854775808 ≤ x ∧ x ≤ 9223372036854775807 := fun x hx => by
  rcases List.mem_or_eq_of_mem_set hx with hx | rfl
  · exact h x hx
  · exact hr
theorem bd_app {l : List Int} {r : Int} (h : ∀ x ∈ l, -9223372036854775808 ≤ x ∧ x ≤ 9223372036854775807) (hr : -9223372036854775808 ≤ r ∧ r ≤ 9223372036854775807) : ∀ x ∈ l ++ [r], -9223372036854775808 ≤ x ∧ x ≤ 9223372036854775807 := fun x hx => by
  rcases List.mem_append.1 hx with hx | hx
  · exact h x hx
  · rw [List.mem_singleton.1 hx]; exact hr
theorem row_at2 {w : World} {e : TypeId} {b n c : Nat} {vs : List Value} (h : row w e 1 (.slice (some ⟨b, 0, none⟩) n c) n vs) {k : Nat} {v : Value} (hk : vs[k]? = some v) : w.cell? ⟨b, k, none⟩ = some v := by
  have := h.cells (g := b) rfl k v hk
  rw [Addr.add_lit] at this
  simpa using this
theorem row_fz {w : World} {e : TypeId} {b n c : Nat} {vs : List Value} (h : row w e 1 (.slice (some ⟨b, 0, none⟩) n c) n vs) (hn : 0 < n) (k : Nat) : w.frozen? ⟨b, k, none⟩ = false := by
  obtain ⟨b', ys, e1, hb, _⟩ := rowBlk h 0 hn
  cases e1
  exact hb.frozen
theorem WNew.at {w w' : World} {b n c k : Nat} {l : List Int} (h : WNew w (.slice (some ⟨b, 0, none⟩) n c) (intCells l) w') (hn : l.length = n) {r : Int} (hk : l[k]? = some r) : w'.cell? ⟨b, k, none⟩ = some (.int .i64 r) ∧ w'.frozen? ⟨b, k, none⟩ = false := by
  have h1 := h.1
  have e : (intCells l).length = n := by simp [intCells, hn]
  rw [e] at h1
  have hlt := (List.getElem?_eq_some_iff.1 hk).1
  exact ⟨row_at2 h1 (by simp [intCells, hk]), row_fz h1 (by omega) k⟩
theorem sValue_nil {w : World} : Calls Try.prog 105 #[.slice none 0 0, .slice none 0 0] w fun en w' => en = .returned (.tuple #[.int .u32 0, .int .i64 230]) ∧ w = w' := by
  have hc := sValue_is (w := w) (x := ⟨none, [], 0⟩) (by simp) (a := none) (l := []) 0 (by simp) ⟨fun i x hx => by simp at hx, by simp⟩
  exact hc
theorem Hold.fresh {w0 : Base} {w : World} {g : Nat} {G : Gra} {F : List Nat} {L : List (Value × List Int)} (h : Hold w0 w g G F L) {l : List Int} {n : Nat} (hn : l.length = n) (hb : ∀ r ∈ l, -9223372036854775808 ≤ r ∧ r ≤ 9223372036854775807) (hl : n ≤ 1000000) :
    Hold w0 (w.alloc (.cells (intCells l).toArray 29)) g G F ((.slice (some ⟨w.heap.size, 0, none⟩) n n, l) :: L) := by
  subst hn
  have hk : blk (w.alloc (.cells (intCells l).toArray 29)) w.heap.size (intCells l) := blk.new _ _ _
  have e : (intCells l).length = l.length := by simp [intCells]
  have hx : (w.alloc (.cells (intCells l).toArray 29)).heap[w.heap.size]? = some (.cells (intCells l).toArray 29 (0, 0)) := heap_alloc_new w _
  refine ⟨(h.same ((Ch.refl [] _).alloc _)).own, fun p hp => ?_, (h.same ((Ch.refl [] _).alloc _)).kept⟩
  rcases List.mem_cons.1 hp with rfl | hp
  · refine ⟨⟨by simp [intCells], .inr ⟨w.heap.size, l.length, (intCells l).toArray, rfl, by simp, hx, Nat.le_refl _, by unfold maxLen; omega, by simp [intCells], by rw [Nat.mul_one]; exact List.take_of_length_le (by simp [intCells])⟩⟩, hl, hb, fun k hk => ?_⟩
    · simp at hk; subst hk
      exact ⟨h.own.ch.size, fun hin => Nat.lt_irrefl _ (h.own.gin.lt _ hin)⟩
  · exact (h.same ((Ch.refl [] _).alloc _)).held p hp
end Go.Proofs.Ytnmfdiiehkkjcaa
namespace Go.Proofs.Ytnmfdiiehkkjcaa
open Go.RowKit Go.Mem Go.Aig
section
variable {w0 w : World} {g : Nat} {G : Gra} {F : List Nat} {L : List (Option Addr × List Value)}
theorem HS.cell (h : HS w0 w g G F L) {b : Nat} {xs : List Value} (hm : (some ⟨b, 0, none⟩, xs) ∈ L) {i : Nat} {x : Value} (hx : xs[i]? = some x) : w.cell? ⟨b, i, none⟩ = some x := by
  obtain ⟨b1, o1, e, hc⟩ := (h.held _ hm).cells i x hx
  cases e
  rwa [Nat.zero_add] at hc
theorem HS.sl (h : HS w0 w g G F L) {a : Option Addr} {l : List Nat} (hm : (a, refsCells l) ∈ L) : Sl w a (natInts l) := by
  have hs := h.held _ hm
  refine ⟨fun i x hx => hs.cells i _ ?_, by have := hs.bd; simpa [natInts, refsCells] using this⟩
  unfold natInts at hx
  unfold refsCells
  rw [List.getElem?_map] at hx ⊢
  cases h1 : l[i]? with
  | none => rw [h1] at hx; cases hx
  | some r => rw [h1] at hx; simp at hx; subst hx; rfl
end
theorem HS.subs {w0 w : World} {g : Nat} {G : Gra} {F : List Nat} {L L' : List (Option Addr × List Value)} (h : HS w0 w g G F L) (hs : ∀ p ∈ L', p ∈ L) : HS w0 w g G F L' := ⟨h.own, fun q hq => h.held q (hs q hq)⟩
/-- the references that are picked -/
def pick21 (bs : List Nat) (m K : Nat) : List Nat := (bs.take K).map fun b => b % m
theorem pick21_len {bs : List Nat} {m K : Nat} (h : K ≤ bs.length) : (pick21 bs m K).length = K := by unfold pick21; rw [List.length_map, List.length_take]; omega
theorem pick21_snoc {bs : List Nat} {m k b : Nat} (h : bs[k]? = some b) : pick21 bs m (k + 1) = pick21 bs m k ++ [b % m] := by
  unfold pick21
  rw [List.take_add_one, h, List.map_append]
  rfl
/-- the words with those that do not matter changed -/
def chg (s : List Nat) (I J : List Nat) : Nat → List Nat
  | 0 => I
  | i + 1 => if i ∉ s ∧ i < J.length then (chg s I J i).set i (J.getD i 0) else chg s I J i
theorem chg_len (s I J : List Nat) : ∀ i, (chg s I J i).length = I.length
  | 0 => rfl
  | i + 1 => by unfold chg; split <;> simp [chg_len s I J i]
theorem chg_at (s I J : List Nat) : ∀ i, ∀ j ∈ s, (chg s I J i).getD j 0 = I.getD j 0
  | 0, _, _ => rfl
  | i + 1, j, hj => by
    unfold chg
    split
    · rename_i h
      rw [List.getD_eq_getElem?_getD, List.getElem?_set, if_neg (fun (e : i = j) => h.1 (e ▸ hj)), ← List.getD_eq_getElem?_getD]
      exact chg_at s I J i j hj
    · exact chg_at s I J i j hj
theorem chg_lt {s I J : List Nat} (hI : ∀ v ∈ I, v < 2 ^ 64) (hJ : ∀ v ∈ J, v < 2 ^ 64) : ∀ i, ∀ v ∈ chg s I J i, v < 2 ^ 64
  | 0, v, hv => hI v hv
  | i + 1, v, hv => by
    unfold chg at hv
    split at hv
    · rename_i h
      rcases List.mem_or_eq_of_mem_set hv with h1 | h1
      · exact chg_lt hI hJ i v h1
      · rw [h1, List.getD_eq_getElem?_getD, List.getElem?_eq_getElem h.2]
        exact hJ _ (List.getElem_mem _)
    · exact chg_lt hI hJ i v hv
theorem Sorted_n {w : World} {a : Option Addr} {xs : List Int} (n cap : Nat) (hn : xs.length = n) (h : Sl w a xs) (hs : ∀ (i : Nat) (x y : Int), xs[i]? = some x → xs[i + 1]? = some y → x < y) :
    Calls Try.prog 41 #[.slice a n cap] w fun e w' => e = .returned (.bool true) ∧ Ch [] w w' := by
  subst hn
  exact Sorted_is cap h fun i x y h1 h2 => Int.le_of_lt (hs i x y h1 h2)
theorem Coint_n {w : World} {a : Option Addr} {s : List Nat} (n cap i : Nat) (hn : s.length = n) (h : Sl w a (natInts s)) :
    Calls Try.prog 44 #[.slice a n cap, .int .i64 i] w fun e w' => e = .returned (.bool (decide (i ∈ s))) ∧ w = w' := by
  subst hn
  have H := Coint_is cap (i : Int) h
  rw [natInts_len, any_mem] at H
  exact H
set_option maxRecDepth 100000 in
set_option maxHeartbeats 8000000 in
theorem SimSupport_walk {w : World} {a : Option Addr} {n cap : Nat} {l : List N21} (hS : NodeS w a n cap l) {ba : Option Addr} {bn bc : Nat} {bs : List Nat} (hB : NumS .u8 8 w ba bn bc bs) {xa : Option Addr} {m xc : Nat} {ins : List Nat} (hX : NumS .u64 64 w xa m xc ins) {ya : Option Addr} {yn yc : Nat} {oth : List Nat} (hY : NumS .u64 64 w ya yn yc oth) :
    Calls Try.prog 10 #[.slice a n cap, .slice ba bn bc, .slice xa m xc, .slice ya yn yc] w fun e w' => e = .returned (.bool true) ∧ Ch [] w w' := by
  have hlen := hX.len
  have hle := hX.le
  have hmx := hX.max
  have hblen := hB.len
  have hble := hB.le
  have hbmx := hB.max
  have hylen := hY.len
  have hyle := hY.le
  have hymx := hY.max
  have HS1 := Lib.hid hS; clear hS
  have HX := Lib.hid hX; clear hX
  have HB := Lib.hid hB; clear hB
  have HY := Lib.hid hY; clear hY
  have HYL := Lib.hid hylen; clear hylen
  obtain ⟨K, hK, hK6, hKn⟩ : ∃ K, min bn 6 = K ∧ K ≤ 6 ∧ K ≤ bn := ⟨_, rfl, by omega, by omega⟩
  have hminK : ∀ ats ty, Builtin.min_ ats ty #[.int .i64 (bn : Int), .int .i64 6] = pure (.int .i64 (K : Int)) := fun ats ty => by
    have e : (if (6 : Int) < bn then 6 else (bn : Int)) = K := by split <;> omega
    rw [← e]
    simp [Builtin.min_, Builtin.min2]
  clear hK
  go_enter Try.func10, Try.ntmps10
  go_wp2_with fail
  refine (awake21_is w).mono ?_
  rintro e w1 ⟨rfl, hc1⟩
  have HC1 := Lib.hid hc1; clear hc1
  go_wp2_with fail
  refine (made21_is (HS1.out.ch HC1.out)).mono ?_
  rintro e w2 ⟨g, G, F, rfl, ho, hm200, hnl, hil⟩
  have ho2 : HS w w2 g G F [] := ⟨⟨ho.gin, fun k hk => Nat.le_trans HC1.out.size (ho.own k hk), HC1.out.trans ho.ch (by simp)⟩, by simp⟩
  clear ho HS1
  have HO := Lib.hid ho2; clear ho2
  have hpos := HO.out.own.gin.ok.wf.pos
  obtain ⟨k, hk⟩ : ∃ k, (inputs G.nodes).length = k := ⟨_, rfl⟩
  rw [hk] at hil
  have HK := Lib.hid hk; clear hk
  obtain ⟨N2, hN2⟩ : ∃ N2, 2 * G.nodes.length = N2 := ⟨_, rfl⟩
  have hN2b : 2 ≤ N2 ∧ N2 ≤ 82 := by omega
  have HN2 := Lib.hid hN2; clear hN2
  have hsb := HB.out.sv.ch HO.out.own.ch (by simp)
  have HSB := Lib.hid hsb; clear hsb
  have HPN := Lib.hid (fun k b => pick21_snoc (bs := bs) (m := N2) (k := k) (b := b))
  go_wp2_with fail
  clear hminK
  go_loopw [11, 42] (fun o i wr => ∃ j : Nat, j ≤ K ∧ i = .int .i64 j ∧ Ch [] w2 wr ∧ row wr 29 1 o j (refsCells (pick21 bs N2 j)) ∧ ∀ q ∈ o.ownBlock.toList, w2.heap.size ≤ q) (fun _ i _ => K - (intOf i).toNat)
  case atStart => exact ⟨0, by omega, rfl, Ch.refl _ _, ⟨rfl, .inl ⟨rfl, rfl⟩⟩, by simp⟩
  case round =>
    obtain ⟨j, hj, rfl, hc, hrow, hlo⟩ := hrel
    obtain ⟨oa, oc, rfl⟩ := row.shape hrow
    have HROW := Lib.hid hrow; clear hrow
    by_cases hlt : j < K
    · obtain ⟨z, hz⟩ : ∃ z, bs[j]? = some z := ⟨_, List.getElem?_eq_getElem (by omega)⟩
      have hzb : z ≤ 255 := by have := HB.out.bd z (List.mem_of_getElem? hz); omega
      obtain ⟨b1, o1, rfl, c0⟩ := (HSB.out.ch hc (by simp)).cells j (.int .u8 z) (by rw [List.getElem?_map, hz]; rfl)
      have hsn := HPN.out j z hz
      have HREF := Lib.hid (ref21_is (HO.out.own.gin.same hc (by simp)) z hzb)
      rw [HN2.out] at HREF
      have HSN := Lib.hid hsn; clear hsn
      have HC := Lib.hid hc; clear hc hz
      have HLO := Lib.hid hlo; clear hlo
      obtain ⟨r, hr⟩ : ∃ r, z % N2 = r := ⟨_, rfl⟩
      rw [hr] at HREF HSN
      clear hr
      go_wp2_with fail
      refine HREF.out.mono ?_
      rintro e w' ⟨rfl, rfl⟩
      have hcA : Ch [] wr (wr.alloc (.cells #[.int .i64 r] 29)) := (Ch.refl _ _).alloc _
      have hrA := HROW.out.ch hcA (by simp)
      have hbA : blk (wr.alloc (.cells #[.int .i64 r] 29)) wr.heap.size [.int .i64 r] := blk.new' _ _ rfl
      have HRA := Lib.hid hrA; clear hrA
      have HBA := Lib.hid hbA; clear hbA
      have HCA := Lib.hid hcA; clear hcA HREF
      go_wp2_with (at_builtin; go_loud (refine wpList_append_row slRefs rfl _ _ rfl (v := .slice oa j oc) (n := j) (xs := refsCells (pick21 bs N2 j)) rfl HRA.out (ad := ⟨wr.heap.size, 0, none⟩) (m := 1) (c := 1) (news := [.int .i64 r]) rfl rfl (news_blk HBA.out) (by simp [Value.oneCell']) (by omega) (by omega) ?_; intro v' w5 hown4 hC4 hf4; have HO4 := Lib.hid hown4; clear hown4; have HCC4 := Lib.hid hC4; clear hC4; have HF4 := Lib.hid hf4; clear hf4))
      go_roundw
      case rel =>
        obtain ⟨q1, q2⟩ := app_step HC.out HCA.out HLO.out HCC4.out HF4.out
        refine ⟨j + 1, by omega, by go_num, q1, ?_, q2⟩
        rw [HSN.out, show refsCells (pick21 bs N2 j ++ [r]) = refsCells (pick21 bs N2 j) ++ [.int .i64 r] by simp [refsCells]]
        exact HO4.out
      case measure => simp [intOf]; omega
    · have hjK : j = K := by omega
      subst hjK
      have hpl := pick21_len (bs := bs) (m := N2) (K := j) (by omega)
      have hpb : ∀ r ∈ pick21 bs N2 j, r < N2 := fun r hr => by
        obtain ⟨b, _, rfl⟩ := List.mem_map.1 hr
        exact Nat.mod_lt _ (by omega)
      generalize pick21 bs N2 j = R at *
      have ho := (HO.out.same hc).add (row.sv HROW.out rfl (by omega))
      clear HO hc hlo
      have HRR := HROW
      clear HROW
      have HO := Lib.hid ho; clear ho HSB
      have HPL := Lib.hid hpl; clear hpl
      have HPB := Lib.hid hpb; clear hpb HPN hlt hj
      have hlow : ∀ q, oa = some q → q.block < wr.heap.size := fun q hq => by subst hq; exact (HRR.out.lt q.block rfl).2
      have hbadR : badIn G (natInts R) = false := by
        unfold badIn natInts
        rw [List.any_map, List.any_eq_false]
        intro r hr
        have := HPB.out r hr
        have := HN2.out
        simp [right]
        omega
      have hSR : suppR G (natInts R) = (suppL G.nodes R k, 0) := by unfold suppR; rw [hbadR, nats_natInts, HK.out]; rfl
      have hsl := suppL_len G.nodes R k
      obtain ⟨sn, hsn⟩ : ∃ sn, (suppL G.nodes R k).length = sn := ⟨_, rfl⟩
      rw [hsn] at hsl
      have hSP := simSupport_h HO.out (a := oa) (l := natInts R) (n := j) (c := oc) (by simp [HPL.out]) (HO.out.sl (by simp)) hlow (by intro r hr; obtain ⟨q, hq, rfl⟩ := List.mem_map.1 hr; have := HPB.out q hq; omega) hSR (k := sn) hsn (by omega)
      have HSP := Lib.hid hSP; clear hSP
      have hasc := asc_at (supp_asc G.nodes R k)
      have hslt := supp_lt G.nodes R k
      have hws := fun (I J : List Nat) (hI : ∀ i ∈ suppL G.nodes R k, I.getD i 0 = J.getD i 0) => words_same HO.out.own.gin.ok.wf (l := R) (by intro r hr; have := HPB.out r hr; have := HN2.out; omega) (I := I) (J := J) (by rw [HK.out]; exact hI)
      have hss := fun (r : Nat) (hr : r ∈ R) => supp_sub HO.out.own.gin.ok.wf (l := [r, neg r]) (l' := R) (by
        have h1 := HPB.out r hr
        have h2 := HN2.out
        intro q hq
        simp only [List.mem_cons, List.not_mem_nil, or_false] at hq
        rcases hq with rfl | rfl
        · exact ⟨by omega, q, hr, rfl⟩
        · exact ⟨neg_lt (by omega), r, hr, by unfold neg; split <;> omega⟩) k
      have HSR := Lib.hid hSR; clear hSR
      have HSNN := Lib.hid hsn; clear hsn
      have HASC := Lib.hid hasc; clear hasc
      have HSLT := Lib.hid hslt; clear hslt
      have HWS := Lib.hid hws; clear hws
      have HSS := Lib.hid hss; clear hss
      have HBAD := Lib.hid hbadR; clear hbadR
      have HLOW := Lib.hid hlow; clear hlow
      clear HRR
      have HIN := Lib.hid (fun W (h : Ch [] wr W) => Inputs_g (HO.out.own.gin.same h (by simp)))
      generalize suppL G.nodes R k = s at *
      go_wp2_with fail
      refine HSP.out.mono ?_
      rintro e w4 ⟨sa, sc, rfl, ho⟩
      clear HO HSP
      have HO := Lib.hid ho; clear ho
      go_upto_region 13 with fail
      refine wp_named fun W5 hW5 => ?_
      have ho := (HO.out.same (alw_ch hW5)).blk (alw_blk (xs := [.slice sa sn sc]) hW5) (by simp)
      clear hW5 HO
      have HO := Lib.hid ho; clear ho
      generalize w4.heap.size = bx at HO ⊢
      have HI := Inputs_g HO.out.own.gin
      rw [HK.out] at HI
      have HI := Lib.hid HI
      clear HIN
      go_wp2_with fail
      refine HI.out.mono ?_
      rintro e w6 ⟨v, rfl, hrow, _, hc6⟩
      obtain ⟨ia, ic, rfl⟩ := row.shape hrow
      have ho := HO.out.same hc6
      clear HO hrow hc6 HI
      have HO := Lib.hid ho; clear ho
      go_upto_region 14 with fail
      go_cut [83] (fun t wd => t = .bool false ∧ Ch [] w6 wd)
      case first =>
        have cx := HO.out.cell (b := bx) (xs := [.slice sa sn sc]) (List.mem_cons_self ..) (i := 0) rfl
        have e1 : decide (sn > k) = false := decide_eq_false (by omega)
        have e1' : decide (k < sn) = false := decide_eq_false (by omega)
        refine Ord.St.door (fun w' => w'.cell? ⟨bx, 0, none⟩ = some (.slice sa sn sc)) [.fl, .fl, .fl, .rd, .ef, .fl, .fl, .fl, .rd, .rd, .fl, .fl, .fl, .fl, .rd, .ef, .ef, .rd, .ho, .fl, .fl, .fl] [0, 1, 3, 7, 15, 31, 63, 127, 255, 511, 255, 2047, 4095, 8191, 16383, 32767, 65535, 131071, 16383, 278527, 1048575, 2097151] [0, 1, 2, 3, 4, 5, 6, 7, 8, 9, 10, 11, 12, 13, 14, 15, 16, 17, 18, 19, 20, 21] mixed (by kernel_rfl) rfl ?_
        obtain ⟨Wc, hWc⟩ : ∃ Wc, Wc = w6.drew := ⟨_, rfl⟩
        rw [← hWc]
        have hcc : Ch [] w6 Wc := by rw [hWc]; exact (Ch.refl _ _).drew
        clear hWc cx
        have HOc := Lib.hid (HO.out.same hcc)
        have HCC := Lib.hid hcc
        clear hcc
        have cx := HOc.out.cell (b := bx) (xs := [.slice sa sn sc]) (List.mem_cons_self ..) (i := 0) rfl
        refine Ord.St.fl2 (T' := ?_) 0 [1, 2, 3, 4, 5, 6, 7, 8, 9, 10, 11, 12, 13, 14, 15, 16, 17, 18, 19, 20, 21] _ _ rfl (by kernel_rfl) rfl rfl rfl rfl (fun K w' hk => ?_) ?_
        rotate_left
        · go_step; exact hk
        refine Ord.St.fl2 (T' := ?_) 1 [2, 3, 4, 5, 6, 7, 8, 9, 10, 11, 12, 13, 14, 15, 16, 17, 18, 19, 20, 21] _ _ rfl (by kernel_rfl) rfl rfl rfl rfl (fun K w' hk => ?_) ?_
        rotate_left
        · go_step; exact hk
        refine Ord.St.fl2 (T' := ?_) 2 [3, 4, 5, 6, 7, 8, 9, 10, 11, 12, 13, 14, 15, 16, 17, 18, 19, 20, 21] _ _ rfl (by kernel_rfl) rfl rfl rfl rfl (fun K w' hk => ?_) ?_
        rotate_left
        · go_step; exact hk
        first | (refine Ord.St.rd2 (T' := ?_) 3 [4, 5, 6, 7, 8, 9, 10, 11, 12, 13, 14, 15, 16, 17, 18, 19, 20, 21] _ _ rfl (by kernel_rfl) ?_ rfl rfl rfl (fun K hk => ?_) ?_; rotate_left; (first | rfl | (simp [Region.wanted, yielded, *]; done)); focus (go_step; exact hk)) | (refine Ord.St.skipr 3 [4, 5, 6, 7, 8, 9, 10, 11, 12, 13, 14, 15, 16, 17, 18, 19, 20, 21] _ rfl (by kernel_rfl) ?_ (fun K hK => ?_); (first | rfl | (simp [Region.wanted, yielded, *]; done)); go_simp; refine hK _ ?_; clear hK K)
        refine Ord.St.ef 4 [5, 6, 7, 8, 9, 10, 11, 12, 13, 14, 15, 16, 17, 18, 19, 20, 21] _ rfl (by kernel_rfl) (fun K hK => ?_)
        have hso := Sorted_n (w := Wc) (a := sa) (xs := natInts s) sn sc (by rw [natInts_len]; exact HSNN.out) (HOc.out.sl (by simp)) HASC.out
        have HSO := Lib.hid hso
        clear hso
        go_wp2_with fail
        refine HSO.out.mono ?_
        rintro e w7 ⟨rfl, hc7⟩
        have hod := HOc.out.same hc7
        have HOd := Lib.hid hod
        have HCD := Lib.hid (HCC.out.trans hc7 (by simp))
        clear hc7 hod HSO cx
        have cx := HOd.out.cell (b := bx) (xs := [.slice sa sn sc]) (List.mem_cons_self ..) (i := 0) rfl
        go_wp2_with fail
        refine ⟨rfl, hK _ _ ?_⟩; clear hK K
        first | (refine Ord.St.fl2 (T' := ?_) 5 [6, 7, 8, 9, 10, 11, 12, 13, 14, 15, 16, 17, 18, 19, 20, 21] _ _ rfl (by kernel_rfl) ?_ rfl rfl rfl (fun K w' hk => ?_) ?_; rotate_left; (first | rfl | (simp [Region.wanted, yielded, *]; done)); focus (go_step; exact hk)) | (refine Ord.St.skip 5 [6, 7, 8, 9, 10, 11, 12, 13, 14, 15, 16, 17, 18, 19, 20, 21] _ rfl (by kernel_rfl) ?_ (fun K hK => ?_); (first | rfl | (simp [Region.wanted, yielded, *]; done)); go_simp; refine hK _ ?_; clear hK K)
        refine Ord.St.fl2 (T' := ?_) 6 [7, 8, 9, 10, 11, 12, 13, 14, 15, 16, 17, 18, 19, 20, 21] _ _ rfl (by kernel_rfl) rfl rfl rfl rfl (fun K w' hk => ?_) ?_
        rotate_left
        · go_step; exact hk
        refine Ord.St.fl2 (T' := ?_) 7 [8, 9, 10, 11, 12, 13, 14, 15, 16, 17, 18, 19, 20, 21] _ _ rfl (by kernel_rfl) rfl rfl rfl rfl (fun K w' hk => ?_) ?_
        rotate_left
        · go_step; exact hk
        first | (refine Ord.St.rd2 (T' := ?_) 8 [9, 10, 11, 12, 13, 14, 15, 16, 17, 18, 19, 20, 21] _ _ rfl (by kernel_rfl) ?_ rfl rfl rfl (fun K hk => ?_) ?_; rotate_left; (first | rfl | (simp [Region.wanted, yielded, *]; done)); focus (go_step; exact hk)) | (refine Ord.St.skipr 8 [9, 10, 11, 12, 13, 14, 15, 16, 17, 18, 19, 20, 21] _ rfl (by kernel_rfl) ?_ (fun K hK => ?_); (first | rfl | (simp [Region.wanted, yielded, *]; done)); go_simp; refine hK _ ?_; clear hK K)
        first | (refine Ord.St.rd2 (T' := ?_) 9 [10, 11, 12, 13, 14, 15, 16, 17, 18, 19, 20, 21] _ _ rfl (by kernel_rfl) ?_ rfl rfl rfl (fun K hk => ?_) ?_; rotate_left; (first | rfl | (simp [Region.wanted, yielded, *]; done)); focus (go_step; exact hk)) | (refine Ord.St.skipr 9 [10, 11, 12, 13, 14, 15, 16, 17, 18, 19, 20, 21] _ rfl (by kernel_rfl) ?_ (fun K hK => ?_); (first | rfl | (simp [Region.wanted, yielded, *]; done)); go_simp; refine hK _ ?_; clear hK K)
        first | (refine Ord.St.fl2 (T' := ?_) 10 [11, 12, 13, 14, 15, 16, 17, 18, 19, 20, 21] _ _ rfl (by kernel_rfl) ?_ rfl rfl rfl (fun K w' hk => ?_) ?_; rotate_left; (first | rfl | (simp [Region.wanted, yielded, *]; done)); focus (go_step; exact hk)) | (refine Ord.St.skip 10 [11, 12, 13, 14, 15, 16, 17, 18, 19, 20, 21] _ rfl (by kernel_rfl) ?_ (fun K hK => ?_); (first | rfl | (simp [Region.wanted, yielded, *]; done)); go_simp; refine hK _ ?_; clear hK K)
        first | (refine Ord.St.fl2 (T' := ?_) 11 [12, 13, 14, 15, 16, 17, 18, 19, 20, 21] _ _ rfl (by kernel_rfl) ?_ rfl rfl rfl (fun K w' hk => ?_) ?_; rotate_left; (first | rfl | (simp [Region.wanted, yielded, *]; done)); focus (go_step; exact hk)) | (refine Ord.St.skip 11 [12, 13, 14, 15, 16, 17, 18, 19, 20, 21] _ rfl (by kernel_rfl) ?_ (fun K hK => ?_); (first | rfl | (simp [Region.wanted, yielded, *]; done)); go_simp; refine hK _ ?_; clear hK K)
        refine Ord.St.fl2 (T' := ?_) 12 [13, 14, 15, 16, 17, 18, 19, 20, 21] _ _ rfl (by kernel_rfl) rfl rfl rfl rfl (fun K w' hk => ?_) ?_
        rotate_left
        · go_step; exact hk
        refine Ord.St.fl2 (T' := ?_) 13 [14, 15, 16, 17, 18, 19, 20, 21] _ _ rfl (by kernel_rfl) rfl rfl rfl rfl (fun K w' hk => ?_) ?_
        rotate_left
        · go_step; exact hk
        first | (refine Ord.St.rd2 (T' := ?_) 14 [15, 16, 17, 18, 19, 20, 21] _ _ rfl (by kernel_rfl) ?_ rfl rfl rfl (fun K hk => ?_) ?_; rotate_left; (first | rfl | (simp [Region.wanted, yielded, *]; done)); focus (go_step; exact hk)) | (refine Ord.St.skipr 14 [15, 16, 17, 18, 19, 20, 21] _ rfl (by kernel_rfl) ?_ (fun K hK => ?_); (first | rfl | (simp [Region.wanted, yielded, *]; done)); go_simp; refine hK _ ?_; clear hK K)
        refine Ord.St.ho2 (T' := ?_) 18 [15, 16, 17, 19, 20, 21] _ _ rfl (by kernel_rfl) (by first | rfl | simp [Region.wanted, yielded, *]) rfl rfl rfl ?_ (fun K w' hw' hk => ?_) ?_
        rotate_left
        · exact cx
        · have q1 := hw'; go_step; exact hk
        first | (refine Ord.St.fl2 (T' := ?_) 19 [15, 16, 17, 20, 21] _ _ rfl (by kernel_rfl) ?_ rfl rfl rfl (fun K w' hk => ?_) ?_; rotate_left; (first | rfl | (simp [Region.wanted, yielded, *]; done)); focus (go_step; exact hk)) | (refine Ord.St.skip 19 [15, 16, 17, 20, 21] _ rfl (by kernel_rfl) ?_ (fun K hK => ?_); (first | rfl | (simp [Region.wanted, yielded, *]; done)); go_simp; refine hK _ ?_; clear hK K)
        refine Ord.St.efC 15 [16, 17, 20, 21] _ rfl (by kernel_rfl) (fun K hK => ?_)
        have hcl := CLint_is (w := w7) (a := sa) (l := s) sn sc HSNN.out (HOd.out.held (sa, refsCells s) (by simp)) (by omega)
        have HCL := Lib.hid hcl
        clear hcl
        go_wp2_with fail
        refine HCL.out.mono ?_
        rintro e w8 ⟨v, rfl, hrow, _, hc8⟩
        obtain ⟨ka, kc, rfl⟩ := row.shape hrow
        have hoe := (HOd.out.same hc8).add (row.sv hrow rfl (by omega))
        have HOe := Lib.hid hoe
        have HCE := Lib.hid (HCD.out.trans hc8 (by simp))
        clear hc8 hoe HCL cx hrow
        have cx := HOe.out.cell (b := bx) (xs := [.slice sa sn sc]) (by simp) (i := 0) rfl
        go_wp2_with fail
        refine ⟨rfl, hK _ _ ?_ ?_⟩
        · exact cx
        clear hK K
        refine Ord.St.efC 16 [17, 20, 21] _ rfl (by kernel_rfl) (fun K hK => ?_)
        have hcm := CMint_no (w := w8) (a := ka) (xs := natInts s) sn kc (by rw [natInts_len]; exact HSNN.out) (HOe.out.sl (l := s) (List.mem_cons_self ..)) HASC.out
        have HCM := Lib.hid hcm
        clear hcm
        go_wp2_with fail
        refine HCM.out.mono ?_
        rintro e w9 ⟨rfl, hc9⟩
        have HCF := Lib.hid (HCE.out.trans hc9 (by simp))
        have cx := (hc9.cell (cell_lt cx) (by simp)).trans cx
        clear hc9 HCM
        go_wp2_with fail
        refine ⟨rfl, hK _ _ ?_ ?_⟩
        · exact cx
        clear hK K
        first | (refine Ord.St.rd2 (T' := ?_) 17 [20, 21] _ _ rfl (by kernel_rfl) ?_ rfl rfl rfl (fun K hk => ?_) ?_; rotate_left; (first | rfl | (simp [Region.wanted, yielded, *]; done)); focus (go_step; exact hk)) | (refine Ord.St.skipr 17 [20, 21] _ rfl (by kernel_rfl) ?_ (fun K hK => ?_); (first | rfl | (simp [Region.wanted, yielded, *]; done)); go_simp; refine hK _ ?_; clear hK K)
        first | (refine Ord.St.fl2 (T' := ?_) 20 [21] _ _ rfl (by kernel_rfl) ?_ rfl rfl rfl (fun K w' hk => ?_) ?_; rotate_left; (first | rfl | (simp [Region.wanted, yielded, *]; done)); focus (go_step; exact hk)) | (refine Ord.St.skip 20 [21] _ rfl (by kernel_rfl) ?_ (fun K hK => ?_); (first | rfl | (simp [Region.wanted, yielded, *]; done)); go_simp; refine hK _ ?_; clear hK K)
        refine Ord.St.fl2 (T' := ?_) 21 [] _ _ rfl (by kernel_rfl) rfl rfl rfl rfl (fun K w' hk => ?_) ?_
        rotate_left
        · go_step; exact hk
        refine Ord.St.nil ?_
        go_wp2_with fail
        go_meet
        case rel => exact ⟨rfl, HCF.out⟩
      case rest =>
        obtain ⟨rfl, hcc⟩ := hcut
        have ho := HO.out.same hcc
        clear HO hcc
        have HO := Lib.hid ho; clear ho
        have hmin : ∀ ats ty, Builtin.min_ ats ty #[.int .i64 (m : Int), .int .i64 (k : Int)] = pure (.int .i64 ((min m k : Nat) : Int)) := fun ats ty => by
          have e : (if (k : Int) < m then (k : Int) else (m : Int)) = ((min m k : Nat) : Int) := by split <;> omega
          rw [← e]
          simp [Builtin.min_, Builtin.min2]
        have hmax : ∀ ats ty, Builtin.max_ ats ty #[.int .i64 ((k : Int) - m), .int .i64 0] = pure (.int .i64 ((k - m : Nat) : Int)) := fun ats ty => by
          have := max_nat ((k : Int) - m) 0 (k - m) (by omega) ats ty
          simpa using this
        have hcl := CLu64_is (w := wc) (a := xa) (l := ins.take (min m k)) (min m k) xc (by rw [List.length_take, hlen]; omega) (by
          have h1 := HX.out.sv.ch HO.out.own.ch (by simp)
          refine ⟨fun i x hx => ?_, by simp [u64s]; omega⟩
          refine h1.cells i x ?_
          unfold u64s at hx
          rw [List.getElem?_map] at hx ⊢
          rw [List.getElem?_take] at hx
          split at hx
          · exact hx
          · cases hx) (by omega)
        have HCL := Lib.hid hcl; clear hcl
        go_wp2_with fail
        refine HCL.out.mono ?_
        rintro e w4 ⟨v, rfl, hrow, hv, hc4⟩
        obtain ⟨ca, cc, rfl⟩ := row.shape hrow
        have HR4 := Lib.hid hrow; clear hrow
        have HV4 := Lib.hid hv; clear hv
        have HC4 := Lib.hid hc4; clear hc4 HCL
        have hsum : min m k + (k - m) = k := by omega
        have hsumC : u64s (ins.take (min m k)) ++ u64s (List.replicate (k - m) 0) = u64s (fitI ins k) := by unfold fitI u64s; rw [hlen, List.map_append]
        have HSC := Lib.hid hsumC; clear hsumC
        go_wp2_with (at_builtin; go_loud (refine wpList_append_zeros slU64s (kn := .i64) Try.underlying3 rfl _ _ rfl (v := .slice ca (min m k) cc) (n := min m k) (xs := u64s (ins.take (min m k))) rfl HR4.out (m := k - m) rfl (u64s (List.replicate (k - m) 0)) (zeros_u64 _) (by intro u hu; obtain ⟨z, _, rfl⟩ := List.mem_map.1 hu; rfl) (by omega) (by omega) (by unfold maxLen; omega) ?_; intro v' w5 hown4 hC4 hf4; rw [hsum, HSC.out] at hown4; obtain ⟨za, zc, rfl⟩ := row.shape hown4; have HO4 := Lib.hid hown4; clear hown4; have HCC4 := Lib.hid hC4; clear hC4; have HF4 := Lib.hid hf4; clear hf4))
        have hIl := fitI_len ins k
        have hIlt := fitI_lt HX.out.bd k
        obtain ⟨I, hI⟩ : ∃ I, fitI ins k = I := ⟨_, rfl⟩
        rw [hI] at hIl hIlt HO4
        have hct : Ch [] wc w5 := HC4.out.trans HCC4.out (fun q hq => .inr (HV4.out q hq))
        have ho := (HO.out.same hct).add (row.sv HO4.out rfl (by omega))
        have hzcap := (row.capLe' HO4.out)
        clear HO hI hmin hmax hsum HSC HR4 HV4 HC4 HCC4 HF4 hct
        have HO := Lib.hid ho; clear ho
        have HIL := Lib.hid hIl; clear hIl
        have HILT := Lib.hid hIlt; clear hIlt
        have hcl := CLu64_is (w := w5) (a := za) (l := I) k zc HIL.out (row.sv HO4.out rfl (by omega)) (by omega)
        have HCL := Lib.hid hcl; clear hcl HO4
        refine HCL.out.mono ?_
        rintro e w6 ⟨v, rfl, hrow, hv, hc6⟩
        obtain ⟨ca, cc, rfl⟩ := row.shape hrow
        have HR6 := Lib.hid hrow; clear hrow
        have HV6 := Lib.hid hv; clear hv
        have HC6 := Lib.hid hc6; clear hc6 HCL
        have hccap := (row.capLe' HR6.out)
        go_wp2_with fail
        go_loopw [18, 101] (fun _ i wr => ∃ x : Nat, x ≤ k ∧ i = .int .i64 x ∧ Ch [] w5 wr ∧ row wr 45 1 (.slice ca k cc) k (u64s (chg s I oth x))) (fun _ i _ => k - (intOf i).toNat)
        case atStart => exact ⟨0, by omega, rfl, HC6.out, HR6.out⟩
        case round =>
          obtain ⟨x, hx, rfl, hc, hrow⟩ := hrel
          by_cases hlt : x < k
          · obtain ⟨cb, cc', hce⟩ := row.parts hrow (by omega)
            cases hce
            have hcb := HV6.out cb (by simp [Value.ownBlock])
            have cx := (HO.out.same hc).cell (b := bx) (xs := [.slice sa sn sc]) (by simp) (i := 0) rfl
            have hco := fun W (hW : Ch [] wr W) => Coint_n (w := W) (a := sa) (s := s) sn sc x HSNN.out (((HO.out.same hc).same hW).sl (by simp))
            have hcl := chg_len s I oth x
            rw [HIL.out] at hcl
            obtain ⟨vx, hvx⟩ : ∃ vx, (u64s (chg s I oth x))[x]? = some vx := ⟨_, List.getElem?_eq_getElem (by simp [u64s]; omega)⟩
            have q0 := row_at2 hrow hvx
            have q1 := row_fz hrow (by omega) x
            have hsv := HY.out.sv.ch (HO.out.same hc).own.ch (by simp)
            have HROW := Lib.hid hrow; clear hrow
            have HCO := Lib.hid hco; clear hco
            have HC := Lib.hid hc; clear hc hvx
            by_cases hin : x ∈ s
            · have hco := HCO.out wr (Ch.refl _ _)
              rw [decide_eq_true hin] at hco
              have hch : chg s I oth (x + 1) = chg s I oth x := by
                show (if x ∉ s ∧ _ then _ else _) = _
                rw [if_neg (fun h => h.1 hin)]
              have HCO1 := Lib.hid hco; clear hco HCO
              have HCH := Lib.hid hch; clear hch hin
              clear hcl q0 q1
              go_wp2_with fail
              refine HCO1.out.mono ?_
              rintro e w' ⟨rfl, rfl⟩
              go_wp2_with fail
              go_roundw
              case rel => exact ⟨x + 1, by omega, by go_num, HC.out, by rw [HCH.out]; exact HROW.out⟩
              case measure => simp [intOf]; omega
            · have hco := HCO.out wr (Ch.refl _ _)
              rw [decide_eq_false hin] at hco
              by_cases hxy : x < yn
              · obtain ⟨ov, hov⟩ : ∃ ov, oth[x]? = some ov := ⟨_, List.getElem?_eq_getElem (by rw [HYL.out]; exact hxy)⟩
                obtain ⟨b1, o1, rfl, c0⟩ := hsv.cells x (.int .u64 ov) (by rw [List.getElem?_map, hov]; rfl)
                have hch : chg s I oth (x + 1) = (chg s I oth x).set x ov := by
                  show (if x ∉ s ∧ x < oth.length then (chg s I oth x).set x (oth.getD x 0) else _) = _
                  rw [if_pos ⟨hin, by rw [HYL.out]; exact hxy⟩, List.getD_eq_getElem?_getD, hov]
                  rfl
                have HCO1 := Lib.hid hco; clear hco HCO
                have HCH := Lib.hid hch; clear hch hin hov
                clear hcl hsv
                go_wp2_with fail
                refine HCO1.out.mono ?_
                rintro e w' ⟨rfl, rfl⟩
                go_wp2_with fail
                go_roundw
                case rel => exact ⟨x + 1, by omega, by go_num, HC.out.setCell (.inr hcb) _, by rw [HCH.out, show u64s ((chg s I oth x).set x ov) = (u64s (chg s I oth x)).set x (.int .u64 ov) by unfold u64s; rw [List.map_set]]; exact row.set HROW.out _⟩
                case measure => simp [intOf]; omega
              · have hch : chg s I oth (x + 1) = chg s I oth x := by
                  show (if x ∉ s ∧ x < oth.length then _ else _) = _
                  rw [if_neg (fun h => hxy (by rw [← HYL.out]; exact h.2))]
                have HCO1 := Lib.hid hco; clear hco HCO
                have HCH := Lib.hid hch; clear hch hin
                clear hcl q0 q1 hsv
                go_wp2_with fail
                refine HCO1.out.mono ?_
                rintro e w' ⟨rfl, rfl⟩
                go_wp2_with fail
                go_roundw
                case rel => exact ⟨x + 1, by omega, by go_num, HC.out, by rw [HCH.out]; exact HROW.out⟩
                case measure => simp [intOf]; omega
          · have hxk : x = k := by omega
            rw [hxk] at hrow
            have hcl := chg_len s I oth k
            rw [HIL.out] at hcl
            have hclt := chg_lt (s := s) HILT.out HY.out.bd k
            have hcat := chg_at s I oth k
            obtain ⟨J, hJ⟩ : ∃ J, chg s I oth k = J := ⟨_, rfl⟩
            rw [hJ] at hrow hcl hclt hcat
            have ho := (HO.out.same hc).add (row.sv hrow rfl (by omega))
            have hws := HWS.out I J (fun i hi => (hcat i hi).symm)
            clear HO hc hrow hcat hJ hxk
            have HO := Lib.hid ho; clear ho
            have hR1 : wordsR G I (natInts R) = (wsOf I G.nodes R, 0) := by unfold wordsR; rw [HBAD.out, nats_natInts, if_neg (by simp), if_neg (by rw [HIL.out, HK.out]; simp)]
            have hR2 : wordsR G J (natInts R) = (wsOf I G.nodes R, 0) := by unfold wordsR; rw [HBAD.out, nats_natInts, if_neg (by simp), if_neg (by rw [hcl, HK.out]; simp), hws]
            have hwl : (wsOf I G.nodes R).length = j := by unfold wsOf; rw [List.length_map, HPL.out]
            generalize wsOf I G.nodes R = WS at *
            have HR1 := Lib.hid hR1; clear hR1
            have HR2 := Lib.hid hR2; clear hR2
            have HWL := Lib.hid hwl; clear hwl hws
            have HJL := Lib.hid hcl; clear hcl
            have HJLT := Lib.hid hclt; clear hclt
            have hbd : ∀ r ∈ natInts R, -9223372036854775808 ≤ r ∧ r ≤ 9223372036854775807 := by intro r hr; obtain ⟨q, hq, rfl⟩ := List.mem_map.1 hr; have := HPB.out q hq; omega
            have HBD := Lib.hid hbd; clear hbd
            clear HR6 HC6 HV6
            go_wp2_with fail
            refine (simWords_h HO.out (xa := za) (ins := I) (by simp) HIL.out HILT.out hzcap.1 hzcap.2 (a := oa) (l := natInts R) (n := j) (c := oc) (by rw [natInts_len]; exact HPL.out) (HO.out.sl (by simp)) HBD.out (by omega) HR1.out HWL.out (by omega)).mono ?_
            rintro e w7 ⟨d1, f1, rfl, ho⟩
            clear HO
            have HO := Lib.hid ho; clear ho
            go_wp2_with fail
            refine (simWords_h HO.out (xa := ca) (ins := J) (by simp) HJL.out HJLT.out hccap.1 hccap.2 (a := oa) (l := natInts R) (n := j) (c := oc) (by rw [natInts_len]; exact HPL.out) (HO.out.sl (by simp)) HBD.out (by omega) HR2.out HWL.out (by omega)).mono ?_
            rintro e w8 ⟨d2, f2, rfl, ho⟩
            clear HO
            have HO := Lib.hid ho; clear ho
            go_wp2_with fail
            refine (EQu64_h HO.out (a := d1) (b := d2) (xs := WS) (ys := WS) (ca := f1) (cb := f2) (by simp) (HO.out.held (d2, u64s WS) (by simp)) HWL.out HWL.out (decide_eq_true rfl)).mono ?_
            rintro e w9 ⟨rfl, ho⟩
            clear HO
            have HO := Lib.hid ho; clear ho
            go_wp2_with fail
            have ho := HO.out.subs (L' := [(oa, refsCells R), (some ⟨bx, 0, none⟩, [Value.slice sa sn sc]), (sa, refsCells s)]) (by
              intro p hp
              simp only [List.mem_cons, List.not_mem_nil, or_false] at hp
              rcases hp with rfl | rfl | rfl <;> simp)
            clear HO
            have HO := Lib.hid ho; clear ho
            go_loopw [148] (fun i wr => ∃ y : Nat, y ≤ j ∧ i = .int .i64 y ∧ HS w wr g G F [(oa, refsCells R), (some ⟨bx, 0, none⟩, [Value.slice sa sn sc]), (sa, refsCells s)]) (fun i _ => j - (intOf i).toNat)
            case atStart => exact ⟨0, by omega, rfl, HO.out⟩
            case round =>
              obtain ⟨y, hy, rfl, ho⟩ := hrel
              clear HO
              have HO := Lib.hid ho; clear ho
              by_cases hyj : y < j
              · obtain ⟨r, hr⟩ : ∃ r, R[y]? = some r := ⟨_, List.getElem?_eq_getElem (by rw [HPL.out]; exact hyj)⟩
                have hrm := List.mem_of_getElem? hr
                have hrb := HPB.out r hrm
                have hrN := HN2.out
                obtain ⟨b1, o1, rfl, c0⟩ := (HO.out.held (oa, refsCells R) (by simp)).cells y (.int .i64 r) (by unfold refsCells; rw [List.getElem?_map, hr]; rfl)
                have hnr : neg r < 2 * G.nodes.length := neg_lt (by omega)
                have hS2 : suppR G (natInts [r, neg r]) = (suppL G.nodes [r, neg r] k, 0) := by
                  have hb : badIn G (natInts [r, neg r]) = false := by
                    unfold badIn natInts
                    simp [right]
                    omega
                  unfold suppR
                  rw [hb, nats_natInts, HK.out]
                  rfl
                have htl := suppL_len G.nodes [r, neg r] k
                have hts := HSS.out r hrm
                obtain ⟨nr, hnr2⟩ : ∃ nr, neg r = nr := ⟨_, rfl⟩
                have hNOT := fun W => Not_any r W (by omega)
                rw [hnr2] at hS2 htl hts hnr
                simp only [hnr2] at hNOT
                obtain ⟨t, ht⟩ : ∃ t, suppL G.nodes [r, nr] k = t := ⟨_, rfl⟩
                rw [ht] at hS2 htl hts
                obtain ⟨tn, htn⟩ : ∃ tn, t.length = tn := ⟨_, rfl⟩
                rw [htn] at htl
                have HS2 := Lib.hid hS2; clear hS2
                have HTS := Lib.hid hts; clear hts
                have HTN := Lib.hid htn; clear htn
                have HNOT := Lib.hid hNOT; clear hNOT
                have hrb2 : r ≤ 1000 := by omega
                have hnb2 : nr ≤ 1000 := by omega
                clear hr hrm hnr2 ht hrN
                go_wp2_with fail
                refine (HNOT.out _).mono ?_
                rintro e w' ⟨rfl, rfl⟩
                go_wp2_with fail
                refine calls_named fun W1 hW1 => ?_
                have hb1 := alw_blk (xs := [.int .i64 r, .int .i64 nr]) hW1
                have ho := HO.out.same (alw_ch hW1)
                clear hW1 HO c0
                have HO := Lib.hid ho; clear ho
                refine (simSupport_h HO.out (l := natInts [r, nr]) rfl (Sl.two hb1) (fun q hq => by cases hq; exact hb1.lt) (by intro z hz; simp [natInts] at hz; omega) HS2.out HTN.out (by omega)).mono ?_
                rintro e W2 ⟨ta, tc, rfl, ho⟩
                clear hb1 HO
                have HO := Lib.hid ho; clear ho
                have cx := HO.out.cell (b := bx) (xs := [.slice sa sn sc]) (by simp) (i := 0) rfl
                have hany : ((natInts t).any fun z => !((natInts s).any fun q => z == q)) = false := by
                  rw [List.any_eq_false]
                  intro z hz
                  obtain ⟨q, hq, rfl⟩ := List.mem_map.1 hz
                  rw [any_mem, decide_eq_true (HTS.out q hq)]
                  simp
                have hCF := CFint_is (w := W2) (a := ta) (xs := natInts t) tc 46 #[.pointer (some ⟨bx, 0, none⟩)] (fun z => !((natInts s).any fun q => z == q)) (HO.out.sl (List.mem_cons_self ..)) (fun z _ => SimSupport1_is sc z (HO.out.sl (a := sa) (l := s) (by simp)) (by rw [natInts_len, HSNN.out]; exact cx)) fnvSimSupport1
                rw [hany, natInts_len, HTN.out] at hCF
                have HCF := Lib.hid hCF; clear hCF hany cx
                go_wp2_with fail
                refine HCF.out.mono ?_
                rintro e w' ⟨rfl, rfl⟩
                go_wp2_with fail
                go_roundw
                case rel => exact ⟨y + 1, by omega, by go_num, HO.out.subs (by intro p hp; exact List.mem_cons_of_mem _ hp)⟩
                case measure => simp [intOf]; omega
              · go_wp2_with fail
                go_ret
                exact ⟨rfl, HO.out.own.ch⟩
end Go.Proofs.Ytnmfdiiehkkjcaa
