/-
  Walks over few, index, ref and made of chapter 21's laws. Conditions: a slice of nodes of any integers.
  From a law's arguments to what the walks say: nodes, slices of words. Conditions: those of the given row.
  Of constants everything is a constant, plainly: what the operations of sums make of words of constants, and the numbers that these are. No program in sight. Conditions: none beyond the hypotheses.
  Walks over bitword: the table of the operations, what each does, Apply. Conditions: words in range, a width from 1 to 16.
  What made makes of two words of constants, plainly: constants, and the numbers that the operations say. No program in sight. Conditions: none beyond the hypotheses.
  What SumsIs asks, plainly: for words of one to five bits, all assignments at once, by evaluation. No program in sight. Conditions: none beyond the hypotheses.
  Walk over slices.Equal of words; the functions of sim as steps of a walk that holds slices. Conditions: slices that can be read.
  Walk over the chapter's examples (awake of sim): true. Conditions: none.
  append of a number of zeros to a row of any shape. Conditions: a row, an element type of the table.
  Walk over slices.Clone of words; words fitted to as many as inputs; what the nodes are for words of the inputs, node by node. Conditions: a slice that can be read.
  Words and bits of all references, plainly. Conditions: none beyond the hypotheses.
  What tables, counts and first assignments are, plainly, for the laws of chapter 21. Conditions: none beyond the hypotheses.
  Nothing parts two references, out of the words for all assignments. No program in sight. Conditions: none beyond the hypotheses.
  A map from small numbers (bytes) to values that are known, one after the other. Conditions: the two facts on the types of map and key.
  Walks over the small functions of shifts: right, moves. Conditions: none.
  Words that are refused: what check says of them, and what the functions of sums do with them. Conditions: a graph in memory, words that are held.
  New words that are changed, or grown, before they are held. Conditions: none beyond the hypotheses.
  Walks over shifted of shifts: a word shifted by a number up to its width. Conditions: a word that can be read.
  Walks over steps, Steps, Fixed of shifts. Conditions: a word that can be read.
  Walks over slices.Grow (of nothing), slices.Concat of two, and Turn of shifts. Conditions: words that can be read.
  Plain: one bit of a shift (a choice, bit by bit), shifts by a word; and append at a row inside a round of a range over a function. Conditions: none beyond the hypotheses.
  Walk over step of shifts: a word that is another one, if a bit is true. Conditions: a graph in memory, two words of it, a reference of it.
  What move and By of shifts make, plainly. No program in sight. Conditions: none beyond the hypotheses.
-/
import Derived.Test.YtnmfdiiehkkjcaaQE
import Derived.Test.YtnmfdiiehkkjcaaQD
import Derived.Test.YtnmfdiiehkkjcaaQB
import Derived.Deep.WholeRow
import Derived.Test.YtnmfdiiehkkjcaaQA
import Derived.Lib.AppendZeros
import Derived.MapKept
import Derived.OwnWalkIn
namespace Go.Aig
/-- a node that is wanted -/
structure N21 where
  inp : Bool
  l : Int
  r : Int
deriving Inhabited
def fewS (q : List N21 × Nat) (x : N21) : List N21 × Nat := (if q.2 + x.inp.toNat ≤ 8 ∨ x.inp = false then q.1 ++ [x] else q.1, q.2 + x.inp.toNat)
def fewL (l : List N21) : List N21 := ((l.take 40).foldl fewS ([], 0)).1
def cntI (l : List N21) : Nat := (l.filter fun x => x.inp).length
theorem cntI_snoc (l : List N21) (x : N21) : cntI (l ++ [x]) = cntI l + x.inp.toNat := by
  unfold cntI
  rw [List.filter_append, List.length_append]
  cases h : x.inp <;> simp [h]
theorem few_inv : ∀ l : List N21, (l.foldl fewS ([], 0)).1.length ≤ l.length ∧ cntI (l.foldl fewS ([], 0)).1 ≤ 8 ∧ cntI (l.foldl fewS ([], 0)).1 ≤ (l.foldl fewS ([], 0)).2 ∧ (l.foldl fewS ([], 0)).2 ≤ l.length := by
  intro l
  induction l using List.snocRec with
  | nil => exact ⟨Nat.le_refl _, by simp [cntI], by simp [cntI], Nat.le_refl _⟩
  | snoc l x ih =>
    obtain ⟨h1, h2, h3, h4⟩ := ih
    rw [List.foldl_append]
    generalize l.foldl fewS ([], 0) = q at *
    have hx : x.inp.toNat ≤ 1 := by cases x.inp <;> simp
    show (fewS q x).1.length ≤ _ ∧ cntI (fewS q x).1 ≤ 8 ∧ cntI (fewS q x).1 ≤ (fewS q x).2 ∧ (fewS q x).2 ≤ _
    unfold fewS
    simp only
    split
    · rename_i h
      rw [List.length_append, List.length_append, cntI_snoc]
      refine ⟨by simp; omega, ?_, by omega, by simp; omega⟩
      rcases h with h | h
      · omega
      · rw [h]; simpa using h2
    · rw [List.length_append]
      exact ⟨by omega, h2, by omega, by simp; omega⟩
theorem fewS_sub : ∀ (l : List N21) (q : List N21 × Nat), ∀ x ∈ (l.foldl fewS q).1, x ∈ q.1 ∨ x ∈ l := by
  intro l
  induction l with
  | nil => intro q x hx; exact .inl hx
  | cons y l ih =>
    intro q x hx
    rcases ih _ x hx with h | h
    · unfold fewS at h
      simp only at h
      split at h
      · rcases List.mem_append.1 h with h | h
        · exact .inl h
        · rw [List.mem_singleton.1 h]; exact .inr (List.mem_cons_self ..)
      · exact .inl h
    · exact .inr (List.mem_cons_of_mem _ h)
theorem fewL_sub {l : List N21} {x : N21} (h : x ∈ fewL l) : x ∈ l := by
  rcases fewS_sub (l.take 40) ([], 0) x h with h | h
  · simp at h
  · exact List.mem_of_mem_take h
theorem fewL_len (l : List N21) : (fewL l).length ≤ 40 ∧ cntI (fewL l) ≤ 8 := by
  have := few_inv (l.take 40)
  unfold fewL
  rw [List.length_take] at this
  omega
end Go.Aig
namespace Go.Proofs.Ytnmfdiiehkkjcaa
open Go.RowKit Go.Mem Go.Aig
theorem and_room21 {G : Gra} (a b : Nat) (h : G.nodes.length < G.most) : (Aig.and G a b).2.2 = 0 ∧ (Aig.and G a b).1.most = G.most ∧ (Aig.and G a b).1.nodes.length ≤ G.nodes.length + 1 ∧ inputs (Aig.and G a b).1.nodes = inputs G.nodes := by
  unfold Aig.and
  split
  · exact ⟨rfl, rfl, by simp, rfl⟩
  · split
    · exact ⟨rfl, rfl, by simp, rfl⟩
    · unfold put
      rw [if_neg (by omega)]
      refine ⟨rfl, rfl, by simp, ?_⟩
      exact inputs_append (by simp)
theorem input_room {G : Gra} (h : G.nodes.length < G.most) : (doInput G).2.2 = 0 ∧ (doInput G).1.most = G.most ∧ (doInput G).1.nodes.length = G.nodes.length + 1 ∧ (inputs (doInput G).1.nodes).length = (inputs G.nodes).length + 1 := by
  unfold doInput put
  rw [if_neg (by omega)]
  refine ⟨rfl, rfl, by simp, ?_⟩
  show (inputs (G.nodes ++ [_])).length = _
  rw [inputs_input rfl]
  simp
/-- a slice of nodes -/
structure NodeS (w : World) (a : Option Addr) (n cap : Nat) (l : List N21) : Prop where
  len : l.length = n
  le : n ≤ cap
  max : cap ≤ 9223372036854775807
  cells : ∀ (i : Nat) (x : N21), l[i]? = some x → ∃ b o, a = some ⟨b, o, none⟩ ∧ w.cell? ⟨b, o + i * 3, none⟩ = some (.bool x.inp) ∧ w.cell? ⟨b, o + i * 3 + 1, none⟩ = some (.int .i64 x.l) ∧ w.cell? ⟨b, o + i * 3 + 2, none⟩ = some (.int .i64 x.r)
  bd : ∀ x ∈ l, (-9223372036854775808 ≤ x.l ∧ x.l ≤ 9223372036854775807) ∧ (-9223372036854775808 ≤ x.r ∧ x.r ≤ 9223372036854775807)
theorem NodeS.ch {w w' : World} {a : Option Addr} {n cap : Nat} {l : List N21} (h : NodeS w a n cap l) (hc : Ch [] w w') : NodeS w' a n cap l :=
  ⟨h.len, h.le, h.max, fun i x hx => by
    obtain ⟨b, o, e, h1, h2, h3⟩ := h.cells i x hx
    exact ⟨b, o, e, (hc.cell (cell_lt h1) (by simp)).trans h1, (hc.cell (cell_lt h2) (by simp)).trans h2, (hc.cell (cell_lt h3) (by simp)).trans h3⟩, h.bd⟩
def n21Cells (l : List N21) : List Value := l.flatMap fun x => [.bool x.inp, .int .i64 x.l, .int .i64 x.r]
theorem n21Cells_snoc (l : List N21) (x : N21) : n21Cells (l ++ [x]) = n21Cells l ++ [.bool x.inp, .int .i64 x.l, .int .i64 x.r] := by simp [n21Cells]
theorem n21_at : ∀ {L : List N21} {k : Nat} {x : N21}, L[k]? = some x → (n21Cells L)[k * 3]? = some (.bool x.inp) ∧ (n21Cells L)[k * 3 + 1]? = some (.int .i64 x.l) ∧ (n21Cells L)[k * 3 + 2]? = some (.int .i64 x.r)
  | [], k, x, h => by simp at h
  | y :: L, 0, x, h => by
    have e : y = x := by simpa using h
    subst e
    exact ⟨rfl, rfl, rfl⟩
  | y :: L, k + 1, x, h => by
    have ih := n21_at (L := L) (k := k) (x := x) (by simpa using h)
    have e : n21Cells (y :: L) = [.bool y.inp, .int .i64 y.l, .int .i64 y.r] ++ n21Cells L := by simp [n21Cells]
    rw [e, show (k + 1) * 3 = k * 3 + 3 by omega]
    refine ⟨?_, ?_, ?_⟩
    · rw [List.getElem?_append_right (by simp)]; simpa using ih.1
    · rw [List.getElem?_append_right (by simp)]; simpa using ih.2.1
    · rw [List.getElem?_append_right (by simp)]; simpa using ih.2.2
theorem row_cell {w : World} {e : TypeId} {size b n c m : Nat} {vs : List Value} (h : row w e size (.slice (some ⟨b, 0, none⟩) n c) m vs) {k : Nat} {v : Value} (hk : vs[k]? = some v) : w.cell? ⟨b, k, none⟩ = some v := by
  have := h.cells (g := b) rfl k v hk
  rw [Addr.add_lit] at this
  simpa using this
theorem infoNode21 : (Try.prog.info? 69).map (fun i => (i.zero, i.size, i.bytes)) = some (some (.agg #[.bool false, .int .i64 0, .int .i64 0]), 3, 24) := by kernel_rfl
theorem slNodes21 : SliceTy Try.prog 22 69 3 24 (.agg #[.bool false, .int .i64 0, .int .i64 0]) := ⟨Try.underlying22, infoNode21, rfl, by decide⟩
set_option maxRecDepth 100000 in
set_option maxHeartbeats 1000000 in
theorem index21_is (w : World) (n : Int) (_hn : -9223372036854775808 ≤ n ∧ n ≤ 9223372036854775807) (k : Nat) (hk : 1 ≤ k) (hk2 : k ≤ 1000000) :
    Calls Try.prog 80 #[.int .i64 n, .int .i64 k] w fun e w' => e = .returned (.int .i64 (n % k)) ∧ w = w' := by
  have hb := Int.emod_nonneg n (show (k : Int) ≠ 0 by omega)
  have hb2 := Int.emod_lt_of_pos n (show (0 : Int) < k by omega)
  have hk0 : ((k : Int) == 0) = false := beqN (by omega)
  have ht := Int.tmod_eq_emod (a := n) (b := (k : Int))
  obtain ⟨r, hr⟩ : ∃ r, Int.tmod n k = r := ⟨_, rfl⟩
  have hr1 : -(k : Int) < r ∧ r < k := by
    have := Int.natAbs_tmod n k
    have h2 : (Int.tmod n k).natAbs < k := by rw [this]; exact Nat.mod_lt _ (by omega)
    rw [hr] at h2
    omega
  have hres : n % k = if r < 0 then r + k else r := by
    rw [hr] at ht
    split at ht
    · split <;> omega
    · have : ((k : Int).natAbs : Int) = k := by simp
      rw [this] at ht
      split <;> omega
  by_cases h0 : r < 0
  · rw [if_pos h0] at hres
    rw [hres]
    have HH := Lib.hid hres
    clear hres ht hb hb2
    go_enter Try.func80, Try.ntmps80
    go_wp2_with fail
    go_ret
    exact ⟨rfl, rfl⟩
  · rw [if_neg h0] at hres
    rw [hres]
    clear hres ht hb hb2
    go_enter Try.func80, Try.ntmps80
    go_wp2_with fail
    go_ret
    exact ⟨rfl, rfl⟩
set_option maxRecDepth 100000 in
set_option maxHeartbeats 4000000 in
theorem few21_is {w : World} {a : Option Addr} {n cap : Nat} {l : List N21} (hS : NodeS w a n cap l) :
    Calls Try.prog 79 #[.slice a n cap] w fun e w' => ∃ v, e = .returned v ∧ row w' 69 3 v (fewL l).length (n21Cells (fewL l)) ∧ (∀ q ∈ v.ownBlock.toList, w.heap.size ≤ q) ∧ Ch [] w w' := by
  have hlen := hS.len
  have hle := hS.le
  have hmx := hS.max
  obtain ⟨m, hm, hm40, hmn⟩ : ∃ m, min n 40 = m ∧ m ≤ 40 ∧ m ≤ n := ⟨_, rfl, by omega, by omega⟩
  have hmin : ∀ ats ty, Builtin.min_ ats ty #[.int .i64 (n : Int), .int .i64 40] = pure (.int .i64 (m : Int)) := fun ats ty => by
    have e : (if (40 : Int) < n then 40 else (n : Int)) = m := by split <;> omega
    rw [← e]
    simp [Builtin.min_, Builtin.min2]
  have hall : (l.take 40) = l.take m := by
    rw [← hm, ← hlen]
    by_cases h : l.length ≤ 40
    · rw [List.take_of_length_le h, List.take_of_length_le (by omega)]
    · rw [show min l.length 40 = 40 by omega]
  have hinv := fun k => few_inv (l.take k)
  unfold fewL
  rw [hall]
  have HS := Lib.hid hS; clear hS
  have HINV := Lib.hid hinv; clear hinv
  clear hall
  have HM := Lib.hid hm; clear hm
  have HLEN := Lib.hid hlen; clear hlen
  go_enter Try.func79, Try.ntmps79
  go_wp2_with fail
  obtain ⟨Q, hQ⟩ : ∃ Q : Nat → List N21 × Nat, Q = fun k => (l.take k).foldl fewS ([], 0) := ⟨_, rfl⟩
  have hQ0 : Q 0 = ([], 0) := by rw [hQ]; rfl
  have hQm : ((l.take m).foldl fewS ([], 0)).1 = (Q m).1 := by rw [hQ]
  have hQs : ∀ (k : Nat) (x : N21), l[k]? = some x → Q (k + 1) = fewS (Q k) x := fun k x hx => by
    rw [hQ]
    show (l.take (k + 1)).foldl _ _ = _
    rw [List.take_add_one, hx, List.foldl_append]
    rfl
  have hQb : ∀ k, k ≤ 40 → (Q k).1.length ≤ 40 ∧ (Q k).2 ≤ 40 := fun k hk => by
    have := HINV.out k
    rw [List.length_take] at this
    rw [hQ]
    show ((l.take k).foldl fewS ([], 0)).1.length ≤ 40 ∧ ((l.take k).foldl fewS ([], 0)).2 ≤ 40
    omega
  have HQ0 := Lib.hid hQ0; clear hQ0
  have HQM := Lib.hid hQm; clear hQm
  have HQS := Lib.hid hQs; clear hQs
  have HQB := Lib.hid hQb; clear hQb
  clear hQ HINV hmin
  go_loopw [3, 4, 13] (fun o q i wr => ∃ k : Nat, k ≤ m ∧ i = .int .i64 k ∧ q = .int .i64 (Q k).2 ∧ Ch [] w wr ∧ row wr 69 3 o (Q k).1.length (n21Cells (Q k).1) ∧ ∀ z ∈ o.ownBlock.toList, w.heap.size ≤ z) (fun _ _ i _ => m - (intOf i).toNat)
  case atStart => exact ⟨0, by omega, rfl, by rw [HQ0.out]; rfl, Ch.refl _ _, by rw [HQ0.out]; exact ⟨rfl, .inl ⟨rfl, rfl⟩⟩, by simp⟩
  case round =>
    obtain ⟨k, hk, rfl, rfl, hc, hrow, hlo⟩ := hrel
    obtain ⟨oa, oc, rfl⟩ := row.shape hrow
    by_cases hlt : k < m
    · obtain ⟨x, hx⟩ : ∃ x, l[k]? = some x := ⟨_, List.getElem?_eq_getElem (by rw [HLEN.out]; omega)⟩
      obtain ⟨ab, ao, rfl, d0, d1, d2⟩ := HS.out.cells k x hx
      have hs := HQS.out k x hx
      have hb := HQB.out k (by omega)
      generalize hQN : Q (k + 1) = QN at hs
      generalize Q k = q at hs hb hrow hlo ⊢
      obtain ⟨L, c⟩ := q
      simp only at hb hrow hlo ⊢
      have c0 := (hc.cell (cell_lt d0) (by simp)).trans d0
      have c1 := (hc.cell (cell_lt d1) (by simp)).trans d1
      have c2 := (hc.cell (cell_lt d2) (by simp)).trans d2
      clear d0 d1 d2 hx
      have HC := Lib.hid hc; clear hc
      have HROW := Lib.hid hrow; clear hrow
      have HLO := Lib.hid hlo; clear hlo
      have HQN := Lib.hid hQN; clear hQN
      have HSS := Lib.hid hs; clear hs
      obtain ⟨inp, xl, xr⟩ := x
      simp only at c0 c1 c2
      go_upto_region 6 with fail
      refine wp_named fun W1 hW1 => ?_
      have hcA : Ch [] wr W1 := by rw [hW1]; exact (Ch.refl _ _).alloc _
      have hb1 : blk W1 wr.heap.size [.bool inp, .int .i64 xl, .int .i64 xr] := by rw [hW1]; exact blk.new' _ _ rfl
      have e0 := hb1.cell (i := 0) rfl
      have e1 := hb1.cell (i := 1) rfl
      have e2 := hb1.cell (i := 2) rfl
      clear hW1 hb1 c0 c1 c2
      cases inp
      · by_cases h8 : c ≤ 8
        · have hf : QN = (L ++ [⟨false, xl, xr⟩], c) := by rw [HSS.out]; simp [fewS]
          have hb2 : blk (W1.alloc (.cells #[.bool false, .int .i64 xl, .int .i64 xr] 69)) W1.heap.size [.bool false, .int .i64 xl, .int .i64 xr] := blk.new' _ _ rfl
          have hcB : Ch [] wr (W1.alloc (.cells #[.bool false, .int .i64 xl, .int .i64 xr] 69)) := hcA.alloc _
          have hrB := HROW.out.ch hcB (by simp)
          have HB2 := Lib.hid hb2; clear hb2
          have HCB := Lib.hid hcB; clear hcB
          have HRB := Lib.hid hrB; clear hrB
          have HF := Lib.hid hf; clear hf
          go_wp2_with (at_builtin; go_loud (refine wpList_append_row slNodes21 rfl _ _ rfl (v := .slice oa L.length oc) (n := L.length) (xs := n21Cells L) rfl HRB.out (ad := ⟨W1.heap.size, 0, none⟩) (m := 1) (c := 1) (news := [.bool false, .int .i64 xl, .int .i64 xr]) rfl rfl (news_blk HB2.out) (by simp [Value.oneCell']) (by omega) (by omega) ?_; intro v' w5 hown4 hC4 hf4; have HO4 := Lib.hid hown4; clear hown4; have HCC4 := Lib.hid hC4; clear hC4; have HF4 := Lib.hid hf4; clear hf4))
          go_roundw
          case rel =>
            obtain ⟨q1, q2⟩ := app_step HC.out HCB.out HLO.out HCC4.out HF4.out
            refine ⟨k + 1, by omega, by go_num, by rw [HQN.out, HF.out] <;> go_num, q1, ?_, q2⟩
            rw [HQN.out, HF.out]
            simp only [List.length_append, List.length_cons, List.length_nil, n21Cells_snoc]
            exact HO4.out
          case measure => simp [intOf]; omega
        · have hf : QN = (L ++ [⟨false, xl, xr⟩], c) := by rw [HSS.out]; simp [fewS]
          have hb2 : blk (W1.alloc (.cells #[.bool false, .int .i64 xl, .int .i64 xr] 69)) W1.heap.size [.bool false, .int .i64 xl, .int .i64 xr] := blk.new' _ _ rfl
          have hcB : Ch [] wr (W1.alloc (.cells #[.bool false, .int .i64 xl, .int .i64 xr] 69)) := hcA.alloc _
          have hrB := HROW.out.ch hcB (by simp)
          have HB2 := Lib.hid hb2; clear hb2
          have HCB := Lib.hid hcB; clear hcB
          have HRB := Lib.hid hrB; clear hrB
          have HF := Lib.hid hf; clear hf
          go_wp2_with (at_builtin; go_loud (refine wpList_append_row slNodes21 rfl _ _ rfl (v := .slice oa L.length oc) (n := L.length) (xs := n21Cells L) rfl HRB.out (ad := ⟨W1.heap.size, 0, none⟩) (m := 1) (c := 1) (news := [.bool false, .int .i64 xl, .int .i64 xr]) rfl rfl (news_blk HB2.out) (by simp [Value.oneCell']) (by omega) (by omega) ?_; intro v' w5 hown4 hC4 hf4; have HO4 := Lib.hid hown4; clear hown4; have HCC4 := Lib.hid hC4; clear hC4; have HF4 := Lib.hid hf4; clear hf4))
          go_roundw
          case rel =>
            obtain ⟨q1, q2⟩ := app_step HC.out HCB.out HLO.out HCC4.out HF4.out
            refine ⟨k + 1, by omega, by go_num, by rw [HQN.out, HF.out] <;> go_num, q1, ?_, q2⟩
            rw [HQN.out, HF.out]
            simp only [List.length_append, List.length_cons, List.length_nil, n21Cells_snoc]
            exact HO4.out
          case measure => simp [intOf]; omega
      · by_cases h8 : c + 1 ≤ 8
        · have hf : QN = (L ++ [⟨true, xl, xr⟩], c + 1) := by rw [HSS.out]; simp [fewS]; omega
          have hb2 : blk (W1.alloc (.cells #[.bool true, .int .i64 xl, .int .i64 xr] 69)) W1.heap.size [.bool true, .int .i64 xl, .int .i64 xr] := blk.new' _ _ rfl
          have hcB : Ch [] wr (W1.alloc (.cells #[.bool true, .int .i64 xl, .int .i64 xr] 69)) := hcA.alloc _
          have hrB := HROW.out.ch hcB (by simp)
          have HB2 := Lib.hid hb2; clear hb2
          have HCB := Lib.hid hcB; clear hcB
          have HRB := Lib.hid hrB; clear hrB
          have HF := Lib.hid hf; clear hf
          go_wp2_with (at_builtin; go_loud (refine wpList_append_row slNodes21 rfl _ _ rfl (v := .slice oa L.length oc) (n := L.length) (xs := n21Cells L) rfl HRB.out (ad := ⟨W1.heap.size, 0, none⟩) (m := 1) (c := 1) (news := [.bool true, .int .i64 xl, .int .i64 xr]) rfl rfl (news_blk HB2.out) (by simp [Value.oneCell']) (by omega) (by omega) ?_; intro v' w5 hown4 hC4 hf4; have HO4 := Lib.hid hown4; clear hown4; have HCC4 := Lib.hid hC4; clear hC4; have HF4 := Lib.hid hf4; clear hf4))
          go_roundw
          case rel =>
            obtain ⟨q1, q2⟩ := app_step HC.out HCB.out HLO.out HCC4.out HF4.out
            refine ⟨k + 1, by omega, by go_num, by rw [HQN.out, HF.out] <;> go_num, q1, ?_, q2⟩
            rw [HQN.out, HF.out]
            simp only [List.length_append, List.length_cons, List.length_nil, n21Cells_snoc]
            exact HO4.out
          case measure => simp [intOf]; omega
        · have hf : QN = (L, c + 1) := by rw [HSS.out]; simp [fewS]; omega
          have HF := Lib.hid hf; clear hf
          have HCA := Lib.hid hcA; clear hcA
          go_wp2_with fail
          go_roundw
          case rel =>
            refine ⟨k + 1, by omega, by go_num, by rw [HQN.out, HF.out] <;> go_num, HC.out.trans HCA.out (by simp), ?_, HLO.out⟩
            rw [HQN.out, HF.out]
            exact HROW.out.ch HCA.out (by simp)
          case measure => simp [intOf]; omega
    · have hkm : k = m := by omega
      subst hkm
      have HC := Lib.hid hc; clear hc
      have HROW := Lib.hid hrow; clear hrow
      have HLO := Lib.hid hlo; clear hlo
      go_wp2_with fail
      go_ret
      exact ⟨_, rfl, by rw [HQM.out]; exact HROW.out, HLO.out, HC.out⟩
set_option maxRecDepth 100000 in
set_option maxHeartbeats 1000000 in
/-- a reference of a graph by a number -/
theorem ref21_is {w : World} {g : Nat} {G : Gra} {F : List Nat} (h : GIn w g G F) (n : Nat) (hn : n ≤ 255) :
    Calls Try.prog 18 #[.pointer (some ⟨g, 0, none⟩), .int .u8 n] w fun e w' => e = .returned (.int .i64 (n % (2 * G.nodes.length) : Nat)) ∧ w = w' := by
  have hpos := h.ok.wf.pos
  have hL := Len_g h
  have hnl : G.nodes.length ≤ 65536 := by have := h.ok.room; have := h.ok.most; omega
  generalize hN : G.nodes.length = N at *
  have hmx : ∀ ats ty, Builtin.max_ ats ty #[.int .i64 (N : Int), .int .i64 1] = pure (.int .i64 (N : Int)) := fun ats ty => max_one N N (by omega) ats ty
  have hne : ((2 * (N : Int)) == 0) = false := by rw [beq_eq_false_iff_ne]; omega
  clear h hN
  go_enter Try.func18, Try.ntmps18
  go_wp2_with fail
  refine hL.mono ?_
  rintro e w' ⟨rfl, rfl⟩
  go_wp2_with fail
  go_ret
  exact ⟨ret_int (by simp), rfl⟩
set_option maxRecDepth 100000 in
set_option maxHeartbeats 4000000 in
theorem made21_is {w : World} {a : Option Addr} {n cap : Nat} {l : List N21} (hS : NodeS w a n cap l) :
    Calls Try.prog 17 #[.slice a n cap] w fun e w' => ∃ g G F, e = .returned (.tuple #[.pointer (some ⟨g, 0, none⟩), .bool true]) ∧ Own w w' g G F ∧ G.most = 200 ∧ G.nodes.length ≤ 41 ∧ (inputs G.nodes).length ≤ 8 := by
  have hfl := fewL_len l
  have hbd : ∀ x ∈ fewL l, (-9223372036854775808 ≤ x.l ∧ x.l ≤ 9223372036854775807) ∧ (-9223372036854775808 ≤ x.r ∧ x.r ≤ 9223372036854775807) := fun x hx => hS.bd x (fewL_sub hx)
  have hfew := fun (W : World) (hW : Ch [] w W) => few21_is (hS.ch hW)
  have HFEW := Lib.hid hfew; clear hfew
  have HBD := Lib.hid hbd; clear hbd
  clear hS
  generalize hLL : fewL l = L at *
  clear hLL
  have HN := Lib.hid (New_yes (w := w) 200 (by decide) (by decide))
  go_enter Try.func17, Try.ntmps17
  go_wp2_with fail
  refine HN.out.mono ?_
  rintro e w1 ⟨g, F, rfl, hg, hF, hc⟩
  have hown : Own w w1 g (newG 200) F := ⟨hg, hF, hc⟩
  have HC := Lib.hid hc; clear hc hg HN
  have HOWN1 := Lib.hid hown.gin.lt
  have HOWN := Lib.hid hown; clear hown
  go_wp2_with fail
  refine (HFEW.out w1 HC.out).mono ?_
  rintro e w2 ⟨v, rfl, hrow, hv, hc2⟩
  obtain ⟨fa, fc, rfl⟩ := row.shape hrow
  have ho2 := HOWN.out.same hc2
  have HROW := Lib.hid hrow; clear hrow
  have HC2 := Lib.hid hc2; clear hc2
  have HV := Lib.hid hv; clear hv HOWN HFEW
  have HO2 := Lib.hid ho2; clear ho2
  go_wp2_with fail
  go_loopw [22] (fun i wr => ∃ (k : Nat) (G : Gra) (F : List Nat), k ≤ L.length ∧ i = .int .i64 k ∧ Own w wr g G F ∧ G.most = 200 ∧ G.nodes.length ≤ k + 1 ∧ (inputs G.nodes).length ≤ cntI (L.take k) ∧ row wr 69 3 (.slice fa L.length fc) L.length (n21Cells L) ∧ ∀ z ∈ (Value.slice fa L.length fc).ownBlock.toList, w1.heap.size ≤ z ∧ z ∉ F) (fun i _ => L.length - (intOf i).toNat)
  case atStart =>
    refine ⟨0, newG 200, F, by omega, rfl, HO2.out, rfl, by decide, Nat.zero_le _, HROW.out, fun z hz => ⟨HV.out z hz, fun hin => ?_⟩⟩
    have h1 := HV.out z hz
    have h2 := HOWN1.out z hin
    omega
  case round =>
    obtain ⟨k, G, F, hk, rfl, hown, hm, hnl, hil, hrow, hv⟩ := hrel
    clear HO2 HROW HV
    have hok := hown.gin.ok
    have hpos := hok.wf.pos
    by_cases hlt : k < L.length
    · obtain ⟨fb, fcap, e⟩ := hrow.parts (by omega)
      cases e
      obtain ⟨x, hx⟩ : ∃ x, L[k]? = some x := ⟨_, List.getElem?_eq_getElem hlt⟩
      obtain ⟨t0, t1, t2⟩ := n21_at hx
      have hxb := HBD.out x (List.mem_of_getElem? hx)
      have hcs : cntI (L.take (k + 1)) = cntI (L.take k) + x.inp.toNat := by rw [List.take_add_one, hx]; exact cntI_snoc _ _
      have c0 := row_cell hrow t0
      have c1 := row_cell hrow t1
      have c2 := row_cell hrow t2
      have hvf := (hv fb (by simp [Value.ownBlock])).2
      have hvlt := (hrow.lt fb rfl).2
      have HROW := Lib.hid hrow; clear hrow
      have HV := Lib.hid hv; clear hv
      have HOWN := Lib.hid hown; clear hown
      have HCS := Lib.hid hcs; clear hcs
      obtain ⟨inp, xl, xr⟩ := x
      simp only at c0 c1 c2 hxb
      have HIL := Lib.hid hil; clear hil
      have HM := Lib.hid hm; clear hm
      go_upto_region 7 with fail
      refine wp_named fun W1 hW1 => ?_
      have hcA : Ch [] wr W1 := by rw [hW1]; exact (Ch.refl _ _).alloc _
      have hb1 : blk W1 wr.heap.size [.bool inp, .int .i64 xl, .int .i64 xr] := by rw [hW1]; exact blk.new' _ _ rfl
      have e0 := hb1.cell (i := 0) rfl
      have hB7 : wr.heap.size ∉ F := fun hin => by have := HOWN.out.gin.lt _ hin; omega
      have hO1 := HOWN.out.same hcA
      have HR1 := Lib.hid (HROW.out.ch hcA (by simp))
      clear hW1 c0 c1 c2 t0 t1 t2 HOWN HROW
      have HCA := Lib.hid hcA; clear hcA
      have hgo : ∀ (G' : Gra) (W' : World), GTo W1 g G' F W' → ∃ F', Own w W' g G' F' ∧ row W' 69 3 (.slice (some ⟨fb, 0, none⟩) L.length fc) L.length (n21Cells L) ∧ ∀ z ∈ (Value.slice (some ⟨fb, 0, none⟩) L.length fc).ownBlock.toList, w1.heap.size ≤ z ∧ z ∉ F' := fun G' W' hto => by
        obtain ⟨F', h1, h2, h3, h4⟩ := hto
        refine ⟨F', ⟨h1, fun q hq => (h3 q hq).elim (hO1.own q) (fun e => Nat.le_trans hO1.ch.size e), hO1.ch.trans h2 (fun q hq => .inr (hO1.own q hq))⟩, HR1.out.ch h2 (fun q hq => by cases hq; exact hvf), fun z hz => ⟨(HV.out z hz).1, fun hin => ?_⟩⟩
        simp [Value.ownBlock] at hz
        subst hz
        rcases h3 _ hin with e | e
        · exact hvf e
        · have := HCA.out.size; omega
      have HGO := Lib.hid hgo; clear hgo
      cases inp
      · have hLen := Len_g hO1.gin
        obtain ⟨N, hN⟩ : ∃ N, G.nodes.length = N := ⟨_, rfl⟩
        rw [hN] at hLen hnl hpos
        have hmx : ∀ ats ty, Builtin.max_ ats ty #[.int .i64 (2 * (N : Int)), .int .i64 2] = pure (.int .i64 ((2 * N : Nat) : Int)) := fun ats ty => max_nat (2 * (N : Int)) 2 (2 * N) (by omega) ats ty
        obtain ⟨p, hp, hpl⟩ : ∃ p : Nat, xl % ((2 * N : Nat) : Int) = p ∧ p < 2 * N := ⟨(xl % ((2 * N : Nat) : Int)).toNat, by
          have := Int.emod_nonneg xl (show ((2 * N : Nat) : Int) ≠ 0 by omega)
          omega, by
          have := Int.emod_nonneg xl (show ((2 * N : Nat) : Int) ≠ 0 by omega)
          have := Int.emod_lt_of_pos xl (show (0 : Int) < ((2 * N : Nat) : Int) by omega)
          omega⟩
        obtain ⟨q, hq, hql⟩ : ∃ q : Nat, xr % ((2 * N : Nat) : Int) = q ∧ q < 2 * N := ⟨(xr % ((2 * N : Nat) : Int)).toNat, by
          have := Int.emod_nonneg xr (show ((2 * N : Nat) : Int) ≠ 0 by omega)
          omega, by
          have := Int.emod_nonneg xr (show ((2 * N : Nat) : Int) ≠ 0 by omega)
          have := Int.emod_lt_of_pos xr (show (0 : Int) < ((2 * N : Nat) : Int) by omega)
          omega⟩
        have HI1 := fun W => index21_is W xl hxb.1 (2 * N) (by omega) (by omega)
        have HI2 := fun W => index21_is W xr hxb.2 (2 * N) (by omega) (by omega)
        simp only [hp] at HI1
        simp only [hq] at HI2
        have hroom := and_room21 (G := G) p q (by rw [hN, HM.out]; omega)
        have hand : doAnd G p q = Aig.and G p q := doAnd_r (by omega) (by omega)
        have HAN := fun (W : World) (hW : Ch [] W1 W) => And_g (hO1.gin.same hW (by simp)) p q (by omega) (by omega)
        simp only [hand, hroom.1] at HAN
        have HROOM := Lib.hid hroom; clear hroom
        have HI1 := Lib.hid HI1
        have HI2 := Lib.hid HI2
        have HAN := Lib.hid HAN
        have HBK := Lib.hid hb1; clear hb1
        have HNN := Lib.hid hN
        clear hand hp hq hN
        go_wp2_with fail
        refine hLen.mono ?_
        rintro e w' ⟨rfl, rfl⟩
        go_wp2_with fail
        refine Ord.St.door (fun w' => w'.cell? ⟨wr.heap.size, 1, none⟩ = some (.int .i64 xl) ∧ w'.cell? ⟨wr.heap.size, 2, none⟩ = some (.int .i64 xr)) [.fl, .fl, .ho, .fl, .ef, .fl, .ho, .fl, .ef, .ef, .fl, .fl, .fl, .fl] [0, 0, 2, 0, 14, 0, 32, 0, 254, 511, 1023, 2047, 2047, 8191] [0, 1, 2, 3, 4, 5, 6, 7, 8, 9, 10, 11, 12, 13] mixed (by kernel_rfl) rfl ?_
        obtain ⟨Wc, hWc⟩ : ∃ Wc, Wc = W1.drew := ⟨_, rfl⟩
        rw [← hWc]
        have hcur : Ch [] W1 Wc := by rw [hWc]; exact (Ch.refl _ _).drew
        clear hWc
        have hbk := HBK.out.ch hcur (by simp)
        have HCUR := Lib.hid hcur
        refine Ord.St.fl2 (T' := ?_) 0 [1, 2, 3, 4, 5, 6, 7, 8, 9, 10, 11, 12, 13] _ _ rfl (by kernel_rfl) rfl rfl rfl rfl (fun K w' hk => ?_) ?_
        rotate_left
        · go_step; exact hk
        refine Ord.St.fl2 (T' := ?_) 1 [2, 3, 4, 5, 6, 7, 8, 9, 10, 11, 12, 13] _ _ rfl (by kernel_rfl) rfl rfl rfl rfl (fun K w' hk => ?_) ?_
        rotate_left
        · go_step; exact hk
        refine Ord.St.ho2 (T' := ?_) 2 [3, 4, 5, 6, 7, 8, 9, 10, 11, 12, 13] _ _ rfl (by kernel_rfl) rfl rfl rfl rfl ?_ (fun K w' hw' hk => ?_) ?_
        rotate_left
        · exact ⟨hbk.cell rfl, hbk.cell rfl⟩
        · obtain ⟨q1, q2⟩ := hw'; go_step; exact hk
        refine Ord.St.fl2 (T' := ?_) 3 [4, 5, 6, 7, 8, 9, 10, 11, 12, 13] _ _ rfl (by kernel_rfl) rfl rfl rfl rfl (fun K w' hk => ?_) ?_
        rotate_left
        · go_step; exact hk
        refine Ord.St.fl2 (T' := ?_) 5 [4, 6, 7, 8, 9, 10, 11, 12, 13] _ _ rfl (by kernel_rfl) rfl rfl rfl rfl (fun K w' hk => ?_) ?_
        rotate_left
        · go_step; exact hk
        refine Ord.St.ho2 (T' := ?_) 6 [4, 7, 8, 9, 10, 11, 12, 13] _ _ rfl (by kernel_rfl) rfl rfl rfl rfl ?_ (fun K w' hw' hk => ?_) ?_
        rotate_left
        · exact ⟨hbk.cell rfl, hbk.cell rfl⟩
        · obtain ⟨q1, q2⟩ := hw'; go_step; exact hk
        refine Ord.St.fl2 (T' := ?_) 7 [4, 8, 9, 10, 11, 12, 13] _ _ rfl (by kernel_rfl) rfl rfl rfl rfl (fun K w' hk => ?_) ?_
        rotate_left
        · go_step; exact hk
        refine Ord.St.efC 4 [8, 9, 10, 11, 12, 13] _ rfl (by kernel_rfl) (fun K hK => ?_)
        go_wp2_with fail
        refine (HI1.out _).mono ?_
        rintro e w' ⟨rfl, rfl⟩
        go_wp2_with fail
        refine ⟨rfl, hK _ _ ?_ ?_⟩
        · exact ⟨hbk.cell rfl, hbk.cell rfl⟩
        clear hK K
        refine Ord.St.ef 8 [9, 10, 11, 12, 13] _ rfl (by kernel_rfl) (fun K hK => ?_)
        go_wp2_with fail
        refine (HI2.out _).mono ?_
        rintro e w' ⟨rfl, rfl⟩
        go_wp2_with fail
        refine ⟨rfl, hK _ _ ?_⟩; clear hK K
        refine Ord.St.ef 9 [10, 11, 12, 13] _ rfl (by kernel_rfl) (fun K hK => ?_)
        have han := HAN.out Wc hcur
        have HAN1 := Lib.hid han; clear han HAN
        go_wp2_with fail
        refine HAN1.out.mono ?_
        rintro e w5 ⟨rfl, hto⟩
        have HTO := Lib.hid hto; clear hto
        go_wp2_with fail
        refine ⟨rfl, hK _ _ ?_⟩; clear hK K
        refine Ord.St.fl2 (T' := ?_) 10 [11, 12, 13] _ _ rfl (by kernel_rfl) rfl rfl rfl rfl (fun K w' hk => ?_) ?_
        rotate_left
        · go_step; exact hk
        refine Ord.St.fl2 (T' := ?_) 11 [12, 13] _ _ rfl (by kernel_rfl) rfl rfl rfl rfl (fun K w' hk => ?_) ?_
        rotate_left
        · go_step; exact hk
        refine Ord.St.fl2 (T' := ?_) 12 [13] _ _ rfl (by kernel_rfl) rfl rfl rfl rfl (fun K w' hk => ?_) ?_
        rotate_left
        · go_step; exact hk
        refine Ord.St.fl2 (T' := ?_) 13 [] _ _ rfl (by kernel_rfl) rfl rfl rfl rfl (fun K w' hk => ?_) ?_
        rotate_left
        · go_step; exact hk
        refine Ord.St.nil ?_
        go_wp2_with fail
        go_roundw
        case rel =>
          obtain ⟨F', k1, k2, k3⟩ := HGO.out _ _ (GTo.since HCUR.out HTO.out)
          obtain ⟨r1, r2, r3, r4⟩ := HROOM.out
          have hnn := HNN.out
          exact ⟨k + 1, _, F', by omega, by go_num, k1, by rw [r2]; exact HM.out, by omega, by rw [r4, HCS.out]; exact HIL.out, k2, k3⟩
        case measure => simp [intOf]; omega
      · have hroom := input_room (G := G) (by rw [HM.out]; omega)
        have HIN := Input_g hO1.gin
        rw [hroom.1] at HIN
        have HROOM := Lib.hid hroom; clear hroom
        have HIN := Lib.hid HIN
        clear hb1
        go_wp2_with fail
        refine HIN.out.mono ?_
        rintro e w5 ⟨rfl, hto⟩
        have HTO := Lib.hid hto; clear hto
        go_wp2_with fail
        go_roundw
        case rel =>
          obtain ⟨F', k1, k2, k3⟩ := HGO.out _ _ HTO.out
          obtain ⟨r1, r2, r3, r4⟩ := HROOM.out
          refine ⟨k + 1, _, F', by omega, by go_num, k1, by rw [r2]; exact HM.out, by omega, ?_, k2, k3⟩
          rw [r4, HCS.out]
          have := HIL.out
          simp
          omega
        case measure => simp [intOf]; omega
    · have hkn : k = L.length := by omega
      subst hkn
      have hLen := Len_g hown.gin
      have e1 : decide ((G.nodes.length : Int) > 0) = true := decide_eq_true (by omega)
      have HOWN := Lib.hid hown; clear hown
      have HIL := Lib.hid hil; clear hil
      clear hrow hv
      go_wp2_with fail
      refine hLen.mono ?_
      rintro e w' ⟨rfl, rfl⟩
      go_wp2_with fail
      go_ret2
      refine ⟨g, G, F, rfl, HOWN.out, hm, by omega, ?_⟩
      have := HIL.out
      rw [List.take_of_length_le (Nat.le_refl _)] at this
      omega
end Go.Proofs.Ytnmfdiiehkkjcaa
namespace Go.Proofs.Ytnmfdiiehkkjcaa
open Go.ChangeShapes Go.WideShapes Go.ChangeAt Go.RowKit Go.Mem Go.Aig Go.Deep
theorem wf_u64 {n : Int} (h : (Lit.int .u64 n).wf = true) : ∃ m : Nat, n = m ∧ m < 2 ^ 64 := by
  have : 0 ≤ n ∧ n ≤ 18446744073709551615 := by simpa [Lit.wf, IntKind.min, IntKind.max, IntKind.signed, IntKind.bits] using h
  exact ⟨n.toNat, by omega, by omega⟩
theorem wf_u16 {n : Int} (h : (Lit.int .u16 n).wf = true) : ∃ m : Nat, n = m ∧ m < 2 ^ 16 := by
  have : 0 ≤ n ∧ n ≤ 65535 := by simpa [Lit.wf, IntKind.min, IntKind.max, IntKind.signed, IntKind.bits] using h
  exact ⟨n.toNat, by omega, by omega⟩
theorem wf_u8' {n : Int} (h : (Lit.int .u8 n).wf = true) : ∃ m : Nat, n = m ∧ m < 2 ^ 8 := by
  have : 0 ≤ n ∧ n ≤ 255 := by simpa [Lit.wf, IntKind.min, IntKind.max, IntKind.signed, IntKind.bits] using h
  exact ⟨n.toNat, by omega, by omega⟩
/-- a slice of numbers of one kind that came in -/
structure NumS (k : IntKind) (bits : Nat) (w : World) (a : Option Addr) (n cap : Nat) (l : List Nat) : Prop where
  sv : Sv w a (l.map fun (x : Nat) => .int k x)
  len : l.length = n
  bd : ∀ x ∈ l, x < 2 ^ bits
  le : n ≤ cap
  max : cap ≤ 9223372036854775807
section
variable {H : Type} {enc : TypeId × Value → H} {W : World}
set_option maxRecDepth 100000 in
theorem u64s_open6 {a : Option Addr} {len cap : Nat} {d : DataW H} {p : List MemPlace} (h : DataW.Trod enc Try.prog W 0 (fun _ => true) true 33 (.slice a len cap) d p) : ∃ l, NumS .u64 64 W a len cap l := by
  obtain ⟨fuel, hf⟩ := h
  rcases open_slice Try.underlying33 hf with ⟨hcs, _⟩ | ⟨y, l, cp, m, n, D, Pl, hcs, _, hl, hm, hmm, _, hi⟩
  · simp [Value.cells] at hcs
    obtain ⟨rfl, rfl, rfl⟩ := hcs
    exact ⟨[], ⟨by simp, by simp⟩, rfl, by simp, by omega, by omega⟩
  · simp [Value.cells] at hcs
    obtain ⟨rfl, rfl, rfl⟩ := hcs
    have hm' : cap ≤ 9223372036854775807 := by unfold maxLen at hm; exact hm
    have hC : Try.prog.cellsOf 45 = 1 := by kernel_rfl
    have hspot : 0 < len → y.spot = none := fun h0 => by
      obtain ⟨cs', hc, _⟩ := hi 0 (by rw [hmm]; simp; omega)
      rw [hC] at hc
      obtain ⟨_, hcl, hat⟩ := World.cells?_some hc
      have e0 := hat 0 (by omega)
      rw [List.getElem?_eq_getElem (by omega)] at e0
      simpa [Addr.add] using World.cell?_spot e0
    have key : ∀ i, i < len → ∃ z : Nat, (∃ b o, (some y : Option Addr) = some ⟨b, o, none⟩ ∧ W.cell? ⟨b, o + i, none⟩ = some (.int .u64 z)) ∧ z < 2 ^ 64 := by
      intro i hlt
      obtain ⟨cs', hc, ht⟩ := hi i (by rw [hmm]; simp; omega)
      rw [hC] at hc
      obtain ⟨_, hcl, hat⟩ := World.cells?_some hc
      match cs', hcl with
      | [c0], _ =>
        obtain ⟨z, hz, _, hw⟩ := DataW.trod_int Try.underlying45 ht
        obtain ⟨m, rfl, hb⟩ := wf_u64 hw
        simp at hz
        subst hz
        have e0 := hat 0 (by omega)
        simp at e0
        obtain ⟨b, o, spot⟩ := y
        have hsp : spot = none := hspot (by omega)
        subst hsp
        simp only [Addr.add_lit] at e0
        exact ⟨m, ⟨b, o, rfl, by simpa using e0⟩, hb⟩
    obtain ⟨ll, hll, hp⟩ := list_of _ len key
    refine ⟨ll, ⟨fun i s hs => ?_, by rw [List.length_map]; omega⟩, hll, fun s hs => ?_, hl, hm'⟩
    · rw [List.getElem?_map, Option.map_eq_some_iff] at hs
      obtain ⟨q, hq, rfl⟩ := hs
      exact (hp i q hq).1
    · obtain ⟨i, hi2⟩ := List.mem_iff_getElem?.1 hs
      exact (hp i s hi2).2
set_option maxRecDepth 100000 in
theorem u16s_open6 {a : Option Addr} {len cap : Nat} {d : DataW H} {p : List MemPlace} (h : DataW.Trod enc Try.prog W 0 (fun _ => true) true 94 (.slice a len cap) d p) : ∃ l, NumS .u16 16 W a len cap l := by
  obtain ⟨fuel, hf⟩ := h
  rcases open_slice Try.underlying94 hf with ⟨hcs, _⟩ | ⟨y, l, cp, m, n, D, Pl, hcs, _, hl, hm, hmm, _, hi⟩
  · simp [Value.cells] at hcs
    obtain ⟨rfl, rfl, rfl⟩ := hcs
    exact ⟨[], ⟨by simp, by simp⟩, rfl, by simp, by omega, by omega⟩
  · simp [Value.cells] at hcs
    obtain ⟨rfl, rfl, rfl⟩ := hcs
    have hm' : cap ≤ 9223372036854775807 := by unfold maxLen at hm; exact hm
    have hC : Try.prog.cellsOf 97 = 1 := by kernel_rfl
    have hspot : 0 < len → y.spot = none := fun h0 => by
      obtain ⟨cs', hc, _⟩ := hi 0 (by rw [hmm]; simp; omega)
      rw [hC] at hc
      obtain ⟨_, hcl, hat⟩ := World.cells?_some hc
      have e0 := hat 0 (by omega)
      rw [List.getElem?_eq_getElem (by omega)] at e0
      simpa [Addr.add] using World.cell?_spot e0
    have key : ∀ i, i < len → ∃ z : Nat, (∃ b o, (some y : Option Addr) = some ⟨b, o, none⟩ ∧ W.cell? ⟨b, o + i, none⟩ = some (.int .u16 z)) ∧ z < 2 ^ 16 := by
      intro i hlt
      obtain ⟨cs', hc, ht⟩ := hi i (by rw [hmm]; simp; omega)
      rw [hC] at hc
      obtain ⟨_, hcl, hat⟩ := World.cells?_some hc
      match cs', hcl with
      | [c0], _ =>
        obtain ⟨z, hz, _, hw⟩ := DataW.trod_int Try.underlying97 ht
        obtain ⟨m, rfl, hb⟩ := wf_u16 hw
        simp at hz
        subst hz
        have e0 := hat 0 (by omega)
        simp at e0
        obtain ⟨b, o, spot⟩ := y
        have hsp : spot = none := hspot (by omega)
        subst hsp
        simp only [Addr.add_lit] at e0
        exact ⟨m, ⟨b, o, rfl, by simpa using e0⟩, hb⟩
    obtain ⟨ll, hll, hp⟩ := list_of _ len key
    refine ⟨ll, ⟨fun i s hs => ?_, by rw [List.length_map]; omega⟩, hll, fun s hs => ?_, hl, hm'⟩
    · rw [List.getElem?_map, Option.map_eq_some_iff] at hs
      obtain ⟨q, hq, rfl⟩ := hs
      exact (hp i q hq).1
    · obtain ⟨i, hi2⟩ := List.mem_iff_getElem?.1 hs
      exact (hp i s hi2).2
set_option maxRecDepth 100000 in
theorem u8s_open6 {a : Option Addr} {len cap : Nat} {d : DataW H} {p : List MemPlace} (h : DataW.Trod enc Try.prog W 0 (fun _ => true) true 72 (.slice a len cap) d p) : ∃ l, NumS .u8 8 W a len cap l := by
  obtain ⟨fuel, hf⟩ := h
  rcases open_slice Try.underlying72 hf with ⟨hcs, _⟩ | ⟨y, l, cp, m, n, D, Pl, hcs, _, hl, hm, hmm, _, hi⟩
  · simp [Value.cells] at hcs
    obtain ⟨rfl, rfl, rfl⟩ := hcs
    exact ⟨[], ⟨by simp, by simp⟩, rfl, by simp, by omega, by omega⟩
  · simp [Value.cells] at hcs
    obtain ⟨rfl, rfl, rfl⟩ := hcs
    have hm' : cap ≤ 9223372036854775807 := by unfold maxLen at hm; exact hm
    have hC : Try.prog.cellsOf 5 = 1 := by kernel_rfl
    have hspot : 0 < len → y.spot = none := fun h0 => by
      obtain ⟨cs', hc, _⟩ := hi 0 (by rw [hmm]; simp; omega)
      rw [hC] at hc
      obtain ⟨_, hcl, hat⟩ := World.cells?_some hc
      have e0 := hat 0 (by omega)
      rw [List.getElem?_eq_getElem (by omega)] at e0
      simpa [Addr.add] using World.cell?_spot e0
    have key : ∀ i, i < len → ∃ z : Nat, (∃ b o, (some y : Option Addr) = some ⟨b, o, none⟩ ∧ W.cell? ⟨b, o + i, none⟩ = some (.int .u8 z)) ∧ z < 2 ^ 8 := by
      intro i hlt
      obtain ⟨cs', hc, ht⟩ := hi i (by rw [hmm]; simp; omega)
      rw [hC] at hc
      obtain ⟨_, hcl, hat⟩ := World.cells?_some hc
      match cs', hcl with
      | [c0], _ =>
        obtain ⟨z, hz, _, hw⟩ := DataW.trod_int Try.underlying5 ht
        obtain ⟨m, rfl, hb⟩ := wf_u8' hw
        simp at hz
        subst hz
        have e0 := hat 0 (by omega)
        simp at e0
        obtain ⟨b, o, spot⟩ := y
        have hsp : spot = none := hspot (by omega)
        subst hsp
        simp only [Addr.add_lit] at e0
        exact ⟨m, ⟨b, o, rfl, by simpa using e0⟩, hb⟩
    obtain ⟨ll, hll, hp⟩ := list_of _ len key
    refine ⟨ll, ⟨fun i s hs => ?_, by rw [List.length_map]; omega⟩, hll, fun s hs => ?_, hl, hm'⟩
    · rw [List.getElem?_map, Option.map_eq_some_iff] at hs
      obtain ⟨q, hq, rfl⟩ := hs
      exact (hp i q hq).1
    · obtain ⟨i, hi2⟩ := List.mem_iff_getElem?.1 hs
      exact (hp i s hi2).2
set_option maxRecDepth 100000 in
theorem nodes_open {a : Option Addr} {len cap : Nat} {d : DataW H} {p : List MemPlace} (h : DataW.Trod enc Try.prog W 0 (fun _ => true) true 22 (.slice a len cap) d p) : ∃ l, NodeS W a len cap l := by
  obtain ⟨fuel, hf⟩ := h
  rcases open_slice Try.underlying22 hf with ⟨hcs, _⟩ | ⟨x, l, c, m, n, D, Pl, hcs, _, hl, hm, hmm, _, hi⟩
  · simp [Value.cells] at hcs
    obtain ⟨rfl, rfl, rfl⟩ := hcs
    exact ⟨[], rfl, by omega, by omega, by simp, by simp⟩
  · simp [Value.cells] at hcs
    obtain ⟨rfl, rfl, rfl⟩ := hcs
    have hC : Try.prog.cellsOf 69 = 3 := by kernel_rfl
    have hspot : 0 < len → x.spot = none := fun h0 => by
      obtain ⟨cs', hc, _⟩ := hi 0 (by rw [hmm]; simp; omega)
      rw [hC] at hc
      obtain ⟨_, hcl, hat⟩ := World.cells?_some hc
      have e0 := hat 0 (by omega)
      rw [List.getElem?_eq_getElem (by omega)] at e0
      simpa [Addr.add] using World.cell?_spot e0
    have key : ∀ i, i < len → ∃ s : N21, (∃ b o, (some x : Option Addr) = some ⟨b, o, none⟩ ∧ W.cell? ⟨b, o + i * 3, none⟩ = some (.bool s.inp) ∧ W.cell? ⟨b, o + i * 3 + 1, none⟩ = some (.int .i64 s.l) ∧ W.cell? ⟨b, o + i * 3 + 2, none⟩ = some (.int .i64 s.r)) ∧
        (-9223372036854775808 ≤ s.l ∧ s.l ≤ 9223372036854775807) ∧ (-9223372036854775808 ≤ s.r ∧ s.r ≤ 9223372036854775807) := by
      intro i hlt
      obtain ⟨cs', hc, ht⟩ := hi i (by rw [hmm]; simp; omega)
      rw [hC] at hc
      obtain ⟨ys, n', _, _, hlen, _, hfd⟩ := DataW.trod_struct Try.underlying69 ht
      obtain ⟨_, hcl, hat⟩ := World.cells?_some hc
      match cs', hcl with
      | [c0, c1, c2], _ =>
        have f0 := hfd 0 _ rfl
        have f1 := hfd 1 _ rfl
        have f2 := hfd 2 _ rfl
        have hu : Try.prog.cellsOf 4 = 1 := by kernel_rfl
        have hi9 : Try.prog.cellsOf 3 = 1 := by kernel_rfl
        simp only [List.getElem_toArray, List.getElem_cons_zero, List.getElem_cons_succ, hu, hi9, List.drop_zero, List.drop_succ_cons, List.take_succ_cons, List.take_zero] at f0 f1 f2
        have hys : ys.length = 3 := by have := ‹ys.length = _›; simpa using this
        rw [List.getElem?_eq_getElem (by omega)] at f0 f1 f2
        obtain ⟨z0, hz0, _⟩ := DataW.trod_bool Try.underlying4 f0
        obtain ⟨z1, hz1, _, hw1⟩ := DataW.trod_int Try.underlying3 f1
        obtain ⟨z2, hz2, _, hw2⟩ := DataW.trod_int Try.underlying3 f2
        have b1 := wf_i64 hw1
        have b2 := wf_i64 hw2
        simp at hz0 hz1 hz2
        subst hz0 hz1 hz2
        have e0 := hat 0 (by omega)
        have e1 := hat 1 (by omega)
        have e2 := hat 2 (by omega)
        simp at e0 e1 e2
        obtain ⟨b, o, spot⟩ := x
        have hsp : spot = none := hspot (by omega)
        subst hsp
        simp only [Addr.add_lit] at e0 e1 e2
        exact ⟨⟨z0, z1, z2⟩, ⟨b, o, rfl, by simpa using e0, by simpa using e1, by simpa using e2⟩, b1, b2⟩
    obtain ⟨ll, hll, hp⟩ := list_of _ len key
    have idx : ∀ s ∈ ll, ∃ i : Nat, ll[i]? = some s := fun s hs => List.mem_iff_getElem?.1 hs
    exact ⟨ll, hll, hl, by unfold maxLen at hm; exact hm, fun i s hs => (hp i s hs).1, fun s hs => by obtain ⟨i, hi2⟩ := idx s hs; exact (hp i s hi2).2⟩
end
end Go.Proofs.Ytnmfdiiehkkjcaa
namespace Go.Aig
theorem and_c (G : Gra) (a b : Bool) : and G a.toNat b.toNat = (G, (a && b).toNat, 0) := by cases a <;> cases b <;> rfl
theorem neg_c (b : Bool) : neg b.toNat = (!b).toNat := by cases b <;> rfl
theorem rOr_c (G : Gra) (a b : Bool) : rOr G a.toNat b.toNat = (G, (a || b).toNat, 0) := by cases a <;> cases b <;> rfl
theorem rMux_c (G : Gra) (c a b : Bool) : rMux G c.toNat a.toNat b.toNat = (G, (bif c then a else b).toNat, 0) := by cases c <;> cases a <;> cases b <;> rfl
theorem rXor_c (G : Gra) (a b : Bool) : rXor G a.toNat b.toNat = (G, (Bool.xor a b).toNat, 0) := by cases a <;> cases b <;> rfl
/-- a word of constants -/
def crs (l : List Bool) : List Nat := l.map Bool.toNat
def cp (p : Bool × Bool) : Nat × Nat := (p.1.toNat, p.2.toNat)
theorem crs_snoc (l : List Bool) (b : Bool) : crs (l ++ [b]) = crs l ++ [b.toNat] := by simp [crs]
theorem crs_zip (x y : List Bool) : (crs x).zip (crs y) = (x.zip y).map cp := by
  unfold crs cp
  rw [List.zip_map]
  rfl
theorem each_c (G : Gra) (f : Gra → Nat → Nat → Res) (g : Bool → Bool → Bool) (hf : ∀ a b : Bool, f G a.toNat b.toNat = (G, (g a b).toNat, 0)) (l : List (Bool × Bool)) :
    eachF (rop f) (G, 0) (l.map cp) = ((G, 0), crs (l.map fun p => g p.1 p.2)) := by
  have : ∀ (l : List (Bool × Bool)) (acc : List Nat), (l.map cp).foldl (eachS (rop f)) ((G, 0), acc) = ((G, 0), acc ++ crs (l.map fun p => g p.1 p.2)) := by
    intro l
    induction l with
    | nil => intro acc; simp [crs]
    | cons p l ih =>
      intro acc
      rw [List.map_cons, List.foldl_cons]
      have e : eachS (rop f) ((G, 0), acc) (cp p) = ((G, 0), acc ++ [(g p.1 p.2).toNat]) := by
        unfold eachS rop cp
        simp only [hf]
        rfl
      rw [e, ih]
      simp [crs]
  exact this l []
/-- the sum of constants, bit by bit -/
def sB (n : Nat) (q : List Bool × Bool) (p : Bool × Bool) : List Bool × Bool :=
  (q.1 ++ [Bool.xor (Bool.xor p.1 p.2) q.2], if q.1.length + 1 < n then (p.1 && p.2) || (Bool.xor p.1 p.2 && q.2) else q.2)
theorem sum_c (G : Gra) (n : Nat) (l : List (Bool × Bool)) (c : Bool) : sumF n (G, 0) (l.map cp) c.toNat = ((G, 0), crs (l.foldl (sB n) ([], c)).1, (l.foldl (sB n) ([], c)).2.toNat) := by
  have : ∀ (l : List (Bool × Bool)) (acc : List Bool) (c : Bool), (l.map cp).foldl (sumS n) ((G, 0), crs acc, c.toNat) = ((G, 0), crs (l.foldl (sB n) (acc, c)).1, (l.foldl (sB n) (acc, c)).2.toNat) := by
    intro l
    induction l with
    | nil => intro acc c; rfl
    | cons p l ih =>
      intro acc c
      rw [List.map_cons, List.foldl_cons, List.foldl_cons]
      have e : sumS n ((G, 0), crs acc, c.toNat) (cp p) = ((G, 0), crs (sB n (acc, c) p).1, (sB n (acc, c) p).2.toNat) := by
        have hx : sXor (G, 0) p.1.toNat p.2.toNat = ((G, 0), (Bool.xor p.1 p.2).toNat) := by unfold sXor; simp only [rXor_c]; rfl
        have hr : sXor (G, 0) (Bool.xor p.1 p.2).toNat c.toNat = ((G, 0), (Bool.xor (Bool.xor p.1 p.2) c).toNat) := by unfold sXor; simp only [rXor_c]; rfl
        have h1 : sAnd (G, 0) p.1.toNat p.2.toNat = ((G, 0), (p.1 && p.2).toNat) := by unfold sAnd; simp only [and_c]; rfl
        have h2 : sAnd (G, 0) (Bool.xor p.1 p.2).toNat c.toNat = ((G, 0), (Bool.xor p.1 p.2 && c).toNat) := by unfold sAnd; simp only [and_c]; rfl
        have h3 : sOr (G, 0) (p.1 && p.2).toNat (Bool.xor p.1 p.2 && c).toNat = ((G, 0), ((p.1 && p.2) || (Bool.xor p.1 p.2 && c)).toNat) := by unfold sOr; simp only [rOr_c]; rfl
        have hl : (crs acc).length = acc.length := by simp [crs]
        unfold sumS sB cp
        simp only [hx, hr, h1, h2, h3, hl]
        split
        · simp only [crs_snoc]
        · simp only [crs_snoc]
      rw [e, ih]
  exact this l [] c
theorem b_le (b : Bool) : b.toNat ≤ 1 := by cases b <;> decide
theorem sB_len (n : Nat) (c : Bool) (l : List (Bool × Bool)) : (l.foldl (sB n) ([], c)).1.length = l.length := by
  induction l using List.snocRec with
  | nil => rfl
  | snoc l p ih => rw [List.foldl_append]; simp [sB, ih]
theorem full_add (a b c : Bool) : (Bool.xor (Bool.xor a b) c).toNat + 2 * ((a && b) || (Bool.xor a b && c)).toNat = a.toNat + b.toNat + c.toNat := by cases a <;> cases b <;> cases c <;> rfl
theorem sB_val (n : Nat) (c : Bool) (l : List (Bool × Bool)) (h : l.length < n) : bitsVal (l.foldl (sB n) ([], c)).1 + (l.foldl (sB n) ([], c)).2.toNat * 2 ^ l.length = bitsVal (l.map Prod.fst) + bitsVal (l.map Prod.snd) + c.toNat := by
  induction l using List.snocRec with
  | nil => simp [bitsVal]
  | snoc l p ih =>
    rw [List.length_append] at h
    have ih := ih (by simp at h; omega)
    have hl := sB_len n c l
    rw [List.foldl_append]
    generalize l.foldl (sB n) ([], c) = q at *
    obtain ⟨out, cc⟩ := q
    simp only at ih hl
    simp only [List.foldl_cons, List.foldl_nil, sB, hl, List.map_append, List.map_cons, List.map_nil, List.length_append, List.length_cons, List.length_nil]
    simp at h
    rw [if_pos (by omega)]
    rw [bitsVal_snoc, bitsVal_snoc, bitsVal_snoc, hl, List.length_map, List.length_map, Nat.zero_add, Nat.pow_succ]
    have hf := full_add p.1 p.2 cc
    generalize 2 ^ l.length = P at *
    generalize (Bool.xor (Bool.xor p.1 p.2) cc).toNat = s at *
    generalize ((p.1 && p.2) || (Bool.xor p.1 p.2 && cc)).toNat = t at *
    generalize p.1.toNat = a at *
    generalize p.2.toNat = b at *
    generalize cc.toNat = k at *
    have e : s * P + t * (P * 2) = a * P + b * P + k * P := by
      have : (s + 2 * t) * P = (a + b + k) * P := by rw [hf]
      rw [Nat.add_mul, Nat.add_mul, Nat.add_mul] at this
      rw [show t * (P * 2) = 2 * t * P by rw [Nat.mul_comm P 2, ← Nat.mul_assoc, Nat.mul_comm t 2]]
      exact this
    omega
theorem sB_last (n : Nat) (c : Bool) (l : List (Bool × Bool)) (h : l.length = n) (hn : 1 ≤ n) : bitsVal (l.foldl (sB n) ([], c)).1 = (bitsVal (l.map Prod.fst) + bitsVal (l.map Prod.snd) + c.toNat) % 2 ^ n := by
  have hne : l ≠ [] := by intro e; rw [e] at h; simp at h; omega
  obtain ⟨l', p, rfl⟩ : ∃ l' p, l = l' ++ [p] := ⟨_, _, (List.dropLast_concat_getLast hne).symm⟩
  rw [List.length_append] at h
  simp at h
  have hv := sB_val n c l' (by omega)
  have hl := sB_len n c l'
  have hlt := bitsVal_lt (((l' ++ [p]).foldl (sB n) ([], c)).1)
  rw [sB_len, List.length_append] at hlt
  simp only [List.length_cons, List.length_nil, Nat.zero_add, h] at hlt
  rw [List.foldl_append] at hlt ⊢
  generalize l'.foldl (sB n) ([], c) = q at *
  obtain ⟨out, cc⟩ := q
  simp only at hv hl
  simp only [List.foldl_cons, List.foldl_nil, sB, List.map_append, List.map_cons, List.map_nil] at hlt ⊢
  rw [bitsVal_snoc] at hlt ⊢
  rw [bitsVal_snoc, bitsVal_snoc, hl, List.length_map, List.length_map]
  rw [hl] at hlt
  have hP : 2 ^ n = 2 * 2 ^ l'.length := by rw [← h, Nat.pow_succ, Nat.mul_comm]
  rw [hP] at hlt ⊢
  have hf := full_add p.1 p.2 cc
  generalize 2 ^ l'.length = P at *
  generalize (Bool.xor (Bool.xor p.1 p.2) cc).toNat = s at *
  generalize ((p.1 && p.2) || (Bool.xor p.1 p.2 && cc)).toNat = t at *
  generalize p.1.toNat = a at *
  generalize p.2.toNat = b at *
  generalize cc.toNat = k at *
  have e : s * P + t * (2 * P) = a * P + b * P + k * P := by
    have : (s + 2 * t) * P = (a + b + k) * P := by rw [hf]
    rw [Nat.add_mul, Nat.add_mul, Nat.add_mul] at this
    rw [show t * (2 * P) = 2 * t * P by rw [← Nat.mul_assoc, Nat.mul_comm t 2]]
    exact this
  have e2 : bitsVal (l'.map Prod.fst) + a * P + (bitsVal (l'.map Prod.snd) + b * P) + c.toNat = bitsVal out + s * P + t * (2 * P) := by omega
  rw [e2, Nat.mul_comm t (2 * P), Nat.add_mul_mod_self_left, Nat.mod_eq_of_lt hlt]
/-- less than, of constants -/
def lB (o : Bool) (p : Bool × Bool) : Bool := bif Bool.xor p.1 p.2 then p.2 else o
theorem lt_c (G : Gra) (l : List (Bool × Bool)) : ltF (G, 0) (l.map cp) = ((G, 0), (l.foldl lB false).toNat) := by
  have : ∀ (l : List (Bool × Bool)) (o : Bool), (l.map cp).foldl ltS ((G, 0), o.toNat) = ((G, 0), (l.foldl lB o).toNat) := by
    intro l
    induction l with
    | nil => intro o; rfl
    | cons p l ih =>
      intro o
      rw [List.map_cons, List.foldl_cons, List.foldl_cons]
      have e : ltS ((G, 0), o.toNat) (cp p) = ((G, 0), (lB o p).toNat) := by
        have hx : sXor (G, 0) p.1.toNat p.2.toNat = ((G, 0), (Bool.xor p.1 p.2).toNat) := by unfold sXor; simp only [rXor_c]; rfl
        have hm : sMux (G, 0) (Bool.xor p.1 p.2).toNat p.2.toNat o.toNat = ((G, 0), (bif Bool.xor p.1 p.2 then p.2 else o).toNat) := by unfold sMux; simp only [rMux_c]; rfl
        unfold ltS cp
        simp only [hx, hm]
        rfl
      rw [e, ih]
  exact this l false
theorem lB_val (l : List (Bool × Bool)) : l.foldl lB false = decide (bitsVal (l.map Prod.fst) < bitsVal (l.map Prod.snd)) := by
  induction l using List.snocRec with
  | nil => rfl
  | snoc l p ih =>
    rw [List.foldl_append, ih]
    simp only [List.foldl_cons, List.foldl_nil, List.map_append, List.map_cons, List.map_nil]
    rw [bitsVal_snoc, bitsVal_snoc, List.length_map, List.length_map]
    have h1 := bitsVal_lt (l.map Prod.fst)
    have h2 := bitsVal_lt (l.map Prod.snd)
    rw [List.length_map] at h1 h2
    unfold lB
    generalize bitsVal (l.map Prod.fst) = x at *
    generalize bitsVal (l.map Prod.snd) = y at *
    generalize 2 ^ l.length = P at *
    obtain ⟨a, b⟩ := p
    cases a <;> cases b <;> simp <;> omega
theorem rAllFrom_c (G : Gra) : ∀ (l : List Bool) (o : Bool), rAllFrom G G o.toNat (crs l) = (G, (o && l.all id).toNat, 0)
  | [], o => by simp [crs, rAllFrom]
  | b :: l, o => by
    have h := and_c G o b
    show (if (and G o.toNat b.toNat).2.2 ≠ 0 then (G, 0, (and G o.toNat b.toNat).2.2) else rAllFrom G (and G o.toNat b.toNat).1 (and G o.toNat b.toNat).2.1 (crs l)) = _
    rw [h]
    simp only [ne_eq, not_true_eq_false, if_false]
    rw [rAllFrom_c G l]
    simp [Bool.and_assoc]
theorem all_not : ∀ l : List Bool, (l.map not).all id = !(l.any id)
  | [] => rfl
  | b :: l => by
    rw [List.map_cons, List.all_cons, List.any_cons, all_not l]
    cases b <;> rfl
theorem rAny_c (G : Gra) (l : List Bool) : rAny G (crs l) = (G, (l.any id).toNat, 0) := by
  have hn : (crs l).map neg = crs (l.map not) := by
    unfold crs
    rw [List.map_map, List.map_map]
    exact List.map_congr_left (fun b _ => neg_c b)
  have h := rAllFrom_c G (l.map not) true
  have h2 : rAll G ((crs l).map neg) = (G, ((l.map not).all id).toNat, 0) := by
    rw [hn]
    unfold rAll
    have := h
    simp only [Bool.true_and] at this
    exact this
  unfold rAny
  rw [h2]
  simp only [ne_eq, not_true_eq_false, if_false, neg_c]
  rw [all_not, Bool.not_not]
theorem any_val (l : List Bool) : l.any id = decide (bitsVal l ≠ 0) := by
  induction l with
  | nil => rfl
  | cons b l ih =>
    rw [List.any_cons, ih]
    show (b || decide (bitsVal l ≠ 0)) = decide (b.toNat + 2 * bitsVal l ≠ 0)
    cases b <;> simp <;> omega
theorem bitsVal_inj : ∀ {x y : List Bool}, x.length = y.length → bitsVal x = bitsVal y → x = y
  | [], [], _, _ => rfl
  | [], _ :: _, h, _ => by simp at h
  | _ :: _, [], h, _ => by simp at h
  | a :: x, b :: y, h, e => by
    have e : a.toNat + 2 * bitsVal x = b.toNat + 2 * bitsVal y := e
    have ha := b_le a
    have hb := b_le b
    have h1 : a.toNat = b.toNat := by omega
    have h2 : bitsVal x = bitsVal y := by omega
    rw [bitsVal_inj (by simpa using h) h2]
    congr 1
    cases a <;> cases b <;> simp at h1 ⊢
theorem not_val (l : List Bool) : bitsVal (l.map not) = 2 ^ l.length - 1 - bitsVal l := by
  induction l with
  | nil => rfl
  | cons b l ih =>
    have h := bitsVal_lt l
    show (!b).toNat + 2 * bitsVal (l.map not) = 2 ^ (l.length + 1) - 1 - (b.toNat + 2 * bitsVal l)
    rw [ih, Nat.pow_succ]
    cases b <;> simp <;> omega
theorem bitsVal_bit : ∀ (l : List Bool) (i : Nat), (bitsVal l).testBit i = l.getD i false
  | [], i => by simp [bitsVal]
  | b :: l, 0 => by
    show (b.toNat + 2 * bitsVal l).testBit 0 = b
    rw [Nat.testBit_zero]
    cases b <;> simp <;> omega
  | b :: l, i + 1 => by
    show (b.toNat + 2 * bitsVal l).testBit (i + 1) = _
    rw [Nat.testBit_succ, show (b.toNat + 2 * bitsVal l) / 2 = bitsVal l by have := b_le b; omega, bitsVal_bit l i]
    simp
theorem bits_val (a w : Nat) : bitsVal ((List.range w).map fun i => a.testBit i) = a % 2 ^ w := by
  apply Nat.eq_of_testBit_eq
  intro i
  rw [bitsVal_bit, Nat.testBit_mod_two_pow, List.getD_eq_getElem?_getD, List.getElem?_map]
  by_cases h : i < w
  · rw [List.getElem?_range h]; simp [h]
  · rw [List.getElem?_eq_none (by simp; omega)]; simp [h]
end Go.Aig
namespace Go.Aig
def neg32 (x : Nat) : Nat := (4294967296 - x) % 4294967296
def add32 (x y : Nat) : Nat := (x + y) % 4294967296
def sub32 (x y : Nat) : Nat := (x + 4294967296 - y) % 4294967296
/-- what an operation does of two words below a greatest one, before it is cut (three of its arms are handed in: the kernel must not open them) -/
def opW (f2 : Nat → Nat) (f3 f4 : Nat → Nat → Nat) (op x y m : Nat) : Nat := match op with
  | 1 => m - x
  | 2 => f2 x
  | 3 => f3 x y
  | 4 => f4 x y
  | 8 => x &&& y
  | 9 => x ||| y
  | 10 => x ^^^ y
  | 13 => (x == y).toNat
  | 14 => (!(x == y)).toNat
  | 15 => (decide (x < y)).toNat
  | 16 => (decide (x ≤ y)).toNat
  | _ => 0
def opV (op x y m : Nat) : Nat := opW neg32 add32 sub32 op x y m
theorem opW_1 (f2 : Nat → Nat) (f3 f4 : Nat → Nat → Nat) (x y m : Nat) : opW f2 f3 f4 1 x y m = m - x := rfl
theorem opW_2 (f2 : Nat → Nat) (f3 f4 : Nat → Nat → Nat) (x y m : Nat) : opW f2 f3 f4 2 x y m = f2 x := rfl
theorem opW_3 (f2 : Nat → Nat) (f3 f4 : Nat → Nat → Nat) (x y m : Nat) : opW f2 f3 f4 3 x y m = f3 x y := rfl
theorem opW_4 (f2 : Nat → Nat) (f3 f4 : Nat → Nat → Nat) (x y m : Nat) : opW f2 f3 f4 4 x y m = f4 x y := rfl
theorem opW_8 (f2 : Nat → Nat) (f3 f4 : Nat → Nat → Nat) (x y m : Nat) : opW f2 f3 f4 8 x y m = x &&& y := rfl
theorem opW_9 (f2 : Nat → Nat) (f3 f4 : Nat → Nat → Nat) (x y m : Nat) : opW f2 f3 f4 9 x y m = x ||| y := rfl
theorem opW_10 (f2 : Nat → Nat) (f3 f4 : Nat → Nat → Nat) (x y m : Nat) : opW f2 f3 f4 10 x y m = x ^^^ y := rfl
theorem opW_13 (f2 : Nat → Nat) (f3 f4 : Nat → Nat → Nat) (x y m : Nat) : opW f2 f3 f4 13 x y m = (x == y).toNat := rfl
theorem opW_14 (f2 : Nat → Nat) (f3 f4 : Nat → Nat → Nat) (x y m : Nat) : opW f2 f3 f4 14 x y m = (!(x == y)).toNat := rfl
theorem opW_15 (f2 : Nat → Nat) (f3 f4 : Nat → Nat → Nat) (x y m : Nat) : opW f2 f3 f4 15 x y m = (decide (x < y)).toNat := rfl
theorem opW_16 (f2 : Nat → Nat) (f3 f4 : Nat → Nat → Nat) (x y m : Nat) : opW f2 f3 f4 16 x y m = (decide (x ≤ y)).toNat := rfl
theorem opV_1 (x y m : Nat) : opV 1 x y m = m - x := opW_1 neg32 add32 sub32 x y m
theorem opV_2 (x y m : Nat) : opV 2 x y m = neg32 x := opW_2 neg32 add32 sub32 x y m
theorem opV_3 (x y m : Nat) : opV 3 x y m = add32 x y := opW_3 neg32 add32 sub32 x y m
theorem opV_4 (x y m : Nat) : opV 4 x y m = sub32 x y := opW_4 neg32 add32 sub32 x y m
theorem opV_8 (x y m : Nat) : opV 8 x y m = x &&& y := opW_8 neg32 add32 sub32 x y m
theorem opV_9 (x y m : Nat) : opV 9 x y m = x ||| y := opW_9 neg32 add32 sub32 x y m
theorem opV_10 (x y m : Nat) : opV 10 x y m = x ^^^ y := opW_10 neg32 add32 sub32 x y m
theorem opV_13 (x y m : Nat) : opV 13 x y m = (x == y).toNat := opW_13 neg32 add32 sub32 x y m
theorem opV_14 (x y m : Nat) : opV 14 x y m = (!(x == y)).toNat := opW_14 neg32 add32 sub32 x y m
theorem opV_15 (x y m : Nat) : opV 15 x y m = (decide (x < y)).toNat := opW_15 neg32 add32 sub32 x y m
theorem opV_16 (x y m : Nat) : opV 16 x y m = (decide (x ≤ y)).toNat := opW_16 neg32 add32 sub32 x y m
/-- what Apply returns -/
def applyV (op w x y : Nat) : Nat := opV op (x &&& (2 ^ w - 1)) (y &&& (2 ^ w - 1)) (2 ^ w - 1) &&& (2 ^ w - 1)
end Go.Aig
namespace Go.Proofs.Ytnmfdiiehkkjcaa
open Go.RowKit Go.Mem Go.Aig
def Stop (p : Prop) : Prop := p
theorem wpList_store_one {P : Program} {ops : Array Oper} {o : Oper} {a : Act} {w w' : World} {Q : Exit → Act → World → Prop} (t : TypeId) (p v : Operand) (vp vv : Value) (hg : o.guard = none) (ho : o.op = .store t p v)
    (h : (Instr.storeAt t vp vv).run P w = .ok () w') (hp : Stop (a.eval p = vp)) (hv : Stop (a.eval v = vv)) (hn : Stop (wpList P ops Q [] (a.put o.dst undef) w')) : wpList P ops Q [o] a w :=
  wpList_plain hg fun _ hK => by
    unfold Stop at hp hv hn
    unfold Oper.wp execOp
    simp only [ho, Sem.run_bind, Sem.run_pure, Result.andThen_ok, hp, hv, h]
    exact hK _ _ hn
section
variable {w : World}
set_option maxRecDepth 100000 in
set_option maxHeartbeats 4000000 in
theorem table_is : Calls Try.prog 129 #[] w fun e w' => e = .returned (.agg #[.string ⟨#[]⟩, .int .i64 0, .bool false, .nilFunc, .string ⟨#[126]⟩, .int .i64 0, .bool false, .func (.func 173) #[] #[], .string ⟨#[45]⟩, .int .i64 0, .bool false, .func (.func 174) #[] #[], .string ⟨#[43]⟩, .int .i64 5, .bool false, .func (.func 175) #[] #[], .string ⟨#[45]⟩, .int .i64 5, .bool false, .func (.func 176) #[] #[], .string ⟨#[42]⟩, .int .i64 6, .bool false, .func (.func 177) #[] #[], .string ⟨#[47]⟩, .int .i64 6, .bool false, .func (.func 178) #[] #[], .string ⟨#[37]⟩, .int .i64 6, .bool false, .func (.func 179) #[] #[], .string ⟨#[38]⟩, .int .i64 2, .bool false, .func (.func 180) #[] #[], .string ⟨#[124]⟩, .int .i64 1, .bool false, .func (.func 181) #[] #[], .string ⟨#[94]⟩, .int .i64 1, .bool false, .func (.func 182) #[] #[], .string ⟨#[60, 60]⟩, .int .i64 4, .bool false, .func (.func 183) #[] #[], .string ⟨#[62, 62]⟩, .int .i64 4, .bool false, .func (.func 184) #[] #[], .string ⟨#[61, 61]⟩, .int .i64 3, .bool true, .func (.func 185) #[] #[], .string ⟨#[33, 61]⟩, .int .i64 3, .bool true, .func (.func 187) #[] #[], .string ⟨#[60]⟩, .int .i64 3, .bool true, .func (.func 188) #[] #[], .string ⟨#[60, 61]⟩, .int .i64 3, .bool true, .func (.func 189) #[] #[]]) ∧ Ch [] w w' := by
  have hs1 := run_storeAt_new (P := Try.prog) w 182 Try.zeroCells182 #[.string ⟨#[]⟩, .int .i64 0, .bool false, .nilFunc, .string ⟨#[126]⟩, .int .i64 0, .bool false, .func (.func 173) #[] #[], .string ⟨#[45]⟩, .int .i64 0, .bool false, .func (.func 174) #[] #[], .string ⟨#[43]⟩, .int .i64 5, .bool false, .func (.func 175) #[] #[], .string ⟨#[45]⟩, .int .i64 5, .bool false, .func (.func 176) #[] #[], .string ⟨#[42]⟩, .int .i64 6, .bool false, .func (.func 177) #[] #[], .string ⟨#[47]⟩, .int .i64 6, .bool false, .func (.func 178) #[] #[], .string ⟨#[37]⟩, .int .i64 6, .bool false, .func (.func 179) #[] #[], .string ⟨#[38]⟩, .int .i64 2, .bool false, .func (.func 180) #[] #[], .string ⟨#[124]⟩, .int .i64 1, .bool false, .func (.func 181) #[] #[], .string ⟨#[94]⟩, .int .i64 1, .bool false, .func (.func 182) #[] #[], .string ⟨#[60, 60]⟩, .int .i64 4, .bool false, .func (.func 183) #[] #[], .string ⟨#[62, 62]⟩, .int .i64 4, .bool false, .func (.func 184) #[] #[], .string ⟨#[61, 61]⟩, .int .i64 3, .bool true, .func (.func 185) #[] #[], .string ⟨#[33, 61]⟩, .int .i64 3, .bool true, .func (.func 187) #[] #[], .string ⟨#[60]⟩, .int .i64 3, .bool true, .func (.func 188) #[] #[], .string ⟨#[60, 61]⟩, .int .i64 3, .bool true, .func (.func 189) #[] #[]] (by kernel_rfl) (by kernel_rfl) (by kernel_rfl)
  go_enter Try.func129, Try.ntmps129
  go_wp2_with (refine wpList_store_one 182 (.tmp 0) (.tmp 18) _ _ rfl rfl hs1 ?_ ?_ ?_)
  · unfold Stop
    exact trivial
  · unfold Stop
    kernel_rfl
  · unfold Stop
    go_wp2_with fail
    exact bodyPost_ret (results_cell_row (d := .array 17 181) rfl _ _ w.heap.size 182 #[.string ⟨#[]⟩, .int .i64 0, .bool false, .nilFunc, .string ⟨#[126]⟩, .int .i64 0, .bool false, .func (.func 173) #[] #[], .string ⟨#[45]⟩, .int .i64 0, .bool false, .func (.func 174) #[] #[], .string ⟨#[43]⟩, .int .i64 5, .bool false, .func (.func 175) #[] #[], .string ⟨#[45]⟩, .int .i64 5, .bool false, .func (.func 176) #[] #[], .string ⟨#[42]⟩, .int .i64 6, .bool false, .func (.func 177) #[] #[], .string ⟨#[47]⟩, .int .i64 6, .bool false, .func (.func 178) #[] #[], .string ⟨#[37]⟩, .int .i64 6, .bool false, .func (.func 179) #[] #[], .string ⟨#[38]⟩, .int .i64 2, .bool false, .func (.func 180) #[] #[], .string ⟨#[124]⟩, .int .i64 1, .bool false, .func (.func 181) #[] #[], .string ⟨#[94]⟩, .int .i64 1, .bool false, .func (.func 182) #[] #[], .string ⟨#[60, 60]⟩, .int .i64 4, .bool false, .func (.func 183) #[] #[], .string ⟨#[62, 62]⟩, .int .i64 4, .bool false, .func (.func 184) #[] #[], .string ⟨#[61, 61]⟩, .int .i64 3, .bool true, .func (.func 185) #[] #[], .string ⟨#[33, 61]⟩, .int .i64 3, .bool true, .func (.func 187) #[] #[], .string ⟨#[60]⟩, .int .i64 3, .bool true, .func (.func 188) #[] #[], .string ⟨#[60, 61]⟩, .int .i64 3, .bool true, .func (.func 189) #[] #[]] (0, 0) (by kernel_rfl) (heap_alloc_last w _) (by kernel_rfl) rfl (by kernel_rfl)) rfl ⟨rfl, (Ch.refl _ w).alloc _⟩
end
end Go.Proofs.Ytnmfdiiehkkjcaa
namespace Go.Aig
def opsL : List Nat := [1, 2, 8, 9, 10, 3, 4, 13, 14, 15, 16]
theorem nats_crs (X : List Bool) : nats (natInts (crs X)) = crs X := by
  unfold nats natInts
  exact Go.Proofs.Ytnmfdiiehkkjcaa.toNats (crs X)
theorem crs_len (X : List Bool) : (crs X).length = X.length := by simp [crs]
theorem natInts_crs_len (X : List Bool) : (natInts (crs X)).length = X.length := by simp [natInts, crs]
theorem crs_neg (X : List Bool) : (crs X).map neg = crs (X.map not) := by
  unfold crs
  rw [List.map_map, List.map_map]
  exact List.map_congr_left (fun b _ => neg_c b)
theorem badIn_c {G : Gra} (hG : Ok G) (X : List Bool) : badIn G (natInts (crs X)) = false := by
  unfold badIn
  rw [List.any_eq_false]
  intro r hr
  unfold natInts crs at hr
  rw [List.map_map] at hr
  obtain ⟨b, _, rfl⟩ := List.mem_map.1 hr
  have := hG.wf.pos
  have := b_le b
  simp [right]; omega
theorem chk2_c {G : Gra} (hG : Ok G) {X Y : List Bool} {w : Nat} (hx : X.length = w) (hy : Y.length = w) (h1 : 1 ≤ w) (h16 : w ≤ 16) : chk G [natInts (crs X), natInts (crs Y)] = 0 := by
  have h : rightW (w : Int) = true := by unfold rightW; simp; omega
  unfold chk
  simp only [List.any_cons, List.any_nil, Bool.or_false, List.headD_cons, badIn_c hG, badAs, natInts_crs_len, hx, hy, h]
  simp
theorem chk1_c {G : Gra} (hG : Ok G) {X : List Bool} {w : Nat} (hx : X.length = w) (h1 : 1 ≤ w) (h16 : w ≤ 16) : chk G [natInts (crs X)] = 0 := by
  have h : rightW (w : Int) = true := by unfold rightW; simp; omega
  unfold chk
  simp only [List.any_cons, List.any_nil, Bool.or_false, List.headD_cons, badIn_c hG, badAs, natInts_crs_len, hx, h]
  simp
theorem wordG_c {G : Gra} {ws : List (List Int)} (h : chk G ws = 0) (l : List Nat) : wordG G ws ((G, 0), l) = (G, l, 0) := by
  unfold wordG wres
  rw [if_neg (by simp [h]), if_neg (by simp)]
theorem refG_c {G : Gra} {ws : List (List Int)} (h : chk G ws = 0) (r : Nat) : refG G ws ((G, 0), r) = (G, r, 0) := by
  unfold refG rres
  rw [if_neg (by simp [h]), if_neg (by simp)]
theorem negG_c (G : Gra) (b : Bool) : negG (G, b.toNat, 0) = (G, (!b).toNat, 0) := by
  unfold negG
  rw [if_neg (by simp), neg_c]
theorem mask_eq (a w : Nat) : a &&& (2 ^ w - 1) = a % 2 ^ w := Nat.and_two_pow_sub_one_eq_mod a w
theorem fst_zip {X Y : List Bool} (h : X.length = Y.length) : (X.zip Y).map Prod.fst = X := List.map_fst_zip (by omega)
theorem snd_zip {X Y : List Bool} (h : X.length = Y.length) : (X.zip Y).map Prod.snd = Y := List.map_snd_zip (by omega)
theorem sumW_c {G : Gra} {X Y : List Bool} {w : Nat} (hx : X.length = w) (hy : Y.length = w) (h1 : 1 ≤ w) (c : Bool) : ∃ B : List Bool, sumW w (G, 0) ((crs X).zip (crs Y)) c.toNat = ((G, 0), crs B) ∧ B.length = w ∧ bitsVal B = (bitsVal X + bitsVal Y + c.toNat) % 2 ^ w := by
  have hl : (X.zip Y).length = w := by rw [List.length_zip]; omega
  refine ⟨((X.zip Y).foldl (sB w) ([], c)).1, ?_, by rw [sB_len]; exact hl, ?_⟩
  · unfold sumW
    rw [crs_zip, sum_c]
  · rw [sB_last w c _ hl h1, fst_zip (by omega), snd_zip (by omega)]
theorem zip_val (g : Bool → Bool → Bool) (hg : g false false = false) (X Y : List Bool) (h : X.length = Y.length) (i : Nat) : (bitsVal ((X.zip Y).map fun p => g p.1 p.2)).testBit i = g ((bitsVal X).testBit i) ((bitsVal Y).testBit i) := by
  rw [bitsVal_bit, bitsVal_bit, bitsVal_bit, List.getD_eq_getElem?_getD, List.getD_eq_getElem?_getD, List.getD_eq_getElem?_getD, List.getElem?_map]
  by_cases hi : i < X.length
  · rw [List.getElem?_eq_getElem hi, List.getElem?_eq_getElem (show i < Y.length by omega), List.getElem?_eq_getElem (show i < (X.zip Y).length by rw [List.length_zip]; omega)]
    simp
  · rw [List.getElem?_eq_none (show X.length ≤ i by omega), List.getElem?_eq_none (show Y.length ≤ i by omega), List.getElem?_eq_none (show (X.zip Y).length ≤ i by rw [List.length_zip]; omega)]
    simp [hg]
theorem pow32 {w : Nat} (h : w ≤ 16) : ∃ Q, 4294967296 = 2 ^ w * Q ∧ 1 ≤ Q := ⟨2 ^ (32 - w), by rw [← Nat.pow_add, show w + (32 - w) = 32 by omega], Nat.one_le_two_pow⟩
theorem ne_c {G : Gra} (hG : Ok G) {X Y : List Bool} {w : Nat} (hx : X.length = w) (hy : Y.length = w) (h1 : 1 ≤ w) (h16 : w ≤ 16) : refG G [natInts (crs X), natInts (crs Y)] (neF (G, 0) ((nats (natInts (crs X))).zip (nats (natInts (crs Y))))) = (G, (!(bitsVal X == bitsVal Y)).toNat, 0) := by
  rw [nats_crs, nats_crs]
  have e : neF (G, 0) ((crs X).zip (crs Y)) = ((G, 0), (!(bitsVal X == bitsVal Y)).toNat) := by
    unfold neF sAny
    rw [crs_zip, each_c G rXor Bool.xor (rXor_c G)]
    simp only [rAny_c]
    show ((G, 0), (((X.zip Y).map fun p => Bool.xor p.1 p.2).any id).toNat) = _
    rw [any_val]
    congr 2
    by_cases h : bitsVal X = bitsVal Y
    · have hxy := bitsVal_inj (by omega) h
      subst hxy
      have h0 : bitsVal ((X.zip X).map fun p => Bool.xor p.1 p.2) = 0 := by
        apply Nat.eq_of_testBit_eq
        intro i
        rw [zip_val Bool.xor rfl X X rfl]
        simp
      rw [h0]; simp
    · have h0 : bitsVal ((X.zip Y).map fun p => Bool.xor p.1 p.2) ≠ 0 := fun e => h (by
        apply Nat.eq_of_testBit_eq
        intro i
        have := zip_val Bool.xor rfl X Y (by omega) i
        rw [e, Nat.zero_testBit] at this
        cases hq : (bitsVal X).testBit i <;> cases hr : (bitsVal Y).testBit i <;> rw [hq, hr] at this <;> simp at this ⊢)
      have h2 : (bitsVal X == bitsVal Y) = false := by rw [beq_eq_false_iff_ne]; exact h
      rw [h2, decide_eq_true h0]; rfl
  rw [e]
  exact refG_c (chk2_c hG hx hy h1 h16) _
theorem ltR_c {G : Gra} (hG : Ok G) {X Y : List Bool} {w : Nat} (hx : X.length = w) (hy : Y.length = w) (h1 : 1 ≤ w) (h16 : w ≤ 16) : refG G [natInts (crs X), natInts (crs Y)] (ltF (G, 0) ((nats (natInts (crs X))).zip (nats (natInts (crs Y))))) = (G, (decide (bitsVal X < bitsVal Y)).toNat, 0) := by
  rw [nats_crs, nats_crs, crs_zip, lt_c, lB_val, fst_zip (by omega), snd_zip (by omega)]
  exact refG_c (chk2_c hG hx hy h1 h16) _
/-- what an operation makes of constants -/
structure OpC (i : Nat) (G : Gra) (X Y : List Bool) (w : Nat) (B : List Bool) : Prop where
  made : mkOp i G (natInts (crs X)) (natInts (crs Y)) = (G, crs B, 0)
  val : bitsVal B = opV (opsL.getD i 0) (bitsVal X) (bitsVal Y) (2 ^ w - 1) &&& (2 ^ w - 1)
  len : 1 ≤ B.length ∧ B.length ≤ 16
theorem bit_mask {w : Nat} (h : 1 ≤ w) (b : Bool) : b.toNat &&& (2 ^ w - 1) = b.toNat := by
  rw [mask_eq]
  have : 2 ^ 1 ≤ 2 ^ w := Nat.pow_le_pow_right (by omega) h
  have := b_le b
  exact Nat.mod_eq_of_lt (by omega)
theorem bit_val (b : Bool) : bitsVal [b] = b.toNat := by simp [bitsVal]
theorem mkOp_c {G : Gra} (hG : Ok G) {X Y : List Bool} {w : Nat} (hx : X.length = w) (hy : Y.length = w) (h1 : 1 ≤ w) (h16 : w ≤ 16) (i : Nat) (hi : i < 11) : ∃ B, OpC i G X Y w B := by
  have hX := bitsVal_lt X
  have hY := bitsVal_lt Y
  rw [hx] at hX
  rw [hy] at hY
  have hc2 := chk2_c hG hx hy h1 h16
  obtain ⟨Q, hQ, hQ1⟩ := pow32 h16
  have hP : 0 < 2 ^ w := Nat.two_pow_pos w
  match i, hi with
  | 0, _ =>
    refine ⟨X.map not, ?_, ?_, by simp; omega⟩
    · rw [mkOp_0, nats_crs, crs_neg]
      exact wordG_c (chk1_c hG hx h1 h16) _
    · rw [show opsL.getD 0 0 = 1 from rfl, opV_1]
      rw [not_val, hx, mask_eq]
      show _ = (2 ^ w - 1 - bitsVal X) % 2 ^ w
      rw [Nat.mod_eq_of_lt (by omega)]
  | 1, _ =>
    have h0 : List.replicate (natInts (crs X)).length (0 : Int) = natInts (crs (List.replicate w false)) := by
      rw [natInts_crs_len, hx]; simp [natInts, crs]
    obtain ⟨B, hB, hl, hv⟩ := sumW_c (G := G) (X := List.replicate w false) (Y := X.map not) (w := w) (by simp) (by simp [hx]) h1 true
    have hz : bitsVal (List.replicate w false) = 0 := by
      apply Nat.eq_of_testBit_eq
      intro j
      rw [bitsVal_bit, List.getD_eq_getElem?_getD, List.getElem?_replicate]
      split <;> simp
    refine ⟨B, ?_, ?_, by omega⟩
    · rw [mkOp_1, h0]
      unfold subG
      rw [nats_crs, nats_crs, natInts_crs_len, List.length_replicate, crs_neg, show (1 : Nat) = (true : Bool).toNat from rfl, hB]
      exact wordG_c (chk2_c hG (by simp) hx h1 h16) _
    · rw [show opsL.getD 1 0 = 2 from rfl, opV_2]
      unfold neg32
      rw [hv, hz, not_val, hx, mask_eq]
      show (0 + (2 ^ w - 1 - bitsVal X) + 1) % 2 ^ w = (4294967296 - bitsVal X) % 4294967296 % 2 ^ w
      rw [hQ, Nat.mod_mul_right_mod, show 0 + (2 ^ w - 1 - bitsVal X) + 1 = 2 ^ w - bitsVal X by omega]
      obtain ⟨q, rfl⟩ : ∃ q, Q = q + 1 := ⟨Q - 1, by omega⟩
      rw [Nat.mul_add, Nat.mul_one, show 2 ^ w * q + 2 ^ w - bitsVal X = (2 ^ w - bitsVal X) + 2 ^ w * q by omega, Nat.add_mul_mod_self_left]
  | 2, _ =>
    refine ⟨(X.zip Y).map fun p => p.1 && p.2, ?_, ?_, by simp [hx, hy]; omega⟩
    · rw [mkOp_2, nats_crs, nats_crs, crs_zip, each_c G and (fun a b => a && b) (and_c G)]
      exact wordG_c hc2 _
    · rw [show opsL.getD 2 0 = 8 from rfl, opV_8]
      show _ = (bitsVal X &&& bitsVal Y) &&& (2 ^ w - 1)
      rw [mask_eq, Nat.mod_eq_of_lt (Nat.and_lt_two_pow _ hY)]
      apply Nat.eq_of_testBit_eq
      intro j
      rw [zip_val (fun a b => a && b) rfl X Y (by omega), Nat.testBit_and]
  | 3, _ =>
    refine ⟨(X.zip Y).map fun p => p.1 || p.2, ?_, ?_, by simp [hx, hy]; omega⟩
    · rw [mkOp_3, nats_crs, nats_crs, crs_zip, each_c G rOr (fun a b => a || b) (rOr_c G)]
      exact wordG_c hc2 _
    · rw [show opsL.getD 3 0 = 9 from rfl, opV_9]
      show _ = (bitsVal X ||| bitsVal Y) &&& (2 ^ w - 1)
      rw [mask_eq, Nat.mod_eq_of_lt (Nat.or_lt_two_pow hX hY)]
      apply Nat.eq_of_testBit_eq
      intro j
      rw [zip_val (fun a b => a || b) rfl X Y (by omega), Nat.testBit_or]
  | 4, _ =>
    refine ⟨(X.zip Y).map fun p => Bool.xor p.1 p.2, ?_, ?_, by simp [hx, hy]; omega⟩
    · rw [mkOp_4, nats_crs, nats_crs, crs_zip, each_c G rXor Bool.xor (rXor_c G)]
      exact wordG_c hc2 _
    · rw [show opsL.getD 4 0 = 10 from rfl, opV_10]
      show _ = (bitsVal X ^^^ bitsVal Y) &&& (2 ^ w - 1)
      rw [mask_eq, Nat.mod_eq_of_lt (Nat.xor_lt_two_pow hX hY)]
      apply Nat.eq_of_testBit_eq
      intro j
      rw [zip_val Bool.xor rfl X Y (by omega), Nat.testBit_xor]
  | 5, _ =>
    obtain ⟨B, hB, hl, hv⟩ := sumW_c (G := G) hx hy h1 false
    refine ⟨B, ?_, ?_, by omega⟩
    · rw [mkOp_5, nats_crs, nats_crs, natInts_crs_len, hx]
      have hB' : sumW w (G, 0) ((crs X).zip (crs Y)) 0 = ((G, 0), crs B) := hB
      rw [hB']
      exact wordG_c hc2 _
    · rw [show opsL.getD 5 0 = 3 from rfl, opV_3]
      unfold add32
      rw [hv, mask_eq]
      show (bitsVal X + bitsVal Y + 0) % 2 ^ w = (bitsVal X + bitsVal Y) % 4294967296 % 2 ^ w
      rw [hQ, Nat.mod_mul_right_mod, Nat.add_zero]
  | 6, _ =>
    obtain ⟨B, hB, hl, hv⟩ := sumW_c (G := G) (X := X) (Y := Y.map not) hx (by simp [hy]) h1 true
    refine ⟨B, ?_, ?_, by omega⟩
    · rw [mkOp_6]
      unfold subG
      rw [nats_crs, nats_crs, natInts_crs_len, hx, crs_neg, show (1 : Nat) = (true : Bool).toNat from rfl, hB]
      exact wordG_c hc2 _
    · rw [show opsL.getD 6 0 = 4 from rfl, opV_4]
      unfold sub32
      rw [hv, not_val, hy, mask_eq]
      show (bitsVal X + (2 ^ w - 1 - bitsVal Y) + 1) % 2 ^ w = (bitsVal X + 4294967296 - bitsVal Y) % 4294967296 % 2 ^ w
      rw [hQ, Nat.mod_mul_right_mod, show bitsVal X + (2 ^ w - 1 - bitsVal Y) + 1 = bitsVal X + 2 ^ w - bitsVal Y by omega]
      obtain ⟨q, rfl⟩ : ∃ q, Q = q + 1 := ⟨Q - 1, by omega⟩
      rw [Nat.mul_add, Nat.mul_one, show bitsVal X + (2 ^ w * q + 2 ^ w) - bitsVal Y = (bitsVal X + 2 ^ w - bitsVal Y) + 2 ^ w * q by omega, Nat.add_mul_mod_self_left]
  | 7, _ =>
    refine ⟨[bitsVal X == bitsVal Y], ?_, ?_, by simp⟩
    · rw [mkOp_7, ne_c hG hx hy h1 h16, negG_c, Bool.not_not]; rfl
    · rw [show opsL.getD 7 0 = 13 from rfl, opV_13]
      rw [bit_val]; exact (bit_mask h1 _).symm
  | 8, _ =>
    refine ⟨[!(bitsVal X == bitsVal Y)], ?_, ?_, by simp⟩
    · rw [mkOp_8, ne_c hG hx hy h1 h16]; rfl
    · rw [show opsL.getD 8 0 = 14 from rfl, opV_14]
      rw [bit_val]; exact (bit_mask h1 _).symm
  | 9, _ =>
    refine ⟨[decide (bitsVal X < bitsVal Y)], ?_, ?_, by simp⟩
    · rw [mkOp_9, ltR_c hG hx hy h1 h16]; rfl
    · rw [show opsL.getD 9 0 = 15 from rfl, opV_15]
      rw [bit_val]; exact (bit_mask h1 _).symm
  | 10, _ =>
    refine ⟨[decide (bitsVal X ≤ bitsVal Y)], ?_, ?_, by simp⟩
    · rw [mkOp_10, ltR_c hG hy hx h1 h16, negG_c]
      rw [show (!decide (bitsVal Y < bitsVal X)) = decide (bitsVal X ≤ bitsVal Y) from by rw [← decide_not]; congr 1; exact propext Nat.not_lt]; rfl
    · rw [show opsL.getD 10 0 = 16 from rfl, opV_16]
      rw [bit_val]; exact (bit_mask h1 _).symm
theorem madeG_c {G : Gra} (hG : Ok G) {X Y : List Bool} {w : Nat} (hx : X.length = w) (hy : Y.length = w) (h1 : 1 ≤ w) (h16 : w ≤ 16) : ∀ n, n ≤ 11 → ∃ Bs : List (List Bool), madeG G (natInts (crs X)) (natInts (crs Y)) n = (G, Bs.map crs, true) ∧ Bs.length = n ∧ ∀ i B, Bs[i]? = some B → OpC i G X Y w B
  | 0, _ => ⟨[], rfl, rfl, by simp⟩
  | n + 1, hn => by
    obtain ⟨Bs, h2, h3, h4⟩ := madeG_c hG hx hy h1 h16 n (by omega)
    obtain ⟨B, hB⟩ := mkOp_c hG hx hy h1 h16 n (by omega)
    refine ⟨Bs ++ [B], ?_, by simp [h3], fun i C hC => ?_⟩
    · rw [madeG_succ, h2]
      unfold madeStep
      simp only [hB.made]
      simp
    · by_cases hi : i < Bs.length
      · rw [List.getElem?_append_left hi] at hC
        exact h4 i C hC
      · have hlt := (List.getElem?_eq_some_iff.1 hC).1
        have : i = Bs.length := by simp at hlt; omega
        subst this
        simp at hC
        subst hC
        rw [h3]; exact hB
end Go.Aig
namespace Go.Aig
/-- bit k is bit i of k, for k below 2^N -/
def pat : Nat → Nat → Nat
  | 0, _ => 0
  | N + 1, i => if i = N then 2 ^ 2 ^ N * (2 ^ 2 ^ N - 1) else 2 ^ 2 ^ N * pat N i + pat N i
theorem pow_pow_succ (N : Nat) : 2 ^ 2 ^ (N + 1) = 2 ^ 2 ^ N * 2 ^ 2 ^ N := by rw [← Nat.pow_add]; congr 1; rw [Nat.pow_succ]; omega
theorem pat_lt : ∀ N i : Nat, pat N i < 2 ^ 2 ^ N
  | 0, _ => by unfold pat; decide
  | N + 1, i => by
    have ih := pat_lt N i
    rw [pow_pow_succ]
    unfold pat
    have hp : 0 < 2 ^ 2 ^ N := Nat.two_pow_pos _
    generalize 2 ^ 2 ^ N = P at *
    obtain ⟨Q, rfl⟩ : ∃ Q, P = Q + 1 := ⟨P - 1, by omega⟩
    split
    · rw [Nat.add_sub_cancel]
      exact Nat.mul_lt_mul_of_pos_left (by omega) hp
    · have := Nat.mul_le_mul_left (Q + 1) (show pat N i ≤ Q by omega)
      rw [Nat.mul_add]
      omega
theorem pat_bit : ∀ N i k : Nat, i < N → k < 2 ^ N → (pat N i).testBit k = k.testBit i
  | 0, i, k, hi, _ => by omega
  | N + 1, i, k, hi, hk => by
    rw [Nat.pow_succ] at hk
    have hlt := pat_lt N i
    unfold pat
    split
    · rename_i e
      subst e
      rw [Nat.testBit_two_pow_mul, Nat.testBit_two_pow_sub_one]
      by_cases h : 2 ^ i ≤ k
      · rw [decide_eq_true h, decide_eq_true (by omega), show k = 2 ^ i * 1 + (k - 2 ^ i) by omega, Nat.testBit_two_pow_mul_add _ (by omega), if_neg (by omega)]
        simp
      · rw [decide_eq_false h, Nat.testBit_lt_two_pow (by omega)]
        simp
    · rename_i e
      rw [Nat.testBit_two_pow_mul_add _ hlt]
      split
      · rename_i h
        exact pat_bit N i k (by omega) h
      · rename_i h
        rw [pat_bit N i (k - 2 ^ N) (by omega) (by omega)]
        conv => rhs; rw [show k = 2 ^ N * 1 + (k - 2 ^ N) by omega, Nat.testBit_two_pow_mul_add _ (by omega), if_pos (by omega)]
def pats (N : Nat) : List Nat := (List.range N).map (pat N)
/-- the words of the nodes, for all assignments of N inputs at once -/
def allV (N : Nat) (ns : List Nd) : List Nat := (wvF (2 ^ 2 ^ N - 1) (pats N) ns).1
theorem pats_bit {N k : Nat} (hk : k < 2 ^ N) : (fun i => ((pats N).getD i 0).testBit k) = asg N k := by
  funext i
  unfold pats asg
  rw [List.getD_eq_getElem?_getD, List.getElem?_map]
  by_cases hi : i < N
  · rw [List.getElem?_range hi, decide_eq_true hi, Bool.true_and]
    exact pat_bit N i k hi hk
  · rw [List.getElem?_eq_none (by simp; omega), decide_eq_false hi, Bool.false_and]
    simp
theorem allV_bit {N k : Nat} (hk : k < 2 ^ N) (ns : List Nd) (r : Nat) : (wref (2 ^ 2 ^ N - 1) (allV N ns) r).testBit k = bv (asg N k) ns r := by
  unfold allV
  rw [wv_bv hk, pats_bit hk]
/-- the values of the inputs for two numbers -/
def givenL (n m a b : Nat) : List Bool := (List.range n).map a.testBit ++ (List.range m).map b.testBit
theorem givenL_len (n m a b : Nat) : (givenL n m a b).length = n + m := by simp [givenL]
theorem given_bit {n m a b : Nat} (ha : a < 2 ^ n) : (fun i => (givenL n m a b).getD i false) = asg (n + m) (2 ^ n * b + a) := by
  funext i
  unfold givenL asg
  rw [List.getD_eq_getElem?_getD, Nat.testBit_two_pow_mul_add _ ha]
  by_cases hi : i < n
  · rw [List.getElem?_append_left (by simpa using hi), List.getElem?_map, List.getElem?_range hi, if_pos hi, decide_eq_true (by omega)]
    rfl
  · rw [List.getElem?_append_right (by simp; omega), List.getElem?_map, if_neg hi]
    simp only [List.length_map, List.length_range]
    by_cases hm : i - n < m
    · rw [List.getElem?_range hm, decide_eq_true (by omega)]
      rfl
    · rw [List.getElem?_eq_none (by simp; omega), decide_eq_false (by omega)]
      rfl
/-- what a word is for an assignment, out of the words for all of them -/
theorem bits_all {n m a b : Nat} {G : Gra} {l : List Nat} (ha : a < 2 ^ n) (hb : b < 2 ^ m) (hbad : badIn G (natInts l) = false) (hi : (inputs G.nodes).length = n + m) :
    Go.Proofs.Ytnmfdiiehkkjcaa.bitsR G (givenL n m a b) (natInts l) = (l.map fun r => (wref (2 ^ 2 ^ (n + m) - 1) (allV (n + m) G.nodes) r).testBit (2 ^ n * b + a), 0) := by
  have hk : 2 ^ n * b + a < 2 ^ (n + m) := by
    rw [Nat.pow_add]
    have := Nat.mul_le_mul_left (2 ^ n) (show b + 1 ≤ 2 ^ m from hb)
    rw [Nat.mul_add] at this
    omega
  unfold Go.Proofs.Ytnmfdiiehkkjcaa.bitsR
  rw [hbad, givenL_len, hi, if_neg (by simp), if_neg (by simp)]
  unfold bsOf
  rw [given_bit ha]
  congr 1
  rw [show nats (natInts l) = l from Go.Proofs.Ytnmfdiiehkkjcaa.toNats l]
  exact List.map_congr_left fun r _ => (allV_bit hk G.nodes r).symm
def isW (n : Nat) (V : List Nat) (op : Nat) (l : List Nat) : Bool :=
  (List.range (2 ^ (n + n))).all fun k => bitsVal (l.map fun r => (wref (2 ^ 2 ^ (n + n) - 1) V r).testBit k) == applyV op n (k % 2 ^ n) (k / 2 ^ n)
def isG (n : Nat) (A : Gra × List (List Nat) × Bool) : Bool :=
  A.2.2 && (inputs A.1.nodes).length == n + n && A.2.1.all (fun l => !badIn A.1 (natInts l) && decide (1 ≤ l.length) && decide (l.length ≤ 16)) && (List.range 11).all fun j => isW n (allV (n + n) A.1.nodes) (opsL.getD j 0) (A.2.1.getD j [])
def isB (n : Nat) : Bool := isG n (madeG (gIn 4000 (2 * n)) (natInts (rIn 0 n)) (natInts (rIn n n)) 11)
set_option maxRecDepth 100000 in
theorem is_all : (List.range 5).all (fun i => isB (i + 1)) = true := by decide +kernel
structure IsF (n : Nat) (G : Gra) (ls : List (List Nat)) : Prop where
  made : madeG (gIn 4000 (2 * n)) (natInts (rIn 0 n)) (natInts (rIn n n)) 11 = (G, ls, true)
  len : ls.length = 11
  small : ∀ (j : Nat) (l : List Nat), ls[j]? = some l → 1 ≤ l.length ∧ l.length ≤ 16
  reads : ∀ (j : Nat) (l : List Nat), ls[j]? = some l → ∀ a b, a < 2 ^ n → b < 2 ^ n → ∃ B, Go.Proofs.Ytnmfdiiehkkjcaa.bitsR G (givenL n n a b) (natInts l) = (B, 0) ∧ B.length = l.length ∧ bitsVal B = applyV (opsL.getD j 0) n a b
theorem is_facts {n : Nat} (h1 : 1 ≤ n) (h5 : n ≤ 5) : ∃ G ls, IsF n G ls := by
  have h := List.all_eq_true.1 is_all (n - 1) (List.mem_range.2 (by omega))
  rw [show n - 1 + 1 = n by omega] at h
  unfold isB at h
  have l1 := madeG_len (gIn 4000 (2 * n)) (natInts (rIn 0 n)) (natInts (rIn n n)) 11
  generalize hA : madeG (gIn 4000 (2 * n)) (natInts (rIn 0 n)) (natInts (rIn n n)) 11 = A at h l1
  obtain ⟨G, ls, o⟩ := A
  unfold isG at h
  simp only [Bool.and_eq_true] at h
  obtain ⟨⟨⟨rfl, hi⟩, hs⟩, hw⟩ := h
  simp only at l1
  have hs2 : ∀ (j : Nat) (l : List Nat), ls[j]? = some l → badIn G (natInts l) = false ∧ 1 ≤ l.length ∧ l.length ≤ 16 := fun j l hl => by
    have := List.all_eq_true.1 hs l (List.mem_of_getElem? hl)
    simp only [Bool.and_eq_true, Bool.not_eq_true', decide_eq_true_eq] at this
    exact ⟨this.1.1, this.1.2, this.2⟩
  refine ⟨G, ls, hA, l1, fun j l hl => (hs2 j l hl).2, fun j l hl a b ha hb => ⟨_, bits_all ha hb (hs2 j l hl).1 (eq_of_beq hi), by simp, ?_⟩⟩
  have hj : j < 11 := by have := (List.getElem?_eq_some_iff.1 hl).1; omega
  have h2 := List.all_eq_true.1 hw j (List.mem_range.2 hj)
  have hg : ls.getD j [] = l := by rw [List.getD_eq_getElem?_getD, hl]; rfl
  have hk : 2 ^ n * b + a < 2 ^ (n + n) := by
    rw [Nat.pow_add]
    have := Nat.mul_le_mul_left (2 ^ n) (show b + 1 ≤ 2 ^ n from hb)
    rw [Nat.mul_add] at this
    omega
  unfold isW at h2
  simp only [hg] at h2
  have h3 := eq_of_beq (List.all_eq_true.1 h2 _ (List.mem_range.2 hk))
  rw [h3]
  have hp2 : 0 < 2 ^ n := Nat.two_pow_pos n
  rw [show (2 ^ n * b + a) % 2 ^ n = a by rw [Nat.mul_add_mod, Nat.mod_eq_of_lt ha], show (2 ^ n * b + a) / 2 ^ n = b by rw [Nat.mul_add_div hp2, Nat.div_eq_of_lt ha, Nat.add_zero]]
end Go.Aig
namespace Go.Proofs.Ytnmfdiiehkkjcaa
open Go.RowKit Go.Mem Go.Aig
theorem takeN_succ {xs ys : List Nat} {k : Nat} {x y : Nat} (h : xs.take k = ys.take k) (hx : xs[k]? = some x) (hy : ys[k]? = some y) (e : x = y) : xs.take (k + 1) = ys.take (k + 1) := by
  rw [List.take_add_one, List.take_add_one, h, hx, hy, e]
section
variable {w : World}
set_option maxRecDepth 100000 in
set_option maxHeartbeats 1000000 in
theorem EQu64_is {a b : Option Addr} {xs ys : List Nat} (ca cb : Nat) (hx : Sv w a (u64s xs)) (hy : Sv w b (u64s ys)) :
    Calls Try.prog 35 #[.slice a xs.length ca, .slice b ys.length cb] w fun e w' => e = .returned (.bool (decide (xs = ys))) ∧ Ch [] w w' := by
  have hbx : xs.length ≤ 9223372036854775807 := by have := hx.bd; simpa [u64s] using this
  have hby : ys.length ≤ 9223372036854775807 := by have := hy.bd; simpa [u64s] using this
  have HX := Lib.hid hx; clear hx
  have HY := Lib.hid hy; clear hy
  by_cases hl : xs.length = ys.length
  · have hne : ((xs.length : Int) != (ys.length : Int)) = false := by simp [hl]
    generalize hd : decide (xs = ys) = d
    have HD := Lib.hid hd; clear hd
    have HL := Lib.hid hl; clear hl
    go_enter Try.func35, Try.ntmps35
    go_wp2_with fail
    go_loopw [13] (fun i wr => ∃ k : Nat, k ≤ xs.length ∧ i = .int .i64 k ∧ xs.take k = ys.take k ∧ Ch [] w wr) (fun i _ => xs.length - (intOf i).toNat)
    case atStart => exact ⟨0, Nat.zero_le _, rfl, rfl, Ch.refl _ _⟩
    case round =>
      obtain ⟨k, hk, rfl, ht, hc⟩ := hrel
      have HT := Lib.hid ht; clear ht
      by_cases hlt : k < xs.length
      · have hlt2 : k < ys.length := by have := HL.out; omega
        have hxk : xs[k]? = some xs[k] := List.getElem?_eq_getElem hlt
        have hyk : ys[k]? = some ys[k] := List.getElem?_eq_getElem hlt2
        obtain ⟨b1, o1, rfl, c1⟩ := (HX.out.ch hc (by simp)).cells k (.int .u64 (xs[k] : Nat)) (u64s_get hxk)
        obtain ⟨b2, o2, rfl, c2⟩ := (HY.out.ch hc (by simp)).cells k (.int .u64 (ys[k] : Nat)) (u64s_get hyk)
        generalize xs[k] = x at *
        generalize ys[k] = y at *
        have HXK := Lib.hid hxk; clear hxk
        have HYK := Lib.hid hyk; clear hyk
        have HC := Lib.hid hc; clear hc
        by_cases hxy : x = y
        · have hb : ((x : Int) != y) = false := by simp [hxy]
          have HE := Lib.hid hxy; clear hxy
          go_wp2_with fail
          refine Ord.St.door (fun _ => True) [.fl, .fl, .fl, .rd, .fl, .fl, .fl, .rd, .fl] [0, 0, 3, 7, 0, 0, 48, 112, 255] [0, 1, 2, 3, 4, 5, 6, 7, 8] mixed (by kernel_rfl) rfl ?_
          refine Ord.St.fl2 (T' := ?_) 0 [1, 2, 3, 4, 5, 6, 7, 8] _ _ rfl (by kernel_rfl) rfl rfl rfl rfl (fun K w' hk => ?_) ?_
          rotate_left
          · go_step; exact hk
          refine Ord.St.fl2 (T' := ?_) 1 [2, 3, 4, 5, 6, 7, 8] _ _ rfl (by kernel_rfl) rfl rfl rfl rfl (fun K w' hk => ?_) ?_
          rotate_left
          · go_step; exact hk
          refine Ord.St.fl2 (T' := ?_) 2 [3, 4, 5, 6, 7, 8] _ _ rfl (by kernel_rfl) rfl rfl rfl rfl (fun K w' hk => ?_) ?_
          rotate_left
          · go_step; exact hk
          refine Ord.St.rd2 (T' := ?_) 3 [4, 5, 6, 7, 8] _ _ rfl (by kernel_rfl) rfl rfl rfl rfl (fun K hk => ?_) ?_
          rotate_left
          · go_step; exact hk
          refine Ord.St.fl2 (T' := ?_) 4 [5, 6, 7, 8] _ _ rfl (by kernel_rfl) rfl rfl rfl rfl (fun K w' hk => ?_) ?_
          rotate_left
          · go_step; exact hk
          refine Ord.St.fl2 (T' := ?_) 5 [6, 7, 8] _ _ rfl (by kernel_rfl) rfl rfl rfl rfl (fun K w' hk => ?_) ?_
          rotate_left
          · go_step; exact hk
          refine Ord.St.fl2 (T' := ?_) 6 [7, 8] _ _ rfl (by kernel_rfl) rfl rfl rfl rfl (fun K w' hk => ?_) ?_
          rotate_left
          · go_step; exact hk
          refine Ord.St.rd2 (T' := ?_) 7 [8] _ _ rfl (by kernel_rfl) rfl rfl rfl rfl (fun K hk => ?_) ?_
          rotate_left
          · go_step; exact hk
          refine Ord.St.fl2 (T' := ?_) 8 [] _ _ rfl (by kernel_rfl) rfl rfl rfl rfl (fun K w' hk => ?_) ?_
          rotate_left
          · go_step; exact hk
          refine Ord.St.nil ?_
          go_wp2_with fail
          go_roundw
          case rel => exact ⟨k + 1, by omega, by go_num, takeN_succ HT.out HXK.out HYK.out HE.out, HC.out.drew⟩
          case measure => simp [intOf]; omega
        · have hb : ((x : Int) != y) = true := by simp; omega
          have hdf : d = false := by
            rw [← HD.out]
            refine decide_eq_false fun e => hxy ?_
            have h1 := HXK.out
            rw [e, HYK.out] at h1
            cases h1; rfl
          have HDF := Lib.hid hdf; clear hdf
          clear hxy
          go_wp2_with fail
          refine Ord.St.door (fun _ => True) [.fl, .fl, .fl, .rd, .fl, .fl, .fl, .rd, .fl] [0, 0, 3, 7, 0, 0, 48, 112, 255] [0, 1, 2, 3, 4, 5, 6, 7, 8] mixed (by kernel_rfl) rfl ?_
          refine Ord.St.fl2 (T' := ?_) 0 [1, 2, 3, 4, 5, 6, 7, 8] _ _ rfl (by kernel_rfl) rfl rfl rfl rfl (fun K w' hk => ?_) ?_
          rotate_left
          · go_step; exact hk
          refine Ord.St.fl2 (T' := ?_) 1 [2, 3, 4, 5, 6, 7, 8] _ _ rfl (by kernel_rfl) rfl rfl rfl rfl (fun K w' hk => ?_) ?_
          rotate_left
          · go_step; exact hk
          refine Ord.St.fl2 (T' := ?_) 2 [3, 4, 5, 6, 7, 8] _ _ rfl (by kernel_rfl) rfl rfl rfl rfl (fun K w' hk => ?_) ?_
          rotate_left
          · go_step; exact hk
          refine Ord.St.rd2 (T' := ?_) 3 [4, 5, 6, 7, 8] _ _ rfl (by kernel_rfl) rfl rfl rfl rfl (fun K hk => ?_) ?_
          rotate_left
          · go_step; exact hk
          refine Ord.St.fl2 (T' := ?_) 4 [5, 6, 7, 8] _ _ rfl (by kernel_rfl) rfl rfl rfl rfl (fun K w' hk => ?_) ?_
          rotate_left
          · go_step; exact hk
          refine Ord.St.fl2 (T' := ?_) 5 [6, 7, 8] _ _ rfl (by kernel_rfl) rfl rfl rfl rfl (fun K w' hk => ?_) ?_
          rotate_left
          · go_step; exact hk
          refine Ord.St.fl2 (T' := ?_) 6 [7, 8] _ _ rfl (by kernel_rfl) rfl rfl rfl rfl (fun K w' hk => ?_) ?_
          rotate_left
          · go_step; exact hk
          refine Ord.St.rd2 (T' := ?_) 7 [8] _ _ rfl (by kernel_rfl) rfl rfl rfl rfl (fun K hk => ?_) ?_
          rotate_left
          · go_step; exact hk
          refine Ord.St.fl2 (T' := ?_) 8 [] _ _ rfl (by kernel_rfl) rfl rfl rfl rfl (fun K w' hk => ?_) ?_
          rotate_left
          · go_step; exact hk
          refine Ord.St.nil ?_
          go_wp2_with fail
          go_ret
          rw [HDF.out]
          exact ⟨rfl, HC.out.drew⟩
      · have hdt : d = true := by
          rw [← HD.out]
          have h1 := HT.out
          rw [List.take_of_length_le (by omega), List.take_of_length_le (by have := HL.out; omega)] at h1
          exact decide_eq_true h1
        have HDT := Lib.hid hdt; clear hdt
        have HC := Lib.hid hc; clear hc
        go_wp2_with fail
        go_ret
        rw [HDT.out]
        exact ⟨rfl, HC.out⟩
  · have hne : ((xs.length : Int) != (ys.length : Int)) = true := by rw [bne_iff_ne]; omega
    have hd : decide (xs = ys) = false := decide_eq_false fun e => hl (by rw [e])
    rw [hd]
    clear hd
    go_enter Try.func35, Try.ntmps35
    go_wp2_with fail
    go_ret
    exact ⟨rfl, Ch.refl _ _⟩
end
/-- what is known along a walk that changes no graph: the graph, and slices that are held -/
structure HS (w0 w : World) (g : Nat) (G : Gra) (F : List Nat) (L : List (Option Addr × List Value)) : Prop where
  own : Own w0 w g G F
  held : ∀ p ∈ L, Sv w p.1 p.2
section
variable {w0 w : World} {g : Nat} {G : Gra} {F : List Nat} {L : List (Option Addr × List Value)}
theorem HS.same {w' : World} (h : HS w0 w g G F L) (hc : Ch [] w w') : HS w0 w' g G F L := ⟨h.own.same hc, fun p hp => (h.held p hp).ch hc (by simp)⟩
theorem HS.add {a : Option Addr} {xs : List Value} (h : HS w0 w g G F L) (hs : Sv w a xs) : HS w0 w g G F ((a, xs) :: L) := ⟨h.own, fun p hp => by
  rcases List.mem_cons.1 hp with rfl | hp
  · exact hs
  · exact h.held p hp⟩
theorem HS.drop {p : Option Addr × List Value} (h : HS w0 w g G F (p :: L)) : HS w0 w g G F L := ⟨h.own, fun q hq => h.held q (List.mem_cons_of_mem _ hq)⟩
theorem HS.blk {b : Nat} {xs : List Value} (h : HS w0 w g G F L) (hb : blk w b xs) (hl : xs.length ≤ 9223372036854775807) : HS w0 w g G F ((some ⟨b, 0, none⟩, xs) :: L) := h.add ⟨fun i x hx => ⟨b, 0, rfl, by
  rw [Nat.zero_add]
  exact hb.cell hx⟩, hl⟩
theorem simTable_h (h : HS w0 w g G F L) (r : Int) (hr : -9223372036854775808 ≤ r ∧ r ≤ 9223372036854775807) {T : List Nat} {e k : Nat} (hR : tableR G r = (T, e)) (hk : T.length = k) (hkl : k ≤ 1000000) :
    Calls Try.prog 20 #[.pointer (some ⟨g, 0, none⟩), .int .i64 r] w fun en w' => ∃ a c, en = .returned (.tuple #[.slice a k c, .int .i64 e]) ∧ HS w0 w' g G F ((a, u64s T) :: L) := by
  have H := simTable_is h.own.gin r hr
  rw [hR] at H
  refine H.mono ?_
  rintro en w' ⟨v, rfl, hrow, _, hc⟩
  obtain ⟨a, c, rfl⟩ := row.shape hrow
  simp only [hk] at hrow
  exact ⟨a, c, by simp only [hk], (h.same hc).add (row.sv hrow rfl hkl)⟩
theorem simCount_h (h : HS w0 w g G F L) (r : Int) (hr : -9223372036854775808 ≤ r ∧ r ≤ 9223372036854775807) {n e : Nat} (hR : countR G r = (n, e)) :
    Calls Try.prog 22 #[.pointer (some ⟨g, 0, none⟩), .int .i64 r] w fun en w' => en = .returned (.tuple #[.int .i64 n, .int .i64 e]) ∧ HS w0 w' g G F L := by
  have H := simCount_is h.own.gin r hr
  rw [hR] at H
  refine H.mono ?_
  rintro en w' ⟨rfl, hc⟩
  exact ⟨rfl, h.same hc⟩
theorem simFirst_h (h : HS w0 w g G F L) (r : Int) (hr : -9223372036854775808 ≤ r ∧ r ≤ 9223372036854775807) {B : List Bool} {b : Bool} {e k : Nat} (hR : firstG G r = ((B, b), e)) (hk : B.length = k) (hkl : k ≤ 1000000) :
    Calls Try.prog 23 #[.pointer (some ⟨g, 0, none⟩), .int .i64 r] w fun en w' => ∃ a c, en = .returned (.tuple #[.slice a k c, .bool b, .int .i64 e]) ∧ HS w0 w' g G F ((a, bools B) :: L) := by
  have H := simFirst_is h.own.gin r hr
  rw [hR] at H
  refine H.mono ?_
  rintro en w' ⟨v, rfl, hrow, _, hc⟩
  obtain ⟨a, c, rfl⟩ := row.shape hrow
  simp only [hk] at hrow
  exact ⟨a, c, by simp only [hk], (h.same hc).add (row.sv hrow rfl hkl)⟩
theorem simParts_h (h : HS w0 w g G F L) (r s : Int) (hr : -9223372036854775808 ≤ r ∧ r ≤ 9223372036854775807) (hs : -9223372036854775808 ≤ s ∧ s ≤ 9223372036854775807) {B : List Bool} {b : Bool} {e k : Nat} (hR : partsG G r s = ((B, b), e)) (hk : B.length = k) (hkl : k ≤ 1000000) :
    Calls Try.prog 32 #[.pointer (some ⟨g, 0, none⟩), .int .i64 r, .int .i64 s] w fun en w' => ∃ a c, en = .returned (.tuple #[.slice a k c, .bool b, .int .i64 e]) ∧ HS w0 w' g G F ((a, bools B) :: L) := by
  have H := simParts_is h.own.gin r s hr hs
  rw [hR] at H
  refine H.mono ?_
  rintro en w' ⟨v, rfl, hrow, _, hc⟩
  obtain ⟨a, c, rfl⟩ := row.shape hrow
  simp only [hk] at hrow
  exact ⟨a, c, by simp only [hk], (h.same hc).add (row.sv hrow rfl hkl)⟩
theorem simWords_h (h : HS w0 w g G F L) {xa : Option Addr} {ins : List Nat} {m xc : Nat} (hx : (xa, u64s ins) ∈ L) (hm : ins.length = m) (hlt : ∀ v ∈ ins, v < 2 ^ 64) (hcap : m ≤ xc) (hxc : xc ≤ 9223372036854775807) {a : Option Addr} {l : List Int} {n c : Nat} (hn : l.length = n) (hL : Sl w a l) (hbd : ∀ r ∈ l, -9223372036854775808 ≤ r ∧ r ≤ 9223372036854775807) (hll : n ≤ 100000) {ws : List Nat} {e k : Nat} (hR : wordsR G ins l = (ws, e)) (hk : ws.length = k) (hkl : k ≤ 1000000) :
    Calls Try.prog 29 #[.pointer (some ⟨g, 0, none⟩), .slice xa m xc, .slice a n c] w fun en w' => ∃ ya yc, en = .returned (.tuple #[.slice ya k yc, .int .i64 e]) ∧ HS w0 w' g G F ((ya, u64s ws) :: L) := by
  subst hm hn
  have H := simWords_is h.own.gin (xa := xa) (ins := ins) xc (h.held _ hx) hlt hcap hxc c hL hbd hll
  rw [hR] at H
  refine H.mono ?_
  rintro en w' ⟨v, rfl, hrow, _, hc⟩
  obtain ⟨ya, yc, rfl⟩ := row.shape hrow
  simp only [hk] at hrow
  exact ⟨ya, yc, by simp only [hk], (h.same hc).add (row.sv hrow rfl hkl)⟩
theorem simBits_h (h : HS w0 w g G F L) {xa : Option Addr} {ins : List Bool} {m xc : Nat} (hx : (xa, bools ins) ∈ L) (hm : ins.length = m) (hml : m ≤ 100000) {a : Option Addr} {l : List Int} {n c : Nat} (hn : l.length = n) (hL : Sl w a l) (hbd : ∀ r ∈ l, -9223372036854775808 ≤ r ∧ r ≤ 9223372036854775807) (hll : n ≤ 100000) {bs : List Bool} {e k : Nat} (hR : bitsR G ins l = (bs, e)) (hk : bs.length = k) (hkl : k ≤ 1000000) :
    Calls Try.prog 24 #[.pointer (some ⟨g, 0, none⟩), .slice xa m xc, .slice a n c] w fun en w' => ∃ ya yc, en = .returned (.tuple #[.slice ya k yc, .int .i64 e]) ∧ HS w0 w' g G F ((ya, bools bs) :: L) := by
  have H := simBits_is h.own.gin (xa := xa) (ins := ins) m xc hm (h.held _ hx) hml n c hn hL hbd hll
  rw [hR] at H
  refine H.mono ?_
  rintro en w' ⟨v, rfl, hrow, _, hc⟩
  obtain ⟨ya, yc, rfl⟩ := row.shape hrow
  simp only [hk] at hrow
  exact ⟨ya, yc, by simp only [hk], (h.same hc).add (row.sv hrow rfl hkl)⟩
theorem simSupport_h (h : HS w0 w g G F L) {a : Option Addr} {l : List Int} {n c : Nat} (hn : l.length = n) (hL : Sl w a l) (hlow : ∀ q, a = some q → q.block < w.heap.size) (hbd : ∀ r ∈ l, -9223372036854775808 ≤ r ∧ r ≤ 9223372036854775807) {s : List Nat} {e k : Nat} (hR : suppR G l = (s, e)) (hk : s.length = k) (hkl : k ≤ 1000000) :
    Calls Try.prog 33 #[.pointer (some ⟨g, 0, none⟩), .slice a n c] w fun en w' => ∃ ya yc, en = .returned (.tuple #[.slice ya k yc, .int .i64 e]) ∧ HS w0 w' g G F ((ya, refsCells s) :: L) := by
  have H := simSupport_is h.own.gin (a := a) (l := l) n c hn hL hlow hbd
  rw [hR] at H
  refine H.mono ?_
  rintro en w' ⟨v, rfl, hrow, _, hc⟩
  obtain ⟨ya, yc, rfl⟩ := row.shape hrow
  simp only [hk] at hrow
  exact ⟨ya, yc, by simp only [hk], (h.same hc).add (row.sv hrow rfl hkl)⟩
theorem EQu64_h (h : HS w0 w g G F L) {a b : Option Addr} {xs ys : List Nat} {n m ca cb : Nat} (hx : (a, u64s xs) ∈ L) (hy : Sv w b (u64s ys)) (hn : xs.length = n) (hm : ys.length = m) {q : Bool} (hq : decide (xs = ys) = q) :
    Calls Try.prog 35 #[.slice a n ca, .slice b m cb] w fun e w' => e = .returned (.bool q) ∧ HS w0 w' g G F L := by
  subst hn hm hq
  exact (EQu64_is ca cb (h.held _ hx) hy).mono fun e w' ⟨he, hc⟩ => ⟨he, h.same hc⟩
theorem Eqbool_h (h : HS w0 w g G F L) {a b : Option Addr} {xs ys : List Bool} {n m ca cb : Nat} (hx : (a, bools xs) ∈ L) (hy : Sv w b (bools ys)) (hn : xs.length = n) (hm : ys.length = m) {q : Bool} (hq : decide (xs = ys) = q) :
    Calls Try.prog 25 #[.slice a n ca, .slice b m cb] w fun e w' => e = .returned (.bool q) ∧ HS w0 w' g G F L := by
  subst hn hm hq
  exact (Eqbool_is ca cb (h.held _ hx) hy).mono fun e w' ⟨he, hc⟩ => ⟨he, h.same hc⟩
theorem Eqint_h (h : HS w0 w g G F L) {a b : Option Addr} {xs ys : List Int} {n m ca cb : Nat} (hx : Sl w a xs) (hy : Sl w b ys) (hn : xs.length = n) (hm : ys.length = m) {q : Bool} (hq : decide (xs = ys) = q) :
    Calls Try.prog 78 #[.slice a n ca, .slice b m cb] w fun e w' => e = .returned (.bool q) ∧ HS w0 w' g G F L := by
  subst hn hm hq
  exact (Eqint_is ca cb hx hy).mono fun e w' ⟨he, hc⟩ => ⟨he, h.same hc⟩
end
end Go.Proofs.Ytnmfdiiehkkjcaa
namespace Go.Proofs.Ytnmfdiiehkkjcaa
open Go.RowKit Go.Mem Go.Aig
def sb1 : Gra := ⟨20, [⟨1, 0, 0, 0⟩, ⟨2, 0, 0, 0⟩]⟩
def sb2 : Gra := ⟨20, [⟨1, 0, 0, 0⟩, ⟨2, 0, 0, 0⟩, ⟨2, 0, 0, 0⟩]⟩
def sb3 : Gra := ⟨20, [⟨1, 0, 0, 0⟩, ⟨2, 0, 0, 0⟩, ⟨2, 0, 0, 0⟩, ⟨3, 2, 5, 1⟩, ⟨3, 3, 4, 1⟩, ⟨3, 7, 9, 2⟩]⟩
def sb4 : Gra := ⟨20, [⟨1, 0, 0, 0⟩, ⟨2, 0, 0, 0⟩, ⟨2, 0, 0, 0⟩, ⟨3, 2, 5, 1⟩, ⟨3, 3, 4, 1⟩, ⟨3, 7, 9, 2⟩, ⟨3, 3, 5, 1⟩]⟩
theorem blkSv {w : World} {b : Nat} {xs : List Value} (hb : blk w b xs) (hl : xs.length ≤ 9223372036854775807) : Sv w (some ⟨b, 0, none⟩) xs := ⟨fun i x hx => ⟨b, 0, rfl, by
  rw [Nat.zero_add]
  exact hb.cell hx⟩, hl⟩
theorem blkSl {w : World} {b : Nat} {l : List Int} {xs : List Value} (hb : blk w b xs) (hx : xs = l.map fun z => .int .i64 z) (hl : l.length ≤ 9223372036854775807) : Sl w (some ⟨b, 0, none⟩) l := ⟨fun i x hi => ⟨b, 0, rfl, by
  rw [Nat.zero_add]
  refine hb.cell ?_
  rw [hx, List.getElem?_map, hi]
  rfl⟩, hl⟩
theorem svSl {w : World} {a : Option Addr} {l : List Nat} (h : Sv w a (refsCells l)) : Sl w a (l.map fun (r : Nat) => (r : Int)) := ⟨fun i x hx => by
  rw [List.getElem?_map] at hx
  cases hl : l[i]? with
  | none => rw [hl] at hx; cases hx
  | some r =>
    rw [hl] at hx
    cases hx
    exact h.cells i _ (by simp [refsCells, hl]), by have := h.bd; simpa [refsCells] using this⟩
section
variable {w0 w : World} {g : Nat} {G : Gra} {F : List Nat}
theorem New_s (n : Nat) (h1 : 1 ≤ n) (h2 : n ≤ 65536) : Calls Try.prog 68 #[.int .i64 n] w fun e w' => ∃ g F, e = .returned (.tuple #[.pointer (some ⟨g, 0, none⟩), .int .i64 0]) ∧ HS w w' g (newG n) F [] :=
  (New_yes n h1 h2).mono fun e w' ⟨g, F, he, hg, hF, hc⟩ => ⟨g, F, he, ⟨hg, hF, hc⟩, by simp⟩
theorem Input_s (h : HS w0 w g G F []) {G' : Gra} {r e : Nat} (hR : doInput G = (G', r, e)) : Calls Try.prog 34 #[.pointer (some ⟨g, 0, none⟩)] w fun en w' => ∃ F', en = .returned (.tuple #[.int .i64 r, .int .i64 e]) ∧ HS w0 w' g G' F' [] := by
  have H := Input_g h.own.gin
  rw [hR] at H
  refine H.mono ?_
  rintro en w' ⟨rfl, hto⟩
  obtain ⟨F', ho⟩ := h.own.to hto
  exact ⟨F', rfl, ho, by simp⟩
theorem And_s (h : HS w0 w g G F []) (a b : Int) (ba : a ≤ 9223372036854775807) (bb : b ≤ 9223372036854775807) {G' : Gra} {r e : Nat} (hR : doAnd G a b = (G', r, e)) : Calls Try.prog 59 #[.pointer (some ⟨g, 0, none⟩), .int .i64 a, .int .i64 b] w fun en w' => ∃ F', en = .returned (.tuple #[.int .i64 r, .int .i64 e]) ∧ HS w0 w' g G' F' [] := by
  have H := And_g h.own.gin a b ba bb
  rw [hR] at H
  refine H.mono ?_
  rintro en w' ⟨rfl, hto⟩
  obtain ⟨F', ho⟩ := h.own.to hto
  exact ⟨F', rfl, ho, by simp⟩
theorem Or_s (h : HS w0 w g G F []) (a b : Int) (ba : a ≤ 9223372036854775807) (bb : b ≤ 9223372036854775807) {G' : Gra} {r e : Nat} (hR : doOr G a b = (G', r, e)) : Calls Try.prog 58 #[.pointer (some ⟨g, 0, none⟩), .int .i64 a, .int .i64 b] w fun en w' => ∃ F', en = .returned (.tuple #[.int .i64 r, .int .i64 e]) ∧ HS w0 w' g G' F' [] := by
  have H := Or_g h.own.gin a b ba bb
  rw [hR] at H
  refine H.mono ?_
  rintro en w' ⟨rfl, hto⟩
  obtain ⟨F', ho⟩ := h.own.to hto
  exact ⟨F', rfl, ho, by simp⟩
theorem Xor_s (h : HS w0 w g G F []) (a b : Int) (ba : a ≤ 9223372036854775807) (bb : b ≤ 9223372036854775807) {G' : Gra} {r e : Nat} (hR : doXor G a b = (G', r, e)) : Calls Try.prog 77 #[.pointer (some ⟨g, 0, none⟩), .int .i64 a, .int .i64 b] w fun en w' => ∃ F', en = .returned (.tuple #[.int .i64 r, .int .i64 e]) ∧ HS w0 w' g G' F' [] := by
  have H := Xor_g h.own.gin a b ba bb
  rw [hR] at H
  refine H.mono ?_
  rintro en w' ⟨rfl, hto⟩
  obtain ⟨F', ho⟩ := h.own.to hto
  exact ⟨F', rfl, ho, by simp⟩
end
set_option maxRecDepth 100000 in
set_option maxHeartbeats 4000000 in
theorem awake21_is (w : World) : Calls Try.prog 16 #[] w fun e w' => e = .returned (.bool true) ∧ Ch [] w w' := by
  have hN := New_s (w := w) 20 (by decide) (by decide)
  have HN := Lib.hid hN; clear hN
  go_enter Try.func16, Try.ntmps16
  go_wp2_with fail
  refine HN.out.mono ?_
  rintro e w1 ⟨g, F1, rfl, ho⟩
  have HO := Lib.hid ho; clear ho HN
  go_wp2_with fail
  refine (Input_s HO.out (G' := sb1) (r := 2) (e := 0) (by kernel_rfl)).mono ?_
  rintro e w2 ⟨F2, rfl, ho⟩
  clear HO; have HO := Lib.hid ho; clear ho
  go_wp2_with fail
  refine (Input_s HO.out (G' := sb2) (r := 4) (e := 0) (by kernel_rfl)).mono ?_
  rintro e w3 ⟨F3, rfl, ho⟩
  clear HO; have HO := Lib.hid ho; clear ho
  go_wp2_with fail
  refine (Xor_s HO.out 2 4 (by decide) (by decide) (G' := sb3) (r := 11) (e := 0) (by kernel_rfl)).mono ?_
  rintro e w4 ⟨F4, rfl, ho⟩
  clear HO; have HO := Lib.hid ho; clear ho
  go_wp2_with fail
  refine (Or_s HO.out 2 4 (by decide) (by decide) (G' := sb4) (r := 13) (e := 0) (by kernel_rfl)).mono ?_
  rintro e w5 ⟨F5, rfl, ho⟩
  clear HO; have HO := Lib.hid ho; clear ho
  go_wp2_with fail
  refine (simTable_h HO.out 11 (by decide) (T := [6]) (e := 0) (k := 1) (by kernel_rfl) rfl (by decide)).mono ?_
  rintro e w6 ⟨a0, c0, rfl, ho⟩
  clear HO; have HO := Lib.hid ho; clear ho
  go_wp2_with fail
  refine (simTable_h HO.out 2 (by decide) (T := [10]) (e := 0) (k := 1) (by kernel_rfl) rfl (by decide)).mono ?_
  rintro e w7 ⟨a1, c1, rfl, ho⟩
  clear HO; have HO := Lib.hid ho; clear ho
  go_wp2_with fail
  refine (simTable_h HO.out 1 (by decide) (T := [15]) (e := 0) (k := 1) (by kernel_rfl) rfl (by decide)).mono ?_
  rintro e w8 ⟨a2, c2, rfl, ho⟩
  clear HO; have HO := Lib.hid ho; clear ho
  go_wp2_with fail
  refine (simCount_h HO.out 11 (by decide) (n := 2) (e := 0) (by kernel_rfl)).mono ?_
  rintro e w9 ⟨rfl, ho⟩
  clear HO; have HO := Lib.hid ho; clear ho
  go_wp2_with fail
  refine (simFirst_h HO.out 11 (by decide) (B := [true, false]) (b := true) (e := 0) (k := 2) (by kernel_rfl) rfl (by decide)).mono ?_
  rintro e w10 ⟨a3, c3, rfl, ho⟩
  clear HO; have HO := Lib.hid ho; clear ho
  go_wp2_with fail
  refine calls_named fun w11 hW => ?_
  have hc : Ch [] w10 w11 := by rw [hW]; exact ((Ch.refl _ _).alloc _)
  have hk11_0 : blk w11 (w10.heap.size) [.int .u64 6] := by rw [hW]; exact blk.new' _ _ (by simp)
  clear hW
  have ho := HO.out.same hc
  clear HO hc; have HO := Lib.hid ho; clear ho
  refine (EQu64_h HO.out (a := a0) (ca := c0) (xs := [6]) (ys := [6]) (by simp) (blkSv hk11_0 (by decide)) rfl rfl (q := true) (by decide)).mono ?_
  rintro e w12 ⟨rfl, ho⟩
  clear HO; have HO := Lib.hid ho; clear ho
  go_wp2_with fail
  refine calls_named fun w13 hW => ?_
  have hc : Ch [] w12 w13 := by rw [hW]; exact ((Ch.refl _ _).alloc _)
  have hk13_0 : blk w13 (w12.heap.size) [.int .u64 10] := by rw [hW]; exact blk.new' _ _ (by simp)
  clear hW
  have ho := HO.out.same hc
  clear HO hc; have HO := Lib.hid ho; clear ho
  refine (EQu64_h HO.out (a := a1) (ca := c1) (xs := [10]) (ys := [10]) (by simp) (blkSv hk13_0 (by decide)) rfl rfl (q := true) (by decide)).mono ?_
  rintro e w14 ⟨rfl, ho⟩
  clear HO; have HO := Lib.hid ho; clear ho
  go_wp2_with fail
  refine calls_named fun w15 hW => ?_
  have hc : Ch [] w14 w15 := by rw [hW]; exact ((Ch.refl _ _).alloc _)
  have hk15_0 : blk w15 (w14.heap.size) [.int .u64 15] := by rw [hW]; exact blk.new' _ _ (by simp)
  clear hW
  have ho := HO.out.same hc
  clear HO hc; have HO := Lib.hid ho; clear ho
  refine (EQu64_h HO.out (a := a2) (ca := c2) (xs := [15]) (ys := [15]) (by simp) (blkSv hk15_0 (by decide)) rfl rfl (q := true) (by decide)).mono ?_
  rintro e w16 ⟨rfl, ho⟩
  clear HO; have HO := Lib.hid ho; clear ho
  go_wp2_with fail
  refine calls_named fun w17 hW => ?_
  have hc : Ch [] w16 w17 := by rw [hW]; exact ((Ch.refl _ _).alloc _)
  have hk17_0 : blk w17 (w16.heap.size) [.bool true, .bool false] := by rw [hW]; exact blk.new' _ _ (by simp)
  clear hW
  have ho := HO.out.same hc
  clear HO hc; have HO := Lib.hid ho; clear ho
  refine (Eqbool_h HO.out (a := a3) (ca := c3) (xs := [true, false]) (ys := [true, false]) (by simp) (blkSv hk17_0 (by decide)) rfl rfl (q := true) (by decide)).mono ?_
  rintro e w18 ⟨rfl, ho⟩
  clear HO; have HO := Lib.hid ho; clear ho
  go_wp2_with fail
  refine (simParts_h HO.out 2 4 (by decide) (by decide) (B := [true, false]) (b := true) (e := 0) (k := 2) (by kernel_rfl) rfl (by decide)).mono ?_
  rintro e w19 ⟨a4, c4, rfl, ho⟩
  clear HO; have HO := Lib.hid ho; clear ho
  go_wp2_with fail
  refine (simParts_h HO.out 11 13 (by decide) (by decide) (B := [true, true]) (b := true) (e := 0) (k := 2) (by kernel_rfl) rfl (by decide)).mono ?_
  rintro e w20 ⟨a5, c5, rfl, ho⟩
  clear HO; have HO := Lib.hid ho; clear ho
  go_wp2_with fail
  refine calls_named fun w21 hW => ?_
  have hc : Ch [] w20 w21 := by rw [hW]; exact (((Ch.refl _ _).alloc _).alloc _)
  have hk21_0 : blk w21 (w20.heap.size) [.int .u64 12, .int .u64 10] := by rw [hW]; exact (blk.new' _ _ (by simp)).alloc _
  have hk21_1 : blk w21 (w20.heap.size + 1) [.int .i64 2, .int .i64 11] := by rw [hW]; exact blk.new' _ _ (by simp)
  clear hW
  have ho := HO.out.same hc
  clear HO hc; have HO := Lib.hid ho; clear ho
  have ho := HO.out.blk hk21_0 (by decide)
  clear HO; have HO := Lib.hid ho; clear ho
  refine (simWords_h HO.out (xa := some ⟨w20.heap.size, 0, none⟩) (ins := [12, 10]) (m := 2) (xc := 2) (by simp [u64s]) rfl (by decide) (by decide) (by decide) (l := [2, 11]) (n := 2) (c := 2) rfl (blkSl hk21_1 rfl (by decide)) (by decide) (by decide) (ws := [12, 6]) (e := 0) (k := 2) (by kernel_rfl) rfl (by decide)).mono ?_
  rintro e w22 ⟨a6, c6, rfl, ho⟩
  clear HO; have HO := Lib.hid ho; clear ho
  go_wp2_with fail
  refine calls_named fun w23 hW => ?_
  have hc : Ch [] w22 w23 := by rw [hW]; exact ((Ch.refl _ _).alloc _)
  have hk23_0 : blk w23 (w22.heap.size) [.int .i64 1] := by rw [hW]; exact blk.new' _ _ (by simp)
  clear hW
  have ho := HO.out.same hc
  clear HO hc; have HO := Lib.hid ho; clear ho
  refine (simSupport_h HO.out (l := [1]) (n := 1) (c := 1) rfl (blkSl hk23_0 rfl (by decide)) (fun q hq => by cases hq; exact hk23_0.lt) (by decide) (s := []) (e := 0) (k := 0) (by kernel_rfl) rfl (by decide)).mono ?_
  rintro e w24 ⟨a7, c7, rfl, ho⟩
  clear HO; have HO := Lib.hid ho; clear ho
  go_wp2_with fail
  refine calls_named fun w25 hW => ?_
  have hc : Ch [] w24 w25 := by rw [hW]; exact ((Ch.refl _ _).alloc _)
  have hk25_0 : blk w25 (w24.heap.size) [.int .i64 11] := by rw [hW]; exact blk.new' _ _ (by simp)
  clear hW
  have ho := HO.out.same hc
  clear HO hc; have HO := Lib.hid ho; clear ho
  refine (simSupport_h HO.out (l := [11]) (n := 1) (c := 1) rfl (blkSl hk25_0 rfl (by decide)) (fun q hq => by cases hq; exact hk25_0.lt) (by decide) (s := [0, 1]) (e := 0) (k := 2) (by kernel_rfl) rfl (by decide)).mono ?_
  rintro e w26 ⟨a8, c8, rfl, ho⟩
  clear HO; have HO := Lib.hid ho; clear ho
  go_wp2_with fail
  refine (New_s 1 (by decide) (by decide)).mono ?_
  rintro e w27 ⟨g2, G2, rfl, hn⟩
  have HN := Lib.hid hn; clear hn
  go_wp2_with fail
  refine (simTable_h HN.out 1 (by decide) (T := [1]) (e := 0) (k := 1) (by kernel_rfl) rfl (by decide)).mono ?_
  rintro e w28 ⟨a9, c9, rfl, hn⟩
  have ho := (HO.out.same hn.own.ch).add (hn.held _ (List.mem_cons_self ..))
  clear HO HN hn; have HO := Lib.hid ho; clear ho
  go_wp2_with fail
  refine calls_named fun w29 hW => ?_
  have hc : Ch [] w28 w29 := by rw [hW]; exact ((Ch.refl _ _).alloc _)
  have hk29_0 : blk w29 (w28.heap.size) [.bool true, .bool false] := by rw [hW]; exact blk.new' _ _ (by simp)
  clear hW
  have ho := HO.out.same hc
  clear HO hc; have HO := Lib.hid ho; clear ho
  refine (Eqbool_h HO.out (a := a4) (ca := c4) (xs := [true, false]) (ys := [true, false]) (by simp) (blkSv hk29_0 (by decide)) rfl rfl (q := true) (by decide)).mono ?_
  rintro e w30 ⟨rfl, ho⟩
  clear HO; have HO := Lib.hid ho; clear ho
  go_wp2_with fail
  refine calls_named fun w31 hW => ?_
  have hc : Ch [] w30 w31 := by rw [hW]; exact ((Ch.refl _ _).alloc _)
  have hk31_0 : blk w31 (w30.heap.size) [.bool true, .bool true] := by rw [hW]; exact blk.new' _ _ (by simp)
  clear hW
  have ho := HO.out.same hc
  clear HO hc; have HO := Lib.hid ho; clear ho
  refine (Eqbool_h HO.out (a := a5) (ca := c5) (xs := [true, true]) (ys := [true, true]) (by simp) (blkSv hk31_0 (by decide)) rfl rfl (q := true) (by decide)).mono ?_
  rintro e w32 ⟨rfl, ho⟩
  clear HO; have HO := Lib.hid ho; clear ho
  go_wp2_with fail
  refine calls_named fun w33 hW => ?_
  have hc : Ch [] w32 w33 := by rw [hW]; exact ((Ch.refl _ _).alloc _)
  have hk33_0 : blk w33 (w32.heap.size) [.int .u64 12, .int .u64 6] := by rw [hW]; exact blk.new' _ _ (by simp)
  clear hW
  have ho := HO.out.same hc
  clear HO hc; have HO := Lib.hid ho; clear ho
  refine (EQu64_h HO.out (a := a6) (ca := c6) (xs := [12, 6]) (ys := [12, 6]) (by simp) (blkSv hk33_0 (by decide)) rfl rfl (q := true) (by decide)).mono ?_
  rintro e w34 ⟨rfl, ho⟩
  clear HO; have HO := Lib.hid ho; clear ho
  go_wp2_with fail
  refine calls_named fun w35 hW => ?_
  have hc : Ch [] w34 w35 := by rw [hW]; exact ((Ch.refl _ _).alloc _)
  have hk35_0 : blk w35 (w34.heap.size) [.int .i64 0, .int .i64 1] := by rw [hW]; exact blk.new' _ _ (by simp)
  clear hW
  have ho := HO.out.same hc
  clear HO hc; have HO := Lib.hid ho; clear ho
  refine (Eqint_h HO.out (a := a8) (ca := c8) (xs := [0, 1]) (ys := [0, 1]) (svSl (l := [0, 1]) (HO.out.held (a8, refsCells [0, 1]) (by simp))) (blkSl hk35_0 rfl (by decide)) rfl rfl (q := true) (by decide)).mono ?_
  rintro e w36 ⟨rfl, ho⟩
  clear HO; have HO := Lib.hid ho; clear ho
  go_wp2_with fail
  refine calls_named fun w37 hW => ?_
  have hc : Ch [] w36 w37 := by rw [hW]; exact ((Ch.refl _ _).alloc _)
  have hk37_0 : blk w37 (w36.heap.size) [.int .u64 1] := by rw [hW]; exact blk.new' _ _ (by simp)
  clear hW
  have ho := HO.out.same hc
  clear HO hc; have HO := Lib.hid ho; clear ho
  refine (EQu64_h HO.out (a := a9) (ca := c9) (xs := [1]) (ys := [1]) (by simp) (blkSv hk37_0 (by decide)) rfl rfl (q := true) (by decide)).mono ?_
  rintro e w38 ⟨rfl, ho⟩
  clear HO; have HO := Lib.hid ho; clear ho
  go_wp2_with fail
  go_ret
  exact ⟨rfl, HO.out.own.ch⟩
end Go.Proofs.Ytnmfdiiehkkjcaa
namespace Go
open Go.RowKit Go.Mem
section
variable {P : Program} (w : World)
theorem run_append_zeros_room (t tn ty e : TypeId) (i : TypeInfo) (z : Value) (kn : IntKind) (ht : P.underlying t = some (.slice e)) (htn : P.underlying tn = some (.int kn)) (hi : P.info? e = some i) (hz : i.zero = some z) (hs : 0 < i.size)
    (g sLen sCap : Nat) (cur : Array Value) (hg : w.heap[g]? = some (.cells cur e (0, 0))) (m : Nat) (hl : (Builtin.zeroCells z.cells m).toList.length = m * i.size) (h1 : ∀ u ∈ (Builtin.zeroCells z.cells m).toList, u.oneCell' = true)
    (hm63 : m ≤ 1000000) (hmb : m * i.bytes ≤ 281474976710656) (hroom : sLen + m ≤ sCap) (hfit : sLen * i.size + m * i.size ≤ cur.size) :
    (Builtin.append_ #[t, tn] ty #[.slice (some ⟨g, 0, none⟩) sLen sCap, .int .i64 m]).run P w =
      .ok (.slice (some ⟨g, 0, none⟩) (sLen + m) sCap) (w.setRow g (cur.toList.take (sLen * i.size) ++ (Builtin.zeroCells z.cells m).toList ++ cur.toList.drop (sLen * i.size + m * i.size)).toArray) := by
  have hst := run_storeCells_at P g (sLen * i.size) e (Builtin.zeroCells z.cells m).toList 0 cur w hg (by rw [hl]; simpa using hfit) h1
  simp only [Nat.add_zero] at hst
  have hw : IntKind.i64.wrap (m : Int) = m := by rw [IntKind.wrap_i64]; omega
  have hneg : ¬ ((m : Int) < 0) := by omega
  have h48i : ¬ (281474976710656 < (m : Int) * (i.bytes : Int)) := by
    rw [← Int.natCast_mul]
    omega
  rw [hl] at hst
  by_cases hm : m = 0
  · subst hm
    have hz0 : (Builtin.zeroCells z.cells 0).toList = [] := by simp [Builtin.zeroCells]
    rw [hz0] at hst ⊢
    have hw0 : IntKind.i64.wrap 0 = 0 := by rw [IntKind.wrap_i64]; rfl
    simp at hst hroom ⊢
    simp [Builtin.append_, run_underlying ht, run_underlying htn, sizeOf, typeInfo, hi, asInt, asIntOf, hw0, hroom, Addr.add_lit, hst]
  · have hns : ¬ (m * i.size = 0) := Nat.mul_ne_zero hm (by omega)
    simp [Builtin.append_, run_underlying ht, run_underlying htn, sizeOf, typeInfo, zeroValue, hi, hz, asInt, asIntOf, hw, hneg, h48i, hns, hroom, Addr.add_lit, hst]
theorem run_append_zeros_grow (t tn ty e : TypeId) (i : TypeInfo) (z : Value) (kn : IntKind) (ht : P.underlying t = some (.slice e)) (htn : P.underlying tn = some (.int kn)) (hi : P.info? e = some i) (hz : i.zero = some z) (hs : 0 < i.size)
    (b : Addr) (sLen sCap : Nat) (olds : List Value) (hlo : olds.length = sLen * i.size) (holds : ∀ j v, olds[j]? = some v → w.cell? (b.add j) = some v) (m : Nat) (hm : m ≠ 0) (hm63 : m ≤ 1000000) (hmb : m * i.bytes ≤ 281474976710656)
    (hg : sCap < sLen + m) (h63 : ((sLen + m : Nat) : Int) ≤ 9223372036854775807) (hfit : Builtin.nextslicecap (sLen + m) sCap * i.bytes ≤ 281474976710656) :
    (Builtin.append_ #[t, tn] ty #[.slice (some b) sLen sCap, .int .i64 m]).run P w =
      .ok (.slice (some ⟨w.heap.size, 0, none⟩) (sLen + m) (grownCap w (sLen + m) sCap e))
        (w.drew.alloc (.cells (olds.toArray ++ Builtin.zeroCells z.cells m ++ Builtin.zeroCells z.cells (grownCap w (sLen + m) sCap e - (sLen + m))) e)) := by
  have hn : ¬ (sLen + m ≤ sCap) := by omega
  have h63' : ¬ (9223372036854775807 < ((sLen : Int) + (m : Int))) := by omega
  have h48' : ¬ (281474976710656 < Builtin.nextslicecap (sLen + m) sCap * i.bytes) := by omega
  have hfo := run_firstCells_some (P := P) w.drew i.size sLen b sLen sCap olds hlo (by simpa using holds)
  have hw : IntKind.i64.wrap (m : Int) = m := by rw [IntKind.wrap_i64]; omega
  have hneg : ¬ ((m : Int) < 0) := by omega
  have h48i : ¬ (281474976710656 < (m : Int) * (i.bytes : Int)) := by
    rw [← Int.natCast_mul]
    omega
  have hns : ¬ (m * i.size = 0) := Nat.mul_ne_zero hm (by omega)
  simp [Builtin.append_, run_underlying ht, run_underlying htn, sizeOf, typeInfo, zeroValue, hi, hz, asInt, asIntOf, hw, hneg, h48i, hns, hn, h63', h48', Question.forced, hfo, newRow, grownCap]
end
theorem run_append_zeros {P : Program} (w : World) {t tn e : TypeId} {size bytes : Nat} {z : Value} (S : SliceTy P t e size bytes z) (ty : TypeId) {kn : IntKind} (htn : P.underlying tn = some (.int kn))
    (v : Value) (n : Nat) (xs : List Value) (hown : row w e size v n xs) (m : Nat) (zs : List Value) (hzs : (Builtin.zeroCells z.cells m).toList = zs) (h1 : ∀ u ∈ zs, u.oneCell' = true)
    (hm63 : m ≤ 1000000) (hbytes : (n + m) * bytes ≤ 140737488355328) (h63 : n + m ≤ maxLen) :
    ∃ v' w', (Builtin.append_ #[t, tn] ty #[v, .int .i64 m]).run P w = .ok v' w' ∧ row w' e size v' (n + m) (xs ++ zs) ∧ Ch v.ownBlock.toList w w' ∧ (∀ k, v'.ownBlock = some k → v.ownBlock = some k ∨ w.heap.size ≤ k) := by
  obtain ⟨i, hi, hz, hsize, hby⟩ := info_parts S.info
  subst hsize hby hzs
  have hl : (Builtin.zeroCells z.cells m).toList.length = m * i.size := by rw [Array.length_toList, size_zeroCells, S.zs]
  have hsmall : n + m ≤ 9223372036854775807 := by simp only [maxLen] at h63; omega
  have hmb : m * i.bytes ≤ 281474976710656 := by
    have := Nat.mul_le_mul_right i.bytes (show m ≤ n + m by omega)
    omega
  have hlen : (xs ++ (Builtin.zeroCells z.cells m).toList).length = (n + m) * i.size := by rw [List.length_append, hown.1, hl, Nat.add_mul]
  have grown : ∀ (old : Nat), old < n + m → row (w.drew.alloc (.cells (xs.toArray ++ Builtin.zeroCells z.cells m ++ Builtin.zeroCells z.cells (grownCap w (n + m) old e - (n + m))) e)) e i.size
        (.slice (some ⟨w.heap.size, 0, none⟩) (n + m) (grownCap w (n + m) old e)) (n + m) (xs ++ (Builtin.zeroCells z.cells m).toList) ∧
      Ch [] w (w.drew.alloc (.cells (xs.toArray ++ Builtin.zeroCells z.cells m ++ Builtin.zeroCells z.cells (grownCap w (n + m) old e - (n + m))) e)) := by
    intro old ho
    have hge := grownCap_ge w (n + m) old e
    have hcm : grownCap w (n + m) old e ≤ maxLen := grownCap_le_maxLen w (n + m) old e h63
    refine ⟨⟨hlen, .inr ⟨w.heap.size, _, _, rfl, Nat.zero_le _, heap_alloc_new w.drew _, hge, hcm, ?_, ?_⟩⟩, (Ch.refl _ _).drew.alloc _⟩
    · simp only [Array.size_append, List.size_toArray, size_zeroCells, S.zs, hown.1, ← Nat.add_mul]
      congr 1
      omega
    · simp only [Array.toList_append, List.append_assoc]
      rw [← List.append_assoc, ← hlen]
      exact List.take_left
  rcases hown.2 with ⟨rfl, rfl⟩ | ⟨g, cap, cur, rfl, hbg, hg, hnc, hcm, hcs, htake⟩
  · have hx : xs = [] := List.eq_nil_of_length_eq_zero (by simpa using hown.1)
    subst hx
    by_cases hm : m = 0
    · subst hm
      have hz0 : (Builtin.zeroCells z.cells 0).toList = [] := by simp [Builtin.zeroCells]
      rw [hz0]
      refine ⟨.slice none 0 0, w, ?_, ⟨by simp, .inl ⟨rfl, rfl⟩⟩, Ch.refl _ _, by simp [Value.ownBlock]⟩
      have hw0 : IntKind.i64.wrap 0 = 0 := by rw [IntKind.wrap_i64]; rfl
      simp [Builtin.append_, run_underlying S.under, run_underlying htn, sizeOf, typeInfo, hi, asInt, asIntOf, hw0]
    · have hr := Lib.run_append_nil_zeros (P := P) w t tn ty e i z .i64 kn S.under htn hi hz m (by omega) S.pos (by omega) hmb
      have hgr := grown 0 (by omega)
      simp only [Nat.zero_add, List.nil_append, Array.empty_append] at hgr ⊢
      refine ⟨_, _, hr, ?_, ?_, fun k hk => .inr ?_⟩
      · have := hgr.1
        simpa using this
      · have := hgr.2
        exact (by simpa using this : Ch [] w _).mono (by simp)
      · simp [Value.ownBlock] at hk; omega
  · by_cases hroom : n + m ≤ cap
    · have hfit : n * i.size + m * i.size ≤ cur.size := by rw [hcs, ← Nat.add_mul]; exact Nat.mul_le_mul_right _ hroom
      have hr := run_append_zeros_room (P := P) w t tn ty e i z kn S.under htn hi hz S.pos g n cap cur hg m hl h1 hm63 hmb hroom hfit
      refine ⟨_, _, hr, ⟨hlen, .inr ⟨g, cap, _, rfl, hbg, setRow_heap w g cur _ e _ hg, hroom, hcm, ?_, ?_⟩⟩, ?_, fun k hk => .inl hk⟩
      · simp only [List.size_toArray, List.length_append, List.length_take, List.length_drop, Array.length_toList, hl]
        rw [Array.length_toList] at hl
        omega
      · rw [htake, ← hlen]
        exact List.take_left
      · exact ⟨rfl, rfl, rfl, by simp, fun k _ hk => setRow_other w g k _ (fun e => hk (by simp [Value.ownBlock, e]))⟩
    · have hm : m ≠ 0 := by omega
      have holds : ∀ j u, xs[j]? = some u → w.cell? ((⟨g, 0, none⟩ : Addr).add j) = some u := hown.cells (g := g) rfl
      have hr := run_append_zeros_grow (P := P) w t tn ty e i z kn S.under htn hi hz S.pos ⟨g, 0, none⟩ n cap xs hown.1 holds m hm hm63 hmb (by omega) (by omega) (growslice_fits (by omega) hbytes)
      have hgr := grown cap (by omega)
      exact ⟨_, _, hr, hgr.1, hgr.2.mono (by simp), fun k hk => .inr (by simp [Value.ownBlock] at hk; omega)⟩
/-- the operation, for the walk -/
theorem wpList_append_zeros {P : Program} {w : World} {ops : Array Oper} {rest : List Oper} {o : Oper} {a : Act} {Q : Exit → Act → World → Prop} {t tn e : TypeId} {size bytes : Nat} {z : Value} (S : SliceTy P t e size bytes z) {kn : IntKind} (htn : P.underlying tn = some (.int kn)) (hgd : o.guard = none) (s x : Operand)
    (ho : o.op = .call { callee := .builtin .append, args := #[s, x], argTypes := #[t, tn] }) {v : Value} {n : Nat} {xs : List Value} (hs : a.eval s = v) (hown : row w e size v n xs) {m : Nat} (hx : a.eval x = .int .i64 m) (zs : List Value) (hzs : (Builtin.zeroCells z.cells m).toList = zs) (h1 : ∀ u ∈ zs, u.oneCell' = true)
    (hm63 : m ≤ 1000000) (hbytes : (n + m) * bytes ≤ 140737488355328) (h63 : n + m ≤ maxLen)
    (h : ∀ v' w', row w' e size v' (n + m) (xs ++ zs) → Ch v.ownBlock.toList w w' → (∀ k, v'.ownBlock = some k → v.ownBlock = some k ∨ w.heap.size ≤ k) → wpList P ops Q rest (a.put o.dst v') w') : wpList P ops Q (o :: rest) a w := by
  obtain ⟨v', w', hr, h2, h3, h4⟩ := run_append_zeros w S o.type htn v n xs hown m zs hzs h1 hm63 hbytes h63
  exact Lib.wpList_append_run w hgd s x t tn ho v (.int .i64 m) hs hx v' w' hr (h v' w' h2 h3 h4)
end Go
namespace Go.Aig
theorem wvF_app (M : Nat) (ins : List Nat) (a b : List Nd) : ∃ t, (wvF M ins (a ++ b)).1 = (wvF M ins a).1 ++ t := by
  induction b using List.snocRec with
  | nil => exact ⟨[], by simp⟩
  | snoc b x ih =>
    obtain ⟨t, ht⟩ := ih
    obtain ⟨v, hv⟩ := wvF_ext M ins (a ++ b) x
    rw [← List.append_assoc]
    exact ⟨t ++ [v], by rw [hv, ht, List.append_assoc]⟩
/-- what a node is, by its kind -/
theorem wv_node {ns : List Nd} (hw : WF ns) (M : Nat) (ins : List Nat) {n : Nat} {x : Nd} (hx : ns[n]? = some x) :
    (wvF M ins ns).1[n]? = some (if x.k = 3 then wref M (wvF M ins ns).1 x.l &&& wref M (wvF M ins ns).1 x.r else if x.k = 2 then ins.getD (inputs (ns.take n)).length 0 else 0) := by
  have hn := (List.getElem?_eq_some_iff.1 hx).1
  obtain ⟨t, ht⟩ := wvF_app M ins (ns.take (n + 1)) (ns.drop (n + 1))
  rw [List.take_append_drop] at ht
  have h1 : wvF M ins (ns.take (n + 1)) = wvStep M (wvF M ins (ns.take n)) x := by rw [List.take_add_one, hx]; exact wvF_snoc M ins (ns.take n) x
  have hl : (wvF M ins (ns.take n)).1.length = n := by rw [wvF_len, List.length_take]; omega
  have hr : ∀ r, r < 2 * n → wref M (wvF M ins ns).1 r = wref M (wvF M ins (ns.take n)).1 r := fun r hr => by
    obtain ⟨t2, ht2⟩ := wvF_app M ins (ns.take n) (ns.drop n)
    rw [List.take_append_drop] at ht2
    rw [ht2, wref_ext (by omega)]
  have h2 : (wvF M ins (ns.take n)).2 = ins.drop (inputs (ns.take n)).length := by
    have : ∀ ms : List Nd, (wvF M ins ms).2 = ins.drop (inputs ms).length := by
      intro ms
      induction ms using List.snocRec with
      | nil => rfl
      | snoc ms y ih =>
        rw [wvF_snoc]
        unfold wvStep
        split
        · rename_i h; rw [Go.Proofs.Ytnmfdiiehkkjcaa.inputs_append (by omega)]; exact ih
        · split
          · rename_i h; rw [Go.Proofs.Ytnmfdiiehkkjcaa.inputs_input h, List.length_append]; simp only [ih, List.tail_drop, List.length_cons, List.length_nil]
          · rename_i h; rw [Go.Proofs.Ytnmfdiiehkkjcaa.inputs_append h]; exact ih
    exact this _
  have key : (wvF M ins ns).1[n]? = (wvStep M (wvF M ins (ns.take n)) x).1[n]? := by rw [ht, List.getElem?_append_left (by rw [wvF_len, List.length_take]; omega), h1]
  rw [key]
  unfold wvStep
  split
  · rename_i h3
    have hs := hw.sides hx h3
    simp only
    rw [List.getElem?_append_right (by omega), hl, Nat.sub_self, hr x.l (by omega), hr x.r (by omega)]
    rfl
  · split
    · simp only
      rw [List.getElem?_append_right (by omega), hl, Nat.sub_self, h2]
      simp [List.headD_eq_head?_getD, List.head?_drop, List.getD_eq_getElem?_getD]
    · simp only
      rw [List.getElem?_append_right (by omega), hl, Nat.sub_self]
      rfl
/-- words for just as many inputs as there are -/
def fitI (ins : List Nat) (k : Nat) : List Nat := ins.take (min ins.length k) ++ List.replicate (k - ins.length) 0
theorem fitI_len (ins : List Nat) (k : Nat) : (fitI ins k).length = k := by
  unfold fitI
  rw [List.length_append, List.length_take, List.length_replicate]
  omega
theorem fitI_lt {ins : List Nat} (h : ∀ v ∈ ins, v < 2 ^ 64) (k : Nat) : ∀ v ∈ fitI ins k, v < 2 ^ 64 := fun v hv => by
  unfold fitI at hv
  rcases List.mem_append.1 hv with hv | hv
  · exact h v (List.mem_of_mem_take hv)
  · rw [(List.mem_replicate.1 hv).2]; omega
end Go.Aig
namespace Go.Proofs.Ytnmfdiiehkkjcaa
open Go.RowKit Go.Mem Go.Aig
theorem zeros_u64 (m : Nat) : (Builtin.zeroCells (Value.int .u64 0).cells m).toList = u64s (List.replicate m 0) := by
  unfold Builtin.zeroCells u64s
  rw [show (Value.int .u64 0).cells = #[.int .u64 0] from rfl]
  apply List.ext_getElem
  · simp
  · intro i h1 h2
    simp [Nat.mod_one]
theorem eqSliceNilW (w : World) (a : Option Addr) (n c : Nat) : (binOp .eql 33 (.slice a n c) (.slice none 0 0)).run Try.prog w = .ok (.bool a.isNone) w := by
  have h : Try.prog.underlying 33 = some (.slice 45) := Try.underlying33
  simp only [binOp]
  simp [run_equal_slice_nil w _ _ a n c h]
attribute [local go_sem] eqSliceNilW
section
variable {w : World}
set_option maxRecDepth 100000 in
set_option maxHeartbeats 1000000 in
theorem CLu64_is {a : Option Addr} {l : List Nat} (n c : Nat) (hn : l.length = n) (h : Sv w a (u64s l)) (hm : n ≤ 1000000) : Calls Try.prog 26 #[.slice a n c] w fun e w' => ∃ v, e = .returned v ∧ row w' 45 1 v n (u64s l) ∧ (∀ q ∈ v.ownBlock.toList, w.heap.size ≤ q) ∧ Ch [] w w' := by
  subst hn
  cases a with
  | none =>
    have hl : l = [] := by
      cases l with
      | nil => rfl
      | cons y l =>
        obtain ⟨b, o, e, _⟩ := h.cells 0 (.int .u64 y) rfl
        cases e
    subst hl
    clear h
    go_enter Try.func26, Try.ntmps26
    go_wp2_with fail
    go_ret
    exact ⟨_, rfl, ⟨rfl, .inl ⟨rfl, rfl⟩⟩, by simp, Ch.refl _ _⟩
  | some p =>
    have hO : row (w.alloc (.cells #[] 45)) 45 1 (.slice (some ⟨w.heap.size, 0, none⟩) 0 0) 0 [] := ⟨rfl, .inr ⟨w.heap.size, 0, #[], rfl, by omega, heap_alloc_new w _, by omega, by unfold maxLen; omega, rfl, rfl⟩⟩
    have hN : ∀ j u, (u64s l)[j]? = some u → (w.alloc (.cells #[] 45)).cell? (p.add j) = some u := fun j u hu => by
      obtain ⟨b, o, e, hc⟩ := h.cells j u hu
      cases e
      rw [Addr.add_lit]
      exact (((Ch.refl [] w).alloc _).cell (cell_lt hc) (by simp)).trans hc
    have h1 : ∀ u ∈ u64s l, u.oneCell' = true := fun u hu => by
      obtain ⟨r, _, rfl⟩ := List.mem_map.1 hu
      rfl
    have HO := Lib.hid hO; clear hO
    have HN := Lib.hid hN; clear hN h
    have H1 := Lib.hid h1; clear h1
    go_enter Try.func26, Try.ntmps26
    go_wp2_with (at_builtin; go_loud (refine wpList_append_row slU64s rfl _ _ rfl (v := .slice (some ⟨w.heap.size, 0, none⟩) 0 0) (n := 0) (xs := []) rfl HO.out (ad := p) (m := l.length) (c := c) (news := u64s l) rfl (by simp [u64s]) HN.out H1.out (by omega) (by omega) ?_; intro v' w2 hown hC2 hfresh; have HOWN := Lib.hid hown; clear hown; have HC2 := Lib.hid hC2; clear hC2; have HFR := Lib.hid hfresh; clear hfresh))
    go_ret
    have hown := HOWN.out
    rw [Nat.zero_add, List.nil_append] at hown
    refine ⟨_, rfl, hown, fun k hk => ?_, (((Ch.refl [] w).alloc (.cells #[] 45))).trans HC2.out (by simp)⟩
    rcases HFR.out k (by simpa using hk) with e | e
    · simp at e; omega
    · simp at e; omega

end
end Go.Proofs.Ytnmfdiiehkkjcaa
namespace Go.Proofs.Ytnmfdiiehkkjcaa
open Go.RowKit Go.Mem Go.Aig
theorem badIn_range {G : Gra} {m : Nat} (h : m ≤ 2 * G.nodes.length) : badIn G (natInts (List.range m)) = false := by
  unfold badIn natInts
  rw [List.any_map, List.any_eq_false]
  intro r hr
  have := List.mem_range.1 hr
  simp [right]
  omega
theorem nats_natInts (l : List Nat) : nats (natInts l) = l := toNats l
/-- the words of the first references -/
def allW (V : List Nat) (m : Nat) : List Nat := (List.range m).map (wref U64 V)
theorem allW_len (V : List Nat) (m : Nat) : (allW V m).length = m := by simp [allW]
theorem allW_at (V : List Nat) {m r : Nat} (h : r < m) : (allW V m)[r]? = some (wref U64 V r) := by
  unfold allW
  rw [List.getElem?_map, List.getElem?_range h]
  rfl
theorem range_snoc2 (k : Nat) : List.range (2 * (k + 1)) = List.range (2 * k) ++ [2 * k, 2 * k + 1] := by
  rw [show 2 * (k + 1) = 2 * k + 1 + 1 by omega, List.range_succ, List.range_succ, List.append_assoc]
  rfl
theorem words_all {G : Gra} {I : List Nat} (hI : I.length = (inputs G.nodes).length) {m : Nat} (h : m ≤ 2 * G.nodes.length) : wordsR G I (natInts (List.range m)) = (allW (wvF U64 I G.nodes).1 m, 0) := by
  unfold wordsR
  rw [badIn_range h, if_neg (by simp), if_neg (by simpa using hI), nats_natInts]
  rfl
theorem bits_words {G : Gra} {I : List Nat} (hI : I.length = (inputs G.nodes).length) {l : List Int} (hb : badIn G l = false) {kk : Nat} (hk : kk < 64) : bitsR G (I.map fun v => v.testBit kk) l = ((wsOf I G.nodes (nats l)).map fun v => v.testBit kk, 0) := by
  unfold bitsR
  rw [hb, if_neg (by simp), if_neg (by simpa using hI)]
  congr 1
  unfold bsOf wsOf
  rw [List.map_map]
  apply List.map_congr_left
  intro r _
  have := wv_bv (N := 64) hk I G.nodes r
  rw [u64_pow] at this
  show _ = (wref 18446744073709551615 (wvF 18446744073709551615 I G.nodes).1 r).testBit kk
  rw [this]
  congr 1
  funext i
  rw [List.getD_eq_getElem?_getD, List.getD_eq_getElem?_getD, List.getElem?_map]
  cases I[i]? <;> simp
end Go.Proofs.Ytnmfdiiehkkjcaa
namespace Go.Aig
theorem tabE_zero {G : Gra} {l : List Nat} (hr : ∀ r ∈ l, r < 2 * G.nodes.length) (hk : (inputs G.nodes).length ≤ 16) : Go.Proofs.Ytnmfdiiehkkjcaa.tabE G (natInts l) = 0 := by
  have hb : badIn G (natInts l) = false := by
    unfold badIn natInts
    rw [List.any_map, List.any_eq_false]
    intro r h
    have := hr r h
    simp [right]
    omega
  unfold Go.Proofs.Ytnmfdiiehkkjcaa.tabE
  rw [hb, if_neg (by simp), if_neg (by omega)]
theorem table_ok {G : Gra} {r k : Nat} (hr : r < 2 * G.nodes.length) (hk : (inputs G.nodes).length = k) (h16 : k ≤ 16) : Go.Proofs.Ytnmfdiiehkkjcaa.tableR G (r : Int) = (tabW G.nodes (Go.Proofs.Ytnmfdiiehkkjcaa.oneF r) k, 0) := by
  have h := tabE_zero (G := G) (l := [r]) (by simpa using hr) (by omega)
  unfold Go.Proofs.Ytnmfdiiehkkjcaa.tableR
  rw [show [(r : Int)] = natInts [r] from rfl, h, if_pos rfl, hk]
theorem count_ok {G : Gra} {r k : Nat} (hr : r < 2 * G.nodes.length) (hk : (inputs G.nodes).length = k) (h16 : k ≤ 16) : Go.Proofs.Ytnmfdiiehkkjcaa.countR G (r : Int) = (countV k (tellR G.nodes k r), 0) := by
  have h := tabE_zero (G := G) (l := [r]) (by simpa using hr) (by omega)
  unfold Go.Proofs.Ytnmfdiiehkkjcaa.countR
  rw [show [(r : Int)] = natInts [r] from rfl, h, if_pos rfl, hk]
  rfl
theorem first_ok {G : Gra} {r k : Nat} (hr : r < 2 * G.nodes.length) (hk : (inputs G.nodes).length = k) (h16 : k ≤ 16) : Go.Proofs.Ytnmfdiiehkkjcaa.firstG G (r : Int) = (firstR k (tellR G.nodes k r), 0) := by
  have h := tabE_zero (G := G) (l := [r]) (by simpa using hr) (by omega)
  unfold Go.Proofs.Ytnmfdiiehkkjcaa.firstG
  rw [show [(r : Int)] = natInts [r] from rfl, h, if_pos rfl, hk]
  rfl
theorem parts_ok {G : Gra} {r s k : Nat} (hr : r < 2 * G.nodes.length) (hs : s < 2 * G.nodes.length) (hk : (inputs G.nodes).length = k) (h16 : k ≤ 16) : Go.Proofs.Ytnmfdiiehkkjcaa.partsG G (r : Int) (s : Int) = (firstR k (tellX G.nodes k r s), 0) := by
  have h := tabE_zero (G := G) (l := [r, s]) (by intro x hx; simp only [List.mem_cons, List.not_mem_nil, or_false] at hx; rcases hx with rfl | rfl <;> assumption) (by omega)
  unfold Go.Proofs.Ytnmfdiiehkkjcaa.partsG
  rw [show [(r : Int), (s : Int)] = natInts [r, s] from rfl, h, if_pos rfl, hk]
  rfl
theorem tellR_neg (ns : List Nd) (k r : Nat) : tellR ns k (neg r) = fun a => !tellR ns k r a := by
  funext a
  unfold tellR
  rw [bv_neg]
theorem firstR_len (k : Nat) (p : Nat → Bool) : (firstR k p).1.length = if (firstR k p).2 then k else 0 := by
  unfold firstR
  cases firstV k p with
  | none => rfl
  | some a => simp [asgBits_len]
theorem firstR_is (k : Nat) (p : Nat → Bool) : (firstR k p).2 = decide (0 < countV k p) := by
  cases h : firstV k p with
  | none =>
    have h2 := firstV_none.1 h
    have : ¬ 0 < countV k p := fun h0 => by
      obtain ⟨a, h1, h3⟩ := (countV_pos k p).1 h0
      rw [h2 a h1] at h3; cases h3
    unfold firstR
    rw [h, decide_eq_false this]
  | some a =>
    obtain ⟨h1, h2, _⟩ := firstV_some h
    have : 0 < countV k p := (countV_pos k p).2 ⟨a, h1, h2⟩
    unfold firstR
    rw [h, decide_eq_true this]
/-- the first number below a of which p is true; -1 if there is none -/
def fstI (p : Nat → Bool) (a : Nat) : Int := match (List.range a).find? p with
  | none => -1
  | some x => x
theorem fstI_succ (p : Nat → Bool) (a : Nat) : fstI p (a + 1) = if fstI p a < 0 ∧ p a = true then (a : Int) else fstI p a := by
  unfold fstI
  rw [List.range_succ, List.find?_append]
  cases h : (List.range a).find? p with
  | none =>
    cases hp : p a with
    | false => simp [hp]
    | true => simp [hp]
  | some x => simp; omega
theorem fstI_lt (p : Nat → Bool) (a : Nat) : fstI p a < a ∧ -1 ≤ fstI p a := by
  unfold fstI
  cases h : (List.range a).find? p with
  | none => simp; omega
  | some x =>
    have := List.mem_of_find?_eq_some h
    have := List.mem_range.1 this
    simp; omega
theorem fstI_neg {p : Nat → Bool} {a : Nat} (h : fstI p a < 0) : ∀ b, b < a → p b = false := by
  unfold fstI at h
  cases hf : (List.range a).find? p with
  | none =>
    intro b hb
    have := List.find?_eq_none.1 hf b (List.mem_range.2 hb)
    simpa using this
  | some x => rw [hf] at h; simp at h; omega
theorem cnt_succ (p : Nat → Bool) (a : Nat) : ((List.range (a + 1)).filter p).length = ((List.range a).filter p).length + (p a).toNat := by
  rw [List.range_succ, List.filter_append, List.length_append]
  cases h : p a <;> simp [h]
end Go.Aig
namespace Go.Proofs.Ytnmfdiiehkkjcaa
open Go.RowKit Go.Mem Go.Aig
theorem tab_bit64 {T : List Nat} {n : Nat} {p : Nat → Bool} (h : TabOf T n p) (hT : ∀ v ∈ T, v < 2 ^ 64) {a : Nat} (ha : a < 2 ^ n) : ∃ x, T[a / 64]? = some x ∧ (bits .and .u64 ((x : Int) / 2 ^ (a % 64)) 1 == 1) = p a := by
  have hle := blocks_le n
  have hl : a / 64 < T.length := by rw [h.len]; omega
  refine ⟨T[a / 64], List.getElem?_eq_getElem hl, ?_⟩
  rw [bit_u64 _ _ (hT _ (List.getElem_mem hl)), ← h.at' a ha]
  unfold tbit
  rw [List.getD_eq_getElem?_getD, List.getElem?_eq_getElem hl]
  rfl
theorem bits_one {G : Gra} {k a r : Nat} (hk : (inputs G.nodes).length = k) (hr : r < 2 * G.nodes.length) : bitsR G (asgBits k a) [(r : Int)] = ([tellR G.nodes k r a], 0) := by
  have hb : badIn G (natInts [r]) = false := by
    unfold badIn natInts
    simp [right]
    omega
  unfold bitsR
  rw [show [(r : Int)] = natInts [r] from rfl, hb, if_neg (by simp), if_neg (by rw [asgBits_len, hk]; simp), nats_natInts]
  unfold bsOf tellR
  rw [asgBits_at]
  rfl
theorem Eqbool_c {w : World} {a b : Option Addr} {xs ys : List Bool} {n m ca cb : Nat} (hx : Sb w a xs) (hy : Sb w b ys) (hn : xs.length = n) (hm : ys.length = m) {q : Bool} (hq : decide (xs = ys) = q) :
    Calls Try.prog 25 #[.slice a n ca, .slice b m cb] w fun e w' => e = .returned (.bool q) ∧ Ch [] w w' := by
  subst hn hm hq
  exact Eqbool_is ca cb hx hy
end Go.Proofs.Ytnmfdiiehkkjcaa
namespace Go.Aig
def addG (G : Gra) (x y : List Int) : Gra × List Nat × Nat := wordG G [x, y] (sumW x.length (G, 0) ((nats x).zip (nats y)) 0)
/-- nothing parts two references, out of the words for all assignments -/
theorem parts_no {G : Gra} {N r s : Nat} (hi : (inputs G.nodes).length = N) (h16 : N ≤ 16) (hr : r < 2 * G.nodes.length) (hs : s < 2 * G.nodes.length)
    (hw : wref (2 ^ 2 ^ N - 1) (allV N G.nodes) r = wref (2 ^ 2 ^ N - 1) (allV N G.nodes) s) : Go.Proofs.Ytnmfdiiehkkjcaa.partsG G (r : Int) (s : Int) = (([], false), 0) := by
  rw [parts_ok hr hs hi h16]
  have : firstV N (tellX G.nodes N r s) = none := firstV_none.2 fun a ha => by
    unfold tellX
    rw [← allV_bit ha, ← allV_bit ha, hw, Bool.xor_self]
  unfold firstR
  rw [this]
def noP (N : Nat) (G : Gra) (V : List Nat) (r s : Nat) : Bool := decide (r < 2 * G.nodes.length) && decide (s < 2 * G.nodes.length) && wref (2 ^ 2 ^ N - 1) V r == wref (2 ^ 2 ^ N - 1) V s
theorem noP_parts {N : Nat} {G : Gra} {r s : Nat} (hi : (inputs G.nodes).length = N) (h16 : N ≤ 16) (h : noP N G (allV N G.nodes) r s = true) : Go.Proofs.Ytnmfdiiehkkjcaa.partsG G (r : Int) (s : Int) = (([], false), 0) := by
  unfold noP at h
  simp only [Bool.and_eq_true, decide_eq_true_eq, beq_iff_eq] at h
  exact parts_no hi h16 h.1.1 h.1.2 h.2
def noPs (N : Nat) (G : Gra) (V a b : List Nat) : Bool := (List.range a.length).all fun i => noP N G V (a.getD i 0) (b.getD i 0)
def okW (n : Nat) (A : Gra × List Nat × Nat) : Bool := A.2.2 == 0 && A.2.1.length == n && A.2.1.all fun r => decide (r ≤ 1000000)
theorem okW_is {n : Nat} {A : Gra × List Nat × Nat} (h : okW n A = true) : A.2.2 = 0 ∧ A.2.1.length = n ∧ ∀ q ∈ A.2.1, q ≤ 1000000 := by
  unfold okW at h
  simp only [Bool.and_eq_true, beq_iff_eq] at h
  exact ⟨h.1.1, h.1.2, fun q hq => of_decide_eq_true (List.all_eq_true.1 h.2 q hq)⟩
theorem noP_lt {N : Nat} {G : Gra} {V : List Nat} {r s : Nat} (h : noP N G V r s = true) : r < 2 * G.nodes.length ∧ s < 2 * G.nodes.length := by
  unfold noP at h
  simp only [Bool.and_eq_true, decide_eq_true_eq, beq_iff_eq] at h
  exact h.1
end Go.Aig
namespace Go.Mem
open Go.MapKept
/-- the map holds just these keys and values -/
def UMap (w : World) (mb : Nat) (L : List (Nat × Value)) : Prop := ∃ es clock, w.heap[mb]? = some (.map es clock) ∧ (es.toList.map fun e => (e.key, e.val)) = L.map fun p => (Value.int .u8 p.1, p.2)
theorem UMap.of_heap {w w' : World} {mb : Nat} {L : List (Nat × Value)} (h : UMap w mb L) (e : w'.heap[mb]? = w.heap[mb]?) : UMap w' mb L := by
  obtain ⟨es, clock, h1, h2⟩ := h
  exact ⟨es, clock, e.trans h1, h2⟩
theorem UMap.lt {w : World} {mb : Nat} {L : List (Nat × Value)} (h : UMap w mb L) : mb < w.heap.size := by
  obtain ⟨es, clock, h1, _⟩ := h
  exact (Array.getElem?_eq_some_iff.1 h1).1
theorem UMap.ch {F : List Nat} {w w' : World} {mb : Nat} {L : List (Nat × Value)} (h : UMap w mb L) (hc : Ch F w w') (hF : mb ∉ F) : UMap w' mb L := h.of_heap (hc.block mb h.lt hF)
section
variable {P : Program} {w : World} {T K E : TypeId} {mb : Nat} {L : List (Nat × Value)}
theorem UMap.find (h : UMap w mb L) (n : Nat) : ∃ es clock, w.heap[mb]? = some (.map es clock) ∧ (es.toList.map fun e => (e.key, e.val)) = (L.map fun p => (Value.int .u8 p.1, p.2)) ∧
    ((Instr.findNow (.int .u8) (.int .u8 n) es.toList 0 = some none ∧ n ∉ L.map Prod.fst) ∨ (∃ j v, Instr.findNow (.int .u8) (.int .u8 n) es.toList 0 = some (some (j, v)) ∧ L[j]? = some (n, v))) := by
  obtain ⟨es, clock, h1, h2⟩ := h
  have hk : IsKey (.int .u8) (.int .u8 (n : Int)) := by simp [IsKey]
  have hat : ∀ (j : Nat) (e : MapEntry), es.toList[j]? = some e → ∃ m v, L[j]? = some (m, v) ∧ e.key = .int .u8 (m : Nat) ∧ e.val = v := fun j e he => by
    have := congrArg (fun l => l[j]?) h2
    simp only [List.getElem?_map, he, Option.map_some] at this
    cases hL : L[j]? with
    | none => rw [hL] at this; cases this
    | some m => rw [hL] at this; simp at this; exact ⟨m.1, m.2, rfl, this.1, this.2⟩
  have hks : ∀ x ∈ es.toList, IsKey (.int .u8) x.key := fun x hx => by
    obtain ⟨j, hj⟩ := List.mem_iff_getElem?.1 hx
    obtain ⟨m, v, _, hm, _⟩ := hat j x hj
    rw [hm]; simp [IsKey]
  refine ⟨es, clock, h1, h2, ?_⟩
  rcases findNow_spec hk es.toList 0 hks with ⟨q1, q2⟩ | ⟨j, e, q1, q2, q3⟩
  · refine .inl ⟨q1, fun hn => ?_⟩
    obtain ⟨⟨n', v⟩, hp, rfl⟩ := List.mem_map.1 hn
    obtain ⟨j, hj⟩ := List.mem_iff_getElem?.1 hp
    have hlt := (List.getElem?_eq_some_iff.1 hj).1
    have hsz : es.toList.length = L.length := by have := congrArg List.length h2; simpa using this
    obtain ⟨m, v', hm, hkm, _⟩ := hat j _ (List.getElem?_eq_getElem (by rw [hsz]; exact hlt))
    rw [hj] at hm; cases hm
    exact q2 _ (List.getElem_mem _) hkm
  · obtain ⟨m, v, hm, hkm, hv⟩ := hat j e q2
    rw [q3] at hkm
    simp at hkm
    obtain rfl : n = m := by omega
    rw [hv, Nat.zero_add] at q1
    exact .inr ⟨j, v, q1, hm⟩
theorem UMap.lookup_yes (hT : P.underlying T = some (.map K E)) (hK : P.underlying K = some (.int .u8)) (h : UMap w mb L) {n : Nat} {v : Value} (hm : (n, v) ∈ L) (hu : ∀ v', (n, v') ∈ L → v' = v) :
    (Instr.lookup T (.map (some mb)) (.int .u8 n) false).run P w = .ok v w ∧ (Instr.lookup T (.map (some mb)) (.int .u8 n) true).run P w = .ok (.tuple #[v, .bool true]) w := by
  have hk : IsKey (.int .u8) (.int .u8 (n : Int)) := by simp [IsKey]
  obtain ⟨es, clock, h1, _, ⟨q, hn⟩ | ⟨j, v', q, hn⟩⟩ := h.find n
  · exact absurd (List.mem_map.2 ⟨_, hm, rfl⟩) hn
  · rw [hu v' (List.mem_of_getElem? hn)] at q
    unfold Instr.lookup
    constructor <;> simp [run_underlying hT, run_getMap h1, run_checkKey hK hk, run_findKey hK q]
theorem UMap.lookup_no (hT : P.underlying T = some (.map K E)) (hK : P.underlying K = some (.int .u8)) {z : Value} (hz : ∀ w, (zeroValue E).run P w = .ok z w) (h : UMap w mb L) {n : Nat} (hm : n ∉ L.map Prod.fst) :
    (Instr.lookup T (.map (some mb)) (.int .u8 n) false).run P w = .ok z w ∧ (Instr.lookup T (.map (some mb)) (.int .u8 n) true).run P w = .ok (.tuple #[z, .bool false]) w := by
  have hk : IsKey (.int .u8) (.int .u8 (n : Int)) := by simp [IsKey]
  obtain ⟨es, clock, h1, _, ⟨q, hn⟩ | ⟨j, v', q, hn⟩⟩ := h.find n
  · unfold Instr.lookup
    constructor <;> simp [run_underlying hT, run_getMap h1, run_checkKey hK hk, run_findKey hK q, hz]
  · exact absurd (List.mem_map.2 ⟨_, List.mem_of_getElem? hn, rfl⟩) hm
theorem UMap.set (hT : P.underlying T = some (.map K E)) (hK : P.underlying K = some (.int .u8)) (h : UMap w mb L) {n : Nat} (hn : n ∉ L.map Prod.fst) (v : Value) :
    ∃ w', (Instr.mapUpdate T (.map (some mb)) (.int .u8 n) v).run P w = .ok () w' ∧ Ch [mb] w w' ∧ UMap w' mb (L ++ [(n, v)]) := by
  have hk : IsKey (.int .u8) (.int .u8 (n : Int)) := by simp [IsKey]
  have hch : ∀ (o : Obj), Ch [mb] w { w with heap := w.heap.setIfInBounds mb o } := fun o => ⟨rfl, rfl, rfl, by simp, fun j _ hj => Array.getElem?_setIfInBounds_ne (by simp at hj; omega)⟩
  obtain ⟨es, clock, h1, h2, ⟨q, _⟩ | ⟨j, v', q, hn2⟩⟩ := h.find n
  · have hlt := (Array.getElem?_eq_some_iff.1 h1).1
    refine ⟨_, by simp [Instr.mapUpdate, run_underlying hT, run_getMap h1, run_checkKey hK hk, run_findKey hK q, run_setMap h1, Result.andThen]; rfl, hch _, ⟨_, _, Array.getElem?_setIfInBounds_self_of_lt hlt, ?_⟩⟩
    rw [Array.toList_push, List.map_append, h2]; simp
  · exact absurd (List.mem_map.2 ⟨_, List.mem_of_getElem? hn2, rfl⟩) hn
end
end Go.Mem
namespace Go.Aig
def rightB (n : Int) : Bool := decide (1 ≤ n) && decide (n ≤ 16)
end Go.Aig
namespace Go.Proofs.Ytnmfdiiehkkjcaa
open Go.RowKit Go.Mem Go.Aig
theorem mT25 : Try.prog.underlying 187 = some (.map 109 123) := by kernel_rfl
theorem mK25 : Try.prog.underlying 109 = some (.int .u8) := by kernel_rfl
theorem mZ25 (w : World) : (zeroValue 123).run Try.prog w = .ok .nilFunc w := by kernel_rfl
/-- the two sides: from where a bit comes -/
def sides25 : List (Nat × Value) := [(1, .func (.func 190) #[] #[]), (2, .func (.func 191) #[] #[])]
section
variable {w : World}
set_option maxRecDepth 100000 in
set_option maxHeartbeats 1000000 in
theorem moves25_is : Calls Try.prog 133 #[] w fun e w' => ∃ mb, e = .returned (.map (some mb)) ∧ UMap w' mb sides25 ∧ Ch [] w w' := by
  have hmm := @run_makeMap Try.prog
  have h0 : UMap (w.alloc (.map #[] 0)) w.heap.size [] := ⟨#[], 0, heap_alloc_new w _, rfl⟩
  obtain ⟨w1, r1, c1, u1⟩ := h0.set mT25 mK25 (n := 1) (by simp) (.func (.func 190) #[] #[])
  obtain ⟨w2, r2, c2, u2⟩ := u1.set mT25 mK25 (n := 2) (by simp) (.func (.func 191) #[] #[])
  rw [show ((1 : Nat) : Int) = 1 from rfl] at r1
  rw [show ((2 : Nat) : Int) = 2 from rfl] at r2
  have hc : Ch [] w w2 := (((Ch.refl [] w).alloc (.map #[] 0)).trans c1 (by simp)).trans c2 (by simp)
  have HC := Lib.hid hc
  have HU := Lib.hid u2
  clear h0 c1 u1 c2 u2 hc
  go_enter Try.func133, Try.ntmps133
  go_wp2_with fail
  go_ret
  exact ⟨_, rfl, HU.out, HC.out⟩
theorem sides_at {mb : Nat} (h : UMap w mb sides25) {side : Nat} (hs : side = 1 ∨ side = 2) :
    (Instr.lookup 187 (.map (some mb)) (.int .u8 side) false).run Try.prog w = .ok (.func (.func (if side = 1 then 190 else 191)) #[] #[]) w ∧
    (Instr.lookup 187 (.map (some mb)) (.int .u8 side) true).run Try.prog w = .ok (.tuple #[.func (.func (if side = 1 then 190 else 191)) #[] #[], .bool true]) w := by
  rcases hs with rfl | rfl
  · exact h.lookup_yes mT25 mK25 (n := 1) (by simp [sides25]) (by simp [sides25])
  · exact h.lookup_yes mT25 mK25 (n := 2) (by simp [sides25]) (by simp [sides25])
theorem sides_no {mb : Nat} (h : UMap w mb sides25) {side : Nat} (hs : side ≠ 1 ∧ side ≠ 2) :
    (Instr.lookup 187 (.map (some mb)) (.int .u8 side) false).run Try.prog w = .ok .nilFunc w ∧
    (Instr.lookup 187 (.map (some mb)) (.int .u8 side) true).run Try.prog w = .ok (.tuple #[.nilFunc, .bool false]) w :=
  h.lookup_no mT25 mK25 mZ25 (n := side) (by simp [sides25]; omega)
theorem fnvm1 : Fnv 190 := fnv_of Try.func190 (by simp [Try.f190]) (by simp [Try.f190])
theorem fnvm2 : Fnv 191 := fnv_of Try.func191 (by simp [Try.f191]) (by simp [Try.f191])
set_option maxRecDepth 100000 in
set_option maxHeartbeats 1000000 in
theorem m251_is (i n : Int) (hi : 0 ≤ i) (hi2 : i ≤ 1000000) (hn : 0 ≤ n) (hn2 : n ≤ 1000000) : Calls Try.prog 190 #[.int .i64 i, .int .i64 n] w fun e w' => e = .returned (.int .i64 (i - n)) ∧ w = w' := by
  go_enter Try.func190, Try.ntmps190
  go_wp2_with fail
  go_ret
  exact ⟨rfl, rfl⟩
set_option maxRecDepth 100000 in
set_option maxHeartbeats 1000000 in
theorem m252_is (i n : Int) (hi : 0 ≤ i) (hi2 : i ≤ 1000000) (hn : 0 ≤ n) (hn2 : n ≤ 1000000) : Calls Try.prog 191 #[.int .i64 i, .int .i64 n] w fun e w' => e = .returned (.int .i64 (i + n)) ∧ w = w' := by
  go_enter Try.func191, Try.ntmps191
  go_wp2_with fail
  go_ret
  exact ⟨rfl, rfl⟩
set_option maxRecDepth 100000 in
set_option maxHeartbeats 1000000 in
theorem right25_is (n : Int) : Calls Try.prog 134 #[.int .i64 n] w fun e w' => e = .returned (.bool (rightB n)) ∧ w = w' := by
  unfold rightB
  by_cases h1 : 1 ≤ n
  · rw [show decide (1 ≤ n) = true from decide_eq_true h1]
    go_enter Try.func134, Try.ntmps134
    go_wp2_with fail
    go_ret
    exact ⟨by simp [h1], rfl⟩
  · rw [show decide (1 ≤ n) = false from decide_eq_false h1]
    go_enter Try.func134, Try.ntmps134
    go_wp2_with fail
    go_ret
    exact ⟨by simp [h1], rfl⟩
end
end Go.Proofs.Ytnmfdiiehkkjcaa
namespace Go.Aig
theorem chk2_w {G : Gra} {x y : List Int} (h : rightW x.length = false) : chk G [x, y] = 230 := by
  unfold chk badAs
  simp [h]
theorem chk2_d {G : Gra} {x y : List Int} (h : y.length ≠ x.length) : chk G [x, y] = 230 := by
  unfold chk badAs
  have e : ((y.length : Int) != (x.length : Int)) = true := bne_iff_ne.2 (by omega)
  simp [e]
theorem chk2_r {G : Gra} {x y : List Int} (h : rightW x.length = true) (hd : y.length = x.length) (hb : badIn G x = true ∨ badIn G y = true) : chk G [x, y] = 200 := by
  unfold chk badAs
  rcases hb with hb | hb <;> simp [h, hd, hb]
theorem chk1_w {G : Gra} {x : List Int} (h : rightW x.length = false) : chk G [x] = 230 := by
  unfold chk badAs
  simp [h]
theorem chk1_r {G : Gra} {x : List Int} (h : rightW x.length = true) (hb : badIn G x = true) : chk G [x] = 200 := by
  unfold chk badAs
  simp [h, hb]
theorem badIn_set {G : Gra} {x : List Int} {i : Nat} {r : Int} (hi : i < x.length) (hr : right G.nodes r = false) : badIn G (x.set i r) = true := by
  unfold badIn
  rw [List.any_eq_true]
  exact ⟨r, List.mem_of_getElem? (i := i) (by rw [List.getElem?_set_self hi]), by simp [hr]⟩
theorem wordG_no {G : Gra} {ws : List (List Int)} (R : Mk × List Nat) {e : Nat} (he : chk G ws = e) (h0 : e ≠ 0) : wordG G ws R = (G, [], e) := by
  subst he
  unfold wordG
  rw [if_pos h0]
theorem refG_no {G : Gra} {ws : List (List Int)} (R : Mk × Nat) {e : Nat} (he : chk G ws = e) (h0 : e ≠ 0) : refG G ws R = (G, 0, e) := by
  subst he
  unfold refG
  rw [if_pos h0]
theorem negG_no (G : Gra) {e : Nat} (h0 : e ≠ 0) : negG (G, 0, e) = (G, 0, e) := by
  unfold negG
  rw [if_pos h0]
end Go.Aig
namespace Go.Proofs.Ytnmfdiiehkkjcaa
open Go.RowKit Go.Mem Go.Aig
section
variable {w0 : Base} {w : World} {g : Nat} {G : Gra} {F : List Nat} {L : List (Value × List Int)}
theorem Hold.tail {p : Value × List Int} (h : Hold w0 w g G F (p :: L)) : Hold w0 w g G F L := ⟨h.own, fun q hq => h.held q (List.mem_cons_of_mem _ hq), h.kept⟩
theorem Hold.sub {L' : List (Value × List Int)} (h : Hold w0 w g G F L) (hs : ∀ p ∈ L', p ∈ L) : Hold w0 w g G F L' := ⟨h.own, fun q hq => h.held q (hs q hq), h.kept⟩
theorem Hold.nil (h : Hold w0 w g G F L) : Hold w0 w g G F ((.slice none 0 0, []) :: L) := ⟨h.own, fun p hp => by
  rcases List.mem_cons.1 hp with rfl | hp
  · exact ⟨⟨rfl, .inl ⟨rfl, rfl⟩⟩, by simp, by simp, fun k hk => by simp at hk⟩
  · exact h.held p hp, h.kept⟩
theorem wno {fid : FuncId} {args : Array Value} {e : Nat} (h : Calls Try.prog fid args w fun en w' => ∃ a c F', en = .returned (.tuple #[.slice a 0 c, .int .i64 e]) ∧ Hold w0 w' g G F' ((.slice a 0 c, natInts []) :: L)) :
    Calls Try.prog fid args w fun en w' => ∃ a c F', en = .returned (.tuple #[.slice a 0 c, .int .i64 e]) ∧ Hold w0 w' g G F' L := by
  refine h.mono ?_
  rintro en w' ⟨a, c, F', rfl, hh⟩
  exact ⟨a, c, F', rfl, hh.tail⟩
theorem sXor_no (h : Hold w0 w g G F L) {xa ya : Option Addr} {xl yl : List Int} {n m xc yc : Nat} (hx : (.slice xa n xc, xl) ∈ L) (hxn : xl.length = n) (hy : (.slice ya m yc, yl) ∈ L) (hym : yl.length = m) {e : Nat} (he : chk G [xl, yl] = e) (h0 : e ≠ 0) :
    Calls Try.prog 103 #[.pointer (some ⟨g, 0, none⟩), .slice xa n xc, .slice ya m yc] w fun en w' => ∃ a c F', en = .returned (.tuple #[.slice a 0 c, .int .i64 e]) ∧ Hold w0 w' g G F' L := wno (sXor_h h hx hxn hy hym (wordG_no _ he h0) rfl (by simp) (by omega))
theorem sAdd_no (h : Hold w0 w g G F L) {xa ya : Option Addr} {xl yl : List Int} {n m xc yc : Nat} (hx : (.slice xa n xc, xl) ∈ L) (hxn : xl.length = n) (hy : (.slice ya m yc, yl) ∈ L) (hym : yl.length = m) {e : Nat} (he : chk G [xl, yl] = e) (h0 : e ≠ 0) :
    Calls Try.prog 50 #[.pointer (some ⟨g, 0, none⟩), .slice xa n xc, .slice ya m yc] w fun en w' => ∃ a c F', en = .returned (.tuple #[.slice a 0 c, .int .i64 e]) ∧ Hold w0 w' g G F' L := wno (sAdd_h h hx hxn hy hym (wordG_no _ he h0) rfl (by simp) (by omega))
theorem sSub_no (h : Hold w0 w g G F L) {xa ya : Option Addr} {xl yl : List Int} {n m xc yc : Nat} (hx : (.slice xa n xc, xl) ∈ L) (hxn : xl.length = n) (hy : (.slice ya m yc, yl) ∈ L) (hym : yl.length = m) {e : Nat} (he : chk G [xl, yl] = e) (h0 : e ≠ 0) :
    Calls Try.prog 51 #[.pointer (some ⟨g, 0, none⟩), .slice xa n xc, .slice ya m yc] w fun en w' => ∃ a c F', en = .returned (.tuple #[.slice a 0 c, .int .i64 e]) ∧ Hold w0 w' g G F' L := wno (sSub_h h hx hxn hy hym (by unfold subG; exact wordG_no _ he h0) rfl (by simp) (by omega))
theorem sNe_no (h : Hold w0 w g G F L) {xa ya : Option Addr} {xl yl : List Int} {n m xc yc : Nat} (hx : (.slice xa n xc, xl) ∈ L) (hxn : xl.length = n) (hy : (.slice ya m yc, yl) ∈ L) (hym : yl.length = m) {e : Nat} (he : chk G [xl, yl] = e) (h0 : e ≠ 0) :
    Calls Try.prog 54 #[.pointer (some ⟨g, 0, none⟩), .slice xa n xc, .slice ya m yc] w fun en w' => ∃ F', en = .returned (.tuple #[.int .i64 (0 : Nat), .int .i64 e]) ∧ Hold w0 w' g G F' L := sNe_h h hx hxn hy hym (refG_no _ he h0)
theorem sLt_no (h : Hold w0 w g G F L) {xa ya : Option Addr} {xl yl : List Int} {n m xc yc : Nat} (hx : (.slice xa n xc, xl) ∈ L) (hxn : xl.length = n) (hy : (.slice ya m yc, yl) ∈ L) (hym : yl.length = m) {e : Nat} (he : chk G [xl, yl] = e) (h0 : e ≠ 0) :
    Calls Try.prog 56 #[.pointer (some ⟨g, 0, none⟩), .slice xa n xc, .slice ya m yc] w fun en w' => ∃ F', en = .returned (.tuple #[.int .i64 (0 : Nat), .int .i64 e]) ∧ Hold w0 w' g G F' L := sLt_h h hx hxn hy hym (refG_no _ he h0)
theorem sEq_no (h : Hold w0 w g G F L) {xa ya : Option Addr} {xl yl : List Int} {n m xc yc : Nat} (hx : (.slice xa n xc, xl) ∈ L) (hxn : xl.length = n) (hy : (.slice ya m yc, yl) ∈ L) (hym : yl.length = m) {e : Nat} (he : chk G [xl, yl] = e) (h0 : e ≠ 0) :
    Calls Try.prog 104 #[.pointer (some ⟨g, 0, none⟩), .slice xa n xc, .slice ya m yc] w fun en w' => ∃ F', en = .returned (.tuple #[.int .i64 (0 : Nat), .int .i64 e]) ∧ Hold w0 w' g G F' L := sEq_h h hx hxn hy hym (by rw [refG_no _ he h0, negG_no _ h0])
theorem sLe_no (h : Hold w0 w g G F L) {xa ya : Option Addr} {xl yl : List Int} {n m xc yc : Nat} (hx : (.slice xa n xc, xl) ∈ L) (hxn : xl.length = n) (hy : (.slice ya m yc, yl) ∈ L) (hym : yl.length = m) {e : Nat} (he : chk G [yl, xl] = e) (h0 : e ≠ 0) :
    Calls Try.prog 57 #[.pointer (some ⟨g, 0, none⟩), .slice xa n xc, .slice ya m yc] w fun en w' => ∃ F', en = .returned (.tuple #[.int .i64 (0 : Nat), .int .i64 e]) ∧ Hold w0 w' g G F' L := sLe_h h hx hxn hy hym (by rw [refG_no _ he h0, negG_no _ h0])
theorem sNeg_no (h : Hold w0 w g G F L) {xa : Option Addr} {xl : List Int} {n xc : Nat} (hx : (.slice xa n xc, xl) ∈ L) (hxn : xl.length = n) {e : Nat} (he : chk G [List.replicate n 0, xl] = e) (h0 : e ≠ 0) :
    Calls Try.prog 52 #[.pointer (some ⟨g, 0, none⟩), .slice xa n xc] w fun en w' => ∃ a c F', en = .returned (.tuple #[.slice a 0 c, .int .i64 e]) ∧ Hold w0 w' g G F' L := wno (sNeg_h h hx hxn (by unfold subG; exact wordG_no _ he h0) rfl (by simp) (by omega))
theorem sAny_no (h : Hold w0 w g G F L) {xa : Option Addr} {xl : List Int} {n xc : Nat} (hx : (.slice xa n xc, xl) ∈ L) (hxn : xl.length = n) {e : Nat} (he : chk G [xl] = e) (h0 : e ≠ 0) :
    Calls Try.prog 55 #[.pointer (some ⟨g, 0, none⟩), .slice xa n xc] w fun en w' => ∃ F', en = .returned (.tuple #[.int .i64 (0 : Nat), .int .i64 e]) ∧ Hold w0 w' g G F' L := sAny_h h hx hxn (refG_no _ he h0)
theorem sInput_no (h : Hold w0 w g G F L) (i : Int) (hi : rightW i = false) :
    Calls Try.prog 69 #[.pointer (some ⟨g, 0, none⟩), .int .i64 i] w fun en w' => ∃ a c F', en = .returned (.tuple #[.slice a 0 c, .int .i64 (230 : Nat)]) ∧ Hold w0 w' g G F' L := wno (sInput_h h i (by unfold inG; rw [hi]; rfl) rfl (by simp) (by omega))
theorem sConst_no (h : Hold w0 w g G F L) (x : Nat) (hx : x < 4294967296) (i : Int) (hi : rightW i = false) :
    Calls Try.prog 49 #[.int .u32 x, .int .i64 i] w fun en w' => ∃ a c F', en = .returned (.tuple #[.slice a 0 c, .int .i64 (230 : Nat)]) ∧ Hold w0 w' g G F' L := by
  have hc := sConst_is (w := w) x hx i
  rw [hi] at hc
  refine (Calls.wnew (l := []) (k := 0) h hc rfl (by simp) (by omega)).mono ?_
  rintro en w' ⟨a, c, rfl, hh⟩
  exact ⟨a, c, F, rfl, hh.tail⟩
theorem sCast_no (h : Hold w0 w g G F L) {xa : Option Addr} {xl : List Int} {n xc : Nat} (hx : (.slice xa n xc, xl) ∈ L) (hxn : xl.length = n) (i : Int) (hi : (rightW i && rightW n) = false) :
    Calls Try.prog 70 #[.slice xa n xc, .int .i64 i] w fun en w' => ∃ a c F', en = .returned (.tuple #[.slice a 0 c, .int .i64 (230 : Nat)]) ∧ Hold w0 w' g G F' L := by
  have hc := sCast_is (h.at hx hxn).ok (by have := (h.held _ hx).cap; simp only [hxn]; omega) i
  simp only [WV.val, hxn, hi] at hc
  refine (Calls.wnew (l := []) (k := 0) h hc rfl (by simp) (by omega)).mono ?_
  rintro en w' ⟨a, c, rfl, hh⟩
  exact ⟨a, c, F, rfl, hh.tail⟩
end
end Go.Proofs.Ytnmfdiiehkkjcaa
namespace Go.Proofs.Ytnmfdiiehkkjcaa
open Go.RowKit Go.Mem Go.Aig
theorem max_ii (z q : Int) (ats : Array TypeId) (ty : TypeId) : Builtin.max_ ats ty #[.int .i64 z, .int .i64 q] = pure (.int .i64 (max z q)) := by
  have e : (if z < q then q else z) = max z q := by split <;> omega
  rw [← e]
  simp [Builtin.max_, Builtin.max2]
theorem min_ii (z q : Int) (ats : Array TypeId) (ty : TypeId) : Builtin.min_ ats ty #[.int .i64 z, .int .i64 q] = pure (.int .i64 (min z q)) := by
  have e : (if q < z then q else z) = min z q := by split <;> omega
  rw [← e]
  simp [Builtin.min_, Builtin.min2]
theorem WNew.set {w w' : World} {b n c i : Nat} {l : List Int} (h : WNew w (.slice (some ⟨b, 0, none⟩) n c) (intCells l) w') (hn : l.length = n) (r : Int) : WNew w (.slice (some ⟨b, 0, none⟩) n c) (intCells (l.set i r)) (w'.setCell ⟨b, i, none⟩ (.int .i64 r)) := by
  obtain ⟨h1, h2, h3⟩ := h
  have e : intCells (l.set i r) = (intCells l).set i (.int .i64 r) := by unfold intCells; rw [List.map_set]
  refine ⟨?_, h2, h3.setCell (.inr (h2 b (by simp))) _⟩
  have e2 : (intCells l).length = n := by simp [intCells, hn]
  have e3 : (intCells (l.set i r)).length = n := by simp [intCells, hn]
  rw [e3, e]
  rw [e2] at h1
  exact row.set h1 (.int .i64 r)
theorem WNew.app {w w1 w2 w3 : World} {v v' : Value} {l : List Int} {n : Nat} (h : WNew w v (intCells l) w1) (hc : Ch [] w1 w2) {r : Int} (hn : l.length = n) (hr : row w3 29 1 v' (n + 1) (intCells l ++ [.int .i64 r])) (h23 : Ch v.ownBlock.toList w2 w3) (hf : ∀ k, v'.ownBlock = some k → v.ownBlock = some k ∨ w2.heap.size ≤ k) : WNew w v' (intCells (l ++ [r])) w3 := by
  obtain ⟨h1, h2, h3⟩ := h
  have e : intCells (l ++ [r]) = intCells l ++ [.int .i64 r] := by simp [intCells]
  have e3 : (intCells (l ++ [r])).length = n + 1 := by simp [intCells, hn]
  have h02 := h3.trans hc (by simp)
  refine ⟨by rw [e3, e]; exact hr, fun q hq => ?_, h02.trans h23 (fun k hk => .inr (h2 k hk))⟩
  rcases hf q (by simpa using hq) with h | h
  · exact h2 q (by simpa using h)
  · have := h02.size; omega
theorem bd_set {l : List Int} {i : Nat} {r : Int} (h : ∀ x ∈ l, -9223372036854775808 ≤ x ∧ x ≤ 9223372036854775807) (hr : -9223372036854775808 ≤ r ∧ r ≤ 9223372036854775807) : ∀ x ∈ l.set i r, -9223372036854775808 ≤ x ∧ x ≤ 9223372036854775807 := fun x hx => by
  rcases List.mem_or_eq_of_mem_set hx with hx | rfl
  · exact h x hx
  · exact hr
theorem bd_app {l : List Int} {r : Int} (h : ∀ x ∈ l, -9223372036854775808 ≤ x ∧ x ≤ 9223372036854775807) (hr : -9223372036854775808 ≤ r ∧ r ≤ 9223372036854775807) : ∀ x ∈ l ++ [r], -9223372036854775808 ≤ x ∧ x ≤ 9223372036854775807 := fun x hx => by
  rcases List.mem_append.1 hx with hx | hx
  · exact h x hx
  · rw [List.mem_singleton.1 hx]; exact hr
theorem row_at2 {w : World} {e : TypeId} {b n c : Nat} {vs : List Value} (h : row w e 1 (.slice (some ⟨b, 0, none⟩) n c) n vs) {k : Nat} {v : Value} (hk : vs[k]? = some v) : w.cell? ⟨b, k, none⟩ = some v := by
  have := h.cells (g := b) rfl k v hk
  rw [Addr.add_lit] at this
  simpa using this
theorem row_fz {w : World} {e : TypeId} {b n c : Nat} {vs : List Value} (h : row w e 1 (.slice (some ⟨b, 0, none⟩) n c) n vs) (hn : 0 < n) (k : Nat) : w.frozen? ⟨b, k, none⟩ = false := by
  obtain ⟨b', ys, e1, hb, _⟩ := rowBlk h 0 hn
  cases e1
  exact hb.frozen
theorem WNew.at {w w' : World} {b n c k : Nat} {l : List Int} (h : WNew w (.slice (some ⟨b, 0, none⟩) n c) (intCells l) w') (hn : l.length = n) {r : Int} (hk : l[k]? = some r) : w'.cell? ⟨b, k, none⟩ = some (.int .i64 r) ∧ w'.frozen? ⟨b, k, none⟩ = false := by
  have h1 := h.1
  have e : (intCells l).length = n := by simp [intCells, hn]
  rw [e] at h1
  have hlt := (List.getElem?_eq_some_iff.1 hk).1
  exact ⟨row_at2 h1 (by simp [intCells, hk]), row_fz h1 (by omega) k⟩
theorem sValue_nil {w : World} : Calls Try.prog 105 #[.slice none 0 0, .slice none 0 0] w fun en w' => en = .returned (.tuple #[.int .u32 0, .int .i64 230]) ∧ w = w' := by
  have hc := sValue_is (w := w) (x := ⟨none, [], 0⟩) (by simp) (a := none) (l := []) 0 (by simp) ⟨fun i x hx => by simp at hx, by simp⟩
  exact hc
theorem Hold.fresh {w0 : Base} {w : World} {g : Nat} {G : Gra} {F : List Nat} {L : List (Value × List Int)} (h : Hold w0 w g G F L) {l : List Int} {n : Nat} (hn : l.length = n) (hb : ∀ r ∈ l, -9223372036854775808 ≤ r ∧ r ≤ 9223372036854775807) (hl : n ≤ 1000000) :
    Hold w0 (w.alloc (.cells (intCells l).toArray 29)) g G F ((.slice (some ⟨w.heap.size, 0, none⟩) n n, l) :: L) := by
  subst hn
  have hk : blk (w.alloc (.cells (intCells l).toArray 29)) w.heap.size (intCells l) := blk.new _ _ _
  have e : (intCells l).length = l.length := by simp [intCells]
  have hx : (w.alloc (.cells (intCells l).toArray 29)).heap[w.heap.size]? = some (.cells (intCells l).toArray 29 (0, 0)) := heap_alloc_new w _
  refine ⟨(h.same ((Ch.refl [] _).alloc _)).own, fun p hp => ?_, (h.same ((Ch.refl [] _).alloc _)).kept⟩
  rcases List.mem_cons.1 hp with rfl | hp
  · refine ⟨⟨by simp [intCells], .inr ⟨w.heap.size, l.length, (intCells l).toArray, rfl, by simp, hx, Nat.le_refl _, by unfold maxLen; omega, by simp [intCells], by rw [Nat.mul_one]; exact List.take_of_length_le (by simp [intCells])⟩⟩, hl, hb, fun k hk => ?_⟩
    · simp at hk; subst hk
      exact ⟨h.own.ch.size, fun hin => Nat.lt_irrefl _ (h.own.gin.lt _ hin)⟩
  · exact (h.same ((Ch.refl [] _).alloc _)).held p hp
end Go.Proofs.Ytnmfdiiehkkjcaa
namespace Go.Aig
/-- a word shifted: to the left (1), or to the right -/
def shL (side : Nat) (x : List Int) (n : Nat) : List Int := (List.range x.length).map fun i => if side = 1 then (if n ≤ i then x.getD (i - n) 0 else 0) else x.getD (i + n) 0
@[simp] theorem shL_len (side : Nat) (x : List Int) (n : Nat) : (shL side x n).length = x.length := by simp [shL]
theorem shL_at {side : Nat} {x : List Int} {n i : Nat} (h : i < x.length) : (shL side x n)[i]? = some (if side = 1 then (if n ≤ i then x.getD (i - n) 0 else 0) else x.getD (i + n) 0) := by
  unfold shL
  rw [List.getElem?_map, List.getElem?_range h]
  rfl
theorem shL_bd {side : Nat} {x : List Int} {n : Nat} (h : ∀ r ∈ x, -9223372036854775808 ≤ r ∧ r ≤ 9223372036854775807) : ∀ r ∈ shL side x n, -9223372036854775808 ≤ r ∧ r ≤ 9223372036854775807 := fun r hr => by
  have hd : ∀ j, -9223372036854775808 ≤ x.getD j 0 ∧ x.getD j 0 ≤ 9223372036854775807 := fun j => by
    rw [List.getD_eq_getElem?_getD]
    cases hj : x[j]? with
    | none => simp
    | some r => exact h r (List.mem_of_getElem? hj)
  obtain ⟨i, _, rfl⟩ := List.mem_map.1 hr
  split
  · split
    · exact hd _
    · omega
  · exact hd _
/-- k bits are done -/
def shP (S : List Int) (k : Nat) : List Int := S.take k ++ List.replicate (S.length - k) 0
theorem shP_len {S : List Int} {k : Nat} (h : k ≤ S.length) : (shP S k).length = S.length := by unfold shP; rw [List.length_append, List.length_take, List.length_replicate]; omega
theorem shP_zero (S : List Int) : shP S 0 = List.replicate S.length 0 := by simp [shP]
theorem shP_all (S : List Int) : shP S S.length = S := by simp [shP]
theorem shP_set {S : List Int} {k : Nat} {r : Int} (h : S[k]? = some r) : (shP S k).set k r = shP S (k + 1) := by
  have hlt := (List.getElem?_eq_some_iff.1 h).1
  unfold shP
  rw [List.set_append_right _ _ (by rw [List.length_take]; omega), List.length_take, show k - min k S.length = 0 by omega, show S.length - k = (S.length - (k + 1)) + 1 by omega, List.replicate_succ, List.set_cons_zero, List.take_add_one, h]
  simp
theorem shP_same {S : List Int} {k : Nat} (h : S[k]? = some 0) : shP S k = shP S (k + 1) := by
  have hlt := (List.getElem?_eq_some_iff.1 h).1
  unfold shP
  rw [show S.length - k = (S.length - (k + 1)) + 1 by omega, List.replicate_succ, List.take_add_one, h]
  simp
end Go.Aig
namespace Go.Proofs.Ytnmfdiiehkkjcaa
open Go.RowKit Go.Mem Go.Aig
theorem row_fresh {w W : World} {l : List Int} {n : Nat} (hW : W = w.alloc (.cells (intCells l).toArray 29)) (hn : l.length = n) (hl : n ≤ 1000000) : row W 29 1 (.slice (some ⟨w.heap.size, 0, none⟩) n n) n (intCells l) := by
  subst hn hW
  have hx : (w.alloc (.cells (intCells l).toArray 29)).heap[w.heap.size]? = some (.cells (intCells l).toArray 29 (0, 0)) := heap_alloc_new w _
  exact ⟨by simp [intCells], .inr ⟨w.heap.size, l.length, (intCells l).toArray, rfl, by simp, hx, Nat.le_refl _, by unfold maxLen; omega, by simp [intCells], by rw [Nat.mul_one]; exact List.take_of_length_le (by simp [intCells])⟩⟩
theorem intCells_set (l : List Int) (i : Nat) (r : Int) : intCells (l.set i r) = (intCells l).set i (.int .i64 r) := by unfold intCells; rw [List.map_set]
section
variable {w : World}
set_option maxRecDepth 100000 in
set_option maxHeartbeats 4000000 in
theorem shifted_is {side : Nat} (hs : side = 1 ∨ side = 2) {xa : Option Addr} {xl : List Int} (xc n : Nat) (hS : Sl w xa xl) (hl : xl.length ≤ 1000000) (hn : n ≤ 1000000) :
    Calls Try.prog 170 #[.int .u8 side, .slice xa xl.length xc, .int .i64 n] w fun e w' => ∃ v, e = .returned v ∧ WNew w v (intCells (shL side xl n)) w' := by
  obtain ⟨fid, hfid⟩ : ∃ fid, fid = if side = 1 then 190 else 191 := ⟨_, rfl⟩
  obtain ⟨fr, hfr⟩ : ∃ fr : Int → Int, fr = fun (i : Int) => if side = 1 then i - (n : Int) else i + (n : Int) := ⟨_, rfl⟩
  have hfv : Fnv fid := by
    rcases hs with rfl | rfl
    · rw [hfid]; exact fnvm1
    · rw [hfid]; exact fnvm2
  have hcf : ∀ args w, (callFunc fid args).run Try.prog w = .ok (.enter fid args) w := hfv
  have hfc : ∀ (W : World) (k : Nat), k ≤ 1000000 → Calls Try.prog fid #[.int .i64 k, .int .i64 n] W fun e w' => e = .returned (.int .i64 (fr k)) ∧ W = w' := fun W k hk => by
    rcases hs with rfl | rfl
    · rw [hfid, hfr]; exact m251_is k n (by omega) (by omega) (by omega) (by omega)
    · rw [hfid, hfr]; exact m252_is k n (by omega) (by omega) (by omega) (by omega)
  have hsh : ∀ k : Nat, k < xl.length → (0 ≤ fr k ∧ fr k < xl.length → ∃ (p : Nat) (r : Int), fr k = p ∧ xl[p]? = some r ∧ (shL side xl n)[k]? = some r) ∧ (¬(0 ≤ fr k ∧ fr k < xl.length) → (shL side xl n)[k]? = some 0) := fun k hk => by
    rw [shL_at hk, hfr]
    dsimp only
    rcases hs with rfl | rfl
    · rw [if_pos rfl, if_pos rfl]
      refine ⟨fun h => ⟨k - n, xl[k - n], by omega, List.getElem?_eq_getElem (by omega), ?_⟩, fun h => ?_⟩
      · rw [if_pos (by omega), List.getD_eq_getElem?_getD, List.getElem?_eq_getElem (by omega)]; rfl
      · rw [if_neg (by omega)]
    · rw [if_neg (by omega), if_neg (by omega)]
      refine ⟨fun h => ⟨k + n, xl[k + n], by omega, List.getElem?_eq_getElem (by omega), ?_⟩, fun h => ?_⟩
      · rw [List.getD_eq_getElem?_getD, List.getElem?_eq_getElem (by omega)]; rfl
      · rw [List.getD_eq_getElem?_getD, List.getElem?_eq_none (by omega)]; rfl
  have hfb : ∀ k : Nat, k ≤ 1000000 → -1000000 ≤ fr k ∧ fr k ≤ 2000000 := fun k hk => by
    rw [hfr]; dsimp only; split <;> omega
  obtain ⟨SH, hSH⟩ : ∃ SH, SH = shL side xl n := ⟨_, rfl⟩
  have hSHl : SH.length = xl.length := by rw [hSH]; simp
  rw [← hSH] at hsh ⊢
  have hmk := run_make_refs
  have hat := fun (W : World) (mb : Nat) (h : UMap W mb sides25) => (sides_at h hs).1
  rw [← hfid] at hat
  clear hfid hfr hfv hSH
  have HSH := Lib.hid hsh; clear hsh
  have HFC := Lib.hid hfc; clear hfc
  have HFB := Lib.hid hfb; clear hfb
  have HS := Lib.hid hS; clear hS
  have HAT := Lib.hid hat; clear hat
  have HSL := Lib.hid hSHl; clear hSHl
  have HMK := Lib.hid hmk; clear hmk
  go_enter Try.func170, Try.ntmps170
  go_wp2_with fail
  refine moves25_is.mono ?_
  rintro e w1 ⟨mb, rfl, hum, hc1⟩
  have h7 := HAT.out w1 mb hum
  have hmk := HMK.out w1 xl.length hl
  have HC1 := Lib.hid hc1; clear hc1 hum
  go_wp2_with fail
  refine wp_alw ?_
  intro W0 hW0
  have hz0 : refsCells (List.replicate xl.length 0) = intCells (shP SH 0) := by rw [shP_zero, HSL.out]; simp [refsCells, intCells]
  rw [hz0] at hW0
  have hr0 := row_fresh hW0 (n := xl.length) (by rw [shP_len (by omega), HSL.out]) hl
  have hc0 : Ch [] w W0 := HC1.out.trans (alw_ch hW0) (by simp)
  have hb0 : w.heap.size ≤ w1.heap.size := HC1.out.size
  generalize w1.heap.size = b at hr0 hb0 ⊢
  have HR0 := Lib.hid hr0; clear hr0
  have HC0 := Lib.hid hc0; clear hc0 hW0 hz0 HC1 hmk h7 HAT HMK
  go_loopw [19] (fun i wr => ∃ k : Nat, k ≤ xl.length ∧ i = .int .i64 k ∧ Ch [] w wr ∧ row wr 29 1 (.slice (some ⟨b, 0, none⟩) xl.length xl.length) xl.length (intCells (shP SH k))) (fun i _ => xl.length - (intOf i).toNat)
  case atStart => exact ⟨0, by omega, rfl, HC0.out, HR0.out⟩
  case round =>
    obtain ⟨k, hk, rfl, hc, hrow⟩ := hrel
    clear HR0 HC0
    have HROW := Lib.hid hrow; clear hrow
    have HC := Lib.hid hc; clear hc
    by_cases hlt : k < xl.length
    · obtain ⟨q1, q2⟩ := HSH.out k hlt
      have hf := HFC.out wr k (by omega)
      have hfb := HFB.out k (by omega)
      generalize fr k = z at q1 q2 hf hfb
      have HF := Lib.hid hf; clear hf
      by_cases hz : 0 ≤ z ∧ z < xl.length
      · obtain ⟨p, r, rfl, hxp, hsk⟩ := q1 hz
        obtain ⟨hz1, hz2⟩ := hz
        obtain ⟨xb, xo, rfl, hcl⟩ := HS.out.cells p r hxp
        have c0 := (HC.out.cell (cell_lt hcl) (by simp)).trans hcl
        have d1 : decide ((0 : Int) ≤ p) = true := decide_eq_true (by omega)
        have d2 : decide ((p : Int) < xl.length) = true := decide_eq_true hz2
        have hp : p < xl.length := by omega
        have HSK := Lib.hid hsk
        have k0 : wr.cell? ⟨b, k, none⟩ = some (.int .i64 0) := row_at2 HROW.out (by unfold shP; rw [intCells, List.getElem?_map, List.getElem?_append_right (by simp; omega), List.length_take, List.getElem?_replicate, if_pos (by have := HSL.out; omega)]; rfl)
        have k1 : wr.frozen? ⟨b, k, none⟩ = false := row_fz HROW.out (by omega) k
        clear hxp hcl hsk q1 q2
        go_wp2_with fail
        refine HF.out.mono ?_
        rintro e w3 ⟨rfl, rfl⟩
        go_wp2_with fail
        go_roundw
        case rel =>
          refine ⟨k + 1, by omega, by go_num, HC.out.setCell (.inr hb0) _, ?_⟩
          rw [← shP_set HSK.out, intCells_set]
          exact row.set HROW.out _
        case measure => simp [intOf]; omega
      · have hsk := q2 hz
        have HSK := Lib.hid hsk; clear hsk q1 q2
        by_cases hz0 : 0 ≤ z
        · have d1 : decide ((0 : Int) ≤ z) = true := decide_eq_true (by omega)
          have d2 : decide (z < xl.length) = false := decide_eq_false (by omega)
          clear hz
          go_wp2_with fail
          refine HF.out.mono ?_
          rintro e w3 ⟨rfl, rfl⟩
          go_wp2_with fail
          go_roundw
          case rel => exact ⟨k + 1, by omega, by go_num, HC.out, by rw [← shP_same HSK.out]; exact HROW.out⟩
          case measure => simp [intOf]; omega
        · have d1 : decide ((0 : Int) ≤ z) = false := decide_eq_false (by omega)
          clear hz
          go_wp2_with fail
          refine HF.out.mono ?_
          rintro e w3 ⟨rfl, rfl⟩
          go_wp2_with fail
          go_roundw
          case rel => exact ⟨k + 1, by omega, by go_num, HC.out, by rw [← shP_same HSK.out]; exact HROW.out⟩
          case measure => simp [intOf]; omega
    · have hkl : k = SH.length := by have := HSL.out; omega
      have hrow := HROW.out
      rw [hkl, shP_all] at hrow
      clear HROW hkl
      have HROW := Lib.hid hrow; clear hrow
      go_wp2_with fail
      go_ret
      refine ⟨_, rfl, by simpa [intCells, HSL.out] using HROW.out, by simpa using hb0, HC.out⟩
end
end Go.Proofs.Ytnmfdiiehkkjcaa
namespace Go.Aig
/-- how many bits of a word move a word of a width by less than it -/
def stepsN (w bits : Nat) : Nat := (List.range bits).countP fun k => decide (2 ^ k < w)
theorem stepsN_at {w bits k : Nat} (h : ∀ j, j < k → 2 ^ j < w) (hk : k ≤ bits) (he : k = bits ∨ w ≤ 2 ^ k) : stepsN w bits = k := by
  obtain ⟨m, rfl⟩ : ∃ m, bits = k + m := ⟨bits - k, by omega⟩
  unfold stepsN
  rw [List.range_add, List.countP_append]
  have h1 : (List.range k).countP (fun k => decide (2 ^ k < w)) = k := by
    rw [List.countP_eq_length.2 (fun a ha => decide_eq_true (h a (List.mem_range.1 ha))), List.length_range]
  have h2 : ((List.range m).map (k + ·)).countP (fun k => decide (2 ^ k < w)) = 0 := by
    rw [List.countP_eq_zero]
    intro a ha
    obtain ⟨j, hj, rfl⟩ := List.mem_map.1 ha
    rcases he with e | e
    · have := List.mem_range.1 hj; omega
    · have : 2 ^ k ≤ 2 ^ (k + j) := Nat.pow_le_pow_right (by omega) (by omega)
      simp; omega
  rw [h1, h2]
  rfl
/-- the error of Fixed -/
def fixE (side : Nat) (x : List Int) (n : Int) : Nat := if side ≠ 1 ∧ side ≠ 2 then 251 else if rightB x.length = false then 250 else if n < 0 then 2 else 0
/-- a word turned -/
def turnL (x : List Int) (n : Int) : List Int := let k := (n.emod x.length).toNat; x.drop k ++ x.take k
end Go.Aig
namespace Go.Proofs.Ytnmfdiiehkkjcaa
open Go.RowKit Go.Mem Go.Aig
theorem WNew.since {w w1 w2 : World} {v : Value} {xs : List Value} (h : WNew w1 v xs w2) (hc : Ch [] w w1) : WNew w v xs w2 := ⟨h.1, fun q hq => Nat.le_trans hc.size (h.2.1 q hq), hc.trans h.2.2 (by simp)⟩
section
variable {w : World}
set_option maxRecDepth 100000 in
set_option maxHeartbeats 1000000 in
theorem steps25_is (n m : Nat) (_hn : n ≤ 16) (hm : m ≤ 16) : Calls Try.prog 172 #[.int .i64 n, .int .i64 m] w fun e w' => e = .returned (.int .i64 (stepsN n m)) ∧ w = w' := by
  go_enter Try.func172, Try.ntmps172
  go_wp2_with fail
  go_loopw [5] (fun i wr => ∃ k : Nat, k ≤ m ∧ i = .int .i64 k ∧ wr = w ∧ ∀ j, j < k → 2 ^ j < n) (fun i _ => m - (intOf i).toNat)
  case atStart => exact ⟨0, by omega, rfl, rfl, by omega⟩
  case round =>
    obtain ⟨k, hk, rfl, rfl, hj⟩ := hrel
    by_cases hkm : k < m
    · have hpw : (2 : Nat) ^ k ≤ 2 ^ 16 := Nat.pow_le_pow_right (by omega) (by omega)
      have hpc : ((2 ^ k : Nat) : Int) = (2 : Int) ^ k := by push_cast; rfl
      have hw : wrap64 ((2 : Int) ^ k) = ((2 ^ k : Nat) : Int) := by rw [← hpc]; exact IntWalk.wrap64_in _ ⟨Int.le_trans (by decide) (Int.natCast_nonneg _), Int.le_trans (Int.ofNat_le.2 hpw) (by decide)⟩
      by_cases hlt : 2 ^ k < n
      · have d : decide (wrap64 ((2 : Int) ^ k) < n) = true := by rw [hw]; exact decide_eq_true (by omega)
        clear hw hpc hpw
        have HJ := Lib.hid hj; clear hj
        have HLT := Lib.hid hlt; clear hlt
        go_wp2_with fail
        go_roundw
        case rel => exact ⟨k + 1, by omega, by go_num, by trivial, fun j hj => (by omega : j < k ∨ j = k).elim (HJ.out j) (fun e => e ▸ HLT.out)⟩
        case measure => simp [intOf]; omega
      · have d : decide (wrap64 ((2 : Int) ^ k) < n) = false := by rw [hw]; exact decide_eq_false (by omega)
        have hs := stepsN_at hj hk (.inr (by omega))
        have HS := Lib.hid hs
        clear hs hj hw hpc hpw hlt
        go_wp2_with fail
        go_ret
        exact ⟨by simp [HS.out], rfl⟩
    · have hs := stepsN_at hj hk (.inl (by omega))
      have HS := Lib.hid hs
      clear hs hj
      go_wp2_with fail
      go_ret
      exact ⟨by simp [HS.out], rfl⟩
set_option maxRecDepth 100000 in
set_option maxHeartbeats 1000000 in
theorem Steps_is (n m : Int) : Calls Try.prog 126 #[.int .i64 n, .int .i64 m] w fun e w' => e = .returned (.tuple #[.int .i64 (if rightB n && rightB m then stepsN n.toNat m.toNat else 0 : Nat), .int .i64 (if rightB n && rightB m then 0 else 250 : Nat)]) ∧ w = w' := by
  have hR1 := right25_is (w := w) n
  have hR2 := right25_is (w := w) m
  cases hn : rightB n
  · rw [hn] at hR1
    clear hR2
    go_enter Try.func126, Try.ntmps126
    go_wp2_with fail
    refine hR1.mono ?_
    rintro e w' ⟨rfl, rfl⟩
    go_wp2_with fail
    go_ret2
    exact ⟨rfl, rfl⟩
  · cases hm : rightB m
    · rw [hn] at hR1
      rw [hm] at hR2
      go_enter Try.func126, Try.ntmps126
      go_wp2_with fail
      refine hR1.mono ?_
      rintro e w' ⟨rfl, rfl⟩
      go_wp2_with fail
      refine hR2.mono ?_
      rintro e w' ⟨rfl, rfl⟩
      go_wp2_with fail
      go_ret2
      exact ⟨rfl, rfl⟩
    · rw [hn] at hR1
      rw [hm] at hR2
      unfold rightB at hn hm
      simp only [Bool.and_eq_true, decide_eq_true_eq] at hn hm
      obtain ⟨n, rfl⟩ : ∃ k : Nat, n = k := ⟨n.toNat, by omega⟩
      obtain ⟨m, rfl⟩ : ∃ k : Nat, m = k := ⟨m.toNat, by omega⟩
      have HS := Lib.hid (steps25_is (w := w) n m (by omega) (by omega))
      go_enter Try.func126, Try.ntmps126
      go_wp2_with fail
      refine hR1.mono ?_
      rintro e w' ⟨rfl, rfl⟩
      go_wp2_with fail
      refine hR2.mono ?_
      rintro e w' ⟨rfl, rfl⟩
      go_wp2_with fail
      refine HS.out.mono ?_
      rintro e w' ⟨rfl, rfl⟩
      go_wp2_with fail
      go_ret2
      exact ⟨rfl, rfl⟩
set_option maxRecDepth 100000 in
set_option maxHeartbeats 2000000 in
theorem Fixed_is {side : Nat} {xa : Option Addr} {xl : List Int} (xc : Nat) (n : Int) (hS : Sl w xa xl) (hl : xl.length ≤ 1000000) :
    Calls Try.prog 124 #[.int .u8 side, .slice xa xl.length xc, .int .i64 n] w fun e w' => ∃ v, e = .returned (.tuple #[v, .int .i64 (fixE side xl n)]) ∧ WNew w v (intCells (if fixE side xl n = 0 then shL side xl (min n.toNat xl.length) else [])) w' := by
  have hR := right25_is (w := w) xl.length
  by_cases hs : side = 1 ∨ side = 2
  · have hat := fun (W : World) (mb : Nat) (h : UMap W mb sides25) => (sides_at h hs).2
    have hE : fixE side xl n = if rightB xl.length = false then 250 else if n < 0 then 2 else 0 := by unfold fixE; rw [if_neg (by omega)]
    rw [hE]
    clear hE
    generalize (if side = 1 then 190 else 191) = fid at hat
    have HAT := Lib.hid hat; clear hat
    cases hr : rightB xl.length
    · rw [if_pos rfl, if_neg (by omega)]
      have hRR := fun (W : World) => right25_is (w := W) xl.length
      rw [hr] at hRR
      clear hR hr
      go_enter Try.func124, Try.ntmps124
      go_wp2_with fail
      refine moves25_is.mono ?_
      rintro e w1 ⟨mb, rfl, hum, hc1⟩
      have h7 := HAT.out w1 mb hum
      have HC1 := Lib.hid hc1; clear hc1 hum
      go_wp2_with fail
      refine (hRR _).mono ?_
      rintro e w2 ⟨rfl, rfl⟩
      go_wp2_with fail
      go_ret2
      exact ⟨_, rfl, WNew.nil HC1.out⟩
    · have hRR := fun (W : World) => right25_is (w := W) xl.length
      rw [hr] at hRR
      clear hR
      rw [if_neg (by simp)]
      by_cases hn : n < 0
      · rw [if_pos hn, if_neg (by omega)]
        have d : decide (n < 0) = true := decide_eq_true hn
        clear hr
        go_enter Try.func124, Try.ntmps124
        go_wp2_with fail
        refine moves25_is.mono ?_
        rintro e w1 ⟨mb, rfl, hum, hc1⟩
        have h7 := HAT.out w1 mb hum
        have HC1 := Lib.hid hc1; clear hc1 hum
        go_wp2_with fail
        refine (hRR _).mono ?_
        rintro e w2 ⟨rfl, rfl⟩
        go_wp2_with fail
        go_ret2
        exact ⟨_, rfl, WNew.nil HC1.out⟩
      · rw [if_neg hn, if_pos rfl]
        have d : decide (n < 0) = false := decide_eq_false hn
        have hSH := fun (W : World) (hc : Ch [] w W) => shifted_is (w := W) hs xc (min n.toNat xl.length) (hS.ch hc (by simp)) hl (by omega)
        have hmn := min_ii n xl.length
        rw [show min n (xl.length : Int) = ((min n.toNat xl.length : Nat) : Int) by omega] at hmn
        generalize min n.toNat xl.length = q at *
        have HSH := Lib.hid hSH; clear hSH hS
        clear hr hs
        go_enter Try.func124, Try.ntmps124
        go_wp2_with fail
        refine moves25_is.mono ?_
        rintro e w1 ⟨mb, rfl, hum, hc1⟩
        have h7 := HAT.out w1 mb hum
        have HC1 := Lib.hid hc1; clear hc1 hum
        go_wp2_with fail
        refine (hRR _).mono ?_
        rintro e w2 ⟨rfl, rfl⟩
        go_wp2_with fail
        refine (HSH.out _ HC1.out).mono ?_
        rintro e w3 ⟨v, rfl, hv⟩
        obtain ⟨va, vc, rfl⟩ := row.shape hv.1
        have HV := Lib.hid hv; clear hv
        go_wp2_with fail
        go_ret2
        exact ⟨_, rfl, HV.out.since HC1.out⟩
  · have hat := fun (W : World) (mb : Nat) (h : UMap W mb sides25) => (sides_no h (side := side) (by omega)).2
    have hE : fixE side xl n = 251 := by unfold fixE; rw [if_pos (by omega)]
    rw [hE, if_neg (by omega)]
    clear hE hR
    have HAT := Lib.hid hat; clear hat
    go_enter Try.func124, Try.ntmps124
    go_wp2_with fail
    refine moves25_is.mono ?_
    rintro e w1 ⟨mb, rfl, hum, hc1⟩
    have h7 := HAT.out w1 mb hum
    have HC1 := Lib.hid hc1; clear hc1 hum
    go_wp2_with fail
    go_ret2
    exact ⟨_, rfl, WNew.nil HC1.out⟩
end
end Go.Proofs.Ytnmfdiiehkkjcaa
namespace Go.Proofs.Ytnmfdiiehkkjcaa
open Go.RowKit Go.Mem Go.Aig
section
variable {w : World}
theorem run_app_zeros (w : World) (ty : TypeId) (n : Nat) (h0 : 0 < n) (hn : n ≤ 1000000) : ∃ c W, (Builtin.append_ #[31, 3] ty #[.slice none 0 0, .int .i64 n]).run Try.prog w = .ok (.slice (some ⟨w.heap.size, 0, none⟩) n c) W ∧ row W 29 1 (.slice (some ⟨w.heap.size, 0, none⟩) 0 c) 0 [] ∧ Ch [] w W ∧ n ≤ c ∧ c ≤ maxLen := by
  obtain ⟨i, hi, hz, hs, hb⟩ := info_parts infoRef
  have hr := Go.Lib.run_append_nil_zeros (P := Try.prog) w 31 3 ty 29 i (.int .i64 0) .i64 .i64 Try.underlying31 Try.underlying3 hi hz n h0 (by rw [hs]; omega) (by omega) (by rw [hb]; omega)
  have h1 := grownCap_ge w n 0 29
  have h2 := grownCap_le_maxLen w n 0 29 (by unfold maxLen; omega)
  refine ⟨_, _, hr, ⟨rfl, .inr ⟨_, _, _, rfl, Nat.zero_le _, heap_alloc_new w.drew _, Nat.zero_le _, h2, ?_, by simp⟩⟩, ((Ch.refl [] w).drew).alloc _, h1, h2⟩
  simp [Value.cells, Builtin.zeroCells]
  omega
set_option maxRecDepth 100000 in
set_option maxHeartbeats 2000000 in
theorem Grow_nil (n : Nat) (h0 : 0 < n) (hn : n ≤ 1000000) : Calls Try.prog 200 #[.slice none 0 0, .int .i64 n] w fun e w' => ∃ v, e = .returned v ∧ row w' 29 1 v 0 [] ∧ (∀ q ∈ v.ownBlock.toList, w.heap.size ≤ q) ∧ Ch [] w w' := by
  obtain ⟨c, W, hr, hrow, hch, h1, h2⟩ := run_app_zeros w 31 n h0 hn
  have HROW := Lib.hid hrow; clear hrow
  have HCH := Lib.hid hch; clear hch
  go_enter Try.func200, Try.ntmps200
  have HR := Lib.hid hr; clear hr
  go_wp2_with (at_builtin; go_loud (refine Go.Lib.wpList_append_run w rfl _ _ _ _ rfl (.slice none 0 0) (.int .i64 n) rfl rfl _ _ HR.out ?_))
  go_ret
  exact ⟨_, rfl, HROW.out, by simp, HCH.out⟩
/-- pieces that lie in memory, side by side as the slice's elements -/
structure Pcs (w : World) (q : Nat) (ps : List (Addr × List Int × Nat)) : Prop where
  hd : ∀ (k : Nat) (p : Addr) (l : List Int) (c : Nat), ps[k]? = some (p, l, c) → w.cell? ⟨q, k, none⟩ = some (.slice (some p) l.length c)
  cl : ∀ (k : Nat) (p : Addr) (l : List Int) (c : Nat), ps[k]? = some (p, l, c) → ∀ j u, (intCells l)[j]? = some u → w.cell? (p.add j) = some u
  cp : ∀ (k : Nat) (p : Addr) (l : List Int) (c : Nat), ps[k]? = some (p, l, c) → l.length ≤ c
  qlt : q < w.heap.size
def pcsL (ps : List (Addr × List Int × Nat)) : List Int := ps.flatMap fun x => x.2.1
theorem pcsL_succ {ps : List (Addr × List Int × Nat)} {k : Nat} {p : Addr} {l : List Int} {c : Nat} (h : ps[k]? = some (p, l, c)) : pcsL (ps.take (k + 1)) = pcsL (ps.take k) ++ l := by
  unfold pcsL
  rw [List.take_add_one, h]
  simp
theorem pcsL_le (ps : List (Addr × List Int × Nat)) (k : Nat) : (pcsL (ps.take k)).length ≤ (pcsL ps).length := by
  have e : pcsL ps = pcsL (ps.take k) ++ pcsL (ps.drop k) := by
    unfold pcsL; rw [← List.flatMap_append, List.take_append_drop]
  rw [e, List.length_append]; omega
theorem Pcs.ch {w W : World} {q : Nat} {ps : List (Addr × List Int × Nat)} (h : Pcs w q ps) (hc : Ch [] w W) : Pcs W q ps :=
  ⟨fun k p l c hk => (hc.cell (p := ⟨q, k, none⟩) h.qlt (by simp)).trans (h.hd k p l c hk), fun k p l c hk j u hu => (hc.cell (cell_lt (h.cl k p l c hk j u hu)) (by simp)).trans (h.cl k p l c hk j u hu), h.cp, Nat.lt_of_lt_of_le h.qlt hc.size⟩
set_option maxRecDepth 100000 in
set_option maxHeartbeats 4000000 in
theorem Ccref_is {q : Nat} {ps : List (Addr × List Int × Nat)} (n c : Nat) (h : Pcs w q ps) (hn : ps.length = n) (hnc : n ≤ 1000) (h1 : 0 < (pcsL ps).length) (h2 : (pcsL ps).length ≤ 1000000) :
    Calls Try.prog 171 #[.slice (some ⟨q, 0, none⟩) n c] w fun e w' => ∃ v, e = .returned v ∧ WNew w v (intCells (pcsL ps)) w' := by
  have HN := fun W => Grow_nil (w := W) (pcsL ps).length h1 h2
  have H := Lib.hid h; clear h
  go_enter Try.func171, Try.ntmps171
  go_wp2_with fail
  go_loopw [3, 11] (fun s i wr => ∃ k : Nat, k ≤ n ∧ i = .int .i64 k ∧ s = .int .i64 (pcsL (ps.take k)).length ∧ wr = w) (fun _ i _ => n - (intOf i).toNat)
  case atStart => exact ⟨0, by omega, rfl, by simp [pcsL], rfl⟩
  case round =>
    obtain ⟨k, hk, rfl, rfl, hww⟩ := hrel
    subst wr
    have hle := pcsL_le ps k
    by_cases hlt : k < n
    · obtain ⟨⟨p, l, lc⟩, hp⟩ : ∃ x, ps[k]? = some x := ⟨_, List.getElem?_eq_getElem (by omega)⟩
      have c0 := H.out.hd k p l lc hp
      have hsu := pcsL_succ hp
      have hle2 := pcsL_le ps (k + 1)
      rw [hsu, List.length_append] at hle2
      have HSU := Lib.hid hsu; clear hsu
      generalize hA : (pcsL (ps.take k)).length = A at *
      have hnn : decide ((A : Int) + l.length < 0) = false := decide_eq_false (by omega)
      go_wp2_with fail
      go_roundw
      case rel => exact ⟨k + 1, by omega, by go_num, by rw [HSU.out, List.length_append, hA]; push_cast; rfl, by trivial⟩
      case measure => simp [intOf]; omega
    · have hkn : k = n := by omega
      have hall : ps.take k = ps := List.take_of_length_le (by omega)
      rw [hall] at hle ⊢
      clear hall hkn
      have HNN := Lib.hid HN; clear HN
      go_wp2_with fail
      refine (HNN.out _).mono ?_
      rintro e w1 ⟨v, rfl, hrow, hlo, hch⟩
      have HROW := Lib.hid hrow; clear hrow
      have HLO := Lib.hid hlo; clear hlo
      have HCH := Lib.hid hch; clear hch hle
      clear hlt
      go_wp2_with fail
      go_loopw [6, 27] (fun o i wr => ∃ k : Nat, k ≤ n ∧ i = .int .i64 k ∧ Ch [] w wr ∧ row wr 29 1 o (pcsL (ps.take k)).length (intCells (pcsL (ps.take k))) ∧ ∀ q ∈ o.ownBlock.toList, w.heap.size ≤ q) (fun _ i _ => n - (intOf i).toNat)
      case atStart => exact ⟨0, by omega, rfl, HCH.out, by simpa [pcsL, intCells] using HROW.out, HLO.out⟩
      case round =>
        obtain ⟨k, hk, rfl, hc, hrow, hlo⟩ := hrel
        obtain ⟨oa, oc, rfl⟩ := row.shape hrow
        by_cases hlt : k < n
        · obtain ⟨⟨p, l, lc⟩, hp⟩ : ∃ x, ps[k]? = some x := ⟨_, List.getElem?_eq_getElem (by omega)⟩
          have hP := H.out.ch hc
          have c0 := hP.hd k p l lc hp
          have hcl := hP.cl k p l lc hp
          have hcp := hP.cp k p l lc hp
          have hsu := pcsL_succ hp
          have hle2 := pcsL_le ps (k + 1)
          rw [hsu, List.length_append] at hle2
          have HSU := Lib.hid hsu; clear hsu
          have h1o : ∀ u ∈ intCells l, u.oneCell' = true := fun u hu => by
            obtain ⟨r, _, rfl⟩ := List.mem_map.1 hu
            rfl
          have HCL := Lib.hid hcl; clear hcl hp hP
          have H1O := Lib.hid h1o; clear h1o
          generalize hA : pcsL (ps.take k) = A at *
          have HA := Lib.hid hA; clear hA
          have HRA := Lib.hid hrow; clear hrow
          have HC := Lib.hid hc; clear hc
          have HLO2 := Lib.hid hlo; clear hlo
          go_wp2_with (at_builtin; go_loud (refine wpList_append_row slRefs rfl _ _ rfl (v := .slice oa A.length oc) (n := A.length) (xs := intCells A) rfl HRA.out (ad := p) (m := l.length) (c := lc) (news := intCells l) rfl (by simp [intCells]) HCL.out H1O.out (by omega) (by omega) ?_; intro v' w4 hown4 hC4 hf4; have HO4 := Lib.hid hown4; clear hown4; have HC4 := Lib.hid hC4; clear hC4; have HF4 := Lib.hid hf4; clear hf4))
          go_roundw
          case rel =>
            obtain ⟨q1, q2⟩ := app_step HC.out (Ch.refl [] wr) HLO2.out HC4.out HF4.out
            refine ⟨k + 1, by omega, by go_num, q1, ?_, q2⟩
            rw [HSU.out, List.length_append]
            have := HO4.out
            simpa [intCells] using this
          case measure => simp [intOf]; omega
        · have hkn : k = n := by omega
          have hall : ps.take k = ps := List.take_of_length_le (by omega)
          rw [hall] at hrow hlo ⊢
          have HRA := Lib.hid hrow; clear hrow hall hkn
          have HC := Lib.hid hc; clear hc
          have HLO2 := Lib.hid hlo; clear hlo
          go_wp2_with fail
          go_ret
          exact ⟨_, rfl, by simpa [intCells] using HRA.out, HLO2.out, HC.out⟩
theorem pcs_two {w : World} {q : Nat} {p1 p2 : Addr} {l1 l2 : List Int} {n1 n2 c1 c2 : Nat} (hb : blk w q [.slice (some p1) n1 c1, .slice (some p2) n2 c2]) (h1 : l1.length = n1) (h2 : l2.length = n2) (k1 : n1 ≤ c1) (k2 : n2 ≤ c2)
    (e1 : ∀ j u, (intCells l1)[j]? = some u → w.cell? (p1.add j) = some u) (e2 : ∀ j u, (intCells l2)[j]? = some u → w.cell? (p2.add j) = some u) : Pcs w q [(p1, l1, c1), (p2, l2, c2)] := by
  subst h1 h2
  refine ⟨fun k p l c hk => ?_, fun k p l c hk => ?_, fun k p l c hk => ?_, hb.lt⟩ <;> rcases k with _ | _ | k
  · cases hk; exact hb.cell rfl
  · cases hk; exact hb.cell rfl
  · simp at hk
  · cases hk; exact e1
  · cases hk; exact e2
  · simp at hk
  · cases hk; exact k1
  · cases hk; exact k2
  · simp at hk
set_option maxRecDepth 100000 in
set_option maxHeartbeats 4000000 in
theorem Turn_no {xa : Option Addr} {xl : List Int} (xc : Nat) (n : Int) (hr : rightB xl.length = false) :
    Calls Try.prog 125 #[.slice xa xl.length xc, .int .i64 n] w fun e w' => e = .returned (.tuple #[.slice none 0 0, .int .i64 250]) ∧ w = w' := by
  have hRR := fun (W : World) => right25_is (w := W) xl.length
  rw [hr] at hRR
  clear hr
  go_enter Try.func125, Try.ntmps125
  go_wp2_with fail
  refine (hRR _).mono ?_
  rintro e w2 ⟨rfl, rfl⟩
  go_wp2_with fail
  go_ret2
  exact ⟨rfl, rfl⟩
set_option maxRecDepth 100000 in
set_option maxHeartbeats 4000000 in
theorem Turn_yes {xa : Option Addr} {xl : List Int} (xc : Nat) (n : Int) (hS : Sl w xa xl) (hcap : xl.length ≤ xc) (hr : rightB xl.length = true) (_hb : -9223372036854775808 ≤ n ∧ n ≤ 9223372036854775807) :
    Calls Try.prog 125 #[.slice xa xl.length xc, .int .i64 n] w fun e w' => ∃ v, e = .returned (.tuple #[v, .int .i64 0]) ∧ WNew w v (intCells (turnL xl n)) w' := by
  have hRR := fun (W : World) => right25_is (w := W) xl.length
  rw [hr] at hRR
  unfold rightB at hr
  simp only [Bool.and_eq_true, decide_eq_true_eq] at hr
  go_enter Try.func125, Try.ntmps125
  go_wp2_with fail
  refine (hRR _).mono ?_
  rintro e w2 ⟨rfl, rfl⟩
  go_wp2_with fail
  obtain ⟨L, hL⟩ : ∃ L, L = xl.length := ⟨_, rfl⟩
  obtain ⟨k, hk⟩ : ∃ k : Nat, k = (n.emod xl.length).toNat := ⟨_, rfl⟩
  have hkl : k < L := by have h1 := Int.emod_nonneg n (show (xl.length : Int) ≠ 0 by omega); have h2 := Int.emod_lt_of_pos n (show (0 : Int) < xl.length by omega); have e : n.emod xl.length = n % xl.length := rfl; rw [e] at hk; omega
  have ew : (wrap64 (n.tmod ↑xl.length + ↑xl.length)).tmod ↑xl.length = (k : Int) := by
    have h3 := Int.tmod_lt_of_pos n (show (0 : Int) < xl.length by omega)
    have h4 := Int.lt_tmod_of_pos n (show (0 : Int) < xl.length by omega)
    rw [IntWalk.wrap64_in _ (by omega), Int.tmod_eq_emod_of_nonneg (by omega), Int.add_emod_right]
    have e : n.emod xl.length = n % xl.length := rfl
    rw [e] at hk
    have h1 := Int.emod_nonneg n (show (xl.length : Int) ≠ 0 by omega)
    rw [hk, Int.toNat_of_nonneg h1]
    rw [Int.tmod_eq_emod]
    split <;> simp
  rw [ew]
  obtain ⟨xb, xo, rfl, hcl⟩ := hS.at (by omega)
  rw [hL] at hkl
  have HK := Lib.hid hk
  have HCL := Lib.hid hcl
  have HS := Lib.hid hS
  clear hk ew hL hcl hS
  refine Ord.St.door (fun _ => True) [.fl, .fl, .fl, .fl, .fl, .fl, .ef, .ef, .fl, .fl] [0, 0, 3, 0, 0, 24, 63, 127, 255, 511] [0, 1, 2, 3, 4, 5, 6, 7, 8, 9] mixed (by kernel_rfl) rfl ?_
  refine Ord.St.fl2 (T' := ?_) 0 [1, 2, 3, 4, 5, 6, 7, 8, 9] _ _ rfl (by kernel_rfl) rfl rfl rfl rfl (fun K w' hk => ?_) ?_
  rotate_left
  · go_step; exact hk
  refine Ord.St.fl2 (T' := ?_) 1 [2, 3, 4, 5, 6, 7, 8, 9] _ _ rfl (by kernel_rfl) rfl rfl rfl rfl (fun K w' hk => ?_) ?_
  rotate_left
  · go_step; exact hk
  refine Ord.St.fl2 (T' := ?_) 2 [3, 4, 5, 6, 7, 8, 9] _ _ rfl (by kernel_rfl) rfl rfl rfl rfl (fun K w' hk => ?_) ?_
  rotate_left
  · go_step; exact hk
  refine Ord.St.fl2 (T' := ?_) 3 [4, 5, 6, 7, 8, 9] _ _ rfl (by kernel_rfl) rfl rfl rfl rfl (fun K w' hk => ?_) ?_
  rotate_left
  · go_step; exact hk
  refine Ord.St.fl2 (T' := ?_) 4 [5, 6, 7, 8, 9] _ _ rfl (by kernel_rfl) rfl rfl rfl rfl (fun K w' hk => ?_) ?_
  rotate_left
  · go_step; exact hk
  refine Ord.St.fl2 (T' := ?_) 5 [6, 7, 8, 9] _ _ rfl (by kernel_rfl) rfl rfl rfl rfl (fun K w' hk => ?_) ?_
  rotate_left
  · go_step; exact hk
  refine Ord.St.ef 6 [7, 8, 9] _ rfl (by kernel_rfl) (fun K hK => ?_)
  go_wp2_with fail
  refine ⟨rfl, hK _ _ ?_⟩; clear hK K
  refine Ord.St.ef 7 [8, 9] _ rfl (by kernel_rfl) (fun K hK => ?_)
  go_wp2_with fail
  refine calls_named fun W hW => ?_
  have hb : blk W w.heap.size [.slice (some ⟨xb, xo + k, none⟩) (xl.length - k) (xc - k), .slice (some ⟨xb, xo, none⟩) k xc] := by rw [hW]; exact blk.new' _ _ rfl
  have hc : Ch [] w W := by rw [hW]; first | exact ((Ch.refl [] w).alloc _) | exact ((Ch.refl [] w).alloc _).drew | exact ((Ch.refl [] w).alloc _).drew.drew | exact ((Ch.refl [] w).drew.alloc _)
  clear hW
  have hcell : ∀ (i : Nat) (x : Int), xl[i]? = some x → W.cell? ⟨xb, xo + i, none⟩ = some (.int .i64 x) := fun i x hx => (hc.cell (cell_lt (HCL.out i x hx)) (by simp)).trans (HCL.out i x hx)
  have hP : Pcs W w.heap.size [(⟨xb, xo + k, none⟩, xl.drop k, xc - k), (⟨xb, xo, none⟩, xl.take k, xc)] := pcs_two hb (by simp) (by simp; omega) (by omega) (by omega) (fun j u hu => by rw [Addr.add_lit]; simp only [intCells, List.getElem?_map, List.getElem?_drop, Option.map_eq_some_iff] at hu; obtain ⟨y, hy, rfl⟩ := hu; rw [Nat.add_assoc]; exact hcell _ _ hy) (fun j u hu => by rw [Addr.add_lit]; simp only [intCells, List.getElem?_map, Option.map_eq_some_iff] at hu; obtain ⟨y, hy, rfl⟩ := hu; rw [List.getElem?_take] at hy; split at hy; exact hcell _ _ hy; cases hy)
  have hall : pcsL [(⟨xb, xo + k, none⟩, xl.drop k, xc - k), (⟨xb, xo, none⟩, xl.take k, xc)] = xl.drop k ++ xl.take k := by simp [pcsL]
  have hCC := Ccref_is 2 2 hP rfl (by omega) (by rw [hall]; simp; omega) (by rw [hall]; simp; omega)
  rw [hall] at hCC
  have HCC := Lib.hid hCC
  have HC := Lib.hid hc
  clear hb hcell hP hall hCC hc
  refine HCC.out.mono ?_
  rintro e w9 ⟨v, rfl, hv⟩
  obtain ⟨va, vc, rfl⟩ := row.shape hv.1
  have HV := Lib.hid (hv.since HC.out); clear hv
  go_wp2_with fail
  refine ⟨rfl, hK _ _ ?_⟩; clear hK K
  refine Ord.St.fl2 (T' := ?_) 8 [9] _ _ rfl (by kernel_rfl) rfl rfl rfl rfl (fun K w' hk => ?_) ?_
  rotate_left
  · go_step; exact hk
  refine Ord.St.fl2 (T' := ?_) 9 [] _ _ rfl (by kernel_rfl) rfl rfl rfl rfl (fun K w' hk => ?_) ?_
  rotate_left
  · go_step; exact hk
  refine Ord.St.nil ?_
  go_wp2_with fail
  go_ret2
  refine ⟨_, rfl, ?_⟩
  unfold turnL
  rw [← HK.out]
  exact HV.out
end
end Go.Proofs.Ytnmfdiiehkkjcaa
namespace Go.Aig
/-- a choice by a bit that is known: a if it is false, b if it is true -/
def muxOf (c : Nat) (G : Gra) (a b : Nat) : Res := if c < 2 * G.nodes.length then rMux G c b a else (G, 0, 201)
theorem full_mux (c : Nat) : Full2 (muxOf c) := fun G h a b ha hb => by
  unfold muxOf
  split
  · rename_i hc; exact rMux_full h hc hb ha
  · exact ⟨⟨h, .refl _, by have := h.wf.pos; show 0 < 2 * G.nodes.length; omega, .inr rfl⟩, fun _ => rfl⟩
theorem eachF_app (op : Mk → Nat → Nat → Mk × Nat) (s : Mk) (l m : List (Nat × Nat)) : eachF op s (l ++ m) = m.foldl (eachS op) (eachF op s l) := by unfold eachF; rw [List.foldl_append]
theorem eachS_bad (f : Gra → Nat → Nat → Res) : ∀ (m : List (Nat × Nat)) (q : Mk × List Nat), q.1.2 ≠ 0 → (m.foldl (eachS (rop f)) q).1 = q.1
  | [], _, _ => rfl
  | p :: m, q, h => by
    rw [List.foldl_cons]
    have e : (eachS (rop f) q p).1 = q.1 := by unfold eachS rop; rw [rstep_bad h]
    rw [eachS_bad f m _ (by rw [e]; exact h), e]
theorem eachF_bad (f : Gra → Nat → Nat → Res) (s : Mk) (l m : List (Nat × Nat)) (h : (eachF (rop f) s l).1.2 ≠ 0) : (eachF (rop f) s (l ++ m)).1 = (eachF (rop f) s l).1 := by
  rw [eachF_app, eachS_bad f m _ h]
theorem eachF_lenT (op : Mk → Nat → Nat → Mk × Nat) (s : Mk) (l : List (Nat × Nat)) : (eachF op s l).2.length = l.length := by
  have : ∀ (l : List (Nat × Nat)) (q : Mk × List Nat), (l.foldl (eachS op) q).2.length = q.2.length + l.length := by
    intro l
    induction l with
    | nil => intro q; rfl
    | cons p l ih => intro q; rw [List.foldl_cons, ih]; simp [eachS]; omega
  rw [eachF, this]; simp
/-- what is left of a step: the word, or an error and a graph that has grown -/
structure Step5 (G : Gra) (R : Mk × List Nat) (G1 : Gra) (l : List Nat) (e : Nat) : Prop where
  yes : R.1.2 = 0 → G1 = R.1.1 ∧ l = R.2 ∧ e = 0
  no : R.1.2 ≠ 0 → l = [] ∧ e = R.1.2
  err : R.1.2 = 0 ∨ R.1.2 = 201
  ext : Ext G G1
  ok : Ok G1
end Go.Aig
namespace Go.Mem
theorem wpListIn_append_row {F : Fence} {nF : Nat} {P : Program} {w : World} {ops : Array Oper} {rest : List Oper} {o : Oper} {a : Act} {Q : Exit → Act → World → Prop} {t e : TypeId} {size bytes : Nat} {z : Value} (S : SliceTy P t e size bytes z) (hgd : o.guard = none) (s x : Operand)
    (ho : o.op = .call { callee := .builtin .append, args := #[s, x], argTypes := #[t, t] })
    {v : Value} {n : Nat} {xs : List Value} (hs : a.eval s = v) (hown : row w e size v n xs) {ad : Addr} {m c : Nat} {news : List Value} (hx : a.eval x = .slice (some ad) m c) (hl : news.length = m * size) (hnews : ∀ j u, news[j]? = some u → w.cell? (ad.add j) = some u) (h1 : ∀ u ∈ news, u.oneCell' = true)
    (hbytes : (n + m) * bytes ≤ 140737488355328) (h63 : n + m ≤ 9223372036854775807)
    (h : ∀ v' w', row w' e size v' (n + m) (xs ++ news) → Ch v.ownBlock.toList w w' → (∀ k, v'.ownBlock = some k → v.ownBlock = some k ∨ w.heap.size ≤ k) → wpListIn F nF P ops Q rest (a.put o.dst v') w') : wpListIn F nF P ops Q (o :: rest) a w := by
  refine wpListIn_plain hgd fun K hK => ?_
  obtain ⟨v', w', hr, h2, h3, h4⟩ := run_append_row (P := P) w S o.type v n xs hown ad m c news hl hnews h1 hbytes (by unfold maxLen; omega)
  unfold Oper.wpIn
  refine ⟨by simp [Oper.about, ho, resolve, Target.leads, Sem.run_pure], ?_⟩
  rw [Oper.semAt_plain F _ _ (by rw [ho]; intro c hc'; cases hc')]
  simp [execOp, ho, resolve, invoke, builtin, hs, hx, hr, Result.andThen]
  exact hK _ _ (h v' w' h2 h3 h4)
end Go.Mem
namespace Go.Proofs.Ytnmfdiiehkkjcaa
open Go.RowKit Go.Mem Go.Aig
attribute [local go_sem] Oper.semAt_some
/-- what is known between two rounds of step -/
structure E5 (w : World) (g : Nat) (F : List Nat) (c : Nat) (W : World) (v : Value) (Gp : Gra) (l : List Nat) (F' : List Nat) : Prop where
  gin : GIn W g Gp F'
  ch : Ch F w W
  own : ∀ k ∈ F', k ∈ F ∨ w.heap.size + 7 + 2 ≤ k
  map : F'[2]? = F[2]?
  b4 : blk W w.heap.size [.pointer (some ⟨g, 0, none⟩)]
  b5 : blk W (w.heap.size + 1) [.int .i64 c]
  b8 : blk W (w.heap.size + 2) [.slice none 0 0]
  b9 : blk W (w.heap.size + 3) [.int .i64 0]
  b10 : blk W (w.heap.size + 4) [v]
  row : Go.Mem.row W 29 1 v l.length (refsCells l)
  fresh : ∀ k, v.ownBlock = some k → w.heap.size + 7 + 2 ≤ k ∧ k ∉ F'
theorem res2 {fn : Func} {t u : Tmp} {et eu : TypeId} (h : fn.results = #[.cell t et, .cell u eu]) {tmps : Array Value} {P : Program} {w : World} {p q : Addr} {a b : Value} (he : ∀ w, (isAgg et).run P w = .ok false w) (hu : ∀ w, (isAgg eu).run P w = .ok false w) (h1 : tmps.getD t undef = .pointer (some p)) (h2 : tmps.getD u undef = .pointer (some q)) (h3 : w.cell? p = some a) (h4 : w.cell? q = some b) :
    (results fn tmps).run P w = .ok (.tuple #[a, b]) w := by
  rw [Array.getD_eq_getD_getElem?] at h1 h2
  simp [results, h, go_sem, h1, h2, h3, h4, he, hu]
structure I5 (w : World) (g : Nat) (G : Gra) (F : List Nat) (c : Nat) (pre : List (Nat × Nat)) (W : World) : Prop where
  ex : ∃ v Gp l F', eachF (rop (muxOf c)) (G, 0) pre = ((Gp, 0), l) ∧ Ok Gp ∧ Ext G Gp ∧ E5 w g F c W v Gp l F'
structure X5 (w : World) (g : Nat) (G : Gra) (F : List Nat) (c : Nat) (all : List (Nat × Nat)) (W : World) : Prop where
  ex : ∃ Gp F', (eachF (rop (muxOf c)) (G, 0) all).1.2 = 201 ∧ Ok Gp ∧ Ext G Gp ∧ GIn W g Gp F' ∧ Ch F w W ∧ (∀ k ∈ F', k ∈ F ∨ w.heap.size + 7 + 2 ≤ k) ∧ F'[2]? = F[2]? ∧ blk W (w.heap.size + 2) [.slice none 0 0] ∧ blk W (w.heap.size + 3) [.int .i64 (201 : Nat)]
section
variable {w A A' : World} {g c : Nat} {G Gp : Gra} {F F' : List Nat} {v : Value} {l : List Nat}
theorem E5.sep (h : E5 w g F c A v Gp l F') (hl : ∀ k ∈ F, k < w.heap.size) : ∀ k ∈ F', k < w.heap.size ∨ w.heap.size + 7 + 2 ≤ k := fun k hk => (h.own k hk).imp (hl k) id
theorem E5.same (h : E5 w g F c A v Gp l F') (hl : ∀ k ∈ F, k < w.heap.size) (hc : Ch [w.heap.size + 7, w.heap.size + 7 + 1] A A') : E5 w g F c A' v Gp l F' := by
  have hs := h.sep hl
  have hn : ∀ k ∈ F', k ∉ [w.heap.size + 7, w.heap.size + 7 + 1] := fun k hk hm => by have := hs k hk; simp at hm; omega
  refine ⟨h.gin.same hc hn, h.ch.trans hc (fun k hk => .inr (by simp at hk; omega)), h.own, h.map, h.b4.ch hc (by simp; omega), h.b5.ch hc (by simp), h.b8.ch hc (by simp), h.b9.ch hc (by simp), h.b10.ch hc (by simp), h.row.ch hc (fun k hk hm => by have := (h.fresh k hk).1; simp at hm; omega), h.fresh⟩
theorem E5.ch0 (h : E5 w g F c A v Gp l F') (hl : ∀ k ∈ F, k < w.heap.size) (hc : Ch [] A A') : E5 w g F c A' v Gp l F' := h.same hl (hc.mono (by simp))
theorem E5.more (h : E5 w g F c A v Gp l F') (hl : ∀ k ∈ F, k < w.heap.size) (hz : w.heap.size + 7 + 2 ≤ A.heap.size) {G' : Gra} (ht : GTo A g G' F' A') :
    (∃ F1, E5 w g F c A' v G' l F1) ∧ Books (w.heap.size + 7) A A' ∧ ∀ K : List Nat, (∀ k ∈ K, k < w.heap.size ∧ k ∉ F ∨ w.heap.size ≤ k ∧ k < w.heap.size + 7) → Kept K A A' := by
  obtain ⟨F1, h1, h2, h3, h4⟩ := ht
  have hs := h.sep hl
  have hm : ∀ q, w.heap.size ≤ q → q < w.heap.size + 7 + 2 → q ∉ F' := fun q h1 h2 hk => by have := hs q hk; omega
  refine ⟨⟨F1, h1, h.ch.trans h2 (fun k hk => (h.own k hk).imp id (by omega)), fun k hk => ?_, h4.trans h.map, h.b4.ch h2 (hm _ (by omega) (by omega)), h.b5.ch h2 (hm _ (by omega) (by omega)), h.b8.ch h2 (hm _ (by omega) (by omega)), h.b9.ch h2 (hm _ (by omega) (by omega)), h.b10.ch h2 (hm _ (by omega) (by omega)), h.row.ch h2 (fun k hk => (h.fresh k hk).2), fun k hk => ⟨(h.fresh k hk).1, fun hm2 => ?_⟩⟩, Books.of_ch h2 hz (fun k hk => ?_), fun K hK => Kept.of_ch h2 (fun k hk => ?_)⟩
  · exact (h3 k hk).elim (h.own k) (fun e => .inr (by omega))
  · exact (h3 k hm2).elim (h.fresh k hk).2 (fun e => by have := (h.row.lt k hk).2; omega)
  · have := hs k hk; omega
  · rcases hK k hk with e | e
    · refine ⟨by omega, fun hm2 => ?_⟩
      exact (h.own k hm2).elim e.2 (by omega)
    · exact ⟨by omega, hm k e.1 (by omega)⟩
theorem E5.app {va : Option Addr} {vc : Nat} (h : E5 w g F c A (.slice va l.length vc) Gp l F') (hl : ∀ k ∈ F, k < w.heap.size) (hz : w.heap.size + 7 + 2 ≤ A.heap.size) {r : Nat} {o : Obj} {w4 : World} {gb gc : Nat}
    (hrow : Go.Mem.row w4 29 1 (.slice (some ⟨gb, 0, none⟩) (l.length + 1) gc) (l.length + 1) (refsCells l ++ [.int .i64 r])) (hc : Ch (Value.slice va l.length vc).ownBlock.toList (A.alloc o) w4)
    (hf : ∀ k, (Value.slice (some ⟨gb, 0, none⟩) (l.length + 1) gc).ownBlock = some k → (Value.slice va l.length vc).ownBlock = some k ∨ (A.alloc o).heap.size ≤ k) :
    E5 w g F c (w4.setCell ⟨w.heap.size + 4, 0, none⟩ (.slice (some ⟨gb, 0, none⟩) (l.length + 1) gc)) (.slice (some ⟨gb, 0, none⟩) (l.length + 1) gc) Gp (l ++ [r]) F' ∧ Books (w.heap.size + 7) A (w4.setCell ⟨w.heap.size + 4, 0, none⟩ (.slice (some ⟨gb, 0, none⟩) (l.length + 1) gc)) ∧
      ∀ K : List Nat, (∀ k ∈ K, k < w.heap.size ∧ k ∉ F ∨ w.heap.size ≤ k ∧ k < w.heap.size + 7 ∧ k ≠ w.heap.size + 4) → Kept K A (w4.setCell ⟨w.heap.size + 4, 0, none⟩ (.slice (some ⟨gb, 0, none⟩) (l.length + 1) gc)) := by
  have hs := h.sep hl
  have hfresh := h.fresh
  have hA : Ch (Value.slice va l.length vc).ownBlock.toList A w4 := ((Ch.refl _ A).alloc o).trans hc (fun k hk => .inl hk)
  have hA5 : Ch ((Value.slice va l.length vc).ownBlock.toList ++ [w.heap.size + 4]) A (w4.setCell ⟨w.heap.size + 4, 0, none⟩ (.slice (some ⟨gb, 0, none⟩) (l.length + 1) gc)) := (hA.mono (fun k hk => .inl (List.mem_append_left _ hk))).setCell (.inl (by simp)) _
  have hL : ∀ k ∈ (Value.slice va l.length vc).ownBlock.toList ++ [w.heap.size + 4], (w.heap.size + 7 + 2 ≤ k ∧ k ∉ F') ∨ k = w.heap.size + 4 := fun k hk => by
    simp only [List.mem_append, Option.mem_toList, List.mem_singleton] at hk
    exact hk.imp (fun e => hfresh k e) id
  have hgb : (w.heap.size + 7 + 2 ≤ gb ∧ gb ∉ F') := by
    rcases hf gb rfl with h1 | h1
    · exact hfresh gb h1
    · rw [World.size_alloc] at h1
      exact ⟨by omega, fun hk => by have := GIn.lt h.gin gb hk; omega⟩
  have hnot : ∀ k ∈ F', k ∉ (Value.slice va l.length vc).ownBlock.toList ++ [w.heap.size + 4] := fun k hk hk2 => by
    rcases hL k hk2 with h2 | h2
    · exact h2.2 hk
    · have := hs k hk; omega
  have hlow : ∀ q, w.heap.size ≤ q → q < w.heap.size + 7 → q ≠ w.heap.size + 4 → q ∉ (Value.slice va l.length vc).ownBlock.toList ++ [w.heap.size + 4] := fun q h1 h2 h3 hk => by
    rcases hL q hk with e | e <;> omega
  have h4 := h.ch.size
  refine ⟨⟨h.gin.same hA5 hnot, h.ch.trans hA5 (fun k hk => ?_), h.own, h.map, h.b4.ch hA5 (hlow _ (by omega) (by omega) (by omega)), h.b5.ch hA5 (hlow _ (by omega) (by omega) (by omega)), h.b8.ch hA5 (hlow _ (by omega) (by omega) (by omega)), h.b9.ch hA5 (hlow _ (by omega) (by omega) (by omega)), ?_, ?_, fun k hk => ?_⟩, Books.of_ch hA5 hz (fun k hk => by have := hL k hk; omega), fun K hK => Kept.of_ch hA5 fun k hk => ?_⟩
  · have := hL k hk; exact .inr (by omega)
  · refine (h.b10.ch hA (fun hk => ?_)).set (i := 0) _
    have := (hfresh _ (by simpa using hk)).1
    omega
  · rw [show refsCells (l ++ [r]) = refsCells l ++ [.int .i64 r] from by simp [refsCells], List.length_append]
    refine hrow.ch (F := [w.heap.size + 4]) ((Ch.refl _ _).setCell (by simp) _) (fun k hk => ?_)
    cases hk
    simp; omega
  · cases hk
    exact hgb
  · rcases hK k hk with ⟨h1, h2⟩ | ⟨h1, h2, h3⟩
    · refine ⟨by omega, fun hk2 => ?_⟩
      have := hL k hk2; omega
    · exact ⟨by omega, hlow k h1 h2 h3⟩
set_option maxRecDepth 100000 in
set_option maxHeartbeats 4000000 in
theorem step25_is (h : GIn w g G F) (hc : c < 2 * G.nodes.length) {x y : List Nat} {xa ya : Option Addr} (len xc yc : Nat) (hxl : x.length = len) (hyl : y.length = len) (hlen : len ≤ 1000)
    (hx : Sl w xa (x.map fun (r : Nat) => (r : Int))) (hy : Sl w ya (y.map fun (r : Nat) => (r : Int))) (hxa : ∀ k ∈ ablk xa, k ∉ F ∧ k < w.heap.size) (hya : ∀ k ∈ ablk ya, k ∉ F ∧ k < w.heap.size)
    (hxr : ∀ r ∈ x, r < 2 * G.nodes.length) (hyr : ∀ r ∈ y, r < 2 * G.nodes.length) :
    Calls Try.prog 193 #[.pointer (some ⟨g, 0, none⟩), .int .i64 c, .slice xa len xc, .slice ya len yc] w fun e W' => ∃ (v : Value) (G1 : Gra) (l1 : List Nat) (e1 : Nat), e = .returned (.tuple #[v, .int .i64 e1]) ∧ Step5 G (eachF (rop (muxOf c)) (G, 0) (x.zip y)) G1 l1 e1 ∧ GVo w g G1 [] F v l1 W' := by
  have hl := h.lt
  have hok := h.ok
  have hG := hok.small
  have HPAIR := fun W => tpairs_is (w := W) xa ya len xc len yc
  have H := Lib.hid h; clear h
  have HX := Lib.hid hx; clear hx
  have HY := Lib.hid hy; clear hy
  refine (callsIn_wide (n := 4)).1 ?_
  refine callsIn_of_wp_marks Try.func193 rfl trivial ?_ rfl
  simp only [Try.ntmps193, List.size_toArray, List.length_cons, List.length_nil, Nat.reduceAdd, Nat.reduceSub, Array.replicate_succ, Array.replicate_zero, List.push_toArray, List.append_toArray, List.nil_append, List.cons_append]
  refine wpIn_wide.2 ?_
  go_wp2_with fail
  refine (HPAIR _).mono ?_
  rintro e w' ⟨rfl, rfl⟩
  go_wp2_with fail
  refine wp_named fun W0 hW0 => ?_
  have hc0 : Ch [] w W0 := by rw [hW0]; exact (((((((Ch.refl _ _).alloc _).alloc _).alloc _).alloc _).alloc _).alloc _).alloc _
  have hz0 : W0.heap.size = w.heap.size + 7 := by rw [hW0]; simp
  have hb4 : blk W0 w.heap.size [.pointer (some ⟨g, 0, none⟩)] := by rw [hW0]; exact ((((((blk.new' _ _ (by simp)).alloc _).alloc _).alloc _).alloc _).alloc _).alloc _
  have hb5 : blk W0 (w.heap.size + 1) [.int .i64 c] := by rw [hW0]; exact (((((blk.new' _ _ (by simp)).alloc _).alloc _).alloc _).alloc _).alloc _
  have hb8 : blk W0 (w.heap.size + 2) [.slice none 0 0] := by rw [hW0]; exact ((((blk.new' _ _ (by simp)).alloc _).alloc _).alloc _).alloc _
  have hb9 : blk W0 (w.heap.size + 3) [.int .i64 0] := by rw [hW0]; exact (((blk.new' _ _ (by simp)).alloc _).alloc _).alloc _
  have hb10 : blk W0 (w.heap.size + 4) [.slice none 0 0] := by rw [hW0]; exact ((blk.new' _ _ (by simp)).alloc _).alloc _
  have hp1 : blk W0 (w.heap.size + 5) [.slice xa len xc] := by rw [hW0]; exact (blk.new' _ _ (by simp)).alloc _
  have hp2 : blk W0 (w.heap.size + 6) [.slice ya len yc] := by rw [hW0]; exact blk.new' _ _ (by simp)
  clear hW0
  refine (wpIn_wide (n := 4)).1 ?_
  have hseq := tpairs_seq W0 Fence.wide 3 trivial rfl (by omega) len xc yc hxl hyl (hp1.cell (i := 0) rfl) (hp2.cell (i := 0) rfl) (HX.out.keep fun k hk => hc0.block k (hxa k hk).2 (by simp)) (HY.out.keep fun k hk => hc0.block k (hya k hk).2 (by simp))
  have hKok : ∀ k ∈ ((w.heap.size + 5) :: (w.heap.size + 6) :: (ablk xa ++ ablk ya)), k < w.heap.size ∧ k ∉ F ∨ w.heap.size ≤ k ∧ k < w.heap.size + 7 ∧ k ≠ w.heap.size + 4 := fun k hk => by
    simp only [List.mem_cons, List.mem_append] at hk
    rcases hk with rfl | rfl | hk | hk
    · exact .inr ⟨by omega, by omega, by omega⟩
    · exact .inr ⟨by omega, by omega, by omega⟩
    · exact .inl ⟨(hxa k hk).2, (hxa k hk).1⟩
    · exact .inl ⟨(hya k hk).2, (hya k hk).1⟩
  refine wpIn_rangeFunc_P (n := 4) (w.heap.size + 7) hz0 rfl (by omega) rfl trivial (fun args w => tfnvpairs1 args w) hseq ?kb (fun _ => rfl)
    (fun pre W => I5 w g G F c pre W) (fun W => X5 w g G F c (x.zip y) W)
    ?hi ?hix ?h0 ?a1 ?assign ?body ?done ?stop
  case assign =>
    intro q x W K hK
    simp only [pairEnc]
    gi_wp2
    exact hK
  case kb =>
    intro k hk
    have := hKok k hk
    omega
  case hi =>
    rintro pre A A' ⟨v, Gp, l, F', e, o1, o2, h⟩ hc
    exact ⟨⟨v, Gp, l, F', e, o1, o2, h.same hl hc⟩⟩
  case hix =>
    rintro A A' ⟨Gp, F', e, o1, o2, h1, h2, h3, h4, h5, h6⟩ hc
    refine ⟨⟨Gp, F', e, o1, o2, h1.same hc (fun k hk hm => (h3 k hk).elim (fun e => by have := hl k e; simp at hm; omega) (fun e => by simp at hm; omega)), h2.trans hc (fun k hk => .inr (by simp at hk; omega)), h3, h4, h5.ch hc (by simp), h6.ch hc (by simp)⟩⟩
  case h0 =>
    refine ⟨⟨.slice none 0 0, G, [], F, rfl, hok, .refl _, H.out.same hc0 (by simp), hc0.mono (by simp), fun k hk => .inl hk, rfl, hb4, hb5, hb8, hb9, hb10, ⟨rfl, .inl ⟨rfl, rfl⟩⟩, by simp [Value.ownBlock]⟩⟩
  case body =>
    rintro q pre ⟨a, b⟩ W ⟨⟨v, Gp, l, F', he, o1, o2, hE⟩⟩ hWl hpx
    obtain ⟨va, vc, rfl⟩ := row.shape hE.row
    have hpm := List.IsPrefix.subset hpx (List.mem_append_right pre (List.mem_singleton.2 rfl))
    obtain ⟨ha0, hb0⟩ := zip_lt hxr hyr _ hpm
    have ha := o2.lt ha0
    have hb := o2.lt hb0
    have hcc := o2.lt hc
    have hfu := full_mux c Gp o1 a b ha hb
    have hqe : muxOf c Gp a b = rMux Gp c b a := by unfold muxOf; rw [if_pos hcc]
    rw [hqe] at hfu
    have hln : l.length ≤ 1000 := by
      have h1 := eachF_lenT (rop (muxOf c)) (G, 0) pre
      rw [he] at h1
      have h2 := hpx.length_le
      rw [List.length_append, List.length_zip] at h2
      simp at h1 h2
      omega
    have hstep : eachF (rop (muxOf c)) (G, 0) (pre ++ [(a, b)]) = ((rop (muxOf c) (Gp, 0) a b).1, l ++ [(rop (muxOf c) (Gp, 0) a b).2]) := by rw [eachF_snoc, he]; rfl
    have hM := Mux_g hE.gin c b a (by have := o1.small; omega) (by have := o1.small; omega) (by have := o1.small; omega)
    rw [doMux_r hcc hb ha] at hM
    unfold rop at hstep
    simp only at hstep
    rw [hqe] at hstep
    obtain ⟨Q, hQ⟩ : ∃ Q, Q = rMux Gp c b a := ⟨_, rfl⟩
    rw [← hQ] at hM hfu hstep
    have hbad := fun m => eachF_bad (muxOf c) (G, 0) (pre ++ [(a, b)]) m
    obtain ⟨rest, hrest⟩ := hpx
    have c4 := hE.b4.cell (i := 0) rfl
    have c5 := hE.b5.cell (i := 0) rfl
    have HE := Lib.hid hE; clear hE
    have HFU := Lib.hid hfu; clear hfu
    have HM := Lib.hid hM; clear hM
    have HREST := Lib.hid hrest; clear hrest
    have HSTEP := Lib.hid hstep; clear hstep
    have HBAD := Lib.hid hbad; clear hbad
    have HO1 := Lib.hid o1; clear o1
    have HO2 := Lib.hid o2; clear o2
    have HK := Lib.hid hKok
    clear hpm ha0 hb0 hb4 hb5 hb8 hb9 hb10 hp1 hp2 hseq HPAIR hQ hqe ha hb hcc he hKok
    gi_wp2_with fail
    refine ⟨trivial, (CallsIn.inRound q ((callsIn_wide (n := _)).2 HM.out)).mono ?_⟩
    rintro e w1 ⟨rfl, hto⟩
    obtain ⟨⟨F1, hE1⟩, hB1, hK1⟩ := HE.out.more hl hWl hto
    have hz1 : w.heap.size + 7 + 2 ≤ w1.heap.size := by
      obtain ⟨_, _, hch, _⟩ := hto
      exact Nat.le_trans hWl hch.size
    have HK1 := Lib.hid (hK1 _ (fun k hk => (HK.out k hk).imp id (fun e => ⟨e.1, e.2.1⟩))); clear hK1
    have HB1 := Lib.hid hB1; clear hB1 hto
    have c10 := hE1.b10.cell (i := 0) rfl
    have c8 := hE1.b8.cell (i := 0) rfl
    have c8f := hE1.b8.frozen (i := 0)
    have c9 := hE1.b9.cell (i := 0) rfl
    have c9f := hE1.b9.frozen (i := 0)
    by_cases hq : Q.2.2 = 0
    · have hz : ((Q.2.2 : Int) != 0) = false := by rw [hq]; rfl
      have hst := HSTEP.out
      rw [rstep_ok rfl hq] at hst
      have HST := Lib.hid hst; clear hst
      have hrow3 := hE1.row.ch ((Ch.refl [] w1).alloc (.cells #[.int .i64 Q.2.1] 29)) (by simp)
      have hnew3 : blk (w1.alloc (.cells #[.int .i64 Q.2.1] 29)) w1.heap.size [.int .i64 Q.2.1] := blk.new' _ _ rfl
      have hb10 := hE1.b10.alloc (.cells #[.int .i64 Q.2.1] 29)
      have hb10n : w.heap.size + 4 ∉ (Value.slice va l.length vc).ownBlock.toList := fun hk => by have := (hE1.fresh _ (by simpa using hk)).1; omega
      have HE1 := Lib.hid hE1; clear hE1
      have HROW3 := Lib.hid hrow3; clear hrow3
      have HNEW3 := Lib.hid hnew3; clear hnew3
      have HB10 := Lib.hid hb10; clear hb10
      have HB10N := Lib.hid hb10n; clear hb10n
      have HQ := Lib.hid hq; clear hq
      have HWL := Lib.hid hz1
      gi_wp2_with (gi_at_builtin; go_loud (refine wpListIn_append_row slRefs rfl _ _ rfl (v := .slice va l.length vc) (n := l.length) (xs := refsCells l) rfl HROW3.out (ad := ⟨w1.heap.size, 0, none⟩) (m := 1) (c := 1) (news := [.int .i64 Q.2.1]) rfl rfl (news_blk HNEW3.out) (by simp [Value.oneCell']) (by omega) (by omega) ?_; intro v' w4 hown4 hC4 hf4; obtain ⟨gb, gc, rfl⟩ := row.parts hown4 (by omega); have hbb := HB10.out.ch hC4 HB10N.out; have k1 := hbb.cell (i := 0) rfl; have k2 := hbb.frozen (i := 0); have HO4 := Lib.hid hown4; clear hown4; have HC4 := Lib.hid hC4; clear hC4; have HF4 := Lib.hid hf4; clear hf4; have HBB := Lib.hid hbb; clear hbb))
      gi_wp2
      obtain ⟨p1, p2, p3⟩ := HE1.out.app hl hz1 HO4.out HC4.out HF4.out (r := Q.2.1)
      exact ⟨HB1.out.trans p2, ⟨⟨_, _, _, _, HST.out, HFU.out.ok.ok, HO2.out.trans HFU.out.ok.ext, p1⟩⟩, HK1.out.trans (p3 _ HK.out)⟩
    · have hQ := HFU.out.keep hq
      subst hQ
      have hst : eachF (rop (muxOf c)) (G, 0) (pre ++ [(a, b)]) = _ := HSTEP.out
      rw [rstep_no rfl hq] at hst
      have hend : (eachF (rop (muxOf c)) (G, 0) (x.zip y)).1.2 = 201 := by rw [← HREST.out, HBAD.out rest (by rw [hst]; simp), hst]
      have HEND := Lib.hid hend
      have HE1 := Lib.hid hE1; clear hE1 hst hend hq
      gi_wp2
      have hE1 := HE1.out
      have hch : Ch [w.heap.size + 2, w.heap.size + 3] w1 ((w1.setCell ⟨w.heap.size + 2, 0, none⟩ (.slice none 0 0)).setCell ⟨w.heap.size + 3, 0, none⟩ (.int .i64 (201 : Nat))) := ((Ch.refl _ _).setCell (by simp) _).setCell (by simp) _
      have hs := hE1.sep hl
      refine ⟨HB1.out.trans (Books.of_ch hch hz1 (by simp)), ⟨⟨Gp, F1, HEND.out, HO1.out, HO2.out, hE1.gin.same hch (fun k hk hm => by have := hs k hk; simp at hm; omega), hE1.ch.trans hch (fun k hk => .inr (by simp at hk; omega)), hE1.own, hE1.map, (hE1.b8.set (i := 0) _).other (by simp) _, (hE1.b9.other (by simp) _).set (i := 0) _⟩⟩⟩
  case done =>
    rintro W ⟨⟨v, Gp, l, F', he, o1, o2, hE⟩⟩ hK hWz
    obtain ⟨va, vc, rfl⟩ := row.shape hE.row
    have c10 := hE.b10.cell (i := 0) rfl
    have c8 := hE.b8.cell (i := 0) rfl
    have c8f := hE.b8.frozen (i := 0)
    have c9 := hE.b9.cell (i := 0) rfl
    have c9f := hE.b9.frozen (i := 0)
    have HE := Lib.hid hE; clear hE
    have HK := Lib.hid hK; clear hK
    clear hb4 hb5 hb8 hb9 hb10 hp1 hp2 hseq
    go_wp2
    have hE := HE.out
    have hch : Ch [w.heap.size + 2, w.heap.size + 3] W ((W.setCell ⟨w.heap.size + 2, 0, none⟩ (.slice va l.length vc)).setCell ⟨w.heap.size + 3, 0, none⟩ (.int .i64 (0 : Nat))) := ((Ch.refl _ _).setCell (by simp) _).setCell (by simp) _
    have hK2 := (hch.block (w.heap.size + 7) (by omega) (by simp)).trans HK.out
    have z8 : blk ((W.setCell ⟨w.heap.size + 2, 0, none⟩ (.slice va l.length vc)).setCell ⟨w.heap.size + 3, 0, none⟩ (.int .i64 (0 : Nat))) (w.heap.size + 2) [.slice va l.length vc] := (hE.b8.set (i := 0) _).other (by simp) _
    have z9 : blk ((W.setCell ⟨w.heap.size + 2, 0, none⟩ (.slice va l.length vc)).setCell ⟨w.heap.size + 3, 0, none⟩ (.int .i64 (0 : Nat))) (w.heap.size + 3) [.int .i64 (0 : Nat)] := (hE.b9.other (by simp) _).set (i := 0) _
    refine ⟨by simp, .inl ⟨_, _, rfl, run_takeDeferred hK2, ?_⟩⟩
    have hp : ∀ o, Ch [w.heap.size + 2, w.heap.size + 3, w.heap.size + 7] W (((W.setCell ⟨w.heap.size + 2, 0, none⟩ (.slice va l.length vc)).setCell ⟨w.heap.size + 3, 0, none⟩ (.int .i64 (0 : Nat))).putObj (w.heap.size + 7) o) := fun o => (hch.mono (F' := [w.heap.size + 2, w.heap.size + 3, w.heap.size + 7]) (by simp)).trans (ch_put (L := [w.heap.size + 7]) (by simp)) (by simp)
    have y8 := fun o => (z8.ch (ch_put (o' := o) (l := w.heap.size + 7) (L := [w.heap.size + 7]) (by simp)) (by simp)).cell (i := 0) rfl
    have y9 := fun o => (z9.ch (ch_put (o' := o) (l := w.heap.size + 7) (L := [w.heap.size + 7]) (by simp)) (by simp)).cell (i := 0) rfl
    have HP := Lib.hid hp
    clear z8 z9 hK2 hp
    have hs := hE.sep hl
    have hch2 := HP.out (.deferred none)
    refine ⟨.tuple #[.slice va l.length vc, .int .i64 (0 : Nat)], res2 Try.results193 (by intro w; kernel_rfl) (by intro w; kernel_rfl) rfl rfl (y8 _) (y9 _), .slice va l.length vc, Gp, l, 0, rfl, ⟨fun _ => by rw [he]; exact ⟨rfl, rfl, rfl⟩, fun hn => by rw [he] at hn; exact absurd rfl hn, .inl (by rw [he]), o2, o1⟩, F', hE.gin.same hch2 (fun k hk hm => by have := hs k hk; simp at hm; omega), hE.ch.trans hch2 (fun k hk => .inr (by simp at hk; omega)), fun k hk => (hE.own k hk).imp id (by omega), hE.map, hE.row.ch hch2 (fun k hk hm => by have := (hE.fresh k hk).1; simp at hm; omega), fun k hk => ⟨by have := (hE.fresh k hk).1; omega, (hE.fresh k hk).2⟩⟩
  case stop =>
    rintro W ⟨⟨Gp, F', he, o1, o2, h1, h2, h3, h4, h5, h6⟩⟩ hK hWz
    have HK := Lib.hid hK; clear hK
    clear hb4 hb5 hb8 hb9 hb10 hp1 hp2 hseq
    gi_wp2
    refine ⟨by simp, .inl ⟨_, _, rfl, run_takeDeferred HK.out, ?_⟩⟩
    have hch2 : Ch [w.heap.size + 7] W (W.putObj (w.heap.size + 7) (.deferred none)) := ch_put (by simp)
    have y8 := (h5.ch hch2 (by simp)).cell (i := 0) rfl
    have y9 := (h6.ch hch2 (by simp)).cell (i := 0) rfl
    refine ⟨.tuple #[.slice none 0 0, .int .i64 (201 : Nat)], res2 Try.results193 (by intro w; kernel_rfl) (by intro w; kernel_rfl) rfl rfl y8 y9, .slice none 0 0, Gp, [], 201, rfl, ⟨fun h0 => (by rw [he] at h0; cases h0), fun _ => ⟨rfl, he.symm⟩, .inr he, o2, o1⟩, GVo.nil (F' := F') (h1.same hch2 (fun k hk hm => by have := h3 k hk; simp at hm; rcases this with e | e; have := hl k e; omega; omega)) (h2.trans hch2 (fun k hk => .inr (by simp at hk; omega))) (fun k hk => (h3 k hk).imp id (by omega)) h4⟩
end
end Go.Proofs.Ytnmfdiiehkkjcaa
namespace Go.Aig
/-- a word of references shifted -/
def shN (side : Nat) (x : List Nat) (n : Nat) : List Nat := (List.range x.length).map fun i => if side = 1 then (if n ≤ i then x.getD (i - n) 0 else 0) else x.getD (i + n) 0
@[simp] theorem shN_len (side : Nat) (x : List Nat) (n : Nat) : (shN side x n).length = x.length := by simp [shN]
theorem natInts_getD (x : List Nat) (i : Nat) : (natInts x).getD i 0 = ((x.getD i 0 : Nat) : Int) := by
  unfold natInts
  rw [List.getD_eq_getElem?_getD, List.getD_eq_getElem?_getD, List.getElem?_map]
  cases x[i]? <;> rfl
theorem shL_nat (side : Nat) (x : List Nat) (n : Nat) : shL side (natInts x) n = natInts (shN side x n) := by
  unfold shL shN
  simp only [natInts_getD, natInts_len]
  conv => rhs; unfold natInts
  rw [List.map_map]
  refine List.map_congr_left fun i _ => ?_
  simp only [Function.comp]
  split
  · split <;> rfl
  · rfl
theorem shN_lt {side : Nat} {x : List Nat} {n b : Nat} (h : ∀ r ∈ x, r < b) (hb : 0 < b) : ∀ r ∈ shN side x n, r < b := fun r hr => by
  have hd : ∀ j, x.getD j 0 < b := fun j => by
    rw [List.getD_eq_getElem?_getD]
    cases hj : x[j]? with
    | none => exact hb
    | some r => exact h r (List.mem_of_getElem? hj)
  obtain ⟨i, _, rfl⟩ := List.mem_map.1 hr
  split
  · split
    · exact hd _
    · exact hb
  · exact hd _
/-- one step of a shift by a word: by the bit c, that counts 2 ^ i -/
def movS (side : Nat) (q : Mk × List Nat) (p : Nat × Nat) : Mk × List Nat := eachF (rop (muxOf p.1)) q.1 (q.2.zip (shN side q.2 (2 ^ p.2)))
def movF (side : Nat) (s : Mk) (x cs : List Nat) : Mk × List Nat := cs.zipIdx.foldl (movS side) (s, x)
theorem movF_nil (side : Nat) (s : Mk) (x : List Nat) : movF side s x [] = (s, x) := rfl
theorem movF_snoc (side : Nat) (s : Mk) (x cs : List Nat) (c : Nat) : movF side s x (cs ++ [c]) = movS side (movF side s x cs) (c, cs.length) := by
  unfold movF
  rw [List.zipIdx_append, List.foldl_append]
  simp
theorem eachF_bad' (f : Gra → Nat → Nat → Res) {s : Mk} (h : s.2 ≠ 0) (l : List (Nat × Nat)) : (eachF (rop f) s l).1 = s := eachS_bad f l _ h
theorem movS_bad (side : Nat) : ∀ (l : List (Nat × Nat)) (q : Mk × List Nat), q.1.2 ≠ 0 → (l.foldl (movS side) q).1 = q.1
  | [], _, _ => rfl
  | p :: l, q, h => by
    rw [List.foldl_cons]
    have e : (movS side q p).1 = q.1 := eachF_bad' _ h _
    rw [movS_bad side l _ (by rw [e]; exact h), e]
theorem movF_bad (side : Nat) (s : Mk) (x cs ds : List Nat) (h : (movF side s x cs).1.2 ≠ 0) : (movF side s x (cs ++ ds)).1 = (movF side s x cs).1 := by
  unfold movF at h ⊢
  rw [List.zipIdx_append, List.foldl_append, movS_bad _ _ _ h]
/-- a shift by a word -/
def moveF (side : Nat) (s : Mk) (x y : List Nat) : Mk × List Nat :=
  let q := movF side s x (y.take (stepsN x.length y.length))
  if stepsN x.length y.length = y.length then q
  else
    let a := rstep q.1 (rAny q.1.1 (y.drop (stepsN x.length y.length)))
    eachF (rop and) a.1 (q.2.map fun r => (r, neg a.2))
theorem moveF_bad {side : Nat} {s : Mk} {x y : List Nat} (h : (movF side s x (y.take (stepsN x.length y.length))).1.2 ≠ 0) : (moveF side s x y).1 = (movF side s x (y.take (stepsN x.length y.length))).1 := by
  unfold moveF
  dsimp only
  split
  · rfl
  · rw [rstep_bad h, eachF_bad' _ h]
theorem moveF_full {side : Nat} {s : Mk} {x y : List Nat} (h : stepsN x.length y.length = y.length) : moveF side s x y = movF side s x (y.take (stepsN x.length y.length)) := by
  unfold moveF
  dsimp only
  rw [if_pos h]
theorem moveF_high {side : Nat} {s : Mk} {x y : List Nat} (h : stepsN x.length y.length ≠ y.length) {q : Mk × List Nat} (hq : movF side s x (y.take (stepsN x.length y.length)) = q) :
    moveF side s x y = eachF (rop and) (rstep q.1 (rAny q.1.1 (y.drop (stepsN x.length y.length)))).1 (q.2.map fun r => (r, neg (rstep q.1 (rAny q.1.1 (y.drop (stepsN x.length y.length)))).2)) := by
  unfold moveF
  dsimp only
  rw [if_neg h, hq]
theorem stepsN_le (w bits : Nat) : stepsN w bits ≤ bits := by
  unfold stepsN
  exact Nat.le_trans List.countP_le_length (by simp)
theorem zip_sh_lt {side : Nat} {x : List Nat} {n b : Nat} (h : ∀ r ∈ x, r < b) (hb : 0 < b) : ∀ p ∈ x.zip (shN side x n), p.1 < b ∧ p.2 < b := zip_lt h (shN_lt h hb)
theorem full_and2 : Full2 and := fun _ h _ _ ha hb => and_full h ha hb
theorem movS_lok {G : Gra} (hG : Ok G) {side c i : Nat} {x : List Nat} (hx : ∀ r ∈ x, r < 2 * G.nodes.length) : LOk G (movS side ((G, 0), x) (c, i)) :=
  eachF_lok hG (full_mux c) _ (zip_sh_lt hx (by have := hG.wf.pos; omega))
theorem movS_len (side : Nat) (q : Mk × List Nat) (p : Nat × Nat) : (movS side q p).2.length = q.2.length := by
  unfold movS
  rw [eachF_lenT, List.length_zip, shN_len]
  omega
theorem movF_len (side : Nat) (s : Mk) (x cs : List Nat) : (movF side s x cs).2.length = x.length := by
  have : ∀ (l : List (Nat × Nat)) (q : Mk × List Nat), (l.foldl (movS side) q).2.length = q.2.length := by
    intro l
    induction l with
    | nil => intro q; rfl
    | cons p l ih => intro q; rw [List.foldl_cons, ih, movS_len]
  exact this _ _
/-- all of a shift by a word is right -/
theorem movF_lok {G : Gra} (hG : Ok G) {side : Nat} {x cs : List Nat} (hx : ∀ r ∈ x, r < 2 * G.nodes.length) : LOk G (movF side (G, 0) x cs) := by
  have : ∀ (l : List (Nat × Nat)) (q : Mk × List Nat), LOk G q → LOk G (l.foldl (movS side) q) := by
    intro l
    induction l with
    | nil => intro q h; exact h
    | cons p l ih =>
      intro q h
      refine ih _ ?_
      by_cases h0 : q.1.2 = 0
      · obtain ⟨⟨G1, e1⟩, l1⟩ := q
        cases h0
        have h1 := movS_lok h.s.ok (side := side) (c := p.1) (i := p.2) h.lt
        exact ⟨⟨h1.s.ok, h.s.ext.trans h1.s.ext, h1.s.err⟩, h1.lt⟩
      · have e : (movS side q p).1 = q.1 := eachF_bad' _ h0 _
        refine ⟨by rw [e]; exact h.s, fun r hr => ?_⟩
        rw [e]
        have hz : ∀ (l : List (Nat × Nat)) (q : Mk × List Nat), q.1.2 ≠ 0 → (∀ r ∈ q.2, r < 2 * q.1.1.nodes.length) → 0 < q.1.1.nodes.length → ∀ r ∈ (l.foldl (eachS (rop (muxOf p.1))) q).2, r < 2 * q.1.1.nodes.length := by
          intro l
          induction l with
          | nil => intro q _ h2 _; exact h2
          | cons p l ih =>
            intro q h1 h2 h3 r hr
            rw [List.foldl_cons] at hr
            have e2 : ∀ c, (eachS (rop (muxOf c)) q p).1 = q.1 := fun c => by unfold eachS rop; rw [rstep_bad h1]
            have e3 : ∀ c, (eachS (rop (muxOf c)) q p).2 = q.2 ++ [0] := fun c => by unfold eachS rop; rw [rstep_bad h1]
            have := ih _ (by rw [e2]; exact h1) (by rw [e2, e3]; intro r hr; rcases List.mem_append.1 hr with hr | hr; exact h2 r hr; rw [List.mem_singleton.1 hr]; omega) (by rw [e2]; exact h3) r hr
            rw [e2] at this
            exact this
        exact hz _ (q.1, []) h0 (by simp) h.s.ok.wf.pos r hr
  exact this _ _ ⟨.start hG, hx⟩
theorem moveF_lok {G : Gra} (hG : Ok G) {side : Nat} {x y : List Nat} (hx : ∀ r ∈ x, r < 2 * G.nodes.length) (hy : ∀ r ∈ y, r < 2 * G.nodes.length) (h0 : (moveF side (G, 0) x y).1.2 = 0) : LOk G (moveF side (G, 0) x y) := by
  have h1 := movF_lok hG (side := side) (cs := y.take (stepsN x.length y.length)) hx
  by_cases hk : stepsN x.length y.length = y.length
  · rw [moveF_full hk]; exact h1
  · have hb : (movF side (G, 0) x (y.take (stepsN x.length y.length))).1.2 = 0 := by
      by_cases hz : (movF side (G, 0) x (y.take (stepsN x.length y.length))).1.2 = 0
      · exact hz
      · rw [moveF_bad hz] at h0; exact h0
    rw [moveF_high hk rfl] at h0 ⊢
    obtain ⟨a1, a2, a3⟩ := rstep_sok h1.s (Y := rAny (movF side (G, 0) x (y.take (stepsN x.length y.length))).1.1 (y.drop (stepsN x.length y.length))) (fun _ => rAny_full h1.s.ok (fun r hr => h1.s.ext.lt (hy r (List.mem_of_mem_drop hr))))
    generalize rstep (movF side (G, 0) x (y.take (stepsN x.length y.length))).1 (rAny (movF side (G, 0) x (y.take (stepsN x.length y.length))).1.1 (y.drop (stepsN x.length y.length))) = a at *
    obtain ⟨⟨G1, e1⟩, z⟩ := a
    by_cases he : e1 = 0
    · subst he
      have h2 := eachF_lok a1.ok full_and2 ((movF side (G, 0) x (y.take (stepsN x.length y.length))).2.map fun r => (r, neg z)) (fun p hp => by
        obtain ⟨r, hr, rfl⟩ := List.mem_map.1 hp
        exact ⟨a3.lt (h1.lt r hr), neg_lt a2⟩)
      exact ⟨⟨h2.s.ok, a1.ext.trans h2.s.ext, h2.s.err⟩, h2.lt⟩
    · rw [eachF_bad' _ he] at h0
      exact absurd h0 he
/-- what By finds wrong -/
def chkBy (G : Gra) (side : Nat) (x y : List Int) : Nat :=
  if side ≠ 1 ∧ side ≠ 2 then 251 else if rightB x.length = false ∨ rightB y.length = false then 250 else if badIn G x ∨ badIn G y then 200 else 0
/-- By -/
def byG (G : Gra) (side : Nat) (x y : List Int) : Gra × List Nat × Nat := if chkBy G side x y ≠ 0 then (G, [], chkBy G side x y) else wres G (moveF side (G, 0) (nats x) (nats y))
end Go.Aig
