/-
  Walks over few, index, ref and made of chapter 21's laws. Conditions: a slice of nodes of any integers.
  From a law's arguments to what the walks say: nodes, slices of words. Conditions: those of the given row.
  Walk over slices.Equal of words; the functions of sim as steps of a walk that holds slices. Conditions: slices that can be read.
  Walk over the chapter's examples (awake of sim): true. Conditions: none.
  append of a number of zeros to a row of any shape. Conditions: a row, an element type of the table.
  Walk over slices.Clone of words; words fitted to as many as inputs; what the nodes are for words of the inputs, node by node. Conditions: a slice that can be read.
  Words and bits of all references, plainly. Conditions: none beyond the hypotheses.
  What tables, counts and first assignments are, plainly, for the laws of chapter 21. Conditions: none beyond the hypotheses.
  Words that are refused: what check says of them, and what the functions of sums do with them. Conditions: a graph in memory, words that are held.
  New words that are changed, or grown, before they are held. Conditions: none beyond the hypotheses.
  Walk over SimWrong: true, whatever comes in. Conditions: nodes of any integers, any integer.
-/
import Derived.Test.YtnmfdiiehkkjcaaQE
import Derived.Test.YtnmfdiiehkkjcaaQD
import Derived.Test.YtnmfdiiehkkjcaaQB
import Derived.Test.YtnmfdiiehkkjcaaQA
import Derived.Lib.AppendZeros
namespace Go.Aig
/-- a node that is wanted -/
structure N21 where
  inp : Bool
  l : Int
  r : Int
deriving Inhabited
def fewS (q : List N21 × Nat) (x : N21) : List N21 × Nat := (if q.2 + x.inp.toNat ≤ 8 ∨ x.inp = false then q.1 ++ [x] else q.1, q.2 + x.inp.toNat)
def fewL (l : List N21) : List N21 := ((l.take 40).foldl fewS ([], 0)).1
def cntI (l : List N21) : Nat := (l.filter fun x => x.inp).length
theorem cntI_snoc (l : List N21) (x : N21) : cntI (l ++ [x]) = cntI l + x.inp.toNat := by
  unfold cntI
  rw [List.filter_append, List.length_append]
  cases h : x.inp <;> simp [h]
theorem few_inv : ∀ l : List N21, (l.foldl fewS ([], 0)).1.length ≤ l.length ∧ cntI (l.foldl fewS ([], 0)).1 ≤ 8 ∧ cntI (l.foldl fewS ([], 0)).1 ≤ (l.foldl fewS ([], 0)).2 ∧ (l.foldl fewS ([], 0)).2 ≤ l.length := by
  intro l
  induction l using List.snocRec with
  | nil => exact ⟨Nat.le_refl _, by simp [cntI], by simp [cntI], Nat.le_refl _⟩
  | snoc l x ih =>
    obtain ⟨h1, h2, h3, h4⟩ := ih
    rw [List.foldl_append]
    generalize l.foldl fewS ([], 0) = q at *
    have hx : x.inp.toNat ≤ 1 := by cases x.inp <;> simp
    show (fewS q x).1.length ≤ _ ∧ cntI (fewS q x).1 ≤ 8 ∧ cntI (fewS q x).1 ≤ (fewS q x).2 ∧ (fewS q x).2 ≤ _
    unfold fewS
    simp only
    split
    · rename_i h
      rw [List.length_append, List.length_append, cntI_snoc]
      refine ⟨by simp; omega, ?_, by omega, by simp; omega⟩
      rcases h with h | h
      · omega
      · rw [h]; simpa using h2
    · rw [List.length_append]
      exact ⟨by omega, h2, by omega, by simp; omega⟩
theorem fewS_sub : ∀ (l : List N21) (q : List N21 × Nat), ∀ x ∈ (l.foldl fewS q).1, x ∈ q.1 ∨ x ∈ l := by
  intro l
  induction l with
  | nil => intro q x hx; exact .inl hx
  | cons y l ih =>
    intro q x hx
    rcases ih _ x hx with h | h
    · unfold fewS at h
      simp only at h
      split at h
      · rcases List.mem_append.1 h with h | h
        · exact .inl h
        · rw [List.mem_singleton.1 h]; exact .inr (List.mem_cons_self ..)
      · exact .inl h
    · exact .inr (List.mem_cons_of_mem _ h)
theorem fewL_sub {l : List N21} {x : N21} (h : x ∈ fewL l) : x ∈ l := by
  rcases fewS_sub (l.take 40) ([], 0) x h with h | h
  · simp at h
  · exact List.mem_of_mem_take h
theorem fewL_len (l : List N21) : (fewL l).length ≤ 40 ∧ cntI (fewL l) ≤ 8 := by
  have := few_inv (l.take 40)
  unfold fewL
  rw [List.length_take] at this
  omega
end Go.Aig
namespace Go.Proofs.Ytnmfdiiehkkjcaa
open Go.RowKit Go.Mem Go.Aig
theorem and_room21 {G : Gra} (a b : Nat) (h : G.nodes.length < G.most) : (Aig.and G a b).2.2 = 0 ∧ (Aig.and G a b).1.most = G.most ∧ (Aig.and G a b).1.nodes.length ≤ G.nodes.length + 1 ∧ inputs (Aig.and G a b).1.nodes = inputs G.nodes := by
  unfold Aig.and
  split
  · exact ⟨rfl, rfl, by simp, rfl⟩
  · split
    · exact ⟨rfl, rfl, by simp, rfl⟩
    · unfold put
      rw [if_neg (by omega)]
      refine ⟨rfl, rfl, by simp, ?_⟩
      exact inputs_append (by simp)
theorem input_room {G : Gra} (h : G.nodes.length < G.most) : (doInput G).2.2 = 0 ∧ (doInput G).1.most = G.most ∧ (doInput G).1.nodes.length = G.nodes.length + 1 ∧ (inputs (doInput G).1.nodes).length = (inputs G.nodes).length + 1 := by
  unfold doInput put
  rw [if_neg (by omega)]
  refine ⟨rfl, rfl, by simp, ?_⟩
  show (inputs (G.nodes ++ [_])).length = _
  rw [inputs_input rfl]
  simp
/-- a slice of nodes -/
structure NodeS (w : World) (a : Option Addr) (n cap : Nat) (l : List N21) : Prop where
  len : l.length = n
  le : n ≤ cap
  max : cap ≤ 9223372036854775807
  cells : ∀ (i : Nat) (x : N21), l[i]? = some x → ∃ b o, a = some ⟨b, o, none⟩ ∧ w.cell? ⟨b, o + i * 3, none⟩ = some (.bool x.inp) ∧ w.cell? ⟨b, o + i * 3 + 1, none⟩ = some (.int .i64 x.l) ∧ w.cell? ⟨b, o + i * 3 + 2, none⟩ = some (.int .i64 x.r)
  bd : ∀ x ∈ l, (-9223372036854775808 ≤ x.l ∧ x.l ≤ 9223372036854775807) ∧ (-9223372036854775808 ≤ x.r ∧ x.r ≤ 9223372036854775807)
theorem NodeS.ch {w w' : World} {a : Option Addr} {n cap : Nat} {l : List N21} (h : NodeS w a n cap l) (hc : Ch [] w w') : NodeS w' a n cap l :=
  ⟨h.len, h.le, h.max, fun i x hx => by
    obtain ⟨b, o, e, h1, h2, h3⟩ := h.cells i x hx
    exact ⟨b, o, e, (hc.cell (cell_lt h1) (by simp)).trans h1, (hc.cell (cell_lt h2) (by simp)).trans h2, (hc.cell (cell_lt h3) (by simp)).trans h3⟩, h.bd⟩
def n21Cells (l : List N21) : List Value := l.flatMap fun x => [.bool x.inp, .int .i64 x.l, .int .i64 x.r]
theorem n21Cells_snoc (l : List N21) (x : N21) : n21Cells (l ++ [x]) = n21Cells l ++ [.bool x.inp, .int .i64 x.l, .int .i64 x.r] := by simp [n21Cells]
theorem n21_at : ∀ {L : List N21} {k : Nat} {x : N21}, L[k]? = some x → (n21Cells L)[k * 3]? = some (.bool x.inp) ∧ (n21Cells L)[k * 3 + 1]? = some (.int .i64 x.l) ∧ (n21Cells L)[k * 3 + 2]? = some (.int .i64 x.r)
  | [], k, x, h => by simp at h
  | y :: L, 0, x, h => by
    have e : y = x := by simpa using h
    subst e
    exact ⟨rfl, rfl, rfl⟩
  | y :: L, k + 1, x, h => by
    have ih := n21_at (L := L) (k := k) (x := x) (by simpa using h)
    have e : n21Cells (y :: L) = [.bool y.inp, .int .i64 y.l, .int .i64 y.r] ++ n21Cells L := by simp [n21Cells]
    rw [e, show (k + 1) * 3 = k * 3 + 3 by omega]
    refine ⟨?_, ?_, ?_⟩
    · rw [List.getElem?_append_right (by simp)]; simpa using ih.1
    · rw [List.getElem?_append_right (by simp)]; simpa using ih.2.1
    · rw [List.getElem?_append_right (by simp)]; simpa using ih.2.2
theorem row_cell {w : World} {e : TypeId} {size b n c m : Nat} {vs : List Value} (h : row w e size (.slice (some ⟨b, 0, none⟩) n c) m vs) {k : Nat} {v : Value} (hk : vs[k]? = some v) : w.cell? ⟨b, k, none⟩ = some v := by
  have := h.cells (g := b) rfl k v hk
  rw [Addr.add_lit] at this
  simpa using this
theorem infoNode21 : (Try.prog.info? 69).map (fun i => (i.zero, i.size, i.bytes)) = some (some (.agg #[.bool false, .int .i64 0, .int .i64 0]), 3, 24) := by kernel_rfl
theorem slNodes21 : SliceTy Try.prog 22 69 3 24 (.agg #[.bool false, .int .i64 0, .int .i64 0]) := ⟨Try.underlying22, infoNode21, rfl, by decide⟩
set_option maxRecDepth 100000 in
set_option maxHeartbeats 1000000 in
theorem index21_is (w : World) (n : Int) (_hn : -9223372036854775808 ≤ n ∧ n ≤ 9223372036854775807) (k : Nat) (hk : 1 ≤ k) (hk2 : k ≤ 1000000) :
    Calls Try.prog 80 #[.int .i64 n, .int .i64 k] w fun e w' => e = .returned (.int .i64 (n % k)) ∧ w = w' := by
  have hb := Int.emod_nonneg n (show (k : Int) ≠ 0 by omega)
  have hb2 := Int.emod_lt_of_pos n (show (0 : Int) < k by omega)
  have hk0 : ((k : Int) == 0) = false := beqN (by omega)
  have ht := Int.tmod_eq_emod (a := n) (b := (k : Int))
  obtain ⟨r, hr⟩ : ∃ r, Int.tmod n k = r := ⟨_, rfl⟩
  have hr1 : -(k : Int) < r ∧ r < k := by
    have := Int.natAbs_tmod n k
    have h2 : (Int.tmod n k).natAbs < k := by rw [this]; exact Nat.mod_lt _ (by omega)
    rw [hr] at h2
    omega
  have hres : n % k = if r < 0 then r + k else r := by
    rw [hr] at ht
    split at ht
    · split <;> omega
    · have : ((k : Int).natAbs : Int) = k := by simp
      rw [this] at ht
      split <;> omega
  by_cases h0 : r < 0
  · rw [if_pos h0] at hres
    rw [hres]
    have HH := Lib.hid hres
    clear hres ht hb hb2
    go_enter Try.func80, Try.ntmps80
    go_wp2_with fail
    go_ret
    exact ⟨rfl, rfl⟩
  · rw [if_neg h0] at hres
    rw [hres]
    clear hres ht hb hb2
    go_enter Try.func80, Try.ntmps80
    go_wp2_with fail
    go_ret
    exact ⟨rfl, rfl⟩
set_option maxRecDepth 100000 in
set_option maxHeartbeats 4000000 in
theorem few21_is {w : World} {a : Option Addr} {n cap : Nat} {l : List N21} (hS : NodeS w a n cap l) :
    Calls Try.prog 79 #[.slice a n cap] w fun e w' => ∃ v, e = .returned v ∧ row w' 69 3 v (fewL l).length (n21Cells (fewL l)) ∧ (∀ q ∈ v.ownBlock.toList, w.heap.size ≤ q) ∧ Ch [] w w' := by
  have hlen := hS.len
  have hle := hS.le
  have hmx := hS.max
  obtain ⟨m, hm, hm40, hmn⟩ : ∃ m, min n 40 = m ∧ m ≤ 40 ∧ m ≤ n := ⟨_, rfl, by omega, by omega⟩
  have hmin : ∀ ats ty, Builtin.min_ ats ty #[.int .i64 (n : Int), .int .i64 40] = pure (.int .i64 (m : Int)) := fun ats ty => by
    have e : (if (40 : Int) < n then 40 else (n : Int)) = m := by split <;> omega
    rw [← e]
    simp [Builtin.min_, Builtin.min2]
  have hall : (l.take 40) = l.take m := by
    rw [← hm, ← hlen]
    by_cases h : l.length ≤ 40
    · rw [List.take_of_length_le h, List.take_of_length_le (by omega)]
    · rw [show min l.length 40 = 40 by omega]
  have hinv := fun k => few_inv (l.take k)
  unfold fewL
  rw [hall]
  have HS := Lib.hid hS; clear hS
  have HINV := Lib.hid hinv; clear hinv
  clear hall
  have HM := Lib.hid hm; clear hm
  have HLEN := Lib.hid hlen; clear hlen
  go_enter Try.func79, Try.ntmps79
  go_wp2_with fail
  obtain ⟨Q, hQ⟩ : ∃ Q : Nat → List N21 × Nat, Q = fun k => (l.take k).foldl fewS ([], 0) := ⟨_, rfl⟩
  have hQ0 : Q 0 = ([], 0) := by rw [hQ]; rfl
  have hQm : ((l.take m).foldl fewS ([], 0)).1 = (Q m).1 := by rw [hQ]
  have hQs : ∀ (k : Nat) (x : N21), l[k]? = some x → Q (k + 1) = fewS (Q k) x := fun k x hx => by
    rw [hQ]
    show (l.take (k + 1)).foldl _ _ = _
    rw [List.take_add_one, hx, List.foldl_append]
    rfl
  have hQb : ∀ k, k ≤ 40 → (Q k).1.length ≤ 40 ∧ (Q k).2 ≤ 40 := fun k hk => by
    have := HINV.out k
    rw [List.length_take] at this
    rw [hQ]
    show ((l.take k).foldl fewS ([], 0)).1.length ≤ 40 ∧ ((l.take k).foldl fewS ([], 0)).2 ≤ 40
    omega
  have HQ0 := Lib.hid hQ0; clear hQ0
  have HQM := Lib.hid hQm; clear hQm
  have HQS := Lib.hid hQs; clear hQs
  have HQB := Lib.hid hQb; clear hQb
  clear hQ HINV hmin
  go_loopw [3, 4, 13] (fun o q i wr => ∃ k : Nat, k ≤ m ∧ i = .int .i64 k ∧ q = .int .i64 (Q k).2 ∧ Ch [] w wr ∧ row wr 69 3 o (Q k).1.length (n21Cells (Q k).1) ∧ ∀ z ∈ o.ownBlock.toList, w.heap.size ≤ z) (fun _ _ i _ => m - (intOf i).toNat)
  case atStart => exact ⟨0, by omega, rfl, by rw [HQ0.out]; rfl, Ch.refl _ _, by rw [HQ0.out]; exact ⟨rfl, .inl ⟨rfl, rfl⟩⟩, by simp⟩
  case round =>
    obtain ⟨k, hk, rfl, rfl, hc, hrow, hlo⟩ := hrel
    obtain ⟨oa, oc, rfl⟩ := row.shape hrow
    by_cases hlt : k < m
    · obtain ⟨x, hx⟩ : ∃ x, l[k]? = some x := ⟨_, List.getElem?_eq_getElem (by rw [HLEN.out]; omega)⟩
      obtain ⟨ab, ao, rfl, d0, d1, d2⟩ := HS.out.cells k x hx
      have hs := HQS.out k x hx
      have hb := HQB.out k (by omega)
      generalize hQN : Q (k + 1) = QN at hs
      generalize Q k = q at hs hb hrow hlo ⊢
      obtain ⟨L, c⟩ := q
      simp only at hb hrow hlo ⊢
      have c0 := (hc.cell (cell_lt d0) (by simp)).trans d0
      have c1 := (hc.cell (cell_lt d1) (by simp)).trans d1
      have c2 := (hc.cell (cell_lt d2) (by simp)).trans d2
      clear d0 d1 d2 hx
      have HC := Lib.hid hc; clear hc
      have HROW := Lib.hid hrow; clear hrow
      have HLO := Lib.hid hlo; clear hlo
      have HQN := Lib.hid hQN; clear hQN
      have HSS := Lib.hid hs; clear hs
      obtain ⟨inp, xl, xr⟩ := x
      simp only at c0 c1 c2
      go_upto_region 6 with fail
      refine wp_named fun W1 hW1 => ?_
      have hcA : Ch [] wr W1 := by rw [hW1]; exact (Ch.refl _ _).alloc _
      have hb1 : blk W1 wr.heap.size [.bool inp, .int .i64 xl, .int .i64 xr] := by rw [hW1]; exact blk.new' _ _ rfl
      have e0 := hb1.cell (i := 0) rfl
      have e1 := hb1.cell (i := 1) rfl
      have e2 := hb1.cell (i := 2) rfl
      clear hW1 hb1 c0 c1 c2
      cases inp
      · by_cases h8 : c ≤ 8
        · have hf : QN = (L ++ [⟨false, xl, xr⟩], c) := by rw [HSS.out]; simp [fewS]
          have hb2 : blk (W1.alloc (.cells #[.bool false, .int .i64 xl, .int .i64 xr] 69)) W1.heap.size [.bool false, .int .i64 xl, .int .i64 xr] := blk.new' _ _ rfl
          have hcB : Ch [] wr (W1.alloc (.cells #[.bool false, .int .i64 xl, .int .i64 xr] 69)) := hcA.alloc _
          have hrB := HROW.out.ch hcB (by simp)
          have HB2 := Lib.hid hb2; clear hb2
          have HCB := Lib.hid hcB; clear hcB
          have HRB := Lib.hid hrB; clear hrB
          have HF := Lib.hid hf; clear hf
          go_wp2_with (at_builtin; go_loud (refine wpList_append_row slNodes21 rfl _ _ rfl (v := .slice oa L.length oc) (n := L.length) (xs := n21Cells L) rfl HRB.out (ad := ⟨W1.heap.size, 0, none⟩) (m := 1) (c := 1) (news := [.bool false, .int .i64 xl, .int .i64 xr]) rfl rfl (news_blk HB2.out) (by simp [Value.oneCell']) (by omega) (by omega) ?_; intro v' w5 hown4 hC4 hf4; have HO4 := Lib.hid hown4; clear hown4; have HCC4 := Lib.hid hC4; clear hC4; have HF4 := Lib.hid hf4; clear hf4))
          go_roundw
          case rel =>
            obtain ⟨q1, q2⟩ := app_step HC.out HCB.out HLO.out HCC4.out HF4.out
            refine ⟨k + 1, by omega, by go_num, by rw [HQN.out, HF.out] <;> go_num, q1, ?_, q2⟩
            rw [HQN.out, HF.out]
            simp only [List.length_append, List.length_cons, List.length_nil, n21Cells_snoc]
            exact HO4.out
          case measure => simp [intOf]; omega
        · have hf : QN = (L ++ [⟨false, xl, xr⟩], c) := by rw [HSS.out]; simp [fewS]
          have hb2 : blk (W1.alloc (.cells #[.bool false, .int .i64 xl, .int .i64 xr] 69)) W1.heap.size [.bool false, .int .i64 xl, .int .i64 xr] := blk.new' _ _ rfl
          have hcB : Ch [] wr (W1.alloc (.cells #[.bool false, .int .i64 xl, .int .i64 xr] 69)) := hcA.alloc _
          have hrB := HROW.out.ch hcB (by simp)
          have HB2 := Lib.hid hb2; clear hb2
          have HCB := Lib.hid hcB; clear hcB
          have HRB := Lib.hid hrB; clear hrB
          have HF := Lib.hid hf; clear hf
          go_wp2_with (at_builtin; go_loud (refine wpList_append_row slNodes21 rfl _ _ rfl (v := .slice oa L.length oc) (n := L.length) (xs := n21Cells L) rfl HRB.out (ad := ⟨W1.heap.size, 0, none⟩) (m := 1) (c := 1) (news := [.bool false, .int .i64 xl, .int .i64 xr]) rfl rfl (news_blk HB2.out) (by simp [Value.oneCell']) (by omega) (by omega) ?_; intro v' w5 hown4 hC4 hf4; have HO4 := Lib.hid hown4; clear hown4; have HCC4 := Lib.hid hC4; clear hC4; have HF4 := Lib.hid hf4; clear hf4))
          go_roundw
          case rel =>
            obtain ⟨q1, q2⟩ := app_step HC.out HCB.out HLO.out HCC4.out HF4.out
            refine ⟨k + 1, by omega, by go_num, by rw [HQN.out, HF.out] <;> go_num, q1, ?_, q2⟩
            rw [HQN.out, HF.out]
            simp only [List.length_append, List.length_cons, List.length_nil, n21Cells_snoc]
            exact HO4.out
          case measure => simp [intOf]; omega
      · by_cases h8 : c + 1 ≤ 8
        · have hf : QN = (L ++ [⟨true, xl, xr⟩], c + 1) := by rw [HSS.out]; simp [fewS]; omega
          have hb2 : blk (W1.alloc (.cells #[.bool true, .int .i64 xl, .int .i64 xr] 69)) W1.heap.size [.bool true, .int .i64 xl, .int .i64 xr] := blk.new' _ _ rfl
          have hcB : Ch [] wr (W1.alloc (.cells #[.bool true, .int .i64 xl, .int .i64 xr] 69)) := hcA.alloc _
          have hrB := HROW.out.ch hcB (by simp)
          have HB2 := Lib.hid hb2; clear hb2
          have HCB := Lib.hid hcB; clear hcB
          have HRB := Lib.hid hrB; clear hrB
          have HF := Lib.hid hf; clear hf
          go_wp2_with (at_builtin; go_loud (refine wpList_append_row slNodes21 rfl _ _ rfl (v := .slice oa L.length oc) (n := L.length) (xs := n21Cells L) rfl HRB.out (ad := ⟨W1.heap.size, 0, none⟩) (m := 1) (c := 1) (news := [.bool true, .int .i64 xl, .int .i64 xr]) rfl rfl (news_blk HB2.out) (by simp [Value.oneCell']) (by omega) (by omega) ?_; intro v' w5 hown4 hC4 hf4; have HO4 := Lib.hid hown4; clear hown4; have HCC4 := Lib.hid hC4; clear hC4; have HF4 := Lib.hid hf4; clear hf4))
          go_roundw
          case rel =>
            obtain ⟨q1, q2⟩ := app_step HC.out HCB.out HLO.out HCC4.out HF4.out
            refine ⟨k + 1, by omega, by go_num, by rw [HQN.out, HF.out] <;> go_num, q1, ?_, q2⟩
            rw [HQN.out, HF.out]
            simp only [List.length_append, List.length_cons, List.length_nil, n21Cells_snoc]
            exact HO4.out
          case measure => simp [intOf]; omega
        · have hf : QN = (L, c + 1) := by rw [HSS.out]; simp [fewS]; omega
          have HF := Lib.hid hf; clear hf
          have HCA := Lib.hid hcA; clear hcA
          go_wp2_with fail
          go_roundw
          case rel =>
            refine ⟨k + 1, by omega, by go_num, by rw [HQN.out, HF.out] <;> go_num, HC.out.trans HCA.out (by simp), ?_, HLO.out⟩
            rw [HQN.out, HF.out]
            exact HROW.out.ch HCA.out (by simp)
          case measure => simp [intOf]; omega
    · have hkm : k = m := by omega
      subst hkm
      have HC := Lib.hid hc; clear hc
      have HROW := Lib.hid hrow; clear hrow
      have HLO := Lib.hid hlo; clear hlo
      go_wp2_with fail
      go_ret
      exact ⟨_, rfl, by rw [HQM.out]; exact HROW.out, HLO.out, HC.out⟩
set_option maxRecDepth 100000 in
set_option maxHeartbeats 1000000 in
/-- a reference of a graph by a number -/
theorem ref21_is {w : World} {g : Nat} {G : Gra} {F : List Nat} (h : GIn w g G F) (n : Nat) (hn : n ≤ 255) :
    Calls Try.prog 18 #[.pointer (some ⟨g, 0, none⟩), .int .u8 n] w fun e w' => e = .returned (.int .i64 (n % (2 * G.nodes.length) : Nat)) ∧ w = w' := by
  have hpos := h.ok.wf.pos
  have hL := Len_g h
  have hnl : G.nodes.length ≤ 65536 := by have := h.ok.room; have := h.ok.most; omega
  generalize hN : G.nodes.length = N at *
  have hmx : ∀ ats ty, Builtin.max_ ats ty #[.int .i64 (N : Int), .int .i64 1] = pure (.int .i64 (N : Int)) := fun ats ty => max_one N N (by omega) ats ty
  have hne : ((2 * (N : Int)) == 0) = false := by rw [beq_eq_false_iff_ne]; omega
  clear h hN
  go_enter Try.func18, Try.ntmps18
  go_wp2_with fail
  refine hL.mono ?_
  rintro e w' ⟨rfl, rfl⟩
  go_wp2_with fail
  go_ret
  exact ⟨ret_int (by simp), rfl⟩
set_option maxRecDepth 100000 in
set_option maxHeartbeats 4000000 in
theorem made21_is {w : World} {a : Option Addr} {n cap : Nat} {l : List N21} (hS : NodeS w a n cap l) :
    Calls Try.prog 17 #[.slice a n cap] w fun e w' => ∃ g G F, e = .returned (.tuple #[.pointer (some ⟨g, 0, none⟩), .bool true]) ∧ Own w w' g G F ∧ G.most = 200 ∧ G.nodes.length ≤ 41 ∧ (inputs G.nodes).length ≤ 8 := by
  have hfl := fewL_len l
  have hbd : ∀ x ∈ fewL l, (-9223372036854775808 ≤ x.l ∧ x.l ≤ 9223372036854775807) ∧ (-9223372036854775808 ≤ x.r ∧ x.r ≤ 9223372036854775807) := fun x hx => hS.bd x (fewL_sub hx)
  have hfew := fun (W : World) (hW : Ch [] w W) => few21_is (hS.ch hW)
  have HFEW := Lib.hid hfew; clear hfew
  have HBD := Lib.hid hbd; clear hbd
  clear hS
  generalize hLL : fewL l = L at *
  clear hLL
  have HN := Lib.hid (New_yes (w := w) 200 (by decide) (by decide))
  go_enter Try.func17, Try.ntmps17
  go_wp2_with fail
  refine HN.out.mono ?_
  rintro e w1 ⟨g, F, rfl, hg, hF, hc⟩
  have hown : Own w w1 g (newG 200) F := ⟨hg, hF, hc⟩
  have HC := Lib.hid hc; clear hc hg HN
  have HOWN1 := Lib.hid hown.gin.lt
  have HOWN := Lib.hid hown; clear hown
  go_wp2_with fail
  refine (HFEW.out w1 HC.out).mono ?_
  rintro e w2 ⟨v, rfl, hrow, hv, hc2⟩
  obtain ⟨fa, fc, rfl⟩ := row.shape hrow
  have ho2 := HOWN.out.same hc2
  have HROW := Lib.hid hrow; clear hrow
  have HC2 := Lib.hid hc2; clear hc2
  have HV := Lib.hid hv; clear hv HOWN HFEW
  have HO2 := Lib.hid ho2; clear ho2
  go_wp2_with fail
  go_loopw [22] (fun i wr => ∃ (k : Nat) (G : Gra) (F : List Nat), k ≤ L.length ∧ i = .int .i64 k ∧ Own w wr g G F ∧ G.most = 200 ∧ G.nodes.length ≤ k + 1 ∧ (inputs G.nodes).length ≤ cntI (L.take k) ∧ row wr 69 3 (.slice fa L.length fc) L.length (n21Cells L) ∧ ∀ z ∈ (Value.slice fa L.length fc).ownBlock.toList, w1.heap.size ≤ z ∧ z ∉ F) (fun i _ => L.length - (intOf i).toNat)
  case atStart =>
    refine ⟨0, newG 200, F, by omega, rfl, HO2.out, rfl, by decide, Nat.zero_le _, HROW.out, fun z hz => ⟨HV.out z hz, fun hin => ?_⟩⟩
    have h1 := HV.out z hz
    have h2 := HOWN1.out z hin
    omega
  case round =>
    obtain ⟨k, G, F, hk, rfl, hown, hm, hnl, hil, hrow, hv⟩ := hrel
    clear HO2 HROW HV
    have hok := hown.gin.ok
    have hpos := hok.wf.pos
    by_cases hlt : k < L.length
    · obtain ⟨fb, fcap, e⟩ := hrow.parts (by omega)
      cases e
      obtain ⟨x, hx⟩ : ∃ x, L[k]? = some x := ⟨_, List.getElem?_eq_getElem hlt⟩
      obtain ⟨t0, t1, t2⟩ := n21_at hx
      have hxb := HBD.out x (List.mem_of_getElem? hx)
      have hcs : cntI (L.take (k + 1)) = cntI (L.take k) + x.inp.toNat := by rw [List.take_add_one, hx]; exact cntI_snoc _ _
      have c0 := row_cell hrow t0
      have c1 := row_cell hrow t1
      have c2 := row_cell hrow t2
      have hvf := (hv fb (by simp [Value.ownBlock])).2
      have hvlt := (hrow.lt fb rfl).2
      have HROW := Lib.hid hrow; clear hrow
      have HV := Lib.hid hv; clear hv
      have HOWN := Lib.hid hown; clear hown
      have HCS := Lib.hid hcs; clear hcs
      obtain ⟨inp, xl, xr⟩ := x
      simp only at c0 c1 c2 hxb
      have HIL := Lib.hid hil; clear hil
      have HM := Lib.hid hm; clear hm
      go_upto_region 7 with fail
      refine wp_named fun W1 hW1 => ?_
      have hcA : Ch [] wr W1 := by rw [hW1]; exact (Ch.refl _ _).alloc _
      have hb1 : blk W1 wr.heap.size [.bool inp, .int .i64 xl, .int .i64 xr] := by rw [hW1]; exact blk.new' _ _ rfl
      have e0 := hb1.cell (i := 0) rfl
      have hB7 : wr.heap.size ∉ F := fun hin => by have := HOWN.out.gin.lt _ hin; omega
      have hO1 := HOWN.out.same hcA
      have HR1 := Lib.hid (HROW.out.ch hcA (by simp))
      clear hW1 c0 c1 c2 t0 t1 t2 HOWN HROW
      have HCA := Lib.hid hcA; clear hcA
      have hgo : ∀ (G' : Gra) (W' : World), GTo W1 g G' F W' → ∃ F', Own w W' g G' F' ∧ row W' 69 3 (.slice (some ⟨fb, 0, none⟩) L.length fc) L.length (n21Cells L) ∧ ∀ z ∈ (Value.slice (some ⟨fb, 0, none⟩) L.length fc).ownBlock.toList, w1.heap.size ≤ z ∧ z ∉ F' := fun G' W' hto => by
        obtain ⟨F', h1, h2, h3, h4⟩ := hto
        refine ⟨F', ⟨h1, fun q hq => (h3 q hq).elim (hO1.own q) (fun e => Nat.le_trans hO1.ch.size e), hO1.ch.trans h2 (fun q hq => .inr (hO1.own q hq))⟩, HR1.out.ch h2 (fun q hq => by cases hq; exact hvf), fun z hz => ⟨(HV.out z hz).1, fun hin => ?_⟩⟩
        simp [Value.ownBlock] at hz
        subst hz
        rcases h3 _ hin with e | e
        · exact hvf e
        · have := HCA.out.size; omega
      have HGO := Lib.hid hgo; clear hgo
      cases inp
      · have hLen := Len_g hO1.gin
        obtain ⟨N, hN⟩ : ∃ N, G.nodes.length = N := ⟨_, rfl⟩
        rw [hN] at hLen hnl hpos
        have hmx : ∀ ats ty, Builtin.max_ ats ty #[.int .i64 (2 * (N : Int)), .int .i64 2] = pure (.int .i64 ((2 * N : Nat) : Int)) := fun ats ty => max_nat (2 * (N : Int)) 2 (2 * N) (by omega) ats ty
        obtain ⟨p, hp, hpl⟩ : ∃ p : Nat, xl % ((2 * N : Nat) : Int) = p ∧ p < 2 * N := ⟨(xl % ((2 * N : Nat) : Int)).toNat, by
          have := Int.emod_nonneg xl (show ((2 * N : Nat) : Int) ≠ 0 by omega)
          omega, by
          have := Int.emod_nonneg xl (show ((2 * N : Nat) : Int) ≠ 0 by omega)
          have := Int.emod_lt_of_pos xl (show (0 : Int) < ((2 * N : Nat) : Int) by omega)
          omega⟩
        obtain ⟨q, hq, hql⟩ : ∃ q : Nat, xr % ((2 * N : Nat) : Int) = q ∧ q < 2 * N := ⟨(xr % ((2 * N : Nat) : Int)).toNat, by
          have := Int.emod_nonneg xr (show ((2 * N : Nat) : Int) ≠ 0 by omega)
          omega, by
          have := Int.emod_nonneg xr (show ((2 * N : Nat) : Int) ≠ 0 by omega)
          have := Int.emod_lt_of_pos xr (show (0 : Int) < ((2 * N : Nat) : Int) by omega)
          omega⟩
        have HI1 := fun W => index21_is W xl hxb.1 (2 * N) (by omega) (by omega)
        have HI2 := fun W => index21_is W xr hxb.2 (2 * N) (by omega) (by omega)
        simp only [hp] at HI1
        simp only [hq] at HI2
        have hroom := and_room21 (G := G) p q (by rw [hN, HM.out]; omega)
        have hand : doAnd G p q = Aig.and G p q := doAnd_r (by omega) (by omega)
        have HAN := fun (W : World) (hW : Ch [] W1 W) => And_g (hO1.gin.same hW (by simp)) p q (by omega) (by omega)
        simp only [hand, hroom.1] at HAN
        have HROOM := Lib.hid hroom; clear hroom
        have HI1 := Lib.hid HI1
        have HI2 := Lib.hid HI2
        have HAN := Lib.hid HAN
        have HBK := Lib.hid hb1; clear hb1
        have HNN := Lib.hid hN
        clear hand hp hq hN
        go_wp2_with fail
        refine hLen.mono ?_
        rintro e w' ⟨rfl, rfl⟩
        go_wp2_with fail
        refine Ord.St.door (fun w' => w'.cell? ⟨wr.heap.size, 1, none⟩ = some (.int .i64 xl) ∧ w'.cell? ⟨wr.heap.size, 2, none⟩ = some (.int .i64 xr)) [.fl, .fl, .ho, .fl, .ef, .fl, .ho, .fl, .ef, .ef, .fl, .fl, .fl, .fl] [0, 0, 2, 0, 14, 0, 32, 0, 254, 511, 1023, 2047, 2047, 8191] [0, 1, 2, 3, 4, 5, 6, 7, 8, 9, 10, 11, 12, 13] mixed (by kernel_rfl) rfl ?_
        obtain ⟨Wc, hWc⟩ : ∃ Wc, Wc = W1.drew := ⟨_, rfl⟩
        rw [← hWc]
        have hcur : Ch [] W1 Wc := by rw [hWc]; exact (Ch.refl _ _).drew
        clear hWc
        have hbk := HBK.out.ch hcur (by simp)
        have HCUR := Lib.hid hcur
        refine Ord.St.fl2 (T' := ?_) 0 [1, 2, 3, 4, 5, 6, 7, 8, 9, 10, 11, 12, 13] _ _ rfl (by kernel_rfl) rfl rfl rfl rfl (fun K w' hk => ?_) ?_
        rotate_left
        · go_step; exact hk
        refine Ord.St.fl2 (T' := ?_) 1 [2, 3, 4, 5, 6, 7, 8, 9, 10, 11, 12, 13] _ _ rfl (by kernel_rfl) rfl rfl rfl rfl (fun K w' hk => ?_) ?_
        rotate_left
        · go_step; exact hk
        refine Ord.St.ho2 (T' := ?_) 2 [3, 4, 5, 6, 7, 8, 9, 10, 11, 12, 13] _ _ rfl (by kernel_rfl) rfl rfl rfl rfl ?_ (fun K w' hw' hk => ?_) ?_
        rotate_left
        · exact ⟨hbk.cell rfl, hbk.cell rfl⟩
        · obtain ⟨q1, q2⟩ := hw'; go_step; exact hk
        refine Ord.St.fl2 (T' := ?_) 3 [4, 5, 6, 7, 8, 9, 10, 11, 12, 13] _ _ rfl (by kernel_rfl) rfl rfl rfl rfl (fun K w' hk => ?_) ?_
        rotate_left
        · go_step; exact hk
        refine Ord.St.fl2 (T' := ?_) 5 [4, 6, 7, 8, 9, 10, 11, 12, 13] _ _ rfl (by kernel_rfl) rfl rfl rfl rfl (fun K w' hk => ?_) ?_
        rotate_left
        · go_step; exact hk
        refine Ord.St.ho2 (T' := ?_) 6 [4, 7, 8, 9, 10, 11, 12, 13] _ _ rfl (by kernel_rfl) rfl rfl rfl rfl ?_ (fun K w' hw' hk => ?_) ?_
        rotate_left
        · exact ⟨hbk.cell rfl, hbk.cell rfl⟩
        · obtain ⟨q1, q2⟩ := hw'; go_step; exact hk
        refine Ord.St.fl2 (T' := ?_) 7 [4, 8, 9, 10, 11, 12, 13] _ _ rfl (by kernel_rfl) rfl rfl rfl rfl (fun K w' hk => ?_) ?_
        rotate_left
        · go_step; exact hk
        refine Ord.St.efC 4 [8, 9, 10, 11, 12, 13] _ rfl (by kernel_rfl) (fun K hK => ?_)
        go_wp2_with fail
        refine (HI1.out _).mono ?_
        rintro e w' ⟨rfl, rfl⟩
        go_wp2_with fail
        refine ⟨rfl, hK _ _ ?_ ?_⟩
        · exact ⟨hbk.cell rfl, hbk.cell rfl⟩
        clear hK K
        refine Ord.St.ef 8 [9, 10, 11, 12, 13] _ rfl (by kernel_rfl) (fun K hK => ?_)
        go_wp2_with fail
        refine (HI2.out _).mono ?_
        rintro e w' ⟨rfl, rfl⟩
        go_wp2_with fail
        refine ⟨rfl, hK _ _ ?_⟩; clear hK K
        refine Ord.St.ef 9 [10, 11, 12, 13] _ rfl (by kernel_rfl) (fun K hK => ?_)
        have han := HAN.out Wc hcur
        have HAN1 := Lib.hid han; clear han HAN
        go_wp2_with fail
        refine HAN1.out.mono ?_
        rintro e w5 ⟨rfl, hto⟩
        have HTO := Lib.hid hto; clear hto
        go_wp2_with fail
        refine ⟨rfl, hK _ _ ?_⟩; clear hK K
        refine Ord.St.fl2 (T' := ?_) 10 [11, 12, 13] _ _ rfl (by kernel_rfl) rfl rfl rfl rfl (fun K w' hk => ?_) ?_
        rotate_left
        · go_step; exact hk
        refine Ord.St.fl2 (T' := ?_) 11 [12, 13] _ _ rfl (by kernel_rfl) rfl rfl rfl rfl (fun K w' hk => ?_) ?_
        rotate_left
        · go_step; exact hk
        refine Ord.St.fl2 (T' := ?_) 12 [13] _ _ rfl (by kernel_rfl) rfl rfl rfl rfl (fun K w' hk => ?_) ?_
        rotate_left
        · go_step; exact hk
        refine Ord.St.fl2 (T' := ?_) 13 [] _ _ rfl (by kernel_rfl) rfl rfl rfl rfl (fun K w' hk => ?_) ?_
        rotate_left
        · go_step; exact hk
        refine Ord.St.nil ?_
        go_wp2_with fail
        go_roundw
        case rel =>
          obtain ⟨F', k1, k2, k3⟩ := HGO.out _ _ (GTo.since HCUR.out HTO.out)
          obtain ⟨r1, r2, r3, r4⟩ := HROOM.out
          have hnn := HNN.out
          exact ⟨k + 1, _, F', by omega, by go_num, k1, by rw [r2]; exact HM.out, by omega, by rw [r4, HCS.out]; exact HIL.out, k2, k3⟩
        case measure => simp [intOf]; omega
      · have hroom := input_room (G := G) (by rw [HM.out]; omega)
        have HIN := Input_g hO1.gin
        rw [hroom.1] at HIN
        have HROOM := Lib.hid hroom; clear hroom
        have HIN := Lib.hid HIN
        clear hb1
        go_wp2_with fail
        refine HIN.out.mono ?_
        rintro e w5 ⟨rfl, hto⟩
        have HTO := Lib.hid hto; clear hto
        go_wp2_with fail
        go_roundw
        case rel =>
          obtain ⟨F', k1, k2, k3⟩ := HGO.out _ _ HTO.out
          obtain ⟨r1, r2, r3, r4⟩ := HROOM.out
          refine ⟨k + 1, _, F', by omega, by go_num, k1, by rw [r2]; exact HM.out, by omega, ?_, k2, k3⟩
          rw [r4, HCS.out]
          have := HIL.out
          simp
          omega
        case measure => simp [intOf]; omega
    · have hkn : k = L.length := by omega
      subst hkn
      have hLen := Len_g hown.gin
      have e1 : decide ((G.nodes.length : Int) > 0) = true := decide_eq_true (by omega)
      have HOWN := Lib.hid hown; clear hown
      have HIL := Lib.hid hil; clear hil
      clear hrow hv
      go_wp2_with fail
      refine hLen.mono ?_
      rintro e w' ⟨rfl, rfl⟩
      go_wp2_with fail
      go_ret2
      refine ⟨g, G, F, rfl, HOWN.out, hm, by omega, ?_⟩
      have := HIL.out
      rw [List.take_of_length_le (Nat.le_refl _)] at this
      omega
end Go.Proofs.Ytnmfdiiehkkjcaa
namespace Go.Proofs.Ytnmfdiiehkkjcaa
open Go.ChangeShapes Go.WideShapes Go.ChangeAt Go.RowKit Go.Mem Go.Aig Go.Deep
theorem wf_u64 {n : Int} (h : (Lit.int .u64 n).wf = true) : ∃ m : Nat, n = m ∧ m < 2 ^ 64 := by
  have : 0 ≤ n ∧ n ≤ 18446744073709551615 := by simpa [Lit.wf, IntKind.min, IntKind.max, IntKind.signed, IntKind.bits] using h
  exact ⟨n.toNat, by omega, by omega⟩
theorem wf_u16 {n : Int} (h : (Lit.int .u16 n).wf = true) : ∃ m : Nat, n = m ∧ m < 2 ^ 16 := by
  have : 0 ≤ n ∧ n ≤ 65535 := by simpa [Lit.wf, IntKind.min, IntKind.max, IntKind.signed, IntKind.bits] using h
  exact ⟨n.toNat, by omega, by omega⟩
theorem wf_u8' {n : Int} (h : (Lit.int .u8 n).wf = true) : ∃ m : Nat, n = m ∧ m < 2 ^ 8 := by
  have : 0 ≤ n ∧ n ≤ 255 := by simpa [Lit.wf, IntKind.min, IntKind.max, IntKind.signed, IntKind.bits] using h
  exact ⟨n.toNat, by omega, by omega⟩
/-- a slice of numbers of one kind that came in -/
structure NumS (k : IntKind) (bits : Nat) (w : World) (a : Option Addr) (n cap : Nat) (l : List Nat) : Prop where
  sv : Sv w a (l.map fun (x : Nat) => .int k x)
  len : l.length = n
  bd : ∀ x ∈ l, x < 2 ^ bits
  le : n ≤ cap
  max : cap ≤ 9223372036854775807
section
variable {H : Type} {enc : TypeId × Value → H} {W : World}
set_option maxRecDepth 100000 in
theorem u64s_open6 {a : Option Addr} {len cap : Nat} {d : DataW H} {p : List MemPlace} (h : DataW.Trod enc Try.prog W 0 (fun _ => true) true 33 (.slice a len cap) d p) : ∃ l, NumS .u64 64 W a len cap l := by
  obtain ⟨fuel, hf⟩ := h
  rcases open_slice Try.underlying33 hf with ⟨hcs, _⟩ | ⟨y, l, cp, m, n, D, Pl, hcs, _, hl, hm, hmm, _, hi⟩
  · simp [Value.cells] at hcs
    obtain ⟨rfl, rfl, rfl⟩ := hcs
    exact ⟨[], ⟨by simp, by simp⟩, rfl, by simp, by omega, by omega⟩
  · simp [Value.cells] at hcs
    obtain ⟨rfl, rfl, rfl⟩ := hcs
    have hm' : cap ≤ 9223372036854775807 := by unfold maxLen at hm; exact hm
    have hC : Try.prog.cellsOf 45 = 1 := by kernel_rfl
    have hspot : 0 < len → y.spot = none := fun h0 => by
      obtain ⟨cs', hc, _⟩ := hi 0 (by rw [hmm]; simp; omega)
      rw [hC] at hc
      obtain ⟨_, hcl, hat⟩ := World.cells?_some hc
      have e0 := hat 0 (by omega)
      rw [List.getElem?_eq_getElem (by omega)] at e0
      simpa [Addr.add] using World.cell?_spot e0
    have key : ∀ i, i < len → ∃ z : Nat, (∃ b o, (some y : Option Addr) = some ⟨b, o, none⟩ ∧ W.cell? ⟨b, o + i, none⟩ = some (.int .u64 z)) ∧ z < 2 ^ 64 := by
      intro i hlt
      obtain ⟨cs', hc, ht⟩ := hi i (by rw [hmm]; simp; omega)
      rw [hC] at hc
      obtain ⟨_, hcl, hat⟩ := World.cells?_some hc
      match cs', hcl with
      | [c0], _ =>
        obtain ⟨z, hz, _, hw⟩ := DataW.trod_int Try.underlying45 ht
        obtain ⟨m, rfl, hb⟩ := wf_u64 hw
        simp at hz
        subst hz
        have e0 := hat 0 (by omega)
        simp at e0
        obtain ⟨b, o, spot⟩ := y
        have hsp : spot = none := hspot (by omega)
        subst hsp
        simp only [Addr.add_lit] at e0
        exact ⟨m, ⟨b, o, rfl, by simpa using e0⟩, hb⟩
    obtain ⟨ll, hll, hp⟩ := list_of _ len key
    refine ⟨ll, ⟨fun i s hs => ?_, by rw [List.length_map]; omega⟩, hll, fun s hs => ?_, hl, hm'⟩
    · rw [List.getElem?_map, Option.map_eq_some_iff] at hs
      obtain ⟨q, hq, rfl⟩ := hs
      exact (hp i q hq).1
    · obtain ⟨i, hi2⟩ := List.mem_iff_getElem?.1 hs
      exact (hp i s hi2).2
set_option maxRecDepth 100000 in
theorem u16s_open6 {a : Option Addr} {len cap : Nat} {d : DataW H} {p : List MemPlace} (h : DataW.Trod enc Try.prog W 0 (fun _ => true) true 94 (.slice a len cap) d p) : ∃ l, NumS .u16 16 W a len cap l := by
  obtain ⟨fuel, hf⟩ := h
  rcases open_slice Try.underlying94 hf with ⟨hcs, _⟩ | ⟨y, l, cp, m, n, D, Pl, hcs, _, hl, hm, hmm, _, hi⟩
  · simp [Value.cells] at hcs
    obtain ⟨rfl, rfl, rfl⟩ := hcs
    exact ⟨[], ⟨by simp, by simp⟩, rfl, by simp, by omega, by omega⟩
  · simp [Value.cells] at hcs
    obtain ⟨rfl, rfl, rfl⟩ := hcs
    have hm' : cap ≤ 9223372036854775807 := by unfold maxLen at hm; exact hm
    have hC : Try.prog.cellsOf 97 = 1 := by kernel_rfl
    have hspot : 0 < len → y.spot = none := fun h0 => by
      obtain ⟨cs', hc, _⟩ := hi 0 (by rw [hmm]; simp; omega)
      rw [hC] at hc
      obtain ⟨_, hcl, hat⟩ := World.cells?_some hc
      have e0 := hat 0 (by omega)
      rw [List.getElem?_eq_getElem (by omega)] at e0
      simpa [Addr.add] using World.cell?_spot e0
    have key : ∀ i, i < len → ∃ z : Nat, (∃ b o, (some y : Option Addr) = some ⟨b, o, none⟩ ∧ W.cell? ⟨b, o + i, none⟩ = some (.int .u16 z)) ∧ z < 2 ^ 16 := by
      intro i hlt
      obtain ⟨cs', hc, ht⟩ := hi i (by rw [hmm]; simp; omega)
      rw [hC] at hc
      obtain ⟨_, hcl, hat⟩ := World.cells?_some hc
      match cs', hcl with
      | [c0], _ =>
        obtain ⟨z, hz, _, hw⟩ := DataW.trod_int Try.underlying97 ht
        obtain ⟨m, rfl, hb⟩ := wf_u16 hw
        simp at hz
        subst hz
        have e0 := hat 0 (by omega)
        simp at e0
        obtain ⟨b, o, spot⟩ := y
        have hsp : spot = none := hspot (by omega)
        subst hsp
        simp only [Addr.add_lit] at e0
        exact ⟨m, ⟨b, o, rfl, by simpa using e0⟩, hb⟩
    obtain ⟨ll, hll, hp⟩ := list_of _ len key
    refine ⟨ll, ⟨fun i s hs => ?_, by rw [List.length_map]; omega⟩, hll, fun s hs => ?_, hl, hm'⟩
    · rw [List.getElem?_map, Option.map_eq_some_iff] at hs
      obtain ⟨q, hq, rfl⟩ := hs
      exact (hp i q hq).1
    · obtain ⟨i, hi2⟩ := List.mem_iff_getElem?.1 hs
      exact (hp i s hi2).2
set_option maxRecDepth 100000 in
theorem u8s_open6 {a : Option Addr} {len cap : Nat} {d : DataW H} {p : List MemPlace} (h : DataW.Trod enc Try.prog W 0 (fun _ => true) true 72 (.slice a len cap) d p) : ∃ l, NumS .u8 8 W a len cap l := by
  obtain ⟨fuel, hf⟩ := h
  rcases open_slice Try.underlying72 hf with ⟨hcs, _⟩ | ⟨y, l, cp, m, n, D, Pl, hcs, _, hl, hm, hmm, _, hi⟩
  · simp [Value.cells] at hcs
    obtain ⟨rfl, rfl, rfl⟩ := hcs
    exact ⟨[], ⟨by simp, by simp⟩, rfl, by simp, by omega, by omega⟩
  · simp [Value.cells] at hcs
    obtain ⟨rfl, rfl, rfl⟩ := hcs
    have hm' : cap ≤ 9223372036854775807 := by unfold maxLen at hm; exact hm
    have hC : Try.prog.cellsOf 5 = 1 := by kernel_rfl
    have hspot : 0 < len → y.spot = none := fun h0 => by
      obtain ⟨cs', hc, _⟩ := hi 0 (by rw [hmm]; simp; omega)
      rw [hC] at hc
      obtain ⟨_, hcl, hat⟩ := World.cells?_some hc
      have e0 := hat 0 (by omega)
      rw [List.getElem?_eq_getElem (by omega)] at e0
      simpa [Addr.add] using World.cell?_spot e0
    have key : ∀ i, i < len → ∃ z : Nat, (∃ b o, (some y : Option Addr) = some ⟨b, o, none⟩ ∧ W.cell? ⟨b, o + i, none⟩ = some (.int .u8 z)) ∧ z < 2 ^ 8 := by
      intro i hlt
      obtain ⟨cs', hc, ht⟩ := hi i (by rw [hmm]; simp; omega)
      rw [hC] at hc
      obtain ⟨_, hcl, hat⟩ := World.cells?_some hc
      match cs', hcl with
      | [c0], _ =>
        obtain ⟨z, hz, _, hw⟩ := DataW.trod_int Try.underlying5 ht
        obtain ⟨m, rfl, hb⟩ := wf_u8' hw
        simp at hz
        subst hz
        have e0 := hat 0 (by omega)
        simp at e0
        obtain ⟨b, o, spot⟩ := y
        have hsp : spot = none := hspot (by omega)
        subst hsp
        simp only [Addr.add_lit] at e0
        exact ⟨m, ⟨b, o, rfl, by simpa using e0⟩, hb⟩
    obtain ⟨ll, hll, hp⟩ := list_of _ len key
    refine ⟨ll, ⟨fun i s hs => ?_, by rw [List.length_map]; omega⟩, hll, fun s hs => ?_, hl, hm'⟩
    · rw [List.getElem?_map, Option.map_eq_some_iff] at hs
      obtain ⟨q, hq, rfl⟩ := hs
      exact (hp i q hq).1
    · obtain ⟨i, hi2⟩ := List.mem_iff_getElem?.1 hs
      exact (hp i s hi2).2
set_option maxRecDepth 100000 in
theorem nodes_open {a : Option Addr} {len cap : Nat} {d : DataW H} {p : List MemPlace} (h : DataW.Trod enc Try.prog W 0 (fun _ => true) true 22 (.slice a len cap) d p) : ∃ l, NodeS W a len cap l := by
  obtain ⟨fuel, hf⟩ := h
  rcases open_slice Try.underlying22 hf with ⟨hcs, _⟩ | ⟨x, l, c, m, n, D, Pl, hcs, _, hl, hm, hmm, _, hi⟩
  · simp [Value.cells] at hcs
    obtain ⟨rfl, rfl, rfl⟩ := hcs
    exact ⟨[], rfl, by omega, by omega, by simp, by simp⟩
  · simp [Value.cells] at hcs
    obtain ⟨rfl, rfl, rfl⟩ := hcs
    have hC : Try.prog.cellsOf 69 = 3 := by kernel_rfl
    have hspot : 0 < len → x.spot = none := fun h0 => by
      obtain ⟨cs', hc, _⟩ := hi 0 (by rw [hmm]; simp; omega)
      rw [hC] at hc
      obtain ⟨_, hcl, hat⟩ := World.cells?_some hc
      have e0 := hat 0 (by omega)
      rw [List.getElem?_eq_getElem (by omega)] at e0
      simpa [Addr.add] using World.cell?_spot e0
    have key : ∀ i, i < len → ∃ s : N21, (∃ b o, (some x : Option Addr) = some ⟨b, o, none⟩ ∧ W.cell? ⟨b, o + i * 3, none⟩ = some (.bool s.inp) ∧ W.cell? ⟨b, o + i * 3 + 1, none⟩ = some (.int .i64 s.l) ∧ W.cell? ⟨b, o + i * 3 + 2, none⟩ = some (.int .i64 s.r)) ∧
        (-9223372036854775808 ≤ s.l ∧ s.l ≤ 9223372036854775807) ∧ (-9223372036854775808 ≤ s.r ∧ s.r ≤ 9223372036854775807) := by
      intro i hlt
      obtain ⟨cs', hc, ht⟩ := hi i (by rw [hmm]; simp; omega)
      rw [hC] at hc
      obtain ⟨ys, n', _, _, hlen, _, hfd⟩ := DataW.trod_struct Try.underlying69 ht
      obtain ⟨_, hcl, hat⟩ := World.cells?_some hc
      match cs', hcl with
      | [c0, c1, c2], _ =>
        have f0 := hfd 0 _ rfl
        have f1 := hfd 1 _ rfl
        have f2 := hfd 2 _ rfl
        have hu : Try.prog.cellsOf 4 = 1 := by kernel_rfl
        have hi9 : Try.prog.cellsOf 3 = 1 := by kernel_rfl
        simp only [List.getElem_toArray, List.getElem_cons_zero, List.getElem_cons_succ, hu, hi9, List.drop_zero, List.drop_succ_cons, List.take_succ_cons, List.take_zero] at f0 f1 f2
        have hys : ys.length = 3 := by have := ‹ys.length = _›; simpa using this
        rw [List.getElem?_eq_getElem (by omega)] at f0 f1 f2
        obtain ⟨z0, hz0, _⟩ := DataW.trod_bool Try.underlying4 f0
        obtain ⟨z1, hz1, _, hw1⟩ := DataW.trod_int Try.underlying3 f1
        obtain ⟨z2, hz2, _, hw2⟩ := DataW.trod_int Try.underlying3 f2
        have b1 := wf_i64 hw1
        have b2 := wf_i64 hw2
        simp at hz0 hz1 hz2
        subst hz0 hz1 hz2
        have e0 := hat 0 (by omega)
        have e1 := hat 1 (by omega)
        have e2 := hat 2 (by omega)
        simp at e0 e1 e2
        obtain ⟨b, o, spot⟩ := x
        have hsp : spot = none := hspot (by omega)
        subst hsp
        simp only [Addr.add_lit] at e0 e1 e2
        exact ⟨⟨z0, z1, z2⟩, ⟨b, o, rfl, by simpa using e0, by simpa using e1, by simpa using e2⟩, b1, b2⟩
    obtain ⟨ll, hll, hp⟩ := list_of _ len key
    have idx : ∀ s ∈ ll, ∃ i : Nat, ll[i]? = some s := fun s hs => List.mem_iff_getElem?.1 hs
    exact ⟨ll, hll, hl, by unfold maxLen at hm; exact hm, fun i s hs => (hp i s hs).1, fun s hs => by obtain ⟨i, hi2⟩ := idx s hs; exact (hp i s hi2).2⟩
end
end Go.Proofs.Ytnmfdiiehkkjcaa
namespace Go.Proofs.Ytnmfdiiehkkjcaa
open Go.RowKit Go.Mem Go.Aig
theorem takeN_succ {xs ys : List Nat} {k : Nat} {x y : Nat} (h : xs.take k = ys.take k) (hx : xs[k]? = some x) (hy : ys[k]? = some y) (e : x = y) : xs.take (k + 1) = ys.take (k + 1) := by
  rw [List.take_add_one, List.take_add_one, h, hx, hy, e]
section
variable {w : World}
set_option maxRecDepth 100000 in
set_option maxHeartbeats 1000000 in
theorem EQu64_is {a b : Option Addr} {xs ys : List Nat} (ca cb : Nat) (hx : Sv w a (u64s xs)) (hy : Sv w b (u64s ys)) :
    Calls Try.prog 35 #[.slice a xs.length ca, .slice b ys.length cb] w fun e w' => e = .returned (.bool (decide (xs = ys))) ∧ Ch [] w w' := by
  have hbx : xs.length ≤ 9223372036854775807 := by have := hx.bd; simpa [u64s] using this
  have hby : ys.length ≤ 9223372036854775807 := by have := hy.bd; simpa [u64s] using this
  have HX := Lib.hid hx; clear hx
  have HY := Lib.hid hy; clear hy
  by_cases hl : xs.length = ys.length
  · have hne : ((xs.length : Int) != (ys.length : Int)) = false := by simp [hl]
    generalize hd : decide (xs = ys) = d
    have HD := Lib.hid hd; clear hd
    have HL := Lib.hid hl; clear hl
    go_enter Try.func35, Try.ntmps35
    go_wp2_with fail
    go_loopw [13] (fun i wr => ∃ k : Nat, k ≤ xs.length ∧ i = .int .i64 k ∧ xs.take k = ys.take k ∧ Ch [] w wr) (fun i _ => xs.length - (intOf i).toNat)
    case atStart => exact ⟨0, Nat.zero_le _, rfl, rfl, Ch.refl _ _⟩
    case round =>
      obtain ⟨k, hk, rfl, ht, hc⟩ := hrel
      have HT := Lib.hid ht; clear ht
      by_cases hlt : k < xs.length
      · have hlt2 : k < ys.length := by have := HL.out; omega
        have hxk : xs[k]? = some xs[k] := List.getElem?_eq_getElem hlt
        have hyk : ys[k]? = some ys[k] := List.getElem?_eq_getElem hlt2
        obtain ⟨b1, o1, rfl, c1⟩ := (HX.out.ch hc (by simp)).cells k (.int .u64 (xs[k] : Nat)) (u64s_get hxk)
        obtain ⟨b2, o2, rfl, c2⟩ := (HY.out.ch hc (by simp)).cells k (.int .u64 (ys[k] : Nat)) (u64s_get hyk)
        generalize xs[k] = x at *
        generalize ys[k] = y at *
        have HXK := Lib.hid hxk; clear hxk
        have HYK := Lib.hid hyk; clear hyk
        have HC := Lib.hid hc; clear hc
        by_cases hxy : x = y
        · have hb : ((x : Int) != y) = false := by simp [hxy]
          have HE := Lib.hid hxy; clear hxy
          go_wp2_with fail
          refine Ord.St.door (fun _ => True) [.fl, .fl, .fl, .rd, .fl, .fl, .fl, .rd, .fl] [0, 0, 3, 7, 0, 0, 48, 112, 255] [0, 1, 2, 3, 4, 5, 6, 7, 8] mixed (by kernel_rfl) rfl ?_
          refine Ord.St.fl2 (T' := ?_) 0 [1, 2, 3, 4, 5, 6, 7, 8] _ _ rfl (by kernel_rfl) rfl rfl rfl rfl (fun K w' hk => ?_) ?_
          rotate_left
          · go_step; exact hk
          refine Ord.St.fl2 (T' := ?_) 1 [2, 3, 4, 5, 6, 7, 8] _ _ rfl (by kernel_rfl) rfl rfl rfl rfl (fun K w' hk => ?_) ?_
          rotate_left
          · go_step; exact hk
          refine Ord.St.fl2 (T' := ?_) 2 [3, 4, 5, 6, 7, 8] _ _ rfl (by kernel_rfl) rfl rfl rfl rfl (fun K w' hk => ?_) ?_
          rotate_left
          · go_step; exact hk
          refine Ord.St.rd2 (T' := ?_) 3 [4, 5, 6, 7, 8] _ _ rfl (by kernel_rfl) rfl rfl rfl rfl (fun K hk => ?_) ?_
          rotate_left
          · go_step; exact hk
          refine Ord.St.fl2 (T' := ?_) 4 [5, 6, 7, 8] _ _ rfl (by kernel_rfl) rfl rfl rfl rfl (fun K w' hk => ?_) ?_
          rotate_left
          · go_step; exact hk
          refine Ord.St.fl2 (T' := ?_) 5 [6, 7, 8] _ _ rfl (by kernel_rfl) rfl rfl rfl rfl (fun K w' hk => ?_) ?_
          rotate_left
          · go_step; exact hk
          refine Ord.St.fl2 (T' := ?_) 6 [7, 8] _ _ rfl (by kernel_rfl) rfl rfl rfl rfl (fun K w' hk => ?_) ?_
          rotate_left
          · go_step; exact hk
          refine Ord.St.rd2 (T' := ?_) 7 [8] _ _ rfl (by kernel_rfl) rfl rfl rfl rfl (fun K hk => ?_) ?_
          rotate_left
          · go_step; exact hk
          refine Ord.St.fl2 (T' := ?_) 8 [] _ _ rfl (by kernel_rfl) rfl rfl rfl rfl (fun K w' hk => ?_) ?_
          rotate_left
          · go_step; exact hk
          refine Ord.St.nil ?_
          go_wp2_with fail
          go_roundw
          case rel => exact ⟨k + 1, by omega, by go_num, takeN_succ HT.out HXK.out HYK.out HE.out, HC.out.drew⟩
          case measure => simp [intOf]; omega
        · have hb : ((x : Int) != y) = true := by simp; omega
          have hdf : d = false := by
            rw [← HD.out]
            refine decide_eq_false fun e => hxy ?_
            have h1 := HXK.out
            rw [e, HYK.out] at h1
            cases h1; rfl
          have HDF := Lib.hid hdf; clear hdf
          clear hxy
          go_wp2_with fail
          refine Ord.St.door (fun _ => True) [.fl, .fl, .fl, .rd, .fl, .fl, .fl, .rd, .fl] [0, 0, 3, 7, 0, 0, 48, 112, 255] [0, 1, 2, 3, 4, 5, 6, 7, 8] mixed (by kernel_rfl) rfl ?_
          refine Ord.St.fl2 (T' := ?_) 0 [1, 2, 3, 4, 5, 6, 7, 8] _ _ rfl (by kernel_rfl) rfl rfl rfl rfl (fun K w' hk => ?_) ?_
          rotate_left
          · go_step; exact hk
          refine Ord.St.fl2 (T' := ?_) 1 [2, 3, 4, 5, 6, 7, 8] _ _ rfl (by kernel_rfl) rfl rfl rfl rfl (fun K w' hk => ?_) ?_
          rotate_left
          · go_step; exact hk
          refine Ord.St.fl2 (T' := ?_) 2 [3, 4, 5, 6, 7, 8] _ _ rfl (by kernel_rfl) rfl rfl rfl rfl (fun K w' hk => ?_) ?_
          rotate_left
          · go_step; exact hk
          refine Ord.St.rd2 (T' := ?_) 3 [4, 5, 6, 7, 8] _ _ rfl (by kernel_rfl) rfl rfl rfl rfl (fun K hk => ?_) ?_
          rotate_left
          · go_step; exact hk
          refine Ord.St.fl2 (T' := ?_) 4 [5, 6, 7, 8] _ _ rfl (by kernel_rfl) rfl rfl rfl rfl (fun K w' hk => ?_) ?_
          rotate_left
          · go_step; exact hk
          refine Ord.St.fl2 (T' := ?_) 5 [6, 7, 8] _ _ rfl (by kernel_rfl) rfl rfl rfl rfl (fun K w' hk => ?_) ?_
          rotate_left
          · go_step; exact hk
          refine Ord.St.fl2 (T' := ?_) 6 [7, 8] _ _ rfl (by kernel_rfl) rfl rfl rfl rfl (fun K w' hk => ?_) ?_
          rotate_left
          · go_step; exact hk
          refine Ord.St.rd2 (T' := ?_) 7 [8] _ _ rfl (by kernel_rfl) rfl rfl rfl rfl (fun K hk => ?_) ?_
          rotate_left
          · go_step; exact hk
          refine Ord.St.fl2 (T' := ?_) 8 [] _ _ rfl (by kernel_rfl) rfl rfl rfl rfl (fun K w' hk => ?_) ?_
          rotate_left
          · go_step; exact hk
          refine Ord.St.nil ?_
          go_wp2_with fail
          go_ret
          rw [HDF.out]
          exact ⟨rfl, HC.out.drew⟩
      · have hdt : d = true := by
          rw [← HD.out]
          have h1 := HT.out
          rw [List.take_of_length_le (by omega), List.take_of_length_le (by have := HL.out; omega)] at h1
          exact decide_eq_true h1
        have HDT := Lib.hid hdt; clear hdt
        have HC := Lib.hid hc; clear hc
        go_wp2_with fail
        go_ret
        rw [HDT.out]
        exact ⟨rfl, HC.out⟩
  · have hne : ((xs.length : Int) != (ys.length : Int)) = true := by rw [bne_iff_ne]; omega
    have hd : decide (xs = ys) = false := decide_eq_false fun e => hl (by rw [e])
    rw [hd]
    clear hd
    go_enter Try.func35, Try.ntmps35
    go_wp2_with fail
    go_ret
    exact ⟨rfl, Ch.refl _ _⟩
end
/-- what is known along a walk that changes no graph: the graph, and slices that are held -/
structure HS (w0 w : World) (g : Nat) (G : Gra) (F : List Nat) (L : List (Option Addr × List Value)) : Prop where
  own : Own w0 w g G F
  held : ∀ p ∈ L, Sv w p.1 p.2
section
variable {w0 w : World} {g : Nat} {G : Gra} {F : List Nat} {L : List (Option Addr × List Value)}
theorem HS.same {w' : World} (h : HS w0 w g G F L) (hc : Ch [] w w') : HS w0 w' g G F L := ⟨h.own.same hc, fun p hp => (h.held p hp).ch hc (by simp)⟩
theorem HS.add {a : Option Addr} {xs : List Value} (h : HS w0 w g G F L) (hs : Sv w a xs) : HS w0 w g G F ((a, xs) :: L) := ⟨h.own, fun p hp => by
  rcases List.mem_cons.1 hp with rfl | hp
  · exact hs
  · exact h.held p hp⟩
theorem HS.drop {p : Option Addr × List Value} (h : HS w0 w g G F (p :: L)) : HS w0 w g G F L := ⟨h.own, fun q hq => h.held q (List.mem_cons_of_mem _ hq)⟩
theorem HS.blk {b : Nat} {xs : List Value} (h : HS w0 w g G F L) (hb : blk w b xs) (hl : xs.length ≤ 9223372036854775807) : HS w0 w g G F ((some ⟨b, 0, none⟩, xs) :: L) := h.add ⟨fun i x hx => ⟨b, 0, rfl, by
  rw [Nat.zero_add]
  exact hb.cell hx⟩, hl⟩
theorem simTable_h (h : HS w0 w g G F L) (r : Int) (hr : -9223372036854775808 ≤ r ∧ r ≤ 9223372036854775807) {T : List Nat} {e k : Nat} (hR : tableR G r = (T, e)) (hk : T.length = k) (hkl : k ≤ 1000000) :
    Calls Try.prog 20 #[.pointer (some ⟨g, 0, none⟩), .int .i64 r] w fun en w' => ∃ a c, en = .returned (.tuple #[.slice a k c, .int .i64 e]) ∧ HS w0 w' g G F ((a, u64s T) :: L) := by
  have H := simTable_is h.own.gin r hr
  rw [hR] at H
  refine H.mono ?_
  rintro en w' ⟨v, rfl, hrow, _, hc⟩
  obtain ⟨a, c, rfl⟩ := row.shape hrow
  simp only [hk] at hrow
  exact ⟨a, c, by simp only [hk], (h.same hc).add (row.sv hrow rfl hkl)⟩
theorem simCount_h (h : HS w0 w g G F L) (r : Int) (hr : -9223372036854775808 ≤ r ∧ r ≤ 9223372036854775807) {n e : Nat} (hR : countR G r = (n, e)) :
    Calls Try.prog 22 #[.pointer (some ⟨g, 0, none⟩), .int .i64 r] w fun en w' => en = .returned (.tuple #[.int .i64 n, .int .i64 e]) ∧ HS w0 w' g G F L := by
  have H := simCount_is h.own.gin r hr
  rw [hR] at H
  refine H.mono ?_
  rintro en w' ⟨rfl, hc⟩
  exact ⟨rfl, h.same hc⟩
theorem simFirst_h (h : HS w0 w g G F L) (r : Int) (hr : -9223372036854775808 ≤ r ∧ r ≤ 9223372036854775807) {B : List Bool} {b : Bool} {e k : Nat} (hR : firstG G r = ((B, b), e)) (hk : B.length = k) (hkl : k ≤ 1000000) :
    Calls Try.prog 23 #[.pointer (some ⟨g, 0, none⟩), .int .i64 r] w fun en w' => ∃ a c, en = .returned (.tuple #[.slice a k c, .bool b, .int .i64 e]) ∧ HS w0 w' g G F ((a, bools B) :: L) := by
  have H := simFirst_is h.own.gin r hr
  rw [hR] at H
  refine H.mono ?_
  rintro en w' ⟨v, rfl, hrow, _, hc⟩
  obtain ⟨a, c, rfl⟩ := row.shape hrow
  simp only [hk] at hrow
  exact ⟨a, c, by simp only [hk], (h.same hc).add (row.sv hrow rfl hkl)⟩
theorem simParts_h (h : HS w0 w g G F L) (r s : Int) (hr : -9223372036854775808 ≤ r ∧ r ≤ 9223372036854775807) (hs : -9223372036854775808 ≤ s ∧ s ≤ 9223372036854775807) {B : List Bool} {b : Bool} {e k : Nat} (hR : partsG G r s = ((B, b), e)) (hk : B.length = k) (hkl : k ≤ 1000000) :
    Calls Try.prog 32 #[.pointer (some ⟨g, 0, none⟩), .int .i64 r, .int .i64 s] w fun en w' => ∃ a c, en = .returned (.tuple #[.slice a k c, .bool b, .int .i64 e]) ∧ HS w0 w' g G F ((a, bools B) :: L) := by
  have H := simParts_is h.own.gin r s hr hs
  rw [hR] at H
  refine H.mono ?_
  rintro en w' ⟨v, rfl, hrow, _, hc⟩
  obtain ⟨a, c, rfl⟩ := row.shape hrow
  simp only [hk] at hrow
  exact ⟨a, c, by simp only [hk], (h.same hc).add (row.sv hrow rfl hkl)⟩
theorem simWords_h (h : HS w0 w g G F L) {xa : Option Addr} {ins : List Nat} {m xc : Nat} (hx : (xa, u64s ins) ∈ L) (hm : ins.length = m) (hlt : ∀ v ∈ ins, v < 2 ^ 64) (hcap : m ≤ xc) (hxc : xc ≤ 9223372036854775807) {a : Option Addr} {l : List Int} {n c : Nat} (hn : l.length = n) (hL : Sl w a l) (hbd : ∀ r ∈ l, -9223372036854775808 ≤ r ∧ r ≤ 9223372036854775807) (hll : n ≤ 100000) {ws : List Nat} {e k : Nat} (hR : wordsR G ins l = (ws, e)) (hk : ws.length = k) (hkl : k ≤ 1000000) :
    Calls Try.prog 29 #[.pointer (some ⟨g, 0, none⟩), .slice xa m xc, .slice a n c] w fun en w' => ∃ ya yc, en = .returned (.tuple #[.slice ya k yc, .int .i64 e]) ∧ HS w0 w' g G F ((ya, u64s ws) :: L) := by
  subst hm hn
  have H := simWords_is h.own.gin (xa := xa) (ins := ins) xc (h.held _ hx) hlt hcap hxc c hL hbd hll
  rw [hR] at H
  refine H.mono ?_
  rintro en w' ⟨v, rfl, hrow, _, hc⟩
  obtain ⟨ya, yc, rfl⟩ := row.shape hrow
  simp only [hk] at hrow
  exact ⟨ya, yc, by simp only [hk], (h.same hc).add (row.sv hrow rfl hkl)⟩
theorem simBits_h (h : HS w0 w g G F L) {xa : Option Addr} {ins : List Bool} {m xc : Nat} (hx : (xa, bools ins) ∈ L) (hm : ins.length = m) (hml : m ≤ 100000) {a : Option Addr} {l : List Int} {n c : Nat} (hn : l.length = n) (hL : Sl w a l) (hbd : ∀ r ∈ l, -9223372036854775808 ≤ r ∧ r ≤ 9223372036854775807) (hll : n ≤ 100000) {bs : List Bool} {e k : Nat} (hR : bitsR G ins l = (bs, e)) (hk : bs.length = k) (hkl : k ≤ 1000000) :
    Calls Try.prog 24 #[.pointer (some ⟨g, 0, none⟩), .slice xa m xc, .slice a n c] w fun en w' => ∃ ya yc, en = .returned (.tuple #[.slice ya k yc, .int .i64 e]) ∧ HS w0 w' g G F ((ya, bools bs) :: L) := by
  have H := simBits_is h.own.gin (xa := xa) (ins := ins) m xc hm (h.held _ hx) hml n c hn hL hbd hll
  rw [hR] at H
  refine H.mono ?_
  rintro en w' ⟨v, rfl, hrow, _, hc⟩
  obtain ⟨ya, yc, rfl⟩ := row.shape hrow
  simp only [hk] at hrow
  exact ⟨ya, yc, by simp only [hk], (h.same hc).add (row.sv hrow rfl hkl)⟩
theorem simSupport_h (h : HS w0 w g G F L) {a : Option Addr} {l : List Int} {n c : Nat} (hn : l.length = n) (hL : Sl w a l) (hlow : ∀ q, a = some q → q.block < w.heap.size) (hbd : ∀ r ∈ l, -9223372036854775808 ≤ r ∧ r ≤ 9223372036854775807) {s : List Nat} {e k : Nat} (hR : suppR G l = (s, e)) (hk : s.length = k) (hkl : k ≤ 1000000) :
    Calls Try.prog 33 #[.pointer (some ⟨g, 0, none⟩), .slice a n c] w fun en w' => ∃ ya yc, en = .returned (.tuple #[.slice ya k yc, .int .i64 e]) ∧ HS w0 w' g G F ((ya, refsCells s) :: L) := by
  have H := simSupport_is h.own.gin (a := a) (l := l) n c hn hL hlow hbd
  rw [hR] at H
  refine H.mono ?_
  rintro en w' ⟨v, rfl, hrow, _, hc⟩
  obtain ⟨ya, yc, rfl⟩ := row.shape hrow
  simp only [hk] at hrow
  exact ⟨ya, yc, by simp only [hk], (h.same hc).add (row.sv hrow rfl hkl)⟩
theorem EQu64_h (h : HS w0 w g G F L) {a b : Option Addr} {xs ys : List Nat} {n m ca cb : Nat} (hx : (a, u64s xs) ∈ L) (hy : Sv w b (u64s ys)) (hn : xs.length = n) (hm : ys.length = m) {q : Bool} (hq : decide (xs = ys) = q) :
    Calls Try.prog 35 #[.slice a n ca, .slice b m cb] w fun e w' => e = .returned (.bool q) ∧ HS w0 w' g G F L := by
  subst hn hm hq
  exact (EQu64_is ca cb (h.held _ hx) hy).mono fun e w' ⟨he, hc⟩ => ⟨he, h.same hc⟩
theorem Eqbool_h (h : HS w0 w g G F L) {a b : Option Addr} {xs ys : List Bool} {n m ca cb : Nat} (hx : (a, bools xs) ∈ L) (hy : Sv w b (bools ys)) (hn : xs.length = n) (hm : ys.length = m) {q : Bool} (hq : decide (xs = ys) = q) :
    Calls Try.prog 25 #[.slice a n ca, .slice b m cb] w fun e w' => e = .returned (.bool q) ∧ HS w0 w' g G F L := by
  subst hn hm hq
  exact (Eqbool_is ca cb (h.held _ hx) hy).mono fun e w' ⟨he, hc⟩ => ⟨he, h.same hc⟩
theorem Eqint_h (h : HS w0 w g G F L) {a b : Option Addr} {xs ys : List Int} {n m ca cb : Nat} (hx : Sl w a xs) (hy : Sl w b ys) (hn : xs.length = n) (hm : ys.length = m) {q : Bool} (hq : decide (xs = ys) = q) :
    Calls Try.prog 78 #[.slice a n ca, .slice b m cb] w fun e w' => e = .returned (.bool q) ∧ HS w0 w' g G F L := by
  subst hn hm hq
  exact (Eqint_is ca cb hx hy).mono fun e w' ⟨he, hc⟩ => ⟨he, h.same hc⟩
end
end Go.Proofs.Ytnmfdiiehkkjcaa
namespace Go.Proofs.Ytnmfdiiehkkjcaa
open Go.RowKit Go.Mem Go.Aig
def sb1 : Gra := ⟨20, [⟨1, 0, 0, 0⟩, ⟨2, 0, 0, 0⟩]⟩
def sb2 : Gra := ⟨20, [⟨1, 0, 0, 0⟩, ⟨2, 0, 0, 0⟩, ⟨2, 0, 0, 0⟩]⟩
def sb3 : Gra := ⟨20, [⟨1, 0, 0, 0⟩, ⟨2, 0, 0, 0⟩, ⟨2, 0, 0, 0⟩, ⟨3, 2, 5, 1⟩, ⟨3, 3, 4, 1⟩, ⟨3, 7, 9, 2⟩]⟩
def sb4 : Gra := ⟨20, [⟨1, 0, 0, 0⟩, ⟨2, 0, 0, 0⟩, ⟨2, 0, 0, 0⟩, ⟨3, 2, 5, 1⟩, ⟨3, 3, 4, 1⟩, ⟨3, 7, 9, 2⟩, ⟨3, 3, 5, 1⟩]⟩
theorem blkSv {w : World} {b : Nat} {xs : List Value} (hb : blk w b xs) (hl : xs.length ≤ 9223372036854775807) : Sv w (some ⟨b, 0, none⟩) xs := ⟨fun i x hx => ⟨b, 0, rfl, by
  rw [Nat.zero_add]
  exact hb.cell hx⟩, hl⟩
theorem blkSl {w : World} {b : Nat} {l : List Int} {xs : List Value} (hb : blk w b xs) (hx : xs = l.map fun z => .int .i64 z) (hl : l.length ≤ 9223372036854775807) : Sl w (some ⟨b, 0, none⟩) l := ⟨fun i x hi => ⟨b, 0, rfl, by
  rw [Nat.zero_add]
  refine hb.cell ?_
  rw [hx, List.getElem?_map, hi]
  rfl⟩, hl⟩
theorem svSl {w : World} {a : Option Addr} {l : List Nat} (h : Sv w a (refsCells l)) : Sl w a (l.map fun (r : Nat) => (r : Int)) := ⟨fun i x hx => by
  rw [List.getElem?_map] at hx
  cases hl : l[i]? with
  | none => rw [hl] at hx; cases hx
  | some r =>
    rw [hl] at hx
    cases hx
    exact h.cells i _ (by simp [refsCells, hl]), by have := h.bd; simpa [refsCells] using this⟩
section
variable {w0 w : World} {g : Nat} {G : Gra} {F : List Nat}
theorem New_s (n : Nat) (h1 : 1 ≤ n) (h2 : n ≤ 65536) : Calls Try.prog 68 #[.int .i64 n] w fun e w' => ∃ g F, e = .returned (.tuple #[.pointer (some ⟨g, 0, none⟩), .int .i64 0]) ∧ HS w w' g (newG n) F [] :=
  (New_yes n h1 h2).mono fun e w' ⟨g, F, he, hg, hF, hc⟩ => ⟨g, F, he, ⟨hg, hF, hc⟩, by simp⟩
theorem Input_s (h : HS w0 w g G F []) {G' : Gra} {r e : Nat} (hR : doInput G = (G', r, e)) : Calls Try.prog 34 #[.pointer (some ⟨g, 0, none⟩)] w fun en w' => ∃ F', en = .returned (.tuple #[.int .i64 r, .int .i64 e]) ∧ HS w0 w' g G' F' [] := by
  have H := Input_g h.own.gin
  rw [hR] at H
  refine H.mono ?_
  rintro en w' ⟨rfl, hto⟩
  obtain ⟨F', ho⟩ := h.own.to hto
  exact ⟨F', rfl, ho, by simp⟩
theorem And_s (h : HS w0 w g G F []) (a b : Int) (ba : a ≤ 9223372036854775807) (bb : b ≤ 9223372036854775807) {G' : Gra} {r e : Nat} (hR : doAnd G a b = (G', r, e)) : Calls Try.prog 59 #[.pointer (some ⟨g, 0, none⟩), .int .i64 a, .int .i64 b] w fun en w' => ∃ F', en = .returned (.tuple #[.int .i64 r, .int .i64 e]) ∧ HS w0 w' g G' F' [] := by
  have H := And_g h.own.gin a b ba bb
  rw [hR] at H
  refine H.mono ?_
  rintro en w' ⟨rfl, hto⟩
  obtain ⟨F', ho⟩ := h.own.to hto
  exact ⟨F', rfl, ho, by simp⟩
theorem Or_s (h : HS w0 w g G F []) (a b : Int) (ba : a ≤ 9223372036854775807) (bb : b ≤ 9223372036854775807) {G' : Gra} {r e : Nat} (hR : doOr G a b = (G', r, e)) : Calls Try.prog 58 #[.pointer (some ⟨g, 0, none⟩), .int .i64 a, .int .i64 b] w fun en w' => ∃ F', en = .returned (.tuple #[.int .i64 r, .int .i64 e]) ∧ HS w0 w' g G' F' [] := by
  have H := Or_g h.own.gin a b ba bb
  rw [hR] at H
  refine H.mono ?_
  rintro en w' ⟨rfl, hto⟩
  obtain ⟨F', ho⟩ := h.own.to hto
  exact ⟨F', rfl, ho, by simp⟩
theorem Xor_s (h : HS w0 w g G F []) (a b : Int) (ba : a ≤ 9223372036854775807) (bb : b ≤ 9223372036854775807) {G' : Gra} {r e : Nat} (hR : doXor G a b = (G', r, e)) : Calls Try.prog 77 #[.pointer (some ⟨g, 0, none⟩), .int .i64 a, .int .i64 b] w fun en w' => ∃ F', en = .returned (.tuple #[.int .i64 r, .int .i64 e]) ∧ HS w0 w' g G' F' [] := by
  have H := Xor_g h.own.gin a b ba bb
  rw [hR] at H
  refine H.mono ?_
  rintro en w' ⟨rfl, hto⟩
  obtain ⟨F', ho⟩ := h.own.to hto
  exact ⟨F', rfl, ho, by simp⟩
end
set_option maxRecDepth 100000 in
set_option maxHeartbeats 4000000 in
theorem awake21_is (w : World) : Calls Try.prog 16 #[] w fun e w' => e = .returned (.bool true) ∧ Ch [] w w' := by
  have hN := New_s (w := w) 20 (by decide) (by decide)
  have HN := Lib.hid hN; clear hN
  go_enter Try.func16, Try.ntmps16
  go_wp2_with fail
  refine HN.out.mono ?_
  rintro e w1 ⟨g, F1, rfl, ho⟩
  have HO := Lib.hid ho; clear ho HN
  go_wp2_with fail
  refine (Input_s HO.out (G' := sb1) (r := 2) (e := 0) (by kernel_rfl)).mono ?_
  rintro e w2 ⟨F2, rfl, ho⟩
  clear HO; have HO := Lib.hid ho; clear ho
  go_wp2_with fail
  refine (Input_s HO.out (G' := sb2) (r := 4) (e := 0) (by kernel_rfl)).mono ?_
  rintro e w3 ⟨F3, rfl, ho⟩
  clear HO; have HO := Lib.hid ho; clear ho
  go_wp2_with fail
  refine (Xor_s HO.out 2 4 (by decide) (by decide) (G' := sb3) (r := 11) (e := 0) (by kernel_rfl)).mono ?_
  rintro e w4 ⟨F4, rfl, ho⟩
  clear HO; have HO := Lib.hid ho; clear ho
  go_wp2_with fail
  refine (Or_s HO.out 2 4 (by decide) (by decide) (G' := sb4) (r := 13) (e := 0) (by kernel_rfl)).mono ?_
  rintro e w5 ⟨F5, rfl, ho⟩
  clear HO; have HO := Lib.hid ho; clear ho
  go_wp2_with fail
  refine (simTable_h HO.out 11 (by decide) (T := [6]) (e := 0) (k := 1) (by kernel_rfl) rfl (by decide)).mono ?_
  rintro e w6 ⟨a0, c0, rfl, ho⟩
  clear HO; have HO := Lib.hid ho; clear ho
  go_wp2_with fail
  refine (simTable_h HO.out 2 (by decide) (T := [10]) (e := 0) (k := 1) (by kernel_rfl) rfl (by decide)).mono ?_
  rintro e w7 ⟨a1, c1, rfl, ho⟩
  clear HO; have HO := Lib.hid ho; clear ho
  go_wp2_with fail
  refine (simTable_h HO.out 1 (by decide) (T := [15]) (e := 0) (k := 1) (by kernel_rfl) rfl (by decide)).mono ?_
  rintro e w8 ⟨a2, c2, rfl, ho⟩
  clear HO; have HO := Lib.hid ho; clear ho
  go_wp2_with fail
  refine (simCount_h HO.out 11 (by decide) (n := 2) (e := 0) (by kernel_rfl)).mono ?_
  rintro e w9 ⟨rfl, ho⟩
  clear HO; have HO := Lib.hid ho; clear ho
  go_wp2_with fail
  refine (simFirst_h HO.out 11 (by decide) (B := [true, false]) (b := true) (e := 0) (k := 2) (by kernel_rfl) rfl (by decide)).mono ?_
  rintro e w10 ⟨a3, c3, rfl, ho⟩
  clear HO; have HO := Lib.hid ho; clear ho
  go_wp2_with fail
  refine calls_named fun w11 hW => ?_
  have hc : Ch [] w10 w11 := by rw [hW]; exact ((Ch.refl _ _).alloc _)
  have hk11_0 : blk w11 (w10.heap.size) [.int .u64 6] := by rw [hW]; exact blk.new' _ _ (by simp)
  clear hW
  have ho := HO.out.same hc
  clear HO hc; have HO := Lib.hid ho; clear ho
  refine (EQu64_h HO.out (a := a0) (ca := c0) (xs := [6]) (ys := [6]) (by simp) (blkSv hk11_0 (by decide)) rfl rfl (q := true) (by decide)).mono ?_
  rintro e w12 ⟨rfl, ho⟩
  clear HO; have HO := Lib.hid ho; clear ho
  go_wp2_with fail
  refine calls_named fun w13 hW => ?_
  have hc : Ch [] w12 w13 := by rw [hW]; exact ((Ch.refl _ _).alloc _)
  have hk13_0 : blk w13 (w12.heap.size) [.int .u64 10] := by rw [hW]; exact blk.new' _ _ (by simp)
  clear hW
  have ho := HO.out.same hc
  clear HO hc; have HO := Lib.hid ho; clear ho
  refine (EQu64_h HO.out (a := a1) (ca := c1) (xs := [10]) (ys := [10]) (by simp) (blkSv hk13_0 (by decide)) rfl rfl (q := true) (by decide)).mono ?_
  rintro e w14 ⟨rfl, ho⟩
  clear HO; have HO := Lib.hid ho; clear ho
  go_wp2_with fail
  refine calls_named fun w15 hW => ?_
  have hc : Ch [] w14 w15 := by rw [hW]; exact ((Ch.refl _ _).alloc _)
  have hk15_0 : blk w15 (w14.heap.size) [.int .u64 15] := by rw [hW]; exact blk.new' _ _ (by simp)
  clear hW
  have ho := HO.out.same hc
  clear HO hc; have HO := Lib.hid ho; clear ho
  refine (EQu64_h HO.out (a := a2) (ca := c2) (xs := [15]) (ys := [15]) (by simp) (blkSv hk15_0 (by decide)) rfl rfl (q := true) (by decide)).mono ?_
  rintro e w16 ⟨rfl, ho⟩
  clear HO; have HO := Lib.hid ho; clear ho
  go_wp2_with fail
  refine calls_named fun w17 hW => ?_
  have hc : Ch [] w16 w17 := by rw [hW]; exact ((Ch.refl _ _).alloc _)
  have hk17_0 : blk w17 (w16.heap.size) [.bool true, .bool false] := by rw [hW]; exact blk.new' _ _ (by simp)
  clear hW
  have ho := HO.out.same hc
  clear HO hc; have HO := Lib.hid ho; clear ho
  refine (Eqbool_h HO.out (a := a3) (ca := c3) (xs := [true, false]) (ys := [true, false]) (by simp) (blkSv hk17_0 (by decide)) rfl rfl (q := true) (by decide)).mono ?_
  rintro e w18 ⟨rfl, ho⟩
  clear HO; have HO := Lib.hid ho; clear ho
  go_wp2_with fail
  refine (simParts_h HO.out 2 4 (by decide) (by decide) (B := [true, false]) (b := true) (e := 0) (k := 2) (by kernel_rfl) rfl (by decide)).mono ?_
  rintro e w19 ⟨a4, c4, rfl, ho⟩
  clear HO; have HO := Lib.hid ho; clear ho
  go_wp2_with fail
  refine (simParts_h HO.out 11 13 (by decide) (by decide) (B := [true, true]) (b := true) (e := 0) (k := 2) (by kernel_rfl) rfl (by decide)).mono ?_
  rintro e w20 ⟨a5, c5, rfl, ho⟩
  clear HO; have HO := Lib.hid ho; clear ho
  go_wp2_with fail
  refine calls_named fun w21 hW => ?_
  have hc : Ch [] w20 w21 := by rw [hW]; exact (((Ch.refl _ _).alloc _).alloc _)
  have hk21_0 : blk w21 (w20.heap.size) [.int .u64 12, .int .u64 10] := by rw [hW]; exact (blk.new' _ _ (by simp)).alloc _
  have hk21_1 : blk w21 (w20.heap.size + 1) [.int .i64 2, .int .i64 11] := by rw [hW]; exact blk.new' _ _ (by simp)
  clear hW
  have ho := HO.out.same hc
  clear HO hc; have HO := Lib.hid ho; clear ho
  have ho := HO.out.blk hk21_0 (by decide)
  clear HO; have HO := Lib.hid ho; clear ho
  refine (simWords_h HO.out (xa := some ⟨w20.heap.size, 0, none⟩) (ins := [12, 10]) (m := 2) (xc := 2) (by simp [u64s]) rfl (by decide) (by decide) (by decide) (l := [2, 11]) (n := 2) (c := 2) rfl (blkSl hk21_1 rfl (by decide)) (by decide) (by decide) (ws := [12, 6]) (e := 0) (k := 2) (by kernel_rfl) rfl (by decide)).mono ?_
  rintro e w22 ⟨a6, c6, rfl, ho⟩
  clear HO; have HO := Lib.hid ho; clear ho
  go_wp2_with fail
  refine calls_named fun w23 hW => ?_
  have hc : Ch [] w22 w23 := by rw [hW]; exact ((Ch.refl _ _).alloc _)
  have hk23_0 : blk w23 (w22.heap.size) [.int .i64 1] := by rw [hW]; exact blk.new' _ _ (by simp)
  clear hW
  have ho := HO.out.same hc
  clear HO hc; have HO := Lib.hid ho; clear ho
  refine (simSupport_h HO.out (l := [1]) (n := 1) (c := 1) rfl (blkSl hk23_0 rfl (by decide)) (fun q hq => by cases hq; exact hk23_0.lt) (by decide) (s := []) (e := 0) (k := 0) (by kernel_rfl) rfl (by decide)).mono ?_
  rintro e w24 ⟨a7, c7, rfl, ho⟩
  clear HO; have HO := Lib.hid ho; clear ho
  go_wp2_with fail
  refine calls_named fun w25 hW => ?_
  have hc : Ch [] w24 w25 := by rw [hW]; exact ((Ch.refl _ _).alloc _)
  have hk25_0 : blk w25 (w24.heap.size) [.int .i64 11] := by rw [hW]; exact blk.new' _ _ (by simp)
  clear hW
  have ho := HO.out.same hc
  clear HO hc; have HO := Lib.hid ho; clear ho
  refine (simSupport_h HO.out (l := [11]) (n := 1) (c := 1) rfl (blkSl hk25_0 rfl (by decide)) (fun q hq => by cases hq; exact hk25_0.lt) (by decide) (s := [0, 1]) (e := 0) (k := 2) (by kernel_rfl) rfl (by decide)).mono ?_
  rintro e w26 ⟨a8, c8, rfl, ho⟩
  clear HO; have HO := Lib.hid ho; clear ho
  go_wp2_with fail
  refine (New_s 1 (by decide) (by decide)).mono ?_
  rintro e w27 ⟨g2, G2, rfl, hn⟩
  have HN := Lib.hid hn; clear hn
  go_wp2_with fail
  refine (simTable_h HN.out 1 (by decide) (T := [1]) (e := 0) (k := 1) (by kernel_rfl) rfl (by decide)).mono ?_
  rintro e w28 ⟨a9, c9, rfl, hn⟩
  have ho := (HO.out.same hn.own.ch).add (hn.held _ (List.mem_cons_self ..))
  clear HO HN hn; have HO := Lib.hid ho; clear ho
  go_wp2_with fail
  refine calls_named fun w29 hW => ?_
  have hc : Ch [] w28 w29 := by rw [hW]; exact ((Ch.refl _ _).alloc _)
  have hk29_0 : blk w29 (w28.heap.size) [.bool true, .bool false] := by rw [hW]; exact blk.new' _ _ (by simp)
  clear hW
  have ho := HO.out.same hc
  clear HO hc; have HO := Lib.hid ho; clear ho
  refine (Eqbool_h HO.out (a := a4) (ca := c4) (xs := [true, false]) (ys := [true, false]) (by simp) (blkSv hk29_0 (by decide)) rfl rfl (q := true) (by decide)).mono ?_
  rintro e w30 ⟨rfl, ho⟩
  clear HO; have HO := Lib.hid ho; clear ho
  go_wp2_with fail
  refine calls_named fun w31 hW => ?_
  have hc : Ch [] w30 w31 := by rw [hW]; exact ((Ch.refl _ _).alloc _)
  have hk31_0 : blk w31 (w30.heap.size) [.bool true, .bool true] := by rw [hW]; exact blk.new' _ _ (by simp)
  clear hW
  have ho := HO.out.same hc
  clear HO hc; have HO := Lib.hid ho; clear ho
  refine (Eqbool_h HO.out (a := a5) (ca := c5) (xs := [true, true]) (ys := [true, true]) (by simp) (blkSv hk31_0 (by decide)) rfl rfl (q := true) (by decide)).mono ?_
  rintro e w32 ⟨rfl, ho⟩
  clear HO; have HO := Lib.hid ho; clear ho
  go_wp2_with fail
  refine calls_named fun w33 hW => ?_
  have hc : Ch [] w32 w33 := by rw [hW]; exact ((Ch.refl _ _).alloc _)
  have hk33_0 : blk w33 (w32.heap.size) [.int .u64 12, .int .u64 6] := by rw [hW]; exact blk.new' _ _ (by simp)
  clear hW
  have ho := HO.out.same hc
  clear HO hc; have HO := Lib.hid ho; clear ho
  refine (EQu64_h HO.out (a := a6) (ca := c6) (xs := [12, 6]) (ys := [12, 6]) (by simp) (blkSv hk33_0 (by decide)) rfl rfl (q := true) (by decide)).mono ?_
  rintro e w34 ⟨rfl, ho⟩
  clear HO; have HO := Lib.hid ho; clear ho
  go_wp2_with fail
  refine calls_named fun w35 hW => ?_
  have hc : Ch [] w34 w35 := by rw [hW]; exact ((Ch.refl _ _).alloc _)
  have hk35_0 : blk w35 (w34.heap.size) [.int .i64 0, .int .i64 1] := by rw [hW]; exact blk.new' _ _ (by simp)
  clear hW
  have ho := HO.out.same hc
  clear HO hc; have HO := Lib.hid ho; clear ho
  refine (Eqint_h HO.out (a := a8) (ca := c8) (xs := [0, 1]) (ys := [0, 1]) (svSl (l := [0, 1]) (HO.out.held (a8, refsCells [0, 1]) (by simp))) (blkSl hk35_0 rfl (by decide)) rfl rfl (q := true) (by decide)).mono ?_
  rintro e w36 ⟨rfl, ho⟩
  clear HO; have HO := Lib.hid ho; clear ho
  go_wp2_with fail
  refine calls_named fun w37 hW => ?_
  have hc : Ch [] w36 w37 := by rw [hW]; exact ((Ch.refl _ _).alloc _)
  have hk37_0 : blk w37 (w36.heap.size) [.int .u64 1] := by rw [hW]; exact blk.new' _ _ (by simp)
  clear hW
  have ho := HO.out.same hc
  clear HO hc; have HO := Lib.hid ho; clear ho
  refine (EQu64_h HO.out (a := a9) (ca := c9) (xs := [1]) (ys := [1]) (by simp) (blkSv hk37_0 (by decide)) rfl rfl (q := true) (by decide)).mono ?_
  rintro e w38 ⟨rfl, ho⟩
  clear HO; have HO := Lib.hid ho; clear ho
  go_wp2_with fail
  go_ret
  exact ⟨rfl, HO.out.own.ch⟩
end Go.Proofs.Ytnmfdiiehkkjcaa
namespace Go
open Go.RowKit Go.Mem
section
variable {P : Program} (w : World)
theorem run_append_zeros_room (t tn ty e : TypeId) (i : TypeInfo) (z : Value) (kn : IntKind) (ht : P.underlying t = some (.slice e)) (htn : P.underlying tn = some (.int kn)) (hi : P.info? e = some i) (hz : i.zero = some z) (hs : 0 < i.size)
    (g sLen sCap : Nat) (cur : Array Value) (hg : w.heap[g]? = some (.cells cur e (0, 0))) (m : Nat) (hl : (Builtin.zeroCells z.cells m).toList.length = m * i.size) (h1 : ∀ u ∈ (Builtin.zeroCells z.cells m).toList, u.oneCell' = true)
    (hm63 : m ≤ 1000000) (hmb : m * i.bytes ≤ 281474976710656) (hroom : sLen + m ≤ sCap) (hfit : sLen * i.size + m * i.size ≤ cur.size) :
    (Builtin.append_ #[t, tn] ty #[.slice (some ⟨g, 0, none⟩) sLen sCap, .int .i64 m]).run P w =
      .ok (.slice (some ⟨g, 0, none⟩) (sLen + m) sCap) (w.setRow g (cur.toList.take (sLen * i.size) ++ (Builtin.zeroCells z.cells m).toList ++ cur.toList.drop (sLen * i.size + m * i.size)).toArray) := by
  have hst := run_storeCells_at P g (sLen * i.size) e (Builtin.zeroCells z.cells m).toList 0 cur w hg (by rw [hl]; simpa using hfit) h1
  simp only [Nat.add_zero] at hst
  have hw : IntKind.i64.wrap (m : Int) = m := by rw [IntKind.wrap_i64]; omega
  have hneg : ¬ ((m : Int) < 0) := by omega
  have h48i : ¬ (281474976710656 < (m : Int) * (i.bytes : Int)) := by
    rw [← Int.natCast_mul]
    omega
  rw [hl] at hst
  by_cases hm : m = 0
  · subst hm
    have hz0 : (Builtin.zeroCells z.cells 0).toList = [] := by simp [Builtin.zeroCells]
    rw [hz0] at hst ⊢
    have hw0 : IntKind.i64.wrap 0 = 0 := by rw [IntKind.wrap_i64]; rfl
    simp at hst hroom ⊢
    simp [Builtin.append_, run_underlying ht, run_underlying htn, sizeOf, typeInfo, hi, asInt, asIntOf, hw0, hroom, Addr.add_lit, hst]
  · have hns : ¬ (m * i.size = 0) := Nat.mul_ne_zero hm (by omega)
    simp [Builtin.append_, run_underlying ht, run_underlying htn, sizeOf, typeInfo, zeroValue, hi, hz, asInt, asIntOf, hw, hneg, h48i, hns, hroom, Addr.add_lit, hst]
theorem run_append_zeros_grow (t tn ty e : TypeId) (i : TypeInfo) (z : Value) (kn : IntKind) (ht : P.underlying t = some (.slice e)) (htn : P.underlying tn = some (.int kn)) (hi : P.info? e = some i) (hz : i.zero = some z) (hs : 0 < i.size)
    (b : Addr) (sLen sCap : Nat) (olds : List Value) (hlo : olds.length = sLen * i.size) (holds : ∀ j v, olds[j]? = some v → w.cell? (b.add j) = some v) (m : Nat) (hm : m ≠ 0) (hm63 : m ≤ 1000000) (hmb : m * i.bytes ≤ 281474976710656)
    (hg : sCap < sLen + m) (h63 : ((sLen + m : Nat) : Int) ≤ 9223372036854775807) (hfit : Builtin.nextslicecap (sLen + m) sCap * i.bytes ≤ 281474976710656) :
    (Builtin.append_ #[t, tn] ty #[.slice (some b) sLen sCap, .int .i64 m]).run P w =
      .ok (.slice (some ⟨w.heap.size, 0, none⟩) (sLen + m) (grownCap w (sLen + m) sCap e))
        (w.drew.alloc (.cells (olds.toArray ++ Builtin.zeroCells z.cells m ++ Builtin.zeroCells z.cells (grownCap w (sLen + m) sCap e - (sLen + m))) e)) := by
  have hn : ¬ (sLen + m ≤ sCap) := by omega
  have h63' : ¬ (9223372036854775807 < ((sLen : Int) + (m : Int))) := by omega
  have h48' : ¬ (281474976710656 < Builtin.nextslicecap (sLen + m) sCap * i.bytes) := by omega
  have hfo := run_firstCells_some (P := P) w.drew i.size sLen b sLen sCap olds hlo (by simpa using holds)
  have hw : IntKind.i64.wrap (m : Int) = m := by rw [IntKind.wrap_i64]; omega
  have hneg : ¬ ((m : Int) < 0) := by omega
  have h48i : ¬ (281474976710656 < (m : Int) * (i.bytes : Int)) := by
    rw [← Int.natCast_mul]
    omega
  have hns : ¬ (m * i.size = 0) := Nat.mul_ne_zero hm (by omega)
  simp [Builtin.append_, run_underlying ht, run_underlying htn, sizeOf, typeInfo, zeroValue, hi, hz, asInt, asIntOf, hw, hneg, h48i, hns, hn, h63', h48', Question.forced, hfo, newRow, grownCap]
end
theorem run_append_zeros {P : Program} (w : World) {t tn e : TypeId} {size bytes : Nat} {z : Value} (S : SliceTy P t e size bytes z) (ty : TypeId) {kn : IntKind} (htn : P.underlying tn = some (.int kn))
    (v : Value) (n : Nat) (xs : List Value) (hown : row w e size v n xs) (m : Nat) (zs : List Value) (hzs : (Builtin.zeroCells z.cells m).toList = zs) (h1 : ∀ u ∈ zs, u.oneCell' = true)
    (hm63 : m ≤ 1000000) (hbytes : (n + m) * bytes ≤ 140737488355328) (h63 : n + m ≤ maxLen) :
    ∃ v' w', (Builtin.append_ #[t, tn] ty #[v, .int .i64 m]).run P w = .ok v' w' ∧ row w' e size v' (n + m) (xs ++ zs) ∧ Ch v.ownBlock.toList w w' ∧ (∀ k, v'.ownBlock = some k → v.ownBlock = some k ∨ w.heap.size ≤ k) := by
  obtain ⟨i, hi, hz, hsize, hby⟩ := info_parts S.info
  subst hsize hby hzs
  have hl : (Builtin.zeroCells z.cells m).toList.length = m * i.size := by rw [Array.length_toList, size_zeroCells, S.zs]
  have hsmall : n + m ≤ 9223372036854775807 := by simp only [maxLen] at h63; omega
  have hmb : m * i.bytes ≤ 281474976710656 := by
    have := Nat.mul_le_mul_right i.bytes (show m ≤ n + m by omega)
    omega
  have hlen : (xs ++ (Builtin.zeroCells z.cells m).toList).length = (n + m) * i.size := by rw [List.length_append, hown.1, hl, Nat.add_mul]
  have grown : ∀ (old : Nat), old < n + m → row (w.drew.alloc (.cells (xs.toArray ++ Builtin.zeroCells z.cells m ++ Builtin.zeroCells z.cells (grownCap w (n + m) old e - (n + m))) e)) e i.size
        (.slice (some ⟨w.heap.size, 0, none⟩) (n + m) (grownCap w (n + m) old e)) (n + m) (xs ++ (Builtin.zeroCells z.cells m).toList) ∧
      Ch [] w (w.drew.alloc (.cells (xs.toArray ++ Builtin.zeroCells z.cells m ++ Builtin.zeroCells z.cells (grownCap w (n + m) old e - (n + m))) e)) := by
    intro old ho
    have hge := grownCap_ge w (n + m) old e
    have hcm : grownCap w (n + m) old e ≤ maxLen := grownCap_le_maxLen w (n + m) old e h63
    refine ⟨⟨hlen, .inr ⟨w.heap.size, _, _, rfl, Nat.zero_le _, heap_alloc_new w.drew _, hge, hcm, ?_, ?_⟩⟩, (Ch.refl _ _).drew.alloc _⟩
    · simp only [Array.size_append, List.size_toArray, size_zeroCells, S.zs, hown.1, ← Nat.add_mul]
      congr 1
      omega
    · simp only [Array.toList_append, List.append_assoc]
      rw [← List.append_assoc, ← hlen]
      exact List.take_left
  rcases hown.2 with ⟨rfl, rfl⟩ | ⟨g, cap, cur, rfl, hbg, hg, hnc, hcm, hcs, htake⟩
  · have hx : xs = [] := List.eq_nil_of_length_eq_zero (by simpa using hown.1)
    subst hx
    by_cases hm : m = 0
    · subst hm
      have hz0 : (Builtin.zeroCells z.cells 0).toList = [] := by simp [Builtin.zeroCells]
      rw [hz0]
      refine ⟨.slice none 0 0, w, ?_, ⟨by simp, .inl ⟨rfl, rfl⟩⟩, Ch.refl _ _, by simp [Value.ownBlock]⟩
      have hw0 : IntKind.i64.wrap 0 = 0 := by rw [IntKind.wrap_i64]; rfl
      simp [Builtin.append_, run_underlying S.under, run_underlying htn, sizeOf, typeInfo, hi, asInt, asIntOf, hw0]
    · have hr := Lib.run_append_nil_zeros (P := P) w t tn ty e i z .i64 kn S.under htn hi hz m (by omega) S.pos (by omega) hmb
      have hgr := grown 0 (by omega)
      simp only [Nat.zero_add, List.nil_append, Array.empty_append] at hgr ⊢
      refine ⟨_, _, hr, ?_, ?_, fun k hk => .inr ?_⟩
      · have := hgr.1
        simpa using this
      · have := hgr.2
        exact (by simpa using this : Ch [] w _).mono (by simp)
      · simp [Value.ownBlock] at hk; omega
  · by_cases hroom : n + m ≤ cap
    · have hfit : n * i.size + m * i.size ≤ cur.size := by rw [hcs, ← Nat.add_mul]; exact Nat.mul_le_mul_right _ hroom
      have hr := run_append_zeros_room (P := P) w t tn ty e i z kn S.under htn hi hz S.pos g n cap cur hg m hl h1 hm63 hmb hroom hfit
      refine ⟨_, _, hr, ⟨hlen, .inr ⟨g, cap, _, rfl, hbg, setRow_heap w g cur _ e _ hg, hroom, hcm, ?_, ?_⟩⟩, ?_, fun k hk => .inl hk⟩
      · simp only [List.size_toArray, List.length_append, List.length_take, List.length_drop, Array.length_toList, hl]
        rw [Array.length_toList] at hl
        omega
      · rw [htake, ← hlen]
        exact List.take_left
      · exact ⟨rfl, rfl, rfl, by simp, fun k _ hk => setRow_other w g k _ (fun e => hk (by simp [Value.ownBlock, e]))⟩
    · have hm : m ≠ 0 := by omega
      have holds : ∀ j u, xs[j]? = some u → w.cell? ((⟨g, 0, none⟩ : Addr).add j) = some u := hown.cells (g := g) rfl
      have hr := run_append_zeros_grow (P := P) w t tn ty e i z kn S.under htn hi hz S.pos ⟨g, 0, none⟩ n cap xs hown.1 holds m hm hm63 hmb (by omega) (by omega) (growslice_fits (by omega) hbytes)
      have hgr := grown cap (by omega)
      exact ⟨_, _, hr, hgr.1, hgr.2.mono (by simp), fun k hk => .inr (by simp [Value.ownBlock] at hk; omega)⟩
/-- the operation, for the walk -/
theorem wpList_append_zeros {P : Program} {w : World} {ops : Array Oper} {rest : List Oper} {o : Oper} {a : Act} {Q : Exit → Act → World → Prop} {t tn e : TypeId} {size bytes : Nat} {z : Value} (S : SliceTy P t e size bytes z) {kn : IntKind} (htn : P.underlying tn = some (.int kn)) (hgd : o.guard = none) (s x : Operand)
    (ho : o.op = .call { callee := .builtin .append, args := #[s, x], argTypes := #[t, tn] }) {v : Value} {n : Nat} {xs : List Value} (hs : a.eval s = v) (hown : row w e size v n xs) {m : Nat} (hx : a.eval x = .int .i64 m) (zs : List Value) (hzs : (Builtin.zeroCells z.cells m).toList = zs) (h1 : ∀ u ∈ zs, u.oneCell' = true)
    (hm63 : m ≤ 1000000) (hbytes : (n + m) * bytes ≤ 140737488355328) (h63 : n + m ≤ maxLen)
    (h : ∀ v' w', row w' e size v' (n + m) (xs ++ zs) → Ch v.ownBlock.toList w w' → (∀ k, v'.ownBlock = some k → v.ownBlock = some k ∨ w.heap.size ≤ k) → wpList P ops Q rest (a.put o.dst v') w') : wpList P ops Q (o :: rest) a w := by
  obtain ⟨v', w', hr, h2, h3, h4⟩ := run_append_zeros w S o.type htn v n xs hown m zs hzs h1 hm63 hbytes h63
  exact Lib.wpList_append_run w hgd s x t tn ho v (.int .i64 m) hs hx v' w' hr (h v' w' h2 h3 h4)
end Go
namespace Go.Aig
theorem wvF_app (M : Nat) (ins : List Nat) (a b : List Nd) : ∃ t, (wvF M ins (a ++ b)).1 = (wvF M ins a).1 ++ t := by
  induction b using List.snocRec with
  | nil => exact ⟨[], by simp⟩
  | snoc b x ih =>
    obtain ⟨t, ht⟩ := ih
    obtain ⟨v, hv⟩ := wvF_ext M ins (a ++ b) x
    rw [← List.append_assoc]
    exact ⟨t ++ [v], by rw [hv, ht, List.append_assoc]⟩
/-- what a node is, by its kind -/
theorem wv_node {ns : List Nd} (hw : WF ns) (M : Nat) (ins : List Nat) {n : Nat} {x : Nd} (hx : ns[n]? = some x) :
    (wvF M ins ns).1[n]? = some (if x.k = 3 then wref M (wvF M ins ns).1 x.l &&& wref M (wvF M ins ns).1 x.r else if x.k = 2 then ins.getD (inputs (ns.take n)).length 0 else 0) := by
  have hn := (List.getElem?_eq_some_iff.1 hx).1
  obtain ⟨t, ht⟩ := wvF_app M ins (ns.take (n + 1)) (ns.drop (n + 1))
  rw [List.take_append_drop] at ht
  have h1 : wvF M ins (ns.take (n + 1)) = wvStep M (wvF M ins (ns.take n)) x := by rw [List.take_add_one, hx]; exact wvF_snoc M ins (ns.take n) x
  have hl : (wvF M ins (ns.take n)).1.length = n := by rw [wvF_len, List.length_take]; omega
  have hr : ∀ r, r < 2 * n → wref M (wvF M ins ns).1 r = wref M (wvF M ins (ns.take n)).1 r := fun r hr => by
    obtain ⟨t2, ht2⟩ := wvF_app M ins (ns.take n) (ns.drop n)
    rw [List.take_append_drop] at ht2
    rw [ht2, wref_ext (by omega)]
  have h2 : (wvF M ins (ns.take n)).2 = ins.drop (inputs (ns.take n)).length := by
    have : ∀ ms : List Nd, (wvF M ins ms).2 = ins.drop (inputs ms).length := by
      intro ms
      induction ms using List.snocRec with
      | nil => rfl
      | snoc ms y ih =>
        rw [wvF_snoc]
        unfold wvStep
        split
        · rename_i h; rw [Go.Proofs.Ytnmfdiiehkkjcaa.inputs_append (by omega)]; exact ih
        · split
          · rename_i h; rw [Go.Proofs.Ytnmfdiiehkkjcaa.inputs_input h, List.length_append]; simp only [ih, List.tail_drop, List.length_cons, List.length_nil]
          · rename_i h; rw [Go.Proofs.Ytnmfdiiehkkjcaa.inputs_append h]; exact ih
    exact this _
  have key : (wvF M ins ns).1[n]? = (wvStep M (wvF M ins (ns.take n)) x).1[n]? := by rw [ht, List.getElem?_append_left (by rw [wvF_len, List.length_take]; omega), h1]
  rw [key]
  unfold wvStep
  split
  · rename_i h3
    have hs := hw.sides hx h3
    simp only
    rw [List.getElem?_append_right (by omega), hl, Nat.sub_self, hr x.l (by omega), hr x.r (by omega)]
    rfl
  · split
    · simp only
      rw [List.getElem?_append_right (by omega), hl, Nat.sub_self, h2]
      simp [List.headD_eq_head?_getD, List.head?_drop, List.getD_eq_getElem?_getD]
    · simp only
      rw [List.getElem?_append_right (by omega), hl, Nat.sub_self]
      rfl
/-- words for just as many inputs as there are -/
def fitI (ins : List Nat) (k : Nat) : List Nat := ins.take (min ins.length k) ++ List.replicate (k - ins.length) 0
theorem fitI_len (ins : List Nat) (k : Nat) : (fitI ins k).length = k := by
  unfold fitI
  rw [List.length_append, List.length_take, List.length_replicate]
  omega
theorem fitI_lt {ins : List Nat} (h : ∀ v ∈ ins, v < 2 ^ 64) (k : Nat) : ∀ v ∈ fitI ins k, v < 2 ^ 64 := fun v hv => by
  unfold fitI at hv
  rcases List.mem_append.1 hv with hv | hv
  · exact h v (List.mem_of_mem_take hv)
  · rw [(List.mem_replicate.1 hv).2]; omega
end Go.Aig
namespace Go.Proofs.Ytnmfdiiehkkjcaa
open Go.RowKit Go.Mem Go.Aig
theorem zeros_u64 (m : Nat) : (Builtin.zeroCells (Value.int .u64 0).cells m).toList = u64s (List.replicate m 0) := by
  unfold Builtin.zeroCells u64s
  rw [show (Value.int .u64 0).cells = #[.int .u64 0] from rfl]
  apply List.ext_getElem
  · simp
  · intro i h1 h2
    simp [Nat.mod_one]
theorem eqSliceNilW (w : World) (a : Option Addr) (n c : Nat) : (binOp .eql 33 (.slice a n c) (.slice none 0 0)).run Try.prog w = .ok (.bool a.isNone) w := by
  have h : Try.prog.underlying 33 = some (.slice 45) := Try.underlying33
  simp only [binOp]
  simp [run_equal_slice_nil w _ _ a n c h]
attribute [local go_sem] eqSliceNilW
section
variable {w : World}
set_option maxRecDepth 100000 in
set_option maxHeartbeats 1000000 in
theorem CLu64_is {a : Option Addr} {l : List Nat} (n c : Nat) (hn : l.length = n) (h : Sv w a (u64s l)) (hm : n ≤ 1000000) : Calls Try.prog 26 #[.slice a n c] w fun e w' => ∃ v, e = .returned v ∧ row w' 45 1 v n (u64s l) ∧ (∀ q ∈ v.ownBlock.toList, w.heap.size ≤ q) ∧ Ch [] w w' := by
  subst hn
  cases a with
  | none =>
    have hl : l = [] := by
      cases l with
      | nil => rfl
      | cons y l =>
        obtain ⟨b, o, e, _⟩ := h.cells 0 (.int .u64 y) rfl
        cases e
    subst hl
    clear h
    go_enter Try.func26, Try.ntmps26
    go_wp2_with fail
    go_ret
    exact ⟨_, rfl, ⟨rfl, .inl ⟨rfl, rfl⟩⟩, by simp, Ch.refl _ _⟩
  | some p =>
    have hO : row (w.alloc (.cells #[] 45)) 45 1 (.slice (some ⟨w.heap.size, 0, none⟩) 0 0) 0 [] := ⟨rfl, .inr ⟨w.heap.size, 0, #[], rfl, by omega, heap_alloc_new w _, by omega, by unfold maxLen; omega, rfl, rfl⟩⟩
    have hN : ∀ j u, (u64s l)[j]? = some u → (w.alloc (.cells #[] 45)).cell? (p.add j) = some u := fun j u hu => by
      obtain ⟨b, o, e, hc⟩ := h.cells j u hu
      cases e
      rw [Addr.add_lit]
      exact (((Ch.refl [] w).alloc _).cell (cell_lt hc) (by simp)).trans hc
    have h1 : ∀ u ∈ u64s l, u.oneCell' = true := fun u hu => by
      obtain ⟨r, _, rfl⟩ := List.mem_map.1 hu
      rfl
    have HO := Lib.hid hO; clear hO
    have HN := Lib.hid hN; clear hN h
    have H1 := Lib.hid h1; clear h1
    go_enter Try.func26, Try.ntmps26
    go_wp2_with (at_builtin; go_loud (refine wpList_append_row slU64s rfl _ _ rfl (v := .slice (some ⟨w.heap.size, 0, none⟩) 0 0) (n := 0) (xs := []) rfl HO.out (ad := p) (m := l.length) (c := c) (news := u64s l) rfl (by simp [u64s]) HN.out H1.out (by omega) (by omega) ?_; intro v' w2 hown hC2 hfresh; have HOWN := Lib.hid hown; clear hown; have HC2 := Lib.hid hC2; clear hC2; have HFR := Lib.hid hfresh; clear hfresh))
    go_ret
    have hown := HOWN.out
    rw [Nat.zero_add, List.nil_append] at hown
    refine ⟨_, rfl, hown, fun k hk => ?_, (((Ch.refl [] w).alloc (.cells #[] 45))).trans HC2.out (by simp)⟩
    rcases HFR.out k (by simpa using hk) with e | e
    · simp at e; omega
    · simp at e; omega

end
end Go.Proofs.Ytnmfdiiehkkjcaa
namespace Go.Proofs.Ytnmfdiiehkkjcaa
open Go.RowKit Go.Mem Go.Aig
theorem badIn_range {G : Gra} {m : Nat} (h : m ≤ 2 * G.nodes.length) : badIn G (natInts (List.range m)) = false := by
  unfold badIn natInts
  rw [List.any_map, List.any_eq_false]
  intro r hr
  have := List.mem_range.1 hr
  simp [right]
  omega
theorem nats_natInts (l : List Nat) : nats (natInts l) = l := toNats l
/-- the words of the first references -/
def allW (V : List Nat) (m : Nat) : List Nat := (List.range m).map (wref U64 V)
theorem allW_len (V : List Nat) (m : Nat) : (allW V m).length = m := by simp [allW]
theorem allW_at (V : List Nat) {m r : Nat} (h : r < m) : (allW V m)[r]? = some (wref U64 V r) := by
  unfold allW
  rw [List.getElem?_map, List.getElem?_range h]
  rfl
theorem range_snoc2 (k : Nat) : List.range (2 * (k + 1)) = List.range (2 * k) ++ [2 * k, 2 * k + 1] := by
  rw [show 2 * (k + 1) = 2 * k + 1 + 1 by omega, List.range_succ, List.range_succ, List.append_assoc]
  rfl
theorem words_all {G : Gra} {I : List Nat} (hI : I.length = (inputs G.nodes).length) {m : Nat} (h : m ≤ 2 * G.nodes.length) : wordsR G I (natInts (List.range m)) = (allW (wvF U64 I G.nodes).1 m, 0) := by
  unfold wordsR
  rw [badIn_range h, if_neg (by simp), if_neg (by simpa using hI), nats_natInts]
  rfl
theorem bits_words {G : Gra} {I : List Nat} (hI : I.length = (inputs G.nodes).length) {l : List Int} (hb : badIn G l = false) {kk : Nat} (hk : kk < 64) : bitsR G (I.map fun v => v.testBit kk) l = ((wsOf I G.nodes (nats l)).map fun v => v.testBit kk, 0) := by
  unfold bitsR
  rw [hb, if_neg (by simp), if_neg (by simpa using hI)]
  congr 1
  unfold bsOf wsOf
  rw [List.map_map]
  apply List.map_congr_left
  intro r _
  have := wv_bv (N := 64) hk I G.nodes r
  rw [u64_pow] at this
  show _ = (wref 18446744073709551615 (wvF 18446744073709551615 I G.nodes).1 r).testBit kk
  rw [this]
  congr 1
  funext i
  rw [List.getD_eq_getElem?_getD, List.getD_eq_getElem?_getD, List.getElem?_map]
  cases I[i]? <;> simp
end Go.Proofs.Ytnmfdiiehkkjcaa
namespace Go.Aig
theorem tabE_zero {G : Gra} {l : List Nat} (hr : ∀ r ∈ l, r < 2 * G.nodes.length) (hk : (inputs G.nodes).length ≤ 16) : Go.Proofs.Ytnmfdiiehkkjcaa.tabE G (natInts l) = 0 := by
  have hb : badIn G (natInts l) = false := by
    unfold badIn natInts
    rw [List.any_map, List.any_eq_false]
    intro r h
    have := hr r h
    simp [right]
    omega
  unfold Go.Proofs.Ytnmfdiiehkkjcaa.tabE
  rw [hb, if_neg (by simp), if_neg (by omega)]
theorem table_ok {G : Gra} {r k : Nat} (hr : r < 2 * G.nodes.length) (hk : (inputs G.nodes).length = k) (h16 : k ≤ 16) : Go.Proofs.Ytnmfdiiehkkjcaa.tableR G (r : Int) = (tabW G.nodes (Go.Proofs.Ytnmfdiiehkkjcaa.oneF r) k, 0) := by
  have h := tabE_zero (G := G) (l := [r]) (by simpa using hr) (by omega)
  unfold Go.Proofs.Ytnmfdiiehkkjcaa.tableR
  rw [show [(r : Int)] = natInts [r] from rfl, h, if_pos rfl, hk]
theorem count_ok {G : Gra} {r k : Nat} (hr : r < 2 * G.nodes.length) (hk : (inputs G.nodes).length = k) (h16 : k ≤ 16) : Go.Proofs.Ytnmfdiiehkkjcaa.countR G (r : Int) = (countV k (tellR G.nodes k r), 0) := by
  have h := tabE_zero (G := G) (l := [r]) (by simpa using hr) (by omega)
  unfold Go.Proofs.Ytnmfdiiehkkjcaa.countR
  rw [show [(r : Int)] = natInts [r] from rfl, h, if_pos rfl, hk]
  rfl
theorem first_ok {G : Gra} {r k : Nat} (hr : r < 2 * G.nodes.length) (hk : (inputs G.nodes).length = k) (h16 : k ≤ 16) : Go.Proofs.Ytnmfdiiehkkjcaa.firstG G (r : Int) = (firstR k (tellR G.nodes k r), 0) := by
  have h := tabE_zero (G := G) (l := [r]) (by simpa using hr) (by omega)
  unfold Go.Proofs.Ytnmfdiiehkkjcaa.firstG
  rw [show [(r : Int)] = natInts [r] from rfl, h, if_pos rfl, hk]
  rfl
theorem parts_ok {G : Gra} {r s k : Nat} (hr : r < 2 * G.nodes.length) (hs : s < 2 * G.nodes.length) (hk : (inputs G.nodes).length = k) (h16 : k ≤ 16) : Go.Proofs.Ytnmfdiiehkkjcaa.partsG G (r : Int) (s : Int) = (firstR k (tellX G.nodes k r s), 0) := by
  have h := tabE_zero (G := G) (l := [r, s]) (by intro x hx; simp only [List.mem_cons, List.not_mem_nil, or_false] at hx; rcases hx with rfl | rfl <;> assumption) (by omega)
  unfold Go.Proofs.Ytnmfdiiehkkjcaa.partsG
  rw [show [(r : Int), (s : Int)] = natInts [r, s] from rfl, h, if_pos rfl, hk]
  rfl
theorem tellR_neg (ns : List Nd) (k r : Nat) : tellR ns k (neg r) = fun a => !tellR ns k r a := by
  funext a
  unfold tellR
  rw [bv_neg]
theorem firstR_len (k : Nat) (p : Nat → Bool) : (firstR k p).1.length = if (firstR k p).2 then k else 0 := by
  unfold firstR
  cases firstV k p with
  | none => rfl
  | some a => simp [asgBits_len]
theorem firstR_is (k : Nat) (p : Nat → Bool) : (firstR k p).2 = decide (0 < countV k p) := by
  cases h : firstV k p with
  | none =>
    have h2 := firstV_none.1 h
    have : ¬ 0 < countV k p := fun h0 => by
      obtain ⟨a, h1, h3⟩ := (countV_pos k p).1 h0
      rw [h2 a h1] at h3; cases h3
    unfold firstR
    rw [h, decide_eq_false this]
  | some a =>
    obtain ⟨h1, h2, _⟩ := firstV_some h
    have : 0 < countV k p := (countV_pos k p).2 ⟨a, h1, h2⟩
    unfold firstR
    rw [h, decide_eq_true this]
/-- the first number below a of which p is true; -1 if there is none -/
def fstI (p : Nat → Bool) (a : Nat) : Int := match (List.range a).find? p with
  | none => -1
  | some x => x
theorem fstI_succ (p : Nat → Bool) (a : Nat) : fstI p (a + 1) = if fstI p a < 0 ∧ p a = true then (a : Int) else fstI p a := by
  unfold fstI
  rw [List.range_succ, List.find?_append]
  cases h : (List.range a).find? p with
  | none =>
    cases hp : p a with
    | false => simp [hp]
    | true => simp [hp]
  | some x => simp; omega
theorem fstI_lt (p : Nat → Bool) (a : Nat) : fstI p a < a ∧ -1 ≤ fstI p a := by
  unfold fstI
  cases h : (List.range a).find? p with
  | none => simp; omega
  | some x =>
    have := List.mem_of_find?_eq_some h
    have := List.mem_range.1 this
    simp; omega
theorem fstI_neg {p : Nat → Bool} {a : Nat} (h : fstI p a < 0) : ∀ b, b < a → p b = false := by
  unfold fstI at h
  cases hf : (List.range a).find? p with
  | none =>
    intro b hb
    have := List.find?_eq_none.1 hf b (List.mem_range.2 hb)
    simpa using this
  | some x => rw [hf] at h; simp at h; omega
theorem cnt_succ (p : Nat → Bool) (a : Nat) : ((List.range (a + 1)).filter p).length = ((List.range a).filter p).length + (p a).toNat := by
  rw [List.range_succ, List.filter_append, List.length_append]
  cases h : p a <;> simp [h]
end Go.Aig
namespace Go.Proofs.Ytnmfdiiehkkjcaa
open Go.RowKit Go.Mem Go.Aig
theorem tab_bit64 {T : List Nat} {n : Nat} {p : Nat → Bool} (h : TabOf T n p) (hT : ∀ v ∈ T, v < 2 ^ 64) {a : Nat} (ha : a < 2 ^ n) : ∃ x, T[a / 64]? = some x ∧ (bits .and .u64 ((x : Int) / 2 ^ (a % 64)) 1 == 1) = p a := by
  have hle := blocks_le n
  have hl : a / 64 < T.length := by rw [h.len]; omega
  refine ⟨T[a / 64], List.getElem?_eq_getElem hl, ?_⟩
  rw [bit_u64 _ _ (hT _ (List.getElem_mem hl)), ← h.at' a ha]
  unfold tbit
  rw [List.getD_eq_getElem?_getD, List.getElem?_eq_getElem hl]
  rfl
theorem bits_one {G : Gra} {k a r : Nat} (hk : (inputs G.nodes).length = k) (hr : r < 2 * G.nodes.length) : bitsR G (asgBits k a) [(r : Int)] = ([tellR G.nodes k r a], 0) := by
  have hb : badIn G (natInts [r]) = false := by
    unfold badIn natInts
    simp [right]
    omega
  unfold bitsR
  rw [show [(r : Int)] = natInts [r] from rfl, hb, if_neg (by simp), if_neg (by rw [asgBits_len, hk]; simp), nats_natInts]
  unfold bsOf tellR
  rw [asgBits_at]
  rfl
theorem Eqbool_c {w : World} {a b : Option Addr} {xs ys : List Bool} {n m ca cb : Nat} (hx : Sb w a xs) (hy : Sb w b ys) (hn : xs.length = n) (hm : ys.length = m) {q : Bool} (hq : decide (xs = ys) = q) :
    Calls Try.prog 25 #[.slice a n ca, .slice b m cb] w fun e w' => e = .returned (.bool q) ∧ Ch [] w w' := by
  subst hn hm hq
  exact Eqbool_is ca cb hx hy
end Go.Proofs.Ytnmfdiiehkkjcaa
namespace Go.Aig
theorem chk2_w {G : Gra} {x y : List Int} (h : rightW x.length = false) : chk G [x, y] = 230 := by
  unfold chk badAs
  simp [h]
theorem chk2_d {G : Gra} {x y : List Int} (h : y.length ≠ x.length) : chk G [x, y] = 230 := by
  unfold chk badAs
  have e : ((y.length : Int) != (x.length : Int)) = true := bne_iff_ne.2 (by omega)
  simp [e]
theorem chk2_r {G : Gra} {x y : List Int} (h : rightW x.length = true) (hd : y.length = x.length) (hb : badIn G x = true ∨ badIn G y = true) : chk G [x, y] = 200 := by
  unfold chk badAs
  rcases hb with hb | hb <;> simp [h, hd, hb]
theorem chk1_w {G : Gra} {x : List Int} (h : rightW x.length = false) : chk G [x] = 230 := by
  unfold chk badAs
  simp [h]
theorem chk1_r {G : Gra} {x : List Int} (h : rightW x.length = true) (hb : badIn G x = true) : chk G [x] = 200 := by
  unfold chk badAs
  simp [h, hb]
theorem badIn_set {G : Gra} {x : List Int} {i : Nat} {r : Int} (hi : i < x.length) (hr : right G.nodes r = false) : badIn G (x.set i r) = true := by
  unfold badIn
  rw [List.any_eq_true]
  exact ⟨r, List.mem_of_getElem? (i := i) (by rw [List.getElem?_set_self hi]), by simp [hr]⟩
theorem wordG_no {G : Gra} {ws : List (List Int)} (R : Mk × List Nat) {e : Nat} (he : chk G ws = e) (h0 : e ≠ 0) : wordG G ws R = (G, [], e) := by
  subst he
  unfold wordG
  rw [if_pos h0]
theorem refG_no {G : Gra} {ws : List (List Int)} (R : Mk × Nat) {e : Nat} (he : chk G ws = e) (h0 : e ≠ 0) : refG G ws R = (G, 0, e) := by
  subst he
  unfold refG
  rw [if_pos h0]
theorem negG_no (G : Gra) {e : Nat} (h0 : e ≠ 0) : negG (G, 0, e) = (G, 0, e) := by
  unfold negG
  rw [if_pos h0]
end Go.Aig
namespace Go.Proofs.Ytnmfdiiehkkjcaa
open Go.RowKit Go.Mem Go.Aig
section
variable {w0 : Base} {w : World} {g : Nat} {G : Gra} {F : List Nat} {L : List (Value × List Int)}
theorem Hold.tail {p : Value × List Int} (h : Hold w0 w g G F (p :: L)) : Hold w0 w g G F L := ⟨h.own, fun q hq => h.held q (List.mem_cons_of_mem _ hq), h.kept⟩
theorem Hold.sub {L' : List (Value × List Int)} (h : Hold w0 w g G F L) (hs : ∀ p ∈ L', p ∈ L) : Hold w0 w g G F L' := ⟨h.own, fun q hq => h.held q (hs q hq), h.kept⟩
theorem Hold.nil (h : Hold w0 w g G F L) : Hold w0 w g G F ((.slice none 0 0, []) :: L) := ⟨h.own, fun p hp => by
  rcases List.mem_cons.1 hp with rfl | hp
  · exact ⟨⟨rfl, .inl ⟨rfl, rfl⟩⟩, by simp, by simp, fun k hk => by simp at hk⟩
  · exact h.held p hp, h.kept⟩
theorem wno {fid : FuncId} {args : Array Value} {e : Nat} (h : Calls Try.prog fid args w fun en w' => ∃ a c F', en = .returned (.tuple #[.slice a 0 c, .int .i64 e]) ∧ Hold w0 w' g G F' ((.slice a 0 c, natInts []) :: L)) :
    Calls Try.prog fid args w fun en w' => ∃ a c F', en = .returned (.tuple #[.slice a 0 c, .int .i64 e]) ∧ Hold w0 w' g G F' L := by
  refine h.mono ?_
  rintro en w' ⟨a, c, F', rfl, hh⟩
  exact ⟨a, c, F', rfl, hh.tail⟩
theorem sXor_no (h : Hold w0 w g G F L) {xa ya : Option Addr} {xl yl : List Int} {n m xc yc : Nat} (hx : (.slice xa n xc, xl) ∈ L) (hxn : xl.length = n) (hy : (.slice ya m yc, yl) ∈ L) (hym : yl.length = m) {e : Nat} (he : chk G [xl, yl] = e) (h0 : e ≠ 0) :
    Calls Try.prog 103 #[.pointer (some ⟨g, 0, none⟩), .slice xa n xc, .slice ya m yc] w fun en w' => ∃ a c F', en = .returned (.tuple #[.slice a 0 c, .int .i64 e]) ∧ Hold w0 w' g G F' L := wno (sXor_h h hx hxn hy hym (wordG_no _ he h0) rfl (by simp) (by omega))
theorem sAdd_no (h : Hold w0 w g G F L) {xa ya : Option Addr} {xl yl : List Int} {n m xc yc : Nat} (hx : (.slice xa n xc, xl) ∈ L) (hxn : xl.length = n) (hy : (.slice ya m yc, yl) ∈ L) (hym : yl.length = m) {e : Nat} (he : chk G [xl, yl] = e) (h0 : e ≠ 0) :
    Calls Try.prog 50 #[.pointer (some ⟨g, 0, none⟩), .slice xa n xc, .slice ya m yc] w fun en w' => ∃ a c F', en = .returned (.tuple #[.slice a 0 c, .int .i64 e]) ∧ Hold w0 w' g G F' L := wno (sAdd_h h hx hxn hy hym (wordG_no _ he h0) rfl (by simp) (by omega))
theorem sSub_no (h : Hold w0 w g G F L) {xa ya : Option Addr} {xl yl : List Int} {n m xc yc : Nat} (hx : (.slice xa n xc, xl) ∈ L) (hxn : xl.length = n) (hy : (.slice ya m yc, yl) ∈ L) (hym : yl.length = m) {e : Nat} (he : chk G [xl, yl] = e) (h0 : e ≠ 0) :
    Calls Try.prog 51 #[.pointer (some ⟨g, 0, none⟩), .slice xa n xc, .slice ya m yc] w fun en w' => ∃ a c F', en = .returned (.tuple #[.slice a 0 c, .int .i64 e]) ∧ Hold w0 w' g G F' L := wno (sSub_h h hx hxn hy hym (by unfold subG; exact wordG_no _ he h0) rfl (by simp) (by omega))
theorem sNe_no (h : Hold w0 w g G F L) {xa ya : Option Addr} {xl yl : List Int} {n m xc yc : Nat} (hx : (.slice xa n xc, xl) ∈ L) (hxn : xl.length = n) (hy : (.slice ya m yc, yl) ∈ L) (hym : yl.length = m) {e : Nat} (he : chk G [xl, yl] = e) (h0 : e ≠ 0) :
    Calls Try.prog 54 #[.pointer (some ⟨g, 0, none⟩), .slice xa n xc, .slice ya m yc] w fun en w' => ∃ F', en = .returned (.tuple #[.int .i64 (0 : Nat), .int .i64 e]) ∧ Hold w0 w' g G F' L := sNe_h h hx hxn hy hym (refG_no _ he h0)
theorem sLt_no (h : Hold w0 w g G F L) {xa ya : Option Addr} {xl yl : List Int} {n m xc yc : Nat} (hx : (.slice xa n xc, xl) ∈ L) (hxn : xl.length = n) (hy : (.slice ya m yc, yl) ∈ L) (hym : yl.length = m) {e : Nat} (he : chk G [xl, yl] = e) (h0 : e ≠ 0) :
    Calls Try.prog 56 #[.pointer (some ⟨g, 0, none⟩), .slice xa n xc, .slice ya m yc] w fun en w' => ∃ F', en = .returned (.tuple #[.int .i64 (0 : Nat), .int .i64 e]) ∧ Hold w0 w' g G F' L := sLt_h h hx hxn hy hym (refG_no _ he h0)
theorem sEq_no (h : Hold w0 w g G F L) {xa ya : Option Addr} {xl yl : List Int} {n m xc yc : Nat} (hx : (.slice xa n xc, xl) ∈ L) (hxn : xl.length = n) (hy : (.slice ya m yc, yl) ∈ L) (hym : yl.length = m) {e : Nat} (he : chk G [xl, yl] = e) (h0 : e ≠ 0) :
    Calls Try.prog 104 #[.pointer (some ⟨g, 0, none⟩), .slice xa n xc, .slice ya m yc] w fun en w' => ∃ F', en = .returned (.tuple #[.int .i64 (0 : Nat), .int .i64 e]) ∧ Hold w0 w' g G F' L := sEq_h h hx hxn hy hym (by rw [refG_no _ he h0, negG_no _ h0])
theorem sLe_no (h : Hold w0 w g G F L) {xa ya : Option Addr} {xl yl : List Int} {n m xc yc : Nat} (hx : (.slice xa n xc, xl) ∈ L) (hxn : xl.length = n) (hy : (.slice ya m yc, yl) ∈ L) (hym : yl.length = m) {e : Nat} (he : chk G [yl, xl] = e) (h0 : e ≠ 0) :
    Calls Try.prog 57 #[.pointer (some ⟨g, 0, none⟩), .slice xa n xc, .slice ya m yc] w fun en w' => ∃ F', en = .returned (.tuple #[.int .i64 (0 : Nat), .int .i64 e]) ∧ Hold w0 w' g G F' L := sLe_h h hx hxn hy hym (by rw [refG_no _ he h0, negG_no _ h0])
theorem sNeg_no (h : Hold w0 w g G F L) {xa : Option Addr} {xl : List Int} {n xc : Nat} (hx : (.slice xa n xc, xl) ∈ L) (hxn : xl.length = n) {e : Nat} (he : chk G [List.replicate n 0, xl] = e) (h0 : e ≠ 0) :
    Calls Try.prog 52 #[.pointer (some ⟨g, 0, none⟩), .slice xa n xc] w fun en w' => ∃ a c F', en = .returned (.tuple #[.slice a 0 c, .int .i64 e]) ∧ Hold w0 w' g G F' L := wno (sNeg_h h hx hxn (by unfold subG; exact wordG_no _ he h0) rfl (by simp) (by omega))
theorem sAny_no (h : Hold w0 w g G F L) {xa : Option Addr} {xl : List Int} {n xc : Nat} (hx : (.slice xa n xc, xl) ∈ L) (hxn : xl.length = n) {e : Nat} (he : chk G [xl] = e) (h0 : e ≠ 0) :
    Calls Try.prog 55 #[.pointer (some ⟨g, 0, none⟩), .slice xa n xc] w fun en w' => ∃ F', en = .returned (.tuple #[.int .i64 (0 : Nat), .int .i64 e]) ∧ Hold w0 w' g G F' L := sAny_h h hx hxn (refG_no _ he h0)
theorem sInput_no (h : Hold w0 w g G F L) (i : Int) (hi : rightW i = false) :
    Calls Try.prog 69 #[.pointer (some ⟨g, 0, none⟩), .int .i64 i] w fun en w' => ∃ a c F', en = .returned (.tuple #[.slice a 0 c, .int .i64 (230 : Nat)]) ∧ Hold w0 w' g G F' L := wno (sInput_h h i (by unfold inG; rw [hi]; rfl) rfl (by simp) (by omega))
theorem sConst_no (h : Hold w0 w g G F L) (x : Nat) (hx : x < 4294967296) (i : Int) (hi : rightW i = false) :
    Calls Try.prog 49 #[.int .u32 x, .int .i64 i] w fun en w' => ∃ a c F', en = .returned (.tuple #[.slice a 0 c, .int .i64 (230 : Nat)]) ∧ Hold w0 w' g G F' L := by
  have hc := sConst_is (w := w) x hx i
  rw [hi] at hc
  refine (Calls.wnew (l := []) (k := 0) h hc rfl (by simp) (by omega)).mono ?_
  rintro en w' ⟨a, c, rfl, hh⟩
  exact ⟨a, c, F, rfl, hh.tail⟩
theorem sCast_no (h : Hold w0 w g G F L) {xa : Option Addr} {xl : List Int} {n xc : Nat} (hx : (.slice xa n xc, xl) ∈ L) (hxn : xl.length = n) (i : Int) (hi : (rightW i && rightW n) = false) :
    Calls Try.prog 70 #[.slice xa n xc, .int .i64 i] w fun en w' => ∃ a c F', en = .returned (.tuple #[.slice a 0 c, .int .i64 (230 : Nat)]) ∧ Hold w0 w' g G F' L := by
  have hc := sCast_is (h.at hx hxn).ok (by have := (h.held _ hx).cap; simp only [hxn]; omega) i
  simp only [WV.val, hxn, hi] at hc
  refine (Calls.wnew (l := []) (k := 0) h hc rfl (by simp) (by omega)).mono ?_
  rintro en w' ⟨a, c, rfl, hh⟩
  exact ⟨a, c, F, rfl, hh.tail⟩
end
end Go.Proofs.Ytnmfdiiehkkjcaa
namespace Go.Proofs.Ytnmfdiiehkkjcaa
open Go.RowKit Go.Mem Go.Aig
theorem max_ii (z q : Int) (ats : Array TypeId) (ty : TypeId) : Builtin.max_ ats ty #[.int .i64 z, .int .i64 q] = pure (.int .i64 (max z q)) := by
  have e : (if z < q then q else z) = max z q := by split <;> omega
  rw [← e]
  simp [Builtin.max_, Builtin.max2]
theorem min_ii (z q : Int) (ats : Array TypeId) (ty : TypeId) : Builtin.min_ ats ty #[.int .i64 z, .int .i64 q] = pure (.int .i64 (min z q)) := by
  have e : (if q < z then q else z) = min z q := by split <;> omega
  rw [← e]
  simp [Builtin.min_, Builtin.min2]
theorem WNew.set {w w' : World} {b n c i : Nat} {l : List Int} (h : WNew w (.slice (some ⟨b, 0, none⟩) n c) (intCells l) w') (hn : l.length = n) (r : Int) : WNew w (.slice (some ⟨b, 0, none⟩) n c) (intCells (l.set i r)) (w'.setCell ⟨b, i, none⟩ (.int .i64 r)) := by
  obtain ⟨h1, h2, h3⟩ := h
  have e : intCells (l.set i r) = (intCells l).set i (.int .i64 r) := by unfold intCells; rw [List.map_set]
  refine ⟨?_, h2, h3.setCell (.inr (h2 b (by simp))) _⟩
  have e2 : (intCells l).length = n := by simp [intCells, hn]
  have e3 : (intCells (l.set i r)).length = n := by simp [intCells, hn]
  rw [e3, e]
  rw [e2] at h1
  exact row.set h1 (.int .i64 r)
theorem WNew.app {w w1 w2 w3 : World} {v v' : Value} {l : List Int} {n : Nat} (h : WNew w v (intCells l) w1) (hc : Ch [] w1 w2) {r : Int} (hn : l.length = n) (hr : row w3 29 1 v' (n + 1) (intCells l ++ [.int .i64 r])) (h23 : Ch v.ownBlock.toList w2 w3) (hf : ∀ k, v'.ownBlock = some k → v.ownBlock = some k ∨ w2.heap.size ≤ k) : WNew w v' (intCells (l ++ [r])) w3 := by
  obtain ⟨h1, h2, h3⟩ := h
  have e : intCells (l ++ [r]) = intCells l ++ [.int .i64 r] := by simp [intCells]
  have e3 : (intCells (l ++ [r])).length = n + 1 := by simp [intCells, hn]
  have h02 := h3.trans hc (by simp)
  refine ⟨by rw [e3, e]; exact hr, fun q hq => ?_, h02.trans h23 (fun k hk => .inr (h2 k hk))⟩
  rcases hf q (by simpa using hq) with h | h
  · exact h2 q (by simpa using h)
  · have := h02.size; omega
theorem bd_set {l : List Int} {i : Nat} {r : Int} (h : ∀ x ∈ l, -9223372036854775808 ≤ x ∧ x ≤ 9223372036854775807) (hr : -9223372036854775808 ≤ r ∧ r ≤ 9223372036854775807) : ∀ x ∈ l.set i r, -9223372036854775808 ≤ x ∧ x ≤ 9223372036854775807 := fun x hx => by
  rcases List.mem_or_eq_of_mem_set hx with hx | rfl
  · exact h x hx
  · exact hr
theorem bd_app {l : List Int} {r : Int} (h : ∀ x ∈ l, -9223372036854775808 ≤ x ∧ x ≤ 9223372036854775807) (hr : -9223372036854775808 ≤ r ∧ r ≤ 9223372036854775807) : ∀ x ∈ l ++ [r], -9223372036854775808 ≤ x ∧ x ≤ 9223372036854775807 := fun x hx => by
  rcases List.mem_append.1 hx with hx | hx
  · exact h x hx
  · rw [List.mem_singleton.1 hx]; exact hr
theorem row_at2 {w : World} {e : TypeId} {b n c : Nat} {vs : List Value} (h : row w e 1 (.slice (some ⟨b, 0, none⟩) n c) n vs) {k : Nat} {v : Value} (hk : vs[k]? = some v) : w.cell? ⟨b, k, none⟩ = some v := by
  have := h.cells (g := b) rfl k v hk
  rw [Addr.add_lit] at this
  simpa using this
theorem row_fz {w : World} {e : TypeId} {b n c : Nat} {vs : List Value} (h : row w e 1 (.slice (some ⟨b, 0, none⟩) n c) n vs) (hn : 0 < n) (k : Nat) : w.frozen? ⟨b, k, none⟩ = false := by
  obtain ⟨b', ys, e1, hb, _⟩ := rowBlk h 0 hn
  cases e1
  exact hb.frozen
theorem WNew.at {w w' : World} {b n c k : Nat} {l : List Int} (h : WNew w (.slice (some ⟨b, 0, none⟩) n c) (intCells l) w') (hn : l.length = n) {r : Int} (hk : l[k]? = some r) : w'.cell? ⟨b, k, none⟩ = some (.int .i64 r) ∧ w'.frozen? ⟨b, k, none⟩ = false := by
  have h1 := h.1
  have e : (intCells l).length = n := by simp [intCells, hn]
  rw [e] at h1
  have hlt := (List.getElem?_eq_some_iff.1 hk).1
  exact ⟨row_at2 h1 (by simp [intCells, hk]), row_fz h1 (by omega) k⟩
theorem sValue_nil {w : World} : Calls Try.prog 105 #[.slice none 0 0, .slice none 0 0] w fun en w' => en = .returned (.tuple #[.int .u32 0, .int .i64 230]) ∧ w = w' := by
  have hc := sValue_is (w := w) (x := ⟨none, [], 0⟩) (by simp) (a := none) (l := []) 0 (by simp) ⟨fun i x hx => by simp at hx, by simp⟩
  exact hc
theorem Hold.fresh {w0 : Base} {w : World} {g : Nat} {G : Gra} {F : List Nat} {L : List (Value × List Int)} (h : Hold w0 w g G F L) {l : List Int} {n : Nat} (hn : l.length = n) (hb : ∀ r ∈ l, -9223372036854775808 ≤ r ∧ r ≤ 9223372036854775807) (hl : n ≤ 1000000) :
    Hold w0 (w.alloc (.cells (intCells l).toArray 29)) g G F ((.slice (some ⟨w.heap.size, 0, none⟩) n n, l) :: L) := by
  subst hn
  have hk : blk (w.alloc (.cells (intCells l).toArray 29)) w.heap.size (intCells l) := blk.new _ _ _
  have e : (intCells l).length = l.length := by simp [intCells]
  have hx : (w.alloc (.cells (intCells l).toArray 29)).heap[w.heap.size]? = some (.cells (intCells l).toArray 29 (0, 0)) := heap_alloc_new w _
  refine ⟨(h.same ((Ch.refl [] _).alloc _)).own, fun p hp => ?_, (h.same ((Ch.refl [] _).alloc _)).kept⟩
  rcases List.mem_cons.1 hp with rfl | hp
  · refine ⟨⟨by simp [intCells], .inr ⟨w.heap.size, l.length, (intCells l).toArray, rfl, by simp, hx, Nat.le_refl _, by unfold maxLen; omega, by simp [intCells], by rw [Nat.mul_one]; exact List.take_of_length_le (by simp [intCells])⟩⟩, hl, hb, fun k hk => ?_⟩
    · simp at hk; subst hk
      exact ⟨h.own.ch.size, fun hin => Nat.lt_irrefl _ (h.own.gin.lt _ hin)⟩
  · exact (h.same ((Ch.refl [] _).alloc _)).held p hp
end Go.Proofs.Ytnmfdiiehkkjcaa
namespace Go.Proofs.Ytnmfdiiehkkjcaa
open Go.RowKit Go.Mem Go.Aig
theorem badIn_zero {G : Gra} (hp : 1 ≤ G.nodes.length) : badIn G [0] = false := by
  unfold badIn
  simp [right]
  omega
theorem badIn_one {G : Gra} (hp : 1 ≤ G.nodes.length) : badIn G [1] = false := by
  unfold badIn
  simp [right]
  omega
theorem badIn_both {G : Gra} (hp : 1 ≤ G.nodes.length) : badIn G [0, 1] = false := by
  unfold badIn
  simp [right]
  omega
/-- the constant's negation is always true -/
theorem words_true {G : Gra} (hw : WF G.nodes) {I : List Nat} (hI : I.length = (inputs G.nodes).length) : wordsR G I [1] = ([18446744073709551615], 0) := by
  have hp := hw.pos
  unfold wordsR
  rw [badIn_one hp, if_neg (by simp), if_neg (by simpa using hI)]
  have h := wv_node hw 18446744073709551615 I hw.const
  rw [if_neg (by decide), if_neg (by decide)] at h
  congr 1
  unfold wsOf nats
  show [wref _ _ (1 : Int).toNat] = _
  unfold wref
  rw [if_pos (by decide), List.getD_eq_getElem?_getD, show (1 : Int).toNat / 2 = 0 from rfl, h]
  rfl
section
variable {w0 w : World} {g : Nat} {G : Gra} {F : List Nat} {L : List (Option Addr × List Value)}
theorem HS.sub {L' : List (Option Addr × List Value)} (h : HS w0 w g G F L) (hs : ∀ p ∈ L', p ∈ L) : HS w0 w g G F L' := ⟨h.own, fun q hq => h.held q (hs q hq)⟩
theorem Sl.nil0 {w : World} {a : Option Addr} : Sl w a [] := ⟨fun i x hx => by simp at hx, by simp⟩
theorem HS.nil (h : HS w0 w g G F L) : HS w0 w g G F ((none, []) :: L) := h.add ⟨fun i x hx => by simp at hx, by simp⟩
theorem simNodes_w (h : HS w0 w g G F L) {b m : Nat} {ins : List Nat} (hx : (some ⟨b, 0, none⟩, u64s ins) ∈ L) (hm : ins.length = m) (hlt : ∀ v ∈ ins, v < 2 ^ 64) (hml : m ≤ 1000000) (hne : m ≠ (inputs G.nodes).length) :
    Calls Try.prog 27 #[.pointer (some ⟨g, 0, none⟩), .slice (some ⟨b, 0, none⟩) m m] w fun en w' => en = .returned (.tuple #[.slice none 0 0, .int .i64 210]) ∧ HS w0 w' g G F L := by
  have H := simNodes_is h.own.gin (xa := some ⟨b, 0, none⟩) (ins := ins) m m hm (h.held _ hx) hlt (Nat.le_refl _) (by omega) hml
  have e : nodesR G ins = ([], 210) := by unfold nodesR; rw [if_pos (by rw [hm]; exact hne)]
  rw [e] at H
  refine H.mono ?_
  rintro en w' ⟨v, rfl, _, hv, hc⟩
  rw [hv (by decide)]
  exact ⟨rfl, h.same hc⟩
end
set_option maxRecDepth 100000 in
set_option maxHeartbeats 8000000 in
theorem SimWrong_walk {w : World} {a : Option Addr} {n cap : Nat} {l : List N21} (hS : NodeS w a n cap l) (z : Int) (hz : (Lit.int .i64 z).wf = true) :
    Calls Try.prog 6 #[.slice a n cap, .int .i64 z] w fun e w' => e = .returned (.bool true) ∧ Ch [] w w' := by
  have hzz := wf_i64 hz
  clear hz
  have HS1 := Lib.hid hS; clear hS
  go_enter Try.func6, Try.ntmps6
  go_wp2_with fail
  refine (awake21_is w).mono ?_
  rintro e w1 ⟨rfl, hc1⟩
  have HC1 := Lib.hid hc1; clear hc1
  go_wp2_with fail
  refine (made21_is (HS1.out.ch HC1.out)).mono ?_
  rintro e w2 ⟨g, G, F, rfl, ho, hm200, hnl, hil⟩
  have ho2 : HS w w2 g G F [] := ⟨⟨ho.gin, fun k hk => Nat.le_trans HC1.out.size (ho.own k hk), HC1.out.trans ho.ch (by simp)⟩, by simp⟩
  clear ho HS1
  have HO := Lib.hid ho2; clear ho2
  have hpos := HO.out.own.gin.ok.wf.pos
  have HIN := Lib.hid (Inputs_g HO.out.own.gin)
  obtain ⟨k, hk⟩ : ∃ k, (inputs G.nodes).length = k := ⟨_, rfl⟩
  rw [hk] at hil HIN
  have HK := Lib.hid hk; clear hk
  have hmax : ∀ ats ty, Builtin.max_ ats ty #[.int .i64 ((k : Int) - 1), .int .i64 0] = pure (.int .i64 ((k - 1 : Nat) : Int)) := fun ats ty => by
    have := max_nat ((k : Int) - 1) 0 (k - 1) (by omega) ats ty
    simpa using this
  go_wp2_with fail
  refine HIN.out.mono ?_
  rintro e w3 ⟨v, rfl, hrow, _, hc3⟩
  obtain ⟨ia, ic, rfl⟩ := row.shape hrow
  have ho := HO.out.same hc3
  clear HO hrow hc3 HIN
  have HO := Lib.hid ho; clear ho
  go_wp2_with fail
  clear hmax
  refine wp_alw ?_
  intro W0 hW0
  have ho := (HO.out.same (alw_ch hW0)).blk (alw_blk (xs := [.int .i64 ((k : Int) + 1), .int .i64 ((k : Int) + 7), .int .i64 (k - 1 : Nat)]) hW0) (by simp)
  clear hW0 HO
  have HO := Lib.hid ho; clear ho
  generalize w3.heap.size = pb at HO ⊢
  go_loopw [74] (fun i wr => ∃ j : Nat, j ≤ 3 ∧ i = .int .i64 j ∧ HS w wr g G F [(some ⟨pb, 0, none⟩, [Value.int .i64 ((k : Int) + 1), .int .i64 ((k : Int) + 7), .int .i64 (k - 1 : Nat)])]) (fun i _ => 3 - (intOf i).toNat)
  case atStart => exact ⟨0, by omega, rfl, HO.out⟩
  case round =>
    obtain ⟨j, hj, rfl, ho⟩ := hrel
    clear HO
    have HOr := Lib.hid ho; clear ho
    by_cases hlt : j < 3
    · obtain ⟨m, hm, hm15, hmc⟩ : ∃ m : Nat, [Value.int .i64 ((k : Int) + 1), .int .i64 ((k : Int) + 7), .int .i64 (k - 1 : Nat)][j]? = some (.int .i64 m) ∧ m ≤ 15 ∧ (m = k → k = 0 ∧ j = 2) := by
        rcases (by omega : j = 0 ∨ j = 1 ∨ j = 2) with rfl | rfl | rfl
        · exact ⟨k + 1, rfl, by omega, by omega⟩
        · exact ⟨k + 7, rfl, by omega, by omega⟩
        · exact ⟨k - 1, rfl, by omega, by omega⟩
      obtain ⟨b1, o1, hb1, c0⟩ := (HOr.out.held _ (List.mem_cons_self ..)).cells j _ hm
      cases hb1
      rw [Nat.zero_add] at c0
      clear hm
      by_cases hmk : m = k
      · have e1 : ((m : Int) == (k : Int)) = true := by rw [hmk]; simp
        clear hmk hmc
        go_wp2_with fail
        go_roundw
        case rel => exact ⟨j + 1, by omega, by go_num, HOr.out⟩
        case measure => simp [intOf]; omega
      · have e1 : ((m : Int) == (k : Int)) = false := by rw [beq_eq_false_iff_ne]; omega
        have hne : m ≠ (inputs G.nodes).length := by rw [HK.out]; exact hmk
        have hR2 : wordsR G (List.replicate m 0) [0] = ([], 210) := by unfold wordsR; rw [badIn_zero hpos, if_neg (by simp), if_pos (by simpa using hne)]
        have hR3 : bitsR G (List.replicate m false) [] = ([], 210) := by unfold bitsR; rw [show badIn G [] = false from rfl, if_neg (by simp), if_pos (by simpa using hne)]
        have HNE := Lib.hid hne; clear hne
        have HR2 := Lib.hid hR2; clear hR2
        have HR3 := Lib.hid hR3; clear hR3
        have hmk1 := fun W => run_make_u64s W m (by omega)
        have hmk2 := fun W => run_make_bools W m (by omega)
        clear hmk hmc
        go_wp2_with fail
        refine calls_named fun W1 hW1 => ?_
        have ho := (HOr.out.same (alw_ch hW1)).blk (alw_blk (xs := u64s (List.replicate m 0)) hW1) (by simp [u64s]; omega)
        clear hW1 c0
        have HO1 := Lib.hid ho; clear ho
        refine (simNodes_w HO1.out (ins := List.replicate m 0) (by simp) (by simp) (fun v hv => by rw [(List.mem_replicate.1 hv).2]; omega) (by omega) HNE.out).mono ?_
        rintro e W2 ⟨rfl, ho⟩
        have HO2 := Lib.hid ho; clear ho HO1
        go_wp2_with fail
        refine calls_named fun W3 hW3 => ?_
        have hc3 : Ch [] W2 W3 := by rw [hW3]; exact ((Ch.refl _ _).alloc _).alloc _
        have hb3 : blk W3 W2.heap.size (u64s (List.replicate m 0)) := by rw [hW3]; exact (blk.new' _ _ rfl).alloc _
        have hb4 : blk W3 (W2.heap.size + 1) [.int .i64 0] := by rw [hW3]; exact blk.new' _ _ (by simp)
        have ho := (HO2.out.same hc3).blk hb3 (by simp [u64s]; omega)
        clear hW3 hc3 hb3 HO2
        have HO3 := Lib.hid ho; clear ho
        refine (simWords_h HO3.out (ins := List.replicate m 0) (by simp) (by simp) (fun v hv => by rw [(List.mem_replicate.1 hv).2]; omega) (Nat.le_refl _) (by omega) rfl (Sl.one hb4) (by intro r hr; simp at hr; omega) (by decide) HR2.out (k := 0) rfl (by omega)).mono ?_
        rintro e W4 ⟨ya, yc, rfl, ho⟩
        have HO4 := Lib.hid ho; clear ho HO3 hb4
        go_wp2_with fail
        refine calls_named fun W5 hW5 => ?_
        have ho := (HO4.out.same (alw_ch hW5)).blk (alw_blk (xs := bools (List.replicate m false)) hW5) (by simp [bools]; omega)
        clear hW5
        have HO5 := Lib.hid ho; clear ho HO4
        refine (simBits_h HO5.out (ins := List.replicate m false) (by simp) (by simp) (by omega) (l := []) (n := 0) (c := 0) rfl Sl.nil0 (by simp) (by omega) HR3.out (k := 0) rfl (by omega)).mono ?_
        rintro e W6 ⟨za, zc, rfl, ho⟩
        have HO6 := Lib.hid ho; clear ho HO5
        go_wp2_with fail
        go_roundw
        case rel => exact ⟨j + 1, by omega, by go_num, HO6.out.sub (by intro p hp; simp only [List.mem_singleton] at hp; simp [hp])⟩
        case measure => simp [intOf]; omega
    · have ho := HOr.out.sub (L' := []) (by simp)
      clear HOr; have HO := Lib.hid ho; clear ho
      have hL := Len_g HO.out.own.gin
      have hmin := min_ii z (-1)
      have hmax := max_ii z (2 * (G.nodes.length : Int))
      obtain ⟨zl, hzl⟩ : ∃ zl : Int, zl = min z (-1) := ⟨_, rfl⟩
      obtain ⟨zb, hzb⟩ : ∃ zb : Int, zb = max z (2 * (G.nodes.length : Int)) := ⟨_, rfl⟩
      rw [← hzl] at hmin
      rw [← hzb] at hmax
      have hzlb : -9223372036854775808 ≤ zl ∧ zl ≤ -1 := by omega
      have hzbb : 2 * (G.nodes.length : Int) ≤ zb ∧ zb ≤ 9223372036854775807 := by omega
      have HL := Lib.hid hL; clear hL hzl hzb
      go_wp2_with fail
      refine HL.out.mono ?_
      rintro e w' ⟨rfl, rfl⟩
      go_wp2_with fail
      clear hmin hmax
      refine wp_alw ?_
      intro W1 hW1
      have ho := (HO.out.same (alw_ch hW1)).blk (alw_blk (xs := [.int .i64 zl, .int .i64 zb]) hW1) (by simp)
      clear hW1 HO
      have HO := Lib.hid ho; clear ho
      generalize wr.heap.size = qb at HO ⊢
      have HLEN := Lib.hid hnl
      go_loopw [123] (fun i wr => ∃ j : Nat, j ≤ 2 ∧ i = .int .i64 j ∧ HS w wr g G F [(some ⟨qb, 0, none⟩, [Value.int .i64 zl, .int .i64 zb])]) (fun i _ => 2 - (intOf i).toNat)
      case atStart => exact ⟨0, by omega, rfl, HO.out⟩
      case round =>
        obtain ⟨j, hj, rfl, ho⟩ := hrel
        clear HO
        have HO := Lib.hid ho; clear ho
        by_cases hlt : j < 2
        · have d2 : decide ((j : Int) < 2) = true := decide_eq_true (by omega)
          obtain ⟨y, hy, hyb, hyr⟩ : ∃ y : Int, [Value.int .i64 zl, .int .i64 zb][j]? = some (.int .i64 y) ∧ (-9223372036854775808 ≤ y ∧ y ≤ 9223372036854775807) ∧ right G.nodes y = false := by
            rcases (by omega : j = 0 ∨ j = 1) with rfl | rfl
            · exact ⟨zl, rfl, by omega, by unfold right; exact decide_eq_false (by omega)⟩
            · exact ⟨zb, rfl, by omega, by unfold right; exact decide_eq_false (by omega)⟩
          obtain ⟨b1, o1, hb1, c0⟩ := (HO.out.held _ (List.mem_cons_self ..)).cells j _ hy
          cases hb1
          rw [Nat.zero_add] at c0
          have hr0 : right G.nodes 0 = true := by unfold right; exact decide_eq_true (by omega)
          have q1 : badIn G [y] = true := by simp [badIn, hyr]
          have q2 : badIn G [0, y] = true := by simp [badIn, hyr, hr0]
          have q3 : badIn G [y, 0] = true := by simp [badIn, hyr, hr0]
          have t1 : tabE G [y] = 200 := by unfold tabE; rw [q1]; rfl
          have t2 : tabE G [0, y] = 200 := by unfold tabE; rw [q2]; rfl
          have t3 : tabE G [y, 0] = 200 := by unfold tabE; rw [q3]; rfl
          have r1 : wordsR G [] [0, y] = ([], 200) := by unfold wordsR; rw [q2]; rfl
          have r2 : bitsR G (List.replicate k false) [y] = ([], 200) := by unfold bitsR; rw [q1]; rfl
          have r3 : tableR G y = ([], 200) := by unfold tableR; rw [t1]; rfl
          have r4 : countR G y = (0, 200) := by unfold countR; rw [t1]; rfl
          have r5 : firstG G y = (([], false), 200) := by unfold firstG; rw [t1]; rfl
          have r6 : partsG G 0 y = (([], false), 200) := by unfold partsG; rw [t2]; rfl
          have r7 : partsG G y 0 = (([], false), 200) := by unfold partsG; rw [t3]; rfl
          have r8 : suppR G [y] = ([], 200) := by unfold suppR; rw [q1]; rfl
          have R1 := Lib.hid r1; clear r1
          have R2 := Lib.hid r2; clear r2
          have R3 := Lib.hid r3; clear r3
          have R4 := Lib.hid r4; clear r4
          have R5 := Lib.hid r5; clear r5
          have R6 := Lib.hid r6; clear r6
          have R7 := Lib.hid r7; clear r7
          have R8 := Lib.hid r8; clear r8
          clear q1 q2 q3 t1 t2 t3 hyr hr0 hy
          have hmk2 := fun W => run_make_bools W k (by omega)
          go_wp2_with fail
          refine calls_named fun W2 hW2 => ?_
          have hb2 := alw_blk (xs := [.int .i64 0, .int .i64 y]) hW2
          have ho := (HO.out.same (alw_ch hW2)).nil
          clear hW2 c0
          have HO2 := Lib.hid ho; clear ho
          refine (simWords_h HO2.out (xa := none) (ins := []) (m := 0) (xc := 0) (List.mem_cons_self ..) rfl (by simp) (by omega) (by omega) rfl (Sl.two hb2) (by intro r hr; simp at hr; omega) (by simp) R1.out (k := 0) rfl (by omega)).mono ?_
          rintro e W3 ⟨a1, s1, rfl, ho⟩
          clear hb2 HO2
          have HO3 := Lib.hid ho; clear ho
          go_wp2_with fail
          refine calls_named fun W4 hW4 => ?_
          have hc4 : Ch [] W3 W4 := by rw [hW4]; exact ((Ch.refl _ _).alloc _).alloc _
          have hb4 : blk W4 W3.heap.size (bools (List.replicate k false)) := by rw [hW4]; exact (blk.new' _ _ rfl).alloc _
          have hb5 : blk W4 (W3.heap.size + 1) [.int .i64 y] := by rw [hW4]; exact blk.new' _ _ (by simp)
          have ho := (HO3.out.same hc4).blk hb4 (by simp [bools]; omega)
          clear hW4 hc4 hb4 HO3
          have HO4 := Lib.hid ho; clear ho
          refine (simBits_h HO4.out (ins := List.replicate k false) (by simp) (by simp) (by omega) rfl (Sl.one hb5) (by intro r hr; simp at hr; omega) (by simp) R2.out (k := 0) rfl (by omega)).mono ?_
          rintro e W5 ⟨a2, s2, rfl, ho⟩
          clear hb5 HO4
          have HO5 := Lib.hid ho; clear ho
          go_wp2_with fail
          refine (simTable_h HO5.out y hyb R3.out (k := 0) rfl (by omega)).mono ?_
          rintro e W6 ⟨a3, s3, rfl, ho⟩
          have HO6 := Lib.hid ho; clear ho HO5
          go_wp2_with fail
          refine (simCount_h HO6.out y hyb R4.out).mono ?_
          rintro e W7 ⟨rfl, ho⟩
          have HO7 := Lib.hid ho; clear ho HO6
          go_wp2_with fail
          refine (simFirst_h HO7.out y hyb R5.out (k := 0) rfl (by omega)).mono ?_
          rintro e W8 ⟨a4, s4, rfl, ho⟩
          have HO8 := Lib.hid ho; clear ho HO7
          go_wp2_with fail
          refine (simParts_h HO8.out 0 y (by omega) hyb R6.out (k := 0) rfl (by omega)).mono ?_
          rintro e W9 ⟨a5, s5, rfl, ho⟩
          have HO9 := Lib.hid ho; clear ho HO8
          go_wp2_with fail
          refine (simParts_h HO9.out y 0 hyb (by omega) R7.out (k := 0) rfl (by omega)).mono ?_
          rintro e W10 ⟨a6, s6, rfl, ho⟩
          have HO10 := Lib.hid ho; clear ho HO9
          go_wp2_with fail
          refine calls_named fun W11 hW11 => ?_
          have hb2 := alw_blk (xs := [.int .i64 y]) hW11
          have ho := HO10.out.same (alw_ch hW11)
          clear hW11 HO10
          have HO11 := Lib.hid ho; clear ho
          refine (simSupport_h HO11.out rfl (Sl.one hb2) (fun q hq => by cases hq; exact hb2.lt) (by intro r hr; simp at hr; omega) R8.out (k := 0) rfl (by omega)).mono ?_
          rintro e W12 ⟨a7, s7, rfl, ho⟩
          clear hb2 HO11
          have HO12 := Lib.hid ho; clear ho
          go_wp2_with fail
          refine wp_alw ?_
          intro W13 hW13
          have ho := (HO12.out.same (alw_ch hW13)).blk (alw_blk (xs := List.replicate 8 (.int .i64 200)) hW13) (by simp)
          have ho := ho.sub (L' := [(some ⟨W12.heap.size, 0, none⟩, List.replicate 8 (Value.int .i64 200)), (some ⟨qb, 0, none⟩, [Value.int .i64 zl, .int .i64 zb])]) (by intro p hp; simp only [List.mem_cons, List.not_mem_nil, or_false] at hp; rcases hp with rfl | rfl <;> simp)
          clear hW13 HO12
          have HO13 := Lib.hid ho; clear ho
          generalize W12.heap.size = eb at HO13 ⊢
          go_loopw [193] (fun i wt => ∃ t : Nat, t ≤ 8 ∧ i = .int .i64 t ∧ HS w wt g G F [(some ⟨eb, 0, none⟩, List.replicate 8 (Value.int .i64 200)), (some ⟨qb, 0, none⟩, [Value.int .i64 zl, .int .i64 zb])]) (fun i _ => 8 - (intOf i).toNat)
          case atStart => exact ⟨0, by omega, rfl, HO13.out⟩
          case round =>
            obtain ⟨t, ht, rfl, ho⟩ := hrel
            clear HO13
            have HO13 := Lib.hid ho; clear ho
            by_cases ht8 : t < 8
            · obtain ⟨b1, o1, hb1, c0⟩ := (HO13.out.held _ (List.mem_cons_self ..)).cells t (.int .i64 200) (by rw [List.getElem?_replicate, if_pos ht8])
              cases hb1
              rw [Nat.zero_add] at c0
              go_wp2_with fail
              go_roundw
              case rel => exact ⟨t + 1, by omega, by go_num, HO13.out⟩
              case measure => simp [intOf]; omega
            · go_wp2_with fail
              go_roundw
              case rel => exact ⟨j + 1, by omega, by go_num, HO13.out.sub (by intro p hp; simp only [List.mem_singleton] at hp; simp [hp])⟩
              case measure => simp [intOf]; omega
        · have ho := HO.out.own
          clear HO; have HO := Lib.hid ho; clear ho
          have eS : (17 : Int) - k = ((17 - k : Nat) : Int) := by omega
          obtain ⟨S, hS, hSk⟩ : ∃ S, 17 - k = S ∧ S + k = 17 := ⟨_, rfl, by omega⟩
          rw [hS] at eS
          clear hS
          go_wp2_with fail
          go_loopw [203] (fun i wr => ∃ (s : Nat) (G' : Gra) (F' : List Nat), s ≤ S ∧ i = .int .i64 s ∧ Own w wr g G' F' ∧ G'.most = 200 ∧ G'.nodes.length ≤ 41 + s ∧ (inputs G'.nodes).length = k + s) (fun i _ => S - (intOf i).toNat)
          case atStart => exact ⟨0, G, F, by omega, rfl, HO.out, hm200, by omega, by rw [HK.out]; rfl⟩
          case round =>
            clear HO
            obtain ⟨s, G', F', hs, rfl, ho, hm, hnl, hin⟩ := hrel
            by_cases hlt : s < S
            · have hroom := input_room (G := G') (by rw [hm]; omega)
              have HI := Input_g ho.gin
              rw [hroom.1] at HI
              have HI := Lib.hid HI
              have HO := Lib.hid ho; clear ho
              have HROOM := Lib.hid hroom; clear hroom
              have HM := Lib.hid hm; clear hm
              have HINP := Lib.hid hin; clear hin
              go_wp2_with fail
              refine HI.out.mono ?_
              rintro e W2 ⟨rfl, hto⟩
              obtain ⟨F2, ho⟩ := HO.out.to hto
              clear HO hto HI; have HO := Lib.hid ho; clear ho
              go_wp2_with fail
              go_roundw
              case rel =>
                obtain ⟨r1, r2, r3, r4⟩ := HROOM.out
                exact ⟨s + 1, _, F2, by omega, by go_num, HO.out, by rw [r2]; exact HM.out, by omega, by rw [r4, HINP.out]; omega⟩
              case measure => simp [intOf]; omega
            · have hin17 : (inputs G'.nodes).length = 17 := by omega
              have hp := ho.gin.ok.wf.pos
              have t1 : tabE G' [0] = 211 := by unfold tabE; rw [badIn_zero hp, if_neg (by simp), if_pos (by omega)]
              have t2 : tabE G' [1] = 211 := by unfold tabE; rw [badIn_one hp, if_neg (by simp), if_pos (by omega)]
              have t3 : tabE G' [0, 1] = 211 := by unfold tabE; rw [badIn_both hp, if_neg (by simp), if_pos (by omega)]
              have r1 : tableR G' 0 = ([], 211) := by unfold tableR; rw [t1]; rfl
              have r2 : countR G' 1 = (0, 211) := by unfold countR; rw [t2]; rfl
              have r3 : firstG G' 0 = (([], false), 211) := by unfold firstG; rw [t1]; rfl
              have r4 : partsG G' 0 1 = (([], false), 211) := by unfold partsG; rw [t3]; rfl
              have r5 := words_true ho.gin.ok.wf (I := List.replicate 17 0) (by simp [hin17])
              have R1 := Lib.hid r1; clear r1
              have R2 := Lib.hid r2; clear r2
              have R3 := Lib.hid r3; clear r3
              have R4 := Lib.hid r4; clear r4
              have R5 := Lib.hid r5; clear r5
              have ho : HS w wr g G' F' [] := ⟨ho, by simp⟩
              have HO := Lib.hid ho; clear ho t1 t2 t3 hm hin hin17
              have hmk1 : ∀ W : World, (Instr.makeSlice 33 (.int .i64 17) (.int .i64 17)).run Try.prog W = .ok (.slice (some ⟨W.heap.size, 0, none⟩) 17 17) (W.alloc (.cells (u64s (List.replicate 17 0)).toArray 45)) := fun W => run_make_u64s W 17 (by omega)
              go_wp2_with fail
              refine (simTable_h HO.out 0 (by omega) R1.out (k := 0) rfl (by omega)).mono ?_
              rintro e W6 ⟨a3, s3, rfl, ho⟩
              have HO6 := Lib.hid ho; clear ho HO
              go_wp2_with fail
              refine (simCount_h HO6.out 1 (by omega) R2.out).mono ?_
              rintro e W7 ⟨rfl, ho⟩
              have HO7 := Lib.hid ho; clear ho HO6
              go_wp2_with fail
              refine (simFirst_h HO7.out 0 (by omega) R3.out (k := 0) rfl (by omega)).mono ?_
              rintro e W8 ⟨a4, s4, rfl, ho⟩
              have HO8 := Lib.hid ho; clear ho HO7
              go_wp2_with fail
              refine (simParts_h HO8.out 0 1 (by omega) (by omega) R4.out (k := 0) rfl (by omega)).mono ?_
              rintro e W9 ⟨a5, s5, rfl, ho⟩
              have HO9 := Lib.hid ho; clear ho HO8
              go_wp2_with fail
              refine calls_named fun W4 hW4 => ?_
              have hc4 : Ch [] W9 W4 := by rw [hW4]; exact ((Ch.refl _ _).alloc _).alloc _
              have hb4 : blk W4 W9.heap.size (u64s (List.replicate 17 0)) := by rw [hW4]; exact (blk.new' _ _ rfl).alloc _
              have hb5 : blk W4 (W9.heap.size + 1) [.int .i64 1] := by rw [hW4]; exact blk.new' _ _ (by simp)
              have ho := (HO9.out.same hc4).blk hb4 (by simp [u64s])
              clear hW4 hc4 hb4 HO9
              have HO4 := Lib.hid ho; clear ho
              refine (simWords_h HO4.out (ins := List.replicate 17 0) (m := 17) (by simp) (by simp) (fun v hv => by rw [(List.mem_replicate.1 hv).2]; omega) (Nat.le_refl _) (by omega) rfl (Sl.one hb5) (by intro r hr; simp at hr; omega) (by simp) R5.out (k := 1) rfl (by omega)).mono ?_
              rintro e W5 ⟨a6, s6, rfl, ho⟩
              clear hb5 HO4
              have HO5 := Lib.hid ho; clear ho
              go_wp2_with fail
              refine calls_named fun W10 hW10 => ?_
              have hb2 := alw_blk (xs := [.int .u64 18446744073709551615]) hW10
              have ho := HO5.out.same (alw_ch hW10)
              clear hW10 HO5
              have HO10 := Lib.hid ho; clear ho
              refine (EQu64_h HO10.out (a := a6) (ca := s6) (xs := [18446744073709551615]) (ys := [18446744073709551615]) (by simp) (blkSv hb2 (by decide)) rfl rfl (q := true) (by decide)).mono ?_
              rintro e W11 ⟨rfl, ho⟩
              clear hb2 HO10
              have HO11 := Lib.hid ho; clear ho
              go_wp2_with fail
              go_ret
              exact ⟨rfl, HO11.out.own.ch⟩
end Go.Proofs.Ytnmfdiiehkkjcaa
