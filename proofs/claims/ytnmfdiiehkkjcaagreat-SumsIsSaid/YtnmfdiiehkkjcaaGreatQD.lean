/-
  Words of many assignments at once, plainly: what the nodes of a graph are for the words of its inputs, bit by bit. No program in sight. Conditions: none beyond the hypotheses.
  Walks over small functions of the laws: words, value, pick. Conditions: slices that are read.
  Walks over Same and Begin of chapter 23's laws: two graphs that are the same, and such ones that are made. Conditions: none beyond the hypotheses.
  Walks over sim: of, nodes. Conditions: a graph in memory, as many words as inputs.
  Walks over sim: check, Words, Bits. Conditions: a graph in memory, references of any integers, words that can be read.
  Tables, plainly: the words of the inputs for 64 assignments at once, the table of what is told of the nodes, bit by bit. No program in sight. Conditions: none beyond the hypotheses.
  Counting the bits of a word, plainly: the lowest bit that is 1 goes with each step. No program in sight. Conditions: none beyond the hypotheses.
  A table's bits by their numbers, plainly: how many there are, which is the first. No program in sight. Conditions: none beyond the hypotheses.
  Tables by what is told of each assignment, plainly: how many, the first one, what parts two. No program in sight. Conditions: none beyond the hypotheses.
  Walks over sim: inputs, one. Conditions: at most 16 inputs, a block of a table of them.
  Drawn regions behind the widest fence, outside a round: calls, and rounds of a range over a function. Conditions: those of the steps.
  Walk over sim: Bits. Conditions: a graph in memory, references of any integers, values that can be read.
  Walks over the closures of made (chapter 23's law): a result is noted; what is known while results are noted. Conditions: a graph in memory, words that are held.
  What is known while results are noted (made of chapter 23's law). Conditions: none beyond the hypotheses.
  Walk over made of chapter 23's law: what each operation makes of two words. Conditions: a graph in memory, words that are held.
  What SumsAgain asks, plainly: for words of one to five bits, by evaluation. No program in sight. Conditions: none.
  Walks over sim: one, table. Conditions: a graph of at most 16 inputs in memory, what tells a word.
  A region in the text's order, in a round of a range over a function, under the widest fence: from the plain walk. Conditions: no defer in it.
  Walks over sim: tabled, Table. Conditions: a graph in memory, any reference.
  Walk over sim: Count. Conditions: a graph in memory, any reference.
  A range over a function whose body may leave it by an exit: the caller's law. Conditions: those of XRng2's law.
  Walk over sim: first. Conditions: a graph of at most 16 inputs in memory, what tells a word.
  Walks over sim: First, Parts. Conditions: a graph in memory, any references.
  The laws' graphs, plainly: what small numbers make. No program in sight.
  Walks over pick. Conditions: slices that are read.
  Walks over step. Conditions: a graph in memory, slices that are read.
  What small numbers make, plainly: no error where there is room, and what it means. No program in sight. Conditions: none beyond the hypotheses.
  The laws' graphs, plainly: built step by step. No program in sight. Conditions: none beyond the hypotheses.
  The words of the nodes, plainly, and their bits. No program in sight. Conditions: none beyond the hypotheses.
-/
import Derived.Test.YtnmfdiiehkkjcaaGreatQB
import Derived.Test.YtnmfdiiehkkjcaaGreatQC
import Derived.Laws.Bits64b
import Derived.RangeFuncCalls
import Derived.TacticsIn
import Derived.Deep.DeepCutAuto
namespace Go.Aig
theorem List.snocRec {α : Type} {motive : List α → Prop} (nil : motive []) (snoc : ∀ l x, motive l → motive (l ++ [x])) (l : List α) : motive l := by
  have : ∀ n (l : List α), l.length = n → motive l := by
    intro n
    induction n with
    | zero => intro l hl; rw [List.eq_nil_of_length_eq_zero hl]; exact nil
    | succ n ih =>
      intro l hl
      have hne : l ≠ [] := by intro e; rw [e] at hl; simp at hl
      rw [← List.dropLast_concat_getLast hne]
      exact snoc _ _ (ih _ (by rw [List.length_dropLast]; omega))
  exact this l.length l rfl
/-- the word of a reference, over the words of the nodes; M has all bits -/
def wref (M : Nat) (vs : List Nat) (r : Nat) : Nat := if r % 2 = 1 then M ^^^ vs.getD (r / 2) 0 else vs.getD (r / 2) 0
def wvStep (M : Nat) (s : List Nat × List Nat) (x : Nd) : List Nat × List Nat :=
  if x.k = 3 then (s.1 ++ [wref M s.1 x.l &&& wref M s.1 x.r], s.2) else if x.k = 2 then (s.1 ++ [s.2.headD 0], s.2.tail) else (s.1 ++ [0], s.2)
/-- the words of the nodes, and those of the inputs that are left -/
def wvF (M : Nat) (ins : List Nat) (ns : List Nd) : List Nat × List Nat := ns.foldl (wvStep M) ([], ins)
theorem wvF_snoc (M : Nat) (ins : List Nat) (ns : List Nd) (x : Nd) : wvF M ins (ns ++ [x]) = wvStep M (wvF M ins ns) x := by unfold wvF; rw [List.foldl_append]; rfl
theorem wvF_len (M : Nat) (ins : List Nat) (ns : List Nd) : (wvF M ins ns).1.length = ns.length := by
  induction ns using List.snocRec with
  | nil => rfl
  | snoc ns x ih =>
    rw [wvF_snoc]
    unfold wvStep
    (repeat' split) <;> simp [ih]
theorem wvF_ext (M : Nat) (ins : List Nat) (ns : List Nd) (x : Nd) : ∃ v, (wvF M ins (ns ++ [x])).1 = (wvF M ins ns).1 ++ [v] := by
  rw [wvF_snoc]
  unfold wvStep
  (repeat' split) <;> exact ⟨_, rfl⟩
theorem wref_ext {M : Nat} {vs more : List Nat} {r : Nat} (h : r < 2 * vs.length) : wref M (vs ++ more) r = wref M vs r := by
  unfold wref
  rw [List.getD_eq_getElem?_getD, List.getD_eq_getElem?_getD, List.getElem?_append_left (by omega)]
theorem wref_bit {N k : Nat} (hk : k < N) (vs : List Nat) (r : Nat) : (wref (2 ^ N - 1) vs r).testBit k = rv (vs.map fun v => v.testBit k) r := by
  have hg : (vs.map fun v => v.testBit k).getD (r / 2) false = (vs.getD (r / 2) 0).testBit k := by
    rw [List.getD_eq_getElem?_getD, List.getD_eq_getElem?_getD, List.getElem?_map]
    cases vs[r / 2]? <;> simp
  unfold wref rv
  rw [hg]
  split
  · rename_i h
    rw [Nat.testBit_xor, Nat.testBit_two_pow_sub_one, decide_eq_true hk, decide_eq_true h, Bool.xor_comm]
  · rename_i h
    rw [decide_eq_false h, Bool.xor_false]
/-- bit by bit, the words are what the nodes are for one assignment -/
theorem wvF_bits {N k : Nat} (hk : k < N) (ins : List Nat) (ns : List Nd) :
    (wvF (2 ^ N - 1) ins ns).1.map (fun v => v.testBit k) = (nv (fun i => (ins.getD i 0).testBit k) ns).1 ∧ (wvF (2 ^ N - 1) ins ns).2 = ins.drop (nv (fun i => (ins.getD i 0).testBit k) ns).2 := by
  induction ns using List.snocRec with
  | nil => exact ⟨rfl, rfl⟩
  | snoc ns x ih =>
    obtain ⟨h1, h2⟩ := ih
    rw [wvF_snoc, nv_snoc]
    unfold wvStep nvStep
    split
    · refine ⟨?_, h2⟩
      simp only [List.map_append, List.map_cons, List.map_nil, h1, Nat.testBit_and, wref_bit hk]
    · split
      · refine ⟨?_, ?_⟩
        · simp only [List.map_append, List.map_cons, List.map_nil, h1, h2]
          congr 2
          rw [List.headD_eq_head?_getD, List.head?_drop, List.getD_eq_getElem?_getD]
        · simp only [h2, List.tail_drop]
      · refine ⟨?_, h2⟩
        simp only [List.map_append, List.map_cons, List.map_nil, h1, Nat.zero_testBit]
theorem wv_bv {N k : Nat} (hk : k < N) (ins : List Nat) (ns : List Nd) (r : Nat) : (wref (2 ^ N - 1) (wvF (2 ^ N - 1) ins ns).1 r).testBit k = bv (fun i => (ins.getD i 0).testBit k) ns r := by
  rw [wref_bit hk, (wvF_bits hk ins ns).1]
  rfl
theorem wref_lt {N : Nat} {vs : List Nat} (h : ∀ v ∈ vs, v < 2 ^ N) (r : Nat) : wref (2 ^ N - 1) vs r < 2 ^ N := by
  have hp : 0 < 2 ^ N := Nat.two_pow_pos N
  have hg : vs.getD (r / 2) 0 < 2 ^ N := by
    rw [List.getD_eq_getElem?_getD]
    cases hq : vs[r / 2]? with
    | none => exact hp
    | some v => exact h v (List.mem_of_getElem? hq)
  unfold wref
  split
  · exact Nat.xor_lt_two_pow (by omega) hg
  · exact hg
theorem wvF_lt {N : Nat} {ins : List Nat} (hi : ∀ v ∈ ins, v < 2 ^ N) (ns : List Nd) : (∀ v ∈ (wvF (2 ^ N - 1) ins ns).1, v < 2 ^ N) ∧ ∀ v ∈ (wvF (2 ^ N - 1) ins ns).2, v < 2 ^ N := by
  have hp : 0 < 2 ^ N := Nat.two_pow_pos N
  induction ns using List.snocRec with
  | nil => exact ⟨by simp [wvF], hi⟩
  | snoc ns x ih =>
    obtain ⟨h1, h2⟩ := ih
    rw [wvF_snoc]
    unfold wvStep
    split
    · refine ⟨fun v hv => ?_, h2⟩
      rcases List.mem_append.1 hv with hv | hv
      · exact h1 v hv
      · rw [List.mem_singleton.1 hv]
        exact Nat.and_lt_two_pow _ (wref_lt h1 _)
    · split
      · refine ⟨fun v hv => ?_, fun v hv => h2 v (List.mem_of_mem_tail hv)⟩
        rcases List.mem_append.1 hv with hv | hv
        · exact h1 v hv
        · rw [List.mem_singleton.1 hv]
          cases hq : (wvF (2 ^ N - 1) ins ns).2 with
          | nil => exact hp
          | cons a l => exact h2 a (by rw [hq]; exact List.mem_cons_self ..)
      · refine ⟨fun v hv => ?_, h2⟩
        rcases List.mem_append.1 hv with hv | hv
        · exact h1 v hv
        · rw [List.mem_singleton.1 hv]; exact hp
/-- how many inputs there are -/
theorem nv_count (env : Nat → Bool) (ns : List Nd) : (nv env ns).2 = (inputs ns).length := by
  have : ∀ (ns : List Nd) (n : Nat), (inputsFrom ns n).length = (ns.filter fun x => x.k == 2).length := by
    intro ns
    induction ns with
    | nil => intro n; rfl
    | cons x ns ih =>
      intro n
      unfold inputsFrom
      split
      · rename_i h; simp [h, ih]
      · rename_i h; simp [h, ih]
  unfold inputs
  rw [this]
  induction ns using List.snocRec with
  | nil => rfl
  | snoc ns x ih =>
    rw [nv_snoc, List.filter_append, List.length_append, ← ih]
    unfold nvStep
    split
    · rename_i h; simp [h]
    · split
      · rename_i h; simp [h]
      · rename_i h; simp [h]
end Go.Aig
namespace Go.Proofs.YtnmfdiiehkkjcaaGreat
open Go.RowKit Go.Mem Go.Aig
def u64s (l : List Nat) : List Value := l.map fun (r : Nat) => .int .u64 r
/-- the words of the four inputs -/
def inWords : List Nat := [43690, 52428, 61680, 65280]
/-- the word of a reference, over the words of the nodes -/
def wv (vs : List Nat) (r : Nat) : Nat := if r % 2 = 1 then vs.getD (r / 2) 0 ^^^ 65535 else vs.getD (r / 2) 0
theorem not_word (x : Nat) (hx : x < 65536) : bits .and .u64 (bits .xor .u64 18446744073709551615 (x : Int)) 65535 = ((x ^^^ 65535 : Nat) : Int) := by
  have h1 := bits_xor_u64_nat 18446744073709551615 x (by omega) (by omega)
  have h2 : 18446744073709551615 ^^^ x < 2 ^ 64 := Nat.xor_lt_two_pow (by omega) (by omega)
  have h3 := bits_and_u64_nat (18446744073709551615 ^^^ x) 65535 (by omega) (by omega)
  rw [show (18446744073709551615 : Int) = ((18446744073709551615 : Nat) : Int) from rfl, h1, show (65535 : Int) = ((65535 : Nat) : Int) from rfl, h3]
  congr 1
  apply Nat.eq_of_testBit_eq
  intro i
  rw [Nat.testBit_and, Nat.testBit_xor, Nat.testBit_xor, show (18446744073709551615 : Nat) = 2 ^ 64 - 1 from rfl, show (65535 : Nat) = 2 ^ 16 - 1 from rfl, Nat.testBit_two_pow_sub_one, Nat.testBit_two_pow_sub_one]
  by_cases hi : i < 16
  · have : i < 64 := by omega
    simp [hi, this]
  · have hx' : x.testBit i = false := Nat.testBit_lt_two_pow (Nat.lt_of_lt_of_le hx (by show 2 ^ 16 ≤ 2 ^ i; exact Nat.pow_le_pow_right (by omega) (by omega)))
    simp [hi, hx']
theorem not_word' (x : Nat) (hx : x < 65536) : bits .and .u64 (bits .xor .u64 IntKind.u64.max (x : Int)) 65535 = ((x ^^^ 65535 : Nat) : Int) := by
  rw [show IntKind.u64.max = (18446744073709551615 : Int) from by decide]; exact not_word x hx
end Go.Proofs.YtnmfdiiehkkjcaaGreat
namespace Go.Aig
/-- what the program tells of a node -/
theorem node_tells {G : Gra} (h : Ok G) {n : Nat} {x : Nd} (hx : G.nodes[n]? = some x) : kindOf G.nodes ((2 * n : Nat) : Int) = x.k ∧ lOf G.nodes ((2 * n : Nat) : Int) = x.l ∧ rOf G.nodes ((2 * n : Nat) : Int) = x.r ∧ x.k ≤ 3 := by
  have hn : nodeAt G.nodes ((2 * n : Nat) : Int) = some x := by
    unfold nodeAt
    rw [if_pos (by omega), Int.toNat_natCast, show 2 * n / 2 = n by omega, hx]
  unfold kindOf lOf rOf
  rw [hn]
  refine ⟨rfl, ?_, ?_, ?_⟩
  · show (if x.k = 3 then x.l else 0) = x.l
    by_cases h0 : n = 0
    · subst h0; rw [h.wf.const] at hx; cases hx; rfl
    · rcases h.wf.other n x hx (by omega) with e | e
      · rw [e]; rfl
      · rw [if_pos e.1]
  · show (if x.k = 3 then x.r else 0) = x.r
    by_cases h0 : n = 0
    · subst h0; rw [h.wf.const] at hx; cases hx; rfl
    · rcases h.wf.other n x hx (by omega) with e | e
      · rw [e]; rfl
      · rw [if_pos e.1]
  · by_cases h0 : n = 0
    · subst h0; rw [h.wf.const] at hx; cases hx; decide
    · rcases h.wf.other n x hx (by omega) with e | e
      · rw [e]; decide
      · omega
end Go.Aig
namespace Go.Proofs.YtnmfdiiehkkjcaaGreat
open Go.RowKit Go.Mem Go.Aig
section
variable {w : World} {g : Nat} {G : Gra} {F : List Nat}
end
end Go.Proofs.YtnmfdiiehkkjcaaGreat
namespace Go.Proofs.YtnmfdiiehkkjcaaGreat
open Go.RowKit Go.Mem Go.Aig
/-- all bits -/
abbrev U64 : Nat := 18446744073709551615
theorem u64_pow : (2 ^ 64 - 1 : Nat) = U64 := rfl
theorem infoU64 : (Tryz.prog.info? 104).map (fun i => (i.zero, i.size, i.bytes)) = some (some (.int .u64 0), 1, 8) := by kernel_rfl
theorem slU64s : SliceTy Tryz.prog 103 104 1 8 (.int .u64 0) := ⟨Tryz.underlying103, infoU64, rfl, by decide⟩
theorem run_make_u64s (w : World) (n : Nat) (hn : n ≤ 1000000) : (Instr.makeSlice 103 (.int .i64 n) (.int .i64 n)).run Tryz.prog w = .ok (.slice (some ⟨w.heap.size, 0, none⟩) n n) (w.alloc (.cells (u64s (List.replicate n 0)).toArray 104)) := by
  obtain ⟨i, hi, hz, hs, hb⟩ := info_parts infoU64
  have := run_make (P := Tryz.prog) w 103 104 i (.int .u64 0) Tryz.underlying103 hi hz .i64 .i64 n n (by omega) (by omega) (by rw [hb]; omega) (by omega)
  rw [this, hs]
  have e : madeCells (Value.int .u64 0).cells ((n : Int).toNat * 1) = (u64s (List.replicate n 0)).toArray := by
    apply Array.ext'
    have h := toList_madeCells_one (Value.int .u64 0) ((n : Int).toNat * 1)
    simpa [u64s, Value.cells] using h
  rw [e]; simp
theorem u64s_get {l : List Nat} {i v : Nat} (h : l[i]? = some v) : (u64s l)[i]? = some (.int .u64 v) := by simp [u64s, h]
section
variable {w : World}
set_option maxRecDepth 100000 in
set_option maxHeartbeats 2000000 in
theorem simof1_is {bx nb n c : Nat} {vs : List Nat} (hb : w.cell? ⟨bx, 0, none⟩ = some (.slice (some ⟨nb, 0, none⟩) n c)) (hk : blk w nb (u64s vs)) (hn : vs.length = n) (hlt : ∀ v ∈ vs, v < 2 ^ 64) (r : Nat) (hr : r < 2 * n) (hr2 : r ≤ 1000000) :
    Calls Tryz.prog 105 #[.int .i64 r, .pointer (some ⟨bx, 0, none⟩)] w fun e w' => e = .returned (.int .u64 (wref U64 vs r)) ∧ w = w' := by
  have hg : vs[r / 2]? = some vs[r / 2] := List.getElem?_eq_getElem (by omega)
  have hx := hlt _ (List.getElem_mem (show r / 2 < vs.length by omega))
  have c0 : w.cell? ⟨nb, r / 2, none⟩ = some (.int .u64 vs[r / 2]) := hk.cell (u64s_get hg)
  have hv : wref U64 vs r = if r % 2 = 1 then U64 ^^^ vs[r / 2] else vs[r / 2] := by unfold wref; rw [List.getD_eq_getElem?_getD, hg]; rfl
  rw [hv]
  generalize vs[r / 2] = x at *
  clear hg hk hlt hv
  by_cases h1 : r % 2 = 1
  · rw [if_pos h1]
    have hbb : ((r : Int) % 2 == 1) = true := by simp; omega
    have hnx := bits_xor_u64_nat U64 x (by decide) (by omega)
    have H1 := Lib.hid h1; clear h1
    have HNX := Lib.hid hnx; clear hnx
    have HN := Lib.hid hn; clear hn
    go_enter Tryz.func105, Tryz.ntmps105
    go_wp2_with fail
    go_ret
    exact ⟨ret_int (by first | exact HNX.out | (rw [show IntKind.u64.max = ((U64 : Nat) : Int) from by decide]; exact HNX.out)), rfl⟩
  · rw [if_neg h1]
    have hbb : ((r : Int) % 2 == 1) = false := by simp; omega
    have H1 := Lib.hid h1; clear h1
    have HN := Lib.hid hn; clear hn
    go_enter Tryz.func105, Tryz.ntmps105
    go_wp2_with fail
    go_ret
    exact ⟨rfl, rfl⟩
theorem fnvsimof1 : Fnv 105 := fnv_of Tryz.func105 (by simp [Tryz.f105]) (by simp [Tryz.f105])
set_option maxRecDepth 100000 in
set_option maxHeartbeats 400000 in
theorem simof_is (a : Option Addr) (n c : Nat) : Calls Tryz.prog 98 #[.slice a n c] w fun e w' => e = .returned (.func (.func 105) #[] #[.pointer (some ⟨w.heap.size, 0, none⟩)]) ∧ w' = w.alloc (.cells #[.slice a n c] 103) := by
  go_enter Tryz.func98, Tryz.ntmps98
  go_wp2_with fail
  go_ret
  exact ⟨rfl, rfl⟩
theorem isAnd_at {G : Gra} (hG : Ok G) {n : Nat} {x : Nd} (hx : G.nodes[n]? = some x) : isAndAt G.nodes ((2 * n : Nat) : Int) = (x.k == 3) := by
  have := (node_tells hG hx).1
  unfold isAndAt
  rw [this]
theorem Sv.ch2 {F : List Nat} {w w' : World} {a : Option Addr} {xs : List Value} (h : Sv w a xs) (hc : Ch F w w') (hF : 0 < xs.length → ∀ p, a = some p → p.block ∉ F) : Sv w' a xs :=
  ⟨fun i x hx => by
    obtain ⟨b, o, rfl, hcell⟩ := h.cells i x hx
    have hlt := (List.getElem?_eq_some_iff.1 hx).1
    exact ⟨b, o, rfl, (hc.cell (p := ⟨b, o + i, none⟩) (cell_lt hcell) (hF (by omega) ⟨b, o, none⟩ rfl)).trans hcell⟩, h.bd⟩
theorem u64s_len (l : List Nat) : (u64s l).length = l.length := by simp [u64s]
theorem set_mid (L : List Nat) (m v : Nat) (hm : 0 < m) : (u64s (L ++ List.replicate m 0)).set L.length (.int .u64 v) = u64s ((L ++ [v]) ++ List.replicate (m - 1) 0) := by
  obtain ⟨k, rfl⟩ : ∃ k, m = k + 1 := ⟨m - 1, by omega⟩
  unfold u64s
  rw [List.map_append, List.set_append_right _ _ (by simp)]
  simp [List.replicate_succ]
theorem set_zero (L : List Nat) (m : Nat) (hm : 0 < m) : u64s (L ++ List.replicate m 0) = u64s ((L ++ [0]) ++ List.replicate (m - 1) 0) := by
  obtain ⟨k, rfl⟩ : ∃ k, m = k + 1 := ⟨m - 1, by omega⟩
  simp [u64s, List.replicate_succ]
set_option maxRecDepth 100000 in
set_option maxHeartbeats 8000000 in
theorem simnodes_is {g : Nat} {G : Gra} {F : List Nat} (h : GIn w g G F) {xa : Option Addr} {ins : List Nat} (xc : Nat) (hS : Sv w xa (u64s ins)) (hi : (inputs G.nodes).length = ins.length) (hlt : ∀ v ∈ ins, v < 2 ^ 64) (hcap : ins.length ≤ xc) (hxc : xc ≤ 9223372036854775807) :
    Calls Tryz.prog 99 #[.pointer (some ⟨g, 0, none⟩), .slice xa ins.length xc] w fun e w' => e = .returned (.slice (some ⟨w.heap.size, 0, none⟩) G.nodes.length G.nodes.length) ∧ blk w' w.heap.size (u64s (wvF U64 ins G.nodes).1) ∧ Ch [] w w' := by
  have hok := h.ok
  have hroom := hok.room
  have hmost := hok.most
  obtain ⟨N, hN⟩ : ∃ N, N = G.nodes.length := ⟨_, rfl⟩
  have hN0 : N ≤ 65536 := by omega
  have hLen := Len_g h
  rw [← hN] at hLen ⊢
  have hE0 : wvF U64 ins (G.nodes.take 0) = ([], ins) := rfl
  have hEn : wvF U64 ins (G.nodes.take N) = wvF U64 ins G.nodes := by rw [List.take_of_length_le (by omega)]
  have hEs : ∀ (k : Nat) (x : Nd), G.nodes[k]? = some x → wvF U64 ins (G.nodes.take (k + 1)) = wvStep U64 (wvF U64 ins (G.nodes.take k)) x := fun k x hx => by
    rw [List.take_add_one, hx]; exact wvF_snoc _ _ _ _
  have hEl : ∀ k, k ≤ N → (wvF U64 ins (G.nodes.take k)).1.length = k := fun k hk => by rw [wvF_len, List.length_take]; omega
  have hEb := fun k => wvF_lt (N := 64) hlt (G.nodes.take k)
  rw [u64_pow] at hEb
  have hE2 : ∀ (k : Nat) (x : Nd), G.nodes[k]? = some x → x.k = 2 → 0 < (wvF U64 ins (G.nodes.take k)).2.length := fun k x hx hk2 => by
    have h1 := (wvF_bits (N := 64) (k := 0) (by omega) ins (G.nodes.take k)).2
    rw [u64_pow] at h1
    rw [h1, nv_count, List.length_drop]
    have hsp := split_at hx
    have h2 : (inputs (G.nodes.take (k + 1))).length = (inputs (G.nodes.take k)).length + 1 := by
      rw [List.take_add_one, hx]
      rw [show (some x).toList = [x] from rfl, inputs_input hk2, List.length_append]; rfl
    have h3 : (inputs (G.nodes.take (k + 1))).length ≤ (inputs G.nodes).length := by
      rw [← nv_count (fun _ => false), ← nv_count (fun _ => false)]
      have : ∀ (ms ns : List Nd), (nv (fun _ => false) ns).2 ≤ (nv (fun _ => false) (ns ++ ms)).2 := by
        intro ms
        induction ms with
        | nil => intro ns; simp
        | cons y ms ih =>
          intro ns
          rw [List.append_cons]
          refine Nat.le_trans ?_ (ih (ns ++ [y]))
          rw [nv_snoc]; unfold nvStep
          (repeat' split) <;> simp
      conv => rhs; rw [← List.take_append_drop (k + 1) G.nodes]
      exact this _ _
    omega
  obtain ⟨E, hE⟩ : ∃ E : Nat → List Nat × List Nat, E = fun k => wvF U64 ins (G.nodes.take k) := ⟨_, rfl⟩
  have hEk : ∀ k, wvF U64 ins (G.nodes.take k) = E k := fun k => by rw [hE]
  simp only [hEk] at hE0 hEn hEs hEl hEb hE2
  rw [← hEn]
  clear hE hEk hEn
  have hmk := run_make_u64s w N (by omega)
  have hnt : ∀ (k : Nat) (x : Nd), G.nodes[k]? = some x → kindOf G.nodes (2 * (k : Int)) = x.k ∧ lOf G.nodes (2 * (k : Int)) = x.l ∧ rOf G.nodes (2 * (k : Int)) = x.r ∧ isAndAt G.nodes (2 * (k : Int)) = (x.k == 3) ∧ x.k ≤ 3 := fun k x hx => by
    obtain ⟨a1, a2, a3, a4⟩ := node_tells hok hx
    have a5 := isAnd_at hok hx
    rw [show ((2 * k : Nat) : Int) = 2 * (k : Int) by omega] at a1 a2 a3 a5
    exact ⟨a1, a2, a3, a5, a4⟩
  have hwf := hok.wf
  have HWF := Lib.hid hwf; clear hwf
  have HNT := Lib.hid hnt; clear hnt
  have H := Lib.hid h; clear h
  have HS := Lib.hid hS; clear hS
  have HE0 := Lib.hid hE0; clear hE0
  have HES := Lib.hid hEs; clear hEs
  have HEL := Lib.hid hEl; clear hEl
  have HEB := Lib.hid hEb; clear hEb
  have HE2 := Lib.hid hE2; clear hE2
  have HN := Lib.hid hN; clear hN hi hlt
  have hcf : ∀ args w, (callFunc 105 args).run Tryz.prog w = .ok (.enter 105 args) w := fnvsimof1
  go_enter Tryz.func99, Tryz.ntmps99
  go_wp2_with fail
  refine hLen.mono ?_
  rintro e w' ⟨rfl, rfl⟩
  go_upto_region 2 with fail
  refine wp_alw ?_
  intro W1 hW1
  have hbo : blk W1 w.heap.size (u64s (List.replicate N 0)) := by rw [hW1]; exact blk.new' _ _ rfl
  have hc1 : Ch [] w W1 := by rw [hW1]; exact (Ch.refl _ _).alloc _
  have hz1 : W1.heap.size = w.heap.size + 1 := by rw [hW1]; simp
  clear hW1 hmk hLen
  have hOf := simof_is (w := W1) (some ⟨w.heap.size, 0, none⟩) N N
  have HOF := Lib.hid hOf; clear hOf
  have HBO := Lib.hid hbo; clear hbo
  have HC1 := Lib.hid hc1; clear hc1
  go_wp2_with fail
  refine HOF.out.mono ?_
  rintro e W2 ⟨rfl, hW2⟩
  have hbx := alw_blk (xs := [.slice (some ⟨w.heap.size, 0, none⟩) N N]) hW2
  have hc2 := HC1.out.trans (alw_ch hW2) (by simp)
  have hbo := HBO.out.ch (alw_ch hW2) (by simp)
  clear hW2 HBO HC1 HOF
  rw [hz1] at hbx
  simp only [hz1]
  clear hz1
  have HBX := Lib.hid hbx; clear hbx
  have HBO := Lib.hid hbo; clear hbo
  have HC2 := Lib.hid hc2; clear hc2
  go_wp2_with fail
  go_loopw [1, 19] (fun u i wr => ∃ (k : Nat) (xk : Option Addr) (ck : Nat), k ≤ N ∧ i = .int .i64 k ∧ u = .slice xk (E k).2.length ck ∧ (E k).2.length ≤ ck ∧ ck ≤ 9223372036854775807 ∧ Sv wr xk (u64s (E k).2) ∧ blk wr w.heap.size (u64s ((E k).1 ++ List.replicate (N - k) 0)) ∧ blk wr (w.heap.size + 1) [.slice (some ⟨w.heap.size, 0, none⟩) N N] ∧ Ch [] w wr ∧ (∀ p, xk = some p → 0 < (E k).2.length → p.block < w.heap.size)) (fun _ i _ => N - (intOf i).toNat)
  case atStart =>
    refine ⟨0, xa, xc, by omega, rfl, by rw [HE0.out], by rw [HE0.out]; exact hcap, hxc, by rw [HE0.out]; exact HS.out.ch HC2.out (by simp), by rw [HE0.out]; exact HBO.out, HBX.out, HC2.out, fun p hp h0 => ?_⟩
    rw [HE0.out] at h0
    obtain ⟨b, o, e, hc⟩ := HS.out.cells 0 _ (List.getElem?_eq_getElem (show 0 < (u64s ins).length by simpa [u64s] using h0))
    rw [hp] at e; cases e
    exact cell_lt hc
  case round =>
    clear HBX HBO HC2
    obtain ⟨k, xk, ck, hk, rfl, rfl, hck, hck2, hsv, hbo, hbx, hc, hlo⟩ := hrel
    by_cases hkn : k < N
    · obtain ⟨x, hx⟩ : ∃ x, G.nodes[k]? = some x := ⟨_, List.getElem?_eq_getElem (by rw [← HN.out]; exact hkn)⟩
      obtain ⟨t1, t2, t3, t4, t5⟩ := HNT.out k x hx
      have hes := HES.out k x hx
      have hel := HEL.out k hk
      have heb := HEB.out k
      have he2 := HE2.out k x hx
      have hsides : x.k = 3 → x.l < 2 * k ∧ x.r < 2 * k := fun e => by have := HWF.out.sides hx e; omega
      have hg := H.out.same hc (by simp)
      have hSd := Sides_g hg (2 * (k : Int)) (by omega)
      rw [t2, t3, t4] at hSd
      generalize hEE : E (k + 1) = EN at hes
      generalize E k = ES at hes hel heb he2 hck hsv hbo hlo ⊢
      obtain ⟨L, I⟩ := ES
      simp only at hel heb he2 hck hsv hbo hlo ⊢
      unfold wvStep at hes
      have HSD := Lib.hid hSd; clear hSd
      have HG := Lib.hid hg; clear hg
      have HSV := Lib.hid hsv; clear hsv
      have HLO := Lib.hid hlo; clear hlo
      have HBO := Lib.hid hbo; clear hbo
      have HBX := Lib.hid hbx; clear hbx
      have HEL' := Lib.hid hel; clear hel
      have HEB' := Lib.hid heb; clear heb
      have HC := Lib.hid hc; clear hc
      by_cases h3 : x.k = 3
      · rw [if_pos h3] at hes
        subst hes
        obtain ⟨hl, hr⟩ := hsides h3
        have h33 : (x.k == 3) = true := by rw [h3]; rfl
        rw [h33] at HSD
        have HEE := Lib.hid hEE; clear hEE
        clear t1 t2 t3 t4 t5 h3 h33 he2 hsides hx
        generalize x.l = a at *
        generalize x.r = b at *
        go_wp2_with fail
        refine HSD.out.mono ?_
        rintro e w3 ⟨rfl, hc3⟩
        have hbo := HBO.out.ch hc3 (by simp)
        have hbx := HBX.out.ch hc3 (by simp)
        have hlen : (L ++ List.replicate (N - k) 0).length = N := by rw [List.length_append, List.length_replicate, HEL'.out]; omega
        have hbd : ∀ v ∈ L ++ List.replicate (N - k) 0, v < 2 ^ 64 := fun v hv => by
          rcases List.mem_append.1 hv with hv | hv
          · exact HEB'.out.1 v hv
          · rw [(List.mem_replicate.1 hv).2]; omega
        have hA := simof1_is (hbx.cell (i := 0) rfl) hbo hlen hbd a (by omega) (by omega)
        have hB := simof1_is (hbx.cell (i := 0) rfl) hbo hlen hbd b (by omega) (by omega)
        rw [wref_ext (by rw [HEL'.out]; exact hl)] at hA
        rw [wref_ext (by rw [HEL'.out]; exact hr)] at hB
        have hwa := wref_lt (N := 64) HEB'.out.1 a
        have hwb := wref_lt (N := 64) HEB'.out.1 b
        rw [u64_pow] at hwa hwb
        have hand := bits_and_u64_nat (wref U64 L a) (wref U64 L b) hwa hwb
        generalize hva : wref U64 L a = va at *
        generalize hvb : wref U64 L b = vb at *
        have f0 := hbo.frozen (i := k)
        obtain ⟨old, c0⟩ : ∃ old, w3.cell? ⟨w.heap.size, k, none⟩ = some old := ⟨_, hbo.cell (List.getElem?_eq_getElem (show k < (u64s (L ++ List.replicate (N - k) 0)).length by rw [u64s_len, hlen]; exact hkn))⟩
        have hlt0 := hbo.lt
        have HA := Lib.hid hA; clear hA
        have HB := Lib.hid hB; clear hB
        have HBO3 := Lib.hid hbo; clear hbo HBO
        have HBX3 := Lib.hid hbx; clear hbx HBX
        have HC3 := Lib.hid (HC.out.trans hc3 (by simp)); clear HC HSD
        have HC13 := Lib.hid hc3; clear hc3
        clear hva hvb hwa hwb hlen hbd
        go_wp2_with fail
        refine HA.out.mono ?_
        rintro e w' ⟨rfl, rfl⟩
        go_wp2_with fail
        refine HB.out.mono ?_
        rintro e w' ⟨rfl, rfl⟩
        go_wp2_with fail
        go_roundw
        case rel =>
          have hcs : Ch [w.heap.size] w3 (w3.setCell ⟨w.heap.size, k, none⟩ (.int .u64 (va &&& vb : Nat))) := (Ch.refl _ _).setCell (.inl (by simp)) _
          have hset := HBO3.out.set (i := k) (.int .u64 (va &&& vb : Nat))
          rw [show k = L.length from HEL'.out.symm, set_mid L (N - L.length) _ (by rw [HEL'.out]; omega), HEL'.out] at hset
          exact ⟨k + 1, xk, ck, by omega, by go_num, by rw [HEE.out], by rw [HEE.out]; exact hck, hck2, by rw [HEE.out]; exact (HSV.out.ch HC13.out (by simp)).ch2 hcs (fun h0 p hp hin => by rw [u64s_len] at h0; have := HLO.out p hp h0; have := List.mem_singleton.1 hin; omega), by rw [HEE.out, show N - (k + 1) = N - k - 1 by omega]; exact hset, HBX3.out.ch hcs (by simp), HC3.out.trans hcs (fun q hq => .inr (by have := List.mem_singleton.1 hq; omega)), fun p hp h0 => HLO.out p hp (by rw [HEE.out] at h0; exact h0)⟩
        case measure => simp [intOf]; omega
      · rw [if_neg h3] at hes
        have h33 : (x.k == 3) = false := by rw [beq_eq_false_iff_ne]; exact h3
        rw [h33] at HSD
        have hKd := fun (W : World) (hW : Ch [] wr W) => Kind_g (HG.out.same hW (by simp)) (2 * (k : Int)) (by omega)
        rw [t1] at hKd
        have HKD := Lib.hid hKd; clear hKd
        by_cases h2 : x.k = 2
        · rw [if_pos h2] at hes
          subst hes
          have hI := he2 h2
          rw [h2] at HKD
          have HEE := Lib.hid hEE; clear hEE
          clear t1 t2 t3 t4 t5 h3 h33 he2 hsides hx h2
          obtain ⟨v0, I', rfl⟩ : ∃ v0 I', I = v0 :: I' := by
            cases I with
            | nil => simp at hI
            | cons a l => exact ⟨a, l, rfl⟩
          obtain ⟨xb, xo, rfl, hcx⟩ := HSV.out.cells 0 (.int .u64 v0) rfl
          have hv0 := HEB'.out.2 v0 (List.mem_cons_self ..)
          have hxlo := HLO.out _ rfl hI
          simp only [List.length_cons] at hck hI
          go_wp2_with fail
          refine HSD.out.mono ?_
          rintro e w3 ⟨rfl, hc3⟩
          have hKd := HKD.out w3 hc3
          have HC13 := Lib.hid hc3; clear hc3 HSD
          have HKD3 := Lib.hid hKd; clear hKd HKD
          go_wp2_with fail
          refine HKD3.out.mono ?_
          rintro e w' ⟨rfl, rfl⟩
          have hbo := HBO.out.ch HC13.out (by simp)
          have hbx := HBX.out.ch HC13.out (by simp)
          have hlen : (L ++ List.replicate (N - k) 0).length = N := by rw [List.length_append, List.length_replicate, HEL'.out]; omega
          have c0 := (HC13.out.cell (cell_lt hcx) (by simp)).trans hcx
          rw [Nat.add_zero] at c0
          have f0 := hbo.frozen (i := k)
          obtain ⟨old, d0⟩ : ∃ old, w3.cell? ⟨w.heap.size, k, none⟩ = some old := ⟨_, hbo.cell (List.getElem?_eq_getElem (show k < (u64s (L ++ List.replicate (N - k) 0)).length by rw [u64s_len, hlen]; exact hkn))⟩
          have hlt0 := hbo.lt
          have HBO3 := Lib.hid hbo; clear hbo HBO
          have HBX3 := Lib.hid hbx; clear hbx HBX
          have HC3 := Lib.hid (HC.out.trans HC13.out (by simp)); clear HC
          clear hlen hcx
          by_cases hc1 : ck = 1
          · subst hc1
            have hI0 : I'.length = 0 := by omega
            obtain rfl : I' = [] := List.eq_nil_of_length_eq_zero hI0
            clear hI0
            go_wp2_with fail
            refine Ord.St.door (fun _ => True) [.fl, .fl, .fl, .fl, .rd, .fl, .fl, .fl, .ef, .fl] [0, 0, 0, 4, 12, 0, 32, 31, 159, 511] [0, 1, 2, 3, 4, 5, 6, 7, 8, 9] mixed (by kernel_rfl) rfl ?_
            refine Ord.St.fl2 (T' := ?_) 0 [1, 2, 3, 4, 5, 6, 7, 8, 9] _ _ rfl (by kernel_rfl) rfl rfl rfl rfl (fun K w' hk => ?_) ?_
            rotate_left
            · go_step; exact hk
            refine Ord.St.fl2 (T' := ?_) 1 [2, 3, 4, 5, 6, 7, 8, 9] _ _ rfl (by kernel_rfl) rfl rfl rfl rfl (fun K w' hk => ?_) ?_
            rotate_left
            · go_step; exact hk
            refine Ord.St.fl2 (T' := ?_) 2 [3, 4, 5, 6, 7, 8, 9] _ _ rfl (by kernel_rfl) rfl rfl rfl rfl (fun K w' hk => ?_) ?_
            rotate_left
            · go_step; exact hk
            refine Ord.St.fl2 (T' := ?_) 3 [4, 5, 6, 7, 8, 9] _ _ rfl (by kernel_rfl) rfl rfl rfl rfl (fun K w' hk => ?_) ?_
            rotate_left
            · go_step; exact hk
            refine Ord.St.rd2 (T' := ?_) 4 [5, 6, 7, 8, 9] _ _ rfl (by kernel_rfl) rfl rfl rfl rfl (fun K hk => ?_) ?_
            rotate_left
            · go_step; exact hk
            refine Ord.St.fl2 (T' := ?_) 5 [6, 7, 8, 9] _ _ rfl (by kernel_rfl) rfl rfl rfl rfl (fun K w' hk => ?_) ?_
            rotate_left
            · go_step; exact hk
            refine Ord.St.fl2 (T' := ?_) 6 [7, 8, 9] _ _ rfl (by kernel_rfl) rfl rfl rfl rfl (fun K w' hk => ?_) ?_
            rotate_left
            · go_step; exact hk
            refine Ord.St.fl2 (T' := ?_) 7 [8, 9] _ _ rfl (by kernel_rfl) rfl rfl rfl rfl (fun K w' hk => ?_) ?_
            rotate_left
            · go_step; exact hk
            refine Ord.St.ef 8 [9] _ rfl (by kernel_rfl) (fun K hK => ?_)
            go_wp2_with fail
            refine ⟨rfl, hK _ _ ?_⟩; clear hK K
            refine Ord.St.fl2 (T' := ?_) 9 [] _ _ rfl (by kernel_rfl) rfl rfl rfl rfl (fun K w' hk => ?_) ?_
            rotate_left
            · go_step; exact hk
            refine Ord.St.nil ?_
            go_wp2_with fail
            go_roundw
            case rel =>
              have hcd : Ch [] w3 w3.drew := (Ch.refl [] w3).drew
              have hcs : Ch [w.heap.size] w3.drew (w3.drew.setCell ⟨w.heap.size, k, none⟩ (.int .u64 v0)) := (Ch.refl _ _).setCell (.inl (by simp)) _
              have hset := (HBO3.out.ch hcd (by simp)).set (i := k) (.int .u64 v0)
              rw [show k = L.length from HEL'.out.symm, set_mid L (N - L.length) _ (by rw [HEL'.out]; omega), HEL'.out] at hset
              have hsv := ((HSV.out.ch HC13.out (by simp)).ch hcd (by simp)).ch2 hcs (fun _ p hp hin => by cases hp; have := List.mem_singleton.1 hin; simp only at hxlo this; omega)
              have hsv2 : Sv (w3.drew.setCell ⟨w.heap.size, k, none⟩ (.int .u64 v0)) (some ⟨xb, xo, none⟩) (u64s []) := ⟨by simp [u64s], by simp [u64s]⟩
              exact ⟨k + 1, some ⟨xb, xo, none⟩, 0, by omega, by go_num, by rw [HEE.out]; rfl, by rw [HEE.out]; show ([] : List Nat).length ≤ 0; simp, by omega, by rw [HEE.out]; exact hsv2, by rw [HEE.out, show N - (k + 1) = N - k - 1 by omega]; exact hset, (HBX3.out.ch hcd (by simp)).ch hcs (by simp), (HC3.out.trans hcd (by simp)).trans hcs (fun q hq => .inr (by have := List.mem_singleton.1 hq; omega)), fun p hp h0 => by rw [HEE.out] at h0; simp at h0⟩
            case measure => simp [intOf]; omega
          · have hck1 : 1 < ck := by omega
            have hcki : (ck : Int) - 1 = ((ck - 1 : Nat) : Int) := by omega
            go_wp2_with fail
            refine Ord.St.door (fun _ => True) [.fl, .fl, .fl, .fl, .rd, .fl, .fl, .fl, .ef, .fl] [0, 0, 0, 4, 12, 0, 32, 31, 159, 511] [0, 1, 2, 3, 4, 5, 6, 7, 8, 9] mixed (by kernel_rfl) rfl ?_
            refine Ord.St.fl2 (T' := ?_) 0 [1, 2, 3, 4, 5, 6, 7, 8, 9] _ _ rfl (by kernel_rfl) rfl rfl rfl rfl (fun K w' hk => ?_) ?_
            rotate_left
            · go_step; exact hk
            refine Ord.St.fl2 (T' := ?_) 1 [2, 3, 4, 5, 6, 7, 8, 9] _ _ rfl (by kernel_rfl) rfl rfl rfl rfl (fun K w' hk => ?_) ?_
            rotate_left
            · go_step; exact hk
            refine Ord.St.fl2 (T' := ?_) 2 [3, 4, 5, 6, 7, 8, 9] _ _ rfl (by kernel_rfl) rfl rfl rfl rfl (fun K w' hk => ?_) ?_
            rotate_left
            · go_step; exact hk
            refine Ord.St.fl2 (T' := ?_) 3 [4, 5, 6, 7, 8, 9] _ _ rfl (by kernel_rfl) rfl rfl rfl rfl (fun K w' hk => ?_) ?_
            rotate_left
            · go_step; exact hk
            refine Ord.St.rd2 (T' := ?_) 4 [5, 6, 7, 8, 9] _ _ rfl (by kernel_rfl) rfl rfl rfl rfl (fun K hk => ?_) ?_
            rotate_left
            · go_step; exact hk
            refine Ord.St.fl2 (T' := ?_) 5 [6, 7, 8, 9] _ _ rfl (by kernel_rfl) rfl rfl rfl rfl (fun K w' hk => ?_) ?_
            rotate_left
            · go_step; exact hk
            refine Ord.St.fl2 (T' := ?_) 6 [7, 8, 9] _ _ rfl (by kernel_rfl) rfl rfl rfl rfl (fun K w' hk => ?_) ?_
            rotate_left
            · go_step; exact hk
            refine Ord.St.fl2 (T' := ?_) 7 [8, 9] _ _ rfl (by kernel_rfl) rfl rfl rfl rfl (fun K w' hk => ?_) ?_
            rotate_left
            · go_step; exact hk
            refine Ord.St.ef 8 [9] _ rfl (by kernel_rfl) (fun K hK => ?_)
            go_wp2_with fail
            refine ⟨rfl, hK _ _ ?_⟩; clear hK K
            refine Ord.St.fl2 (T' := ?_) 9 [] _ _ rfl (by kernel_rfl) rfl rfl rfl rfl (fun K w' hk => ?_) ?_
            rotate_left
            · go_step; exact hk
            refine Ord.St.nil ?_
            go_wp2_with fail
            go_roundw
            case rel =>
              have hcd : Ch [] w3 w3.drew := (Ch.refl [] w3).drew
              have hcs : Ch [w.heap.size] w3.drew (w3.drew.setCell ⟨w.heap.size, k, none⟩ (.int .u64 v0)) := (Ch.refl _ _).setCell (.inl (by simp)) _
              have hset := (HBO3.out.ch hcd (by simp)).set (i := k) (.int .u64 v0)
              rw [show k = L.length from HEL'.out.symm, set_mid L (N - L.length) _ (by rw [HEL'.out]; omega), HEL'.out] at hset
              have hsv := ((HSV.out.ch HC13.out (by simp)).ch hcd (by simp)).ch2 hcs (fun _ p hp hin => by cases hp; have := List.mem_singleton.1 hin; simp only at hxlo this; omega)
              have hsv2 : Sv (w3.drew.setCell ⟨w.heap.size, k, none⟩ (.int .u64 v0)) (some ⟨xb, xo + 1, none⟩) (u64s I') := ⟨fun i x hx => by
                obtain ⟨b9, o9, e9, hc9⟩ := hsv.cells (i + 1) x (by simpa [u64s] using hx)
                cases e9
                exact ⟨_, _, rfl, by rw [show xo + 1 + i = xo + (i + 1) by omega]; exact hc9⟩, by have := hsv.bd; simp [u64s] at this ⊢; omega⟩
              exact ⟨k + 1, some ⟨xb, xo + 1, none⟩, ck - 1, by omega, by go_num, by rw [HEE.out]; rfl, by rw [HEE.out]; show I'.length ≤ _; omega, by omega, by rw [HEE.out]; exact hsv2, by rw [HEE.out, show N - (k + 1) = N - k - 1 by omega]; exact hset, (HBX3.out.ch hcd (by simp)).ch hcs (by simp), (HC3.out.trans hcd (by simp)).trans hcs (fun q hq => .inr (by have := List.mem_singleton.1 hq; omega)), fun p hp h0 => by cases hp; exact hxlo⟩
            case measure => simp [intOf]; omega
        · rw [if_neg h2] at hes
          subst hes
          have h22 : ((x.k : Int) == 2) = false := by rw [beq_eq_false_iff_ne]; omega
          have HEE := Lib.hid hEE; clear hEE
          clear t1 t2 t3 t4 h3 h33 he2 hsides hx h2
          generalize x.k = xkk at *
          go_wp2_with fail
          refine HSD.out.mono ?_
          rintro e w3 ⟨rfl, hc3⟩
          have hKd := HKD.out w3 hc3
          have HC13 := Lib.hid hc3; clear hc3 HSD
          have HKD3 := Lib.hid hKd; clear hKd HKD
          go_wp2_with fail
          refine HKD3.out.mono ?_
          rintro e w' ⟨rfl, rfl⟩
          go_wp2_with fail
          go_roundw
          case rel =>
            have hset := HBO.out.ch HC13.out (by simp)
            rw [show N - k = N - L.length by rw [HEL'.out], set_zero L (N - L.length) (by rw [HEL'.out]; omega), HEL'.out] at hset
            exact ⟨k + 1, xk, ck, by omega, by go_num, by rw [HEE.out], by rw [HEE.out]; exact hck, hck2, by rw [HEE.out]; exact HSV.out.ch HC13.out (by simp), by rw [HEE.out, show N - (k + 1) = N - k - 1 by omega]; exact hset, HBX.out.ch HC13.out (by simp), HC.out.trans HC13.out (by simp), fun p hp h0 => HLO.out p hp (by rw [HEE.out] at h0; exact h0)⟩
          case measure => simp [intOf]; omega
    · have hkN : k = N := by omega
      have hbo2 : blk wr w.heap.size (u64s (E N).1) := by
        have := hbo
        rw [hkN, Nat.sub_self, List.replicate_zero, List.append_nil] at this
        exact this
      have HBO2 := Lib.hid hbo2; clear hbo2 hbo hbx hsv hlo
      have HC := Lib.hid hc; clear hc
      go_wp2_with fail
      go_ret
      exact ⟨rfl, HBO2.out, HC.out⟩
end
end Go.Proofs.YtnmfdiiehkkjcaaGreat
namespace Go.Aig
/-- what a word of references is, for words of the inputs -/
def wsOf (ins : List Nat) (ns : List Nd) (l : List Nat) : List Nat := l.map (wref 18446744073709551615 (wvF 18446744073709551615 ins ns).1)
/-- what a word of references is, for an assignment -/
def bsOf (ins : List Bool) (ns : List Nd) (l : List Nat) : List Bool := l.map (bv (fun i => ins.getD i false) ns)
def wOf (l : List Bool) : List Nat := l.map fun b => if b then 1 else 0
theorem wOf_bit (l : List Bool) : (fun i => ((wOf l).getD i 0).testBit 0) = fun i => l.getD i false := by
  funext i
  unfold wOf
  rw [List.getD_eq_getElem?_getD, List.getD_eq_getElem?_getD, List.getElem?_map]
  cases l[i]? with
  | none => rfl
  | some b => cases b <;> rfl
theorem wsOf_bits (ins : List Bool) (ns : List Nd) (l : List Nat) : (wsOf (wOf ins) ns l).map (fun v => v.testBit 0) = bsOf ins ns l := by
  unfold wsOf bsOf
  rw [List.map_map]
  apply List.map_congr_left
  intro r _
  have := wv_bv (N := 64) (k := 0) (by omega) (wOf ins) ns r
  rw [wOf_bit] at this
  exact this
theorem wOf_lt (l : List Bool) : ∀ v ∈ wOf l, v < 2 ^ 64 := fun v hv => by
  obtain ⟨b, _, rfl⟩ := List.mem_map.1 hv
  cases b <;> decide
theorem wsOf_lt {ins : List Nat} (h : ∀ v ∈ ins, v < 2 ^ 64) (ns : List Nd) (l : List Nat) : ∀ v ∈ wsOf ins ns l, v < 2 ^ 64 := fun v hv => by
  obtain ⟨r, _, rfl⟩ := List.mem_map.1 hv
  exact wref_lt (N := 64) (wvF_lt (N := 64) h ns).1 r
end Go.Aig
namespace Go.Proofs.YtnmfdiiehkkjcaaGreat
open Go.RowKit Go.Mem Go.Aig
section
variable {w : World} {g : Nat} {G : Gra} {F : List Nat}
theorem fnvsimcheck1 : Fnv 104 := fnv_of Tryz.func104 (by simp [Tryz.f104]) (by simp [Tryz.f104])
set_option maxRecDepth 100000 in
set_option maxHeartbeats 1000000 in
theorem simcheck1_is (h : GIn w g G F) {bx : Nat} (hb : w.cell? ⟨bx, 0, none⟩ = some (.pointer (some ⟨g, 0, none⟩))) (r : Int) (hr : r ≤ 9223372036854775807) :
    Calls Tryz.prog 104 (#[.int .i64 r] ++ #[.pointer (some ⟨bx, 0, none⟩)]) w fun e w' => e = .returned (.bool (!right G.nodes r)) ∧ w = w' := by
  show Calls Tryz.prog 104 #[.int .i64 r, .pointer (some ⟨bx, 0, none⟩)] w _
  have HR := Right_g h r hr
  clear h
  generalize right G.nodes r = q at *
  go_enter Tryz.func104, Tryz.ntmps104
  go_wp2_with fail
  refine HR.mono ?_
  rintro e w' ⟨rfl, rfl⟩
  go_wp2_with fail
  go_ret
  exact ⟨ret_bool rfl, rfl⟩
set_option maxRecDepth 100000 in
set_option maxHeartbeats 2000000 in
theorem simcheck_is (h : GIn w g G F) {a : Option Addr} {l : List Int} (n c : Nat) (hn : l.length = n) (hS : Sl w a l) (hbd : ∀ r ∈ l, r ≤ 9223372036854775807) :
    Calls Tryz.prog 96 #[.pointer (some ⟨g, 0, none⟩), .slice a n c] w fun e w' => e = .returned (.int .i64 (if badIn G l then 200 else 0 : Nat)) ∧ Ch [] w w' := by
  subst hn
  have hpos := h.ok.wf.pos
  have hp0 : ((G.nodes.length : Int) == 0) = false := beqN (by omega)
  have hC : ∀ W, W = w.alloc (.cells #[.pointer (some ⟨g, 0, none⟩)] 24) → Calls Tryz.prog 85 #[.slice a l.length c, .func (.func 104) #[] #[.pointer (some ⟨w.heap.size, 0, none⟩)]] W fun e w' => e = .returned (.bool (badIn G l)) ∧ W = w' := fun W hW => by
    have hc := alw_ch hW
    have hb := alw_blk (xs := [.pointer (some ⟨g, 0, none⟩)]) hW
    exact CFref_is c 104 #[.pointer (some ⟨w.heap.size, 0, none⟩)] (fun r => !right G.nodes r) (hS.ch hc (by simp)) (fun r hr => simcheck1_is (h.same hc (by simp)) (hb.cell (i := 0) rfl) r (hbd r hr)) fnvsimcheck1
  have hL : ∀ W, W = w.alloc (.cells #[.pointer (some ⟨g, 0, none⟩)] 24) → Calls Tryz.prog 14 #[.pointer (some ⟨g, 0, none⟩)] W fun e w' => e = .returned (.int .i64 G.nodes.length) ∧ W = w' := fun W hW => Len_g (h.same (alw_ch hW) (by simp))
  have hw : w.cell? ⟨w.heap.size, 0, none⟩ = none := by simp [World.cell?]
  have HC := Lib.hid hC; clear hC
  have HL := Lib.hid hL; clear hL hw
  clear h hS hbd
  cases hq : badIn G l
  · rw [hq] at HC
    have HQ := Lib.hid hq; clear hq
    go_enter Tryz.func96, Tryz.ntmps96
    go_wp2_with fail
    refine (HL.out _ rfl).mono ?_
    rintro e w' ⟨rfl, rfl⟩
    go_wp2_with fail
    refine (HC.out _ rfl).mono ?_
    rintro e w' ⟨rfl, rfl⟩
    go_wp2_with fail
    go_ret
    exact ⟨rfl, (Ch.refl _ _).alloc _⟩
  · rw [hq] at HC
    have HQ := Lib.hid hq; clear hq
    go_enter Tryz.func96, Tryz.ntmps96
    go_wp2_with fail
    refine (HL.out _ rfl).mono ?_
    rintro e w' ⟨rfl, rfl⟩
    go_wp2_with fail
    refine (HC.out _ rfl).mono ?_
    rintro e w' ⟨rfl, rfl⟩
    go_wp2_with fail
    go_ret
    exact ⟨rfl, (Ch.refl _ _).alloc _⟩
/-- what Words returns -/
def wordsR (G : Gra) (ins : List Nat) (l : List Int) : List Nat × Nat := if badIn G l then ([], 200) else if ins.length ≠ (inputs G.nodes).length then ([], 210) else (wsOf ins G.nodes (nats l), 0)
/-- a new slice of words -/
def UNew (w : World) (v : Value) (l : List Nat) (w' : World) : Prop := row w' 104 1 v l.length (u64s l) ∧ (∀ q ∈ v.ownBlock.toList, w.heap.size ≤ q) ∧ Ch [] w w'
set_option maxRecDepth 100000 in
set_option maxHeartbeats 8000000 in
theorem simWords_is (h : GIn w g G F) {xa : Option Addr} {ins : List Nat} (xc : Nat) (hS : Sv w xa (u64s ins)) (hlt : ∀ v ∈ ins, v < 2 ^ 64) (hcap : ins.length ≤ xc) (hxc : xc ≤ 9223372036854775807) {a : Option Addr} {l : List Int} (c : Nat) (hL : Sl w a l) (hbd : ∀ r ∈ l, -9223372036854775808 ≤ r ∧ r ≤ 9223372036854775807) (hll : l.length ≤ 100000) :
    Calls Tryz.prog 62 #[.pointer (some ⟨g, 0, none⟩), .slice xa ins.length xc, .slice a l.length c] w fun e w' => ∃ v, e = .returned (.tuple #[v, .int .i64 (wordsR G ins l).2]) ∧ UNew w v (wordsR G ins l).1 w' := by
  have hpos := h.ok.wf.pos
  have hroom := h.ok.room
  have hmost := h.ok.most
  have hCk := simcheck_is h l.length c rfl hL (fun r hr => (hbd r hr).2)
  have hIn := fun (W : World) (hW : Ch [] w W) => Inputs_g (h.same hW (by simp))
  by_cases hb : badIn G l = true
  · have hR : wordsR G ins l = ([], 200) := by unfold wordsR; rw [if_pos hb]
    rw [hR]
    rw [if_pos hb] at hCk
    have HCK := Lib.hid hCk; clear hCk h hS hlt hL hbd hIn hb hR
    go_enter Tryz.func62, Tryz.ntmps62
    go_wp2_with fail
    refine HCK.out.mono ?_
    rintro e w1 ⟨rfl, hc1⟩
    have HC1 := Lib.hid hc1; clear hc1
    go_wp2_with fail
    go_ret2
    exact ⟨_, rfl, ⟨rfl, .inl ⟨rfl, rfl⟩⟩, by simp, HC1.out⟩
  · have hb2 : badIn G l = false := by simpa using hb
    rw [if_neg hb] at hCk
    obtain ⟨hnat, hnlt⟩ := badIn_no hb2
    by_cases hi : ins.length = (inputs G.nodes).length
    · have hR : wordsR G ins l = (wsOf ins G.nodes (nats l), 0) := by unfold wordsR; rw [if_neg hb, if_neg (by simp [hi])]
      rw [hR]
      have hNd := fun (W : World) (hW : Ch [] w W) => simnodes_is (h.same hW (by simp)) xc (hS.ch hW (by simp)) hi.symm hlt hcap hxc
      have hvl := wvF_len U64 ins G.nodes
      have hvb := (wvF_lt (N := 64) hlt G.nodes).1
      rw [u64_pow] at hvb
      unfold wsOf
      generalize hV : (wvF U64 ins G.nodes).1 = V at *
      clear hV
      have hie : ((ins.length : Int) != (inputs G.nodes).length) = false := by simp [hi]
      have HCK := Lib.hid hCk; clear hCk
      have HIN := Lib.hid hIn; clear hIn
      have HND := Lib.hid hNd; clear hNd
      have HVL := Lib.hid hvl; clear hvl
      have HVB := Lib.hid hvb; clear hvb
      have HL := Lib.hid hL; clear hL
      have HNL := Lib.hid hnlt; clear hnlt
      have HNT := Lib.hid hnat; clear hnat
      clear h hS hlt hbd hb hb2 hR hi
      generalize (inputs G.nodes).length = ni at *
      have hcf : ∀ args w, (callFunc 105 args).run Tryz.prog w = .ok (.enter 105 args) w := fnvsimof1
      go_enter Tryz.func62, Tryz.ntmps62
      go_wp2_with fail
      refine HCK.out.mono ?_
      rintro e w1 ⟨rfl, hc1⟩
      have hI1 := HIN.out w1 hc1
      have HI1 := Lib.hid hI1; clear hI1 HIN
      have HC1 := Lib.hid hc1; clear hc1
      go_wp2_with fail
      refine HI1.out.mono ?_
      rintro e w2 ⟨v, rfl, hro, _, hc2⟩
      obtain ⟨ia, ic, rfl⟩ := row.shape hro
      have hc12 := HC1.out.trans hc2 (by simp)
      have hN2 := HND.out w2 hc12
      have HN2 := Lib.hid hN2; clear hN2 HND hro hc2
      have HC2 := Lib.hid hc12; clear hc12 HI1 HC1
      go_wp2_with fail
      refine HN2.out.mono ?_
      rintro e w3 ⟨rfl, hbo, hc3⟩
      have hc13 := HC2.out.trans hc3 (by simp)
      have hz23 := HC2.out.size
      clear HN2
      generalize w2.heap.size = ob at *
      have hOf := simof_is (w := w3) (some ⟨ob, 0, none⟩) G.nodes.length G.nodes.length
      have HOF := Lib.hid hOf; clear hOf
      have HBO := Lib.hid hbo; clear hbo
      have HC3 := Lib.hid hc13; clear hc13 hc3 HC2
      go_wp2_with fail
      refine HOF.out.mono ?_
      rintro e w4 ⟨rfl, hw4⟩
      have hbx := alw_blk (xs := [.slice (some ⟨ob, 0, none⟩) G.nodes.length G.nodes.length]) hw4
      have hbo := HBO.out.ch (alw_ch hw4) (by simp)
      have hc4 := HC3.out.trans (alw_ch hw4) (by simp)
      have hz34 := HC3.out.size
      clear hw4 HOF HBO HC3
      generalize w3.heap.size = bx at *
      have HBX := Lib.hid hbx; clear hbx
      have HBO := Lib.hid hbo; clear hbo
      have HC4 := Lib.hid hc4; clear hc4
      go_wp2_with fail
      go_loopw [10, 31] (fun o i wr => ∃ k : Nat, k ≤ l.length ∧ i = .int .i64 k ∧ Ch [] w4 wr ∧ row wr 104 1 o k (u64s (((nats l).take k).map (wref U64 V))) ∧ ∀ q ∈ o.ownBlock.toList, w4.heap.size ≤ q) (fun _ i _ => l.length - (intOf i).toNat)
      case atStart => exact ⟨0, by omega, rfl, Ch.refl _ _, ⟨rfl, .inl ⟨rfl, rfl⟩⟩, by simp⟩
      case round =>
        obtain ⟨k, hk, rfl, hc, hrow, hlo⟩ := hrel
        obtain ⟨oa, oc, rfl⟩ := row.shape hrow
        by_cases hlt : k < l.length
        · obtain ⟨x, hx⟩ : ∃ x, (nats l)[k]? = some x := ⟨_, List.getElem?_eq_getElem (by rw [nats_len]; exact hlt)⟩
          have hxl := HNL.out x (List.mem_of_getElem? hx)
          have hlx : l[k]? = some (x : Int) := by rw [← HNT.out, List.getElem?_map, hx]; rfl
          obtain ⟨xb, xo, rfl, hcl⟩ := HL.out.cells k x hlx
          have c0 := ((HC4.out.trans hc (by simp)).cell (cell_lt hcl) (by simp)).trans hcl
          have hW := simof1_is ((HBX.out.ch hc (by simp)).cell (i := 0) rfl) (HBO.out.ch hc (by simp)) HVL.out HVB.out x hxl (by omega)
          have hsu : u64s (((nats l).take (k + 1)).map (wref U64 V)) = u64s (((nats l).take k).map (wref U64 V)) ++ [.int .u64 (wref U64 V x)] := by rw [List.take_add_one, hx]; simp [u64s]
          generalize wref U64 V x = vx at hW hsu
          have hcA : Ch [] wr (wr.alloc (.cells #[.int .u64 vx] 104)) := (Ch.refl _ _).alloc _
          have hrA := hrow.ch hcA (by simp)
          have hbA : blk (wr.alloc (.cells #[.int .u64 vx] 104)) wr.heap.size [.int .u64 vx] := blk.new' _ _ rfl
          have HW := Lib.hid hW; clear hW
          have HSU := Lib.hid hsu; clear hsu
          have HRA := Lib.hid hrA; clear hrA hrow
          have HBA := Lib.hid hbA; clear hbA
          have HCA := Lib.hid hcA; clear hcA
          have HCP := Lib.hid hc; clear hc
          have HLO := Lib.hid hlo; clear hlo hcl hlx hx
          go_wp2_with fail
          refine HW.out.mono ?_
          rintro e w' ⟨rfl, rfl⟩
          go_wp2_with (at_builtin; go_loud (refine wpList_append_row slU64s rfl _ _ rfl (v := .slice oa k oc) (n := k) (xs := u64s (((nats l).take k).map (wref U64 V))) rfl HRA.out (ad := ⟨wr.heap.size, 0, none⟩) (m := 1) (c := 1) (news := [.int .u64 vx]) rfl rfl (news_blk HBA.out) (by simp [Value.oneCell']) (by omega) (by omega) ?_; intro v' w5 hown4 hC4 hf4; have HO4 := Lib.hid hown4; clear hown4; have HCC4 := Lib.hid hC4; clear hC4; have HF4 := Lib.hid hf4; clear hf4))
          go_roundw
          case rel =>
            obtain ⟨q1, q2⟩ := app_step HCP.out HCA.out HLO.out HCC4.out HF4.out
            refine ⟨k + 1, by omega, by go_num, q1, ?_, q2⟩
            rw [HSU.out]; exact HO4.out
          case measure => simp [intOf]; omega
        · have hkn : k = l.length := by omega
          have hall : (nats l).take k = nats l := List.take_of_length_le (by rw [nats_len]; omega)
          rw [hall] at hrow
          rw [hkn] at hrow hlo
          rw [hkn]
          have HROW := Lib.hid hrow; clear hrow
          have HLO := Lib.hid hlo; clear hlo
          have HCP := Lib.hid hc; clear hc hall hkn
          go_wp2_with fail
          go_ret2
          refine ⟨.slice oa l.length oc, rfl, ?_, fun q hq => Nat.le_trans HC4.out.size (HLO.out q hq), HC4.out.trans HCP.out (by simp)⟩
          have := HROW.out
          simpa using this
    · have hR : wordsR G ins l = ([], 210) := by unfold wordsR; rw [if_neg hb, if_pos hi]
      rw [hR]
      have hie : ((ins.length : Int) != (inputs G.nodes).length) = true := by simp; omega
      have HCK := Lib.hid hCk; clear hCk
      have HIN := Lib.hid hIn; clear hIn
      clear h hS hlt hL hbd hb hb2 hR hi hnat hnlt
      generalize (inputs G.nodes).length = ni at *
      go_enter Tryz.func62, Tryz.ntmps62
      go_wp2_with fail
      refine HCK.out.mono ?_
      rintro e w1 ⟨rfl, hc1⟩
      have hI1 := HIN.out w1 hc1
      have HI1 := Lib.hid hI1; clear hI1 HIN
      have HC1 := Lib.hid hc1; clear hc1
      go_wp2_with fail
      refine HI1.out.mono ?_
      rintro e w2 ⟨v, rfl, hro, _, hc2⟩
      obtain ⟨ia, ic, rfl⟩ := row.shape hro
      have HC2 := Lib.hid (HC1.out.trans hc2 (by simp)); clear hc2 HI1 HC1 hro
      go_wp2_with fail
      go_ret2
      exact ⟨_, rfl, ⟨rfl, .inl ⟨rfl, rfl⟩⟩, by simp, HC2.out⟩
end
end Go.Proofs.YtnmfdiiehkkjcaaGreat
namespace Go.Aig
def M64 : Nat := 2 ^ 64 - 1
def lowW : List Nat := [0xaaaaaaaaaaaaaaaa, 0xcccccccccccccccc, 0xf0f0f0f0f0f0f0f0, 0xff00ff00ff00ff00, 0xffff0000ffff0000, 0xffffffff00000000]
/-- the words of n inputs for the assignments from 64 * block on -/
def inW (n block : Nat) : List Nat := (List.range n).map fun i => if i < 6 then lowW.getD i 0 else if block / 2 ^ (i - 6) % 2 = 1 then M64 else 0
def maskW (n : Nat) : Nat := if n < 6 then 2 ^ 2 ^ n - 1 else M64
/-- the table of what is told of the nodes -/
def tabW (ns : List Nd) (f : List Nat → Nat) (n : Nat) : List Nat := (List.range (2 ^ (n - 6))).map fun block => f (wvF M64 (inW n block) ns).1 &&& maskW n
/-- the assignment of a number -/
def asg (n a : Nat) : Nat → Bool := fun i => decide (i < n) && a.testBit i
theorem low_bit : ∀ i, i < 6 → ∀ k, k < 64 → (lowW.getD i 0).testBit k = k.testBit i := by decide +kernel
theorem inW_len (n block : Nat) : (inW n block).length = n := by simp [inW]
theorem inW_bit (n block k : Nat) (hk : k < 64) : (fun i => ((inW n block).getD i 0).testBit k) = asg n (64 * block + k) := by
  funext i
  unfold inW asg
  rw [List.getD_eq_getElem?_getD, List.getElem?_map]
  by_cases hi : i < n
  · rw [List.getElem?_range hi, decide_eq_true hi, Bool.true_and]
    show (if i < 6 then lowW.getD i 0 else if block / 2 ^ (i - 6) % 2 = 1 then M64 else 0).testBit k = _
    rw [show 64 * block + k = 2 ^ 6 * block + k from rfl, Nat.testBit_two_pow_mul_add _ (show k < 2 ^ 6 from hk)]
    by_cases h6 : i < 6
    · rw [if_pos h6, if_pos h6]
      exact low_bit i h6 k hk
    · have hb : block.testBit (i - 6) = decide (block / 2 ^ (i - 6) % 2 = 1) := Nat.testBit_eq_decide_div_mod_eq
      rw [if_neg h6, if_neg h6, hb]
      split
      · rename_i h
        rw [decide_eq_true h]
        unfold M64
        rw [Nat.testBit_two_pow_sub_one, decide_eq_true hk]
      · rename_i h
        rw [decide_eq_false h, Nat.zero_testBit]
  · rw [List.getElem?_eq_none (by simp; omega), decide_eq_false hi, Bool.false_and]
    simp
theorem mask_bit {n block k : Nat} (hb : block < 2 ^ (n - 6)) (hk : k < 64) : (maskW n).testBit k = decide (64 * block + k < 2 ^ n) := by
  unfold maskW
  split
  · rename_i h
    rw [show n - 6 = 0 by omega] at hb
    rw [Nat.testBit_two_pow_sub_one, show block = 0 by omega, Nat.mul_zero, Nat.zero_add]
  · rename_i h
    unfold M64
    rw [Nat.testBit_two_pow_sub_one, decide_eq_true hk]
    have h2 : 2 ^ n = 2 ^ (n - 6) * 2 ^ 6 := by rw [← Nat.pow_add]; congr 1; omega
    exact (decide_eq_true (by omega)).symm
/-- bit k of the table's word is what is told of the assignment 64 * block + k -/
theorem tab_at (ns : List Nd) (f : List Nat → Nat) (n : Nat) {block : Nat} (hb : block < 2 ^ (n - 6)) : (tabW ns f n)[block]? = some (f (wvF M64 (inW n block) ns).1 &&& maskW n) := by
  unfold tabW
  rw [List.getElem?_map, List.getElem?_range hb]
  rfl
theorem tab_len (ns : List Nd) (f : List Nat → Nat) (n : Nat) : (tabW ns f n).length = 2 ^ (n - 6) := by simp [tabW]
theorem tab_bit (ns : List Nd) (r n : Nat) {block k : Nat} (hb : block < 2 ^ (n - 6)) (hk : k < 64) :
    ((tabW ns (fun vs => wref M64 vs r) n).getD block 0).testBit k = (decide (64 * block + k < 2 ^ n) && bv (asg n (64 * block + k)) ns r) := by
  rw [List.getD_eq_getElem?_getD, tab_at ns _ n hb]
  show (wref M64 (wvF M64 (inW n block) ns).1 r &&& maskW n).testBit k = _
  rw [Nat.testBit_and, mask_bit hb hk, Bool.and_comm]
  congr 1
  unfold M64
  rw [wv_bv hk, inW_bit n block k hk]
theorem tabx_bit (ns : List Nd) (a b n : Nat) {block k : Nat} (hb : block < 2 ^ (n - 6)) (hk : k < 64) :
    ((tabW ns (fun vs => wref M64 vs a ^^^ wref M64 vs b) n).getD block 0).testBit k = (decide (64 * block + k < 2 ^ n) && (bv (asg n (64 * block + k)) ns a ^^ bv (asg n (64 * block + k)) ns b)) := by
  rw [List.getD_eq_getElem?_getD, tab_at ns _ n hb]
  show ((wref M64 (wvF M64 (inW n block) ns).1 a ^^^ wref M64 (wvF M64 (inW n block) ns).1 b) &&& maskW n).testBit k = _
  rw [Nat.testBit_and, mask_bit hb hk, Bool.and_comm, Nat.testBit_xor]
  congr 1
  unfold M64
  rw [wv_bv hk, wv_bv hk, inW_bit n block k hk]
end Go.Aig
namespace Go.Aig
/-- how many bits of a word of 64 are 1 -/
def cnt (w : Nat) : Nat := ((List.range 64).filter fun k => w.testBit k).length
theorem odd_part : ∀ w : Nat, w ≠ 0 → ∃ t q, w = 2 ^ t * (2 * q + 1) := by
  intro w
  induction w using Nat.strongRecOn with
  | ind w ih =>
    intro h
    rcases Nat.mod_two_eq_zero_or_one w with h2 | h2
    · obtain ⟨t, q, e⟩ := ih (w / 2) (by omega) (by omega)
      exact ⟨t + 1, q, by rw [Nat.pow_succ, Nat.mul_assoc, Nat.mul_left_comm, ← e]; omega⟩
    · exact ⟨0, w / 2, by omega⟩
theorem drop_low (w : Nat) (h : w ≠ 0) : ∃ t, w.testBit t = true ∧ ∀ j, (w &&& (w - 1)).testBit j = (w.testBit j && decide (j ≠ t)) := by
  obtain ⟨t, q, e⟩ := odd_part w h
  have hp : 0 < 2 ^ t := Nat.two_pow_pos t
  have e1 : w - 1 = 2 ^ t * (2 * q) + (2 ^ t - 1) := by rw [e, Nat.mul_add]; omega
  have h0 : ∀ m, (2 * q + 1).testBit m = if m = 0 then true else q.testBit (m - 1) := by
    intro m
    cases m with
    | zero => simp
    | succ m => rw [if_neg (by omega), Nat.testBit_succ, show (2 * q + 1) / 2 = q by omega]; rfl
  have h1 : ∀ m, (2 * q).testBit m = if m = 0 then false else q.testBit (m - 1) := by
    intro m
    cases m with
    | zero => simp
    | succ m => rw [if_neg (by omega), Nat.testBit_succ, show (2 * q) / 2 = q by omega]; rfl
  refine ⟨t, ?_, fun j => ?_⟩
  · rw [e, Nat.testBit_two_pow_mul, Nat.sub_self, h0]; simp
  · rw [Nat.testBit_and, e1]
    rw [e, Nat.testBit_two_pow_mul, Nat.testBit_two_pow_mul_add _ (by omega), h0, h1]
    by_cases hj : j < t
    · rw [decide_eq_false (by omega)]; simp
    · rw [if_neg hj, decide_eq_true (by omega), Bool.true_and]
      by_cases ht : j = t
      · subst ht; simp
      · rw [if_neg (by omega), if_neg (by omega), Bool.and_self, decide_eq_true ht, Bool.and_true]
theorem filter_drop (p : Nat → Bool) (t : Nat) (ht : p t = true) : ∀ n, t < n → ((List.range n).filter fun k => p k && decide (k ≠ t)).length + 1 = ((List.range n).filter p).length
  | 0, h => by omega
  | n + 1, h => by
    rw [List.range_succ, List.filter_append, List.filter_append, List.length_append, List.length_append]
    by_cases hn : t = n
    · subst hn
      have : (List.range t).filter (fun k => p k && decide (k ≠ t)) = (List.range t).filter p := by
        apply List.filter_congr
        intro k hk
        have := List.mem_range.1 hk
        rw [decide_eq_true (by omega), Bool.and_true]
      rw [this]
      simp [ht]
    · have ih := filter_drop p t ht n (by omega)
      have : ([n].filter fun k => p k && decide (k ≠ t)) = [n].filter p := by
        apply List.filter_congr
        intro k hk
        rw [List.mem_singleton] at hk
        rw [decide_eq_true (by omega), Bool.and_true]
      rw [this]
      omega
/-- one step of the count -/
theorem cnt_step {w : Nat} (h : w ≠ 0) (hw : w < 2 ^ 64) : cnt (w &&& (w - 1)) + 1 = cnt w := by
  obtain ⟨t, ht, hb⟩ := drop_low w h
  have ht64 : t < 64 := by
    by_cases h6 : t < 64
    · exact h6
    · have := Nat.testBit_lt_two_pow (Nat.lt_of_lt_of_le hw (Nat.pow_le_pow_right (by omega) (show 64 ≤ t by omega)))
      rw [this] at ht; cases ht
  unfold cnt
  rw [show (fun k => (w &&& (w - 1)).testBit k) = fun k => w.testBit k && decide (k ≠ t) from funext hb]
  exact filter_drop _ t ht 64 ht64
theorem cnt_zero : cnt 0 = 0 := by decide +kernel
theorem cnt_le (w : Nat) : cnt w ≤ 64 := by
  unfold cnt
  exact Nat.le_trans (List.length_filter_le _ _) (by simp)
end Go.Aig
namespace Go.Aig
/-- bit a of a table -/
def tbit (t : List Nat) (a : Nat) : Bool := (t.getD (a / 64) 0).testBit (a % 64)
def cntT (t : List Nat) : Nat := (t.map cnt).sum
/-- the first number below m whose bit is 1 -/
def firstT (t : List Nat) (m : Nat) : Option Nat := (List.range m).find? (tbit t)
theorem tbit_at (t : List Nat) (b k : Nat) (hk : k < 64) : tbit t (64 * b + k) = (t.getD b 0).testBit k := by
  unfold tbit
  rw [show (64 * b + k) / 64 = b by omega, show (64 * b + k) % 64 = k by omega]
theorem range_blocks (n : Nat) : List.range (64 * (n + 1)) = List.range (64 * n) ++ (List.range 64).map fun k => 64 * n + k := by
  rw [show 64 * (n + 1) = 64 * n + 64 by omega, List.range_add]
theorem cntT_blocks (t : List Nat) : ∀ n, n ≤ t.length → cntT (t.take n) = ((List.range (64 * n)).filter (tbit t)).length
  | 0, _ => rfl
  | n + 1, h => by
    rw [range_blocks, List.filter_append, List.length_append, ← cntT_blocks t n (by omega)]
    obtain ⟨x, hx⟩ : ∃ x, t[n]? = some x := ⟨_, List.getElem?_eq_getElem (show n < t.length by omega)⟩
    rw [List.take_add_one, hx]
    unfold cntT
    rw [List.map_append, List.sum_append]
    congr 1
    rw [List.filter_map, List.length_map]
    have : ((List.range 64).filter (tbit t ∘ fun k => 64 * n + k)) = (List.range 64).filter fun k => x.testBit k := by
      apply List.filter_congr
      intro k hk
      have hk := List.mem_range.1 hk
      show tbit t (64 * n + k) = _
      rw [tbit_at t n k hk, List.getD_eq_getElem?_getD, hx]
      rfl
    rw [this]
    simp [cnt]
theorem cntT_is (t : List Nat) : cntT t = ((List.range (64 * t.length)).filter (tbit t)).length := by
  have := cntT_blocks t t.length (Nat.le_refl _)
  rwa [List.take_length] at this
theorem firstT_none {t : List Nat} {m : Nat} (h : ∀ a, a < m → tbit t a = false) : firstT t m = none := by
  unfold firstT
  rw [List.find?_eq_none]
  intro a ha
  rw [h a (List.mem_range.1 ha)]
  simp
theorem find_range (p : Nat → Bool) (a : Nat) (hp : p a = true) (h : ∀ b, b < a → p b = false) : ∀ m, a < m → (List.range m).find? p = some a
  | 0, hm => by omega
  | m + 1, hm => by
    rw [List.range_succ, List.find?_append]
    by_cases he : a = m
    · subst he
      have : (List.range a).find? p = none := by
        rw [List.find?_eq_none]
        intro b hb
        rw [h b (List.mem_range.1 hb)]
        simp
      rw [this]
      simp [hp]
    · rw [find_range p a hp h m (by omega)]
      rfl
theorem firstT_some {t : List Nat} {m a : Nat} (hm : a < m) (hp : tbit t a = true) (h : ∀ b, b < a → tbit t b = false) : firstT t m = some a := find_range _ a hp h m hm
/-- a table's bit is what the reference is for the assignment of its number -/
theorem tabW_bit (ns : List Nd) (r n : Nat) {a : Nat} (ha : a < 2 ^ n) : tbit (tabW ns (fun vs => wref M64 vs r) n) a = bv (asg n a) ns r := by
  have hb : a / 64 < 2 ^ (n - 6) := by
    by_cases h6 : n < 6
    · have : 2 ^ n ≤ 2 ^ 5 := Nat.pow_le_pow_right (by omega) (by omega)
      have := Nat.two_pow_pos (n - 6)
      omega
    · have h2 : 2 ^ n = 2 ^ (n - 6) * 2 ^ 6 := by rw [← Nat.pow_add]; congr 1; omega
      omega
  unfold tbit
  rw [tab_bit ns r n hb (Nat.mod_lt _ (by omega)), Nat.div_add_mod, decide_eq_true ha, Bool.true_and]
theorem tabW_out (ns : List Nd) (r n : Nat) {a : Nat} (ha : 2 ^ n ≤ a) (hl : a < 64 * 2 ^ (n - 6)) : tbit (tabW ns (fun vs => wref M64 vs r) n) a = false := by
  unfold tbit
  rw [tab_bit ns r n (by omega) (Nat.mod_lt _ (by omega)), Nat.div_add_mod, decide_eq_false (by omega), Bool.false_and]
end Go.Aig
namespace Go.Aig
/-- what is told of two references -/
theorem tabx_at (ns : List Nd) (a b n : Nat) {k : Nat} (hk : k < 2 ^ n) : tbit (tabW ns (fun vs => wref M64 vs a ^^^ wref M64 vs b) n) k = (bv (asg n k) ns a ^^ bv (asg n k) ns b) := by
  have hb : k / 64 < 2 ^ (n - 6) := by
    by_cases h6 : n < 6
    · have : 2 ^ n ≤ 2 ^ 5 := Nat.pow_le_pow_right (by omega) (by omega)
      have := Nat.two_pow_pos (n - 6)
      omega
    · have h2 : 2 ^ n = 2 ^ (n - 6) * 2 ^ 6 := by rw [← Nat.pow_add]; congr 1; omega
      omega
  unfold tbit
  rw [tabx_bit ns a b n hb (Nat.mod_lt _ (by omega)), Nat.div_add_mod, decide_eq_true hk, Bool.true_and]
theorem tabx_out (ns : List Nd) (a b n : Nat) {k : Nat} (hk : 2 ^ n ≤ k) (hl : k < 64 * 2 ^ (n - 6)) : tbit (tabW ns (fun vs => wref M64 vs a ^^^ wref M64 vs b) n) k = false := by
  unfold tbit
  rw [tabx_bit ns a b n (by omega) (Nat.mod_lt _ (by omega)), Nat.div_add_mod, decide_eq_false (by omega), Bool.false_and]
theorem blocks_le (n : Nat) : 2 ^ n ≤ 64 * 2 ^ (n - 6) := by
  by_cases h6 : n < 6
  · have : 2 ^ n ≤ 2 ^ 5 := Nat.pow_le_pow_right (by omega) (by omega)
    have := Nat.two_pow_pos (n - 6)
    omega
  · have h2 : 2 ^ n = 2 ^ (n - 6) * 2 ^ 6 := by rw [← Nat.pow_add]; congr 1; omega
    omega
/-- a table of n inputs tells p -/
structure TabOf (T : List Nat) (n : Nat) (p : Nat → Bool) : Prop where
  len : T.length = 2 ^ (n - 6)
  at' : ∀ a, a < 2 ^ n → tbit T a = p a
  out : ∀ a, 2 ^ n ≤ a → a < 64 * 2 ^ (n - 6) → tbit T a = false
/-- what a reference is for the assignment of a number -/
def tellR (ns : List Nd) (n r : Nat) : Nat → Bool := fun a => bv (asg n a) ns r
def tellX (ns : List Nd) (n a b : Nat) : Nat → Bool := fun k => bv (asg n k) ns a ^^ bv (asg n k) ns b
theorem tabW_of (ns : List Nd) (r n : Nat) : TabOf (tabW ns (fun vs => wref M64 vs r) n) n (tellR ns n r) := ⟨tab_len _ _ _, fun _ h => tabW_bit ns r n h, fun _ h h2 => tabW_out ns r n h h2⟩
theorem tabx_of (ns : List Nd) (a b n : Nat) : TabOf (tabW ns (fun vs => wref M64 vs a ^^^ wref M64 vs b) n) n (tellX ns n a b) := ⟨tab_len _ _ _, fun _ h => tabx_at ns a b n h, fun _ h h2 => tabx_out ns a b n h h2⟩
/-- for how many assignments, and the first one -/
def countV (n : Nat) (p : Nat → Bool) : Nat := ((List.range (2 ^ n)).filter p).length
def firstV (n : Nat) (p : Nat → Bool) : Option Nat := (List.range (2 ^ n)).find? p
theorem filter_upto (p q : Nat → Bool) (m : Nat) (h : ∀ a, a < m → q a = p a) : ∀ d, (∀ a, m ≤ a → a < m + d → q a = false) → (List.range (m + d)).filter q = (List.range m).filter p
  | 0, _ => List.filter_congr fun a ha => h a (List.mem_range.1 ha)
  | d + 1, hd => by
    rw [← Nat.add_assoc, List.range_succ, List.filter_append, filter_upto p q m h d (fun a h1 h2 => hd a h1 (by omega))]
    simp [hd (m + d) (by omega) (by omega)]
theorem find_upto (p q : Nat → Bool) (m : Nat) (h : ∀ a, a < m → q a = p a) : ∀ d, (∀ a, m ≤ a → a < m + d → q a = false) → (List.range (m + d)).find? q = (List.range m).find? p
  | 0, _ => by
    have : ∀ l : List Nat, (∀ a ∈ l, q a = p a) → l.find? q = l.find? p := by
      intro l
      induction l with
      | nil => intro _; rfl
      | cons a l ih =>
        intro hl
        rw [List.find?_cons, List.find?_cons, hl a (List.mem_cons_self ..), ih (fun b hb => hl b (List.mem_cons_of_mem _ hb))]
    exact this _ fun a ha => h a (List.mem_range.1 ha)
  | d + 1, hd => by
    rw [← Nat.add_assoc, List.range_succ, List.find?_append, find_upto p q m h d (fun a h1 h2 => hd a h1 (by omega))]
    simp [hd (m + d) (by omega) (by omega)]
theorem TabOf.cnt {T : List Nat} {n : Nat} {p : Nat → Bool} (h : TabOf T n p) : cntT T = countV n p := by
  have hle := blocks_le n
  rw [cntT_is, h.len]
  unfold countV
  rw [show 64 * 2 ^ (n - 6) = 2 ^ n + (64 * 2 ^ (n - 6) - 2 ^ n) by omega, filter_upto p (tbit T) (2 ^ n) h.at' _ (fun a h1 h2 => h.out a h1 (by omega))]
theorem TabOf.first {T : List Nat} {n : Nat} {p : Nat → Bool} (h : TabOf T n p) : firstT T (64 * T.length) = firstV n p := by
  have hle := blocks_le n
  unfold firstT firstV
  rw [h.len, show 64 * 2 ^ (n - 6) = 2 ^ n + (64 * 2 ^ (n - 6) - 2 ^ n) by omega, find_upto p (tbit T) (2 ^ n) h.at' _ (fun a h1 h2 => h.out a h1 (by omega))]
/-- two tables of the same are the same -/
theorem TabOf.ext {T U : List Nat} {n : Nat} {p : Nat → Bool} (h : TabOf T n p) (h' : TabOf U n p) (hT : ∀ v ∈ T, v < 2 ^ 64) (hU : ∀ v ∈ U, v < 2 ^ 64) : T = U := by
  apply List.ext_getElem (by rw [h.len, h'.len])
  intro i h1 h2
  apply Nat.eq_of_testBit_eq
  intro k
  by_cases hk : k < 64
  · have e1 : tbit T (64 * i + k) = T[i].testBit k := by rw [tbit_at T i k hk, List.getD_eq_getElem?_getD, List.getElem?_eq_getElem h1]; rfl
    have e2 : tbit U (64 * i + k) = U[i].testBit k := by rw [tbit_at U i k hk, List.getD_eq_getElem?_getD, List.getElem?_eq_getElem h2]; rfl
    rw [← e1, ← e2]
    by_cases hn : 64 * i + k < 2 ^ n
    · rw [h.at' _ hn, h'.at' _ hn]
    · have := h.len
      rw [h.out _ (by omega) (by omega), h'.out _ (by omega) (by omega)]
  · have hp : 2 ^ 64 ≤ 2 ^ k := Nat.pow_le_pow_right (by omega) (by omega)
    rw [Nat.testBit_lt_two_pow (Nat.lt_of_lt_of_le (hT _ (List.getElem_mem h1)) hp), Nat.testBit_lt_two_pow (Nat.lt_of_lt_of_le (hU _ (List.getElem_mem h2)) hp)]
theorem tabW_lt (ns : List Nd) (f : List Nat → Nat) (n : Nat) : ∀ v ∈ tabW ns f n, v < 2 ^ 64 := fun v hv => by
  unfold tabW at hv
  obtain ⟨b, _, rfl⟩ := List.mem_map.1 hv
  refine Nat.lt_of_le_of_lt Nat.and_le_right ?_
  unfold maskW
  split
  · rename_i h
    have h2 : 2 ^ n ≤ 2 ^ 6 := Nat.pow_le_pow_right (by omega) (by omega)
    have h3 : 2 ^ 2 ^ n ≤ 2 ^ 64 := Nat.pow_le_pow_right (by omega) h2
    omega
  · unfold M64; omega
theorem countV_split (n : Nat) (p : Nat → Bool) : countV n p + countV n (fun a => !p a) = 2 ^ n := by
  have : ∀ l : List Nat, (l.filter p).length + (l.filter fun a => !p a).length = l.length := by
    intro l
    induction l with
    | nil => rfl
    | cons a l ih => cases h : p a <;> simp [h] <;> omega
  have h := this (List.range (2 ^ n))
  rwa [List.length_range] at h
theorem countV_pos (n : Nat) (p : Nat → Bool) : 0 < countV n p ↔ ∃ a, a < 2 ^ n ∧ p a = true := by
  unfold countV
  rw [List.length_pos_iff_exists_mem]
  constructor
  · rintro ⟨a, ha⟩
    obtain ⟨h1, h2⟩ := List.mem_filter.1 ha
    exact ⟨a, List.mem_range.1 h1, h2⟩
  · rintro ⟨a, h1, h2⟩
    exact ⟨a, List.mem_filter.2 ⟨List.mem_range.2 h1, h2⟩⟩
theorem firstV_none {n : Nat} {p : Nat → Bool} : firstV n p = none ↔ ∀ a, a < 2 ^ n → p a = false := by
  unfold firstV
  rw [List.find?_eq_none]
  constructor
  · intro h a ha
    have := h a (List.mem_range.2 ha)
    simpa using this
  · intro h a ha
    rw [h a (List.mem_range.1 ha)]
    simp
theorem firstV_some {n : Nat} {p : Nat → Bool} {a : Nat} (h : firstV n p = some a) : a < 2 ^ n ∧ p a = true ∧ ∀ b, b < a → p b = false := by
  unfold firstV at h
  rw [List.find?_range_eq_some] at h
  refine ⟨List.mem_range.1 h.2.1, h.1, fun b hb => ?_⟩
  have := h.2.2 b hb
  simpa using this
/-- the bits of an assignment -/
def asgBits (n a : Nat) : List Bool := (List.range n).map a.testBit
theorem asgBits_len (n a : Nat) : (asgBits n a).length = n := by simp [asgBits]
theorem asgBits_at (n a : Nat) : (fun i => (asgBits n a).getD i false) = asg n a := by
  funext i
  unfold asgBits asg
  rw [List.getD_eq_getElem?_getD, List.getElem?_map]
  by_cases hi : i < n
  · rw [List.getElem?_range hi, decide_eq_true hi, Bool.true_and]; rfl
  · rw [List.getElem?_eq_none (by simp; omega), decide_eq_false hi, Bool.false_and]; rfl
/-- what First and Parts return -/
def firstR (n : Nat) (p : Nat → Bool) : List Bool × Bool := match firstV n p with
  | none => ([], false)
  | some a => (asgBits n a, true)
end Go.Aig
namespace Go.Proofs.YtnmfdiiehkkjcaaGreat
open Go.RowKit Go.Mem Go.Aig
theorem bits_and_i64_nat (a b : Nat) (ha : a < 9223372036854775808) (hb : b < 9223372036854775808) : bits .and .i64 (a : Int) (b : Int) = ((a &&& b : Nat) : Int) := by
  have hx : a &&& b ≤ a := Nat.and_le_left
  have h1 : (BitVec.ofInt 64 (a : Int)).toNat = a := by
    rw [BitVec.ofInt_natCast, BitVec.toNat_ofNat]; exact Nat.mod_eq_of_lt (by omega)
  have h2 : (BitVec.ofInt 64 (b : Int)).toNat = b := by
    rw [BitVec.ofInt_natCast, BitVec.toNat_ofNat]; exact Nat.mod_eq_of_lt (by omega)
  show IntKind.i64.wrap ((BitVec.ofInt 64 (a : Int) &&& BitVec.ofInt 64 (b : Int)).toNat : Int) = _
  rw [BitVec.toNat_and, h1, h2, IntKind.wrap_i64]
  omega
/-- a bit, as the code asks for it -/
theorem bit_i64 (x d : Nat) (hx : x < 9223372036854775808) : (bits .and .i64 ((x : Int) / 2 ^ d) 1 == 1) = decide (x / 2 ^ d % 2 = 1) := by
  have h1 : x / 2 ^ d < 9223372036854775808 := Nat.lt_of_le_of_lt (Nat.div_le_self _ _) hx
  have h2 := bits_and_i64_nat (x / 2 ^ d) 1 h1 (by omega)
  have h3 : ((x / 2 ^ d : Nat) : Int) = (x : Int) / 2 ^ d := by rw [Int.natCast_ediv]; simp
  rw [Nat.and_one_is_mod, h3] at h2
  rw [show (1 : Int) = ((1 : Nat) : Int) from rfl, h2]
  rcases Nat.mod_two_eq_zero_or_one (x / 2 ^ d) with h | h <;> rw [h] <;> rfl
theorem bit_u64 (x d : Nat) (hx : x < 18446744073709551616) : (bits .and .u64 ((x : Int) / 2 ^ d) 1 == 1) = x.testBit d := by
  have h1 : x / 2 ^ d < 18446744073709551616 := Nat.lt_of_le_of_lt (Nat.div_le_self _ _) hx
  have h2 := bits_and_u64_nat (x / 2 ^ d) 1 h1 (by omega)
  have h3 : ((x / 2 ^ d : Nat) : Int) = (x : Int) / 2 ^ d := by rw [Int.natCast_ediv]; simp
  rw [Nat.and_one_is_mod, h3] at h2
  rw [show (1 : Int) = ((1 : Nat) : Int) from rfl, h2, Nat.testBit_eq_decide_div_mod_eq]
  rcases Nat.mod_two_eq_zero_or_one (x / 2 ^ d) with h | h <;> rw [h] <;> rfl
theorem inW_snoc (n block k : Nat) (hk : k < n) : (inW n block).take (k + 1) = (inW n block).take k ++ [if k < 6 then lowW.getD k 0 else if block / 2 ^ (k - 6) % 2 = 1 then M64 else 0] := by
  rw [List.take_add_one]
  congr 1
  unfold inW
  rw [List.getElem?_map, List.getElem?_range hk]
  rfl
theorem u64s_snoc (l : List Nat) (v : Nat) : u64s (l ++ [v]) = u64s l ++ [.int .u64 v] := by simp [u64s]
theorem inW_lt (n block : Nat) : ∀ v ∈ inW n block, v < 2 ^ 64 := fun v hv => by
  unfold inW at hv
  obtain ⟨i, _, rfl⟩ := List.mem_map.1 hv
  split
  · rename_i h
    have : ∀ i, i < 6 → lowW.getD i 0 < 2 ^ 64 := by decide +kernel
    exact this i h
  · split
    · unfold M64; omega
    · omega
theorem low_get : ∀ i, i < 6 → (u64s lowW)[i]? = some (.int .u64 (lowW.getD i 0 : Nat)) := by
  intro i hi
  apply u64s_get
  rw [List.getD_eq_getElem?_getD]
  have : i < lowW.length := hi
  rw [List.getElem?_eq_getElem this]
  rfl
section
variable {w : World}
end
end Go.Proofs.YtnmfdiiehkkjcaaGreat
namespace Go.Ord
open Go
section
variable {ops : Array Oper} {ks : List Kd} {A : List Nat} {C : World → Prop} {Q : Act → World → Prop} {P : Program} {Q' : Exit → Act → World → Prop} {n : Nat}
theorem wide0 {o : Oper} {a : Act} {w : World} {K : Act → World → Prop} {Q : Exit → Act → World → Prop} (h : o.wp P a w K Q) : o.wpIn Fence.wide n P a w K Q := by
  refine ⟨fun f _ => trivial, ?_⟩
  rw [show o.semAt Fence.wide.round a.eval = execOp a.eval o from rfl]
  unfold Oper.wp at h
  cases hr : (execOp a.eval o).run P w with
  | ok x w' =>
    rw [hr] at h
    cases x with
    | enter f args => exact ⟨(fun hd => by cases hd), (callsIn_wide (n := n - 1)).2 h⟩
    | row row args => exact ⟨(fun hd => by cases hd), fun c cs _ => let ⟨v, w1, r, s⟩ := h c cs; ⟨v, w1, r, (stepsIn_wide (P := P)).2 s⟩⟩
    | round => exact h.elim
    | _ => exact h
  | halt x w' =>
    rw [hr] at h
    cases x <;> exact h
/-- the same way on, with other normal ways out -/
theorem onlyK {o : Oper} {a : Act} {w : World} {J K' : Act → World → Prop} {Q Q2 : Act → World → Prop} (hk : ∀ a w, J a w → K' a w) (h : o.wpIn Fence.wide n P a w J (only Q)) : o.wpIn Fence.wide n P a w K' (only Q2) := by
  refine ⟨h.1, ?_⟩
  have h := h.2
  generalize (o.semAt Fence.wide.round a.eval).run P w = r at *
  cases r with
  | ok x w' =>
    cases x <;> simp only [Oper.uponIn] at h ⊢
    case value u => exact hk _ _ h
    case skip => exact hk _ _ h
    case defer d => exact hk _ _ h
    case enter f args =>
      refine ⟨h.1, CallsIn.mono h.2 fun e w'' he => ?_⟩
      cases e with
      | returned u => exact hk _ _ he
      | panicked c => cases he.1
      | outgrown => exact (only_lets Q he).elim
    case row row args => exact ⟨h.1, fun c cs hr => let ⟨u, w1, r, s⟩ := h.2 c cs hr; ⟨u, w1, hk _ _ r, s⟩⟩
    case round l f tmps assign body =>
      refine ⟨h.1, RoundIn.mono h.2 fun e w'' he => ?_⟩
      cases e with
      | returned u => exact hk _ _ he
      | panicked c => cases he.1
      | outgrown => exact (only_lets Q he).elim
  | halt x w' =>
    cases x <;> simp only [Oper.uponIn] at h ⊢
    case panic u => cases h.1
theorem lawsI (hs : Stat ops ks A) (Q : Act → World → Prop) : Laws ops (wpOpIn Fence.wide n P ops (only Q)) (yieldsP P ops) where
  mono h hh := wpOpIn_mono h hh
  out := by
    rintro i o v a w K ho ⟨o', ho', hy⟩ h
    rw [ho] at ho'; cases ho'
    unfold wpOpIn
    simp only [ho]
    rcases hy with ⟨hw, hv⟩ | ⟨hw, rfl⟩
    · rw [if_pos hw]; exact wide0 (hv.wp h)
    · rw [if_neg (by simp [hw])]; exact ⟨fun _ _ => trivial, h⟩
  comm := by
    intro i j oi oj v a w K hi hj hap h
    obtain ⟨h1, h2, h3⟩ := Oper.apart_spec hap
    have hsi := fun cs b => hs.sel i oi cs b hi
    have hsj := fun cs b => hs.sel j oj cs b hj
    have keep : ∀ (a' : Act) (u : Value), execOp a'.eval oi = execOp a.eval oi → Region.wanted oi (yielded ops a'.tmps) = Region.wanted oi (yielded ops a.tmps) →
        ∀ x w0, yieldsP P ops i x a w0 → yieldsP P ops i x (a'.put oj.dst u) w0 := by
      rintro a' u e1 e2 x w0 ⟨o, ho, hy⟩
      rw [hi] at ho; cases ho
      refine ⟨oi, hi, ?_⟩
      rw [wanted_put oi a' oj.dst u h3, e2]
      unfold RunsTo at *
      rw [execOp_put oi hsi a' oj.dst u h3, e1]
      exact hy
    unfold wpOpIn at *
    simp only [hj] at *
    rw [wanted_put oj a oi.dst v h1] at h
    split
    · rename_i hw
      rw [if_pos hw] at h
      obtain ⟨_, h⟩ := h
      refine ⟨fun f _ => trivial, ?_⟩
      rw [show ∀ ρ, oj.semAt Fence.wide.round ρ = execOp ρ oj from fun _ => rfl] at h ⊢
      rw [execOp_put oj hsj a oi.dst v h1] at h
      generalize (execOp a.eval oj).run P w = r at *
      cases r with
      | ok x w' =>
        cases x <;> simp only [Oper.uponIn] at h ⊢
        case value u => exact ⟨keep a u rfl rfl, by rw [← Act.put_comm a v u h2]; exact h⟩
        case skip => exact ⟨keep a _ rfl rfl, by rw [← Act.put_comm a v undef h2]; exact h⟩
        case defer d =>
          refine ⟨keep { a with defers := d :: a.defers } _ rfl rfl, ?_⟩
          rw [← Act.put_comm _ v undef h2, ← Act.put_defers]
          exact h
        case enter f args =>
          refine ⟨h.1, CallsIn.mono h.2 fun e w'' he => ?_⟩
          cases e with
          | returned u => exact ⟨keep a u rfl rfl, by rw [← Act.put_comm a v u h2]; exact he⟩
          | panicked c => cases he.1
          | outgrown => exact (only_lets Q he).elim
        case row row args => exact ⟨h.1, fun c cs hr => let ⟨u, w1, r, s⟩ := h.2 c cs hr; ⟨u, w1, ⟨keep a u rfl rfl, by rw [← Act.put_comm a v u h2]; exact r⟩, s⟩⟩
        case round l f tmps assign body =>
          refine ⟨h.1, RoundIn.mono h.2 fun e w'' he => ?_⟩
          cases e with
          | returned u => exact ⟨keep a u rfl rfl, by rw [← Act.put_comm a v u h2]; exact he⟩
          | panicked c => cases he.1
          | outgrown => exact (only_lets Q he).elim
      | halt x w' =>
        cases x <;> simp only [Oper.uponIn] at h ⊢
        case panic u => cases h.1
    · rename_i hw
      rw [if_neg hw] at h
      exact ⟨fun _ _ => trivial, keep a _ rfl rfl, by rw [← Act.put_comm a v undef h2]; exact h.2⟩
theorem wpAnyIn_of_all (hs : Stat ops ks A) (Q : Act → World → Prop) : ∀ (m : Nat) (R : List Nat) (listed : Array Bool) (a : Act) (w : World), R.Nodup → (∀ k ∈ R, k < ops.size) → R.length = m → listed.size = ops.size → Fits ops listed R →
    allOrd ops (wpOpIn Fence.wide n P ops (only Q)) ks A C Q m R a w → wpAnyIn Fence.wide n P .any ops (only Q) m listed a w := by
  intro m
  induction m with
  | zero =>
    intro R listed a w hn hlt hlen hsz hf h
    have hR : R = [] := List.eq_nil_of_length_eq_zero hlen
    refine ⟨?_, rfl, h⟩
    cases hr : Region.ready .any ops listed with
    | nil => rfl
    | cons x xs =>
      have := (hf.mem hs (i := x) (by rw [hr]; simp)).1
      rw [hR] at this; cases this
  | succ m ih =>
    intro R listed a w hn hlt hlen hsz hf h
    refine ⟨fun h0 => (hf.nonempty hs hlt (by intro e; rw [e] at hlen; cases hlen) h0).elim, fun i hi => ?_⟩
    obtain ⟨hiR, hri⟩ := hf.mem hs hi
    refine wpOpIn_mono (fun a' w' h3 => ?_) (h i hiR hri)
    exact ih (R.erase i) _ a' w' (hn.erase _) (fun k hk => hlt k (List.mem_of_mem_erase hk)) (by rw [List.length_erase_of_mem hiR]; omega) (by simpa using hsz) (hf.set hn hsz) h3.2

/-- **The door, behind the widest fence.** -/
theorem regionI {id : Nat} {a : Act} {w : World} {l : List Oper} (C : World → Prop) (ks : List Kd) (A : List Nat) (hm : P.follows .mixedOrders = true) (hs : stat l.toArray ks A = true)
    (h : allOrd l.toArray (wpOpIn Fence.wide n P l.toArray (only (Q' .normal))) ks A C (Q' .normal) l.length (List.range l.length) a w.drew) : (Code.region id l.toArray true).wpIn Fence.wide n P Q' a w := by
  refine wpIn_mono (Q := only (Q' .normal)) ?_ (fun e a w ⟨he, hq⟩ => he ▸ hq)
  refine wpIn_region_any hm ?_
  have := wpAnyIn_of_all (P := P) (C := C) (stat_spec hs) (Q' .normal) l.length (List.range l.length) (Array.replicate l.length false) a w.drew List.nodup_range (by simp) (by simp) (by simp)
    (fun k hk => by simp at hk; simp [hk]) h
  simpa using this

/-! ### The steps -/
section steps
variable {l : List Oper}
/-- what is left, with all that the walk never asks of it again -/
def StI (n : Nat) (P : Program) (l : List Oper) (ks : List Kd) (A : List Nat) (C : World → Prop) (Q : Act → World → Prop) (R : List Nat) (a : Act) (w : World) : Prop :=
  R.Nodup → Up l.toArray R → (∀ k ∈ R, k < l.toArray.size) → Stat l.toArray ks A → allOrd l.toArray (wpOpIn Fence.wide n P l.toArray (only Q)) ks A C Q R.length R a w

theorem StI.door {id : Nat} {a : Act} {w : World} (C : World → Prop) (ks : List Kd) (A : List Nat) (R : List Nat) (hm : P.follows .mixedOrders = true) (hs : stat l.toArray ks A = true) (hR : List.range l.length = R)
    (h : StI n P l ks A C (Q' .normal) R a w.drew) : (Code.region id l.toArray true).wpIn Fence.wide n P Q' a w := by
  refine regionI C ks A hm hs ?_
  subst hR
  have := h List.nodup_range (fun k o e hk _ _ _ => List.mem_range.2 (by have := lt_size hk; simpa using this)) (by simp) (stat_spec hs)
  simpa using this

theorem StI.nil {a : Act} {w : World} (h : Q a w) : StI n P l ks A C Q [] a w := fun _ _ _ _ => h

theorem StI.take {R R' : List Nat} {a : Act} {w : World} {v : Value} (i : Nat) (o : Oper) (hi : l.toArray[i]? = some o) (hiR : R.contains i = true) (hr : readyIn l.toArray R i = true) (hR : R.erase i = R')
    (ht : Takes (yieldsP P l.toArray) C (kd ks i) i v a w) (h : StI n P l ks A C Q R' (a.put o.dst v) w) : StI n P l ks A C Q R a w := by
  intro hn hu hlt hs
  have hm : i ∈ R := by simpa using hiR
  have hlen : R.length = R.length - 1 + 1 := by have := List.length_pos_of_mem hm; omega
  rw [hlen]
  refine Go.Ord.take (lawsI hs Q) hs hi (R.length - 1) R a w hn hu hlt hlen hm hr ht ?_
  subst hR
  have := h (hn.erase _) (hu.erase hn hr) (fun k hk => hlt k (List.mem_of_mem_erase hk)) hs
  rwa [List.length_erase_of_mem hm] at this

/-- passed over: the guard says no -/
theorem StI.skip {R : List Nat} {a : Act} {w : World} (i : Nat) (R' : List Nat) (o : Oper) (hil : l[i]? = some o) (hchk : chk l.toArray ks R R' i .fl = true)
    (hg : Region.wanted o (yielded l.toArray a.tmps) = false) (h : ∀ K : Act → Prop, (∀ a, StI n P l ks A C Q R' a w → K a) → K (a.put o.dst undef)) : StI n P l ks A C Q R a w :=
  have hi : l.toArray[i]? = some o := by simpa using hil
  have ⟨hiR, hr, hR, hk⟩ := chk_spec hchk
  .take i o hi hiR hr hR (by rw [hk]; exact fun _ => ⟨o, hi, .inr ⟨hg, rfl⟩⟩) (h _ fun _ h => h)

theorem StI.fl {R : List Nat} {a : Act} {w : World} {v : Value} (i : Nat) (R' : List Nat) (o : Oper) (hil : l[i]? = some o) (hchk : chk l.toArray ks R R' i .fl = true)
    (hg : Region.wanted o (yielded l.toArray a.tmps) = true) (hv : ∀ w', (execOp a.eval o).run P w' = .ok (.value v) w') (h : ∀ K : Act → Prop, (∀ a, StI n P l ks A C Q R' a w → K a) → K (a.put o.dst v)) : StI n P l ks A C Q R a w :=
  have hi : l.toArray[i]? = some o := by simpa using hil
  have ⟨hiR, hr, hR, hk⟩ := chk_spec hchk
  .take i o hi hiR hr hR (by rw [hk]; exact fun w' => ⟨o, hi, .inl ⟨hg, by unfold RunsTo; rw [hv w']; exact ⟨rfl, rfl⟩⟩⟩) (h _ fun _ h => h)

theorem StI.ho {R : List Nat} {a : Act} {w : World} {v : Value} (i : Nat) (R' : List Nat) (o : Oper) (hil : l[i]? = some o) (hchk : chk l.toArray ks R R' i .ho = true)
    (hg : Region.wanted o (yielded l.toArray a.tmps) = true) (hC : C w) (hv : ∀ w', C w' → (execOp a.eval o).run P w' = .ok (.value v) w') (h : ∀ K : Act → Prop, (∀ a, StI n P l ks A C Q R' a w → K a) → K (a.put o.dst v)) : StI n P l ks A C Q R a w :=
  have hi : l.toArray[i]? = some o := by simpa using hil
  have ⟨hiR, hr, hR, hk⟩ := chk_spec hchk
  .take i o hi hiR hr hR (by rw [hk]; exact ⟨hC, fun w' hw' => ⟨o, hi, .inl ⟨hg, by unfold RunsTo; rw [hv w' hw']; exact ⟨rfl, rfl⟩⟩⟩⟩) (h _ fun _ h => h)

theorem StI.rd {R : List Nat} {a : Act} {w : World} (i : Nat) (R' : List Nat) (o : Oper) (hil : l[i]? = some o) (hchk : chk l.toArray ks R R' i .rd = true)
    (hg : Region.wanted o (yielded l.toArray a.tmps) = true) (h : ∀ K : Act → Prop, (∀ a, StI n P l ks A C Q R' a w → K a) → o.still P a w K) : StI n P l ks A C Q R a w := by
  have hi : l.toArray[i]? = some o := by simpa using hil
  have ⟨hiR, hr, hR, hk⟩ := chk_spec hchk
  have h1 := h _ (fun _ hh => hh)
  have key : ∃ v, RunsTo P o a w v ∧ StI n P l ks A C Q R' (a.put o.dst v) w := by
    unfold Oper.still at h1
    unfold RunsTo
    generalize (execOp a.eval o).run P w = r at *
    cases r with
    | ok n w' =>
      cases n <;> simp only [Oper.stillUpon] at h1
      case value u => exact ⟨u, ⟨h1.1, rfl⟩, h1.2⟩
      case skip => exact ⟨undef, ⟨h1.1, rfl⟩, h1.2⟩
      case enter f args => obtain ⟨e, v, hc, h2⟩ := h1; exact ⟨v, by rw [e]; exact hc, h2⟩
    | halt x w' => simp only [Oper.stillUpon] at h1
  obtain ⟨v, hy, hK⟩ := key
  exact .take i o hi hiR hr hR (v := v) (by rw [hk]; exact ⟨o, hi, .inl ⟨hg, hy⟩⟩) hK

/-- the effect that alone may come up: its own walk, as a list of one operation -/
theorem StI.ef {R : List Nat} {a : Act} {w : World} (i : Nat) (R' : List Nat) (o : Oper) (hil : l[i]? = some o) (hchk : chkE l.toArray ks A R R' i = true)
    (h : ∀ K : Act → World → Prop, (∀ a w, StI n P l ks A C Q R' a w → K a w) → wpList P l.toArray (only K) [o] a w) : StI n P l ks A C Q R a w := by
  have hi : l.toArray[i]? = some o := by simpa using hil
  have ⟨hr, hR, hk, hc⟩ := chkE_spec hchk
  intro hn hu hlt hs
  have hm : i ∈ R := (List.mem_filter.1 (hr ▸ List.mem_singleton.2 rfl : i ∈ R.filter (readyIn l.toArray R))).1
  have hri : readyIn l.toArray R i = true := (List.mem_filter.1 (hr ▸ List.mem_singleton.2 rfl : i ∈ R.filter (readyIn l.toArray R))).2
  have hlen : R.length = R.length - 1 + 1 := by have := List.length_pos_of_mem hm; omega
  rw [hlen]
  refine branch hr fun j hj => ?_
  have hji : j = i := List.mem_singleton.1 hj
  subst hji
  have h1 := h (fun a w => StI n P l ks A C Q R' a w) (fun _ _ hh => hh)
  have key : ∀ a' w', (StI n P l ks A C Q R' a' w') → post ks A l.toArray.size C j w w' ∧ allOrd l.toArray (wpOpIn Fence.wide n P l.toArray (only Q)) ks A C Q (R.length - 1) (R.erase j) a' w' := by
    intro a' w' hh
    refine ⟨?_, ?_⟩
    · unfold post; rw [if_pos hk]; intro hh2; rw [hc] at hh2; exact absurd hh2 (by simp)
    subst hR
    have := hh (hn.erase _) (hu.erase hn hri) (fun k hk => hlt k (List.mem_of_mem_erase hk)) hs
    rwa [List.length_erase_of_mem hm] at this
  unfold wpOpIn
  simp only [hi]
  unfold wpList at h1
  split
  · rename_i hw
    rw [if_pos hw] at h1
    have h1 := h1.resolve_right fun hh => only_lets _ hh.2
    exact onlyK (fun a' w' hh => key a' w' hh.2) (wide0 h1)
  · rename_i hw
    rw [if_neg hw] at h1
    exact ⟨fun _ _ => trivial, key _ _ h1.2⟩
theorem StI.efC {R : List Nat} {a : Act} {w : World} (i : Nat) (R' : List Nat) (o : Oper) (hil : l[i]? = some o) (hchk : chkEC l.toArray ks R R' i = true)
    (h : ∀ K : Act → World → Prop, (∀ a w, C w → StI n P l ks A C Q R' a w → K a w) → wpList P l.toArray (only K) [o] a w) : StI n P l ks A C Q R a w := by
  have hi : l.toArray[i]? = some o := by simpa using hil
  have ⟨hr, hR, hk⟩ := chkEC_spec hchk
  intro hn hu hlt hs
  have hm : i ∈ R := (List.mem_filter.1 (hr ▸ List.mem_singleton.2 rfl : i ∈ R.filter (readyIn l.toArray R))).1
  have hri : readyIn l.toArray R i = true := (List.mem_filter.1 (hr ▸ List.mem_singleton.2 rfl : i ∈ R.filter (readyIn l.toArray R))).2
  have hlen : R.length = R.length - 1 + 1 := by have := List.length_pos_of_mem hm; omega
  rw [hlen]
  refine branch hr fun j hj => ?_
  have hji : j = i := List.mem_singleton.1 hj
  subst hji
  have h1 := h (fun a w => C w ∧ StI n P l ks A C Q R' a w) (fun _ _ hc hh => ⟨hc, hh⟩)
  have key : ∀ a' w', (C w' ∧ StI n P l ks A C Q R' a' w') → post ks A l.toArray.size C j w w' ∧ allOrd l.toArray (wpOpIn Fence.wide n P l.toArray (only Q)) ks A C Q (R.length - 1) (R.erase j) a' w' := by
    intro a' w' hh
    refine ⟨?_, ?_⟩
    · unfold post; rw [if_pos hk]; intro _; exact hh.1
    subst hR
    have := hh.2 (hn.erase _) (hu.erase hn hri) (fun k hk => hlt k (List.mem_of_mem_erase hk)) hs
    rwa [List.length_erase_of_mem hm] at this
  unfold wpOpIn
  simp only [hi]
  unfold wpList at h1
  split
  · rename_i hw
    rw [if_pos hw] at h1
    have h1 := h1.resolve_right fun hh => only_lets _ hh.2
    exact onlyK (fun a' w' hh => key a' w' hh.2) (wide0 h1)
  · rename_i hw
    rw [if_neg hw] at h1
    exact ⟨fun _ _ => trivial, key _ _ h1.2⟩
theorem StI.efY {R : List Nat} {a : Act} {w : World} (i : Nat) (R' : List Nat) (o : Oper) (hil : l[i]? = some o) (hchk : chkE l.toArray ks A R R' i = true)
    (h : ∀ K : Act → World → Prop, (∀ a w, StI n P l ks A C Q R' a w → K a w) → wpListIn Fence.wide n P l.toArray (only K) [o] a w) : StI n P l ks A C Q R a w := by
  have hi : l.toArray[i]? = some o := by simpa using hil
  have ⟨hr, hR, hk, hc⟩ := chkE_spec hchk
  intro hn hu hlt hs
  have hm : i ∈ R := (List.mem_filter.1 (hr ▸ List.mem_singleton.2 rfl : i ∈ R.filter (readyIn l.toArray R))).1
  have hri : readyIn l.toArray R i = true := (List.mem_filter.1 (hr ▸ List.mem_singleton.2 rfl : i ∈ R.filter (readyIn l.toArray R))).2
  have hlen : R.length = R.length - 1 + 1 := by have := List.length_pos_of_mem hm; omega
  rw [hlen]
  refine branch hr fun j hj => ?_
  have hji : j = i := List.mem_singleton.1 hj
  subst hji
  have h1 := h (fun a w => StI n P l ks A C Q R' a w) (fun _ _ hh => hh)
  have key : ∀ a' w', (StI n P l ks A C Q R' a' w') → post ks A l.toArray.size C j w w' ∧ allOrd l.toArray (wpOpIn Fence.wide n P l.toArray (only Q)) ks A C Q (R.length - 1) (R.erase j) a' w' := by
    intro a' w' hh
    refine ⟨?_, ?_⟩
    · unfold post; rw [if_pos hk]; intro hh2; rw [hc] at hh2; exact absurd hh2 (by simp)
    subst hR
    have := hh (hn.erase _) (hu.erase hn hri) (fun k hk => hlt k (List.mem_of_mem_erase hk)) hs
    rwa [List.length_erase_of_mem hm] at this
  unfold wpOpIn
  simp only [hi]
  unfold wpListIn at h1
  split
  · rename_i hw
    rw [if_pos hw] at h1
    exact onlyK (fun a' w' hh => key a' w' hh.2) h1
  · rename_i hw
    rw [if_neg hw] at h1
    exact ⟨h1.1, key _ _ h1.2.2⟩
theorem StI.efYC {R : List Nat} {a : Act} {w : World} (i : Nat) (R' : List Nat) (o : Oper) (hil : l[i]? = some o) (hchk : chkEC l.toArray ks R R' i = true)
    (h : ∀ K : Act → World → Prop, (∀ a w, C w → StI n P l ks A C Q R' a w → K a w) → wpListIn Fence.wide n P l.toArray (only K) [o] a w) : StI n P l ks A C Q R a w := by
  have hi : l.toArray[i]? = some o := by simpa using hil
  have ⟨hr, hR, hk⟩ := chkEC_spec hchk
  intro hn hu hlt hs
  have hm : i ∈ R := (List.mem_filter.1 (hr ▸ List.mem_singleton.2 rfl : i ∈ R.filter (readyIn l.toArray R))).1
  have hri : readyIn l.toArray R i = true := (List.mem_filter.1 (hr ▸ List.mem_singleton.2 rfl : i ∈ R.filter (readyIn l.toArray R))).2
  have hlen : R.length = R.length - 1 + 1 := by have := List.length_pos_of_mem hm; omega
  rw [hlen]
  refine branch hr fun j hj => ?_
  have hji : j = i := List.mem_singleton.1 hj
  subst hji
  have h1 := h (fun a w => C w ∧ StI n P l ks A C Q R' a w) (fun _ _ hc hh => ⟨hc, hh⟩)
  have key : ∀ a' w', (C w' ∧ StI n P l ks A C Q R' a' w') → post ks A l.toArray.size C j w w' ∧ allOrd l.toArray (wpOpIn Fence.wide n P l.toArray (only Q)) ks A C Q (R.length - 1) (R.erase j) a' w' := by
    intro a' w' hh
    refine ⟨?_, ?_⟩
    · unfold post; rw [if_pos hk]; intro _; exact hh.1
    subst hR
    have := hh.2 (hn.erase _) (hu.erase hn hri) (fun k hk => hlt k (List.mem_of_mem_erase hk)) hs
    rwa [List.length_erase_of_mem hm] at this
  unfold wpOpIn
  simp only [hi]
  unfold wpListIn at h1
  split
  · rename_i hw
    rw [if_pos hw] at h1
    exact onlyK (fun a' w' hh => key a' w' hh.2) h1
  · rename_i hw
    rw [if_neg hw] at h1
    exact ⟨h1.1, key _ _ h1.2.2⟩
/-- all that the kernel looks at, with the slot that is written -/
theorem StI.fl2 {R : List Nat} {a : Act} {T' : Array Value} {w : World} (i : Nat) (R' : List Nat) (o : Oper) (d : Nat) (hil : l[i]? = some o) (hchk : chk l.toArray ks R R' i .fl = true) (hg : Region.wanted o (yielded l.toArray a.tmps) = true)
    (hd : o.dst = some d) (hlt : Nat.blt d a.tmps.size = true) (hl : a.defers.length = a.defers.length) (hv : ∀ (K : Act → World → Prop) (w' : World), K ⟨T', a.defers⟩ w' → o.wp P a w' K noExit) (h : StI n P l ks A C Q R' ⟨T', a.defers⟩ w) : StI n P l ks A C Q R a w := by
  have hi : l.toArray[i]? = some o := by simpa using hil
  have ⟨hiR, hr, hR, hk⟩ := chk_spec hchk
  have hput := (runsTo_of_wp (a' := ⟨T', a.defers⟩) hd hlt rfl hl (fun K hK => hv K w hK)).2
  exact .take i o hi hiR hr hR (v := T'.getD d undef) (by rw [hk]; exact fun w' => ⟨o, hi, .inl ⟨hg, (runsTo_of_wp (a' := ⟨T', a.defers⟩) hd hlt rfl hl (fun K hK => hv K w' hK)).1⟩⟩) (by rw [← hput]; exact h)

theorem StI.ho2 {R : List Nat} {a : Act} {T' : Array Value} {w : World} (i : Nat) (R' : List Nat) (o : Oper) (d : Nat) (hil : l[i]? = some o) (hchk : chk l.toArray ks R R' i .ho = true) (hg : Region.wanted o (yielded l.toArray a.tmps) = true)
    (hd : o.dst = some d) (hlt : Nat.blt d a.tmps.size = true) (hl : a.defers.length = a.defers.length) (hC : C w) (hv : ∀ (K : Act → World → Prop) (w' : World), C w' → K ⟨T', a.defers⟩ w' → o.wp P a w' K noExit) (h : StI n P l ks A C Q R' ⟨T', a.defers⟩ w) : StI n P l ks A C Q R a w := by
  have hi : l.toArray[i]? = some o := by simpa using hil
  have ⟨hiR, hr, hR, hk⟩ := chk_spec hchk
  have hput := (runsTo_of_wp (a' := ⟨T', a.defers⟩) hd hlt rfl hl (fun K hK => hv K w hC hK)).2
  exact .take i o hi hiR hr hR (v := T'.getD d undef) (by rw [hk]; exact ⟨hC, fun w' hw' => ⟨o, hi, .inl ⟨hg, (runsTo_of_wp (a' := ⟨T', a.defers⟩) hd hlt rfl hl (fun K hK => hv K w' hw' hK)).1⟩⟩⟩) (by rw [← hput]; exact h)

theorem StI.rd2 {R : List Nat} {a : Act} {T' : Array Value} {w : World} (i : Nat) (R' : List Nat) (o : Oper) (d : Nat) (hil : l[i]? = some o) (hchk : chk l.toArray ks R R' i .rd = true) (hg : Region.wanted o (yielded l.toArray a.tmps) = true)
    (hd : o.dst = some d) (hlt : Nat.blt d a.tmps.size = true) (hl : a.defers.length = a.defers.length) (hv : ∀ K : Act → World → Prop, K ⟨T', a.defers⟩ w → o.wp P a w K noExit) (h : StI n P l ks A C Q R' ⟨T', a.defers⟩ w) : StI n P l ks A C Q R a w := by
  have hi : l.toArray[i]? = some o := by simpa using hil
  have ⟨hiR, hr, hR, hk⟩ := chk_spec hchk
  have ⟨hrun, hput⟩ := runsTo_of_wp (a' := ⟨T', a.defers⟩) hd hlt rfl hl hv
  exact .take i o hi hiR hr hR (v := T'.getD d undef) (by rw [hk]; exact ⟨o, hi, .inl ⟨hg, hrun⟩⟩) (by rw [← hput]; exact h)

/-- 'move' and 'assign' hand a slot's value on -/
theorem StI.mv {R : List Nat} {a a' : Act} {w : World} (i : Nat) (R' : List Nat) (o : Oper) (x : Operand) (hil : l[i]? = some o) (hchk : chk l.toArray ks R R' i .fl = true) (hg : Region.wanted o (yielded l.toArray a.tmps) = true)
    (hop : o.op = .move x ∨ o.op = .assign x) (hp : a.put o.dst (a.eval x) = a') (h : StI n P l ks A C Q R' a' w) : StI n P l ks A C Q R a w := by
  have hi : l.toArray[i]? = some o := by simpa using hil
  have ⟨hiR, hr, hR, hk⟩ := chk_spec hchk
  have hrun : ∀ w', RunsTo P o a w' (a.eval x) := by
    intro w'
    unfold RunsTo execOp
    rcases hop with e | e <;> rw [e] <;> exact ⟨rfl, rfl⟩
  exact .take i o hi hiR hr hR (v := a.eval x) (by rw [hk]; exact fun w' => ⟨o, hi, .inl ⟨hg, hrun w'⟩⟩) (by rw [hp]; exact h)

/-- passed over: the guard of a reading operation says no -/
theorem StI.skipr {R : List Nat} {a : Act} {w : World} (i : Nat) (R' : List Nat) (o : Oper) (hil : l[i]? = some o) (hchk : chk l.toArray ks R R' i .rd = true)
    (hg : Region.wanted o (yielded l.toArray a.tmps) = false) (h : ∀ K : Act → Prop, (∀ a, StI n P l ks A C Q R' a w → K a) → K (a.put o.dst undef)) : StI n P l ks A C Q R a w := by
  have hi : l.toArray[i]? = some o := by simpa using hil
  have ⟨hiR, hr, hR, hk⟩ := chk_spec hchk
  exact .take i o hi hiR hr hR (by rw [hk]; exact ⟨o, hi, .inr ⟨hg, rfl⟩⟩) (h _ fun _ h => h)
end steps
end
end Go.Ord
namespace Go.Proofs.YtnmfdiiehkkjcaaGreat
open Go.RowKit Go.Mem Go.Aig
theorem row.capLe' {w : World} {e : TypeId} {size : Nat} {a : Option Addr} {n c m : Nat} {xs : List Value} (h : row w e size (.slice a n c) m xs) : m ≤ c ∧ c ≤ 9223372036854775807 := by
  rcases h.2 with ⟨e1, h0⟩ | ⟨g', cap', cur, e1, _, _, h1, h2, _⟩
  · cases e1; omega
  · cases e1; exact ⟨h1, by unfold maxLen at h2; exact h2⟩
/-- what Bits returns -/
def bitsR (G : Gra) (ins : List Bool) (l : List Int) : List Bool × Nat := if badIn G l then ([], 200) else if ins.length ≠ (inputs G.nodes).length then ([], 210) else (bsOf ins G.nodes (nats l), 0)
theorem wOf_len (l : List Bool) : (wOf l).length = l.length := by simp [wOf]
theorem bitsR_words (G : Gra) (ins : List Bool) (l : List Int) : bitsR G ins l = ((wordsR G (wOf ins) l).1.map (fun v => v.testBit 0), (wordsR G (wOf ins) l).2) := by
  unfold bitsR wordsR
  rw [wOf_len]
  split
  · rfl
  · split
    · rfl
    · rw [wsOf_bits]
/-- a new slice of truths -/
def BNew (w : World) (v : Value) (l : List Bool) (w' : World) : Prop := row w' 4 1 v l.length (bools l) ∧ (∀ q ∈ v.ownBlock.toList, w.heap.size ≤ q) ∧ Ch [] w w'
section
variable {w : World} {g : Nat} {G : Gra} {F : List Nat}
set_option maxRecDepth 100000 in
set_option maxHeartbeats 8000000 in
theorem simBits_is (h : GIn w g G F) {xa : Option Addr} {ins : List Bool} (n xc : Nat) (hn : ins.length = n) (hS : Sb w xa ins) (hnl : n ≤ 100000) {a : Option Addr} {l : List Int} (m c : Nat) (hm : l.length = m) (hL : Sl w a l) (hbd : ∀ r ∈ l, -9223372036854775808 ≤ r ∧ r ≤ 9223372036854775807) (hll : m ≤ 100000) :
    Calls Tryz.prog 32 #[.pointer (some ⟨g, 0, none⟩), .slice xa n xc, .slice a m c] w fun e w' => ∃ v, e = .returned (.tuple #[v, .int .i64 (bitsR G ins l).2]) ∧ BNew w v (bitsR G ins l).1 w' := by
  subst hn hm
  have hW := fun (W : World) (hW : Ch [] w W) (wa : Option Addr) (wc : Nat) (hwa : row W 104 1 (.slice wa ins.length wc) ins.length (u64s (wOf ins))) => simWords_is (h.same hW (by simp)) (ins := wOf ins) (xa := wa) wc (row.sv hwa rfl (by omega)) (wOf_lt ins) (by rw [wOf_len]; exact (row.capLe' hwa).1) (row.capLe' hwa).2 c (hL.ch hW (by simp)) hbd hll
  simp only [wOf_len] at hW
  rw [bitsR_words]
  have hwl : (wordsR G (wOf ins) l).1.length ≤ l.length := by
    unfold wordsR
    split
    · simp
    · split
      · simp
      · simp [wsOf]
  have hwb : ∀ v ∈ (wordsR G (wOf ins) l).1, v < 2 ^ 64 := by
    unfold wordsR
    split
    · simp
    · split
      · simp
      · exact wsOf_lt (wOf_lt ins) _ _
  generalize wordsR G (wOf ins) l = R at *
  obtain ⟨ws, e0⟩ := R
  simp only at hwl hwb hW ⊢
  have HW := Lib.hid hW; clear hW
  have HS := Lib.hid hS; clear hS h hL hbd
  have HWB := Lib.hid hwb; clear hwb
  go_enter Tryz.func32, Tryz.ntmps32
  go_wp2_with fail
  go_loopw [8, 19] (fun o i wr => ∃ k : Nat, k ≤ ins.length ∧ i = .int .i64 k ∧ Ch [] w wr ∧ row wr 104 1 o k (u64s (wOf (ins.take k))) ∧ ∀ q ∈ o.ownBlock.toList, w.heap.size ≤ q) (fun _ i _ => ins.length - (intOf i).toNat)
  case atStart => exact ⟨0, by omega, rfl, Ch.refl _ _, ⟨rfl, .inl ⟨rfl, rfl⟩⟩, by simp⟩
  case round =>
    obtain ⟨k, hk, rfl, hc, hrow, hlo⟩ := hrel
    obtain ⟨oa, oc, rfl⟩ := row.shape hrow
    by_cases hlt : k < ins.length
    · obtain ⟨x, hx⟩ : ∃ x, ins[k]? = some x := ⟨_, List.getElem?_eq_getElem hlt⟩
      obtain ⟨xb, xo, rfl, hcl⟩ := HS.out.cells k (.bool x) (by simp [hx])
      have c0 := (hc.cell (cell_lt hcl) (by simp)).trans hcl
      cases x
      · have hsu : u64s (wOf (ins.take (k + 1))) = u64s (wOf (ins.take k)) ++ [.int .u64 0] := by rw [List.take_add_one, hx]; simp [u64s, wOf]
        have hcA : Ch [] wr (wr.alloc (.cells #[.int .u64 0] 104)) := (Ch.refl _ _).alloc _
        have hrA := hrow.ch hcA (by simp)
        have hbA : blk (wr.alloc (.cells #[.int .u64 0] 104)) wr.heap.size [.int .u64 0] := blk.new' _ _ rfl
        have HSU := Lib.hid hsu; clear hsu
        have HRA := Lib.hid hrA; clear hrA hrow
        have HBA := Lib.hid hbA; clear hbA
        have HCA := Lib.hid hcA; clear hcA
        have HCP := Lib.hid hc; clear hc
        have HLO := Lib.hid hlo; clear hlo hcl hx
        go_wp2_with (at_builtin; go_loud (refine wpList_append_row slU64s rfl _ _ rfl (v := .slice oa k oc) (n := k) (xs := u64s (wOf (ins.take k))) rfl HRA.out (ad := ⟨wr.heap.size, 0, none⟩) (m := 1) (c := 1) (news := [.int .u64 0]) rfl rfl (news_blk HBA.out) (by simp [Value.oneCell']) (by omega) (by omega) ?_; intro v' w5 hown4 hC4 hf4; have HO4 := Lib.hid hown4; clear hown4; have HCC4 := Lib.hid hC4; clear hC4; have HF4 := Lib.hid hf4; clear hf4))
        go_roundw
        case rel =>
          obtain ⟨q1, q2⟩ := app_step HCP.out HCA.out HLO.out HCC4.out HF4.out
          refine ⟨k + 1, by omega, by go_num, q1, ?_, q2⟩
          rw [HSU.out]; exact HO4.out
        case measure => simp [intOf]; omega
      · have hsu : u64s (wOf (ins.take (k + 1))) = u64s (wOf (ins.take k)) ++ [.int .u64 1] := by rw [List.take_add_one, hx]; simp [u64s, wOf]
        have hcA : Ch [] wr (wr.alloc (.cells #[.int .u64 1] 104)) := (Ch.refl _ _).alloc _
        have hrA := hrow.ch hcA (by simp)
        have hbA : blk (wr.alloc (.cells #[.int .u64 1] 104)) wr.heap.size [.int .u64 1] := blk.new' _ _ rfl
        have HSU := Lib.hid hsu; clear hsu
        have HRA := Lib.hid hrA; clear hrA hrow
        have HBA := Lib.hid hbA; clear hbA
        have HCA := Lib.hid hcA; clear hcA
        have HCP := Lib.hid hc; clear hc
        have HLO := Lib.hid hlo; clear hlo hcl hx
        go_wp2_with (at_builtin; go_loud (refine wpList_append_row slU64s rfl _ _ rfl (v := .slice oa k oc) (n := k) (xs := u64s (wOf (ins.take k))) rfl HRA.out (ad := ⟨wr.heap.size, 0, none⟩) (m := 1) (c := 1) (news := [.int .u64 1]) rfl rfl (news_blk HBA.out) (by simp [Value.oneCell']) (by omega) (by omega) ?_; intro v' w5 hown4 hC4 hf4; have HO4 := Lib.hid hown4; clear hown4; have HCC4 := Lib.hid hC4; clear hC4; have HF4 := Lib.hid hf4; clear hf4))
        go_roundw
        case rel =>
          obtain ⟨q1, q2⟩ := app_step HCP.out HCA.out HLO.out HCC4.out HF4.out
          refine ⟨k + 1, by omega, by go_num, q1, ?_, q2⟩
          rw [HSU.out]; exact HO4.out
        case measure => simp [intOf]; omega
    · have hkn : k = ins.length := by omega
      rw [hkn, List.take_of_length_le (Nat.le_refl _)] at hrow
      rw [hkn] at hlo
      rw [hkn]
      have hW1 := HW.out wr hc oa oc hrow
      have HW1 := Lib.hid hW1; clear hW1 HW hrow hlo hkn
      have HC := Lib.hid hc; clear hc
      go_wp2_with fail
      refine HW1.out.mono ?_
      rintro e w3 ⟨v, rfl, hrv, _, hc3⟩
      obtain ⟨va, vc, rfl⟩ := row.shape hrv
      have hsv := row.sv hrv rfl (by omega)
      have HSV := Lib.hid hsv; clear hsv hrv
      have HC3 := Lib.hid (HC.out.trans hc3 (by simp)); clear hc3 HC HW1
      go_wp2_with fail
      go_loopw [14, 38] (fun o i wq => ∃ j : Nat, j ≤ ws.length ∧ i = .int .i64 j ∧ Ch [] w3 wq ∧ row wq 4 1 o j (bools ((ws.take j).map (fun v => v.testBit 0))) ∧ ∀ q ∈ o.ownBlock.toList, w3.heap.size ≤ q) (fun _ i _ => ws.length - (intOf i).toNat)
      case atStart => exact ⟨0, by omega, rfl, Ch.refl _ _, ⟨rfl, .inl ⟨rfl, rfl⟩⟩, by simp⟩
      case round =>
        obtain ⟨j, hj, rfl, hc, hrow, hlo⟩ := hrel
        obtain ⟨oa, oc, rfl⟩ := row.shape hrow
        by_cases hlt : j < ws.length
        · obtain ⟨x, hx⟩ : ∃ x, ws[j]? = some x := ⟨_, List.getElem?_eq_getElem hlt⟩
          have hxb := HWB.out x (List.mem_of_getElem? hx)
          obtain ⟨xb, xo, rfl, hcl⟩ := HSV.out.cells j (.int .u64 x) (u64s_get hx)
          have c0 := (hc.cell (cell_lt hcl) (by simp)).trans hcl
          have hand : bits .and .u64 (x : Int) 1 = ((x &&& 1 : Nat) : Int) := bits_and_u64_nat x 1 (by omega) (by omega)
          have hbe : (((x &&& 1 : Nat) : Int) == 1) = x.testBit 0 := by
            rw [Nat.testBit_zero, show x &&& 1 = x % 2 from Nat.and_one_is_mod x]
            rcases Nat.mod_two_eq_zero_or_one x with h | h <;> simp [h]
          have hsu : bools ((ws.take (j + 1)).map (fun v => v.testBit 0)) = bools ((ws.take j).map (fun v => v.testBit 0)) ++ [.bool (x.testBit 0)] := by rw [List.take_add_one, hx]; simp [bools]
          generalize x.testBit 0 = tb at hbe hsu
          generalize x &&& 1 = x1 at hand hbe
          have hcA : Ch [] wr (wr.alloc (.cells #[.bool tb] 4)) := (Ch.refl _ _).alloc _
          have hrA := hrow.ch hcA (by simp)
          have hbA : blk (wr.alloc (.cells #[.bool tb] 4)) wr.heap.size [.bool tb] := blk.new' _ _ rfl
          have HSU := Lib.hid hsu; clear hsu
          have HRA := Lib.hid hrA; clear hrA hrow
          have HBA := Lib.hid hbA; clear hbA
          have HCA := Lib.hid hcA; clear hcA
          have HCP := Lib.hid hc; clear hc
          have HLO := Lib.hid hlo; clear hlo hcl hx hxb
          go_wp2_with (at_builtin; go_loud (refine wpList_append_row slBools rfl _ _ rfl (v := .slice oa j oc) (n := j) (xs := bools ((ws.take j).map (fun v => v.testBit 0))) rfl HRA.out (ad := ⟨wr.heap.size, 0, none⟩) (m := 1) (c := 1) (news := [.bool tb]) rfl rfl (news_blk HBA.out) (by simp [Value.oneCell']) (by omega) (by omega) ?_; intro v' w5 hown4 hC4 hf4; have HO4 := Lib.hid hown4; clear hown4; have HCC4 := Lib.hid hC4; clear hC4; have HF4 := Lib.hid hf4; clear hf4))
          go_roundw
          case rel =>
            obtain ⟨q1, q2⟩ := app_step HCP.out HCA.out HLO.out HCC4.out HF4.out
            refine ⟨j + 1, by omega, by go_num, q1, ?_, q2⟩
            rw [HSU.out]; exact HO4.out
          case measure => simp [intOf]; omega
        · have hkn : j = ws.length := by omega
          rw [hkn, List.take_of_length_le (Nat.le_refl _)] at hrow
          rw [hkn] at hlo
          rw [hkn]
          have HROW := Lib.hid hrow; clear hrow
          have HLO := Lib.hid hlo; clear hlo
          have HCP := Lib.hid hc; clear hc hkn
          go_wp2_with fail
          go_ret2
          refine ⟨.slice oa ws.length oc, rfl, ?_, fun q hq => Nat.le_trans HC3.out.size (HLO.out q hq), HC3.out.trans HCP.out (by simp)⟩
          have := HROW.out
          simpa using this
end
end Go.Proofs.YtnmfdiiehkkjcaaGreat
namespace Go.Proofs.YtnmfdiiehkkjcaaGreat
open Go.RowKit Go.Mem Go.Aig
theorem infoRefs : (Tryz.prog.info? 25).map (fun i => (i.zero, i.size, i.bytes)) = some (some (.slice none 0 0), 1, 24) := by kernel_rfl
theorem slRows : SliceTy Tryz.prog 28 25 1 24 (.slice none 0 0) := ⟨Tryz.underlying28, infoRefs, rfl, by decide⟩
theorem fnvmade1 : Fnv 23 := fnv_of Tryz.func23 (by simp [Tryz.f23]) (by simp [Tryz.f23])
theorem fnvmade2 : Fnv 24 := fnv_of Tryz.func24 (by simp [Tryz.f24]) (by simp [Tryz.f24])
section
variable {w : World}
set_option maxRecDepth 100000 in
set_option maxHeartbeats 2000000 in
theorem made1_is {bok bout : Nat} {ok : Bool} {oa : Option Addr} {m oc : Nat} {vs : List Value} (hk : blk w bok [.bool ok]) (ho : blk w bout [.slice oa m oc]) (hne : bok ≠ bout) (hr : row w 25 1 (.slice oa m oc) m vs) (hm : m ≤ 1000) (hd : ∀ k ∈ (Value.slice oa m oc).ownBlock.toList, k ≠ bok ∧ k ≠ bout) (a : Option Addr) (n c : Nat) (e : Nat) :
    Calls Tryz.prog 23 (#[.slice a n c, .int .i64 e] ++ #[.pointer (some ⟨bok, 0, none⟩), .pointer (some ⟨bout, 0, none⟩)]) w fun en w' => (∃ v, en = .returned v) ∧ ∃ qa qc, blk w' bok [.bool (ok && (e == 0))] ∧ blk w' bout [.slice qa (m + 1) qc] ∧ row w' 25 1 (.slice qa (m + 1) qc) (m + 1) (vs ++ [.slice a n c]) ∧
      Ch (bok :: bout :: (Value.slice oa m oc).ownBlock.toList) w w' ∧ ∀ k, (Value.slice qa (m + 1) qc).ownBlock = some k → (Value.slice oa m oc).ownBlock = some k ∨ w.heap.size ≤ k := by
  show Calls Tryz.prog 23 #[.slice a n c, .int .i64 e, .pointer (some ⟨bok, 0, none⟩), .pointer (some ⟨bout, 0, none⟩)] w _
  have hkl := hk.lt
  have hol := ho.lt
  have k0 := hk.cell (i := 0) rfl
  have k1 := hk.frozen (i := 0)
  have hq : ((e : Int) == 0) = (e == 0) := by
    by_cases h : e = 0
    · subst h; rfl
    · rw [beqN (by omega)]; simp [h]
  have hdown : ∀ k ∈ (Value.slice oa m oc).ownBlock.toList, k ≠ bok ∧ k ≠ bout := hd
  have hfin : ∀ (b : Bool) (W4 : World) (gb gc : Nat), row W4 25 1 (.slice (some ⟨gb, 0, none⟩) (m + 1) gc) (m + 1) (vs ++ [.slice a n c]) → Ch (Value.slice oa m oc).ownBlock.toList ((w.setCell ⟨bok, 0, none⟩ (.bool b)).alloc (.cells #[.slice a n c] 25)) W4 →
      (∀ k, (Value.slice (some ⟨gb, 0, none⟩) (m + 1) gc).ownBlock = some k → (Value.slice oa m oc).ownBlock = some k ∨ ((w.setCell ⟨bok, 0, none⟩ (.bool b)).alloc (.cells #[.slice a n c] 25)).heap.size ≤ k) → b = (ok && (e == 0)) →
      ∃ qa qc, blk (W4.setCell ⟨bout, 0, none⟩ (.slice (some ⟨gb, 0, none⟩) (m + 1) gc)) bok [.bool (ok && (e == 0))] ∧ blk (W4.setCell ⟨bout, 0, none⟩ (.slice (some ⟨gb, 0, none⟩) (m + 1) gc)) bout [.slice qa (m + 1) qc] ∧ row (W4.setCell ⟨bout, 0, none⟩ (.slice (some ⟨gb, 0, none⟩) (m + 1) gc)) 25 1 (.slice qa (m + 1) qc) (m + 1) (vs ++ [.slice a n c]) ∧
        Ch (bok :: bout :: (Value.slice oa m oc).ownBlock.toList) w (W4.setCell ⟨bout, 0, none⟩ (.slice (some ⟨gb, 0, none⟩) (m + 1) gc)) ∧ ∀ k, (Value.slice qa (m + 1) qc).ownBlock = some k → (Value.slice oa m oc).ownBlock = some k ∨ w.heap.size ≤ k := by
    rintro b W4 gb gc hrow hc4 hf4 rfl
    have h1 : Ch (bok :: bout :: (Value.slice oa m oc).ownBlock.toList) w ((w.setCell ⟨bok, 0, none⟩ (.bool (ok && (e == 0)))).alloc (.cells #[.slice a n c] 25)) := ((Ch.refl _ _).setCell (.inl (by simp)) _).alloc _
    have h2 := h1.trans hc4 (fun k hk => .inl (by simp at hk; simp [hk]))
    have hz : ((w.setCell ⟨bok, 0, none⟩ (.bool (ok && (e == 0)))).alloc (.cells #[.slice a n c] 25)).heap.size = w.heap.size + 1 := by simp [World.setCell]
    have hnk : bok ∉ (Value.slice oa m oc).ownBlock.toList := fun h => (hd _ h).1 rfl
    have hno : bout ∉ (Value.slice oa m oc).ownBlock.toList := fun h => (hd _ h).2 rfl
    have hgb : gb ≠ bout := by
      rcases hf4 gb rfl with h | h
      · exact (hd gb (by simpa using h)).2
      · rw [hz] at h; omega
    have hK : blk W4 bok [.bool (ok && (e == 0))] := ((hk.set (i := 0) (.bool (ok && (e == 0)))).alloc (.cells #[.slice a n c] 25)).ch hc4 hnk
    have hO : blk W4 bout [.slice oa m oc] := ((ho.other (p := ⟨bok, 0, none⟩) (by exact hne.symm) (.bool (ok && (e == 0)))).alloc (.cells #[.slice a n c] 25)).ch hc4 hno
    refine ⟨some ⟨gb, 0, none⟩, gc, hK.other (by exact hne) _, hO.set (i := 0) _, hrow.ch (F := [bout]) ((Ch.refl _ _).setCell (by simp) _) (fun k hk => by cases hk; simpa using hgb), h2.setCell (.inl (by simp)) _, fun k hk => ?_⟩
    rcases hf4 k hk with h | h
    · exact .inl h
    · rw [hz] at h; exact .inr (by omega)
  have hrA : ∀ b : Bool, row ((w.setCell ⟨bok, 0, none⟩ (.bool b)).alloc (.cells #[.slice a n c] 25)) 25 1 (.slice oa m oc) m vs := fun b => hr.ch (F := [bok]) (((Ch.refl _ _).setCell (by simp) _).alloc _) (fun k hk2 => by have := hd k (by simpa using hk2); simp; exact this.1)
  have hbA : ∀ b : Bool, blk ((w.setCell ⟨bok, 0, none⟩ (.bool b)).alloc (.cells #[.slice a n c] 25)) (w.setCell ⟨bok, 0, none⟩ (.bool b)).heap.size [.slice a n c] := fun b => blk.new' _ _ rfl
  have hoB : ∀ (b : Bool) (W4 : World), Ch (Value.slice oa m oc).ownBlock.toList ((w.setCell ⟨bok, 0, none⟩ (.bool b)).alloc (.cells #[.slice a n c] 25)) W4 → W4.cell? ⟨bout, 0, none⟩ = some (.slice oa m oc) ∧ W4.frozen? ⟨bout, 0, none⟩ = false := fun b W4 hc => by
    have hO : blk W4 bout [.slice oa m oc] := ((ho.other (p := ⟨bok, 0, none⟩) (by exact hne.symm) (.bool b)).alloc (.cells #[.slice a n c] 25)).ch hc (fun h => (hd _ h).2 rfl)
    exact ⟨hO.cell rfl, hO.frozen⟩
  have o0 := ho.cell (i := 0) rfl
  have HRA := Lib.hid hrA; clear hrA hr
  have HBA := Lib.hid hbA; clear hbA
  have HOB := Lib.hid hoB; clear hoB
  have HFIN := Lib.hid hfin; clear hfin
  clear hk ho hd hdown
  have hne2 : bout ≠ bok := hne.symm
  cases ok
  · go_enter Tryz.func23, Tryz.ntmps23
    go_wp2_with (at_builtin; go_loud (refine wpList_append_row slRows rfl _ _ rfl (v := .slice oa m oc) (n := m) (xs := vs) rfl (HRA.out false) (ad := ⟨w.heap.size, 0, none⟩) (m := 1) (c := 1) (news := [.slice a n c]) rfl rfl (news_blk (by have := HBA.out false; simpa [World.setCell] using this)) (by simp [Value.oneCell']) (by omega) (by omega) ?_; intro v' w4 hown4 hC4 hf4; obtain ⟨gb, gc, rfl⟩ := row.parts hown4 (by omega); obtain ⟨s0, s1⟩ := HOB.out _ _ hC4; have HO4 := Lib.hid hown4; clear hown4; have HC4 := Lib.hid hC4; clear hC4; have HF4 := Lib.hid hf4; clear hf4))
    refine bodyPost_end (results_none rfl _ _ _) rfl ?_
    exact ⟨⟨_, rfl⟩, HFIN.out false _ gb gc HO4.out HC4.out HF4.out rfl⟩
  · go_enter Tryz.func23, Tryz.ntmps23
    go_wp2_with (at_builtin; go_loud (refine wpList_append_row slRows rfl _ _ rfl (v := .slice oa m oc) (n := m) (xs := vs) rfl (HRA.out (e == 0)) (ad := ⟨w.heap.size, 0, none⟩) (m := 1) (c := 1) (news := [.slice a n c]) rfl rfl (news_blk (by have := HBA.out (e == 0); simpa [World.setCell] using this)) (by simp [Value.oneCell']) (by omega) (by omega) ?_; intro v' w4 hown4 hC4 hf4; obtain ⟨gb, gc, rfl⟩ := row.parts hown4 (by omega); obtain ⟨s0, s1⟩ := HOB.out _ _ hC4; have HO4 := Lib.hid hown4; clear hown4; have HC4 := Lib.hid hC4; clear hC4; have HF4 := Lib.hid hf4; clear hf4))
    refine bodyPost_end (results_none rfl _ _ _) rfl ?_
    exact ⟨⟨_, rfl⟩, HFIN.out (e == 0) _ gb gc HO4.out HC4.out HF4.out (by simp)⟩
end
end Go.Proofs.YtnmfdiiehkkjcaaGreat
namespace Go.Proofs.YtnmfdiiehkkjcaaGreat
open Go.RowKit Go.Mem Go.Aig
structure MD (w0 w1 : World) (F0 : List Nat) (w : World) (g : Nat) (G : Gra) (F : List Nat) (L : List (Value × List Int)) (bok bout bfn : Nat) (ok : Bool) (oa : Option Addr) (m oc : Nat) (vs : List Value) : Prop where
  hold : Hold w0 w g G F L
  bk : blk w bok [.bool ok]
  bo : blk w bout [.slice oa m oc]
  bf : blk w bfn [.func (.func 23) #[] #[.pointer (some ⟨bok, 0, none⟩), .pointer (some ⟨bout, 0, none⟩)]]
  row : row w 25 1 (.slice oa m oc) m vs
  ge : w0.heap.size ≤ bok ∧ w0.heap.size ≤ bout ∧ w0.heap.size ≤ bfn
  ne : bok ≠ bout ∧ bok ≠ bfn ∧ bout ≠ bfn
  nF : bok ∉ F ∧ bout ∉ F ∧ bfn ∉ F
  oo : ∀ k, (Value.slice oa m oc).ownBlock = some k → w0.heap.size ≤ k ∧ k ∉ F ∧ k ≠ bok ∧ k ≠ bout ∧ k ≠ bfn
  sep : ∀ p ∈ L, ∀ k, p.1.ownBlock = some k → k ≠ bok ∧ k ≠ bout ∧ k ≠ bfn ∧ (Value.slice oa m oc).ownBlock ≠ some k
  ch1 : Ch F0 w1 w
  ge1 : w1.heap.size ≤ bok ∧ w1.heap.size ≤ bout ∧ w1.heap.size ≤ bfn
  oo1 : ∀ k, (Value.slice oa m oc).ownBlock = some k → w1.heap.size ≤ k
  f1 : ∀ k ∈ F, k ∈ F0 ∨ w1.heap.size ≤ k
section
variable {w0 w1 w : World} {F0 : List Nat} {g : Nat} {G : Gra} {F : List Nat} {L : List (Value × List Int)} {bok bout bfn : Nat} {ok : Bool} {oa : Option Addr} {m oc : Nat} {vs : List Value}
theorem Hold.chX {w' : World} {X : List Nat} (h : Hold w0 w g G F L) (hc : Ch X w w') (hX : ∀ k ∈ X, k ∉ F ∧ w0.heap.size ≤ k) (hL : ∀ p ∈ L, ∀ k, p.1.ownBlock = some k → k ∉ X) : Hold w0 w' g G F L :=
  ⟨⟨h.own.gin.same hc (fun k hk hk2 => (hX k hk2).1 hk), h.own.own, h.own.ch.trans hc (fun k hk => .inr (hX k hk).2)⟩, fun p hp => ⟨(h.held p hp).row.ch hc (hL p hp), (h.held p hp).len, (h.held p hp).bd, (h.held p hp).own⟩, fun p hp => by cases hp⟩
theorem MD.graph {w' : World} {G' : Gra} {F' : List Nat} {L' : List (Value × List Int)} (h : MD w0 w1 F0 w g G F L bok bout bfn ok oa m oc vs) (hh : Hold w0 w' g G' F' L') (hc : Ch F w w') (hF : ∀ k ∈ F', k ∈ F ∨ w.heap.size ≤ k) (hL : ∀ p ∈ L', p ∈ L ∨ ∀ k, p.1.ownBlock = some k → w.heap.size ≤ k) :
    MD w0 w1 F0 w' g G' F' L' bok bout bfn ok oa m oc vs := by
  have h1 := h.bk.lt; have h2 := h.bo.lt; have h3 := h.bf.lt
  have hn : ∀ k, k < w.heap.size → k ∉ F → k ∉ F' := fun k hk hkF hk2 => (hF k hk2).elim hkF (by omega)
  refine ⟨hh, h.bk.ch hc h.nF.1, h.bo.ch hc h.nF.2.1, h.bf.ch hc h.nF.2.2, h.row.ch hc (fun k hk => (h.oo k hk).2.1), h.ge, h.ne, ⟨hn _ h1 h.nF.1, hn _ h2 h.nF.2.1, hn _ h3 h.nF.2.2⟩, fun k hk => ?_, fun p hp k hk => ?_, ?_, h.ge1, h.oo1, fun k hk => ?_⟩
  · have h4 := h.oo k hk
    exact ⟨h4.1, hn k (h.row.lt k hk).2 h4.2.1, h4.2.2⟩
  · rcases hL p hp with hp | hp
    · exact h.sep p hp k hk
    · have h5 := hp k hk
      exact ⟨by omega, by omega, by omega, fun e => by have := (h.row.lt k e).2; omega⟩
  · exact h.ch1.trans hc h.f1
  · rcases hF k hk with e | e
    · exact h.f1 k e
    · exact .inr (Nat.le_trans h.ch1.size e)
theorem MD.same {w' : World} (h : MD w0 w1 F0 w g G F L bok bout bfn ok oa m oc vs) (hc : Ch [] w w') : MD w0 w1 F0 w' g G F L bok bout bfn ok oa m oc vs :=
  h.graph (h.hold.same hc) (hc.mono (by simp)) (fun _ hk => .inl hk) (fun _ hp => .inl hp)
theorem MD.word {w' : World} {G' : Gra} {v : Value} {l : List Nat} (h : MD w0 w1 F0 w g G F L bok bout bfn ok oa m oc vs) (ht : GVo w g G' [] F v l w') (hb : ∀ r ∈ l, r ≤ 1000000) (hl : l.length ≤ 1000000) : ∃ a c F', v = .slice a l.length c ∧ MD w0 w1 F0 w' g G' F' ((.slice a l.length c, natInts l) :: L) bok bout bfn ok oa m oc vs := by
  have ht0 := ht
  obtain ⟨F', h1, h2, h3, h4, h5, h6⟩ := ht
  obtain ⟨a, c, rfl⟩ := row.shape h5
  have hk2 := h.hold.to (G' := G') ⟨F', h1, h2, h3, h4⟩
  refine ⟨a, c, F', rfl, h.graph ⟨⟨h1, fun k hk => (h3 k hk).elim (h.hold.own.own k) (fun e => Nat.le_trans h.hold.own.ch.size e), h.hold.own.ch.trans h2 (fun k hk => .inr (h.hold.own.own k hk))⟩, fun p hp => ?_, fun p hp => by cases hp⟩ h2 h3 (fun p hp => ?_)⟩
  · rcases List.mem_cons.1 hp with rfl | hp
    · refine ⟨?_, by simpa using hl, fun r hr => ?_, fun k hk => ⟨Nat.le_trans h.hold.own.ch.size (h6 k hk).1, (h6 k hk).2⟩⟩
      · simp only [natInts_len]
        rw [← refs_natInts]
        exact h5
      · obtain ⟨q, hq, rfl⟩ := List.mem_map.1 hr
        have := hb q hq
        omega
    · exact (h.hold.held p hp).keep h2 h3
  · rcases List.mem_cons.1 hp with rfl | hp
    · exact .inr (fun k hk => (h6 k hk).1)
    · exact .inl hp
theorem MD.ref {w' : World} {G' : Gra} (h : MD w0 w1 F0 w g G F L bok bout bfn ok oa m oc vs) (ht : GTo w g G' F w') : ∃ F', MD w0 w1 F0 w' g G' F' L bok bout bfn ok oa m oc vs := by
  obtain ⟨F', h1, h2, h3, h4⟩ := ht
  exact ⟨F', h.graph ⟨⟨h1, fun k hk => (h3 k hk).elim (h.hold.own.own k) (fun e => Nat.le_trans h.hold.own.ch.size e), h.hold.own.ch.trans h2 (fun k hk => .inr (h.hold.own.own k hk))⟩, fun p hp => (h.hold.held p hp).keep h2 h3, fun p hp => by cases hp⟩ h2 h3 (fun _ hp => .inl hp)⟩
theorem MD.note {w' : World} {ok' : Bool} {qa : Option Addr} {qc : Nat} {vs' : List Value} (h : MD w0 w1 F0 w g G F L bok bout bfn ok oa m oc vs) (h1 : blk w' bok [.bool ok']) (h2 : blk w' bout [.slice qa (m + 1) qc]) (h3 : Go.Mem.row w' 25 1 (.slice qa (m + 1) qc) (m + 1) vs') (hc : Ch (bok :: bout :: (Value.slice oa m oc).ownBlock.toList) w w')
    (hf : ∀ k, (Value.slice qa (m + 1) qc).ownBlock = some k → (Value.slice oa m oc).ownBlock = some k ∨ w.heap.size ≤ k) : MD w0 w1 F0 w' g G F L bok bout bfn ok' qa (m + 1) qc vs' := by
  have k1 := h.bk.lt; have k2 := h.bo.lt; have k3 := h.bf.lt
  have hz : w0.heap.size ≤ w.heap.size := h.hold.own.ch.size
  have hX : ∀ k ∈ bok :: bout :: (Value.slice oa m oc).ownBlock.toList, k ∉ F ∧ w0.heap.size ≤ k := fun k hk => by
    simp only [List.mem_cons, Option.mem_toList] at hk
    rcases hk with rfl | rfl | hk
    · exact ⟨h.nF.1, h.ge.1⟩
    · exact ⟨h.nF.2.1, h.ge.2.1⟩
    · exact ⟨(h.oo k hk).2.1, (h.oo k hk).1⟩
  refine ⟨h.hold.chX hc hX (fun p hp k hk hk2 => ?_), h1, h2, h.bf.ch hc (fun hk => ?_), h3, h.ge, h.ne, h.nF, fun k hk => ?_, fun p hp k hk => ?_, h.ch1.trans hc (fun k hk => ?_), h.ge1, fun k hk => ?_, h.f1⟩
  · have hs := h.sep p hp k hk
    simp only [List.mem_cons, Option.mem_toList] at hk2
    rcases hk2 with e | e | e
    · exact hs.1 e
    · exact hs.2.1 e
    · exact hs.2.2.2 e
  · simp only [List.mem_cons, Option.mem_toList] at hk
    rcases hk with e | e | e
    · exact h.ne.2.1 e.symm
    · exact h.ne.2.2 e.symm
    · exact (h.oo bfn e).2.2.2.2 rfl
  · rcases hf k hk with e | e
    · exact h.oo k e
    · exact ⟨by omega, fun hkF => by have := GIn.lt h.hold.own.gin k hkF; omega, by omega, by omega, by omega⟩
  · have hs := h.sep p hp k hk
    refine ⟨hs.1, hs.2.1, hs.2.2.1, fun e => ?_⟩
    rcases hf k e with e2 | e2
    · exact hs.2.2.2 e2
    · have := ((h.hold.held p hp).row.lt k hk).2; omega
  · simp only [List.mem_cons, Option.mem_toList] at hk
    rcases hk with rfl | rfl | hk
    · exact .inr h.ge1.1
    · exact .inr h.ge1.2.1
    · exact .inr (h.oo1 k hk)
  · rcases hf k hk with e | e
    · exact h.oo1 k e
    · exact Nat.le_trans h.ch1.size e
/-- a result is noted -/
theorem MD.noted (h : MD w0 w1 F0 w g G F L bok bout bfn ok oa m oc vs) (hm : m ≤ 1000) (a : Option Addr) (n c e : Nat) :
    Calls Tryz.prog 23 #[.slice a n c, .int .i64 e, .pointer (some ⟨bok, 0, none⟩), .pointer (some ⟨bout, 0, none⟩)] w fun en w' => (∃ v, en = .returned v) ∧ ∃ qa qc, MD w0 w1 F0 w' g G F L bok bout bfn (ok && (e == 0)) qa (m + 1) qc (vs ++ [.slice a n c]) := by
  have h0 := made1_is h.bk h.bo h.ne.1 h.row hm (fun k hk => ⟨(h.oo k (by simpa using hk)).2.2.1, (h.oo k (by simpa using hk)).2.2.2.1⟩) a n c e
  change Calls Tryz.prog 23 #[.slice a n c, .int .i64 e, .pointer (some ⟨bok, 0, none⟩), .pointer (some ⟨bout, 0, none⟩)] w _ at h0
  refine h0.mono ?_
  rintro en w' ⟨hv, qa, qc, h1, h2, h3, hc, hf⟩
  exact ⟨hv, qa, qc, h.note h1 h2 h3 hc hf⟩
end
end Go.Proofs.YtnmfdiiehkkjcaaGreat
namespace Go.Aig
def bitR (R : Res) : Gra × List Nat × Nat := (R.1, [R.2.1], R.2.2)
/-- what the operations make -/
def mkOp (i : Nat) (G : Gra) (x y : List Int) : Gra × List Nat × Nat := match i with
  | 0 => wordG G [x] ((G, 0), (nats x).map neg)
  | 1 => subG G (List.replicate x.length 0) x
  | 2 => wordG G [x, y] (eachF (rop and) (G, 0) ((nats x).zip (nats y)))
  | 3 => wordG G [x, y] (eachF (rop rOr) (G, 0) ((nats x).zip (nats y)))
  | 4 => wordG G [x, y] (eachF (rop rXor) (G, 0) ((nats x).zip (nats y)))
  | 5 => wordG G [x, y] (sumW x.length (G, 0) ((nats x).zip (nats y)) 0)
  | 6 => subG G x y
  | 7 => bitR (negG (refG G [x, y] (neF (G, 0) ((nats x).zip (nats y)))))
  | 8 => bitR (refG G [x, y] (neF (G, 0) ((nats x).zip (nats y))))
  | 9 => bitR (refG G [x, y] (ltF (G, 0) ((nats x).zip (nats y))))
  | _ => bitR (negG (refG G [y, x] (ltF (G, 0) ((nats y).zip (nats x)))))
theorem mkOp_0 (G : Gra) (x y : List Int) : mkOp 0 G x y = wordG G [x] ((G, 0), (nats x).map neg) := rfl
theorem mkOp_1 (G : Gra) (x y : List Int) : mkOp 1 G x y = subG G (List.replicate x.length 0) x := rfl
theorem mkOp_2 (G : Gra) (x y : List Int) : mkOp 2 G x y = wordG G [x, y] (eachF (rop and) (G, 0) ((nats x).zip (nats y))) := rfl
theorem mkOp_3 (G : Gra) (x y : List Int) : mkOp 3 G x y = wordG G [x, y] (eachF (rop rOr) (G, 0) ((nats x).zip (nats y))) := rfl
theorem mkOp_4 (G : Gra) (x y : List Int) : mkOp 4 G x y = wordG G [x, y] (eachF (rop rXor) (G, 0) ((nats x).zip (nats y))) := rfl
theorem mkOp_5 (G : Gra) (x y : List Int) : mkOp 5 G x y = wordG G [x, y] (sumW x.length (G, 0) ((nats x).zip (nats y)) 0) := rfl
theorem mkOp_6 (G : Gra) (x y : List Int) : mkOp 6 G x y = subG G x y := rfl
theorem mkOp_7 (G : Gra) (x y : List Int) : mkOp 7 G x y = bitR (negG (refG G [x, y] (neF (G, 0) ((nats x).zip (nats y))))) := rfl
theorem mkOp_8 (G : Gra) (x y : List Int) : mkOp 8 G x y = bitR (refG G [x, y] (neF (G, 0) ((nats x).zip (nats y)))) := rfl
theorem mkOp_9 (G : Gra) (x y : List Int) : mkOp 9 G x y = bitR (refG G [x, y] (ltF (G, 0) ((nats x).zip (nats y)))) := rfl
theorem mkOp_10 (G : Gra) (x y : List Int) : mkOp 10 G x y = bitR (negG (refG G [y, x] (ltF (G, 0) ((nats y).zip (nats x))))) := rfl
def madeStep (x y : List Int) (s : Gra × List (List Nat) × Bool) (i : Nat) : Gra × List (List Nat) × Bool := ((mkOp i s.1 x y).1, s.2.1 ++ [(mkOp i s.1 x y).2.1], s.2.2 && ((mkOp i s.1 x y).2.2 == 0))
def madeG (G : Gra) (x y : List Int) (n : Nat) : Gra × List (List Nat) × Bool := (List.range n).foldl (madeStep x y) (G, [], true)
theorem madeG_succ (G : Gra) (x y : List Int) (n : Nat) : madeG G x y (n + 1) = madeStep x y (madeG G x y n) n := by
  unfold madeG
  rw [List.range_succ, List.foldl_append]; rfl
theorem eachF_len (op : Mk → Nat → Nat → Mk × Nat) (s : Mk) (l : List (Nat × Nat)) : (eachF op s l).2.length = l.length := by
  have : ∀ (l : List (Nat × Nat)) (q : Mk × List Nat), (l.foldl (eachS op) q).2.length = q.2.length + l.length := by
    intro l
    induction l with
    | nil => intro q; rfl
    | cons p l ih =>
      intro q
      rw [List.foldl_cons, ih]
      unfold eachS
      simp; omega
  have h := this l (s, [])
  simpa [eachF] using h
theorem wordG_len {G : Gra} {ws : List (List Int)} {R : Mk × List Nat} {n : Nat} (h : R.2.length ≤ n) : (wordG G ws R).2.1.length ≤ n := by
  unfold wordG wres
  split
  · simp
  · split
    · simp
    · exact h
theorem chk1_lt {G : Gra} {x : List Int} (h : chk G [x] = 0) : ∀ r ∈ nats x, r < 2 * G.nodes.length := (chk_ok h x (by simp)).lt
theorem subG_ok {G : Gra} (hG : Ok G) (x y : List Int) : WOk G (subG G x y) := wordG_ok hG fun hc => by
  have hp := hG.wf.pos
  have h1 := (chk_ok hc x (by simp)).lt
  have h2 := (chk_ok hc y (by simp)).lt
  exact sumF_lok hG _ _ (zip_lt h1 (fun r hr => by obtain ⟨q, hq, rfl⟩ := List.mem_map.1 hr; exact neg_lt (h2 q hq))) (by omega)
theorem subG_len {G : Gra} {x y : List Int} {n : Nat} (h : x.length ≤ n) : (subG G x y).2.1.length ≤ n := wordG_len (by
  unfold sumW
  dsimp only
  rw [Go.Proofs.YtnmfdiiehkkjcaaGreat.sumF_len, List.length_zip]
  simp only [nats_len]
  omega)
theorem bitR_ok {G : Gra} {R : Res} (h1 : Ok R.1) (h2 : Ext G R.1) (h3 : R.2.1 < 2 * R.1.nodes.length) : WOk G (bitR R) := ⟨h1, h2, fun r hr => by rw [List.mem_singleton.1 hr]; exact h3⟩
theorem negG_ok {G : Gra} {R : Res} (h : Ok R.1 ∧ Ext G R.1 ∧ R.2.1 < 2 * R.1.nodes.length) : Ok (negG R).1 ∧ Ext G (negG R).1 ∧ (negG R).2.1 < 2 * (negG R).1.nodes.length := by
  have := h.1.wf.pos
  unfold negG
  split
  · exact ⟨h.1, h.2.1, by show 0 < 2 * R.1.nodes.length; omega⟩
  · exact ⟨h.1, h.2.1, neg_lt h.2.2⟩
theorem mkOp_ok {G : Gra} (hG : Ok G) (i : Nat) (hi : i < 11) (x y : List Int) (hx : x.length ≤ 1000000) : WOk G (mkOp i G x y) ∧ (mkOp i G x y).2.1.length ≤ 1000000 := by
  have hp := hG.wf.pos
  rcases i with _ | _ | _ | _ | _ | _ | _ | _ | _ | _ | _ | i
  · exact ⟨wordG_ok hG fun hc => ⟨.start hG, fun r hr => by obtain ⟨q, hq, rfl⟩ := List.mem_map.1 hr; exact neg_lt (chk1_lt hc q hq)⟩, wordG_len (by simpa using hx)⟩
  · exact ⟨subG_ok hG _ _, subG_len (by simpa using hx)⟩
  · exact ⟨wordG_ok hG fun hc => eachF_lok hG full_and _ (chk_zip hc), wordG_len (by rw [eachF_len, List.length_zip]; simp only [nats_len]; omega)⟩
  · exact ⟨wordG_ok hG fun hc => eachF_lok hG full_or _ (chk_zip hc), wordG_len (by rw [eachF_len, List.length_zip]; simp only [nats_len]; omega)⟩
  · exact ⟨wordG_ok hG fun hc => eachF_lok hG full_xor _ (chk_zip hc), wordG_len (by rw [eachF_len, List.length_zip]; simp only [nats_len]; omega)⟩
  · exact ⟨wordG_ok hG fun hc => sumF_lok hG _ _ (chk_zip hc) (by omega), wordG_len (by unfold sumW; dsimp only; rw [Go.Proofs.YtnmfdiiehkkjcaaGreat.sumF_len, List.length_zip]; simp only [nats_len]; omega)⟩
  · exact ⟨subG_ok hG _ _, subG_len hx⟩
  · have h := negG_ok (refG_ok hG (ws := [x, y]) (R := neF (G, 0) ((nats x).zip (nats y))) fun hc => neF_vok hG _ (chk_zip hc))
    exact ⟨bitR_ok h.1 h.2.1 h.2.2, by show (1 : Nat) ≤ 1000000; omega⟩
  · have h := refG_ok hG (ws := [x, y]) (R := neF (G, 0) ((nats x).zip (nats y))) fun hc => neF_vok hG _ (chk_zip hc)
    exact ⟨bitR_ok h.1 h.2.1 h.2.2, by show (1 : Nat) ≤ 1000000; omega⟩
  · have h := refG_ok hG (ws := [x, y]) (R := ltF (G, 0) ((nats x).zip (nats y))) fun hc => ltF_vok hG _ (chk_zip hc)
    exact ⟨bitR_ok h.1 h.2.1 h.2.2, by show (1 : Nat) ≤ 1000000; omega⟩
  · have h := negG_ok (refG_ok hG (ws := [y, x]) (R := ltF (G, 0) ((nats y).zip (nats x))) fun hc => ltF_vok hG _ (chk_zip hc))
    exact ⟨bitR_ok h.1 h.2.1 h.2.2, by show (1 : Nat) ≤ 1000000; omega⟩
  · omega
theorem WOk.small {G : Gra} {R : Gra × List Nat × Nat} (h : WOk G R) : ∀ r ∈ R.2.1, r ≤ 1000000 := fun r hr => by
  have h1 := h.lt r hr
  have h2 := h.ok.small
  omega
end Go.Aig
namespace Go.Proofs.YtnmfdiiehkkjcaaGreat
open Go.RowKit Go.Mem Go.Aig
theorem run_storeFunc {P : Program} {w : World} {a : Addr} {m : Mode} (f : Fn) (b c : Array Value) : (store a (.func f b c) m).run P w = stored P w a (.func f b c) m := run_store P w a _ m rfl
attribute [local go_sem] run_storeFunc
def mfun (B : Nat) : Value := .func (.func 23) #[] #[.pointer (some ⟨B + 1, 0, none⟩), .pointer (some ⟨B, 0, none⟩)]
/-- values that are held words, one for each list -/
structure VL (vs : List Value) (ls : List (List Nat)) (L : List (Value × List Int)) : Prop where
  len : vs.length = ls.length
  mem : ∀ (i : Nat) (v : Value) (l : List Nat), vs[i]? = some v → ls[i]? = some l → (v, natInts l) ∈ L
theorem VL.snoc {vs : List Value} {ls : List (List Nat)} {L : List (Value × List Int)} (h : VL vs ls L) (v : Value) (l : List Nat) : VL (vs ++ [v]) (ls ++ [l]) ((v, natInts l) :: L) := by
  refine ⟨by simp [h.len], fun i u q hu hq => ?_⟩
  by_cases hi : i < vs.length
  · rw [List.getElem?_append_left hi] at hu
    rw [List.getElem?_append_left (by rw [← h.len]; exact hi)] at hq
    exact List.mem_cons_of_mem _ (h.mem i u q hu hq)
  · have hlt := (List.getElem?_eq_some_iff.1 hu).1
    rw [List.length_append] at hlt
    simp at hlt
    have he : i = vs.length := by omega
    subst he
    have hl := h.len
    rw [List.getElem?_append_right (by omega)] at hu
    rw [List.getElem?_append_right (by omega)] at hq
    simp at hu
    simp [hl] at hq
    rw [← hu, ← hq]
    exact List.mem_cons_self
section
variable {w0 w1 w : World} {F0 : List Nat} {g : Nat} {G : Gra} {F : List Nat} {L : List (Value × List Int)} {bok bout bfn : Nat} {ok : Bool} {oa : Option Addr} {m oc : Nat} {vs : List Value}
set_option maxRecDepth 100000 in
set_option maxHeartbeats 2000000 in
theorem made2_is (h : MD w0 w1 F0 w g G F L bok bout bfn ok oa m oc vs) (hm : m ≤ 1000) (r e : Nat) (hr : r ≤ 1000000) :
    Calls Tryz.prog 24 #[.int .i64 r, .int .i64 e, .pointer (some ⟨bfn, 0, none⟩)] w fun en w' => (∃ v, en = .returned v) ∧ ∃ a qa qc, MD w0 w1 F0 w' g G F ((.slice a 1 1, natInts [r]) :: L) bok bout bfn (ok && (e == 0)) qa (m + 1) qc (vs ++ [.slice a 1 1]) := by
  have hcf : ∀ args w, (callFunc 23 args).run Tryz.prog w = .ok (.enter 23 args) w := fnvmade1
  have f0 := h.bf.cell (i := 0) rfl
  have hN : ∀ W, W = w.alloc (.cells #[.int .i64 r] 51) → MD w0 w1 F0 W g G F ((.slice (some ⟨w.heap.size, 0, none⟩) 1 1, natInts [r]) :: L) bok bout bfn ok oa m oc vs := fun W hW => by
    have hc := alw_ch hW
    have hg := GIn.lt h.hold.own.gin
    have hz : w0.heap.size ≤ w.heap.size := h.hold.own.ch.size
    refine h.graph ⟨(h.hold.same hc).own, fun p hp => ?_, fun p hp => by cases hp⟩ (hc.mono (by simp)) (fun _ hk => .inl hk) (fun p hp => ?_)
    · rcases List.mem_cons.1 hp with rfl | hp
      · refine ⟨⟨rfl, .inr ⟨w.heap.size, 1, #[.int .i64 r], rfl, by omega, ?_, by simp [natInts], by unfold maxLen; omega, rfl, rfl⟩⟩, by simp [natInts], fun q hq => ?_, fun k hk => ?_⟩
        · rw [hW]; exact heap_alloc_new w _
        · simp [natInts] at hq; omega
        · cases hk
          exact ⟨hz, fun hk => by have := hg _ hk; simp at this⟩
      · exact (h.hold.same hc).held p hp
    · rcases List.mem_cons.1 hp with rfl | hp
      · exact .inr (fun k hk => by cases hk; exact Nat.le_refl _)
      · exact .inl hp
  have HN := Lib.hid hN; clear hN h
  go_enter Tryz.func24, Tryz.ntmps24
  go_wp2_with fail
  refine calls_named fun W0 hW0 => ?_
  refine ((HN.out W0 hW0).noted hm (some ⟨w.heap.size, 0, none⟩) 1 1 e).mono ?_
  rintro en w1 ⟨⟨v, rfl⟩, qa, qc, hmd⟩
  have HMD := Lib.hid hmd; clear hmd
  go_wp2_with fail
  refine bodyPost_end (results_none rfl _ _ _) rfl ?_
  exact ⟨⟨_, rfl⟩, _, qa, qc, HMD.out⟩
set_option maxRecDepth 100000 in
set_option maxHeartbeats 3000000 in
theorem made23_is (h : Hold w0 w g G F L) {xa ya : Option Addr} {xl yl : List Int} {n n2 xc yc : Nat} (hx : (.slice xa n xc, xl) ∈ L) (hxn : xl.length = n) (hy : (.slice ya n2 yc, yl) ∈ L) (hyn : yl.length = n2) :
    Calls Tryz.prog 6 #[.pointer (some ⟨g, 0, none⟩), .slice xa n xc, .slice ya n2 yc] w fun e w' => ∃ F' L' oa oc ba vs, e = .returned (.tuple #[.slice oa 11 oc, .slice (some ⟨ba, 0, none⟩) 11 11, .bool (madeG G xl yl 11).2.2]) ∧ Hold w0 w' g (madeG G xl yl 11).1 F' L' ∧ (∀ p ∈ L, p ∈ L') ∧ VL vs (madeG G xl yl 11).2.1 L' ∧
      row w' 25 1 (.slice oa 11 oc) 11 vs ∧ (∀ k, (Value.slice oa 11 oc).ownBlock = some k → w0.heap.size ≤ k ∧ k ∉ F') ∧ blk w' ba ([1, 2, 8, 9, 10, 3, 4, 13, 14, 15, 16].map fun (z : Int) => Value.int .u8 z) ∧ w0.heap.size ≤ ba ∧ ba ∉ F' ∧ Ch F w w' ∧ (∀ k ∈ F', k ∈ F ∨ w.heap.size ≤ k) := by
  have hcf : ∀ args w, (callFunc 23 args).run Tryz.prog w = .ok (.enter 23 args) w := fnvmade1
  have hcf2 : ∀ args w, (callFunc 24 args).run Tryz.prog w = .ok (.enter 24 args) w := fnvmade2
  subst hxn hyn
  have hlen : xl.length ≤ 1000000 := (h.at hx rfl).ok.len
  have H := Lib.hid h; clear h
  have HX := Lib.hid hx; clear hx
  have HY := Lib.hid hy; clear hy
  go_enter Tryz.func6, Tryz.ntmps6
  go_wp2_with fail
  refine wp_named fun W0 hW0 => ?_
  have hc0 : Ch [] w W0 := by rw [hW0]; exact (((Ch.refl _ _).alloc _).alloc _).alloc _
  have hz := H.out.own.ch.size
  have hg0 := GIn.lt H.out.own.gin
  have hzz0 : w0.heap.size ≤ w.heap.size := H.out.own.ch.size
  have hmd : MD w0 w F W0 g G F L (w.heap.size + 1) w.heap.size (w.heap.size + 2) true none 0 0 [] := by
    refine ⟨H.out.same hc0, by rw [hW0]; exact (blk.new' _ _ (by simp)).alloc _, by rw [hW0]; exact ((blk.new' _ _ (by simp)).alloc _).alloc _, by rw [hW0]; exact blk.new' _ _ (by simp), ⟨rfl, .inl ⟨rfl, rfl⟩⟩, ⟨by omega, by omega, by omega⟩, ⟨by omega, by omega, by omega⟩, ⟨fun hk => ?_, fun hk => ?_, fun hk => ?_⟩, by simp [Value.ownBlock], fun p hp k hk => ?_, ?_, ?_, ?_, ?_⟩
    · have := hg0 _ hk; omega
    · have := hg0 _ hk; omega
    · have := hg0 _ hk; omega
    · have := ((H.out.held p hp).row.lt k hk).2
      exact ⟨by omega, by omega, by omega, by simp [Value.ownBlock]⟩
    · exact hc0.mono (by simp)
    · exact ⟨by omega, by omega, by omega⟩
    · exact fun k hk => by simp [Value.ownBlock] at hk
    · exact fun k hk => .inl hk
  clear hW0 hz hg0
  obtain ⟨vs0, hv0⟩ : ∃ X : List Value, X = [] := ⟨_, rfl⟩
  obtain ⟨L0, hL0⟩ : ∃ X, X = L := ⟨_, rfl⟩
  obtain ⟨F0, hF0⟩ : ∃ X, X = F := ⟨_, rfl⟩
  replace hmd : MD w0 w F W0 g (madeG G xl yl 0).1 F0 L0 (w.heap.size + 1) w.heap.size (w.heap.size + 2) (madeG G xl yl 0).2.2 none 0 0 vs0 := by rw [hv0, hL0, hF0]; exact hmd
  have hvl : VL vs0 (madeG G xl yl 0).2.1 L0 := by rw [hv0]; exact ⟨rfl, by simp⟩
  have HMD := Lib.hid hmd; clear hmd
  have HVL := Lib.hid hvl; clear hvl
  have HSub := Lib.hid (show ∀ p ∈ L, p ∈ L0 from fun _ h => hL0 ▸ h)
  have HC00 := Lib.hid hc0; clear hc0 hv0 hL0 hF0
  clear H
  obtain ⟨B, hB⟩ : ∃ B, B = w.heap.size := ⟨_, rfl⟩
  rw [← hB] at HMD ⊢
  clear hB
  -- Not
  have hok := mkOp_ok HMD.out.hold.own.gin.ok 0 (by omega) xl yl hlen
  obtain ⟨R0, hR⟩ : ∃ R, R = mkOp 0 (madeG G xl yl 0).1 xl yl := ⟨_, rfl⟩
  rw [← hR] at hok
  have HR := Lib.hid hR; clear hR
  have HOK := Lib.hid hok; clear hok
  go_wp2_with fail
  refine Ord.St.door (fun w' => w'.cell? ⟨B + 2, 0, none⟩ = some (mfun B)) [.ho, .fl, .fl, .ef, .fl, .fl, .ef] [0, 0, 0, 6, 14, 14, 63] [0, 1, 2, 3, 4, 5, 6] mixed (by kernel_rfl) rfl ?_
  obtain ⟨Wc, hWc⟩ : ∃ Wc, Wc = W0.drew := ⟨_, rfl⟩
  rw [← hWc]
  have hmd := HMD.out.same (by rw [hWc]; exact (Ch.refl _ _).drew : Ch [] _ Wc)
  clear hWc
  have hbf := hmd.bf
  have hC2 : Calls Tryz.prog 25 #[.pointer (some ⟨g, 0, none⟩), .slice xa xl.length xc] Wc fun e w' => ∃ v, e = .returned (.tuple #[v, .int .i64 R0.2.2]) ∧ GVo Wc g R0.1 [] F0 v R0.2.1 w' := by rw [HR.out, mkOp_0]; have hC := sNot_is hmd.hold.own.gin (hmd.hold.at (HSub.out _ HX.out) rfl); exact hC
  clear HMD
  have HMD := Lib.hid hmd; clear hmd
  refine Ord.St.ho2 (T' := ?_) 0 [1, 2, 3, 4, 5, 6] _ _ rfl (by kernel_rfl) rfl rfl rfl rfl ?_ (fun K w' hw' hk => ?_) ?_
  rotate_left
  · exact hbf.cell rfl
  · have q1 := hw'; clear hw'; unfold mfun at q1; go_step; exact hk
  refine Ord.St.fl2 (T' := ?_) 1 [2, 3, 4, 5, 6] _ _ rfl (by kernel_rfl) rfl rfl rfl rfl (fun K w' hk => ?_) ?_
  rotate_left
  · go_step; exact hk
  refine Ord.St.fl2 (T' := ?_) 2 [3, 4, 5, 6] _ _ rfl (by kernel_rfl) rfl rfl rfl rfl (fun K w' hk => ?_) ?_
  rotate_left
  · go_step; exact hk
  refine Ord.St.efC 3 [4, 5, 6] _ rfl (by kernel_rfl) (fun K hK => ?_)
  go_wp2_with fail
  refine hC2.mono ?_
  rintro e w1 ⟨v, rfl, hg⟩
  obtain ⟨a0, c0, F1, rfl, hmd⟩ := HMD.out.word hg HOK.out.1.small HOK.out.2
  replace hbf := hmd.bf
  have hN := hmd.noted (by omega) a0 R0.2.1.length c0 R0.2.2
  clear hC2 hg hmd
  go_wp2_with fail
  refine ⟨rfl, hK _ _ ?_ ?_⟩
  · exact hbf.cell rfl
  clear hK K
  refine Ord.St.fl2 (T' := ?_) 4 [5, 6] _ _ rfl (by kernel_rfl) rfl rfl rfl rfl (fun K w' hk => ?_) ?_
  rotate_left
  · go_step; exact hk
  refine Ord.St.fl2 (T' := ?_) 5 [6] _ _ rfl (by kernel_rfl) rfl rfl rfl rfl (fun K w' hk => ?_) ?_
  rotate_left
  · go_step; exact hk
  refine Ord.St.ef 6 [] _ rfl (by kernel_rfl) (fun K hK => ?_)
  go_wp2_with fail
  refine hN.mono ?_
  rintro e W1 ⟨⟨v, rfl⟩, qa0, qc0, hmd⟩
  clear hN HMD
  have HMD0 := Lib.hid hmd; clear hmd
  go_wp2_with fail
  refine ⟨rfl, hK _ _ ?_⟩; clear hK K
  refine Ord.St.nil ?_
  have hmd : MD w0 w F W1 g (madeG G xl yl 1).1 F1 ((.slice a0 R0.2.1.length c0, natInts R0.2.1) :: L0) (B + 1) B (B + 2) (madeG G xl yl 1).2.2 qa0 1 qc0 (vs0 ++ [.slice a0 R0.2.1.length c0]) := by rw [madeG_succ]; unfold madeStep; rw [← HR.out]; exact HMD0.out
  have hvl : VL (vs0 ++ [.slice a0 R0.2.1.length c0]) (madeG G xl yl 1).2.1 ((.slice a0 R0.2.1.length c0, natInts R0.2.1) :: L0) := by rw [madeG_succ]; unfold madeStep; rw [← HR.out]; exact HVL.out.snoc _ _
  obtain ⟨L1, hL⟩ : ∃ X, X = (.slice a0 R0.2.1.length c0, natInts R0.2.1) :: L0 := ⟨_, rfl⟩
  obtain ⟨vs1, hv⟩ : ∃ X, X = vs0 ++ [.slice a0 R0.2.1.length c0] := ⟨_, rfl⟩
  rw [← hL, ← hv] at hmd hvl
  have hsub : ∀ p ∈ L, p ∈ L1 := fun p hp => by rw [hL]; exact List.mem_cons_of_mem _ (HSub.out p hp)
  clear HMD0 hL hv
  have HMD := Lib.hid hmd; clear hmd
  have HVL2 := Lib.hid hvl; clear hvl HVL
  have HVL := HVL2; clear HVL2
  have HSub2 := Lib.hid hsub; clear hsub HSub
  have HSub := HSub2; clear HSub2
  -- Neg
  have hok := mkOp_ok HMD.out.hold.own.gin.ok 1 (by omega) xl yl hlen
  obtain ⟨R1, hR⟩ : ∃ R, R = mkOp 1 (madeG G xl yl 1).1 xl yl := ⟨_, rfl⟩
  rw [← hR] at hok
  have HR := Lib.hid hR; clear hR
  have HOK := Lib.hid hok; clear hok
  go_wp2_with fail
  refine Ord.St.door (fun w' => w'.cell? ⟨B + 2, 0, none⟩ = some (mfun B)) [.ho, .fl, .fl, .ef, .fl, .fl, .ef] [0, 0, 0, 6, 14, 14, 63] [0, 1, 2, 3, 4, 5, 6] mixed (by kernel_rfl) rfl ?_
  obtain ⟨Wc, hWc⟩ : ∃ Wc, Wc = W1.drew := ⟨_, rfl⟩
  rw [← hWc]
  have hmd := HMD.out.same (by rw [hWc]; exact (Ch.refl _ _).drew : Ch [] _ Wc)
  clear hWc
  have hbf := hmd.bf
  have hC2 : Calls Tryz.prog 26 #[.pointer (some ⟨g, 0, none⟩), .slice xa xl.length xc] Wc fun e w' => ∃ v, e = .returned (.tuple #[v, .int .i64 R1.2.2]) ∧ GVo Wc g R1.1 [] F1 v R1.2.1 w' := by rw [HR.out, mkOp_1]; have hC := sNeg_is hmd.hold.own.gin (hmd.hold.at (HSub.out _ HX.out) rfl); exact hC
  clear HMD
  have HMD := Lib.hid hmd; clear hmd
  refine Ord.St.ho2 (T' := ?_) 0 [1, 2, 3, 4, 5, 6] _ _ rfl (by kernel_rfl) rfl rfl rfl rfl ?_ (fun K w' hw' hk => ?_) ?_
  rotate_left
  · exact hbf.cell rfl
  · have q1 := hw'; clear hw'; unfold mfun at q1; go_step; exact hk
  refine Ord.St.fl2 (T' := ?_) 1 [2, 3, 4, 5, 6] _ _ rfl (by kernel_rfl) rfl rfl rfl rfl (fun K w' hk => ?_) ?_
  rotate_left
  · go_step; exact hk
  refine Ord.St.fl2 (T' := ?_) 2 [3, 4, 5, 6] _ _ rfl (by kernel_rfl) rfl rfl rfl rfl (fun K w' hk => ?_) ?_
  rotate_left
  · go_step; exact hk
  refine Ord.St.efC 3 [4, 5, 6] _ rfl (by kernel_rfl) (fun K hK => ?_)
  go_wp2_with fail
  refine hC2.mono ?_
  rintro e w1 ⟨v, rfl, hg⟩
  obtain ⟨a1, c1, F2, rfl, hmd⟩ := HMD.out.word hg HOK.out.1.small HOK.out.2
  replace hbf := hmd.bf
  have hN := hmd.noted (by omega) a1 R1.2.1.length c1 R1.2.2
  clear hC2 hg hmd
  go_wp2_with fail
  refine ⟨rfl, hK _ _ ?_ ?_⟩
  · exact hbf.cell rfl
  clear hK K
  refine Ord.St.fl2 (T' := ?_) 4 [5, 6] _ _ rfl (by kernel_rfl) rfl rfl rfl rfl (fun K w' hk => ?_) ?_
  rotate_left
  · go_step; exact hk
  refine Ord.St.fl2 (T' := ?_) 5 [6] _ _ rfl (by kernel_rfl) rfl rfl rfl rfl (fun K w' hk => ?_) ?_
  rotate_left
  · go_step; exact hk
  refine Ord.St.ef 6 [] _ rfl (by kernel_rfl) (fun K hK => ?_)
  go_wp2_with fail
  refine hN.mono ?_
  rintro e W2 ⟨⟨v, rfl⟩, qa1, qc1, hmd⟩
  clear hN HMD
  have HMD0 := Lib.hid hmd; clear hmd
  go_wp2_with fail
  refine ⟨rfl, hK _ _ ?_⟩; clear hK K
  refine Ord.St.nil ?_
  have hmd : MD w0 w F W2 g (madeG G xl yl 2).1 F2 ((.slice a1 R1.2.1.length c1, natInts R1.2.1) :: L1) (B + 1) B (B + 2) (madeG G xl yl 2).2.2 qa1 2 qc1 (vs1 ++ [.slice a1 R1.2.1.length c1]) := by rw [madeG_succ]; unfold madeStep; rw [← HR.out]; exact HMD0.out
  have hvl : VL (vs1 ++ [.slice a1 R1.2.1.length c1]) (madeG G xl yl 2).2.1 ((.slice a1 R1.2.1.length c1, natInts R1.2.1) :: L1) := by rw [madeG_succ]; unfold madeStep; rw [← HR.out]; exact HVL.out.snoc _ _
  obtain ⟨L2, hL⟩ : ∃ X, X = (.slice a1 R1.2.1.length c1, natInts R1.2.1) :: L1 := ⟨_, rfl⟩
  obtain ⟨vs2, hv⟩ : ∃ X, X = vs1 ++ [.slice a1 R1.2.1.length c1] := ⟨_, rfl⟩
  rw [← hL, ← hv] at hmd hvl
  have hsub : ∀ p ∈ L, p ∈ L2 := fun p hp => by rw [hL]; exact List.mem_cons_of_mem _ (HSub.out p hp)
  clear HMD0 hL hv
  have HMD := Lib.hid hmd; clear hmd
  have HVL2 := Lib.hid hvl; clear hvl HVL
  have HVL := HVL2; clear HVL2
  have HSub2 := Lib.hid hsub; clear hsub HSub
  have HSub := HSub2; clear HSub2
  -- And
  have hok := mkOp_ok HMD.out.hold.own.gin.ok 2 (by omega) xl yl hlen
  obtain ⟨R2, hR⟩ : ∃ R, R = mkOp 2 (madeG G xl yl 2).1 xl yl := ⟨_, rfl⟩
  rw [← hR] at hok
  have HR := Lib.hid hR; clear hR
  have HOK := Lib.hid hok; clear hok
  go_wp2_with fail
  refine Ord.St.door (fun w' => w'.cell? ⟨B + 2, 0, none⟩ = some (mfun B)) [.ho, .fl, .fl, .fl, .ef, .fl, .fl, .ef] [0, 0, 0, 0, 14, 30, 30, 127] [0, 1, 2, 3, 4, 5, 6, 7] mixed (by kernel_rfl) rfl ?_
  obtain ⟨Wc, hWc⟩ : ∃ Wc, Wc = W2.drew := ⟨_, rfl⟩
  rw [← hWc]
  have hmd := HMD.out.same (by rw [hWc]; exact (Ch.refl _ _).drew : Ch [] _ Wc)
  clear hWc
  have hbf := hmd.bf
  have hC2 : Calls Tryz.prog 27 #[.pointer (some ⟨g, 0, none⟩), .slice xa xl.length xc, .slice ya yl.length yc] Wc fun e w' => ∃ v, e = .returned (.tuple #[v, .int .i64 R2.2.2]) ∧ GVo Wc g R2.1 [] F2 v R2.2.1 w' := by rw [HR.out, mkOp_2]; have hC := sAnd_is hmd.hold.own.gin (hmd.hold.at (HSub.out _ HX.out) rfl) (hmd.hold.at (HSub.out _ HY.out) rfl); exact hC
  clear HMD
  have HMD := Lib.hid hmd; clear hmd
  refine Ord.St.ho2 (T' := ?_) 0 [1, 2, 3, 4, 5, 6, 7] _ _ rfl (by kernel_rfl) rfl rfl rfl rfl ?_ (fun K w' hw' hk => ?_) ?_
  rotate_left
  · exact hbf.cell rfl
  · have q1 := hw'; clear hw'; unfold mfun at q1; go_step; exact hk
  refine Ord.St.fl2 (T' := ?_) 1 [2, 3, 4, 5, 6, 7] _ _ rfl (by kernel_rfl) rfl rfl rfl rfl (fun K w' hk => ?_) ?_
  rotate_left
  · go_step; exact hk
  refine Ord.St.fl2 (T' := ?_) 2 [3, 4, 5, 6, 7] _ _ rfl (by kernel_rfl) rfl rfl rfl rfl (fun K w' hk => ?_) ?_
  rotate_left
  · go_step; exact hk
  refine Ord.St.fl2 (T' := ?_) 3 [4, 5, 6, 7] _ _ rfl (by kernel_rfl) rfl rfl rfl rfl (fun K w' hk => ?_) ?_
  rotate_left
  · go_step; exact hk
  refine Ord.St.efC 4 [5, 6, 7] _ rfl (by kernel_rfl) (fun K hK => ?_)
  go_wp2_with fail
  refine hC2.mono ?_
  rintro e w1 ⟨v, rfl, hg⟩
  obtain ⟨a2, c2, F3, rfl, hmd⟩ := HMD.out.word hg HOK.out.1.small HOK.out.2
  replace hbf := hmd.bf
  have hN := hmd.noted (by omega) a2 R2.2.1.length c2 R2.2.2
  clear hC2 hg hmd
  go_wp2_with fail
  refine ⟨rfl, hK _ _ ?_ ?_⟩
  · exact hbf.cell rfl
  clear hK K
  refine Ord.St.fl2 (T' := ?_) 5 [6, 7] _ _ rfl (by kernel_rfl) rfl rfl rfl rfl (fun K w' hk => ?_) ?_
  rotate_left
  · go_step; exact hk
  refine Ord.St.fl2 (T' := ?_) 6 [7] _ _ rfl (by kernel_rfl) rfl rfl rfl rfl (fun K w' hk => ?_) ?_
  rotate_left
  · go_step; exact hk
  refine Ord.St.ef 7 [] _ rfl (by kernel_rfl) (fun K hK => ?_)
  go_wp2_with fail
  refine hN.mono ?_
  rintro e W3 ⟨⟨v, rfl⟩, qa2, qc2, hmd⟩
  clear hN HMD
  have HMD0 := Lib.hid hmd; clear hmd
  go_wp2_with fail
  refine ⟨rfl, hK _ _ ?_⟩; clear hK K
  refine Ord.St.nil ?_
  have hmd : MD w0 w F W3 g (madeG G xl yl 3).1 F3 ((.slice a2 R2.2.1.length c2, natInts R2.2.1) :: L2) (B + 1) B (B + 2) (madeG G xl yl 3).2.2 qa2 3 qc2 (vs2 ++ [.slice a2 R2.2.1.length c2]) := by rw [madeG_succ]; unfold madeStep; rw [← HR.out]; exact HMD0.out
  have hvl : VL (vs2 ++ [.slice a2 R2.2.1.length c2]) (madeG G xl yl 3).2.1 ((.slice a2 R2.2.1.length c2, natInts R2.2.1) :: L2) := by rw [madeG_succ]; unfold madeStep; rw [← HR.out]; exact HVL.out.snoc _ _
  obtain ⟨L3, hL⟩ : ∃ X, X = (.slice a2 R2.2.1.length c2, natInts R2.2.1) :: L2 := ⟨_, rfl⟩
  obtain ⟨vs3, hv⟩ : ∃ X, X = vs2 ++ [.slice a2 R2.2.1.length c2] := ⟨_, rfl⟩
  rw [← hL, ← hv] at hmd hvl
  have hsub : ∀ p ∈ L, p ∈ L3 := fun p hp => by rw [hL]; exact List.mem_cons_of_mem _ (HSub.out p hp)
  clear HMD0 hL hv
  have HMD := Lib.hid hmd; clear hmd
  have HVL2 := Lib.hid hvl; clear hvl HVL
  have HVL := HVL2; clear HVL2
  have HSub2 := Lib.hid hsub; clear hsub HSub
  have HSub := HSub2; clear HSub2
  -- Or
  have hok := mkOp_ok HMD.out.hold.own.gin.ok 3 (by omega) xl yl hlen
  obtain ⟨R3, hR⟩ : ∃ R, R = mkOp 3 (madeG G xl yl 3).1 xl yl := ⟨_, rfl⟩
  rw [← hR] at hok
  have HR := Lib.hid hR; clear hR
  have HOK := Lib.hid hok; clear hok
  go_wp2_with fail
  refine Ord.St.door (fun w' => w'.cell? ⟨B + 2, 0, none⟩ = some (mfun B)) [.ho, .fl, .fl, .fl, .ef, .fl, .fl, .ef] [0, 0, 0, 0, 14, 30, 30, 127] [0, 1, 2, 3, 4, 5, 6, 7] mixed (by kernel_rfl) rfl ?_
  obtain ⟨Wc, hWc⟩ : ∃ Wc, Wc = W3.drew := ⟨_, rfl⟩
  rw [← hWc]
  have hmd := HMD.out.same (by rw [hWc]; exact (Ch.refl _ _).drew : Ch [] _ Wc)
  clear hWc
  have hbf := hmd.bf
  have hC2 : Calls Tryz.prog 28 #[.pointer (some ⟨g, 0, none⟩), .slice xa xl.length xc, .slice ya yl.length yc] Wc fun e w' => ∃ v, e = .returned (.tuple #[v, .int .i64 R3.2.2]) ∧ GVo Wc g R3.1 [] F3 v R3.2.1 w' := by rw [HR.out, mkOp_3]; have hC := sOr_is hmd.hold.own.gin (hmd.hold.at (HSub.out _ HX.out) rfl) (hmd.hold.at (HSub.out _ HY.out) rfl); exact hC
  clear HMD
  have HMD := Lib.hid hmd; clear hmd
  refine Ord.St.ho2 (T' := ?_) 0 [1, 2, 3, 4, 5, 6, 7] _ _ rfl (by kernel_rfl) rfl rfl rfl rfl ?_ (fun K w' hw' hk => ?_) ?_
  rotate_left
  · exact hbf.cell rfl
  · have q1 := hw'; clear hw'; unfold mfun at q1; go_step; exact hk
  refine Ord.St.fl2 (T' := ?_) 1 [2, 3, 4, 5, 6, 7] _ _ rfl (by kernel_rfl) rfl rfl rfl rfl (fun K w' hk => ?_) ?_
  rotate_left
  · go_step; exact hk
  refine Ord.St.fl2 (T' := ?_) 2 [3, 4, 5, 6, 7] _ _ rfl (by kernel_rfl) rfl rfl rfl rfl (fun K w' hk => ?_) ?_
  rotate_left
  · go_step; exact hk
  refine Ord.St.fl2 (T' := ?_) 3 [4, 5, 6, 7] _ _ rfl (by kernel_rfl) rfl rfl rfl rfl (fun K w' hk => ?_) ?_
  rotate_left
  · go_step; exact hk
  refine Ord.St.efC 4 [5, 6, 7] _ rfl (by kernel_rfl) (fun K hK => ?_)
  go_wp2_with fail
  refine hC2.mono ?_
  rintro e w1 ⟨v, rfl, hg⟩
  obtain ⟨a3, c3, F4, rfl, hmd⟩ := HMD.out.word hg HOK.out.1.small HOK.out.2
  replace hbf := hmd.bf
  have hN := hmd.noted (by omega) a3 R3.2.1.length c3 R3.2.2
  clear hC2 hg hmd
  go_wp2_with fail
  refine ⟨rfl, hK _ _ ?_ ?_⟩
  · exact hbf.cell rfl
  clear hK K
  refine Ord.St.fl2 (T' := ?_) 5 [6, 7] _ _ rfl (by kernel_rfl) rfl rfl rfl rfl (fun K w' hk => ?_) ?_
  rotate_left
  · go_step; exact hk
  refine Ord.St.fl2 (T' := ?_) 6 [7] _ _ rfl (by kernel_rfl) rfl rfl rfl rfl (fun K w' hk => ?_) ?_
  rotate_left
  · go_step; exact hk
  refine Ord.St.ef 7 [] _ rfl (by kernel_rfl) (fun K hK => ?_)
  go_wp2_with fail
  refine hN.mono ?_
  rintro e W4 ⟨⟨v, rfl⟩, qa3, qc3, hmd⟩
  clear hN HMD
  have HMD0 := Lib.hid hmd; clear hmd
  go_wp2_with fail
  refine ⟨rfl, hK _ _ ?_⟩; clear hK K
  refine Ord.St.nil ?_
  have hmd : MD w0 w F W4 g (madeG G xl yl 4).1 F4 ((.slice a3 R3.2.1.length c3, natInts R3.2.1) :: L3) (B + 1) B (B + 2) (madeG G xl yl 4).2.2 qa3 4 qc3 (vs3 ++ [.slice a3 R3.2.1.length c3]) := by rw [madeG_succ]; unfold madeStep; rw [← HR.out]; exact HMD0.out
  have hvl : VL (vs3 ++ [.slice a3 R3.2.1.length c3]) (madeG G xl yl 4).2.1 ((.slice a3 R3.2.1.length c3, natInts R3.2.1) :: L3) := by rw [madeG_succ]; unfold madeStep; rw [← HR.out]; exact HVL.out.snoc _ _
  obtain ⟨L4, hL⟩ : ∃ X, X = (.slice a3 R3.2.1.length c3, natInts R3.2.1) :: L3 := ⟨_, rfl⟩
  obtain ⟨vs4, hv⟩ : ∃ X, X = vs3 ++ [.slice a3 R3.2.1.length c3] := ⟨_, rfl⟩
  rw [← hL, ← hv] at hmd hvl
  have hsub : ∀ p ∈ L, p ∈ L4 := fun p hp => by rw [hL]; exact List.mem_cons_of_mem _ (HSub.out p hp)
  clear HMD0 hL hv
  have HMD := Lib.hid hmd; clear hmd
  have HVL2 := Lib.hid hvl; clear hvl HVL
  have HVL := HVL2; clear HVL2
  have HSub2 := Lib.hid hsub; clear hsub HSub
  have HSub := HSub2; clear HSub2
  -- Xor
  have hok := mkOp_ok HMD.out.hold.own.gin.ok 4 (by omega) xl yl hlen
  obtain ⟨R4, hR⟩ : ∃ R, R = mkOp 4 (madeG G xl yl 4).1 xl yl := ⟨_, rfl⟩
  rw [← hR] at hok
  have HR := Lib.hid hR; clear hR
  have HOK := Lib.hid hok; clear hok
  go_wp2_with fail
  refine Ord.St.door (fun w' => w'.cell? ⟨B + 2, 0, none⟩ = some (mfun B)) [.ho, .fl, .fl, .fl, .ef, .fl, .fl, .ef] [0, 0, 0, 0, 14, 30, 30, 127] [0, 1, 2, 3, 4, 5, 6, 7] mixed (by kernel_rfl) rfl ?_
  obtain ⟨Wc, hWc⟩ : ∃ Wc, Wc = W4.drew := ⟨_, rfl⟩
  rw [← hWc]
  have hmd := HMD.out.same (by rw [hWc]; exact (Ch.refl _ _).drew : Ch [] _ Wc)
  clear hWc
  have hbf := hmd.bf
  have hC2 : Calls Tryz.prog 13 #[.pointer (some ⟨g, 0, none⟩), .slice xa xl.length xc, .slice ya yl.length yc] Wc fun e w' => ∃ v, e = .returned (.tuple #[v, .int .i64 R4.2.2]) ∧ GVo Wc g R4.1 [] F4 v R4.2.1 w' := by rw [HR.out, mkOp_4]; have hC := sXor_is hmd.hold.own.gin (hmd.hold.at (HSub.out _ HX.out) rfl) (hmd.hold.at (HSub.out _ HY.out) rfl); exact hC
  clear HMD
  have HMD := Lib.hid hmd; clear hmd
  refine Ord.St.ho2 (T' := ?_) 0 [1, 2, 3, 4, 5, 6, 7] _ _ rfl (by kernel_rfl) rfl rfl rfl rfl ?_ (fun K w' hw' hk => ?_) ?_
  rotate_left
  · exact hbf.cell rfl
  · have q1 := hw'; clear hw'; unfold mfun at q1; go_step; exact hk
  refine Ord.St.fl2 (T' := ?_) 1 [2, 3, 4, 5, 6, 7] _ _ rfl (by kernel_rfl) rfl rfl rfl rfl (fun K w' hk => ?_) ?_
  rotate_left
  · go_step; exact hk
  refine Ord.St.fl2 (T' := ?_) 2 [3, 4, 5, 6, 7] _ _ rfl (by kernel_rfl) rfl rfl rfl rfl (fun K w' hk => ?_) ?_
  rotate_left
  · go_step; exact hk
  refine Ord.St.fl2 (T' := ?_) 3 [4, 5, 6, 7] _ _ rfl (by kernel_rfl) rfl rfl rfl rfl (fun K w' hk => ?_) ?_
  rotate_left
  · go_step; exact hk
  refine Ord.St.efC 4 [5, 6, 7] _ rfl (by kernel_rfl) (fun K hK => ?_)
  go_wp2_with fail
  refine hC2.mono ?_
  rintro e w1 ⟨v, rfl, hg⟩
  obtain ⟨a4, c4, F5, rfl, hmd⟩ := HMD.out.word hg HOK.out.1.small HOK.out.2
  replace hbf := hmd.bf
  have hN := hmd.noted (by omega) a4 R4.2.1.length c4 R4.2.2
  clear hC2 hg hmd
  go_wp2_with fail
  refine ⟨rfl, hK _ _ ?_ ?_⟩
  · exact hbf.cell rfl
  clear hK K
  refine Ord.St.fl2 (T' := ?_) 5 [6, 7] _ _ rfl (by kernel_rfl) rfl rfl rfl rfl (fun K w' hk => ?_) ?_
  rotate_left
  · go_step; exact hk
  refine Ord.St.fl2 (T' := ?_) 6 [7] _ _ rfl (by kernel_rfl) rfl rfl rfl rfl (fun K w' hk => ?_) ?_
  rotate_left
  · go_step; exact hk
  refine Ord.St.ef 7 [] _ rfl (by kernel_rfl) (fun K hK => ?_)
  go_wp2_with fail
  refine hN.mono ?_
  rintro e W5 ⟨⟨v, rfl⟩, qa4, qc4, hmd⟩
  clear hN HMD
  have HMD0 := Lib.hid hmd; clear hmd
  go_wp2_with fail
  refine ⟨rfl, hK _ _ ?_⟩; clear hK K
  refine Ord.St.nil ?_
  have hmd : MD w0 w F W5 g (madeG G xl yl 5).1 F5 ((.slice a4 R4.2.1.length c4, natInts R4.2.1) :: L4) (B + 1) B (B + 2) (madeG G xl yl 5).2.2 qa4 5 qc4 (vs4 ++ [.slice a4 R4.2.1.length c4]) := by rw [madeG_succ]; unfold madeStep; rw [← HR.out]; exact HMD0.out
  have hvl : VL (vs4 ++ [.slice a4 R4.2.1.length c4]) (madeG G xl yl 5).2.1 ((.slice a4 R4.2.1.length c4, natInts R4.2.1) :: L4) := by rw [madeG_succ]; unfold madeStep; rw [← HR.out]; exact HVL.out.snoc _ _
  obtain ⟨L5, hL⟩ : ∃ X, X = (.slice a4 R4.2.1.length c4, natInts R4.2.1) :: L4 := ⟨_, rfl⟩
  obtain ⟨vs5, hv⟩ : ∃ X, X = vs4 ++ [.slice a4 R4.2.1.length c4] := ⟨_, rfl⟩
  rw [← hL, ← hv] at hmd hvl
  have hsub : ∀ p ∈ L, p ∈ L5 := fun p hp => by rw [hL]; exact List.mem_cons_of_mem _ (HSub.out p hp)
  clear HMD0 hL hv
  have HMD := Lib.hid hmd; clear hmd
  have HVL2 := Lib.hid hvl; clear hvl HVL
  have HVL := HVL2; clear HVL2
  have HSub2 := Lib.hid hsub; clear hsub HSub
  have HSub := HSub2; clear HSub2
  -- Add
  have hok := mkOp_ok HMD.out.hold.own.gin.ok 5 (by omega) xl yl hlen
  obtain ⟨R5, hR⟩ : ∃ R, R = mkOp 5 (madeG G xl yl 5).1 xl yl := ⟨_, rfl⟩
  rw [← hR] at hok
  have HR := Lib.hid hR; clear hR
  have HOK := Lib.hid hok; clear hok
  go_wp2_with fail
  refine Ord.St.door (fun w' => w'.cell? ⟨B + 2, 0, none⟩ = some (mfun B)) [.ho, .fl, .fl, .fl, .ef, .fl, .fl, .ef] [0, 0, 0, 0, 14, 30, 30, 127] [0, 1, 2, 3, 4, 5, 6, 7] mixed (by kernel_rfl) rfl ?_
  obtain ⟨Wc, hWc⟩ : ∃ Wc, Wc = W5.drew := ⟨_, rfl⟩
  rw [← hWc]
  have hmd := HMD.out.same (by rw [hWc]; exact (Ch.refl _ _).drew : Ch [] _ Wc)
  clear hWc
  have hbf := hmd.bf
  have hC2 : Calls Tryz.prog 29 #[.pointer (some ⟨g, 0, none⟩), .slice xa xl.length xc, .slice ya yl.length yc] Wc fun e w' => ∃ v, e = .returned (.tuple #[v, .int .i64 R5.2.2]) ∧ GVo Wc g R5.1 [] F5 v R5.2.1 w' := by rw [HR.out, mkOp_5]; have hC := sAdd_is hmd.hold.own.gin (hmd.hold.at (HSub.out _ HX.out) rfl) (hmd.hold.at (HSub.out _ HY.out) rfl); exact hC
  clear HMD
  have HMD := Lib.hid hmd; clear hmd
  refine Ord.St.ho2 (T' := ?_) 0 [1, 2, 3, 4, 5, 6, 7] _ _ rfl (by kernel_rfl) rfl rfl rfl rfl ?_ (fun K w' hw' hk => ?_) ?_
  rotate_left
  · exact hbf.cell rfl
  · have q1 := hw'; clear hw'; unfold mfun at q1; go_step; exact hk
  refine Ord.St.fl2 (T' := ?_) 1 [2, 3, 4, 5, 6, 7] _ _ rfl (by kernel_rfl) rfl rfl rfl rfl (fun K w' hk => ?_) ?_
  rotate_left
  · go_step; exact hk
  refine Ord.St.fl2 (T' := ?_) 2 [3, 4, 5, 6, 7] _ _ rfl (by kernel_rfl) rfl rfl rfl rfl (fun K w' hk => ?_) ?_
  rotate_left
  · go_step; exact hk
  refine Ord.St.fl2 (T' := ?_) 3 [4, 5, 6, 7] _ _ rfl (by kernel_rfl) rfl rfl rfl rfl (fun K w' hk => ?_) ?_
  rotate_left
  · go_step; exact hk
  refine Ord.St.efC 4 [5, 6, 7] _ rfl (by kernel_rfl) (fun K hK => ?_)
  go_wp2_with fail
  refine hC2.mono ?_
  rintro e w1 ⟨v, rfl, hg⟩
  obtain ⟨a5, c5, F6, rfl, hmd⟩ := HMD.out.word hg HOK.out.1.small HOK.out.2
  replace hbf := hmd.bf
  have hN := hmd.noted (by omega) a5 R5.2.1.length c5 R5.2.2
  clear hC2 hg hmd
  go_wp2_with fail
  refine ⟨rfl, hK _ _ ?_ ?_⟩
  · exact hbf.cell rfl
  clear hK K
  refine Ord.St.fl2 (T' := ?_) 5 [6, 7] _ _ rfl (by kernel_rfl) rfl rfl rfl rfl (fun K w' hk => ?_) ?_
  rotate_left
  · go_step; exact hk
  refine Ord.St.fl2 (T' := ?_) 6 [7] _ _ rfl (by kernel_rfl) rfl rfl rfl rfl (fun K w' hk => ?_) ?_
  rotate_left
  · go_step; exact hk
  refine Ord.St.ef 7 [] _ rfl (by kernel_rfl) (fun K hK => ?_)
  go_wp2_with fail
  refine hN.mono ?_
  rintro e W6 ⟨⟨v, rfl⟩, qa5, qc5, hmd⟩
  clear hN HMD
  have HMD0 := Lib.hid hmd; clear hmd
  go_wp2_with fail
  refine ⟨rfl, hK _ _ ?_⟩; clear hK K
  refine Ord.St.nil ?_
  have hmd : MD w0 w F W6 g (madeG G xl yl 6).1 F6 ((.slice a5 R5.2.1.length c5, natInts R5.2.1) :: L5) (B + 1) B (B + 2) (madeG G xl yl 6).2.2 qa5 6 qc5 (vs5 ++ [.slice a5 R5.2.1.length c5]) := by rw [madeG_succ]; unfold madeStep; rw [← HR.out]; exact HMD0.out
  have hvl : VL (vs5 ++ [.slice a5 R5.2.1.length c5]) (madeG G xl yl 6).2.1 ((.slice a5 R5.2.1.length c5, natInts R5.2.1) :: L5) := by rw [madeG_succ]; unfold madeStep; rw [← HR.out]; exact HVL.out.snoc _ _
  obtain ⟨L6, hL⟩ : ∃ X, X = (.slice a5 R5.2.1.length c5, natInts R5.2.1) :: L5 := ⟨_, rfl⟩
  obtain ⟨vs6, hv⟩ : ∃ X, X = vs5 ++ [.slice a5 R5.2.1.length c5] := ⟨_, rfl⟩
  rw [← hL, ← hv] at hmd hvl
  have hsub : ∀ p ∈ L, p ∈ L6 := fun p hp => by rw [hL]; exact List.mem_cons_of_mem _ (HSub.out p hp)
  clear HMD0 hL hv
  have HMD := Lib.hid hmd; clear hmd
  have HVL2 := Lib.hid hvl; clear hvl HVL
  have HVL := HVL2; clear HVL2
  have HSub2 := Lib.hid hsub; clear hsub HSub
  have HSub := HSub2; clear HSub2
  -- Sub
  have hok := mkOp_ok HMD.out.hold.own.gin.ok 6 (by omega) xl yl hlen
  obtain ⟨R6, hR⟩ : ∃ R, R = mkOp 6 (madeG G xl yl 6).1 xl yl := ⟨_, rfl⟩
  rw [← hR] at hok
  have HR := Lib.hid hR; clear hR
  have HOK := Lib.hid hok; clear hok
  go_wp2_with fail
  refine Ord.St.door (fun w' => w'.cell? ⟨B + 2, 0, none⟩ = some (mfun B)) [.ho, .fl, .fl, .fl, .ef, .fl, .fl, .ef] [0, 0, 0, 0, 14, 30, 30, 127] [0, 1, 2, 3, 4, 5, 6, 7] mixed (by kernel_rfl) rfl ?_
  obtain ⟨Wc, hWc⟩ : ∃ Wc, Wc = W6.drew := ⟨_, rfl⟩
  rw [← hWc]
  have hmd := HMD.out.same (by rw [hWc]; exact (Ch.refl _ _).drew : Ch [] _ Wc)
  clear hWc
  have hbf := hmd.bf
  have hC2 : Calls Tryz.prog 15 #[.pointer (some ⟨g, 0, none⟩), .slice xa xl.length xc, .slice ya yl.length yc] Wc fun e w' => ∃ v, e = .returned (.tuple #[v, .int .i64 R6.2.2]) ∧ GVo Wc g R6.1 [] F6 v R6.2.1 w' := by rw [HR.out, mkOp_6]; have hC := sSub_is hmd.hold.own.gin (hmd.hold.at (HSub.out _ HX.out) rfl) (hmd.hold.at (HSub.out _ HY.out) rfl); exact hC
  clear HMD
  have HMD := Lib.hid hmd; clear hmd
  refine Ord.St.ho2 (T' := ?_) 0 [1, 2, 3, 4, 5, 6, 7] _ _ rfl (by kernel_rfl) rfl rfl rfl rfl ?_ (fun K w' hw' hk => ?_) ?_
  rotate_left
  · exact hbf.cell rfl
  · have q1 := hw'; clear hw'; unfold mfun at q1; go_step; exact hk
  refine Ord.St.fl2 (T' := ?_) 1 [2, 3, 4, 5, 6, 7] _ _ rfl (by kernel_rfl) rfl rfl rfl rfl (fun K w' hk => ?_) ?_
  rotate_left
  · go_step; exact hk
  refine Ord.St.fl2 (T' := ?_) 2 [3, 4, 5, 6, 7] _ _ rfl (by kernel_rfl) rfl rfl rfl rfl (fun K w' hk => ?_) ?_
  rotate_left
  · go_step; exact hk
  refine Ord.St.fl2 (T' := ?_) 3 [4, 5, 6, 7] _ _ rfl (by kernel_rfl) rfl rfl rfl rfl (fun K w' hk => ?_) ?_
  rotate_left
  · go_step; exact hk
  refine Ord.St.efC 4 [5, 6, 7] _ rfl (by kernel_rfl) (fun K hK => ?_)
  go_wp2_with fail
  refine hC2.mono ?_
  rintro e w1 ⟨v, rfl, hg⟩
  obtain ⟨a6, c6, F7, rfl, hmd⟩ := HMD.out.word hg HOK.out.1.small HOK.out.2
  replace hbf := hmd.bf
  have hN := hmd.noted (by omega) a6 R6.2.1.length c6 R6.2.2
  clear hC2 hg hmd
  go_wp2_with fail
  refine ⟨rfl, hK _ _ ?_ ?_⟩
  · exact hbf.cell rfl
  clear hK K
  refine Ord.St.fl2 (T' := ?_) 5 [6, 7] _ _ rfl (by kernel_rfl) rfl rfl rfl rfl (fun K w' hk => ?_) ?_
  rotate_left
  · go_step; exact hk
  refine Ord.St.fl2 (T' := ?_) 6 [7] _ _ rfl (by kernel_rfl) rfl rfl rfl rfl (fun K w' hk => ?_) ?_
  rotate_left
  · go_step; exact hk
  refine Ord.St.ef 7 [] _ rfl (by kernel_rfl) (fun K hK => ?_)
  go_wp2_with fail
  refine hN.mono ?_
  rintro e W7 ⟨⟨v, rfl⟩, qa6, qc6, hmd⟩
  clear hN HMD
  have HMD0 := Lib.hid hmd; clear hmd
  go_wp2_with fail
  refine ⟨rfl, hK _ _ ?_⟩; clear hK K
  refine Ord.St.nil ?_
  have hmd : MD w0 w F W7 g (madeG G xl yl 7).1 F7 ((.slice a6 R6.2.1.length c6, natInts R6.2.1) :: L6) (B + 1) B (B + 2) (madeG G xl yl 7).2.2 qa6 7 qc6 (vs6 ++ [.slice a6 R6.2.1.length c6]) := by rw [madeG_succ]; unfold madeStep; rw [← HR.out]; exact HMD0.out
  have hvl : VL (vs6 ++ [.slice a6 R6.2.1.length c6]) (madeG G xl yl 7).2.1 ((.slice a6 R6.2.1.length c6, natInts R6.2.1) :: L6) := by rw [madeG_succ]; unfold madeStep; rw [← HR.out]; exact HVL.out.snoc _ _
  obtain ⟨L7, hL⟩ : ∃ X, X = (.slice a6 R6.2.1.length c6, natInts R6.2.1) :: L6 := ⟨_, rfl⟩
  obtain ⟨vs7, hv⟩ : ∃ X, X = vs6 ++ [.slice a6 R6.2.1.length c6] := ⟨_, rfl⟩
  rw [← hL, ← hv] at hmd hvl
  have hsub : ∀ p ∈ L, p ∈ L7 := fun p hp => by rw [hL]; exact List.mem_cons_of_mem _ (HSub.out p hp)
  clear HMD0 hL hv
  have HMD := Lib.hid hmd; clear hmd
  have HVL2 := Lib.hid hvl; clear hvl HVL
  have HVL := HVL2; clear HVL2
  have HSub2 := Lib.hid hsub; clear hsub HSub
  have HSub := HSub2; clear HSub2
  -- Eq
  have hok := mkOp_ok HMD.out.hold.own.gin.ok 7 (by omega) xl yl hlen
  obtain ⟨R7, hR⟩ : ∃ R : Res, R = (negG (refG (madeG G xl yl 7).1 [xl, yl] (neF ((madeG G xl yl 7).1, 0) ((nats xl).zip (nats yl))))) := ⟨_, rfl⟩
  have hmk : mkOp 7 (madeG G xl yl 7).1 xl yl = bitR R7 := by rw [hR, mkOp_7]
  have hC2 : Calls Tryz.prog 19 #[.pointer (some ⟨g, 0, none⟩), .slice xa xl.length xc, .slice ya yl.length yc] W7 fun e w' => e = .returned (.tuple #[.int .i64 R7.2.1, .int .i64 R7.2.2]) ∧ GTo W7 g R7.1 F7 w' := by rw [hR]; have hC := sEq_is HMD.out.hold.own.gin (HMD.out.hold.at (HSub.out _ HX.out) rfl) (HMD.out.hold.at (HSub.out _ HY.out) rfl); exact hC
  rw [hmk] at hok
  have hrs := hok.1.small R7.2.1 (by simp [bitR])
  have HMK := Lib.hid hmk; clear hmk hR hok
  go_wp2_with fail
  refine hC2.mono ?_
  rintro e w1 ⟨rfl, hg⟩
  obtain ⟨F8, hmd⟩ := HMD.out.ref hg
  have hN := made2_is hmd (by omega) R7.2.1 R7.2.2 hrs
  clear hC2 hg hmd HMD
  go_wp2_with fail
  refine hN.mono ?_
  rintro e W8 ⟨⟨v, rfl⟩, a7, qa7, qc7, hmd0⟩
  have HMD0 := Lib.hid hmd0; clear hmd0 hN hrs
  have hmd : MD w0 w F W8 g (madeG G xl yl 8).1 F8 ((.slice a7 1 1, natInts [R7.2.1]) :: L7) (B + 1) B (B + 2) (madeG G xl yl 8).2.2 qa7 8 qc7 (vs7 ++ [.slice a7 1 1]) := by rw [madeG_succ]; unfold madeStep; rw [HMK.out]; exact HMD0.out
  have hvl : VL (vs7 ++ [.slice a7 1 1]) (madeG G xl yl 8).2.1 ((.slice a7 1 1, natInts [R7.2.1]) :: L7) := by rw [madeG_succ]; unfold madeStep; rw [HMK.out]; exact HVL.out.snoc _ _
  obtain ⟨L8, hL⟩ : ∃ X, X = (.slice a7 1 1, natInts [R7.2.1]) :: L7 := ⟨_, rfl⟩
  obtain ⟨vs8, hv⟩ : ∃ X, X = vs7 ++ [.slice a7 1 1] := ⟨_, rfl⟩
  rw [← hL, ← hv] at hmd hvl
  have hsub : ∀ p ∈ L, p ∈ L8 := fun p hp => by rw [hL]; exact List.mem_cons_of_mem _ (HSub.out p hp)
  clear HMD0 hL hv
  have HMD := Lib.hid hmd; clear hmd
  have HVL2 := Lib.hid hvl; clear hvl HVL
  have HVL := HVL2; clear HVL2
  have HSub2 := Lib.hid hsub; clear hsub HSub
  have HSub := HSub2; clear HSub2
  -- Ne
  have hok := mkOp_ok HMD.out.hold.own.gin.ok 8 (by omega) xl yl hlen
  obtain ⟨R8, hR⟩ : ∃ R : Res, R = (refG (madeG G xl yl 8).1 [xl, yl] (neF ((madeG G xl yl 8).1, 0) ((nats xl).zip (nats yl)))) := ⟨_, rfl⟩
  have hmk : mkOp 8 (madeG G xl yl 8).1 xl yl = bitR R8 := by rw [hR, mkOp_8]
  have hC2 : Calls Tryz.prog 30 #[.pointer (some ⟨g, 0, none⟩), .slice xa xl.length xc, .slice ya yl.length yc] W8 fun e w' => e = .returned (.tuple #[.int .i64 R8.2.1, .int .i64 R8.2.2]) ∧ GTo W8 g R8.1 F8 w' := by rw [hR]; have hC := sNe_is HMD.out.hold.own.gin (HMD.out.hold.at (HSub.out _ HX.out) rfl) (HMD.out.hold.at (HSub.out _ HY.out) rfl); exact hC
  rw [hmk] at hok
  have hrs := hok.1.small R8.2.1 (by simp [bitR])
  have HMK := Lib.hid hmk; clear hmk hR hok
  go_wp2_with fail
  refine hC2.mono ?_
  rintro e w1 ⟨rfl, hg⟩
  obtain ⟨F9, hmd⟩ := HMD.out.ref hg
  have hN := made2_is hmd (by omega) R8.2.1 R8.2.2 hrs
  clear hC2 hg hmd HMD
  go_wp2_with fail
  refine hN.mono ?_
  rintro e W9 ⟨⟨v, rfl⟩, a8, qa8, qc8, hmd0⟩
  have HMD0 := Lib.hid hmd0; clear hmd0 hN hrs
  have hmd : MD w0 w F W9 g (madeG G xl yl 9).1 F9 ((.slice a8 1 1, natInts [R8.2.1]) :: L8) (B + 1) B (B + 2) (madeG G xl yl 9).2.2 qa8 9 qc8 (vs8 ++ [.slice a8 1 1]) := by rw [madeG_succ]; unfold madeStep; rw [HMK.out]; exact HMD0.out
  have hvl : VL (vs8 ++ [.slice a8 1 1]) (madeG G xl yl 9).2.1 ((.slice a8 1 1, natInts [R8.2.1]) :: L8) := by rw [madeG_succ]; unfold madeStep; rw [HMK.out]; exact HVL.out.snoc _ _
  obtain ⟨L9, hL⟩ : ∃ X, X = (.slice a8 1 1, natInts [R8.2.1]) :: L8 := ⟨_, rfl⟩
  obtain ⟨vs9, hv⟩ : ∃ X, X = vs8 ++ [.slice a8 1 1] := ⟨_, rfl⟩
  rw [← hL, ← hv] at hmd hvl
  have hsub : ∀ p ∈ L, p ∈ L9 := fun p hp => by rw [hL]; exact List.mem_cons_of_mem _ (HSub.out p hp)
  clear HMD0 hL hv
  have HMD := Lib.hid hmd; clear hmd
  have HVL2 := Lib.hid hvl; clear hvl HVL
  have HVL := HVL2; clear HVL2
  have HSub2 := Lib.hid hsub; clear hsub HSub
  have HSub := HSub2; clear HSub2
  -- Lt
  have hok := mkOp_ok HMD.out.hold.own.gin.ok 9 (by omega) xl yl hlen
  obtain ⟨R9, hR⟩ : ∃ R : Res, R = (refG (madeG G xl yl 9).1 [xl, yl] (ltF ((madeG G xl yl 9).1, 0) ((nats xl).zip (nats yl)))) := ⟨_, rfl⟩
  have hmk : mkOp 9 (madeG G xl yl 9).1 xl yl = bitR R9 := by rw [hR, mkOp_9]
  have hC2 : Calls Tryz.prog 16 #[.pointer (some ⟨g, 0, none⟩), .slice xa xl.length xc, .slice ya yl.length yc] W9 fun e w' => e = .returned (.tuple #[.int .i64 R9.2.1, .int .i64 R9.2.2]) ∧ GTo W9 g R9.1 F9 w' := by rw [hR]; have hC := sLt_is HMD.out.hold.own.gin (HMD.out.hold.at (HSub.out _ HX.out) rfl) (HMD.out.hold.at (HSub.out _ HY.out) rfl); exact hC
  rw [hmk] at hok
  have hrs := hok.1.small R9.2.1 (by simp [bitR])
  have HMK := Lib.hid hmk; clear hmk hR hok
  go_wp2_with fail
  refine hC2.mono ?_
  rintro e w1 ⟨rfl, hg⟩
  obtain ⟨F10, hmd⟩ := HMD.out.ref hg
  have hN := made2_is hmd (by omega) R9.2.1 R9.2.2 hrs
  clear hC2 hg hmd HMD
  go_wp2_with fail
  refine hN.mono ?_
  rintro e W10 ⟨⟨v, rfl⟩, a9, qa9, qc9, hmd0⟩
  have HMD0 := Lib.hid hmd0; clear hmd0 hN hrs
  have hmd : MD w0 w F W10 g (madeG G xl yl 10).1 F10 ((.slice a9 1 1, natInts [R9.2.1]) :: L9) (B + 1) B (B + 2) (madeG G xl yl 10).2.2 qa9 10 qc9 (vs9 ++ [.slice a9 1 1]) := by rw [madeG_succ]; unfold madeStep; rw [HMK.out]; exact HMD0.out
  have hvl : VL (vs9 ++ [.slice a9 1 1]) (madeG G xl yl 10).2.1 ((.slice a9 1 1, natInts [R9.2.1]) :: L9) := by rw [madeG_succ]; unfold madeStep; rw [HMK.out]; exact HVL.out.snoc _ _
  obtain ⟨L10, hL⟩ : ∃ X, X = (.slice a9 1 1, natInts [R9.2.1]) :: L9 := ⟨_, rfl⟩
  obtain ⟨vs10, hv⟩ : ∃ X, X = vs9 ++ [.slice a9 1 1] := ⟨_, rfl⟩
  rw [← hL, ← hv] at hmd hvl
  have hsub : ∀ p ∈ L, p ∈ L10 := fun p hp => by rw [hL]; exact List.mem_cons_of_mem _ (HSub.out p hp)
  clear HMD0 hL hv
  have HMD := Lib.hid hmd; clear hmd
  have HVL2 := Lib.hid hvl; clear hvl HVL
  have HVL := HVL2; clear HVL2
  have HSub2 := Lib.hid hsub; clear hsub HSub
  have HSub := HSub2; clear HSub2
  -- Le
  have hok := mkOp_ok HMD.out.hold.own.gin.ok 10 (by omega) xl yl hlen
  obtain ⟨R10, hR⟩ : ∃ R : Res, R = (negG (refG (madeG G xl yl 10).1 [yl, xl] (ltF ((madeG G xl yl 10).1, 0) ((nats yl).zip (nats xl))))) := ⟨_, rfl⟩
  have hmk : mkOp 10 (madeG G xl yl 10).1 xl yl = bitR R10 := by rw [hR, mkOp_10]
  have hC2 : Calls Tryz.prog 31 #[.pointer (some ⟨g, 0, none⟩), .slice xa xl.length xc, .slice ya yl.length yc] W10 fun e w' => e = .returned (.tuple #[.int .i64 R10.2.1, .int .i64 R10.2.2]) ∧ GTo W10 g R10.1 F10 w' := by rw [hR]; have hC := sLe_is HMD.out.hold.own.gin (HMD.out.hold.at (HSub.out _ HX.out) rfl) (HMD.out.hold.at (HSub.out _ HY.out) rfl); exact hC
  rw [hmk] at hok
  have hrs := hok.1.small R10.2.1 (by simp [bitR])
  have HMK := Lib.hid hmk; clear hmk hR hok
  go_wp2_with fail
  refine hC2.mono ?_
  rintro e w1 ⟨rfl, hg⟩
  obtain ⟨F11, hmd⟩ := HMD.out.ref hg
  have hN := made2_is hmd (by omega) R10.2.1 R10.2.2 hrs
  clear hC2 hg hmd HMD
  go_wp2_with fail
  refine hN.mono ?_
  rintro e W11 ⟨⟨v, rfl⟩, a10, qa10, qc10, hmd0⟩
  have HMD0 := Lib.hid hmd0; clear hmd0 hN hrs
  have hmd : MD w0 w F W11 g (madeG G xl yl 11).1 F11 ((.slice a10 1 1, natInts [R10.2.1]) :: L10) (B + 1) B (B + 2) (madeG G xl yl 11).2.2 qa10 11 qc10 (vs10 ++ [.slice a10 1 1]) := by rw [madeG_succ]; unfold madeStep; rw [HMK.out]; exact HMD0.out
  have hvl : VL (vs10 ++ [.slice a10 1 1]) (madeG G xl yl 11).2.1 ((.slice a10 1 1, natInts [R10.2.1]) :: L10) := by rw [madeG_succ]; unfold madeStep; rw [HMK.out]; exact HVL.out.snoc _ _
  obtain ⟨L11, hL⟩ : ∃ X, X = (.slice a10 1 1, natInts [R10.2.1]) :: L10 := ⟨_, rfl⟩
  obtain ⟨vs11, hv⟩ : ∃ X, X = vs10 ++ [.slice a10 1 1] := ⟨_, rfl⟩
  rw [← hL, ← hv] at hmd hvl
  have hsub : ∀ p ∈ L, p ∈ L11 := fun p hp => by rw [hL]; exact List.mem_cons_of_mem _ (HSub.out p hp)
  clear HMD0 hL hv
  have HMD := Lib.hid hmd; clear hmd
  have HVL2 := Lib.hid hvl; clear hvl HVL
  have HVL := HVL2; clear HVL2
  have HSub2 := Lib.hid hsub; clear hsub HSub
  have HSub := HSub2; clear HSub2
  generalize hokk : (madeG G xl yl 11).2.2 = okk at *
  have HOKK := Lib.hid hokk; clear hokk
  have hbo := HMD.out.bo
  have hbk := HMD.out.bk
  go_wp2_with fail
  refine Ord.St.door (fun w' => w'.cell? ⟨B, 0, none⟩ = some (.slice qa10 11 qc10) ∧ w'.cell? ⟨B + 1, 0, none⟩ = some (.bool okk)) [.ho, .ef, .ho, .fl, .fl, .fl] [0, 0, 0, 1, 11, 31] [0, 1, 2, 3, 4, 5] mixed (by kernel_rfl) rfl ?_
  obtain ⟨Wc, hWc⟩ : ∃ Wc, Wc = W11.drew := ⟨_, rfl⟩
  rw [← hWc]
  have hmd := HMD.out.same (by rw [hWc]; exact (Ch.refl _ _).drew : Ch [] _ Wc)
  clear hWc HMD
  replace hbo := hmd.bo
  replace hbk := hmd.bk
  have HMD := Lib.hid hmd; clear hmd
  refine Ord.St.ho2 (T' := ?_) 0 [1, 2, 3, 4, 5] _ _ rfl (by kernel_rfl) rfl rfl rfl rfl ?_ (fun K w' hw' hk => ?_) ?_
  rotate_left
  · exact ⟨hbo.cell rfl, hbk.cell rfl⟩
  · obtain ⟨q1, q2⟩ := hw'; go_step; exact hk
  refine Ord.St.ho2 (T' := ?_) 2 [1, 3, 4, 5] _ _ rfl (by kernel_rfl) rfl rfl rfl rfl ?_ (fun K w' hw' hk => ?_) ?_
  rotate_left
  · exact ⟨hbo.cell rfl, hbk.cell rfl⟩
  · obtain ⟨q1, q2⟩ := hw'; go_step; exact hk
  refine Ord.St.fl2 (T' := ?_) 3 [1, 4, 5] _ _ rfl (by kernel_rfl) rfl rfl rfl rfl (fun K w' hk => ?_) ?_
  rotate_left
  · go_step; exact hk
  refine Ord.St.efC 1 [4, 5] _ rfl (by kernel_rfl) (fun K hK => ?_)
  go_wp2_with fail
  refine ⟨rfl, hK _ _ ?_ ?_⟩
  · exact ⟨(hbo.alloc _).cell rfl, (hbk.alloc _).cell rfl⟩
  clear hK K
  refine Ord.St.alw ?_; intro Wn hWn
  have hcn := alw_ch hWn
  have hops := alw_blk (xs := ([1, 2, 8, 9, 10, 3, 4, 13, 14, 15, 16].map fun (z : Int) => Value.int .u8 z)) hWn
  clear hWn
  replace hbo := hbo.ch hcn (by simp)
  replace hbk := hbk.ch hcn (by simp)
  refine Ord.St.fl2 (T' := ?_) 4 [5] _ _ rfl (by kernel_rfl) rfl rfl rfl rfl (fun K w' hk => ?_) ?_
  rotate_left
  · go_step; exact hk
  refine Ord.St.fl2 (T' := ?_) 5 [] _ _ rfl (by kernel_rfl) rfl rfl rfl rfl (fun K w' hk => ?_) ?_
  rotate_left
  · go_step; exact hk
  refine Ord.St.nil ?_
  go_wp2_with fail
  have hm2 := HMD.out.same hcn
  have hz2 := HMD.out.hold.own.ch.size
  have hlt2 := GIn.lt HMD.out.hold.own.gin
  go_ret3
  refine ⟨F11, L11, qa10, qc10, Wc.heap.size, vs11, ?_, hm2.hold, HSub.out, HVL.out, hm2.row, fun k hk => ⟨(hm2.oo k hk).1, (hm2.oo k hk).2.1⟩, hops, hz2, fun hk => (by have := hlt2 _ hk; omega), hm2.ch1, hm2.f1⟩
  rw [HOKK.out]; rfl
end
end Go.Proofs.YtnmfdiiehkkjcaaGreat
namespace Go.Aig
theorem madeG_len (G : Gra) (x y : List Int) : ∀ n, (madeG G x y n).2.1.length = n
  | 0 => rfl
  | n + 1 => by
    rw [madeG_succ]
    unfold madeStep
    simp [madeG_len G x y n]
def goodL (L A : List (List Nat)) : Prop := ∀ (i : Nat) (l a : List Nat), L[i]? = some l → A[i]? = some a → l = [] ∨ l = a ∨ l = [0]
def goodB (L A : List (List Nat)) : Bool := (L.zip A).all fun p => p.1 == [] || p.1 == p.2 || p.1 == [0]
theorem goodB_L {L A : List (List Nat)} (h : goodB L A = true) : goodL L A := fun i l a hl ha => by
  have hz : (L.zip A)[i]? = some (l, a) := by rw [List.getElem?_zip_eq_some]; exact ⟨hl, ha⟩
  have := List.all_eq_true.1 h (l, a) (List.mem_of_getElem? hz)
  simp at this
  rcases this with (h | h) | h
  · exact .inl h
  · exact .inr (.inl h)
  · exact .inr (.inr h)
def againB (n : Nat) : Bool :=
  let x := natInts (rIn 0 n)
  let y := natInts (rIn n n)
  let A := madeG (gIn 4000 (2 * n)) x y 11
  let N := A.1.nodes.length
  let B := madeG A.1 x y 11
  let C := madeG (gIn N (2 * n)) x y 11
  let D := madeG (gIn (N - 1) (2 * n)) x y 11
  A.2.2 && B.2.2 && B.1.nodes.length == N && A.2.1 == B.2.1 && C.2.2 && !D.2.2 && decide (D.1.nodes.length ≤ N - 1) && decide (2 * n + 1 < N - 1) && decide (N ≤ 4000) && goodB C.2.1 A.2.1 && goodB D.2.1 A.2.1
set_option maxRecDepth 100000 in
theorem again_all : (List.range 5).all (fun i => againB (i + 1)) = true := by decide +kernel
structure AgainF (n N : Nat) (GA GB GC GD : Gra) (lA lC lD : List (List Nat)) : Prop where
  a : madeG (gIn 4000 (2 * n)) (natInts (rIn 0 n)) (natInts (rIn n n)) 11 = (GA, lA, true)
  an : GA.nodes.length = N
  b : madeG GA (natInts (rIn 0 n)) (natInts (rIn n n)) 11 = (GB, lA, true)
  bn : GB.nodes.length = N
  c : madeG (gIn N (2 * n)) (natInts (rIn 0 n)) (natInts (rIn n n)) 11 = (GC, lC, true)
  d : madeG (gIn (N - 1) (2 * n)) (natInts (rIn 0 n)) (natInts (rIn n n)) 11 = (GD, lD, false)
  dn : GD.nodes.length ≤ N - 1
  lo : 2 * n + 1 < N - 1
  hi : N ≤ 4000
  gc : goodL lC lA
  gd : goodL lD lA
  la : lA.length = 11
  lc : lC.length = 11
  ld : lD.length = 11
theorem again_facts {n : Nat} (h1 : 1 ≤ n) (h5 : n ≤ 5) : ∃ N GA GB GC GD lA lC lD, AgainF n N GA GB GC GD lA lC lD := by
  have h := List.all_eq_true.1 again_all (n - 1) (List.mem_range.2 (by omega))
  rw [show n - 1 + 1 = n by omega] at h
  unfold againB at h
  dsimp only at h
  have l1 := madeG_len (gIn 4000 (2 * n)) (natInts (rIn 0 n)) (natInts (rIn n n)) 11
  generalize hA : madeG (gIn 4000 (2 * n)) (natInts (rIn 0 n)) (natInts (rIn n n)) 11 = A at h l1
  have l2 := madeG_len (gIn A.1.nodes.length (2 * n)) (natInts (rIn 0 n)) (natInts (rIn n n)) 11
  have l3 := madeG_len (gIn (A.1.nodes.length - 1) (2 * n)) (natInts (rIn 0 n)) (natInts (rIn n n)) 11
  generalize hB : madeG A.1 (natInts (rIn 0 n)) (natInts (rIn n n)) 11 = B at h
  generalize hC : madeG (gIn A.1.nodes.length (2 * n)) (natInts (rIn 0 n)) (natInts (rIn n n)) 11 = C at h l2
  generalize hD : madeG (gIn (A.1.nodes.length - 1) (2 * n)) (natInts (rIn 0 n)) (natInts (rIn n n)) 11 = D at h l3
  obtain ⟨GA, lA, oA⟩ := A
  obtain ⟨GB, lB, oB⟩ := B
  obtain ⟨GC, lC, oC⟩ := C
  obtain ⟨GD, lD, oD⟩ := D
  simp only [Bool.and_eq_true, Bool.not_eq_true', decide_eq_true_eq, beq_iff_eq] at h
  obtain ⟨⟨⟨⟨⟨⟨⟨⟨⟨⟨a1, a2⟩, a3⟩, a4⟩, a5⟩, a6⟩, a7⟩, a8⟩, a9⟩, a10⟩, a11⟩ := h
  subst a1 a2 a4 a5 a6
  exact ⟨GA.nodes.length, GA, GB, GC, GD, lA, lC, lD, ⟨hA, rfl, hB, a3, hC, hD, a7, a8, a9, goodB_L a10, goodB_L a11, l1, l2, l3⟩⟩
end Go.Aig
namespace Go.Proofs.YtnmfdiiehkkjcaaGreat
open Go.RowKit Go.Mem Go.Aig
theorem VL.at {w0 w : World} {g : Nat} {G : Gra} {F : List Nat} {L : List (Value × List Int)} {vs : List Value} {ls : List (List Nat)} (hv : VL vs ls L) (h : Hold w0 w g G F L) {k : Nat} {l : List Nat} (hl : ls[k]? = some l) : ∃ a c, vs[k]? = some (.slice a l.length c) ∧ (.slice a l.length c, natInts l) ∈ L := by
  have hlt := (List.getElem?_eq_some_iff.1 hl).1
  rw [← hv.len] at hlt
  have hu : vs[k]? = some vs[k] := List.getElem?_eq_getElem hlt
  have hm := hv.mem k _ l hu hl
  have hr := (h.held _ hm).row
  simp only [natInts_len] at hr
  obtain ⟨a, c, e⟩ := row.shape hr
  have e2 : vs[k] = .slice a l.length c := e
  rw [e2] at hu hm
  exact ⟨a, c, hu, hm⟩
theorem row_at {w : World} {e : TypeId} {b n c : Nat} {vs : List Value} (h : row w e 1 (.slice (some ⟨b, 0, none⟩) n c) n vs) {k : Nat} {v : Value} (hk : vs[k]? = some v) : w.cell? ⟨b, k, none⟩ = some v := by
  have := h.cells (g := b) rfl k v hk
  rw [Addr.add_lit] at this
  simpa using this
theorem max_nat (z : Int) (k m : Nat) (h : max z k = m) (ats : Array TypeId) (ty : TypeId) : Builtin.max_ ats ty #[.int .i64 z, .int .i64 (k : Int)] = pure (.int .i64 (m : Int)) := by
  have e : (if z < (k : Int) then (k : Int) else z) = m := by split <;> omega
  rw [← e]
  simp [Builtin.max_, Builtin.max2]
theorem max_one (z : Int) (m : Nat) (h : max z 1 = m) (ats : Array TypeId) (ty : TypeId) : Builtin.max_ ats ty #[.int .i64 z, .int .i64 1] = pure (.int .i64 (m : Int)) := max_nat z 1 m h ats ty
end Go.Proofs.YtnmfdiiehkkjcaaGreat
namespace Go.Proofs.YtnmfdiiehkkjcaaGreat
open Go.RowKit Go.Mem Go.Aig
theorem _root_.Go.Mem.blk.keep {w W : World} {b : Nat} {xs : List Value} (h : blk w b xs) (hk : W.heap[b]? = w.heap[b]?) : blk W b xs := by
  obtain ⟨T, h⟩ := h
  exact ⟨T, hk.trans h⟩
theorem _root_.Go.Mem.row.keep {w W : World} {e : TypeId} {size : Nat} {v : Value} {n : Nat} {xs : List Value} (h : row w e size v n xs) (hk : ∀ k, v.ownBlock = some k → W.heap[k]? = w.heap[k]?) : row W e size v n xs := by
  refine ⟨h.1, ?_⟩
  rcases h.2 with hn' | ⟨g, cap, cur, rfl, hb, hgg, rest⟩
  · exact .inl hn'
  · exact .inr ⟨g, cap, cur, rfl, hb, (hk g rfl).trans hgg, rest⟩
theorem GIn.keep {w W : World} {g : Nat} {G : Gra} {F : List Nat} (h : GIn w g G F) (hk : ∀ k ∈ F, W.heap[k]? = w.heap[k]?) : GIn W g G F := by
  obtain ⟨nb, ncap, iv, mb, h, rfl⟩ := h
  refine ⟨nb, ncap, iv, mb, ⟨h.st.keep (hk g (by simp [fp])), h.nodes.keep (fun k hk' => hk k (by simp [Value.ownBlock] at hk'; simp [fp, hk'])), ?_, h.ins.keep (fun k hk' => hk k (by simp [fp, hk'])), h.gm, h.gn, h.mn, h.gi, h.ni, h.mi, h.ok⟩, rfl⟩
  obtain ⟨es, clock, hm, ho⟩ := h.mp
  exact ⟨es, clock, (hk mb (by simp [fp])).trans hm, ho⟩
/-- a closure that tells a word, by the words of the nodes -/
structure TellW (w : World) (fid : Nat) (caps : Array Value) (K : List Nat) (n : Nat) (f : List Nat → Nat) : Prop where
  fn : Fnv fid
  lt : ∀ vs : List Nat, (∀ v ∈ vs, v < 2 ^ 64) → vs.length = n → f vs < 2 ^ 64
  ksz : ∀ k ∈ K, k < w.heap.size
  tells : ∀ W, (∀ k ∈ K, W.heap[k]? = w.heap[k]?) → ∀ (bx nb : Nat) (vs : List Nat), vs.length = n → (∀ v ∈ vs, v < 2 ^ 64) → W.cell? ⟨bx, 0, none⟩ = some (.slice (some ⟨nb, 0, none⟩) n n) → blk W nb (u64s vs) →
    Calls Tryz.prog fid (#[.func (.func 105) #[] #[.pointer (some ⟨bx, 0, none⟩)]] ++ caps) W fun e w' => e = .returned (.int .u64 (f vs)) ∧ Ch [] W w'
/-- what the table yields: the block's number, and its word -/
def tabL (ns : List Nd) (f : List Nat → Nat) (n : Nat) : List (Nat × Nat) := (List.range (2 ^ (n - 6))).map fun b => (b, f (wvF M64 (inW n b) ns).1 &&& maskW n)
def tabEnc (p : Nat × Nat) : Array Value := #[.int .i64 p.1, .int .u64 p.2]
theorem tabL_snd (ns : List Nd) (f : List Nat → Nat) (n : Nat) : (tabL ns f n).map Prod.snd = tabW ns f n := by
  unfold tabL tabW
  rw [List.map_map]; rfl
theorem tabL_len (ns : List Nd) (f : List Nat → Nat) (n : Nat) : (tabL ns f n).length = 2 ^ (n - 6) := by simp [tabL]
theorem tabL_at (ns : List Nd) (f : List Nat → Nat) (n : Nat) {k : Nat} (hk : k < 2 ^ (n - 6)) : (tabL ns f n)[k]? = some (k, f (wvF M64 (inW n k) ns).1 &&& maskW n) := by
  unfold tabL
  rw [List.getElem?_map, List.getElem?_range hk]; rfl
theorem mask_lt (n : Nat) : maskW n < 18446744073709551616 := by
  unfold maskW
  split
  · rename_i h
    have h2 : 2 ^ n ≤ 2 ^ 5 := Nat.pow_le_pow_right (by omega) (by omega)
    have h3 : 2 ^ 2 ^ n ≤ 2 ^ 2 ^ 5 := Nat.pow_le_pow_right (by omega) h2
    have h4 : (2 : Nat) ^ 2 ^ 5 = 4294967296 := by decide
    omega
  · unfold M64; omega
end Go.Proofs.YtnmfdiiehkkjcaaGreat
namespace Go.Ord
open Go
theorem list_wide {lp n : Nat} {P : Program} {ops : Array Oper} {Q : Exit → Act → World → Prop} (hnl : ¬ LetsOut Q) : ∀ (l : List Oper) (a : Act) (w : World), l.all noDefer = true → wpList P ops Q l a w → wpListIn (Fence.wide.inRound lp) n P ops Q l a w
  | [], _, _, _, h => h
  | o :: rest, a, w, hq, h => by
    rw [List.all_cons, Bool.and_eq_true] at hq
    unfold wpList at h
    unfold wpListIn
    split
    · rename_i hw
      rw [if_pos hw] at h
      exact wide_in hq.1 (Oper.wp_mono (fun a w hh => list_wide hnl rest a w hq.2 hh) (h.resolve_right fun hh => hnl hh.2))
    · rename_i hw
      rw [if_neg hw] at h
      exact ⟨fun _ _ => trivial, list_wide hnl rest _ w hq.2 h⟩
theorem plainR {lp n id : Nat} {P : Program} {l : List Oper} {Q' : Exit → Act → World → Prop} {a : Act} {w : World} (hqq : l.all noDefer = true) (h : wpList P l.toArray (only (Q' .normal)) l a w) :
    (Code.region id l.toArray false).wpIn (Fence.wide.inRound lp) n P Q' a w := by
  refine Go.wpIn_mono (Q := only (Q' .normal)) ?_ (fun e a w ⟨he, hq⟩ => he ▸ hq)
  exact wpIn_region_lit (list_wide (only_lets _) l a w hqq h)
end Go.Ord
namespace Go.Proofs.YtnmfdiiehkkjcaaGreat
open Go.RowKit Go.Mem Go.Aig
attribute [local go_sem] Oper.semAt_some
/-- what tabled tells -/
def tabE (G : Gra) (l : List Int) : Nat := if badIn G l then 200 else if 16 < (inputs G.nodes).length then 211 else 0
theorem tabE_lt (G : Gra) (l : List Int) : tabE G l ≤ 211 := by unfold tabE; (repeat' split) <;> omega
theorem tabE_ok {G : Gra} {l : List Int} (h : tabE G l = 0) : badIn G l = false ∧ (inputs G.nodes).length ≤ 16 := by
  unfold tabE at h
  by_cases h1 : badIn G l = true
  · rw [if_pos h1] at h; cases h
  · rw [if_neg h1] at h
    split at h
    · cases h
    · exact ⟨by simpa using h1, by omega⟩
section
variable {w : World} {g : Nat} {G : Gra} {F : List Nat}
theorem Sl.one {w : World} {b : Nat} {r : Int} (h : blk w b [.int .i64 r]) : Sl w (some ⟨b, 0, none⟩) [r] := ⟨fun i x hx => by
  rcases i with _ | i
  · cases hx; exact ⟨b, 0, rfl, h.cell rfl⟩
  · simp at hx, by simp⟩
/-- the word of a reference, of the words of the nodes -/
def oneF (r : Int) : List Nat → Nat := fun vs => wref M64 vs r.toNat
/-- what Table returns -/
def tableR (G : Gra) (r : Int) : List Nat × Nat := (if tabE G [r] = 0 then tabW G.nodes (oneF r) (inputs G.nodes).length else [], tabE G [r])
end
end Go.Proofs.YtnmfdiiehkkjcaaGreat
namespace Go.Aig
theorem cntT_le (t : List Nat) : cntT t ≤ 64 * t.length := by
  unfold cntT
  induction t with
  | nil => simp
  | cons a t ih => have := cnt_le a; simp only [List.map_cons, List.sum_cons, List.length_cons]; omega
end Go.Aig
namespace Go.Proofs.YtnmfdiiehkkjcaaGreat
open Go.RowKit Go.Mem Go.Aig
attribute [local go_sem] Oper.semAt_some
/-- what Count returns -/
def countR (G : Gra) (r : Int) : Nat × Nat := (if tabE G [r] = 0 then countV (inputs G.nodes).length (tellR G.nodes (inputs G.nodes).length r.toNat) else 0, tabE G [r])
section
variable {w : World} {g : Nat} {G : Gra} {F : List Nat}
end
end Go.Proofs.YtnmfdiiehkkjcaaGreat
namespace Go
open Go.RowKit Go.Mem
section
variable {F : Fence} {n : Nat} {P : Program}
theorem wpIn_rangeFunc_E {α : Type} {g : Operand} {ps : Array Tmp} {assign body : Code} {Q : Exit → Act → World → Prop} {a : Act} {w : World} (id : Nat) (B : Nat) (hB : w.heap.size = B)
    (hro : F.round = none) (h1 : 1 ≤ n) {gf : Nat} {lb : Array Value} (hg : a.eval g = .func (.func gf) #[] lb) (hFg : F.fn gf) (eg : ∀ args w, (callFunc gf args).run P w = .ok (.enter gf args) w)
    {encs : α → Array Value} {K : List Nat} {xs : List α} (hseq : SeqP F (n - 1) P gf lb encs K xs w) (hK : ∀ k ∈ K, k < B) (hps : ∀ x, (encs x).size = ps.size)
    (I : List α → World → Prop) (Ix : World → Prop) (hI : ∀ s A A', I s A → Ch [B, B + 1] A A' → I s A') (hIx : ∀ A A', Ix A → Ch [B, B + 1] A A' → Ix A') (h0 : I [] w) (a₁ : α → Act)
    (hassign : ∀ (l : Nat) (x : α) (W : World) (K : Act → World → Prop), K (a₁ x) W →
      assign.wpIn (F.inRound l) (n - 1 - 1) P (Exit.then K (fun _ _ _ => False)) { tmps := (ps.zip (encs x)).foldl (fun t (p, v) => t.setIfInBounds p v) a.tmps, defers := [] } W)
    (hbody : ∀ (l : Nat) (pre : List α) (x : α) (W : World), I pre W → B + 2 ≤ W.heap.size → (pre ++ [x]) <+: xs → body.wpIn (F.inRound l) (n - 1 - 1) P (fun e _ W' => Books B W W' ∧ ((e = .normal ∧ I (pre ++ [x]) W' ∧ Kept K W W') ∨ (e = .exit id ∧ Ix W'))) (a₁ x) W)
    (hdone : ∀ (W : World), I xs W → W.heap[B]? = some (.deferred (some [])) → B + 2 ≤ W.heap.size → Q .normal { a with defers := { target := .collected B, args := #[] } :: a.defers } W)
    (hstop : ∀ (W : World), Ix W → W.heap[B]? = some (.deferred (some [])) → B + 2 ≤ W.heap.size → (Code.exit id).wpIn F n P Q { a with defers := { target := .collected B, args := #[] } :: a.defers } W) :
    (Code.rangeFunc g ps assign body).wpIn F n P Q a w := by
  subst hB
  refine wpIn_rangeFunc fun fn hfn => ?_
  rw [hro]
  let rec0 : LoopState → Option Code → Loop := fun st pe => { state := st, pending := pe, fn, tmps := a.tmps, params := ps, assign, body, defers := w.heap.size }
  obtain ⟨W1, hW1⟩ : ∃ W1, (w.alloc (.deferred (some []))).alloc (.loop (rec0 .ready none)) = W1 := ⟨_, rfl⟩
  have hz1 : W1.heap.size = w.heap.size + 2 := by rw [← hW1]; simp
  have hL1 : W1.heap[w.heap.size + 1]? = some (.loop (rec0 .ready none)) := by
    rw [← hW1]; have := World.alloc_heap_new (w.alloc (.deferred (some []))) (.loop (rec0 .ready none)); rwa [World.size_alloc] at this
  have hK1 : W1.heap[w.heap.size]? = some (.deferred (some [])) := by
    rw [← hW1]; exact (Below.heap_alloc _ _ _ (by simp)).trans (World.alloc_heap_new w _)
  have hc1 : Ch [] w W1 := by rw [← hW1]; exact ((Ch.refl _ _).alloc _).alloc _
  have hI1 : I [] W1 := hI _ _ _ h0 (hc1.mono (by simp))
  refine ⟨w.heap.size + 1, [{ target := .collected w.heap.size, args := #[] }], W1, { target := .fn (.func gf) lb, args := #[.func (.yield (w.heap.size + 1)) #[] #[]] }, W1, gf,
    #[.func (.yield (w.heap.size + 1)) #[] #[]] ++ lb, W1, ?_, ?_, ?_, ?_, fun _ => h1, ?_⟩
  · rw [← hW1]; exact run_enterLoop_outer _ _ _ _ _
  · simp only [resolve, hg]
    simp [go_sem]
  · intro f' hf'; simp [Target.leads] at hf'; subst hf'; exact hFg
  · simp [invoke, go_sem, eg]
  · have hKne : ∀ k ∈ K, k ≠ w.heap.size + 1 := fun k hk => by have := hK k hk; omega
    refine (hseq (w.heap.size + 1) (fun pre W => I pre W ∧ w.heap.size + 2 ≤ W.heap.size ∧ W.heap[w.heap.size + 1]? = some (.loop (rec0 .ready none)) ∧ W.heap[w.heap.size]? = some (.deferred (some [])))
      (fun W => Ix W ∧ w.heap.size + 2 ≤ W.heap.size ∧ W.heap[w.heap.size + 1]? = some (.loop (rec0 .done (some (.exit id)))) ∧ W.heap[w.heap.size]? = some (.deferred (some []))) W1 (fun k hk => hc1.block k (hK k hk) (by simp))
      (fun s A A' hs hc => ⟨hI s A A' hs.1 (hc.mono (by simp)), Nat.le_trans hs.2.1 hc.size, (hc.block _ (by have := hs.2.1; omega) (by simp)).trans hs.2.2.1, (hc.block _ (by have := hs.2.1; omega) (by simp)).trans hs.2.2.2⟩)
      (fun A A' hs hc => ⟨hIx A A' hs.1 (hc.mono (by simp)), Nat.le_trans hs.2.1 hc.size, (hc.block _ (by have := hs.2.1; omega) (by simp)).trans hs.2.2.1, (hc.block _ (by have := hs.2.1; omega) (by simp)).trans hs.2.2.2⟩)
      ?_ ⟨hI1, by omega, hL1, hK1⟩).mono ?_
    · rintro pre x W ⟨hi, hz, hl, hk⟩ hpre
      have hlt : w.heap.size + 1 < W.heap.size := by omega
      refine ⟨fn, _, assign, body, run_yield (P := P) (args := encs x) hl (hps x), roundIn_of_wpIn hfn (hassign _ x W _ ⟨_, run_beginRound hl rfl, ?_⟩)⟩
      have hl2 : (W.putObj (w.heap.size + 1) (.loop (rec0 .busy none))).heap[w.heap.size + 1]? = some (.loop (rec0 .busy none)) := World.putObj_heap_same hlt
      have hk2 : (W.putObj (w.heap.size + 1) (.loop (rec0 .busy none))).heap[w.heap.size]? = some (.deferred (some [])) := (World.putObj_heap_other (by omega)).trans hk
      have hK2 : ∀ k ∈ K, (W.putObj (w.heap.size + 1) (.loop (rec0 .busy none))).heap[k]? = W.heap[k]? := fun k hk => World.putObj_heap_other (hKne k hk)
      refine wpIn_mono (hbody _ pre x _ (hI _ _ _ hi (ch_put (by simp))) (by simp; omega) hpre) ?_
      rintro e a3 W3 ⟨⟨hb0, hb1⟩, (⟨rfl, hi3, hk3⟩ | ⟨rfl, hi3⟩)⟩
      · have hl3 := hb1.trans hl2
        have hlt3 := (Array.getElem?_eq_some_iff.1 hl3).1
        refine ⟨_, _, run_endRound (P := P) none hl3, .inl ⟨rfl, ⟨hI _ _ _ hi3 (ch_put (by simp)), by simp; omega, World.putObj_heap_same hlt3, (World.putObj_heap_other (by omega)).trans (hb0.trans hk2)⟩, fun k hk => ?_⟩⟩
        exact (World.putObj_heap_other (hKne k hk)).trans ((hk3 k hk).trans (hK2 k hk))
      · have hl3 := hb1.trans hl2
        have hlt3 := (Array.getElem?_eq_some_iff.1 hl3).1
        refine ⟨_, _, run_endRound (P := P) (some (.exit id)) hl3, .inr ⟨rfl, hIx _ _ hi3 (ch_put (by simp)), by simp; omega, World.putObj_heap_same hlt3, (World.putObj_heap_other (by omega)).trans (hb0.trans hk2)⟩⟩
    · rintro e W2 ⟨⟨v, rfl⟩, (⟨hi, hz, hl, hk⟩ | ⟨hi, hz, hl, hk⟩)⟩
      · exact ⟨none, _, run_endLoop (P := P) hl (by simp [rec0]), hdone _ (hI _ _ _ hi (ch_put (by simp))) ((World.putObj_heap_other (by omega)).trans hk) (by simp; omega)⟩
      · exact ⟨some (.exit id), _, run_endLoop (P := P) hl (by simp [rec0]), hstop _ (hIx _ _ hi (ch_put (by simp))) ((World.putObj_heap_other (by omega)).trans hk) (by simp; omega)⟩
end
end Go
namespace Go.Aig
theorem tabL_prefix {ns : List Nd} {f : List Nat → Nat} {n : Nat} {pre : List (Nat × Nat)} {i x : Nat} (h : (pre ++ [(i, x)]) <+: Go.Proofs.YtnmfdiiehkkjcaaGreat.tabL ns f n) : i = pre.length ∧ i < 2 ^ (n - 6) ∧ (tabW ns f n).getD i 0 = x := by
  obtain ⟨t, ht⟩ := h
  have h1 : (Go.Proofs.YtnmfdiiehkkjcaaGreat.tabL ns f n)[pre.length]? = some (i, x) := by rw [← ht]; simp
  have hl := (List.getElem?_eq_some_iff.1 h1).1
  rw [Go.Proofs.YtnmfdiiehkkjcaaGreat.tabL_len] at hl
  rw [Go.Proofs.YtnmfdiiehkkjcaaGreat.tabL_at ns f n hl] at h1
  have h2 := Option.some.inj h1
  have e1 := congrArg Prod.fst h2
  have e2 := congrArg Prod.snd h2
  simp only at e1 e2
  refine ⟨e1.symm, by omega, ?_⟩
  rw [List.getD_eq_getElem?_getD, ← e1, tab_at ns f n hl]
  exact e2
theorem firstR_none {T : List Nat} {n : Nat} {p : Nat → Bool} (h : TabOf T n p) (h0 : ∀ a, a < 64 * 2 ^ (n - 6) → tbit T a = false) : firstR n p = ([], false) := by
  have : firstV n p = none := firstV_none.2 fun a ha => by
    rw [← h.at' a ha]
    exact h0 a (Nat.lt_of_lt_of_le ha (blocks_le n))
  unfold firstR
  rw [this]
theorem firstR_some {T : List Nat} {n : Nat} {p : Nat → Bool} {a : Nat} (h : TabOf T n p) (ha : a < 64 * 2 ^ (n - 6)) (h1 : tbit T a = true) (h0 : ∀ b, b < a → tbit T b = false) : firstR n p = (asgBits n a, true) ∧ a < 2 ^ n := by
  have hn : a < 2 ^ n := by
    by_cases hn : a < 2 ^ n
    · exact hn
    · rw [h.out a (by omega) ha] at h1; cases h1
  have : firstV n p = some a := by
    unfold firstV
    refine find_range p a (by rw [← h.at' a hn]; exact h1) (fun b hb => by rw [← h.at' b (by omega)]; exact h0 b hb) _ hn
  unfold firstR
  rw [this]
  exact ⟨rfl, hn⟩
theorem asgBits_snoc (n a k : Nat) (hk : k < n) : (asgBits n a).take (k + 1) = (asgBits n a).take k ++ [a.testBit k] := by
  rw [List.take_add_one]
  congr 1
  unfold asgBits
  rw [List.getElem?_map, List.getElem?_range hk]
  rfl
end Go.Aig
namespace Go.Proofs.YtnmfdiiehkkjcaaGreat
open Go.RowKit Go.Mem Go.Aig
attribute [local go_sem] Oper.semAt_some
section
variable {w : World} {g : Nat} {G : Gra} {F : List Nat}
end
end Go.Proofs.YtnmfdiiehkkjcaaGreat
namespace Go.Proofs.YtnmfdiiehkkjcaaGreat
open Go.RowKit Go.Mem Go.Aig
/-- what First returns, and what Parts does -/
def firstG (G : Gra) (r : Int) : (List Bool × Bool) × Nat := (if tabE G [r] = 0 then firstR (inputs G.nodes).length (tellR G.nodes (inputs G.nodes).length r.toNat) else ([], false), tabE G [r])
def partsG (G : Gra) (a b : Int) : (List Bool × Bool) × Nat := (if tabE G [a, b] = 0 then firstR (inputs G.nodes).length (tellX G.nodes (inputs G.nodes).length a.toNat b.toNat) else ([], false), tabE G [a, b])
theorem bits_xor_u64 (a b : Nat) (ha : a < 18446744073709551616) (hb : b < 18446744073709551616) : bits .xor .u64 (a : Int) (b : Int) = ((a ^^^ b : Nat) : Int) := bits_xor_u64_nat a b ha hb
section
variable {w : World} {g : Nat} {G : Gra} {F : List Nat}
theorem Sl.two {w : World} {b : Nat} {r s : Int} (h : blk w b [.int .i64 r, .int .i64 s]) : Sl w (some ⟨b, 0, none⟩) [r, s] := ⟨fun i x hx => by
  rcases i with _ | _ | i
  · cases hx; exact ⟨b, 0, rfl, h.cell rfl⟩
  · cases hx; exact ⟨b, 0, rfl, h.cell rfl⟩
  · simp at hx, by simp⟩
end
end Go.Proofs.YtnmfdiiehkkjcaaGreat
namespace Go.Aig
/-- a small one: kind, and three numbers -/
structure Sm where
  k : Nat
  a : Nat
  b : Nat
  c : Nat
def pickI (len n : Nat) : Nat := len - 1 - n / 2 % len
def pickR (refs : List Nat) (n : Nat) : Nat := if n % 2 = 1 then neg (refs.getD (pickI refs.length n) 0) else refs.getD (pickI refs.length n) 0
def pickW (want : List Nat) (n : Nat) : Nat := if n % 2 = 1 then want.getD (pickI want.length n) 0 ^^^ 65535 else want.getD (pickI want.length n) 0
def stepW (want : List Nat) (x : Sm) : Nat :=
  let u := pickW want x.a; let v := pickW want x.b; let w := pickW want x.c
  if x.k % 6 = 0 then u &&& v else if x.k % 6 = 1 then u ||| v else if x.k % 6 = 2 then u ^^^ v else if x.k % 6 = 3 then (u &&& v) ||| ((u ^^^ 65535) &&& w) else if x.k % 6 = 4 then u &&& v &&& w else u ||| v ||| w
theorem xor_lt {a : Nat} (h : a < 65536) : a ^^^ 65535 < 65536 := Nat.xor_lt_two_pow (n := 16) h (by decide)
theorem pickW_lt {want : List Nat} (h : ∀ x ∈ want, x < 65536) (n : Nat) : pickW want n < 65536 := by
  have hd : ∀ i, want.getD i 0 < 65536 := fun i => by
    rw [List.getD_eq_getElem?_getD]
    cases hi : want[i]? with
    | none => simp
    | some x => exact h x (List.mem_of_getElem? hi)
  unfold pickW; split
  · exact xor_lt (hd _)
  · exact hd _
theorem pickI_lt {len : Nat} (h : 0 < len) (n : Nat) : pickI len n < len := by unfold pickI; omega
theorem pickR_lt {refs : List Nat} {m : Nat} (h : ∀ r ∈ refs, r < 2 * m) (h0 : 0 < refs.length) (n : Nat) : pickR refs n < 2 * m := by
  have hd : refs.getD (pickI refs.length n) 0 < 2 * m := by
    rw [List.getD_eq_getElem?_getD, List.getElem?_eq_getElem (pickI_lt h0 n)]
    exact h _ (List.getElem_mem _)
  unfold pickR; split
  · exact neg_lt hd
  · exact hd
theorem stepW_lt {want : List Nat} (h : ∀ x ∈ want, x < 65536) (x : Sm) : stepW want x < 65536 := by
  have hu := pickW_lt h x.a
  have hv := pickW_lt h x.b
  have hw := pickW_lt h x.c
  have ha : ∀ {a b : Nat}, a < 65536 → b < 65536 → a &&& b < 65536 := fun {a b} h1 h2 => Nat.and_lt_two_pow (n := 16) _ h2
  have ho : ∀ {a b : Nat}, a < 65536 → b < 65536 → a ||| b < 65536 := fun {a b} h1 h2 => Nat.or_lt_two_pow (n := 16) h1 h2
  have hx : ∀ {a b : Nat}, a < 65536 → b < 65536 → a ^^^ b < 65536 := fun {a b} h1 h2 => Nat.xor_lt_two_pow (n := 16) h1 h2
  unfold stepW
  (repeat' split)
  · exact ha hu hv
  · exact ho hu hv
  · exact hx hu hv
  · exact ho (ha hu hv) (ha (xor_lt hu) hw)
  · exact ha (ha hu hv) hw
  · exact ho (ho hu hv) hw
end Go.Aig
namespace Go.Proofs.YtnmfdiiehkkjcaaGreat
open Go.RowKit Go.Mem Go.Aig
section
variable {w : World} {g : Value} {ra wa : Option Addr} {refs want : List Nat}
end
end Go.Proofs.YtnmfdiiehkkjcaaGreat
namespace Go.Proofs.YtnmfdiiehkkjcaaGreat
open Go.RowKit Go.Mem Go.Aig
def stepRes (G : Gra) (refs : List Nat) (x : Sm) : Res :=
  let p := pickR refs x.a; let q := pickR refs x.b; let r := pickR refs x.c
  if x.k % 6 = 0 then doAnd G p q else if x.k % 6 = 1 then doOr G p q else if x.k % 6 = 2 then doXor G p q else if x.k % 6 = 3 then doMux G p q r else if x.k % 6 = 4 then doAll G [p, q, r] else doAny G [p, q, r]
theorem and_words (x y : Nat) (hx : x < 65536) (hy : y < 65536) : bits .and .u64 (x : Int) (y : Int) = ((x &&& y : Nat) : Int) := bits_and_u64_nat x y (by omega) (by omega)
theorem or_words (x y : Nat) (hx : x < 65536) (hy : y < 65536) : bits .or .u64 (x : Int) (y : Int) = ((x ||| y : Nat) : Int) := bits_or_u64_nat x y (by omega) (by omega)
theorem xor_words (x y : Nat) (hx : x < 65536) (hy : y < 65536) : bits .xor .u64 (x : Int) (y : Int) = ((x ^^^ y : Nat) : Int) := bits_xor_u64_nat x y (by omega) (by omega)
theorem ret_iii {k l m : IntKind} {a b c d e f : Int} (h : a = b) (h' : c = d) (h'' : e = f) : Ending.returned (.tuple #[.int k a, .int l c, .int m e]) = .returned (.tuple #[.int k b, .int l d, .int m f]) := by rw [h, h', h'']
theorem and3_lt {a b : Nat} (_h1 : a < 65536) (h2 : b < 65536) : a &&& b < 65536 := Nat.and_lt_two_pow (n := 16) _ h2
theorem or3_lt {a b : Nat} (h1 : a < 65536) (h2 : b < 65536) : a ||| b < 65536 := Nat.or_lt_two_pow (n := 16) h1 h2
theorem mux_words (u v w : Nat) (hu : u < 65536) (hv : v < 65536) (hw : w < 65536) : bits .or .u64 (bits .and .u64 (u : Int) (v : Int)) (bits .and .u64 (bits .and .u64 (bits .xor .u64 IntKind.u64.max (u : Int)) (w : Int)) 65535) = (((u &&& v) ||| ((u ^^^ 65535) &&& w) : Nat) : Int) := by
  have h1 := bits_xor_u64_nat 18446744073709551615 u (by omega) (by omega)
  have h2 : 18446744073709551615 ^^^ u < 2 ^ 64 := Nat.xor_lt_two_pow (by omega) (by omega)
  have h3 := bits_and_u64_nat (18446744073709551615 ^^^ u) w (by omega) (by omega)
  have h4 : (18446744073709551615 ^^^ u) &&& w < 65536 := Nat.and_lt_two_pow (n := 16) _ hw
  have h5 := and_words ((18446744073709551615 ^^^ u) &&& w) 65535 h4 (by omega)
  have h6 : ((18446744073709551615 ^^^ u) &&& w) &&& 65535 < 65536 := Nat.and_lt_two_pow (n := 16) _ (by omega)
  rw [show IntKind.u64.max = ((18446744073709551615 : Nat) : Int) from by decide, h1, h3, show (65535 : Int) = ((65535 : Nat) : Int) from rfl, h5, and_words u v hu hv, or_words _ _ (and3_lt hu hv) h6]
  congr 2
  apply Nat.eq_of_testBit_eq
  intro i
  simp only [Nat.testBit_and, Nat.testBit_xor]
  rw [show (18446744073709551615 : Nat) = 2 ^ 64 - 1 from rfl, show (65535 : Nat) = 2 ^ 16 - 1 from rfl, Nat.testBit_two_pow_sub_one, Nat.testBit_two_pow_sub_one]
  by_cases hi : i < 16
  · have : i < 64 := by omega
    simp [hi, this]
  · have hw' : w.testBit i = false := Nat.testBit_lt_two_pow (Nat.lt_of_lt_of_le hw (by show 2 ^ 16 ≤ 2 ^ i; exact Nat.pow_le_pow_right (by omega) (by omega)))
    simp [hw']
section
variable {w : World} {g : Nat} {G : Gra} {F : List Nat} {ra wa : Option Addr} {refs want : List Nat}
/-- what step is told of the graph, and of the two slices -/
structure Told (w : World) (g : Nat) (G : Gra) (F : List Nat) (ra wa : Option Addr) (len : Nat) (refs want : List Nat) : Prop where
  gin : GIn w g G F
  hr : Sv w ra (refsCells refs)
  hw : Sv w wa (u64s want)
  l1 : refs.length = len
  l2 : want.length = len
  pos : 0 < len
  max : len ≤ 1000000
  ar : ∀ p, ra = some p → p.block < w.heap.size ∧ p.block ∉ F
  aw : ∀ p, wa = some p → p.block < w.heap.size ∧ p.block ∉ F
  words : ∀ x ∈ want, x < 65536
  refs : ∀ r ∈ refs, r < 2 * G.nodes.length
theorem Told.same {w' : World} {len : Nat} (h : Told w g G F ra wa len refs want) (hc : Ch [] w w') : Told w' g G F ra wa len refs want :=
  ⟨h.gin.same hc (by simp), h.hr.ch hc (by simp), h.hw.ch hc (by simp), h.l1, h.l2, h.pos, h.max, fun p hp => ⟨Nat.lt_of_lt_of_le (h.ar p hp).1 hc.size, (h.ar p hp).2⟩, fun p hp => ⟨Nat.lt_of_lt_of_le (h.aw p hp).1 hc.size, (h.aw p hp).2⟩, h.words, h.refs⟩
theorem Sl.new3 (w : World) (p q z : Int) : Sl (w.alloc (.cells #[.int .i64 p, .int .i64 q, .int .i64 z] 51)) (some ⟨w.heap.size, 0, none⟩) [p, q, z] := ⟨fun i y hy => ⟨_, _, rfl, by
  have hb : blk (w.alloc (.cells #[.int .i64 p, .int .i64 q, .int .i64 z] 51)) w.heap.size [.int .i64 p, .int .i64 q, .int .i64 z] := blk.new' _ _ rfl
  have hi : i < 3 := (List.getElem?_eq_some_iff.1 hy).1
  rcases i with _ | _ | _ | i
  all_goals first | omega | (simp at hy; subst hy; exact hb.cell rfl)⟩, by simp⟩
theorem blk3 {w : World} {b : Nat} {x y z : Value} (h : blk w b [x, y, z]) : w.cell? ⟨b, 0, none⟩ = some x ∧ w.cell? ⟨b, 1, none⟩ = some y ∧ w.cell? ⟨b, 2, none⟩ = some z := ⟨h.cell rfl, h.cell rfl, h.cell rfl⟩
theorem blk4 {w : World} {b : Nat} {x y z t : Value} (h : blk w b [x, y, z, t]) : w.cell? ⟨b, 0, none⟩ = some x ∧ w.cell? ⟨b, 1, none⟩ = some y ∧ w.cell? ⟨b, 2, none⟩ = some z ∧ w.cell? ⟨b, 3, none⟩ = some t := ⟨h.cell rfl, h.cell rfl, h.cell rfl, h.cell rfl⟩
end
end Go.Proofs.YtnmfdiiehkkjcaaGreat
namespace Go.Proofs.YtnmfdiiehkkjcaaGreat
open Go.Aig
theorem and_room {G : Gra} {a b : Nat} (h : G.nodes.length < G.most) : (Aig.and G a b).2.2 = 0 ∧ (Aig.and G a b).1.nodes.length ≤ G.nodes.length + 1 := by
  unfold Aig.and
  split
  · exact ⟨rfl, by show G.nodes.length ≤ _; omega⟩
  · split
    · exact ⟨rfl, by show G.nodes.length ≤ _; omega⟩
    · unfold put
      rw [if_neg (by omega)]
      exact ⟨rfl, by simp⟩
theorem and_most (G : Gra) (a b : Nat) : (Aig.and G a b).1.most = G.most := by
  unfold Aig.and put; (repeat' split) <;> rfl
theorem mand_room {s : Mk} {a b : Nat} (he : s.2 = 0) (h : s.1.nodes.length < s.1.most) : (mand s a b).1.2 = 0 ∧ (mand s a b).1.1.nodes.length ≤ s.1.nodes.length + 1 ∧ (mand s a b).1.1.most = s.1.most := by
  unfold mand
  rw [if_neg (by omega)]
  obtain ⟨h1, h2⟩ := and_room (a := a) (b := b) h
  exact ⟨h1, h2, and_most _ _ _⟩
theorem mor_room {s : Mk} {a b : Nat} (he : s.2 = 0) (h : s.1.nodes.length < s.1.most) : (mor s a b).1.2 = 0 ∧ (mor s a b).1.1.nodes.length ≤ s.1.nodes.length + 1 ∧ (mor s a b).1.1.most = s.1.most := mand_room (a := neg a) (b := neg b) he h
theorem mmux_room {s : Mk} {c a b : Nat} (he : s.2 = 0) (h : s.1.nodes.length + 3 ≤ s.1.most) : (mmux s c a b).1.2 = 0 ∧ (mmux s c a b).1.1.nodes.length ≤ s.1.nodes.length + 3 ∧ (mmux s c a b).1.1.most = s.1.most := by
  obtain ⟨h1, h2, h3⟩ := mand_room (a := c) (b := a) he (by omega)
  obtain ⟨h4, h5, h6⟩ := mand_room (a := neg c) (b := b) h1 (by omega)
  obtain ⟨h7, h8, h9⟩ := mor_room (a := (mand s c a).2) (b := (mand (mand s c a).1 (neg c) b).2) h4 (by omega)
  exact ⟨h7, by show (mor _ _ _).1.1.nodes.length ≤ _; omega, by show (mor _ _ _).1.1.most = _; omega⟩
theorem mall_room : ∀ (l : List Nat) {s : Mk} {out : Nat}, s.2 = 0 → s.1.nodes.length + l.length ≤ s.1.most → (mall s out l).1.2 = 0 ∧ (mall s out l).1.1.nodes.length ≤ s.1.nodes.length + l.length ∧ (mall s out l).1.1.most = s.1.most
  | [], s, out, he, _ => ⟨he, by simp [mall], rfl⟩
  | r :: l, s, out, he, h => by
    simp only [List.length_cons] at h ⊢
    obtain ⟨h1, h2, h3⟩ := mand_room (a := out) (b := r) he (by omega)
    obtain ⟨h4, h5, h6⟩ := mall_room l (s := (mand s out r).1) (out := (mand s out r).2) h1 (by omega)
    refine ⟨h4, ?_, ?_⟩
    · show (mall (mand s out r).1 (mand s out r).2 l).1.1.nodes.length ≤ _; omega
    · show (mall (mand s out r).1 (mand s out r).2 l).1.1.most = _; omega
/-- what a maker is that keeps all in order -/
structure Good (f : Mk → Mk × Nat) (G : Gra) (k : Nat) (v : (Nat → Bool) → Bool) : Prop where
  ok : MOk (f (G, 0)).1
  ext : Ext G (f (G, 0)).1.1
  lt : (f (G, 0)).2 < 2 * (f (G, 0)).1.1.nodes.length
  sem : ∀ env, (f (G, 0)).1.2 = 0 → bv env (f (G, 0)).1.1.nodes (f (G, 0)).2 = v env
  room : G.nodes.length + k ≤ G.most → (f (G, 0)).1.2 = 0 ∧ (f (G, 0)).1.1.nodes.length ≤ G.nodes.length + k
theorem right_of {ns : List Nd} {r : Nat} (h : r < 2 * ns.length) : right ns (r : Int) = true := by unfold right; simp; omega
theorem whole_good {G : Gra} {l : List Nat} {f : Mk → Mk × Nat} {k : Nat} {v : (Nat → Bool) → Bool} (hl : ∀ r ∈ l, r < 2 * G.nodes.length) (h : Good f G k v) (hok : Ok G) :
    Ok (whole G (l.map fun (r : Nat) => (r : Int)) f).1 ∧ Ext G (whole G (l.map fun (r : Nat) => (r : Int)) f).1 ∧ (whole G (l.map fun (r : Nat) => (r : Int)) f).2.1 < 2 * (whole G (l.map fun (r : Nat) => (r : Int)) f).1.nodes.length ∧
      (∀ env, (whole G (l.map fun (r : Nat) => (r : Int)) f).2.2 = 0 → bv env (whole G (l.map fun (r : Nat) => (r : Int)) f).1.nodes (whole G (l.map fun (r : Nat) => (r : Int)) f).2.1 = v env) ∧
      (G.nodes.length + k ≤ G.most → (whole G (l.map fun (r : Nat) => (r : Int)) f).2.2 = 0 ∧ (whole G (l.map fun (r : Nat) => (r : Int)) f).1.nodes.length ≤ G.nodes.length + k) := by
  have hany : ((l.map fun (r : Nat) => (r : Int)).any fun r => !right G.nodes r) = false := by
    rw [List.any_eq_false]
    intro x hx
    obtain ⟨r, hr, rfl⟩ := List.mem_map.1 hx
    simp [right_of (hl r hr)]
  have hp := hok.wf.pos
  unfold whole
  rw [hany]
  simp only [Bool.false_eq_true, if_false]
  by_cases he : (f (G, 0)).1.2 = 0
  · rw [if_neg (by omega)]
    exact ⟨h.ok.ok, h.ext, h.lt, fun env _ => h.sem env he, fun hk => ⟨rfl, (h.room hk).2⟩⟩
  · rw [if_pos (by omega)]
    exact ⟨hok, Ext.refl _, by show 0 < 2 * G.nodes.length; omega, fun env hz => (he hz).elim, fun hk => (he (h.room hk).1).elim⟩
section
variable {G : Gra} (h : Ok G)
include h
theorem mok0 : MOk (G, 0) := ⟨h, .inl rfl⟩
theorem good_and {a b : Nat} (ha : a < 2 * G.nodes.length) (hb : b < 2 * G.nodes.length) : Good (fun s => mand s a b) G 1 (fun env => bv env G.nodes a && bv env G.nodes b) := by
  obtain ⟨h1, h2, h3⟩ := mand_ok (mok0 h) ha hb
  exact ⟨h1, h2, h3, fun env he => mand_sem env (mok0 h) ha hb he, fun hk => ⟨(mand_room (s := (G, 0)) rfl hk).1, (mand_room (s := (G, 0)) rfl hk).2.1⟩⟩
theorem good_or {a b : Nat} (ha : a < 2 * G.nodes.length) (hb : b < 2 * G.nodes.length) : Good (fun s => mor s a b) G 1 (fun env => bv env G.nodes a || bv env G.nodes b) := by
  obtain ⟨h1, h2, h3⟩ := mor_ok (mok0 h) ha hb
  exact ⟨h1, h2, h3, fun env he => mor_sem env (mok0 h) ha hb he, fun hk => ⟨(mor_room (s := (G, 0)) rfl hk).1, (mor_room (s := (G, 0)) rfl hk).2.1⟩⟩
theorem good_mux {c a b : Nat} (hc : c < 2 * G.nodes.length) (ha : a < 2 * G.nodes.length) (hb : b < 2 * G.nodes.length) : Good (fun s => mmux s c a b) G 3 (fun env => bv env G.nodes c && bv env G.nodes a || !bv env G.nodes c && bv env G.nodes b) := by
  obtain ⟨h1, h2, h3⟩ := mmux_ok (mok0 h) hc ha hb
  exact ⟨h1, h2, h3, fun env he => mmux_sem env (mok0 h) hc ha hb he, fun hk => ⟨(mmux_room (s := (G, 0)) rfl hk).1, (mmux_room (s := (G, 0)) rfl hk).2.1⟩⟩
theorem good_all {l : List Nat} (hl : ∀ r ∈ l, r < 2 * G.nodes.length) : Good (fun s => mall s 1 l) G l.length (fun env => l.all fun r => bv env G.nodes r) := by
  have hp := h.wf.pos
  obtain ⟨h1, h2, h3⟩ := mall_ok l (mok0 h) (show 1 < 2 * G.nodes.length by omega) hl
  refine ⟨h1, h2, h3, fun env he => ?_, fun hk => ⟨(mall_room l (s := (G, 0)) rfl hk).1, (mall_room l (s := (G, 0)) rfl hk).2.1⟩⟩
  have := mall_sem env l (mok0 h) (show 1 < 2 * G.nodes.length by omega) hl he
  rw [this]
  show (bv env G.nodes 1 && _) = _
  rw [bv_one env h.wf, Bool.true_and]
theorem good_any {l : List Nat} (hl : ∀ r ∈ l, r < 2 * G.nodes.length) : Good (fun s => many s l) G l.length (fun env => l.any fun r => bv env G.nodes r) := by
  have hl' : ∀ r ∈ l.map neg, r < 2 * G.nodes.length := fun r hr => by
    obtain ⟨x, hx, rfl⟩ := List.mem_map.1 hr
    exact neg_lt (hl x hx)
  have := good_all h hl'
  refine ⟨this.ok, this.ext, neg_lt this.lt, fun env he => ?_, fun hk => ?_⟩
  rotate_left
  · obtain ⟨h1, h2⟩ := this.room (by simpa using hk)
    exact ⟨h1, by simpa [many] using h2⟩
  have h2 := this.sem env he
  show bv env (mall (G, 0) 1 (l.map neg)).1.1.nodes (neg (mall (G, 0) 1 (l.map neg)).2) = _
  rw [bv_neg, h2]
  simp only [List.all_map, Function.comp_def, bv_neg]
  simp [List.any_eq_not_all_not]
end
/-- the maker of a small one, the references that it takes, and what it means -/
def stepMk (refs : List Nat) (x : Sm) : Mk → Mk × Nat := fun s =>
  let p := pickR refs x.a; let q := pickR refs x.b; let r := pickR refs x.c
  if x.k % 6 = 0 then mand s p q else if x.k % 6 = 1 then mor s p q else if x.k % 6 = 2 then mmux s p (neg q) q else if x.k % 6 = 3 then mmux s p q r else if x.k % 6 = 4 then mall s 1 [p, q, r] else many s [p, q, r]
def stepArgs (refs : List Nat) (x : Sm) : List Nat := if x.k % 6 < 3 then [pickR refs x.a, pickR refs x.b] else [pickR refs x.a, pickR refs x.b, pickR refs x.c]
def stepV (u v w : Bool) (k : Nat) : Bool :=
  if k % 6 = 0 then u && v else if k % 6 = 1 then u || v else if k % 6 = 2 then Bool.xor u v else if k % 6 = 3 then (u && v || !u && w) else if k % 6 = 4 then u && v && w else u || v || w
theorem stepRes_eq (G : Gra) (refs : List Nat) (x : Sm) : stepRes G refs x = whole G ((stepArgs refs x).map fun (r : Nat) => (r : Int)) (stepMk refs x) := by
  unfold stepRes stepArgs stepMk
  rcases (show x.k % 6 = 0 ∨ x.k % 6 = 1 ∨ x.k % 6 = 2 ∨ x.k % 6 = 3 ∨ x.k % 6 = 4 ∨ x.k % 6 = 5 by omega) with e | e | e | e | e | e <;> simp [e, doAnd, doOr, doXor, doMux, doAll, doAny]
theorem stepMk_good {G : Gra} (h : Ok G) {refs : List Nat} (hr : ∀ r ∈ refs, r < 2 * G.nodes.length) (h0 : 0 < refs.length) (x : Sm) :
    Good (stepMk refs x) G 3 (fun env => stepV (bv env G.nodes (pickR refs x.a)) (bv env G.nodes (pickR refs x.b)) (bv env G.nodes (pickR refs x.c)) x.k) := by
  have hp := pickR_lt hr h0 x.a
  have hq := pickR_lt hr h0 x.b
  have hz := pickR_lt hr h0 x.c
  have hl : ∀ r ∈ [pickR refs x.a, pickR refs x.b, pickR refs x.c], r < 2 * G.nodes.length := fun r hr => by
    simp at hr; rcases hr with rfl | rfl | rfl <;> assumption
  have up : ∀ {f : Mk → Mk × Nat} {v : (Nat → Bool) → Bool}, Good f G 1 v → Good f G 3 v := fun g => ⟨g.ok, g.ext, g.lt, g.sem, fun hk => ⟨(g.room (by omega)).1, by have := (g.room (by omega)).2; omega⟩⟩
  unfold stepMk stepV
  rcases (show x.k % 6 = 0 ∨ x.k % 6 = 1 ∨ x.k % 6 = 2 ∨ x.k % 6 = 3 ∨ x.k % 6 = 4 ∨ x.k % 6 = 5 by omega) with e | e | e | e | e | e <;> simp (decide := true) only [e, if_true, if_false]
  · exact up (good_and h hp hq)
  · exact up (good_or h hp hq)
  · have := good_mux h hp (neg_lt hq) hq
    refine ⟨this.ok, this.ext, this.lt, fun env he => (this.sem env he).trans ?_, this.room⟩
    rw [bv_neg]
    cases bv env G.nodes (pickR refs x.a) <;> cases bv env G.nodes (pickR refs x.b) <;> rfl
  · exact good_mux h hp hq hz
  · have := good_all h hl
    refine ⟨this.ok, this.ext, this.lt, fun env he => (this.sem env he).trans ?_, this.room⟩
    simp [Bool.and_assoc]
  · have := good_any h hl
    refine ⟨this.ok, this.ext, this.lt, fun env he => (this.sem env he).trans ?_, this.room⟩
    simp [Bool.or_assoc]
end Go.Proofs.YtnmfdiiehkkjcaaGreat
namespace Go.Proofs.YtnmfdiiehkkjcaaGreat
open Go.Aig
structure Bd where
  G : Gra
  refs : List Nat
  want : List Nat
def inNodes (k : Nat) : List Nd := ⟨1, 0, 0, 0⟩ :: List.replicate k ⟨2, 0, 0, 0⟩
def bd0 (most k : Nat) : Bd := ⟨⟨most, inNodes k⟩, 0 :: (List.range k).map (fun i => 2 * (i + 1)), 0 :: inWords.take k⟩
def stepB (b : Bd) (x : Sm) : Bd := ⟨(stepRes b.G b.refs x).1, b.refs ++ [(stepRes b.G b.refs x).2.1], b.want ++ [stepW b.want x]⟩
def builtB (most : Nat) (l : List Sm) : Bd := l.foldl stepB (bd0 most 4)
/-- the bits of the inputs, for the assignment j -/
def envOf (j k : Nat) : Bool := (inWords.getD k 0).testBit j
structure BOk (b : Bd) : Prop where
  ok : Ok b.G
  len : b.refs.length = b.want.length
  pos : 0 < b.refs.length
  refs : ∀ r ∈ b.refs, r < 2 * b.G.nodes.length
  words : ∀ x ∈ b.want, x < 65536
  sem : ∀ j, j < 16 → ∀ (i r x : Nat), b.refs[i]? = some r → b.want[i]? = some x → x.testBit j = bv (envOf j) b.G.nodes r
  ins : ∀ env, (nv env b.G.nodes).2 = 4
theorem inNodes_len (k : Nat) : (inNodes k).length = k + 1 := by simp [inNodes]
theorem doInput_in {most k : Nat} (h : k + 1 < most) : doInput ⟨most, inNodes k⟩ = (⟨most, inNodes (k + 1)⟩, 2 * (k + 1), 0) := by
  unfold doInput put
  rw [if_neg (by simp [inNodes_len]; omega)]
  simp [inNodes, List.replicate_succ']
theorem nv_count (env : Nat → Bool) : ∀ (ms ns : List Nd), (nv env (ns ++ ms)).2 = (nv env ns).2 + (ms.filter fun x => x.k == 2).length
  | [], ns => by simp
  | x :: ms, ns => by
    rw [List.append_cons, nv_count env ms (ns ++ [x]), nv_snoc]
    unfold nvStep
    by_cases h3 : x.k = 3
    · simp [h3]
    · by_cases h2 : x.k = 2
      · simp [h2]; omega
      · simp [h3, h2]
/-- what the ands make holds no input -/
theorem and_noin {G : Gra} {a b : Nat} : ∃ more, (Aig.and G a b).1.nodes = G.nodes ++ more ∧ ∀ x ∈ more, x.k = 3 := by
  unfold Aig.and put
  (repeat' split)
  · exact ⟨[], by simp, by simp⟩
  · exact ⟨[], by simp, by simp⟩
  · exact ⟨[], by simp, by simp⟩
  · exact ⟨_, rfl, fun x hx => by simp at hx; subst hx; rfl⟩
def NoIn (G G' : Gra) : Prop := ∃ more, G'.nodes = G.nodes ++ more ∧ ∀ x ∈ more, x.k = 3
theorem NoIn.refl (G : Gra) : NoIn G G := ⟨[], by simp, by simp⟩
theorem NoIn.trans {a b c : Gra} (h : NoIn a b) (h' : NoIn b c) : NoIn a c := by
  obtain ⟨m, e, h1⟩ := h
  obtain ⟨m', e', h2⟩ := h'
  exact ⟨m ++ m', by rw [e', e, List.append_assoc], fun x hx => (List.mem_append.1 hx).elim (h1 x) (h2 x)⟩
theorem mand_noin (s : Mk) (a b : Nat) : NoIn s.1 (mand s a b).1.1 := by
  unfold mand
  split
  · exact .refl _
  · exact and_noin
theorem mall_noin : ∀ (l : List Nat) (s : Mk) (out : Nat), NoIn s.1 (mall s out l).1.1
  | [], _, _ => .refl _
  | r :: l, s, out => (mand_noin s out r).trans (mall_noin l _ _)
theorem stepMk_noin (refs : List Nat) (x : Sm) (G : Gra) : NoIn G (stepMk refs x (G, 0)).1.1 := by
  unfold stepMk
  (repeat' split)
  · exact mand_noin _ _ _
  · exact mand_noin _ _ _
  · exact ((mand_noin _ _ _).trans (mand_noin _ _ _)).trans (mand_noin _ _ _)
  · exact ((mand_noin _ _ _).trans (mand_noin _ _ _)).trans (mand_noin _ _ _)
  · exact mall_noin _ _ _
  · exact mall_noin _ _ _
theorem whole_noin {G : Gra} {l : List Int} {f : Mk → Mk × Nat} (h : NoIn G (f (G, 0)).1.1) : NoIn G (whole G l f).1 := by
  unfold whole
  split
  · exact .refl _
  · dsimp only
    split
    · exact .refl _
    · exact h
theorem stepRes_noin (G : Gra) (refs : List Nat) (x : Sm) : NoIn G (stepRes G refs x).1 := by
  rw [stepRes_eq]
  exact whole_noin (stepMk_noin refs x G)
theorem NoIn.count {G G' : Gra} (h : NoIn G G') (env : Nat → Bool) : (nv env G'.nodes).2 = (nv env G.nodes).2 := by
  obtain ⟨more, e, hm⟩ := h
  rw [e, nv_count]
  have : more.filter (fun x => x.k == 2) = [] := by
    rw [List.filter_eq_nil_iff]
    intro x hx
    simp [hm x hx]
  simp [this]
theorem pickR_sem {b : Bd} (h : BOk b) (j : Nat) (hj : j < 16) (n : Nat) : (pickW b.want n).testBit j = bv (envOf j) b.G.nodes (pickR b.refs n) := by
  have hi := pickI_lt h.pos n
  have g1 : b.refs[pickI b.refs.length n]? = some b.refs[pickI b.refs.length n] := List.getElem?_eq_getElem hi
  have hi2 : pickI b.refs.length n < b.want.length := by rw [← h.len]; exact hi
  have g2 : b.want[pickI b.refs.length n]? = some b.want[pickI b.refs.length n] := List.getElem?_eq_getElem hi2
  have hs := h.sem j hj _ _ _ g1 g2
  have e1 : b.refs.getD (pickI b.refs.length n) 0 = b.refs[pickI b.refs.length n] := by rw [List.getD_eq_getElem?_getD, g1]; rfl
  have e2 : b.want.getD (pickI b.want.length n) 0 = b.want[pickI b.refs.length n] := by rw [← h.len, List.getD_eq_getElem?_getD, g2]; rfl
  unfold pickW pickR
  rw [e1, e2]
  split
  · rw [Nat.testBit_xor, hs, bv_neg, show (65535 : Nat) = 2 ^ 16 - 1 from rfl, Nat.testBit_two_pow_sub_one]
    simp [hj]
  · exact hs
theorem stepW_sem {b : Bd} (h : BOk b) (j : Nat) (hj : j < 16) (x : Sm) :
    (stepW b.want x).testBit j = stepV (bv (envOf j) b.G.nodes (pickR b.refs x.a)) (bv (envOf j) b.G.nodes (pickR b.refs x.b)) (bv (envOf j) b.G.nodes (pickR b.refs x.c)) x.k := by
  have hu := pickR_sem h j hj x.a
  have hv := pickR_sem h j hj x.b
  have hw := pickR_sem h j hj x.c
  have hm : Nat.testBit 65535 j = true := by rw [show (65535 : Nat) = 2 ^ 16 - 1 from rfl, Nat.testBit_two_pow_sub_one]; simp [hj]
  unfold stepW stepV
  rcases (show x.k % 6 = 0 ∨ x.k % 6 = 1 ∨ x.k % 6 = 2 ∨ x.k % 6 = 3 ∨ x.k % 6 = 4 ∨ x.k % 6 = 5 by omega) with e | e | e | e | e | e <;> simp (decide := true) only [e, if_true, if_false, Nat.testBit_and, Nat.testBit_or, Nat.testBit_xor, hu, hv, hw, hm, Bool.xor_true]
/-- a step where there is room -/
theorem stepB_ok {b : Bd} (h : BOk b) (x : Sm) (hr : b.G.nodes.length + 3 ≤ b.G.most) :
    (stepRes b.G b.refs x).2.2 = 0 ∧ BOk (stepB b x) ∧ Ext b.G (stepB b x).G ∧ (stepB b x).G.nodes.length ≤ b.G.nodes.length + 3 := by
  have hg := stepMk_good h.ok h.refs h.pos x
  have ha : ∀ r ∈ stepArgs b.refs x, r < 2 * b.G.nodes.length := fun r hr => by
    unfold stepArgs at hr
    split at hr <;> simp at hr
    · rcases hr with rfl | rfl <;> exact pickR_lt h.refs h.pos _
    · rcases hr with rfl | rfl | rfl <;> exact pickR_lt h.refs h.pos _
  obtain ⟨h1, h2, h3, h4, h5⟩ := whole_good ha hg h.ok
  rw [← stepRes_eq] at h1 h2 h3 h4 h5
  obtain ⟨h6, h7⟩ := h5 hr
  refine ⟨h6, ⟨h1, by simp [stepB, h.len], by simp [stepB], fun r hr => ?_, fun y hy => ?_, fun j hj i r y hi hy => ?_, fun env => ?_⟩, h2, h7⟩
  · simp only [stepB, List.mem_append, List.mem_singleton] at hr
    rcases hr with hr | rfl
    · exact h2.lt (h.refs r hr)
    · exact h3
  · simp only [stepB, List.mem_append, List.mem_singleton] at hy
    rcases hy with hy | rfl
    · exact h.words y hy
    · exact stepW_lt h.words x
  · simp only [stepB] at hi hy ⊢
    by_cases hlt : i < b.refs.length
    · rw [List.getElem?_append_left hlt] at hi
      rw [List.getElem?_append_left (by rw [← h.len]; exact hlt)] at hy
      rw [bv_of (envOf j) h2 (h.refs r (List.mem_of_getElem? hi))]
      exact h.sem j hj i r y hi hy
    · have hi' := (List.getElem?_eq_some_iff.1 hi).1
      simp at hi'
      have e : i = b.refs.length := by omega
      subst e
      rw [List.getElem?_append_right (Nat.le_refl _)] at hi
      rw [List.getElem?_append_right (by rw [h.len]; exact Nat.le_refl _)] at hy
      simp [h.len] at hi hy
      subst hi; subst hy
      rw [stepW_sem h j hj x, h4 (envOf j) h6]
  · exact ((stepRes_noin b.G b.refs x).count env).trans (h.ins env)
theorem bd0_ok {most : Nat} (h5 : 5 ≤ most) (hm : most ≤ 65536) : BOk (bd0 most 4) := by
  have hin : (bd0 most 4).G.nodes = [⟨1, 0, 0, 0⟩, ⟨2, 0, 0, 0⟩, ⟨2, 0, 0, 0⟩, ⟨2, 0, 0, 0⟩, ⟨2, 0, 0, 0⟩] := rfl
  have hw : WF (bd0 most 4).G.nodes := by
    have h1 := (newG_ok (n := 1) (by omega) (by omega)).wf
    exact (((h1.input).input).input).input
  refine ⟨⟨hw, by rw [hin]; simpa [bd0] using h5, hm⟩, rfl, by simp [bd0], ?_, ?_, ?_, fun env => rfl⟩
  · rw [hin]; intro r hr; simp [bd0, List.range, List.range.loop] at hr ⊢; omega
  · intro x hx; simp [bd0, inWords] at hx; omega
  · intro j hj i r x hi hx
    rcases i with _ | _ | _ | _ | _ | i <;> simp [bd0, List.range, List.range.loop, inWords] at hi hx
    all_goals subst hi; subst hx; simp [hin, bv, rv, nv, nvStep, envOf, inWords]
theorem run_ok : ∀ (l : List Sm) {b : Bd}, BOk b → b.G.nodes.length + 3 * l.length ≤ b.G.most → BOk (l.foldl stepB b) ∧ Ext b.G (l.foldl stepB b).G ∧ (l.foldl stepB b).G.nodes.length ≤ b.G.nodes.length + 3 * l.length ∧ (l.foldl stepB b).refs.length = b.refs.length + l.length
  | [], b, h, _ => ⟨h, .refl _, by simp, by simp⟩
  | x :: l, b, h, hr => by
    simp only [List.length_cons] at hr ⊢
    obtain ⟨_, h1, h2, h3⟩ := stepB_ok h x (by omega)
    obtain ⟨h4, h5, h6, h7⟩ := run_ok l h1 (by have : (stepB b x).G.most = b.G.most := h2.most; omega)
    refine ⟨h4, h2.trans h5, by simp only [List.foldl_cons]; omega, ?_⟩
    simp only [List.foldl_cons]
    rw [h7]
    simp [stepB]; omega
end Go.Proofs.YtnmfdiiehkkjcaaGreat
namespace Go.Proofs.YtnmfdiiehkkjcaaGreat
open Go.Aig
def wvStep (s : List Nat × Nat) (x : Nd) : List Nat × Nat :=
  if x.k = 3 then (s.1 ++ [wv s.1 x.l &&& wv s.1 x.r], s.2) else if x.k = 2 then (s.1 ++ [inWords.getD s.2 0], s.2 + 1) else (s.1 ++ [0], s.2)
def wvs (ns : List Nd) : List Nat × Nat := ns.foldl wvStep ([], 0)
theorem wvs_snoc (ns : List Nd) (x : Nd) : wvs (ns ++ [x]) = wvStep (wvs ns) x := by unfold wvs; rw [List.foldl_append]; rfl
theorem inWords_lt (k : Nat) : inWords.getD k 0 < 65536 := by
  rcases k with _ | _ | _ | _ | k <;> simp [inWords]
theorem wv_lt {vs : List Nat} (h : ∀ x ∈ vs, x < 65536) (r : Nat) : wv vs r < 65536 := by
  have hd : vs.getD (r / 2) 0 < 65536 := by
    rw [List.getD_eq_getElem?_getD]
    cases hi : vs[r / 2]? with
    | none => simp
    | some x => exact h x (List.mem_of_getElem? hi)
  unfold wv; split
  · exact xor_lt hd
  · exact hd
/-- the words go with the bits -/
structure WB (ns : List Nd) : Prop where
  len : (wvs ns).1.length = ns.length
  cnt : ∀ env, (wvs ns).2 = (nv env ns).2
  lt : ∀ x ∈ (wvs ns).1, x < 65536
  bit : ∀ j, j < 16 → ∀ i, ((wvs ns).1.getD i 0).testBit j = (nv (envOf j) ns).1.getD i false
theorem wv_bit {ns : List Nd} (h : WB ns) {j : Nat} (hj : j < 16) (r : Nat) : (wv (wvs ns).1 r).testBit j = bv (envOf j) ns r := by
  unfold wv bv rv
  split
  · rename_i h1
    rw [Nat.testBit_xor, h.bit j hj, show (65535 : Nat) = 2 ^ 16 - 1 from rfl, Nat.testBit_two_pow_sub_one]
    simp [hj, h1]
  · rename_i h1
    rw [h.bit j hj]
    simp [h1]
theorem getD_snoc {α : Type} (l : List α) (x d : α) (i : Nat) : (l ++ [x]).getD i d = if i < l.length then l.getD i d else if i = l.length then x else d := by
  simp only [List.getD_eq_getElem?_getD]
  by_cases h : i < l.length
  · rw [if_pos h, List.getElem?_append_left h]
  · rw [if_neg h]
    by_cases h2 : i = l.length
    · subst h2; rw [if_pos rfl, List.getElem?_append_right (Nat.le_refl _)]; simp
    · rw [if_neg h2, List.getElem?_eq_none (by simp; omega)]; rfl
theorem wb_nil : WB [] := ⟨rfl, fun _ => rfl, by simp [wvs], by intro j _ i; simp [wvs, nv]⟩
theorem wb_snoc {ns : List Nd} (h : WB ns) (x : Nd) : WB (ns ++ [x]) := by
  have hl : ∀ env, (nv env ns).1.length = (wvs ns).1.length := fun env => by rw [nv_len, h.len]
  refine ⟨?_, fun env => ?_, fun y hy => ?_, fun j hj i => ?_⟩
  · rw [wvs_snoc]; unfold wvStep; (repeat' split) <;> simp [h.len]
  · rw [wvs_snoc, nv_snoc]; unfold wvStep nvStep; (repeat' split) <;> simp [h.cnt env]
  · rw [wvs_snoc] at hy
    unfold wvStep at hy
    (repeat' split at hy) <;> simp at hy <;> rcases hy with hy | rfl
    · exact h.lt y hy
    · exact Nat.and_lt_two_pow (n := 16) _ (wv_lt h.lt _)
    · exact h.lt y hy
    · have := inWords_lt (wvs ns).2; simpa using this
    · exact h.lt y hy
    · omega
  · rw [wvs_snoc, nv_snoc]
    have e := h.cnt (envOf j)
    unfold wvStep nvStep
    split
    · rw [getD_snoc, getD_snoc, hl]
      (repeat' split)
      · exact h.bit j hj i
      · rw [Nat.testBit_and, wv_bit h hj, wv_bit h hj]; rfl
      · simp
    · split
      · rw [getD_snoc, getD_snoc, hl]
        (repeat' split)
        · exact h.bit j hj i
        · rw [e]; rfl
        · simp
      · rw [getD_snoc, getD_snoc, hl]
        (repeat' split)
        · exact h.bit j hj i
        · simp
        · simp
theorem wb_all : ∀ (ms ns : List Nd), WB ns → WB (ns ++ ms)
  | [], ns, h => by simpa using h
  | x :: ms, ns, h => by
    rw [List.append_cons]
    exact wb_all ms (ns ++ [x]) (wb_snoc h x)
theorem wb (ns : List Nd) : WB ns := by simpa using wb_all ns [] wb_nil
theorem cnt_mono (ns : List Nd) (k : Nat) : (wvs (ns.take k)).2 ≤ (wvs ns).2 := by
  rw [(wb _).cnt (fun _ => false), (wb _).cnt (fun _ => false)]
  have := nv_count (fun _ => false) (ns.drop k) (ns.take k)
  rw [List.take_append_drop] at this
  omega
/-- what the laws compare: the words of the references -/
theorem want_is {b : Bd} (h : BOk b) {i r x : Nat} (hr : b.refs[i]? = some r) (hx : b.want[i]? = some x) : wv (wvs b.G.nodes).1 r = x := by
  apply Nat.eq_of_testBit_eq
  intro j
  have hxl := h.words x (List.mem_of_getElem? hx)
  by_cases hj : j < 16
  · rw [wv_bit (wb _) hj, h.sem j hj i r x hr hx]
  · have hp : 2 ^ 16 ≤ 2 ^ j := Nat.pow_le_pow_right (by omega) (by omega)
    rw [Nat.testBit_lt_two_pow (Nat.lt_of_lt_of_le (wv_lt (wb _).lt r) hp), Nat.testBit_lt_two_pow (Nat.lt_of_lt_of_le hxl hp)]
end Go.Proofs.YtnmfdiiehkkjcaaGreat
