/-
  Walks over sim: check, Words, Bits. Conditions: a graph in memory, references of any integers, words that can be read.
  Counting the bits of a word, plainly: the lowest bit that is 1 goes with each step. No program in sight. Conditions: none beyond the hypotheses.
  Walk over sim: Bits. Conditions: a graph in memory, references of any integers, values that can be read.
  Walk over made of chapter 23's law: what each operation makes of two words. Conditions: a graph in memory, words that are held.
  Walks over sim: one, table. Conditions: a graph of at most 16 inputs in memory, what tells a word.
  Walks over sim: tabled, Table. Conditions: a graph in memory, any reference.
  Walk over sim: Count. Conditions: a graph in memory, any reference.
  Walk over sim: first. Conditions: a graph of at most 16 inputs in memory, what tells a word.
  The laws' graphs, plainly: built step by step. No program in sight. Conditions: none beyond the hypotheses.
  The words of the nodes, plainly, and their bits. No program in sight. Conditions: none beyond the hypotheses.
  The cone that AigCone looks through, plainly: in which order, what is marked when, how many. No program in sight. Conditions: none beyond the hypotheses.
  Walks over slices.BinarySearch of ints, sim's Nodes and Support. Conditions: a rising slice; a graph in memory.
  Walks over few, index, ref and made of chapter 21's laws. Conditions: a slice of nodes of any integers.
  From a law's arguments to what the walks say: nodes of chapter 27. Conditions: those of the given row.
  Walk over slices.Equal of words; the functions of sim as steps of a walk that holds slices. Conditions: slices that can be read.
  Walk over slices.Clone of words; words fitted to as many as inputs; what the nodes are for words of the inputs, node by node. Conditions: a slice that can be read.
  The support of references, plainly: what does not lie in it does not matter. No program in sight. Conditions: a graph in order.
  Formulas of circuits, plainly: the map of a graph and of roots, its literals, the clauses. No program in sight. Conditions: none beyond the hypotheses.
  Walk over slices.BinarySearch of ints, of any slice: its index too. Conditions: a slice that can be read.
  Walks over lits (Right, Var, Negated, Of) and tseitin (rising, Lit, Ref). Conditions: numbers of 64 bits; a map that can be read.
  A map from numbers to values that are known, one after the other. Conditions: the two facts on the types of map and key.
  Walks over slices.DeleteFunc of ints (nothing, or the first one alone, is deleted), tseitin's mapped and literals. Conditions: a graph in memory, roots that can be read.
  What the formula of a graph and of roots means: its models are the assignments for which the roots are true. No program in sight. Conditions: a graph that is right, roots of it.
  Walks over tseitin's mapped and literals. Conditions: a graph in memory, roots that can be read; a map in order.
  A range over a function whose iterator itself works on memory between its yields: the caller's law. The body goes on always.
  append of a piece to a row, behind a fence. Conditions: a row, and a piece that can be read.
  Walk over tseitin's written: the iterator over the clauses of a graph, a map and roots. Conditions: a graph in memory, a map that is closed, roots of the graph.
  Walk over tseitin's Size. Conditions: a graph in memory, roots that can be read.
  Walk over tseitin's Encode. Conditions: a graph in memory, roots that can be read.
  Walks over slices.Equal, Index and Contains of maps and of clauses, and over same of chapter 27's laws (clauses that are the same). Conditions: slices that can be read.
  Walk over the chapter's examples (awake of tseitin): true. Conditions: none.
  Walk over tseitin's Right. Conditions: a graph in memory, a map of any numbers that can be read.
  Walks over tseitin's Model and Inputs. Conditions: a graph in memory, a map of any numbers and values that can be read.
  The models of the formula of a graph and of roots are counted by assignments of the inputs of the cone. No program in sight. Conditions: a graph that is right, roots of it.
-/
import Derived.Test.YtkedpifopclipaaQB
import Derived.Deep.DeepCutAuto
import Derived.MapKept
import Derived.OwnWalkIn
namespace Go.Aig
/-- what a word of references is, for words of the inputs -/
def wsOf (ins : List Nat) (ns : List Nd) (l : List Nat) : List Nat := l.map (wref 18446744073709551615 (wvF 18446744073709551615 ins ns).1)
/-- what a word of references is, for an assignment -/
def bsOf (ins : List Bool) (ns : List Nd) (l : List Nat) : List Bool := l.map (bv (fun i => ins.getD i false) ns)
def wOf (l : List Bool) : List Nat := l.map fun b => if b then 1 else 0
theorem wOf_bit (l : List Bool) : (fun i => ((wOf l).getD i 0).testBit 0) = fun i => l.getD i false := by
  funext i
  unfold wOf
  rw [List.getD_eq_getElem?_getD, List.getD_eq_getElem?_getD, List.getElem?_map]
  cases l[i]? with
  | none => rfl
  | some b => cases b <;> rfl
theorem wsOf_bits (ins : List Bool) (ns : List Nd) (l : List Nat) : (wsOf (wOf ins) ns l).map (fun v => v.testBit 0) = bsOf ins ns l := by
  unfold wsOf bsOf
  rw [List.map_map]
  apply List.map_congr_left
  intro r _
  have := wv_bv (N := 64) (k := 0) (by omega) (wOf ins) ns r
  rw [wOf_bit] at this
  exact this
theorem wOf_lt (l : List Bool) : ∀ v ∈ wOf l, v < 2 ^ 64 := fun v hv => by
  obtain ⟨b, _, rfl⟩ := List.mem_map.1 hv
  cases b <;> decide
theorem wsOf_lt {ins : List Nat} (h : ∀ v ∈ ins, v < 2 ^ 64) (ns : List Nd) (l : List Nat) : ∀ v ∈ wsOf ins ns l, v < 2 ^ 64 := fun v hv => by
  obtain ⟨r, _, rfl⟩ := List.mem_map.1 hv
  exact wref_lt (N := 64) (wvF_lt (N := 64) h ns).1 r
end Go.Aig
namespace Go.Proofs.Ytkedpifopclipaa
open Go.RowKit Go.Mem Go.Aig
section
variable {w : World} {g : Nat} {G : Gra} {F : List Nat}
theorem fnvsimcheck1 : Fnv 175 := fnv_of Try.func175 (by simp [Try.f175]) (by simp [Try.f175])
set_option maxRecDepth 100000 in
set_option maxHeartbeats 1000000 in
theorem simcheck1_is (h : GIn w g G F) {bx : Nat} (hb : w.cell? ⟨bx, 0, none⟩ = some (.pointer (some ⟨g, 0, none⟩))) (r : Int) (hr : r ≤ 9223372036854775807) :
    Calls Try.prog 175 (#[.int .i64 r] ++ #[.pointer (some ⟨bx, 0, none⟩)]) w fun e w' => e = .returned (.bool (!right G.nodes r)) ∧ w = w' := by
  show Calls Try.prog 175 #[.int .i64 r, .pointer (some ⟨bx, 0, none⟩)] w _
  have HR := Right_g h r hr
  clear h
  generalize right G.nodes r = q at *
  go_enter Try.func175, Try.ntmps175
  go_wp2_with fail
  refine HR.mono ?_
  rintro e w' ⟨rfl, rfl⟩
  go_wp2_with fail
  go_ret
  exact ⟨ret_bool rfl, rfl⟩
set_option maxRecDepth 100000 in
set_option maxHeartbeats 2000000 in
theorem simcheck_is (h : GIn w g G F) {a : Option Addr} {l : List Int} (n c : Nat) (hn : l.length = n) (hS : Sl w a l) (hbd : ∀ r ∈ l, r ≤ 9223372036854775807) :
    Calls Try.prog 110 #[.pointer (some ⟨g, 0, none⟩), .slice a n c] w fun e w' => e = .returned (.int .i64 (if badIn G l then 200 else 0 : Nat)) ∧ Ch [] w w' := by
  subst hn
  have hpos := h.ok.wf.pos
  have hp0 : ((G.nodes.length : Int) == 0) = false := beqN (by omega)
  have hC : ∀ W, W = w.alloc (.cells #[.pointer (some ⟨g, 0, none⟩)] 27) → Calls Try.prog 84 #[.slice a l.length c, .func (.func 175) #[] #[.pointer (some ⟨w.heap.size, 0, none⟩)]] W fun e w' => e = .returned (.bool (badIn G l)) ∧ W = w' := fun W hW => by
    have hc := alw_ch hW
    have hb := alw_blk (xs := [.pointer (some ⟨g, 0, none⟩)]) hW
    exact CFref_is c 175 #[.pointer (some ⟨w.heap.size, 0, none⟩)] (fun r => !right G.nodes r) (hS.ch hc (by simp)) (fun r hr => simcheck1_is (h.same hc (by simp)) (hb.cell (i := 0) rfl) r (hbd r hr)) fnvsimcheck1
  have hL : ∀ W, W = w.alloc (.cells #[.pointer (some ⟨g, 0, none⟩)] 27) → Calls Try.prog 26 #[.pointer (some ⟨g, 0, none⟩)] W fun e w' => e = .returned (.int .i64 G.nodes.length) ∧ W = w' := fun W hW => Len_g (h.same (alw_ch hW) (by simp))
  have hw : w.cell? ⟨w.heap.size, 0, none⟩ = none := by simp [World.cell?]
  have HC := Lib.hid hC; clear hC
  have HL := Lib.hid hL; clear hL hw
  clear h hS hbd
  cases hq : badIn G l
  · rw [hq] at HC
    have HQ := Lib.hid hq; clear hq
    go_enter Try.func110, Try.ntmps110
    go_wp2_with fail
    refine (HL.out _ rfl).mono ?_
    rintro e w' ⟨rfl, rfl⟩
    go_wp2_with fail
    refine (HC.out _ rfl).mono ?_
    rintro e w' ⟨rfl, rfl⟩
    go_wp2_with fail
    go_ret
    exact ⟨rfl, (Ch.refl _ _).alloc _⟩
  · rw [hq] at HC
    have HQ := Lib.hid hq; clear hq
    go_enter Try.func110, Try.ntmps110
    go_wp2_with fail
    refine (HL.out _ rfl).mono ?_
    rintro e w' ⟨rfl, rfl⟩
    go_wp2_with fail
    refine (HC.out _ rfl).mono ?_
    rintro e w' ⟨rfl, rfl⟩
    go_wp2_with fail
    go_ret
    exact ⟨rfl, (Ch.refl _ _).alloc _⟩
/-- what Words returns -/
def wordsR (G : Gra) (ins : List Nat) (l : List Int) : List Nat × Nat := if badIn G l then ([], 200) else if ins.length ≠ (inputs G.nodes).length then ([], 210) else (wsOf ins G.nodes (nats l), 0)
/-- a new slice of words -/
def UNew (w : World) (v : Value) (l : List Nat) (w' : World) : Prop := row w' 183 1 v l.length (u64s l) ∧ (∀ q ∈ v.ownBlock.toList, w.heap.size ≤ q) ∧ Ch [] w w'
set_option maxRecDepth 100000 in
set_option maxHeartbeats 8000000 in
theorem simWords_is (h : GIn w g G F) {xa : Option Addr} {ins : List Nat} (xc : Nat) (hS : Sv w xa (u64s ins)) (hlt : ∀ v ∈ ins, v < 2 ^ 64) (hcap : ins.length ≤ xc) (hxc : xc ≤ 9223372036854775807) {a : Option Addr} {l : List Int} (c : Nat) (hL : Sl w a l) (hbd : ∀ r ∈ l, -9223372036854775808 ≤ r ∧ r ≤ 9223372036854775807) (hll : l.length ≤ 100000) :
    Calls Try.prog 109 #[.pointer (some ⟨g, 0, none⟩), .slice xa ins.length xc, .slice a l.length c] w fun e w' => ∃ v, e = .returned (.tuple #[v, .int .i64 (wordsR G ins l).2]) ∧ UNew w v (wordsR G ins l).1 w' := by
  have hpos := h.ok.wf.pos
  have hroom := h.ok.room
  have hmost := h.ok.most
  have hCk := simcheck_is h l.length c rfl hL (fun r hr => (hbd r hr).2)
  have hIn := fun (W : World) (hW : Ch [] w W) => Inputs_g (h.same hW (by simp))
  by_cases hb : badIn G l = true
  · have hR : wordsR G ins l = ([], 200) := by unfold wordsR; rw [if_pos hb]
    rw [hR]
    rw [if_pos hb] at hCk
    have HCK := Lib.hid hCk; clear hCk h hS hlt hL hbd hIn hb hR
    go_enter Try.func109, Try.ntmps109
    go_wp2_with fail
    refine HCK.out.mono ?_
    rintro e w1 ⟨rfl, hc1⟩
    have HC1 := Lib.hid hc1; clear hc1
    go_wp2_with fail
    go_ret2
    exact ⟨_, rfl, ⟨rfl, .inl ⟨rfl, rfl⟩⟩, by simp, HC1.out⟩
  · have hb2 : badIn G l = false := by simpa using hb
    rw [if_neg hb] at hCk
    obtain ⟨hnat, hnlt⟩ := badIn_no hb2
    by_cases hi : ins.length = (inputs G.nodes).length
    · have hR : wordsR G ins l = (wsOf ins G.nodes (nats l), 0) := by unfold wordsR; rw [if_neg hb, if_neg (by simp [hi])]
      rw [hR]
      have hNd := fun (W : World) (hW : Ch [] w W) => simnodes_is (h.same hW (by simp)) xc (hS.ch hW (by simp)) hi.symm hlt hcap hxc
      have hvl := wvF_len U64 ins G.nodes
      have hvb := (wvF_lt (N := 64) hlt G.nodes).1
      rw [u64_pow] at hvb
      unfold wsOf
      generalize hV : (wvF U64 ins G.nodes).1 = V at *
      clear hV
      have hie : ((ins.length : Int) != (inputs G.nodes).length) = false := by simp [hi]
      have HCK := Lib.hid hCk; clear hCk
      have HIN := Lib.hid hIn; clear hIn
      have HND := Lib.hid hNd; clear hNd
      have HVL := Lib.hid hvl; clear hvl
      have HVB := Lib.hid hvb; clear hvb
      have HL := Lib.hid hL; clear hL
      have HNL := Lib.hid hnlt; clear hnlt
      have HNT := Lib.hid hnat; clear hnat
      clear h hS hlt hbd hb hb2 hR hi
      generalize (inputs G.nodes).length = ni at *
      have hcf : ∀ args w, (callFunc 203 args).run Try.prog w = .ok (.enter 203 args) w := fnvsimof1
      go_enter Try.func109, Try.ntmps109
      go_wp2_with fail
      refine HCK.out.mono ?_
      rintro e w1 ⟨rfl, hc1⟩
      have hI1 := HIN.out w1 hc1
      have HI1 := Lib.hid hI1; clear hI1 HIN
      have HC1 := Lib.hid hc1; clear hc1
      go_wp2_with fail
      refine HI1.out.mono ?_
      rintro e w2 ⟨v, rfl, hro, _, hc2⟩
      obtain ⟨ia, ic, rfl⟩ := row.shape hro
      have hc12 := HC1.out.trans hc2 (by simp)
      have hN2 := HND.out w2 hc12
      have HN2 := Lib.hid hN2; clear hN2 HND hro hc2
      have HC2 := Lib.hid hc12; clear hc12 HI1 HC1
      go_wp2_with fail
      refine HN2.out.mono ?_
      rintro e w3 ⟨rfl, hbo, hc3⟩
      have hc13 := HC2.out.trans hc3 (by simp)
      have hz23 := HC2.out.size
      clear HN2
      generalize w2.heap.size = ob at *
      have hOf := simof_is (w := w3) (some ⟨ob, 0, none⟩) G.nodes.length G.nodes.length
      have HOF := Lib.hid hOf; clear hOf
      have HBO := Lib.hid hbo; clear hbo
      have HC3 := Lib.hid hc13; clear hc13 hc3 HC2
      go_wp2_with fail
      refine HOF.out.mono ?_
      rintro e w4 ⟨rfl, hw4⟩
      have hbx := alw_blk (xs := [.slice (some ⟨ob, 0, none⟩) G.nodes.length G.nodes.length]) hw4
      have hbo := HBO.out.ch (alw_ch hw4) (by simp)
      have hc4 := HC3.out.trans (alw_ch hw4) (by simp)
      have hz34 := HC3.out.size
      clear hw4 HOF HBO HC3
      generalize w3.heap.size = bx at *
      have HBX := Lib.hid hbx; clear hbx
      have HBO := Lib.hid hbo; clear hbo
      have HC4 := Lib.hid hc4; clear hc4
      go_wp2_with fail
      go_loopw [10, 31] (fun o i wr => ∃ k : Nat, k ≤ l.length ∧ i = .int .i64 k ∧ Ch [] w4 wr ∧ row wr 183 1 o k (u64s (((nats l).take k).map (wref U64 V))) ∧ ∀ q ∈ o.ownBlock.toList, w4.heap.size ≤ q) (fun _ i _ => l.length - (intOf i).toNat)
      case atStart => exact ⟨0, by omega, rfl, Ch.refl _ _, ⟨rfl, .inl ⟨rfl, rfl⟩⟩, by simp⟩
      case round =>
        obtain ⟨k, hk, rfl, hc, hrow, hlo⟩ := hrel
        obtain ⟨oa, oc, rfl⟩ := row.shape hrow
        by_cases hlt : k < l.length
        · obtain ⟨x, hx⟩ : ∃ x, (nats l)[k]? = some x := ⟨_, List.getElem?_eq_getElem (by rw [nats_len]; exact hlt)⟩
          have hxl := HNL.out x (List.mem_of_getElem? hx)
          have hlx : l[k]? = some (x : Int) := by rw [← HNT.out, List.getElem?_map, hx]; rfl
          obtain ⟨xb, xo, rfl, hcl⟩ := HL.out.cells k x hlx
          have c0 := ((HC4.out.trans hc (by simp)).cell (cell_lt hcl) (by simp)).trans hcl
          have hW := simof1_is ((HBX.out.ch hc (by simp)).cell (i := 0) rfl) (HBO.out.ch hc (by simp)) HVL.out HVB.out x hxl (by omega)
          have hsu : u64s (((nats l).take (k + 1)).map (wref U64 V)) = u64s (((nats l).take k).map (wref U64 V)) ++ [.int .u64 (wref U64 V x)] := by rw [List.take_add_one, hx]; simp [u64s]
          generalize wref U64 V x = vx at hW hsu
          have hcA : Ch [] wr (wr.alloc (.cells #[.int .u64 vx] 183)) := (Ch.refl _ _).alloc _
          have hrA := hrow.ch hcA (by simp)
          have hbA : blk (wr.alloc (.cells #[.int .u64 vx] 183)) wr.heap.size [.int .u64 vx] := blk.new' _ _ rfl
          have HW := Lib.hid hW; clear hW
          have HSU := Lib.hid hsu; clear hsu
          have HRA := Lib.hid hrA; clear hrA hrow
          have HBA := Lib.hid hbA; clear hbA
          have HCA := Lib.hid hcA; clear hcA
          have HCP := Lib.hid hc; clear hc
          have HLO := Lib.hid hlo; clear hlo hcl hlx hx
          go_wp2_with fail
          refine HW.out.mono ?_
          rintro e w' ⟨rfl, rfl⟩
          go_wp2_with (at_builtin; go_loud (refine wpList_append_row slU64s rfl _ _ rfl (v := .slice oa k oc) (n := k) (xs := u64s (((nats l).take k).map (wref U64 V))) rfl HRA.out (ad := ⟨wr.heap.size, 0, none⟩) (m := 1) (c := 1) (news := [.int .u64 vx]) rfl rfl (news_blk HBA.out) (by simp [Value.oneCell']) (by omega) (by omega) ?_; intro v' w5 hown4 hC4 hf4; have HO4 := Lib.hid hown4; clear hown4; have HCC4 := Lib.hid hC4; clear hC4; have HF4 := Lib.hid hf4; clear hf4))
          go_roundw
          case rel =>
            obtain ⟨q1, q2⟩ := app_step HCP.out HCA.out HLO.out HCC4.out HF4.out
            refine ⟨k + 1, by omega, by go_num, q1, ?_, q2⟩
            rw [HSU.out]; exact HO4.out
          case measure => simp [intOf]; omega
        · have hkn : k = l.length := by omega
          have hall : (nats l).take k = nats l := List.take_of_length_le (by rw [nats_len]; omega)
          rw [hall] at hrow
          rw [hkn] at hrow hlo
          rw [hkn]
          have HROW := Lib.hid hrow; clear hrow
          have HLO := Lib.hid hlo; clear hlo
          have HCP := Lib.hid hc; clear hc hall hkn
          go_wp2_with fail
          go_ret2
          refine ⟨.slice oa l.length oc, rfl, ?_, fun q hq => Nat.le_trans HC4.out.size (HLO.out q hq), HC4.out.trans HCP.out (by simp)⟩
          have := HROW.out
          simpa using this
    · have hR : wordsR G ins l = ([], 210) := by unfold wordsR; rw [if_neg hb, if_pos hi]
      rw [hR]
      have hie : ((ins.length : Int) != (inputs G.nodes).length) = true := by simp; omega
      have HCK := Lib.hid hCk; clear hCk
      have HIN := Lib.hid hIn; clear hIn
      clear h hS hlt hL hbd hb hb2 hR hi hnat hnlt
      generalize (inputs G.nodes).length = ni at *
      go_enter Try.func109, Try.ntmps109
      go_wp2_with fail
      refine HCK.out.mono ?_
      rintro e w1 ⟨rfl, hc1⟩
      have hI1 := HIN.out w1 hc1
      have HI1 := Lib.hid hI1; clear hI1 HIN
      have HC1 := Lib.hid hc1; clear hc1
      go_wp2_with fail
      refine HI1.out.mono ?_
      rintro e w2 ⟨v, rfl, hro, _, hc2⟩
      obtain ⟨ia, ic, rfl⟩ := row.shape hro
      have HC2 := Lib.hid (HC1.out.trans hc2 (by simp)); clear hc2 HI1 HC1 hro
      go_wp2_with fail
      go_ret2
      exact ⟨_, rfl, ⟨rfl, .inl ⟨rfl, rfl⟩⟩, by simp, HC2.out⟩
end
end Go.Proofs.Ytkedpifopclipaa
namespace Go.Aig
/-- how many bits of a word of 64 are 1 -/
def cnt (w : Nat) : Nat := ((List.range 64).filter fun k => w.testBit k).length
end Go.Aig
namespace Go.Proofs.Ytkedpifopclipaa
open Go.RowKit Go.Mem Go.Aig
theorem row.capLe' {w : World} {e : TypeId} {size : Nat} {a : Option Addr} {n c m : Nat} {xs : List Value} (h : row w e size (.slice a n c) m xs) : m ≤ c ∧ c ≤ 9223372036854775807 := by
  rcases h.2 with ⟨e1, h0⟩ | ⟨g', cap', cur, e1, _, _, h1, h2, _⟩
  · cases e1; omega
  · cases e1; exact ⟨h1, by unfold maxLen at h2; exact h2⟩
/-- what Bits returns -/
def bitsR (G : Gra) (ins : List Bool) (l : List Int) : List Bool × Nat := if badIn G l then ([], 200) else if ins.length ≠ (inputs G.nodes).length then ([], 210) else (bsOf ins G.nodes (nats l), 0)
theorem wOf_len (l : List Bool) : (wOf l).length = l.length := by simp [wOf]
theorem bitsR_words (G : Gra) (ins : List Bool) (l : List Int) : bitsR G ins l = ((wordsR G (wOf ins) l).1.map (fun v => v.testBit 0), (wordsR G (wOf ins) l).2) := by
  unfold bitsR wordsR
  rw [wOf_len]
  split
  · rfl
  · split
    · rfl
    · rw [wsOf_bits]
/-- a new slice of truths -/
def BNew (w : World) (v : Value) (l : List Bool) (w' : World) : Prop := row w' 4 1 v l.length (bools l) ∧ (∀ q ∈ v.ownBlock.toList, w.heap.size ≤ q) ∧ Ch [] w w'
section
variable {w : World} {g : Nat} {G : Gra} {F : List Nat}
set_option maxRecDepth 100000 in
set_option maxHeartbeats 8000000 in
theorem simBits_is (h : GIn w g G F) {xa : Option Addr} {ins : List Bool} (n xc : Nat) (hn : ins.length = n) (hS : Sb w xa ins) (hnl : n ≤ 100000) {a : Option Addr} {l : List Int} (m c : Nat) (hm : l.length = m) (hL : Sl w a l) (hbd : ∀ r ∈ l, -9223372036854775808 ≤ r ∧ r ≤ 9223372036854775807) (hll : m ≤ 100000) :
    Calls Try.prog 43 #[.pointer (some ⟨g, 0, none⟩), .slice xa n xc, .slice a m c] w fun e w' => ∃ v, e = .returned (.tuple #[v, .int .i64 (bitsR G ins l).2]) ∧ BNew w v (bitsR G ins l).1 w' := by
  subst hn hm
  have hW := fun (W : World) (hW : Ch [] w W) (wa : Option Addr) (wc : Nat) (hwa : row W 183 1 (.slice wa ins.length wc) ins.length (u64s (wOf ins))) => simWords_is (h.same hW (by simp)) (ins := wOf ins) (xa := wa) wc (row.sv hwa rfl (by omega)) (wOf_lt ins) (by rw [wOf_len]; exact (row.capLe' hwa).1) (row.capLe' hwa).2 c (hL.ch hW (by simp)) hbd hll
  simp only [wOf_len] at hW
  rw [bitsR_words]
  have hwl : (wordsR G (wOf ins) l).1.length ≤ l.length := by
    unfold wordsR
    split
    · simp
    · split
      · simp
      · simp [wsOf]
  have hwb : ∀ v ∈ (wordsR G (wOf ins) l).1, v < 2 ^ 64 := by
    unfold wordsR
    split
    · simp
    · split
      · simp
      · exact wsOf_lt (wOf_lt ins) _ _
  generalize wordsR G (wOf ins) l = R at *
  obtain ⟨ws, e0⟩ := R
  simp only at hwl hwb hW ⊢
  have HW := Lib.hid hW; clear hW
  have HS := Lib.hid hS; clear hS h hL hbd
  have HWB := Lib.hid hwb; clear hwb
  go_enter Try.func43, Try.ntmps43
  go_wp2_with fail
  go_loopw [8, 19] (fun o i wr => ∃ k : Nat, k ≤ ins.length ∧ i = .int .i64 k ∧ Ch [] w wr ∧ row wr 183 1 o k (u64s (wOf (ins.take k))) ∧ ∀ q ∈ o.ownBlock.toList, w.heap.size ≤ q) (fun _ i _ => ins.length - (intOf i).toNat)
  case atStart => exact ⟨0, by omega, rfl, Ch.refl _ _, ⟨rfl, .inl ⟨rfl, rfl⟩⟩, by simp⟩
  case round =>
    obtain ⟨k, hk, rfl, hc, hrow, hlo⟩ := hrel
    obtain ⟨oa, oc, rfl⟩ := row.shape hrow
    by_cases hlt : k < ins.length
    · obtain ⟨x, hx⟩ : ∃ x, ins[k]? = some x := ⟨_, List.getElem?_eq_getElem hlt⟩
      obtain ⟨xb, xo, rfl, hcl⟩ := HS.out.cells k (.bool x) (by simp [hx])
      have c0 := (hc.cell (cell_lt hcl) (by simp)).trans hcl
      cases x
      · have hsu : u64s (wOf (ins.take (k + 1))) = u64s (wOf (ins.take k)) ++ [.int .u64 0] := by rw [List.take_add_one, hx]; simp [u64s, wOf]
        have hcA : Ch [] wr (wr.alloc (.cells #[.int .u64 0] 183)) := (Ch.refl _ _).alloc _
        have hrA := hrow.ch hcA (by simp)
        have hbA : blk (wr.alloc (.cells #[.int .u64 0] 183)) wr.heap.size [.int .u64 0] := blk.new' _ _ rfl
        have HSU := Lib.hid hsu; clear hsu
        have HRA := Lib.hid hrA; clear hrA hrow
        have HBA := Lib.hid hbA; clear hbA
        have HCA := Lib.hid hcA; clear hcA
        have HCP := Lib.hid hc; clear hc
        have HLO := Lib.hid hlo; clear hlo hcl hx
        go_wp2_with (at_builtin; go_loud (refine wpList_append_row slU64s rfl _ _ rfl (v := .slice oa k oc) (n := k) (xs := u64s (wOf (ins.take k))) rfl HRA.out (ad := ⟨wr.heap.size, 0, none⟩) (m := 1) (c := 1) (news := [.int .u64 0]) rfl rfl (news_blk HBA.out) (by simp [Value.oneCell']) (by omega) (by omega) ?_; intro v' w5 hown4 hC4 hf4; have HO4 := Lib.hid hown4; clear hown4; have HCC4 := Lib.hid hC4; clear hC4; have HF4 := Lib.hid hf4; clear hf4))
        go_roundw
        case rel =>
          obtain ⟨q1, q2⟩ := app_step HCP.out HCA.out HLO.out HCC4.out HF4.out
          refine ⟨k + 1, by omega, by go_num, q1, ?_, q2⟩
          rw [HSU.out]; exact HO4.out
        case measure => simp [intOf]; omega
      · have hsu : u64s (wOf (ins.take (k + 1))) = u64s (wOf (ins.take k)) ++ [.int .u64 1] := by rw [List.take_add_one, hx]; simp [u64s, wOf]
        have hcA : Ch [] wr (wr.alloc (.cells #[.int .u64 1] 183)) := (Ch.refl _ _).alloc _
        have hrA := hrow.ch hcA (by simp)
        have hbA : blk (wr.alloc (.cells #[.int .u64 1] 183)) wr.heap.size [.int .u64 1] := blk.new' _ _ rfl
        have HSU := Lib.hid hsu; clear hsu
        have HRA := Lib.hid hrA; clear hrA hrow
        have HBA := Lib.hid hbA; clear hbA
        have HCA := Lib.hid hcA; clear hcA
        have HCP := Lib.hid hc; clear hc
        have HLO := Lib.hid hlo; clear hlo hcl hx
        go_wp2_with (at_builtin; go_loud (refine wpList_append_row slU64s rfl _ _ rfl (v := .slice oa k oc) (n := k) (xs := u64s (wOf (ins.take k))) rfl HRA.out (ad := ⟨wr.heap.size, 0, none⟩) (m := 1) (c := 1) (news := [.int .u64 1]) rfl rfl (news_blk HBA.out) (by simp [Value.oneCell']) (by omega) (by omega) ?_; intro v' w5 hown4 hC4 hf4; have HO4 := Lib.hid hown4; clear hown4; have HCC4 := Lib.hid hC4; clear hC4; have HF4 := Lib.hid hf4; clear hf4))
        go_roundw
        case rel =>
          obtain ⟨q1, q2⟩ := app_step HCP.out HCA.out HLO.out HCC4.out HF4.out
          refine ⟨k + 1, by omega, by go_num, q1, ?_, q2⟩
          rw [HSU.out]; exact HO4.out
        case measure => simp [intOf]; omega
    · have hkn : k = ins.length := by omega
      rw [hkn, List.take_of_length_le (Nat.le_refl _)] at hrow
      rw [hkn] at hlo
      rw [hkn]
      have hW1 := HW.out wr hc oa oc hrow
      have HW1 := Lib.hid hW1; clear hW1 HW hrow hlo hkn
      have HC := Lib.hid hc; clear hc
      go_wp2_with fail
      refine HW1.out.mono ?_
      rintro e w3 ⟨v, rfl, hrv, _, hc3⟩
      obtain ⟨va, vc, rfl⟩ := row.shape hrv
      have hsv := row.sv hrv rfl (by omega)
      have HSV := Lib.hid hsv; clear hsv hrv
      have HC3 := Lib.hid (HC.out.trans hc3 (by simp)); clear hc3 HC HW1
      go_wp2_with fail
      go_loopw [14, 38] (fun o i wq => ∃ j : Nat, j ≤ ws.length ∧ i = .int .i64 j ∧ Ch [] w3 wq ∧ row wq 4 1 o j (bools ((ws.take j).map (fun v => v.testBit 0))) ∧ ∀ q ∈ o.ownBlock.toList, w3.heap.size ≤ q) (fun _ i _ => ws.length - (intOf i).toNat)
      case atStart => exact ⟨0, by omega, rfl, Ch.refl _ _, ⟨rfl, .inl ⟨rfl, rfl⟩⟩, by simp⟩
      case round =>
        obtain ⟨j, hj, rfl, hc, hrow, hlo⟩ := hrel
        obtain ⟨oa, oc, rfl⟩ := row.shape hrow
        by_cases hlt : j < ws.length
        · obtain ⟨x, hx⟩ : ∃ x, ws[j]? = some x := ⟨_, List.getElem?_eq_getElem hlt⟩
          have hxb := HWB.out x (List.mem_of_getElem? hx)
          obtain ⟨xb, xo, rfl, hcl⟩ := HSV.out.cells j (.int .u64 x) (u64s_get hx)
          have c0 := (hc.cell (cell_lt hcl) (by simp)).trans hcl
          have hand : bits .and .u64 (x : Int) 1 = ((x &&& 1 : Nat) : Int) := bits_and_u64_nat x 1 (by omega) (by omega)
          have hbe : (((x &&& 1 : Nat) : Int) == 1) = x.testBit 0 := by
            rw [Nat.testBit_zero, show x &&& 1 = x % 2 from Nat.and_one_is_mod x]
            rcases Nat.mod_two_eq_zero_or_one x with h | h <;> simp [h]
          have hsu : bools ((ws.take (j + 1)).map (fun v => v.testBit 0)) = bools ((ws.take j).map (fun v => v.testBit 0)) ++ [.bool (x.testBit 0)] := by rw [List.take_add_one, hx]; simp [bools]
          generalize x.testBit 0 = tb at hbe hsu
          generalize x &&& 1 = x1 at hand hbe
          have hcA : Ch [] wr (wr.alloc (.cells #[.bool tb] 4)) := (Ch.refl _ _).alloc _
          have hrA := hrow.ch hcA (by simp)
          have hbA : blk (wr.alloc (.cells #[.bool tb] 4)) wr.heap.size [.bool tb] := blk.new' _ _ rfl
          have HSU := Lib.hid hsu; clear hsu
          have HRA := Lib.hid hrA; clear hrA hrow
          have HBA := Lib.hid hbA; clear hbA
          have HCA := Lib.hid hcA; clear hcA
          have HCP := Lib.hid hc; clear hc
          have HLO := Lib.hid hlo; clear hlo hcl hx hxb
          go_wp2_with (at_builtin; go_loud (refine wpList_append_row slBools rfl _ _ rfl (v := .slice oa j oc) (n := j) (xs := bools ((ws.take j).map (fun v => v.testBit 0))) rfl HRA.out (ad := ⟨wr.heap.size, 0, none⟩) (m := 1) (c := 1) (news := [.bool tb]) rfl rfl (news_blk HBA.out) (by simp [Value.oneCell']) (by omega) (by omega) ?_; intro v' w5 hown4 hC4 hf4; have HO4 := Lib.hid hown4; clear hown4; have HCC4 := Lib.hid hC4; clear hC4; have HF4 := Lib.hid hf4; clear hf4))
          go_roundw
          case rel =>
            obtain ⟨q1, q2⟩ := app_step HCP.out HCA.out HLO.out HCC4.out HF4.out
            refine ⟨j + 1, by omega, by go_num, q1, ?_, q2⟩
            rw [HSU.out]; exact HO4.out
          case measure => simp [intOf]; omega
        · have hkn : j = ws.length := by omega
          rw [hkn, List.take_of_length_le (Nat.le_refl _)] at hrow
          rw [hkn] at hlo
          rw [hkn]
          have HROW := Lib.hid hrow; clear hrow
          have HLO := Lib.hid hlo; clear hlo
          have HCP := Lib.hid hc; clear hc hkn
          go_wp2_with fail
          go_ret2
          refine ⟨.slice oa ws.length oc, rfl, ?_, fun q hq => Nat.le_trans HC3.out.size (HLO.out q hq), HC3.out.trans HCP.out (by simp)⟩
          have := HROW.out
          simpa using this
end
end Go.Proofs.Ytkedpifopclipaa
namespace Go.Aig
end Go.Aig
namespace Go.Proofs.Ytkedpifopclipaa
open Go.RowKit Go.Mem Go.Aig
theorem run_storeFunc {P : Program} {w : World} {a : Addr} {m : Mode} (f : Fn) (b c : Array Value) : (store a (.func f b c) m).run P w = stored P w a (.func f b c) m := run_store P w a _ m rfl
attribute [local go_sem] run_storeFunc
section
variable {w0 w1 w : World} {F0 : List Nat} {g : Nat} {G : Gra} {F : List Nat} {L : List (Value × List Int)} {bok bout bfn : Nat} {ok : Bool} {oa : Option Addr} {m oc : Nat} {vs : List Value}
end
end Go.Proofs.Ytkedpifopclipaa
namespace Go.Proofs.Ytkedpifopclipaa
open Go.RowKit Go.Mem Go.Aig
theorem _root_.Go.Mem.blk.keep {w W : World} {b : Nat} {xs : List Value} (h : blk w b xs) (hk : W.heap[b]? = w.heap[b]?) : blk W b xs := by
  obtain ⟨T, h⟩ := h
  exact ⟨T, hk.trans h⟩
theorem _root_.Go.Mem.row.keep {w W : World} {e : TypeId} {size : Nat} {v : Value} {n : Nat} {xs : List Value} (h : row w e size v n xs) (hk : ∀ k, v.ownBlock = some k → W.heap[k]? = w.heap[k]?) : row W e size v n xs := by
  refine ⟨h.1, ?_⟩
  rcases h.2 with hn' | ⟨g, cap, cur, rfl, hb, hgg, rest⟩
  · exact .inl hn'
  · exact .inr ⟨g, cap, cur, rfl, hb, (hk g rfl).trans hgg, rest⟩
theorem GIn.keep {w W : World} {g : Nat} {G : Gra} {F : List Nat} (h : GIn w g G F) (hk : ∀ k ∈ F, W.heap[k]? = w.heap[k]?) : GIn W g G F := by
  obtain ⟨nb, ncap, iv, mb, h, rfl⟩ := h
  refine ⟨nb, ncap, iv, mb, ⟨h.st.keep (hk g (by simp [fp])), h.nodes.keep (fun k hk' => hk k (by simp [Value.ownBlock] at hk'; simp [fp, hk'])), ?_, h.ins.keep (fun k hk' => hk k (by simp [fp, hk'])), h.gm, h.gn, h.mn, h.gi, h.ni, h.mi, h.ok⟩, rfl⟩
  obtain ⟨es, clock, hm, ho⟩ := h.mp
  exact ⟨es, clock, (hk mb (by simp [fp])).trans hm, ho⟩
end Go.Proofs.Ytkedpifopclipaa
namespace Go.Proofs.Ytkedpifopclipaa
open Go.RowKit Go.Mem Go.Aig
attribute [local go_sem] Oper.semAt_some
section
variable {w : World} {g : Nat} {G : Gra} {F : List Nat}
end
end Go.Proofs.Ytkedpifopclipaa
namespace Go.Aig
end Go.Aig
namespace Go.Proofs.Ytkedpifopclipaa
open Go.RowKit Go.Mem Go.Aig
attribute [local go_sem] Oper.semAt_some
section
variable {w : World} {g : Nat} {G : Gra} {F : List Nat}
end
end Go.Proofs.Ytkedpifopclipaa
namespace Go.Aig
end Go.Aig
namespace Go.Proofs.Ytkedpifopclipaa
open Go.RowKit Go.Mem Go.Aig
attribute [local go_sem] Oper.semAt_some
section
variable {w : World} {g : Nat} {G : Gra} {F : List Nat}
end
end Go.Proofs.Ytkedpifopclipaa
namespace Go.Proofs.Ytkedpifopclipaa
open Go.Aig
/-- the bits of the inputs, for the assignment j -/
def envOf (j k : Nat) : Bool := (inWords.getD k 0).testBit j
theorem nv_count (env : Nat → Bool) : ∀ (ms ns : List Nd), (nv env (ns ++ ms)).2 = (nv env ns).2 + (ms.filter fun x => x.k == 2).length
  | [], ns => by simp
  | x :: ms, ns => by
    rw [List.append_cons, nv_count env ms (ns ++ [x]), nv_snoc]
    unfold nvStep
    by_cases h3 : x.k = 3
    · simp [h3]
    · by_cases h2 : x.k = 2
      · simp [h2]; omega
      · simp [h3, h2]
end Go.Proofs.Ytkedpifopclipaa
namespace Go.Proofs.Ytkedpifopclipaa
open Go.Aig
def wvStep (s : List Nat × Nat) (x : Nd) : List Nat × Nat :=
  if x.k = 3 then (s.1 ++ [wv s.1 x.l &&& wv s.1 x.r], s.2) else if x.k = 2 then (s.1 ++ [inWords.getD s.2 0], s.2 + 1) else (s.1 ++ [0], s.2)
def wvs (ns : List Nd) : List Nat × Nat := ns.foldl wvStep ([], 0)
/-- the words go with the bits -/
structure WB (ns : List Nd) : Prop where
  len : (wvs ns).1.length = ns.length
  cnt : ∀ env, (wvs ns).2 = (nv env ns).2
  lt : ∀ x ∈ (wvs ns).1, x < 65536
  bit : ∀ j, j < 16 → ∀ i, ((wvs ns).1.getD i 0).testBit j = (nv (envOf j) ns).1.getD i false
end Go.Proofs.Ytkedpifopclipaa
namespace Go.Proofs.Ytkedpifopclipaa
open Go.Aig
theorem getD_set {l : List Bool} {i j : Nat} : (l.set i true).getD j false = true ↔ (l.getD j false = true ∨ (j = i ∧ i < l.length)) := by
  rw [List.getD_eq_getElem?_getD, List.getD_eq_getElem?_getD, List.getElem?_set]
  by_cases e : i = j
  · subst e
    by_cases h : i < l.length
    · simp [h]
    · simp [h]
  · simp [e, Ne.symm e]
theorem stepMet_getD {ns : List Nd} {met : List Bool} (hw : WF ns) {d : Nat} (hl : met.length = ns.length) (m : Nat) : (stepMet ns met d).getD m false = true ↔ (met.getD m false = true ∨ ∃ x, ns[d]? = some x ∧ x.k = 3 ∧ (m = x.l / 2 ∨ m = x.r / 2)) := by
  unfold stepMet
  split
  · rename_i x hx
    have hd := (List.getElem?_eq_some_iff.1 hx).1
    by_cases h3 : x.k = 3
    · obtain ⟨s1, s2, s3, s4, s5⟩ := hw.sides hx h3
      rw [if_pos h3]
      unfold setMark
      rw [getD_set, getD_set]
      simp only [List.length_set]
      constructor
      · rintro ((h | ⟨rfl, _⟩) | ⟨rfl, _⟩)
        · exact .inl h
        · exact .inr ⟨x, hx, h3, .inl rfl⟩
        · exact .inr ⟨x, hx, h3, .inr rfl⟩
      · rintro (h | ⟨y, hy, _, hm⟩)
        · exact .inl (.inl h)
        · rw [hx] at hy; cases hy
          rcases hm with rfl | rfl
          · exact .inl (.inr ⟨rfl, by omega⟩)
          · exact .inr ⟨rfl, by omega⟩
    · rw [if_neg h3]
      constructor
      · exact .inl
      · rintro (h | ⟨y, hy, hk, _⟩)
        · exact h
        · rw [hx] at hy; cases hy; exact absurd hk h3
  · rename_i hx
    constructor
    · exact .inl
    · rintro (h | ⟨y, hy, _⟩)
      · exact h
      · rw [hx] at hy; cases hy
theorem coneFrom_desc {ns : List Nd} : ∀ (n : Nat) (met : List Bool), (coneFrom ns n met).Pairwise (fun a b => b < a)
  | 0, _ => List.Pairwise.nil
  | n + 1, met => by
    unfold coneFrom
    split
    · exact List.Pairwise.cons (fun r hr => coneFrom_lt ns n _ r hr) (coneFrom_desc n _)
    · exact coneFrom_desc n met
theorem cone_asc (ns : List Nd) (l : List Nat) : (cone ns l).Pairwise (fun a b => a < b) := by
  unfold cone
  rw [List.pairwise_reverse]
  exact coneFrom_desc _ _
end Go.Proofs.Ytkedpifopclipaa
namespace Go.Proofs.Ytkedpifopclipaa
open Go.RowKit Go.Mem Go.Aig
set_option maxRecDepth 100000 in
theorem cmpIsNaN_is (w : World) (x : Int) : Calls Try.prog 202 #[.int .i64 x] w fun e w' => e = .returned (.bool false) ∧ w = w' := by
  go_enter Try.func202, Try.ntmps202
  go_wp2_with fail
  go_ret
  exact ⟨ret_bool (by simp), rfl⟩
set_option maxRecDepth 100000 in
theorem slIsNaN_is (w : World) (x : Int) : Calls Try.prog 166 #[.int .i64 x] w fun e w' => e = .returned (.bool false) ∧ w = w' := by
  go_enter Try.func166, Try.ntmps166
  go_wp2_with fail
  go_ret
  exact ⟨ret_bool (by simp), rfl⟩
set_option maxRecDepth 100000 in
set_option maxHeartbeats 1000000 in
theorem cmpLess_is (w : World) (x y : Int) : Calls Try.prog 165 #[.int .i64 x, .int .i64 y] w fun e w' => e = .returned (.bool (decide (x < y))) ∧ w = w' := by
  go_enter Try.func165, Try.ntmps165
  go_wp2_with fail
  refine (cmpIsNaN_is w x).mono ?_
  rintro e w' ⟨rfl, rfl⟩
  go_wp2_with fail
  go_ret
  exact ⟨rfl, rfl⟩
section
variable {w : World} {g : Nat} {G : Gra} {F : List Nat}
end
end Go.Proofs.Ytkedpifopclipaa
namespace Go.Aig
/-- a node that is wanted -/
structure N21 where
  inp : Bool
  l : Int
  r : Int
deriving Inhabited
def cntI (l : List N21) : Nat := (l.filter fun x => x.inp).length
theorem cntI_snoc (l : List N21) (x : N21) : cntI (l ++ [x]) = cntI l + x.inp.toNat := by
  unfold cntI
  rw [List.filter_append, List.length_append]
  cases h : x.inp <;> simp [h]
end Go.Aig
namespace Go.Proofs.Ytkedpifopclipaa
open Go.RowKit Go.Mem Go.Aig
theorem and_room21 {G : Gra} (a b : Nat) (h : G.nodes.length < G.most) : (Aig.and G a b).2.2 = 0 ∧ (Aig.and G a b).1.most = G.most ∧ (Aig.and G a b).1.nodes.length ≤ G.nodes.length + 1 ∧ inputs (Aig.and G a b).1.nodes = inputs G.nodes := by
  unfold Aig.and
  split
  · exact ⟨rfl, rfl, by simp, rfl⟩
  · split
    · exact ⟨rfl, rfl, by simp, rfl⟩
    · unfold put
      rw [if_neg (by omega)]
      refine ⟨rfl, rfl, by simp, ?_⟩
      exact inputs_append (by simp)
theorem input_room {G : Gra} (h : G.nodes.length < G.most) : (doInput G).2.2 = 0 ∧ (doInput G).1.most = G.most ∧ (doInput G).1.nodes.length = G.nodes.length + 1 ∧ (inputs (doInput G).1.nodes).length = (inputs G.nodes).length + 1 := by
  unfold doInput put
  rw [if_neg (by omega)]
  refine ⟨rfl, rfl, by simp, ?_⟩
  show (inputs (G.nodes ++ [_])).length = _
  rw [inputs_input rfl]
  simp
/-- a slice of nodes -/
structure NodeS (w : World) (a : Option Addr) (n cap : Nat) (l : List N21) : Prop where
  len : l.length = n
  le : n ≤ cap
  max : cap ≤ 9223372036854775807
  cells : ∀ (i : Nat) (x : N21), l[i]? = some x → ∃ b o, a = some ⟨b, o, none⟩ ∧ w.cell? ⟨b, o + i * 3, none⟩ = some (.bool x.inp) ∧ w.cell? ⟨b, o + i * 3 + 1, none⟩ = some (.int .i64 x.l) ∧ w.cell? ⟨b, o + i * 3 + 2, none⟩ = some (.int .i64 x.r)
  bd : ∀ x ∈ l, (-9223372036854775808 ≤ x.l ∧ x.l ≤ 9223372036854775807) ∧ (-9223372036854775808 ≤ x.r ∧ x.r ≤ 9223372036854775807)
theorem NodeS.ch {w w' : World} {a : Option Addr} {n cap : Nat} {l : List N21} (h : NodeS w a n cap l) (hc : Ch [] w w') : NodeS w' a n cap l :=
  ⟨h.len, h.le, h.max, fun i x hx => by
    obtain ⟨b, o, e, h1, h2, h3⟩ := h.cells i x hx
    exact ⟨b, o, e, (hc.cell (cell_lt h1) (by simp)).trans h1, (hc.cell (cell_lt h2) (by simp)).trans h2, (hc.cell (cell_lt h3) (by simp)).trans h3⟩, h.bd⟩
theorem row_cell {w : World} {e : TypeId} {size b n c m : Nat} {vs : List Value} (h : row w e size (.slice (some ⟨b, 0, none⟩) n c) m vs) {k : Nat} {v : Value} (hk : vs[k]? = some v) : w.cell? ⟨b, k, none⟩ = some v := by
  have := h.cells (g := b) rfl k v hk
  rw [Addr.add_lit] at this
  simpa using this
end Go.Proofs.Ytkedpifopclipaa
namespace Go.Proofs.Ytkedpifopclipaa
open Go.ChangeShapes Go.WideShapes Go.ChangeAt Go.RowKit Go.Mem Go.Aig Go.Deep
section
variable {H : Type} {enc : TypeId × Value → H} {W : World}
set_option maxRecDepth 100000 in
theorem nodes27_open {a : Option Addr} {len cap : Nat} {d : DataW H} {p : List MemPlace} (h : DataW.Trod enc Try.prog W 0 (fun _ => true) true 22 (.slice a len cap) d p) : ∃ l, NodeS W a len cap l := by
  obtain ⟨fuel, hf⟩ := h
  rcases open_slice Try.underlying22 hf with ⟨hcs, _⟩ | ⟨x, l, c, m, n, D, Pl, hcs, _, hl, hm, hmm, _, hi⟩
  · simp [Value.cells] at hcs
    obtain ⟨rfl, rfl, rfl⟩ := hcs
    exact ⟨[], rfl, by omega, by omega, by simp, by simp⟩
  · simp [Value.cells] at hcs
    obtain ⟨rfl, rfl, rfl⟩ := hcs
    have hC : Try.prog.cellsOf 139 = 3 := by kernel_rfl
    have hspot : 0 < len → x.spot = none := fun h0 => by
      obtain ⟨cs', hc, _⟩ := hi 0 (by rw [hmm]; simp; omega)
      rw [hC] at hc
      obtain ⟨_, hcl, hat⟩ := World.cells?_some hc
      have e0 := hat 0 (by omega)
      rw [List.getElem?_eq_getElem (by omega)] at e0
      simpa [Addr.add] using World.cell?_spot e0
    have key : ∀ i, i < len → ∃ s : N21, (∃ b o, (some x : Option Addr) = some ⟨b, o, none⟩ ∧ W.cell? ⟨b, o + i * 3, none⟩ = some (.bool s.inp) ∧ W.cell? ⟨b, o + i * 3 + 1, none⟩ = some (.int .i64 s.l) ∧ W.cell? ⟨b, o + i * 3 + 2, none⟩ = some (.int .i64 s.r)) ∧
        (-9223372036854775808 ≤ s.l ∧ s.l ≤ 9223372036854775807) ∧ (-9223372036854775808 ≤ s.r ∧ s.r ≤ 9223372036854775807) := by
      intro i hlt
      obtain ⟨cs', hc, ht⟩ := hi i (by rw [hmm]; simp; omega)
      rw [hC] at hc
      obtain ⟨ys, n', _, _, hlen, _, hfd⟩ := DataW.trod_struct Try.underlying139 ht
      obtain ⟨_, hcl, hat⟩ := World.cells?_some hc
      match cs', hcl with
      | [c0, c1, c2], _ =>
        have f0 := hfd 0 _ rfl
        have f1 := hfd 1 _ rfl
        have f2 := hfd 2 _ rfl
        have hu : Try.prog.cellsOf 4 = 1 := by kernel_rfl
        have hi9 : Try.prog.cellsOf 3 = 1 := by kernel_rfl
        simp only [List.getElem_toArray, List.getElem_cons_zero, List.getElem_cons_succ, hu, hi9, List.drop_zero, List.drop_succ_cons, List.take_succ_cons, List.take_zero] at f0 f1 f2
        have hys : ys.length = 3 := by have := ‹ys.length = _›; simpa using this
        rw [List.getElem?_eq_getElem (by omega)] at f0 f1 f2
        obtain ⟨z0, hz0, _⟩ := DataW.trod_bool Try.underlying4 f0
        obtain ⟨z1, hz1, _, hw1⟩ := DataW.trod_int Try.underlying3 f1
        obtain ⟨z2, hz2, _, hw2⟩ := DataW.trod_int Try.underlying3 f2
        have b1 := wf_i64 hw1
        have b2 := wf_i64 hw2
        simp at hz0 hz1 hz2
        subst hz0 hz1 hz2
        have e0 := hat 0 (by omega)
        have e1 := hat 1 (by omega)
        have e2 := hat 2 (by omega)
        simp at e0 e1 e2
        obtain ⟨b, o, spot⟩ := x
        have hsp : spot = none := hspot (by omega)
        subst hsp
        simp only [Addr.add_lit] at e0 e1 e2
        exact ⟨⟨z0, z1, z2⟩, ⟨b, o, rfl, by simpa using e0, by simpa using e1, by simpa using e2⟩, b1, b2⟩
    obtain ⟨ll, hll, hp⟩ := list_of _ len key
    have idx : ∀ s ∈ ll, ∃ i : Nat, ll[i]? = some s := fun s hs => List.mem_iff_getElem?.1 hs
    exact ⟨ll, hll, hl, by unfold maxLen at hm; exact hm, fun i s hs => (hp i s hs).1, fun s hs => by obtain ⟨i, hi2⟩ := idx s hs; exact (hp i s hi2).2⟩
end
end Go.Proofs.Ytkedpifopclipaa
namespace Go.Proofs.Ytkedpifopclipaa
open Go.RowKit Go.Mem Go.Aig
section
variable {w : World}
end
/-- what is known along a walk that changes no graph: the graph, and slices that are held -/
structure HS (w0 w : World) (g : Nat) (G : Gra) (F : List Nat) (L : List (Option Addr × List Value)) : Prop where
  own : Own w0 w g G F
  held : ∀ p ∈ L, Sv w p.1 p.2
section
variable {w0 w : World} {g : Nat} {G : Gra} {F : List Nat} {L : List (Option Addr × List Value)}
end
end Go.Proofs.Ytkedpifopclipaa
namespace Go.Aig
theorem wvF_app (M : Nat) (ins : List Nat) (a b : List Nd) : ∃ t, (wvF M ins (a ++ b)).1 = (wvF M ins a).1 ++ t := by
  induction b using List.snocRec with
  | nil => exact ⟨[], by simp⟩
  | snoc b x ih =>
    obtain ⟨t, ht⟩ := ih
    obtain ⟨v, hv⟩ := wvF_ext M ins (a ++ b) x
    rw [← List.append_assoc]
    exact ⟨t ++ [v], by rw [hv, ht, List.append_assoc]⟩
/-- what a node is, by its kind -/
theorem wv_node {ns : List Nd} (hw : WF ns) (M : Nat) (ins : List Nat) {n : Nat} {x : Nd} (hx : ns[n]? = some x) :
    (wvF M ins ns).1[n]? = some (if x.k = 3 then wref M (wvF M ins ns).1 x.l &&& wref M (wvF M ins ns).1 x.r else if x.k = 2 then ins.getD (inputs (ns.take n)).length 0 else 0) := by
  have hn := (List.getElem?_eq_some_iff.1 hx).1
  obtain ⟨t, ht⟩ := wvF_app M ins (ns.take (n + 1)) (ns.drop (n + 1))
  rw [List.take_append_drop] at ht
  have h1 : wvF M ins (ns.take (n + 1)) = wvStep M (wvF M ins (ns.take n)) x := by rw [List.take_add_one, hx]; exact wvF_snoc M ins (ns.take n) x
  have hl : (wvF M ins (ns.take n)).1.length = n := by rw [wvF_len, List.length_take]; omega
  have hr : ∀ r, r < 2 * n → wref M (wvF M ins ns).1 r = wref M (wvF M ins (ns.take n)).1 r := fun r hr => by
    obtain ⟨t2, ht2⟩ := wvF_app M ins (ns.take n) (ns.drop n)
    rw [List.take_append_drop] at ht2
    rw [ht2, wref_ext (by omega)]
  have h2 : (wvF M ins (ns.take n)).2 = ins.drop (inputs (ns.take n)).length := by
    have : ∀ ms : List Nd, (wvF M ins ms).2 = ins.drop (inputs ms).length := by
      intro ms
      induction ms using List.snocRec with
      | nil => rfl
      | snoc ms y ih =>
        rw [wvF_snoc]
        unfold wvStep
        split
        · rename_i h; rw [Go.Proofs.Ytkedpifopclipaa.inputs_append (by omega)]; exact ih
        · split
          · rename_i h; rw [Go.Proofs.Ytkedpifopclipaa.inputs_input h, List.length_append]; simp only [ih, List.tail_drop, List.length_cons, List.length_nil]
          · rename_i h; rw [Go.Proofs.Ytkedpifopclipaa.inputs_append h]; exact ih
    exact this _
  have key : (wvF M ins ns).1[n]? = (wvStep M (wvF M ins (ns.take n)) x).1[n]? := by rw [ht, List.getElem?_append_left (by rw [wvF_len, List.length_take]; omega), h1]
  rw [key]
  unfold wvStep
  split
  · rename_i h3
    have hs := hw.sides hx h3
    simp only
    rw [List.getElem?_append_right (by omega), hl, Nat.sub_self, hr x.l (by omega), hr x.r (by omega)]
    rfl
  · split
    · simp only
      rw [List.getElem?_append_right (by omega), hl, Nat.sub_self, h2]
      simp [List.headD_eq_head?_getD, List.head?_drop, List.getD_eq_getElem?_getD]
    · simp only
      rw [List.getElem?_append_right (by omega), hl, Nat.sub_self]
      rfl
end Go.Aig
namespace Go.Proofs.Ytkedpifopclipaa
open Go.RowKit Go.Mem Go.Aig
theorem eqSliceNilW (w : World) (a : Option Addr) (n c : Nat) : (binOp .eql 182 (.slice a n c) (.slice none 0 0)).run Try.prog w = .ok (.bool a.isNone) w := by
  have h : Try.prog.underlying 182 = some (.slice 183) := Try.underlying182
  simp only [binOp]
  simp [run_equal_slice_nil w _ _ a n c h]
attribute [local go_sem] eqSliceNilW
section
variable {w : World}
end
end Go.Proofs.Ytkedpifopclipaa
namespace Go.Aig
open Go.Proofs.Ytkedpifopclipaa
theorem metDown_mono {ns : List Nd} (hw : WF ns) : ∀ (n : Nat) (met : List Bool), met.length = ns.length → ∀ m, met.getD m false = true → (metDown ns n met).getD m false = true
  | 0, _, _, _, h => h
  | n + 1, met, hl, m, h => by
    unfold metDown
    split
    · exact metDown_mono hw n _ (by rw [stepMet_len, hl]) m ((stepMet_getD hw hl m).2 (.inl h))
    · exact metDown_mono hw n _ hl m h
theorem metDown_closed {ns : List Nd} (hw : WF ns) : ∀ (n : Nat) (met : List Bool), met.length = ns.length → ∀ d, d < n → (metDown ns n met).getD d false = true → ∀ x, ns[d]? = some x → x.k = 3 → (metDown ns n met).getD (x.l / 2) false = true ∧ (metDown ns n met).getD (x.r / 2) false = true
  | 0, _, _, d, hd, _, _, _, _ => by omega
  | n + 1, met, hl, d, hd, h, x, hx, h3 => by
    unfold metDown at h ⊢
    by_cases hdn : d < n
    · split at h
      · rename_i hm
        rw [if_pos hm]
        exact metDown_closed hw n _ (by rw [stepMet_len, hl]) d hdn h x hx h3
      · rename_i hm
        rw [if_neg hm]
        exact metDown_closed hw n _ hl d hdn h x hx h3
    · have e : d = n := by omega
      subst e
      split at h
      · rename_i hm
        rw [if_pos hm]
        have h1 := (stepMet_getD hw hl (d := d) (x.l / 2)).2 (.inr ⟨x, hx, h3, .inl rfl⟩)
        have h2 := (stepMet_getD hw hl (d := d) (x.r / 2)).2 (.inr ⟨x, hx, h3, .inr rfl⟩)
        exact ⟨metDown_mono hw d _ (by rw [stepMet_len, hl]) _ h1, metDown_mono hw d _ (by rw [stepMet_len, hl]) _ h2⟩
      · rename_i hm
        rw [metDown_far hw d met d (Nat.le_refl _)] at h
        exact absurd h hm
theorem mem_cone {ns : List Nd} (hw : WF ns) (l : List Nat) (d : Nat) : d ∈ cone ns l ↔ d < ns.length ∧ (metDown ns ns.length (met0 ns.length l)).getD d false = true := by
  rw [cone_filter hw, List.mem_filter, List.mem_range]
theorem cone_closed {ns : List Nd} (hw : WF ns) {l : List Nat} {d : Nat} {x : Nd} (h : d ∈ cone ns l) (hx : ns[d]? = some x) (h3 : x.k = 3) : x.l / 2 ∈ cone ns l ∧ x.r / 2 ∈ cone ns l := by
  obtain ⟨h1, h2⟩ := (mem_cone hw l d).1 h
  have hs := hw.sides hx h3
  obtain ⟨a, b⟩ := metDown_closed hw ns.length _ (met0_len _ _) d h1 h2 x hx h3
  exact ⟨(mem_cone hw l _).2 ⟨by omega, a⟩, (mem_cone hw l _).2 ⟨by omega, b⟩⟩
theorem inputsFrom_app : ∀ (a b : List Nd) (n : Nat), inputsFrom (a ++ b) n = inputsFrom a n ++ inputsFrom b (n + a.length)
  | [], b, n => rfl
  | x :: a, b, n => by
    show (if x.k = 2 then 2 * n :: inputsFrom (a ++ b) (n + 1) else inputsFrom (a ++ b) (n + 1)) = (if x.k = 2 then 2 * n :: inputsFrom a (n + 1) else inputsFrom a (n + 1)) ++ inputsFrom b (n + (a.length + 1))
    rw [inputsFrom_app a b (n + 1), show n + 1 + a.length = n + (a.length + 1) by omega]
    split <;> rfl
/-- which input a node is -/
theorem input_at {ns : List Nd} {n : Nat} {x : Nd} (hx : ns[n]? = some x) (h2 : x.k = 2) : (inputs (ns.take n)).length < (inputs ns).length ∧ (inputs ns).getD (inputs (ns.take n)).length 0 = 2 * n := by
  have hn := (List.getElem?_eq_some_iff.1 hx).1
  have e : ns = ns.take n ++ x :: ns.drop (n + 1) := by
    have h1 := List.take_append_drop n ns
    rw [List.drop_eq_getElem_cons hn, (List.getElem?_eq_some_iff.1 hx).2] at h1
    exact h1.symm
  have h3 : inputs ns = inputs (ns.take n) ++ 2 * n :: inputsFrom (ns.drop (n + 1)) (n + 1) := by
    conv => lhs; rw [e]
    unfold inputs
    rw [inputsFrom_app, Nat.zero_add, List.length_take, Nat.min_eq_left (by omega)]
    congr 1
    show (if x.k = 2 then _ else _) = _
    rw [if_pos h2]
  constructor
  · rw [h3]; simp
  · rw [h3, List.getD_eq_getElem?_getD, List.getElem?_append_right (Nat.le_refl _), Nat.sub_self]
    rfl
end Go.Aig
namespace Go.Aig
/-- the nodes of the variables of a graph and of roots -/
def mapN (ns : List Nd) (l : List Nat) : List Nat := (cone ns l).filter fun n => n != 0
theorem mem_mapN {ns : List Nd} {l : List Nat} {n : Nat} : n ∈ mapN ns l ↔ n ∈ cone ns l ∧ n ≠ 0 := by simp [mapN]
theorem cone_asc {ns : List Nd} (hw : WF ns) (l : List Nat) : (cone ns l).Pairwise (fun a b => a < b) := by
  rw [cone_filter hw]
  exact List.Pairwise.filter _ List.pairwise_lt_range
theorem mapN_asc {ns : List Nd} (hw : WF ns) (l : List Nat) : (mapN ns l).Pairwise (fun a b => a < b) := (cone_asc hw l).filter _
theorem mapN_lt {ns : List Nd} (hw : WF ns) {l : List Nat} {n : Nat} (h : n ∈ mapN ns l) : 0 < n ∧ n < ns.length := by
  obtain ⟨h1, h2⟩ := mem_mapN.1 h
  exact ⟨by omega, ((mem_cone hw l n).1 h1).1⟩
/-- whether numbers are in increasing order, of nodes that there may be -/
def risingF : Int → List Int → Bool
  | _, [] => true
  | last, n :: m => decide (last < n) && decide (n < 65536) && risingF n m
def rising (m : List Int) : Bool := risingF 0 m
theorem risingF_iff : ∀ (m : List Int) (last : Int), risingF last m = true ↔ (∀ n ∈ m, last < n ∧ n < 65536) ∧ m.Pairwise (fun a b => a < b)
  | [], last => by simp [risingF]
  | n :: m, last => by
    unfold risingF
    simp only [Bool.and_eq_true, decide_eq_true_eq, List.pairwise_cons, List.mem_cons, forall_eq_or_imp]
    rw [risingF_iff m n]
    constructor
    · rintro ⟨⟨h1, h2⟩, h3, h4⟩
      exact ⟨⟨⟨h1, h2⟩, fun k hk => ⟨by have := (h3 k hk).1; omega, (h3 k hk).2⟩⟩, fun k hk => (h3 k hk).1, h4⟩
    · rintro ⟨⟨⟨h1, h2⟩, h3⟩, h4, h5⟩
      exact ⟨⟨h1, h2⟩, fun k hk => ⟨h4 k hk, (h3 k hk).2⟩, h5⟩
theorem rising_iff (m : List Int) : rising m = true ↔ (∀ n ∈ m, 0 < n ∧ n < 65536) ∧ m.Pairwise (fun a b => a < b) := risingF_iff m 0
theorem asc_len : ∀ (m : List Int) (last : Int), risingF last m = true → last < 65536 → last + m.length < 65536
  | [], last, _, h => by simpa using h
  | n :: m, last, h, _ => by
    unfold risingF at h
    simp only [Bool.and_eq_true, decide_eq_true_eq] at h
    have := asc_len m n h.2 h.1.2
    simp only [List.length_cons]
    omega
theorem rising_len {m : List Int} (h : rising m = true) : m.length < 65536 := by
  have := asc_len m 0 h (by decide)
  omega
theorem mapN_rising {ns : List Nd} (hw : WF ns) (hn : ns.length ≤ 65536) (l : List Nat) : rising (natInts (mapN ns l)) = true := by
  rw [rising_iff]
  unfold natInts
  refine ⟨fun n hn2 => ?_, ?_⟩
  · obtain ⟨k, hk, rfl⟩ := List.mem_map.1 hn2
    have := mapN_lt hw hk
    omega
  · rw [List.pairwise_map]
    exact (mapN_asc hw l).imp (by intro a b h; omega)
/-- the variable of a node; 0 if it has none -/
def varFrom : Nat → List Int → Int → Nat
  | _, [], _ => 0
  | i, x :: m, n => if x = n then i + 1 else varFrom (i + 1) m n
def varOf (m : List Int) (n : Int) : Nat := varFrom 0 m n
theorem varFrom_none : ∀ (m : List Int) (i : Nat) {n : Int}, n ∉ m → varFrom i m n = 0
  | [], _, _, _ => rfl
  | x :: m, i, n, h => by
    unfold varFrom
    rw [if_neg (fun e => h (by rw [e]; exact List.mem_cons_self ..))]
    exact varFrom_none m _ (fun h2 => h (List.mem_cons_of_mem _ h2))
theorem varFrom_at : ∀ (m : List Int) (i : Nat) {k : Nat} {n : Int}, m.Pairwise (fun a b => a < b) → m[k]? = some n → varFrom i m n = i + k + 1
  | [], _, _, _, _, h => by simp at h
  | x :: m, i, 0, n, _, h => by
    unfold varFrom
    rw [if_pos (by simpa using h)]
  | x :: m, i, k + 1, n, hp, h => by
    unfold varFrom
    rw [List.getElem?_cons_succ] at h
    rw [List.pairwise_cons] at hp
    rw [if_neg (by have := hp.1 n (List.mem_of_getElem? h); omega), varFrom_at m _ hp.2 h]
    omega
theorem varOf_none {m : List Int} {n : Int} (h : n ∉ m) : varOf m n = 0 := varFrom_none m 0 h
theorem varOf_at {m : List Int} (hp : m.Pairwise (fun a b => a < b)) {k : Nat} {n : Int} (h : m[k]? = some n) : varOf m n = k + 1 := by
  unfold varOf
  rw [varFrom_at m 0 hp h, Nat.zero_add]
theorem varOf_le {m : List Int} (hp : m.Pairwise (fun a b => a < b)) (n : Int) : varOf m n ≤ m.length := by
  by_cases h : n ∈ m
  · obtain ⟨k, hk⟩ := List.getElem?_of_mem h
    rw [varOf_at hp hk]
    exact (List.getElem?_eq_some_iff.1 hk).1
  · rw [varOf_none h]; omega
/-- the literal of a reference -/
def litOf (m : List Int) (r : Int) : Int := if r % 2 = 1 then -(varOf m (r / 2) : Int) else varOf m (r / 2)
theorem litOf_zero (m : List Int) (r : Int) : litOf m r = 0 ↔ varOf m (r / 2) = 0 := by unfold litOf; split <;> omega
/-- the literal of any number, by any map -/
def litF (m : List Int) (r : Int) : Int := if rising m = true ∧ 0 ≤ r then litOf m r else 0
/-- the reference of any number, by any map; -1 if there is none -/
def refF (m : List Int) (l : Int) : Int := if rising m = true ∧ 1 ≤ l.natAbs ∧ l.natAbs ≤ m.length ∧ l.natAbs ≤ 1048576 then 2 * m.getD (l.natAbs - 1) 0 + (if l < 0 then 1 else 0) else -1
theorem refF_nonneg {m : List Int} {l : Int} : 0 ≤ refF m l ↔ rising m = true ∧ 1 ≤ l.natAbs ∧ l.natAbs ≤ m.length ∧ l.natAbs ≤ 1048576 := by
  unfold refF
  split
  · rename_i h
    refine ⟨fun _ => h, fun _ => ?_⟩
    have h1 := ((rising_iff m).1 h.1).1 (m.getD (l.natAbs - 1) 0) (by
      rw [List.getD_eq_getElem?_getD, List.getElem?_eq_getElem (by omega)]
      exact List.getElem_mem _)
    split <;> omega
  · rename_i h
    exact ⟨fun h2 => by omega, fun h2 => absurd h2 h⟩
/-- whether a map is right for nodes -/
def rightM (ns : List Nd) (m : List Int) : Bool := rising m && m.all fun n => decide (n < (ns.length : Int)) && (!isAndAt ns (2 * n) || litF m (lOf ns (2 * n)) != 0 && litF m (rOf ns (2 * n)) != 0)
/-- the clauses of an and -/
def andCls (v a b : Int) : List (List Int) := [[-v, a], [-v, b], [v, -a, -b]]
def nodeCls (ns : List Nd) (m : List Int) (i : Nat) (n : Int) : List (List Int) := if isAndAt ns (2 * n) then andCls (i + 1) (litOf m (lOf ns (2 * n))) (litOf m (rOf ns (2 * n))) else []
def rootCls (m : List Int) (r : Int) : List (List Int) := if r = 1 then [] else if r = 0 then [[]] else [[litOf m r]]
def nodesCls (ns : List Nd) (m : List Int) (k : Nat) : List (List Int) := (List.range k).flatMap fun i => nodeCls ns m i (m.getD i 0)
def rootsCls (m : List Int) (l : List Int) : List (List Int) := l.flatMap (rootCls m)
def clsOf (ns : List Nd) (m : List Int) (l : List Int) : List (List Int) := nodesCls ns m m.length ++ rootsCls m l
theorem nodesCls_succ (ns : List Nd) (m : List Int) (k : Nat) : nodesCls ns m (k + 1) = nodesCls ns m k ++ nodeCls ns m k (m.getD k 0) := by
  unfold nodesCls
  rw [List.range_succ, List.flatMap_append]
  simp
theorem rootsCls_snoc (m l : List Int) (r : Int) : rootsCls m (l ++ [r]) = rootsCls m l ++ rootCls m r := by
  unfold rootsCls
  rw [List.flatMap_append]
  simp
theorem nodeCls_len (ns : List Nd) (m : List Int) (i : Nat) (n : Int) : (nodeCls ns m i n).length ≤ 3 := by
  unfold nodeCls andCls
  split <;> simp
theorem nodesCls_len (ns : List Nd) (m : List Int) : ∀ k, (nodesCls ns m k).length ≤ 3 * k
  | 0 => by simp [nodesCls]
  | k + 1 => by
    rw [nodesCls_succ, List.length_append]
    have := nodesCls_len ns m k
    have := nodeCls_len ns m k (m.getD k 0)
    omega
theorem rootCls_len (m : List Int) (r : Int) : (rootCls m r).length ≤ 1 := by
  unfold rootCls
  (repeat' split) <;> simp
theorem rootsCls_len (m : List Int) : ∀ l : List Int, (rootsCls m l).length ≤ l.length
  | [] => by simp [rootsCls]
  | r :: l => by
    have h1 := rootsCls_len m l
    have h2 := rootCls_len m r
    unfold rootsCls at h1 ⊢
    rw [List.flatMap_cons, List.length_append, List.length_cons]
    omega
theorem clsOf_len (ns : List Nd) (m l : List Int) : (clsOf ns m l).length ≤ 3 * m.length + l.length := by
  unfold clsOf
  rw [List.length_append]
  have := nodesCls_len ns m m.length
  have := rootsCls_len m l
  omega
/-- what Model returns -/
def modelR (G : Gra) (m : List Int) (ins : List Bool) : List Bool × Nat :=
  if rightM G.nodes m = false then ([], 271) else if ins.length ≠ (inputs G.nodes).length then ([], 272) else (m.map fun n => bv (fun i => ins.getD i false) G.nodes (2 * n.toNat), 0)
/-- what Inputs returns -/
def insV (ns : List Nd) (m : List Int) (mv : List Bool) : List Bool := (inputs ns).map fun (r : Nat) => litF m r != 0 && mv.getD ((litF m r).natAbs - 1) false
def insR (G : Gra) (m : List Int) (mv : List Bool) : List Bool × Nat :=
  if rightM G.nodes m = false then ([], 271) else if mv.length ≠ m.length then ([], 272) else (insV G.nodes m mv, 0)
end Go.Aig
namespace Go.Proofs.Ytkedpifopclipaa
open Go.RowKit Go.Mem Go.Aig
theorem rising_ltZ {l : List Int} (h : l.Pairwise (fun a b => a < b)) {i j : Nat} {a b : Int} (hi : l[i]? = some a) (hj : l[j]? = some b) (hij : i < j) : a < b := by
  obtain ⟨h1, h2⟩ := List.getElem?_eq_some_iff.1 hi
  obtain ⟨h3, h4⟩ := List.getElem?_eq_some_iff.1 hj
  rw [← h2, ← h4]
  exact List.pairwise_iff_getElem.1 h i j h1 h3 hij
set_option maxRecDepth 100000 in
set_option maxHeartbeats 4000000 in
theorem BSany_is {w : World} {a : Option Addr} {l : List Int} (n c : Nat) (hn : l.length = n) (hnl : n ≤ 1000000) (hS : Sl w a l) (x : Int) :
    Calls Try.prog 111 #[.slice a n c, .int .i64 x] w fun e w' => ∃ (i : Nat) (b : Bool), e = .returned (.tuple #[.int .i64 i, .bool b]) ∧ w = w' ∧ i ≤ n ∧ (l.Pairwise (fun a b => a < b) → b = decide (x ∈ l) ∧ (b = true → l[i]? = some x)) := by
  have HS := Lib.hid hS; clear hS
  have HN := Lib.hid hn; clear hn
  go_enter Try.func111, Try.ntmps111
  go_wp2_with fail
  go_loopw [7, 8] (fun s t wr => ∃ i j : Nat, s = .int .i64 i ∧ t = .int .i64 j ∧ i ≤ j ∧ j ≤ n ∧ wr = w ∧ (l.Pairwise (fun a b => a < b) → (∀ (k : Nat) (y : Int), k < i → l[k]? = some y → y < x) ∧ (∀ (k : Nat) (y : Int), j ≤ k → l[k]? = some y → x ≤ y))) (fun s t _ => (intOf t).toNat - (intOf s).toNat)
  case atStart => exact ⟨0, n, rfl, rfl, by omega, by omega, rfl, fun _ => ⟨fun k y hk => by omega, fun k y hk hy => by have := (List.getElem?_eq_some_iff.1 hy).1; have := HN.out; omega⟩⟩
  case round =>
    obtain ⟨i, j, rfl, rfl, hij, hjn, rfl, h1⟩ := hrel
    have H1 := Lib.hid h1; clear h1
    by_cases hlt : i < j
    · obtain ⟨m, hm⟩ : ∃ m, (i + j) / 2 = m := ⟨_, rfl⟩
      have hmi : i ≤ m ∧ m < j := by omega
      obtain ⟨y, hy⟩ : ∃ y, l[m]? = some y := ⟨_, List.getElem?_eq_getElem (by have := HN.out; omega)⟩
      obtain ⟨xb, xo, rfl, hcl⟩ := HS.out.cells m y hy
      have em : ((i : Int) + (j : Int)) / 2 = m := by omega
      have HL := Lib.hid (cmpLess_is wr y x)
      have HY := Lib.hid hy; clear hy
      have HM := Lib.hid hm; clear hm
      by_cases hyx : y < x
      · have e1 : decide (y < x) = true := decide_eq_true (by omega)
        rw [e1] at HL
        have HYX := Lib.hid hyx; clear hyx e1
        go_wp2_with fail
        refine HL.out.mono ?_
        rintro e w' ⟨rfl, rfl⟩
        go_wp2_with fail
        go_roundw
        case rel =>
          refine ⟨m + 1, j, by go_num, rfl, by omega, hjn, trivial, fun hP => ⟨fun k z hk hz => ?_, (H1.out hP).2⟩⟩
          by_cases hkm : k = m
          · subst hkm
            have := HY.out.symm.trans hz
            cases this
            exact HYX.out
          · exact Int.lt_trans (rising_ltZ hP hz HY.out (by omega)) HYX.out
        case measure => simp [intOf]; omega
      · have e1 : decide (y < x) = false := decide_eq_false (by omega)
        rw [e1] at HL
        have HYX := Lib.hid hyx; clear hyx e1
        go_wp2_with fail
        refine HL.out.mono ?_
        rintro e w' ⟨rfl, rfl⟩
        go_wp2_with fail
        go_roundw
        case rel =>
          refine ⟨i, m, rfl, by go_num, by omega, by omega, trivial, fun hP => ⟨(H1.out hP).1, fun k z hk hz => ?_⟩⟩
          have h3 := HYX.out
          by_cases hkm : k = m
          · subst hkm
            have := HY.out.symm.trans hz
            cases this
            omega
          · have := rising_ltZ hP HY.out hz (by omega)
            omega
        case measure => simp [intOf]; omega
    · have hij2 : j = i := by omega
      subst hij2
      by_cases hin : j < n
      · obtain ⟨y, hy⟩ : ∃ y, l[j]? = some y := ⟨_, List.getElem?_eq_getElem (by have := HN.out; omega)⟩
        obtain ⟨xb, xo, rfl, hcl⟩ := HS.out.cells j y hy
        have HNA := Lib.hid (slIsNaN_is wr y)
        have hmem : l.Pairwise (fun a b => a < b) → (y == x) = decide (x ∈ l) ∧ ((y == x) = true → l[j]? = some x) := fun hP => by
          have h3 := (H1.out hP).2 j y (Nat.le_refl _) hy
          by_cases hyx : y = x
          · subst hyx
            rw [decide_eq_true (List.mem_of_getElem? hy)]
            exact ⟨by simp, fun _ => hy⟩
          · have hne : x ∉ l := fun hmem => by
              obtain ⟨k, hk⟩ := List.mem_iff_getElem?.1 hmem
              by_cases hkj : k < j
              · have := (H1.out hP).1 k x hkj hk; omega
              · by_cases hkj2 : k = j
                · subst hkj2; rw [hy] at hk; cases hk; exact hyx rfl
                · have := rising_ltZ hP hy hk (by omega); omega
            rw [decide_eq_false hne]
            exact ⟨by simpa using hyx, fun e => absurd (eq_of_beq e) hyx⟩
        have HMEM := Lib.hid hmem; clear hmem
        have HY := Lib.hid hy; clear hy
        cases hb : (y == x)
        · go_wp2_with fail
          refine HNA.out.mono ?_
          rintro e w' ⟨rfl, rfl⟩
          go_wp2_with fail
          go_ret2
          exact ⟨j, false, rfl, rfl, hjn, fun hP => by have := HMEM.out hP; rwa [hb] at this⟩
        · go_wp2_with fail
          go_ret2
          exact ⟨j, true, rfl, rfl, hjn, fun hP => by have := HMEM.out hP; rwa [hb] at this⟩
      · have hjn2 : j = n := by omega
        have hne : l.Pairwise (fun a b => a < b) → false = decide (x ∈ l) := fun hP => (decide_eq_false fun hmem => by
          obtain ⟨k, hk⟩ := List.mem_iff_getElem?.1 hmem
          have h4 := (List.getElem?_eq_some_iff.1 hk).1
          have := (H1.out hP).1 k x (by have := HN.out; omega) hk
          omega).symm
        have HNE := Lib.hid hne; clear hne
        have e1 : decide ((j : Int) < n) = false := decide_eq_false (by omega)
        clear hjn2
        go_wp2_with fail
        go_ret2
        exact ⟨j, false, rfl, rfl, hjn, fun hP => ⟨HNE.out hP, by simp⟩⟩
set_option maxRecDepth 100000 in
set_option maxHeartbeats 4000000 in
theorem BSmap_is {w : World} {a : Option Addr} {l : List Int} (n c : Nat) (hn : l.length = n) (hnl : n ≤ 1000000) (hS : Sl w a l) (x : Int) :
    Calls Try.prog 90 #[.slice a n c, .int .i64 x] w fun e w' => ∃ (i : Nat) (b : Bool), e = .returned (.tuple #[.int .i64 i, .bool b]) ∧ w = w' ∧ i ≤ n ∧ (l.Pairwise (fun a b => a < b) → b = decide (x ∈ l) ∧ (b = true → l[i]? = some x)) := by
  have HS := Lib.hid hS; clear hS
  have HN := Lib.hid hn; clear hn
  go_enter Try.func90, Try.ntmps90
  go_wp2_with fail
  go_loopw [7, 8] (fun s t wr => ∃ i j : Nat, s = .int .i64 i ∧ t = .int .i64 j ∧ i ≤ j ∧ j ≤ n ∧ wr = w ∧ (l.Pairwise (fun a b => a < b) → (∀ (k : Nat) (y : Int), k < i → l[k]? = some y → y < x) ∧ (∀ (k : Nat) (y : Int), j ≤ k → l[k]? = some y → x ≤ y))) (fun s t _ => (intOf t).toNat - (intOf s).toNat)
  case atStart => exact ⟨0, n, rfl, rfl, by omega, by omega, rfl, fun _ => ⟨fun k y hk => by omega, fun k y hk hy => by have := (List.getElem?_eq_some_iff.1 hy).1; have := HN.out; omega⟩⟩
  case round =>
    obtain ⟨i, j, rfl, rfl, hij, hjn, rfl, h1⟩ := hrel
    have H1 := Lib.hid h1; clear h1
    by_cases hlt : i < j
    · obtain ⟨m, hm⟩ : ∃ m, (i + j) / 2 = m := ⟨_, rfl⟩
      have hmi : i ≤ m ∧ m < j := by omega
      obtain ⟨y, hy⟩ : ∃ y, l[m]? = some y := ⟨_, List.getElem?_eq_getElem (by have := HN.out; omega)⟩
      obtain ⟨xb, xo, rfl, hcl⟩ := HS.out.cells m y hy
      have em : ((i : Int) + (j : Int)) / 2 = m := by omega
      have HL := Lib.hid (cmpLess_is wr y x)
      have HY := Lib.hid hy; clear hy
      have HM := Lib.hid hm; clear hm
      by_cases hyx : y < x
      · have e1 : decide (y < x) = true := decide_eq_true (by omega)
        rw [e1] at HL
        have HYX := Lib.hid hyx; clear hyx e1
        go_wp2_with fail
        refine HL.out.mono ?_
        rintro e w' ⟨rfl, rfl⟩
        go_wp2_with fail
        go_roundw
        case rel =>
          refine ⟨m + 1, j, by go_num, rfl, by omega, hjn, trivial, fun hP => ⟨fun k z hk hz => ?_, (H1.out hP).2⟩⟩
          by_cases hkm : k = m
          · subst hkm
            have := HY.out.symm.trans hz
            cases this
            exact HYX.out
          · exact Int.lt_trans (rising_ltZ hP hz HY.out (by omega)) HYX.out
        case measure => simp [intOf]; omega
      · have e1 : decide (y < x) = false := decide_eq_false (by omega)
        rw [e1] at HL
        have HYX := Lib.hid hyx; clear hyx e1
        go_wp2_with fail
        refine HL.out.mono ?_
        rintro e w' ⟨rfl, rfl⟩
        go_wp2_with fail
        go_roundw
        case rel =>
          refine ⟨i, m, rfl, by go_num, by omega, by omega, trivial, fun hP => ⟨(H1.out hP).1, fun k z hk hz => ?_⟩⟩
          have h3 := HYX.out
          by_cases hkm : k = m
          · subst hkm
            have := HY.out.symm.trans hz
            cases this
            omega
          · have := rising_ltZ hP HY.out hz (by omega)
            omega
        case measure => simp [intOf]; omega
    · have hij2 : j = i := by omega
      subst hij2
      by_cases hin : j < n
      · obtain ⟨y, hy⟩ : ∃ y, l[j]? = some y := ⟨_, List.getElem?_eq_getElem (by have := HN.out; omega)⟩
        obtain ⟨xb, xo, rfl, hcl⟩ := HS.out.cells j y hy
        have HNA := Lib.hid (slIsNaN_is wr y)
        have hmem : l.Pairwise (fun a b => a < b) → (y == x) = decide (x ∈ l) ∧ ((y == x) = true → l[j]? = some x) := fun hP => by
          have h3 := (H1.out hP).2 j y (Nat.le_refl _) hy
          by_cases hyx : y = x
          · subst hyx
            rw [decide_eq_true (List.mem_of_getElem? hy)]
            exact ⟨by simp, fun _ => hy⟩
          · have hne : x ∉ l := fun hmem => by
              obtain ⟨k, hk⟩ := List.mem_iff_getElem?.1 hmem
              by_cases hkj : k < j
              · have := (H1.out hP).1 k x hkj hk; omega
              · by_cases hkj2 : k = j
                · subst hkj2; rw [hy] at hk; cases hk; exact hyx rfl
                · have := rising_ltZ hP hy hk (by omega); omega
            rw [decide_eq_false hne]
            exact ⟨by simpa using hyx, fun e => absurd (eq_of_beq e) hyx⟩
        have HMEM := Lib.hid hmem; clear hmem
        have HY := Lib.hid hy; clear hy
        cases hb : (y == x)
        · go_wp2_with fail
          refine HNA.out.mono ?_
          rintro e w' ⟨rfl, rfl⟩
          go_wp2_with fail
          go_ret2
          exact ⟨j, false, rfl, rfl, hjn, fun hP => by have := HMEM.out hP; rwa [hb] at this⟩
        · go_wp2_with fail
          go_ret2
          exact ⟨j, true, rfl, rfl, hjn, fun hP => by have := HMEM.out hP; rwa [hb] at this⟩
      · have hjn2 : j = n := by omega
        have hne : l.Pairwise (fun a b => a < b) → false = decide (x ∈ l) := fun hP => (decide_eq_false fun hmem => by
          obtain ⟨k, hk⟩ := List.mem_iff_getElem?.1 hmem
          have h4 := (List.getElem?_eq_some_iff.1 hk).1
          have := (H1.out hP).1 k x (by have := HN.out; omega) hk
          omega).symm
        have HNE := Lib.hid hne; clear hne
        have e1 : decide ((j : Int) < n) = false := decide_eq_false (by omega)
        clear hjn2
        go_wp2_with fail
        go_ret2
        exact ⟨j, false, rfl, rfl, hjn, fun hP => ⟨HNE.out hP, by simp⟩⟩
end Go.Proofs.Ytkedpifopclipaa
namespace Go.Aig
def rightLit (a : Int) : Bool := decide (a ≠ 0) && decide (-1048576 ≤ a) && decide (a ≤ 1048576)
def varL (a : Int) : Nat := if rightLit a then a.natAbs else 0
def negL (a : Int) : Bool := rightLit a && decide (a < 0)
theorem rightLit_iff (a : Int) : rightLit a = true ↔ 1 ≤ a.natAbs ∧ a.natAbs ≤ 1048576 := by unfold rightLit; simp; omega
theorem drop_cons' {α : Type} {l : List α} {k : Nat} {x : α} (h : l[k]? = some x) : l.drop k = x :: l.drop (k + 1) := by
  obtain ⟨h1, h2⟩ := List.getElem?_eq_some_iff.1 h
  rw [List.drop_eq_getElem_cons h1, h2]
end Go.Aig
namespace Go.Proofs.Ytkedpifopclipaa
open Go.RowKit Go.Mem Go.Aig
section
set_option maxRecDepth 100000 in
set_option maxHeartbeats 1000000 in
theorem litsRight_is (w : World) (a : Int) : Calls Try.prog 93 #[.int .i64 a] w fun e w' => e = .returned (.bool (rightLit a)) ∧ w = w' := by
  by_cases h0 : a = 0
  · subst h0
    go_enter Try.func93, Try.ntmps93
    go_wp2_with fail
    go_ret
    exact ⟨rfl, rfl⟩
  · have d0 : (a != 0) = true := by simpa using h0
    by_cases h1 : -1048576 ≤ a
    · have d1 : decide (-1048576 ≤ a) = true := decide_eq_true h1
      have e : rightLit a = decide (a ≤ 1048576) := by unfold rightLit; simp [h0, h1]
      rw [e]
      clear e
      go_enter Try.func93, Try.ntmps93
      go_wp2_with fail
      go_ret
      exact ⟨rfl, rfl⟩
    · have d1 : decide (-1048576 ≤ a) = false := decide_eq_false h1
      have e : rightLit a = false := by unfold rightLit; simp [h1]
      rw [e]
      clear e
      go_enter Try.func93, Try.ntmps93
      go_wp2_with fail
      go_ret
      exact ⟨rfl, rfl⟩
set_option maxRecDepth 100000 in
set_option maxHeartbeats 1000000 in
theorem litsVar_is (w : World) (a : Int) (ha : -9223372036854775808 ≤ a ∧ a ≤ 9223372036854775807) : Calls Try.prog 24 #[.int .i64 a] w fun e w' => e = .returned (.int .i64 (varL a)) ∧ w = w' := by
  have hR := litsRight_is w a
  unfold varL
  cases hr : rightLit a
  · rw [hr] at hR
    clear hr
    go_enter Try.func24, Try.ntmps24
    go_wp2_with fail
    refine hR.mono ?_
    rintro e w' ⟨rfl, rfl⟩
    go_wp2_with fail
    go_ret
    exact ⟨rfl, rfl⟩
  · rw [hr] at hR
    have hb := (rightLit_iff a).1 hr
    have hmx : ∀ ats ty, Builtin.max_ ats ty #[.int .i64 a, .int .i64 (-a)] = pure (.int .i64 (a.natAbs : Int)) := fun ats ty => by
      have e9 : (if a < -a then -a else a) = (a.natAbs : Int) := by split <;> omega
      rw [← e9]
      simp [Builtin.max_, Builtin.max2]
    have hab : -1048576 ≤ a ∧ a ≤ 1048576 := by omega
    clear hr hb ha
    go_enter Try.func24, Try.ntmps24
    go_wp2_with fail
    refine hR.mono ?_
    rintro e w' ⟨rfl, rfl⟩
    go_wp2_with fail
    go_ret
    exact ⟨rfl, rfl⟩
set_option maxRecDepth 100000 in
set_option maxHeartbeats 1000000 in
theorem litsNegated_is (w : World) (a : Int) : Calls Try.prog 25 #[.int .i64 a] w fun e w' => e = .returned (.bool (negL a)) ∧ w = w' := by
  have hR := litsRight_is w a
  unfold negL
  cases hr : rightLit a
  all_goals
    rw [hr] at hR
    clear hr
    go_enter Try.func25, Try.ntmps25
    go_wp2_with fail
    refine hR.mono ?_
    rintro e w' ⟨rfl, rfl⟩
    go_wp2_with fail
    go_ret
    exact ⟨rfl, rfl⟩
set_option maxRecDepth 100000 in
set_option maxHeartbeats 1000000 in
theorem litsOf_is (w : World) (v : Nat) (hv : 1 ≤ v ∧ v ≤ 1048576) (b : Bool) : Calls Try.prog 92 #[.int .i64 v, .bool b] w fun e w' => e = .returned (.tuple #[.int .i64 (if b then -(v : Int) else v), .int .i64 0]) ∧ w = w' := by
  have d1 : decide ((v : Int) < 1) = false := decide_eq_false (by omega)
  have d2 : decide ((1048576 : Int) < v) = false := decide_eq_false (by omega)
  cases b
  all_goals
    go_enter Try.func92, Try.ntmps92
    go_wp2_with fail
    go_ret2
    exact ⟨rfl, rfl⟩
set_option maxRecDepth 100000 in
set_option maxHeartbeats 2000000 in
theorem tsrising_is {w : World} {a : Option Addr} {m : List Int} (n c : Nat) (hn : m.length = n) (hnl : n ≤ 1000000) (hS : Sl w a m) : Calls Try.prog 91 #[.slice a n c] w fun e w' => e = .returned (.bool (rising m)) ∧ w = w' := by
  have HS := Lib.hid hS; clear hS
  have HN := Lib.hid hn; clear hn
  go_enter Try.func91, Try.ntmps91
  go_wp2_with fail
  go_loopw [3, 8] (fun l i wr => ∃ (k : Nat) (last : Int), k ≤ n ∧ i = .int .i64 k ∧ l = .int .i64 last ∧ wr = w ∧ risingF last (m.drop k) = rising m) (fun _ i _ => n - (intOf i).toNat)
  case atStart => exact ⟨0, 0, by omega, rfl, rfl, rfl, rfl⟩
  case round =>
    obtain ⟨k, last, hk, rfl, rfl, rfl, hr⟩ := hrel
    by_cases hlt : k < n
    · obtain ⟨x, hx⟩ : ∃ x, m[k]? = some x := ⟨_, List.getElem?_eq_getElem (by have := HN.out; omega)⟩
      obtain ⟨xb, xo, rfl, hcl⟩ := HS.out.cells k x hx
      rw [drop_cons' hx] at hr
      unfold risingF at hr
      have HX := Lib.hid hx; clear hx
      by_cases h1 : x ≤ last
      · have d1 : decide (x ≤ last) = true := decide_eq_true h1
        rw [decide_eq_false (by omega : ¬ last < x)] at hr
        have HR := Lib.hid hr; clear hr
        go_wp2_with fail
        go_ret
        exact ⟨by rw [← HR.out]; rfl, rfl⟩
      · have d1 : decide (x ≤ last) = false := decide_eq_false h1
        by_cases h2 : 65536 ≤ x
        · have d2 : decide (65536 ≤ x) = true := decide_eq_true h2
          rw [decide_eq_false (by omega : ¬ x < 65536)] at hr
          have HR := Lib.hid hr; clear hr
          go_wp2_with fail
          go_ret
          exact ⟨by rw [← HR.out]; simp, rfl⟩
        · have d2 : decide (65536 ≤ x) = false := decide_eq_false h2
          rw [decide_eq_true (by omega : last < x), decide_eq_true (by omega : x < 65536)] at hr
          have HR := Lib.hid hr; clear hr h1 h2
          go_wp2_with fail
          go_roundw
          case rel => exact ⟨k + 1, x, by omega, by go_num, rfl, trivial, by simpa using HR.out⟩
          case measure => simp [intOf]; omega
    · have hkn : k = n := by omega
      subst hkn
      rw [List.drop_of_length_le (by have := HN.out; omega)] at hr
      have HR := Lib.hid hr; clear hr
      go_wp2_with fail
      go_ret
      exact ⟨by rw [← HR.out]; rfl, rfl⟩
set_option maxRecDepth 100000 in
set_option maxHeartbeats 2000000 in
theorem tsLit_is {w : World} {a : Option Addr} {m : List Int} (n c : Nat) (hn : m.length = n) (hnl : n ≤ 1000000) (hS : Sl w a m) (r : Int) (hr : -9223372036854775808 ≤ r ∧ r ≤ 9223372036854775807) :
    Calls Try.prog 22 #[.slice a n c, .int .i64 r] w fun e w' => e = .returned (.tuple #[.int .i64 (litF m r), .bool (litF m r != 0)]) ∧ w = w' := by
  have hBS := BSmap_is n c hn hnl hS
  have hRI := tsrising_is n c hn hnl hS
  have hrl : rising m = true → n < 65536 := fun h => by rw [← hn]; exact rising_len h
  cases hri : rising m
  · have e : litF m r = 0 := by unfold litF; rw [if_neg (by simp [hri])]
    rw [e]
    rw [hri] at hRI
    clear e hrl hri hn hS
    have HB := Lib.hid hBS; clear hBS
    go_enter Try.func22, Try.ntmps22
    go_wp2_with fail
    refine (HB.out _).mono ?_
    rintro e w' ⟨i, b, rfl, rfl, _, _⟩
    go_wp2_with fail
    refine hRI.mono ?_
    rintro e w' ⟨rfl, rfl⟩
    go_wp2_with fail
    go_ret2
    exact ⟨rfl, rfl⟩
  · rw [hri] at hRI
    have hn6 := hrl hri
    have hpw := ((rising_iff m).1 hri).2
    by_cases h0 : r < 0
    · have e : litF m r = 0 := by unfold litF; rw [if_neg (by simp [hri]; omega)]
      rw [e]
      have d0 : decide (r < 0) = true := decide_eq_true h0
      clear e hrl hri hn hS hpw
      have HB := Lib.hid hBS; clear hBS
      go_enter Try.func22, Try.ntmps22
      go_wp2_with fail
      refine (HB.out _).mono ?_
      rintro e w' ⟨i, b, rfl, rfl, _, _⟩
      go_wp2_with fail
      refine hRI.mono ?_
      rintro e w' ⟨rfl, rfl⟩
      go_wp2_with fail
      go_ret2
      exact ⟨rfl, rfl⟩
    · have e : litF m r = litOf m r := by unfold litF; rw [if_pos ⟨hri, by omega⟩]
      rw [e]
      have d0 : decide (r < 0) = false := decide_eq_false h0
      have hB := hBS (r / 2)
      clear hrl hri hS hBS
      have HB := Lib.hid hB; clear hB
      have HP := Lib.hid hpw; clear hpw
      have HN := Lib.hid hn; clear hn
      go_enter Try.func22, Try.ntmps22
      go_wp2_with fail
      refine HB.out.mono ?_
      rintro e w' ⟨i, b, rfl, rfl, hi, hib⟩
      have hib := hib HP.out
      cases b
      · have hm : r / 2 ∉ m := of_decide_eq_false hib.1.symm
        have hl : litOf m r = 0 := by rw [litOf_zero, varOf_none hm]
        have HLL := Lib.hid hl
        clear hib hm hl
        go_wp2_with fail
        refine hRI.mono ?_
        rintro e w' ⟨rfl, rfl⟩
        go_wp2_with fail
        go_ret2
        exact ⟨by rw [HLL.out]; rfl, rfl⟩
      · have hat := hib.2 rfl
        have hlt : i < n := by have := (List.getElem?_eq_some_iff.1 hat).1; have := HN.out; omega
        have hv := varOf_at HP.out hat
        have hl : litOf m r = if (r % 2 == 1) = true then -((i : Int) + 1) else (i : Int) + 1 := by
          unfold litOf
          rw [hv]
          by_cases h : r % 2 = 1
          · rw [if_pos h, if_pos (by simpa using h)]; omega
          · rw [if_neg h, if_neg (by simpa using h)]; omega
        have hne : (litOf m r != 0) = true := by
          rw [bne_iff_ne, hl]
          split <;> omega
        have HNE := Lib.hid hne; clear hne
        have hOF := litsOf_is w (i + 1) (by omega) (r % 2 == 1)
        rw [show ((i + 1 : Nat) : Int) = (i : Int) + 1 by omega] at hOF
        rw [← hl] at hOF
        have HLL := Lib.hid hl; clear hl
        have HOF := Lib.hid hOF; clear hOF hib hat hv
        generalize hq : (r % 2 == 1) = q at *
        obtain ⟨V, hVV⟩ : ∃ V, litOf m r = V := ⟨_, rfl⟩
        rw [hVV] at HOF HNE
        have HVV := Lib.hid hVV; clear hVV
        go_wp2_with fail
        refine hRI.mono ?_
        rintro e w' ⟨rfl, rfl⟩
        go_wp2_with fail
        refine HOF.out.mono ?_
        rintro e w' ⟨rfl, rfl⟩
        go_wp2_with fail
        go_ret2
        exact ⟨by rw [HVV.out, HNE.out]; rfl, rfl⟩
set_option maxRecDepth 100000 in
set_option maxHeartbeats 2000000 in
theorem tsRef_is {w : World} {a : Option Addr} {m : List Int} (n c : Nat) (hn : m.length = n) (hnl : n ≤ 1000000) (hS : Sl w a m) (l : Int) (hl : -9223372036854775808 ≤ l ∧ l ≤ 9223372036854775807) :
    Calls Try.prog 23 #[.slice a n c, .int .i64 l] w fun e w' => e = .returned (.tuple #[.int .i64 (if 0 ≤ refF m l then refF m l else 0), .bool (decide (0 ≤ refF m l))]) ∧ w = w' := by
  have hRI := tsrising_is n c hn hnl hS
  have hV := litsVar_is w l hl
  have hNG := litsNegated_is w l
  have hv : (rising m = true ∧ 1 ≤ varL l ∧ varL l ≤ n) ↔ 0 ≤ refF m l := by
    rw [refF_nonneg, hn]
    unfold varL
    have := rightLit_iff l
    cases hq : rightLit l
    · rw [hq] at this
      rw [if_neg (by simp)]
      constructor
      · rintro ⟨_, h2, _⟩
        omega
      · rintro ⟨_, h2, _, h4⟩
        exact absurd (this.2 ⟨h2, h4⟩) (by simp)
    · rw [hq] at this
      rw [if_pos rfl]
      have h4 := this.1 rfl
      constructor
      · rintro ⟨h1, h2, h3⟩
        exact ⟨h1, h2, h3, h4.2⟩
      · rintro ⟨h1, h2, h3, _⟩
        exact ⟨h1, h2, h3⟩
  by_cases h0 : 0 ≤ refF m l
  · obtain ⟨h1, h2, h3⟩ := hv.2 h0
    have hr := (rising_iff m).1 h1
    rw [h1] at hRI
    obtain ⟨x, hx⟩ : ∃ x, m[varL l - 1]? = some x := ⟨_, List.getElem?_eq_getElem (by omega)⟩
    have hxb := hr.1 x (List.mem_of_getElem? hx)
    have he : refF m l = 2 * x + if negL l then 1 else 0 := by
      have h4 := refF_nonneg.1 h0
      have hrl := (rightLit_iff l).2 ⟨h4.2.1, h4.2.2.2⟩
      unfold refF
      rw [if_pos h4]
      unfold varL at hx
      rw [hrl, if_pos rfl] at hx
      rw [List.getD_eq_getElem?_getD, hx]
      unfold negL
      rw [hrl]
      by_cases hlt : l < 0
      · simp [hlt]
      · simp [hlt]
    rw [if_pos h0, decide_eq_true h0, he]
    obtain ⟨xb, xo, rfl, hcl⟩ := hS.cells _ x hx
    have d1 : decide ((varL l : Int) < 1) = false := decide_eq_false (by omega)
    have d2 : decide ((n : Int) < varL l) = false := decide_eq_false (by omega)
    obtain ⟨V, hV1⟩ : ∃ V, varL l = V + 1 := ⟨varL l - 1, by omega⟩
    rw [hV1] at hV hcl d1 d2 h3
    rw [Nat.add_sub_cancel] at hcl
    rw [show ((V + 1 : Nat) : Int) = (V : Int) + 1 by omega] at hV d1 d2
    generalize negL l = q at *
    clear hv h0 h1 h2 hr hx he hS hV1 hn
    cases q
    all_goals
      go_enter Try.func23, Try.ntmps23
      go_wp2_with fail
      refine hV.mono ?_
      rintro e w' ⟨rfl, rfl⟩
      go_wp2_with fail
      refine hRI.mono ?_
      rintro e w' ⟨rfl, rfl⟩
      go_wp2_with fail
      refine hNG.mono ?_
      rintro e w' ⟨rfl, rfl⟩
      go_wp2_with fail
      go_ret2
      exact ⟨by simp, rfl⟩
  · rw [if_neg h0, decide_eq_false h0]
    have hv2 : ¬ (rising m = true ∧ 1 ≤ varL l ∧ varL l ≤ n) := fun h => h0 (hv.1 h)
    clear hv h0 hS hn
    generalize varL l = V at *
    cases hri : rising m
    · rw [hri] at hRI
      clear hri hv2
      go_enter Try.func23, Try.ntmps23
      go_wp2_with fail
      refine hV.mono ?_
      rintro e w' ⟨rfl, rfl⟩
      go_wp2_with fail
      refine hRI.mono ?_
      rintro e w' ⟨rfl, rfl⟩
      go_wp2_with fail
      go_ret2
      exact ⟨rfl, rfl⟩
    · rw [hri] at hRI hv2
      by_cases hV1 : V < 1
      · have d1 : decide ((V : Int) < 1) = true := decide_eq_true (by omega)
        clear hri hv2
        go_enter Try.func23, Try.ntmps23
        go_wp2_with fail
        refine hV.mono ?_
        rintro e w' ⟨rfl, rfl⟩
        go_wp2_with fail
        refine hRI.mono ?_
        rintro e w' ⟨rfl, rfl⟩
        go_wp2_with fail
        go_ret2
        exact ⟨rfl, rfl⟩
      · have d1 : decide ((V : Int) < 1) = false := decide_eq_false (by omega)
        have hgt : n < V := by
          rcases Nat.lt_or_ge n V with h | h
          · exact h
          · exact absurd ⟨rfl, by omega, h⟩ hv2
        have d2 : decide ((n : Int) < V) = true := decide_eq_true (by omega)
        clear hri hv2
        go_enter Try.func23, Try.ntmps23
        go_wp2_with fail
        refine hV.mono ?_
        rintro e w' ⟨rfl, rfl⟩
        go_wp2_with fail
        refine hRI.mono ?_
        rintro e w' ⟨rfl, rfl⟩
        go_wp2_with fail
        go_ret2
        exact ⟨rfl, rfl⟩
end
end Go.Proofs.Ytkedpifopclipaa
namespace Go.Mem
open Go.MapKept
/-- the map holds just these keys and values -/
def NMap (w : World) (mb : Nat) (L : List (Nat × Value)) : Prop := ∃ es clock, w.heap[mb]? = some (.map es clock) ∧ (es.toList.map fun e => (e.key, e.val)) = L.map fun p => (Value.int .i64 p.1, p.2)
theorem NMap.of_heap {w w' : World} {mb : Nat} {L : List (Nat × Value)} (h : NMap w mb L) (e : w'.heap[mb]? = w.heap[mb]?) : NMap w' mb L := by
  obtain ⟨es, clock, h1, h2⟩ := h
  exact ⟨es, clock, e.trans h1, h2⟩
theorem NMap.lt {w : World} {mb : Nat} {L : List (Nat × Value)} (h : NMap w mb L) : mb < w.heap.size := by
  obtain ⟨es, clock, h1, _⟩ := h
  exact (Array.getElem?_eq_some_iff.1 h1).1
theorem NMap.ch {F : List Nat} {w w' : World} {mb : Nat} {L : List (Nat × Value)} (h : NMap w mb L) (hc : Ch F w w') (hF : mb ∉ F) : NMap w' mb L := h.of_heap (hc.block mb h.lt hF)
section
variable {P : Program} {w : World} {T K E : TypeId} {mb : Nat} {L : List (Nat × Value)}
theorem NMap.find (h : NMap w mb L) (n : Nat) : ∃ es clock, w.heap[mb]? = some (.map es clock) ∧ (es.toList.map fun e => (e.key, e.val)) = (L.map fun p => (Value.int .i64 p.1, p.2)) ∧
    ((Instr.findNow (.int .i64) (.int .i64 n) es.toList 0 = some none ∧ n ∉ L.map Prod.fst) ∨ (∃ j v, Instr.findNow (.int .i64) (.int .i64 n) es.toList 0 = some (some (j, v)) ∧ L[j]? = some (n, v))) := by
  obtain ⟨es, clock, h1, h2⟩ := h
  have hk : IsKey (.int .i64) (.int .i64 (n : Int)) := by simp [IsKey]
  have hat : ∀ (j : Nat) (e : MapEntry), es.toList[j]? = some e → ∃ m v, L[j]? = some (m, v) ∧ e.key = .int .i64 (m : Nat) ∧ e.val = v := fun j e he => by
    have := congrArg (fun l => l[j]?) h2
    simp only [List.getElem?_map, he, Option.map_some] at this
    cases hL : L[j]? with
    | none => rw [hL] at this; cases this
    | some m => rw [hL] at this; simp at this; exact ⟨m.1, m.2, rfl, this.1, this.2⟩
  have hks : ∀ x ∈ es.toList, IsKey (.int .i64) x.key := fun x hx => by
    obtain ⟨j, hj⟩ := List.mem_iff_getElem?.1 hx
    obtain ⟨m, v, _, hm, _⟩ := hat j x hj
    rw [hm]; simp [IsKey]
  refine ⟨es, clock, h1, h2, ?_⟩
  rcases findNow_spec hk es.toList 0 hks with ⟨q1, q2⟩ | ⟨j, e, q1, q2, q3⟩
  · refine .inl ⟨q1, fun hn => ?_⟩
    obtain ⟨⟨n', v⟩, hp, rfl⟩ := List.mem_map.1 hn
    obtain ⟨j, hj⟩ := List.mem_iff_getElem?.1 hp
    have hlt := (List.getElem?_eq_some_iff.1 hj).1
    have hsz : es.toList.length = L.length := by have := congrArg List.length h2; simpa using this
    obtain ⟨m, v', hm, hkm, _⟩ := hat j _ (List.getElem?_eq_getElem (by rw [hsz]; exact hlt))
    rw [hj] at hm; cases hm
    exact q2 _ (List.getElem_mem _) hkm
  · obtain ⟨m, v, hm, hkm, hv⟩ := hat j e q2
    rw [q3] at hkm
    simp at hkm
    obtain rfl : n = m := by omega
    rw [hv, Nat.zero_add] at q1
    exact .inr ⟨j, v, q1, hm⟩
theorem NMap.lookup_yes (hT : P.underlying T = some (.map K E)) (hK : P.underlying K = some (.int .i64)) (h : NMap w mb L) {n : Nat} {v : Value} (hm : (n, v) ∈ L) (hu : ∀ v', (n, v') ∈ L → v' = v) :
    (Instr.lookup T (.map (some mb)) (.int .i64 n) false).run P w = .ok v w ∧ (Instr.lookup T (.map (some mb)) (.int .i64 n) true).run P w = .ok (.tuple #[v, .bool true]) w := by
  have hk : IsKey (.int .i64) (.int .i64 (n : Int)) := by simp [IsKey]
  obtain ⟨es, clock, h1, _, ⟨q, hn⟩ | ⟨j, v', q, hn⟩⟩ := h.find n
  · exact absurd (List.mem_map.2 ⟨_, hm, rfl⟩) hn
  · rw [hu v' (List.mem_of_getElem? hn)] at q
    unfold Instr.lookup
    constructor <;> simp [run_underlying hT, run_getMap h1, run_checkKey hK hk, run_findKey hK q]
theorem NMap.lookup_no (hT : P.underlying T = some (.map K E)) (hK : P.underlying K = some (.int .i64)) {z : Value} (hz : ∀ w, (zeroValue E).run P w = .ok z w) (h : NMap w mb L) {n : Nat} (hm : n ∉ L.map Prod.fst) :
    (Instr.lookup T (.map (some mb)) (.int .i64 n) false).run P w = .ok z w ∧ (Instr.lookup T (.map (some mb)) (.int .i64 n) true).run P w = .ok (.tuple #[z, .bool false]) w := by
  have hk : IsKey (.int .i64) (.int .i64 (n : Int)) := by simp [IsKey]
  obtain ⟨es, clock, h1, _, ⟨q, hn⟩ | ⟨j, v', q, hn⟩⟩ := h.find n
  · unfold Instr.lookup
    constructor <;> simp [run_underlying hT, run_getMap h1, run_checkKey hK hk, run_findKey hK q, hz]
  · exact absurd (List.mem_map.2 ⟨_, List.mem_of_getElem? hn, rfl⟩) hm
theorem NMap.set (hT : P.underlying T = some (.map K E)) (hK : P.underlying K = some (.int .i64)) (h : NMap w mb L) {n : Nat} (hn : n ∉ L.map Prod.fst) (v : Value) :
    ∃ w', (Instr.mapUpdate T (.map (some mb)) (.int .i64 n) v).run P w = .ok () w' ∧ Ch [mb] w w' ∧ NMap w' mb (L ++ [(n, v)]) := by
  have hk : IsKey (.int .i64) (.int .i64 (n : Int)) := by simp [IsKey]
  have hch : ∀ (o : Obj), Ch [mb] w { w with heap := w.heap.setIfInBounds mb o } := fun o => ⟨rfl, rfl, rfl, by simp, fun j _ hj => Array.getElem?_setIfInBounds_ne (by simp at hj; omega)⟩
  obtain ⟨es, clock, h1, h2, ⟨q, _⟩ | ⟨j, v', q, hn2⟩⟩ := h.find n
  · have hlt := (Array.getElem?_eq_some_iff.1 h1).1
    refine ⟨_, by simp [Instr.mapUpdate, run_underlying hT, run_getMap h1, run_checkKey hK hk, run_findKey hK q, run_setMap h1, Result.andThen]; rfl, hch _, ⟨_, _, Array.getElem?_setIfInBounds_self_of_lt hlt, ?_⟩⟩
    rw [Array.toList_push, List.map_append, h2]; simp
  · exact absurd (List.mem_map.2 ⟨_, List.mem_of_getElem? hn2, rfl⟩) hn
end
end Go.Mem
namespace Go.Proofs.Ytkedpifopclipaa
open Go.RowKit Go.Mem Go.Aig
theorem clear_rowI {w : World} {b cap n i : Nat} {xs : List Int} (h : row w 3 1 (.slice (some ⟨b, 0, none⟩) n cap) n (intCells xs)) (hi : i < n) :
    ∃ w2, (∀ (ty c : Nat), (Builtin.clear_ #[23] ty #[.slice (some ⟨b, i, none⟩) (n - i) c]).run Try.prog w = .ok (.tuple #[]) w2) ∧ row w2 3 1 (.slice (some ⟨b, 0, none⟩) i cap) i (intCells (xs.take i)) ∧ Ch [b] w w2 := by
  have hl := h.1
  rcases h.2 with ⟨e, _⟩ | ⟨g, cap', cur, e, hb, hg, hle, hm, hs, ht⟩
  · cases e
  · cases e
    simp only [Nat.mul_one] at hs ht
    have hc : ∀ j, j < n - i → (w.cell? ⟨b, i + j, none⟩).isSome = true := fun j hj => by
      have hlt : i + j < cur.size := by omega
      simp [World.cell?, hg, hlt]
    have hf : ∀ j, j < n - i → w.frozen? ⟨b, i + j, none⟩ = false := fun j hj => by simp [World.frozen?, hg]
    have hz : ∀ w, (zeroValue 3).run Try.prog w = .ok (.int .i64 0) w := fun w => by kernel_rfl
    refine ⟨_, fun ty c => Lib.run_clear_slice w 23 3 ty (.int .i64 0) Try.underlying23 hz rfl rfl b i (n - i) c (by omega) hc hf, ?_, setCells_ch _ _ (Ch.refl _ _)⟩
    obtain ⟨cur', h2, h3, h4⟩ := setCells_blk (e := 3) (List.replicate (n - i) (.int .i64 0)) i hg
    refine ⟨?_, .inr ⟨b, cap, cur', rfl, Nat.zero_le _, h2, by omega, hm, by omega, ?_⟩⟩
    · have : xs.length = n := by simpa [intCells] using hl
      simp [intCells, this]; omega
    · rw [Nat.mul_one, h4]
      have : (cur.toList.take n).take i = (intCells xs).take i := by rw [ht]
      rw [List.take_take, Nat.min_eq_left (by omega)] at this
      rw [this]
      simp [intCells, List.map_take]
section
set_option maxRecDepth 100000 in
set_option maxHeartbeats 1000000 in
theorem DFint_none {w : World} {a : Option Addr} {xs : List Int} (n cap fid : Nat) (caps : Array Value) (p : Int → Bool) (hn : xs.length = n) (h : Sl w a xs) (hf : ∀ x ∈ xs, Calls Try.prog fid (#[.int .i64 x] ++ caps) w fun e w' => e = .returned (.bool (p x)) ∧ w = w')
    (hfn : Fnv fid) (hno : ∀ x ∈ xs, p x = false) :
    Calls Try.prog 20 #[.slice a n cap, .func (.func fid) #[] caps] w fun e w' => e = .returned (.slice a n cap) ∧ w = w' := by
  subst hn
  have HI := IFint_is cap fid caps p h hf hfn
  have hi : idxOf p xs = -1 := by
    unfold idxOf
    rw [List.findIdx?_eq_none_iff.2 hno]
  rw [hi] at HI
  clear hf h hfn hno hi
  have HH := Lib.hid HI; clear HI
  go_enter Try.func20, Try.ntmps20
  go_wp2_with fail
  refine HH.out.mono ?_
  rintro e w' ⟨rfl, rfl⟩
  go_wp2_with fail
  go_ret
  exact ⟨rfl, rfl⟩
theorem del_at {x0 : Int} {xs : List Int} {k : Nat} (h1 : 1 ≤ k) {y : Int} (hy : (x0 :: xs)[k]? = some y) : (xs.take (k - 1) ++ (x0 :: xs).drop (k - 1))[k]? = some y := by
  have hlt := (List.getElem?_eq_some_iff.1 hy).1
  simp only [List.length_cons] at hlt
  rw [List.getElem?_append_right (by rw [List.length_take]; omega), List.getElem?_drop, List.length_take, show k - 1 + (k - min (k - 1) xs.length) = k by omega]
  exact hy
theorem del_set {x0 : Int} {xs : List Int} {k : Nat} (h1 : 1 ≤ k) {y : Int} (hy : (x0 :: xs)[k]? = some y) : (xs.take (k - 1) ++ (x0 :: xs).drop (k - 1)).set (k - 1) y = xs.take k ++ (x0 :: xs).drop k := by
  have hlt := (List.getElem?_eq_some_iff.1 hy).1
  simp only [List.length_cons] at hlt
  obtain ⟨j, rfl⟩ : ∃ j, k = j + 1 := ⟨k - 1, by omega⟩
  rw [List.getElem?_cons_succ] at hy
  have hl : (xs.take j).length = j := by rw [List.length_take]; omega
  rw [Nat.add_sub_cancel, List.set_append_right _ _ (by omega), hl, Nat.sub_self]
  have hd : (x0 :: xs).drop j = (x0 :: xs)[j]'(by simp; omega) :: (x0 :: xs).drop (j + 1) := List.drop_eq_getElem_cons (by simp; omega)
  rw [hd, List.set_cons_zero, List.take_add_one, hy]
  simp
set_option maxRecDepth 100000 in
set_option maxHeartbeats 2000000 in
theorem DFint_head {w : World} {b cap n : Nat} {x0 : Int} {xs : List Int} (fid : Nat) (caps : Array Value) (p : Int → Bool) (h : row w 3 1 (.slice (some ⟨b, 0, none⟩) (n + 1) cap) (n + 1) (intCells (x0 :: xs))) (hn : xs.length = n) (hnl : n + 1 ≤ 1000000)
    (hf : ∀ W, Ch [b] w W → ∀ x, Calls Try.prog fid (#[.int .i64 x] ++ caps) W fun e w' => e = .returned (.bool (p x)) ∧ W = w') (hfn : Fnv fid) (h0 : p x0 = true) (hno : ∀ x ∈ xs, p x = false) :
    Calls Try.prog 20 #[.slice (some ⟨b, 0, none⟩) (n + 1) cap, .func (.func fid) #[] caps] w fun e w' => e = .returned (.slice (some ⟨b, 0, none⟩) n cap) ∧ row w' 3 1 (.slice (some ⟨b, 0, none⟩) n cap) n (intCells xs) ∧ Ch [b] w w' := by
  have hs : Sl w (some ⟨b, 0, none⟩) (x0 :: xs) := Sl.of_ints (n := n + 1) (cap := cap) h (by omega)
  have HI := IFint_is cap fid caps p hs (fun x _ => hf w (Ch.refl _ _) x) hfn
  have hi : idxOf p (x0 :: xs) = 0 := by
    unfold idxOf
    rw [List.findIdx?_cons, h0]
    rfl
  rw [hi, List.length_cons, hn] at HI
  have hcap : n + 1 ≤ cap ∧ cap ≤ 9223372036854775807 := row.capLe' h
  have hcf : ∀ (args : Array Value) (w : World), (callFunc fid args).run Try.prog w = .ok (.enter fid args) w := hfn
  have HF := Lib.hid hf; clear hf
  have HNO := Lib.hid hno; clear hno
  have HH := Lib.hid HI; clear HI
  have HR := Lib.hid h; clear h
  have HN := Lib.hid hn; clear hn
  clear hs hi
  go_enter Try.func20, Try.ntmps20
  go_wp2_with fail
  refine HH.out.mono ?_
  rintro e w' ⟨rfl, rfl⟩
  go_wp2_with fail
  go_loopw [5, 6] (fun i5 i6 wr => ∃ k : Nat, 1 ≤ k ∧ k ≤ n + 1 ∧ i5 = .int .i64 (k - 1 : Nat) ∧ i6 = .int .i64 k ∧ row wr 3 1 (.slice (some ⟨b, 0, none⟩) (n + 1) cap) (n + 1) (intCells (xs.take (k - 1) ++ (x0 :: xs).drop (k - 1))) ∧ Ch [b] w wr) (fun _ i6 _ => n + 1 - (intOf i6).toNat)
  case atStart => exact ⟨1, by omega, by omega, rfl, by go_num, HR.out, Ch.refl _ _⟩
  case round =>
    obtain ⟨k, hk1, hk, rfl, rfl, hrow, hc⟩ := hrel
    by_cases hlt : k < n + 1
    · obtain ⟨y, hy⟩ : ∃ y, (x0 :: xs)[k]? = some y := ⟨_, List.getElem?_eq_getElem (by simp only [List.length_cons]; have := HN.out; omega)⟩
      have hyx : y ∈ xs := by
        obtain ⟨j, rfl⟩ : ∃ j, k = j + 1 := ⟨k - 1, by omega⟩
        rw [List.getElem?_cons_succ] at hy
        exact List.mem_of_getElem? hy
      have hp := HNO.out y hyx
      have hcall := HF.out wr hc y
      rw [hp] at hcall
      have c1 : wr.cell? ⟨b, k, none⟩ = some (.int .i64 y) := row_cell hrow (by unfold intCells; rw [List.getElem?_map, del_at hk1 hy]; rfl)
      obtain ⟨z, c2⟩ : ∃ z, wr.cell? ⟨b, k - 1, none⟩ = some z := by
        obtain ⟨v, hv⟩ : ∃ v, (intCells (xs.take (k - 1) ++ (x0 :: xs).drop (k - 1)))[k - 1]? = some v := ⟨_, List.getElem?_eq_getElem (by
          have := hrow.1
          rw [this]; omega)⟩
        exact ⟨v, row_cell hrow hv⟩
      have f0 : wr.frozen? ⟨b, k - 1, none⟩ = false := by
        rcases hrow.2 with ⟨e1, _⟩ | ⟨g, cap', cur, e1, h0, hg, _⟩
        · cases e1
        · cases e1; simp [World.frozen?, hg]
      have hset := row.set (i := k - 1) hrow (.int .i64 y)
      have e1 : (intCells (xs.take (k - 1) ++ (x0 :: xs).drop (k - 1))).set (k - 1) (.int .i64 y) = intCells (xs.take k ++ (x0 :: xs).drop k) := by
        rw [← del_set hk1 hy]
        unfold intCells
        rw [List.map_set]
      rw [e1] at hset
      have HSET := Lib.hid hset; clear hset e1
      have HC := Lib.hid hc; clear hc hrow hy hyx hp
      have HCALL := Lib.hid hcall; clear hcall
      obtain ⟨j, hj⟩ : ∃ j, k - 1 = j := ⟨_, rfl⟩
      rw [hj] at c2 f0 HSET ⊢
      have hjk : k = j + 1 := by omega
      clear hj
      subst hjk
      rw [show ((j + 1 : Nat) : Int) = (j : Int) + 1 by omega]
      go_wp2_with fail
      refine HCALL.out.mono ?_
      rintro e w' ⟨rfl, rfl⟩
      go_wp2_with fail
      go_roundw
      case rel => exact ⟨j + 2, by omega, by omega, by go_num, by go_num, HSET.out, HC.out.setCell (by simp) _⟩
      case measure => simp [intOf]; omega
    · have hkn : k = n + 1 := by omega
      subst hkn
      have e2 : xs.take (n + 1 - 1) ++ (x0 :: xs).drop (n + 1 - 1) = xs ++ (x0 :: xs).drop n := by
        rw [Nat.add_sub_cancel, List.take_of_length_le (by have := HN.out; omega)]
      rw [e2] at hrow
      obtain ⟨w2, hclr, hrow2, hch⟩ := clear_rowI (i := n) hrow (by omega)
      have e3 : (xs ++ (x0 :: xs).drop n).take n = xs := by rw [List.take_append_of_le_length (by have := HN.out; omega), List.take_of_length_le (by have := HN.out; omega)]
      rw [e3] at hrow2
      have HR2 := Lib.hid hrow2; clear hrow2 e2 e3 hrow
      have HC2 := Lib.hid (hc.trans hch (fun q hq => .inl hq)); clear hc hch
      rw [Nat.add_sub_cancel]
      rw [show n + 1 - n = 1 by omega] at hclr
      go_wp2_with fail
      go_ret
      exact ⟨rfl, HR2.out, HC2.out⟩
end
end Go.Proofs.Ytkedpifopclipaa
namespace Go.Aig
theorem side_of {ns : List Nd} (hw : WF ns) {n : Nat} {x : Nd} (hx : ns[n]? = some x) : isAndAt ns (2 * (n : Int)) = (x.k == 3) ∧ (x.k = 3 → lOf ns (2 * (n : Int)) = x.l ∧ rOf ns (2 * (n : Int)) = x.r ∧ 2 ≤ x.l ∧ 2 ≤ x.r ∧ x.l < 2 * n ∧ x.r < 2 * n) := by
  have hn : nodeAt ns (2 * (n : Int)) = some x := by
    unfold nodeAt
    rw [if_pos (by omega), show (2 * (n : Int)).toNat / 2 = n by omega, hx]
  refine ⟨by unfold isAndAt kindOf; rw [hn], fun h3 => ?_⟩
  unfold lOf rOf
  rw [hn]
  simp only [h3, if_true]
  have hpos : 0 < n := by
    rcases Nat.eq_zero_or_pos n with rfl | h
    · rw [hw.const] at hx; cases hx; simp at h3
    · exact h
  rcases hw.other n x hx hpos with rfl | ⟨_, h1, h2, _, h4, _⟩
  · simp at h3
  · exact ⟨trivial, trivial, h1, by omega, by omega, h4⟩
section
variable {ns : List Nd} (hw : WF ns) {m : List Nat} (hp : m.Pairwise (fun a b => a < b))
include hp
omit hw in
theorem nat_asc : (natInts m).Pairwise (fun a b => a < b) := by
  unfold natInts
  rw [List.pairwise_map]
  exact hp.imp (by intro a b h; omega)
omit hw in
theorem var_at {k n : Nat} (h : m[k]? = some n) : varOf (natInts m) n = k + 1 := varOf_at (nat_asc hp) (by unfold natInts; rw [List.getElem?_map, h]; rfl)
omit hw in
theorem var_mem {r : Nat} (h : r / 2 ∈ m) : ∃ k, m[k]? = some (r / 2) ∧ varOf (natInts m) ((r : Int) / 2) = k + 1 := by
  obtain ⟨k, hk⟩ := List.getElem?_of_mem h
  refine ⟨k, hk, ?_⟩
  have := var_at hp hk
  rwa [Int.natCast_ediv] at this
end
/-- a map that is closed: both sides of each of its ands have variables -/
structure VarOk (ns : List Nd) (m : List Nat) : Prop where
  asc : m.Pairwise (fun a b => a < b)
  lt : ∀ n ∈ m, 0 < n ∧ n < ns.length
  cl : ∀ n ∈ m, ∀ x, ns[n]? = some x → x.k = 3 → x.l / 2 ∈ m ∧ x.r / 2 ∈ m
theorem mapN_ok {ns : List Nd} (hw : WF ns) (l : List Nat) : VarOk ns (mapN ns l) := by
  refine ⟨mapN_asc hw l, fun n h => mapN_lt hw h, fun n hn x hx h3 => ?_⟩
  have h := cone_closed hw (mem_mapN.1 hn).1 hx h3
  obtain ⟨_, h2⟩ := side_of hw hx
  obtain ⟨_, _, h5, h6, _⟩ := h2 h3
  exact ⟨mem_mapN.2 ⟨h.1, by omega⟩, mem_mapN.2 ⟨h.2, by omega⟩⟩
section
variable {ns : List Nd} (hw : WF ns) {m : List Nat} (hm : VarOk ns m)
include hw hm
end
end Go.Aig
namespace Go.Aig
theorem cone_cases {ns : List Nd} (hw : WF ns) (l : List Nat) : (∃ t, cone ns l = 0 :: t ∧ mapN ns l = t ∧ ∀ n ∈ t, n ≠ 0) ∨ (mapN ns l = cone ns l ∧ ∀ n ∈ cone ns l, n ≠ 0) := by
  have ha := cone_asc hw l
  unfold mapN
  generalize cone ns l = C at *
  cases C with
  | nil => exact .inr ⟨rfl, by simp⟩
  | cons a t =>
    rw [List.pairwise_cons] at ha
    have ht : ∀ n ∈ t, n ≠ 0 := fun n hn => by have := ha.1 n hn; omega
    have hf : t.filter (fun n => n != 0) = t := List.filter_eq_self.2 (fun n hn => by simpa using ht n hn)
    by_cases h0 : a = 0
    · subst h0
      exact .inl ⟨t, rfl, by simpa using hf, ht⟩
    · refine .inr ⟨by simp [h0, hf], fun n hn => ?_⟩
      rcases List.mem_cons.1 hn with rfl | hn
      · exact h0
      · exact ht n hn
end Go.Aig
namespace Go.Proofs.Ytkedpifopclipaa
open Go.RowKit Go.Mem Go.Aig
theorem fnvtsmapped1 : Fnv 160 := fnv_of Try.func160 (by simp [Try.f160]) (by simp [Try.f160])
theorem fnvtsliterals1 : Fnv 201 := fnv_of Try.func201 (by simp [Try.f201]) (by simp [Try.f201])
section
set_option maxRecDepth 100000 in
set_option maxHeartbeats 1000000 in
theorem tsmapped1_is (w : World) (n : Int) : Calls Try.prog 160 (#[.int .i64 n] ++ #[]) w fun e w' => e = .returned (.bool (n == 0)) ∧ w = w' := by
  show Calls Try.prog 160 #[.int .i64 n] w _
  go_enter Try.func160, Try.ntmps160
  go_wp2_with fail
  go_ret
  exact ⟨rfl, rfl⟩
set_option maxRecDepth 100000 in
set_option maxHeartbeats 1000000 in
theorem tsmapped_yes {w : World} {g : Nat} {G : Gra} {F : List Nat} (h : GIn w g G F) {a : Option Addr} {l : List Nat} (n c : Nat) (hn : l.length = n) (hl : Sl w a (natInts l)) (halt : ∀ p, a = some p → p.block < w.heap.size) (hr : ∀ r ∈ l, r < 2 * G.nodes.length) :
    Calls Try.prog 81 #[.pointer (some ⟨g, 0, none⟩), .slice a n c] w fun e w' => ∃ v, e = .returned (.tuple #[v, .int .i64 0]) ∧ row w' 3 1 v (mapN G.nodes l).length (intCells (natInts (mapN G.nodes l))) ∧ (∀ k ∈ v.ownBlock.toList, w.heap.size ≤ k) ∧ Ch [] w w' := by
  have hC := Cone_g h n c hn hl halt hr
  have hok := h.ok
  have hlen : (cone G.nodes l).length ≤ 65536 := by
    unfold cone coneDown
    rw [List.length_reverse]
    have := coneFrom_len G.nodes G.nodes.length (met0 G.nodes.length l)
    have := hok.room
    have := hok.most
    omega
  have hcs := cone_cases hok.wf l
  clear h hl halt hr hn hok
  rw [show refsCells (cone G.nodes l) = intCells (natInts (cone G.nodes l)) from refs_natInts _] at hC
  rcases hcs with ⟨t, e1, e2, e3⟩ | ⟨e1, e2⟩
  · rw [e1] at hC hlen
    rw [e2]
    simp only [List.length_cons] at hC hlen
    have HE3 := Lib.hid e3
    have HC := Lib.hid hC; clear hC e1 e2 e3
    go_enter Try.func81, Try.ntmps81
    go_wp2_with fail
    refine HC.out.mono ?_
    rintro e w1 ⟨v, rfl, hrow, hv, hc⟩
    obtain ⟨vb, vc, rfl⟩ := hrow.parts (by omega)
    have hD := DFint_head (w := w1) (b := vb) (cap := vc) (n := t.length) (x0 := 0) (xs := natInts t) 160 #[] (fun n => n == 0) hrow (by simp) (by omega) (fun W _ x => tsmapped1_is W x) fnvtsmapped1 rfl (fun x hx => by
      unfold natInts at hx
      obtain ⟨k, hk, rfl⟩ := List.mem_map.1 hx
      have := HE3.out k hk
      simpa using this)
    have HD := Lib.hid hD; clear hD hrow
    have HCC := Lib.hid hc; clear hc HC
    have HV := Lib.hid (hv vb rfl); clear hv
    go_wp2_with fail
    refine HD.out.mono ?_
    rintro e w2 ⟨rfl, hrow2, hc2⟩
    have HR2 := Lib.hid hrow2; clear hrow2
    have HC2 := Lib.hid (HCC.out.trans hc2 (fun q hq => .inr (by rw [List.mem_singleton.1 hq]; exact HV.out))); clear hc2
    go_wp2_with fail
    go_ret2
    exact ⟨_, rfl, HR2.out, fun k hk => by simp [Value.ownBlock] at hk; rw [hk]; exact HV.out, HC2.out⟩
  · rw [e1]
    have HE2 := Lib.hid e2
    have HC := Lib.hid hC; clear hC e1 e2
    go_enter Try.func81, Try.ntmps81
    go_wp2_with fail
    refine HC.out.mono ?_
    rintro e w1 ⟨v, rfl, hrow, hv, hc⟩
    obtain ⟨va, vc, rfl⟩ := row.shape hrow
    have hD := DFint_none (w := w1) (a := va) (xs := natInts (cone G.nodes l)) (cone G.nodes l).length vc 160 #[] (fun n => n == 0) (by simp) (Sl.of_ints hrow (by omega)) (fun x _ => tsmapped1_is w1 x) fnvtsmapped1 (fun x hx => by
      unfold natInts at hx
      obtain ⟨k, hk, rfl⟩ := List.mem_map.1 hx
      have := HE2.out k hk
      simpa using this)
    have HD := Lib.hid hD; clear hD
    have HR := Lib.hid hrow; clear hrow
    have HCC := Lib.hid hc; clear hc HC
    have HV := Lib.hid hv; clear hv
    go_wp2_with fail
    refine HD.out.mono ?_
    rintro e w2 ⟨rfl, rfl⟩
    go_wp2_with fail
    go_ret2
    exact ⟨_, rfl, HR.out, fun k hk => HV.out k (by simpa using hk), HCC.out⟩
end
/-- the pairs of a map of variables -/
def varPairs (m : List Nat) (k : Nat) : List (Nat × Value) := (List.range k).map fun i => (m.getD i 0, .int .i64 (i + 1 : Nat))
theorem varPairs_succ (m : List Nat) (k : Nat) : varPairs m (k + 1) = varPairs m k ++ [(m.getD k 0, .int .i64 (k + 1 : Nat))] := by simp [varPairs, List.range_succ]
theorem getD_at {α : Type} {m : List α} {k : Nat} {n d : α} (h : m[k]? = some n) : m.getD k d = n := by rw [List.getD_eq_getElem?_getD, h]; rfl
theorem varPairs_new {m : List Nat} (hp : m.Pairwise (fun a b => a < b)) {k n : Nat} (h : m[k]? = some n) : n ∉ (varPairs m k).map Prod.fst := by
  intro hin
  unfold varPairs at hin
  rw [List.map_map] at hin
  obtain ⟨i, hi, e⟩ := List.mem_map.1 hin
  rw [List.mem_range] at hi
  have hk := (List.getElem?_eq_some_iff.1 h).1
  have h2 := List.pairwise_iff_getElem.1 hp i k (by omega) hk hi
  have e2 : m.getD i 0 = m[i]'(by omega) := getD_at (List.getElem?_eq_getElem _)
  have e3 := (List.getElem?_eq_some_iff.1 h).2
  simp only [Function.comp] at e
  omega
/-- the closure of literals: its map has the variables -/
structure LitFn (w : World) (bv mb : Nat) (m : List Nat) : Prop where
  box : blk w bv [.map (some mb)]
  map : NMap w mb (varPairs m m.length)
section
set_option maxRecDepth 100000 in
set_option maxHeartbeats 2000000 in
theorem tsliterals_is {w : World} {a : Option Addr} {m : List Nat} (hp : m.Pairwise (fun a b => a < b)) (n c : Nat) (hn : m.length = n) (hnl : n ≤ 1000000) (hS : Sl w a (natInts m)) :
    Calls Try.prog 162 #[.slice a n c] w fun e w' => ∃ bv mb, e = .returned (.func (.func 201) #[] #[.pointer (some ⟨bv, 0, none⟩)]) ∧ LitFn w' bv mb m ∧ w.heap.size ≤ bv ∧ w.heap.size ≤ mb ∧ Ch [] w w' := by
  have hmm := @run_makeMap Try.prog
  have HS := Lib.hid hS; clear hS
  have HN := Lib.hid hn; clear hn
  have HP := Lib.hid hp; clear hp
  go_enter Try.func162, Try.ntmps162
  go_wp2_with fail
  clear hmm
  obtain ⟨W2, hW2⟩ : ∃ W2, W2 = (w.alloc (Obj.map #[] 0)).alloc (Obj.cells #[Value.map (some w.heap.size)] 271) := ⟨_, rfl⟩
  rw [← hW2]
  have hc0 : Ch [] w W2 := by rw [hW2]; exact ((Ch.refl _ _).alloc _).alloc _
  have hb0 : blk W2 (w.heap.size + 1) [.map (some w.heap.size)] := by rw [hW2]; exact blk.new' _ _ (by simp)
  have hm0 : NMap W2 w.heap.size (varPairs m 0) := by
    have h1 : NMap (w.alloc (.map #[] 0)) w.heap.size [] := ⟨#[], 0, heap_alloc_new w _, rfl⟩
    rw [hW2]
    exact h1.ch (F := []) ((Ch.refl _ _).alloc _) (by simp)
  have HC0 := Lib.hid hc0; clear hc0
  have HB0 := Lib.hid hb0; clear hb0
  have HM0 := Lib.hid hm0; clear hm0 hW2
  go_loopw [9] (fun i wr => ∃ k : Nat, k ≤ n ∧ i = .int .i64 k ∧ blk wr (w.heap.size + 1) [.map (some w.heap.size)] ∧ NMap wr w.heap.size (varPairs m k) ∧ Ch [] w wr) (fun i _ => n - (intOf i).toNat)
  case atStart => exact ⟨0, by omega, rfl, HB0.out, HM0.out, HC0.out⟩
  case round =>
    obtain ⟨k, hk, rfl, hb, hm, hc⟩ := hrel
    clear HB0 HM0 HC0
    by_cases hlt : k < n
    · obtain ⟨nd, hnd⟩ : ∃ nd, m[k]? = some nd := ⟨_, List.getElem?_eq_getElem (by rw [HN.out]; exact hlt)⟩
      obtain ⟨xb, xo, rfl, d0⟩ := HS.out.cells k (nd : Int) (by unfold natInts; rw [List.getElem?_map, hnd]; rfl)
      have c0 := (hc.cell (cell_lt d0) (by simp)).trans d0
      have x0 := hb.cell (i := 0) rfl
      obtain ⟨W5, hup, hc5, hm5⟩ := NMap.set (P := Try.prog) (T := 271) (K := 3) (E := 3) Try.underlying271 Try.underlying3 hm (n := nd) (varPairs_new HP.out hnd) (.int .i64 (k + 1 : Nat))
      rw [← getD_at (d := 0) hnd, ← varPairs_succ] at hm5
      rw [show ((k + 1 : Nat) : Int) = (k : Int) + 1 by omega] at hup
      have hb5 := hb.ch hc5 (by simp)
      have HB5 := Lib.hid hb5; clear hb5 hb
      have HM5 := Lib.hid hm5; clear hm5 hm
      have HC5 := Lib.hid (hc.trans hc5 (fun q hq => .inr (by rw [List.mem_singleton.1 hq]; exact Nat.le_refl _))); clear hc hc5
      clear hnd d0
      go_wp2_with fail
      go_roundw
      case rel => exact ⟨k + 1, by omega, by go_num, HB5.out, HM5.out, HC5.out⟩
      case measure => simp [intOf]; omega
    · have hkn : k = n := by omega
      subst hkn
      have HB5 := Lib.hid hb; clear hb
      have HM5 := Lib.hid hm; clear hm
      have HC5 := Lib.hid hc; clear hc
      go_wp2_with fail
      go_ret
      exact ⟨_, _, rfl, ⟨HB5.out, by rw [HN.out]; exact HM5.out⟩, by omega, Nat.le_refl _, HC5.out⟩
set_option maxRecDepth 100000 in
set_option maxHeartbeats 2000000 in
theorem tsliterals1_is {w : World} {bv mb : Nat} {m : List Nat} (hp : m.Pairwise (fun a b => a < b)) (h : LitFn w bv mb m) (hml : m.length ≤ 1000000) (r : Nat) (hr : r ≤ 1000000) :
    Calls Try.prog 201 (#[.int .i64 r] ++ #[.pointer (some ⟨bv, 0, none⟩)]) w fun e w' => e = .returned (.int .i64 (litOf (natInts m) r)) ∧ w = w' := by
  show Calls Try.prog 201 #[.int .i64 r, .pointer (some ⟨bv, 0, none⟩)] w _
  have hv : varOf (natInts m) ((r : Int) / 2) ≤ 1000000 := Nat.le_trans (varOf_le (nat_asc hp) _) (by simpa using hml)
  have hl : (Instr.lookup 271 (.map (some mb)) (.int .i64 ((r : Int) / 2)) false).run Try.prog w = .ok (.int .i64 (varOf (natInts m) ((r : Int) / 2))) w := by
    by_cases hm : r / 2 ∈ m
    · obtain ⟨k, hk, e⟩ := var_mem hp hm
      have := (h.map.lookup_yes (P := Try.prog) (T := 271) (K := 3) (E := 3) Try.underlying271 Try.underlying3 (n := r / 2) (v := .int .i64 (k + 1 : Nat)) (by
        unfold varPairs
        exact List.mem_map.2 ⟨k, List.mem_range.2 (List.getElem?_eq_some_iff.1 hk).1, by rw [getD_at hk]⟩) (fun v' hv' => by
        unfold varPairs at hv'
        obtain ⟨i, hi, e2⟩ := List.mem_map.1 hv'
        rw [List.mem_range] at hi
        have e3 : m.getD i 0 = r / 2 := congrArg Prod.fst e2
        have e4 : Value.int .i64 (i + 1 : Nat) = v' := congrArg Prod.snd e2
        have hi2 : m[i]? = some (r / 2) := by rw [List.getElem?_eq_getElem hi, ← e3, getD_at (List.getElem?_eq_getElem hi)]
        have h1 := var_at hp hi2
        have h2 := var_at hp hk
        rw [← e4]
        congr 2
        omega)).1
      rw [e, show (r : Int) / 2 = ((r / 2 : Nat) : Int) by omega]
      exact this
    · have hno : varOf (natInts m) ((r : Int) / 2) = 0 := varOf_none (fun hin => by
        unfold natInts at hin
        obtain ⟨k, hk, e⟩ := List.mem_map.1 hin
        exact hm (by rw [show r / 2 = k by omega]; exact hk))
      have := (h.map.lookup_no (P := Try.prog) (T := 271) (K := 3) (E := 3) Try.underlying271 Try.underlying3 (z := .int .i64 0) zeroInt (n := r / 2) (fun hin => by
        unfold varPairs at hin
        rw [List.map_map] at hin
        obtain ⟨i, hi, e⟩ := List.mem_map.1 hin
        rw [List.mem_range] at hi
        simp only [Function.comp] at e
        exact hm (by rw [← e, getD_at (List.getElem?_eq_getElem hi)]; exact List.getElem_mem _))).1
      rw [hno, show (r : Int) / 2 = ((r / 2 : Nat) : Int) by omega]
      exact this
  have hx := h.box.cell (i := 0) rfl
  unfold litOf
  generalize varOf (natInts m) ((r : Int) / 2) = V at *
  have HL := Lib.hid hl
  clear h
  by_cases h1 : (r : Int) % 2 = 1
  · rw [if_pos h1]
    have d1 : ((r : Int) % 2 == 1) = true := by simpa using h1
    clear h1
    go_enter Try.func201, Try.ntmps201
    go_wp2_with fail
    go_ret
    exact ⟨rfl, rfl⟩
  · rw [if_neg h1]
    have d1 : ((r : Int) % 2 == 1) = false := by simpa using h1
    clear h1
    go_enter Try.func201, Try.ntmps201
    go_wp2_with fail
    go_ret
    exact ⟨rfl, rfl⟩
end
end Go.Proofs.Ytkedpifopclipaa
namespace Go
open Go.RowKit Go.Mem
section
variable {F : Fence} {n : Nat} {P : Program}
theorem wpIn_rangeFunc_Q {g : Operand} {ps : Array Tmp} {assign body : Code} {Q : Exit → Act → World → Prop} {a : Act} {w : World} (B : Nat) (hB : w.heap.size = B)
    (hro : F.round = none) (h1 : 1 ≤ n) {gf : Nat} {lb : Array Value} (hg : a.eval g = .func (.func gf) #[] lb) (hFg : F.fn gf) (eg : ∀ args w, (callFunc gf args).run P w = .ok (.enter gf args) w)
    {ι : Type} {encs : ι → Array Value} (hps : ∀ x, (encs x).size = ps.size) (J0 : World → Prop) (K J : ι → World → Prop) (D : World → Prop)
    (hseq : ∀ (l : Nat) (X : World → Prop), (∀ A A' L, X A → Ch L A A' → (∀ q ∈ L, q ≠ B ∧ q ≠ B + 1) → X A') → (∀ A, X A → B + 2 ≤ A.heap.size) →
      (∀ x W, K x W → X W → YieldAt F (n - 1 - 1) P l (encs x) W fun e W' => e = .returned (.bool true) ∧ J x W' ∧ X W') →
      ∀ W, J0 W → X W → CallsIn F (n - 1) P gf (#[.func (.yield l) #[] #[]] ++ lb) W fun e W' => (∃ v, e = .returned v) ∧ D W' ∧ X W')
    (hJ0 : ∀ A A', J0 A → Ch [B, B + 1] A A' → J0 A') (hK : ∀ x A A', K x A → Ch [B, B + 1] A A' → K x A') (hJ : ∀ x A A', J x A → Ch [B, B + 1] A A' → J x A') (hD : ∀ A A', D A → Ch [B, B + 1] A A' → D A')
    (h0 : J0 w) (a₁ : ι → Act)
    (hassign : ∀ (l : Nat) (x : ι) (W : World) (K : Act → World → Prop), K (a₁ x) W →
      assign.wpIn (F.inRound l) (n - 1 - 1) P (Exit.then K (fun _ _ _ => False)) { tmps := (ps.zip (encs x)).foldl (fun t (p, v) => t.setIfInBounds p v) a.tmps, defers := [] } W)
    (hbody : ∀ (l : Nat) (x : ι) (W : World), K x W → B + 2 ≤ W.heap.size → body.wpIn (F.inRound l) (n - 1 - 1) P (fun e _ W' => Books B W W' ∧ e = .normal ∧ J x W') (a₁ x) W)
    (hdone : ∀ (W : World), D W → W.heap[B]? = some (.deferred (some [])) → B + 2 ≤ W.heap.size → Q .normal { a with defers := { target := .collected B, args := #[] } :: a.defers } W) :
    (Code.rangeFunc g ps assign body).wpIn F n P Q a w := by
  subst hB
  refine wpIn_rangeFunc fun fn hfn => ?_
  rw [hro]
  let rec0 : LoopState → Option Code → Loop := fun st pe => { state := st, pending := pe, fn, tmps := a.tmps, params := ps, assign, body, defers := w.heap.size }
  obtain ⟨W1, hW1⟩ : ∃ W1, (w.alloc (.deferred (some []))).alloc (.loop (rec0 .ready none)) = W1 := ⟨_, rfl⟩
  have hz1 : W1.heap.size = w.heap.size + 2 := by rw [← hW1]; simp
  have hL1 : W1.heap[w.heap.size + 1]? = some (.loop (rec0 .ready none)) := by
    rw [← hW1]; have := World.alloc_heap_new (w.alloc (.deferred (some []))) (.loop (rec0 .ready none)); rwa [World.size_alloc] at this
  have hK1 : W1.heap[w.heap.size]? = some (.deferred (some [])) := by
    rw [← hW1]; exact (Below.heap_alloc _ _ _ (by simp)).trans (World.alloc_heap_new w _)
  have hc1 : Ch [] w W1 := by rw [← hW1]; exact ((Ch.refl _ _).alloc _).alloc _
  have hI1 : J0 W1 := hJ0 _ _ h0 (hc1.mono (by simp))
  refine ⟨w.heap.size + 1, [{ target := .collected w.heap.size, args := #[] }], W1, { target := .fn (.func gf) lb, args := #[.func (.yield (w.heap.size + 1)) #[] #[]] }, W1, gf,
    #[.func (.yield (w.heap.size + 1)) #[] #[]] ++ lb, W1, ?_, ?_, ?_, ?_, fun _ => h1, ?_⟩
  · rw [← hW1]; exact run_enterLoop_outer _ _ _ _ _
  · simp only [resolve, hg]
    simp [go_sem]
  · intro f' hf'; simp [Target.leads] at hf'; subst hf'; exact hFg
  · simp [invoke, go_sem, eg]
  · refine (hseq (w.heap.size + 1) (fun W => w.heap.size + 2 ≤ W.heap.size ∧ W.heap[w.heap.size + 1]? = some (.loop (rec0 .ready none)) ∧ W.heap[w.heap.size]? = some (.deferred (some [])))
      (fun A A' L hs hc hL => ⟨Nat.le_trans hs.1 hc.size, (hc.block _ (by have := hs.1; omega) (fun hin => (hL _ hin).2 rfl)).trans hs.2.1, (hc.block _ (by have := hs.1; omega) (fun hin => (hL _ hin).1 rfl)).trans hs.2.2⟩)
      (fun A hA => hA.1) ?_ W1 hI1 ⟨by omega, hL1, hK1⟩).mono ?_
    · rintro x W hi ⟨hz, hl, hk⟩
      have hlt : w.heap.size + 1 < W.heap.size := by omega
      refine ⟨fn, _, assign, body, run_yield (P := P) (args := encs x) hl (hps x), roundIn_of_wpIn hfn (hassign _ x W _ ⟨_, run_beginRound hl rfl, ?_⟩)⟩
      have hl2 : (W.putObj (w.heap.size + 1) (.loop (rec0 .busy none))).heap[w.heap.size + 1]? = some (.loop (rec0 .busy none)) := World.putObj_heap_same hlt
      have hk2 : (W.putObj (w.heap.size + 1) (.loop (rec0 .busy none))).heap[w.heap.size]? = some (.deferred (some [])) := (World.putObj_heap_other (by omega)).trans hk
      refine wpIn_mono (hbody _ x _ (hK _ _ _ hi (ch_put (by simp))) (by simp; omega)) ?_
      rintro e a3 W3 ⟨⟨hb0, hb1⟩, rfl, hi3⟩
      have hl3 := hb1.trans hl2
      have hlt3 := (Array.getElem?_eq_some_iff.1 hl3).1
      exact ⟨_, _, run_endRound (P := P) none hl3, rfl, hJ _ _ _ hi3 (ch_put (by simp)), by simp; omega, World.putObj_heap_same hlt3, (World.putObj_heap_other (by omega)).trans (hb0.trans hk2)⟩
    · rintro e W2 ⟨⟨v, rfl⟩, hi, hz, hl, hk⟩
      exact ⟨none, _, run_endLoop (P := P) hl (by simp [rec0]), hdone _ (hD _ _ hi (ch_put (by simp))) ((World.putObj_heap_other (by omega)).trans hk) (by simp; omega)⟩
end
end Go
namespace Go.Mem
theorem wpListIn_append_rowI {F : Fence} {nF : Nat} {P : Program} {w : World} {ops : Array Oper} {rest : List Oper} {o : Oper} {a : Act} {Q : Exit → Act → World → Prop} {t e : TypeId} {size bytes : Nat} {z : Value} (S : SliceTy P t e size bytes z) (hgd : o.guard = none) (s x : Operand)
    (ho : o.op = .call { callee := .builtin .append, args := #[s, x], argTypes := #[t, t] })
    {v : Value} {n : Nat} {xs : List Value} (hs : a.eval s = v) (hown : row w e size v n xs) {ad : Addr} {m c : Nat} {news : List Value} (hx : a.eval x = .slice (some ad) m c) (hl : news.length = m * size) (hnews : ∀ j u, news[j]? = some u → w.cell? (ad.add j) = some u) (h1 : ∀ u ∈ news, u.oneCell' = true)
    (hbytes : (n + m) * bytes ≤ 140737488355328) (h63 : n + m ≤ 9223372036854775807)
    (h : ∀ v' w', row w' e size v' (n + m) (xs ++ news) → Ch v.ownBlock.toList w w' → (∀ k, v'.ownBlock = some k → v.ownBlock = some k ∨ w.heap.size ≤ k) → wpListIn F nF P ops Q rest (a.put o.dst v') w') : wpListIn F nF P ops Q (o :: rest) a w := by
  refine wpListIn_plain hgd fun K hK => ?_
  obtain ⟨v', w', hr, h2, h3, h4⟩ := run_append_row (P := P) w S o.type v n xs hown ad m c news hl hnews h1 hbytes (by unfold maxLen; omega)
  unfold Oper.wpIn
  refine ⟨by simp [Oper.about, ho, resolve, Target.leads, Sem.run_pure], ?_⟩
  rw [Oper.semAt_plain F _ _ (by rw [ho]; intro c hc'; cases hc')]
  simp [execOp, ho, resolve, invoke, builtin, hs, hx, hr, Result.andThen]
  exact hK _ _ (h v' w' h2 h3 h4)
end Go.Mem
namespace Go.Proofs.Ytkedpifopclipaa
open Go.RowKit Go.Mem Go.Aig
/-- a clause that is yielded: which one, its slice, and the iterator's own blocks with what they hold -/
structure YC where
  k : Nat
  ca : Option Addr
  n : Nat
  c : Nat
  L : List Nat
  h : Nat → Option Obj
def ycEnc (x : YC) : Array Value := #[.slice x.ca x.n x.c]
/-- what is known when a clause is yielded, and what has to be known behind it; I k O: k clauses were taken, the blocks O are the consumer's -/
def YK (b0 : Nat) (cls : List (List Int)) (I : Nat → List Nat → World → Prop) (x : YC) (W : World) : Prop := ∃ O c, I x.k O W ∧ cls[x.k]? = some c ∧ c.length = x.n ∧ x.n ≤ x.c ∧ x.c ≤ 9223372036854775807 ∧ Sl W x.ca c ∧ (∀ p, x.ca = some p → p.block < W.heap.size ∧ p.block ∉ O ∧ p.block ≠ b0 ∧ p.block ≠ b0 + 1) ∧ ∀ q ∈ x.L, q < W.heap.size ∧ q ∉ O ∧ (q ≠ b0 ∧ q ≠ b0 + 1) ∧ W.heap[q]? = x.h q
def YJ (I : Nat → List Nat → World → Prop) (x : YC) (W : World) : Prop := ∃ O, I (x.k + 1) O W ∧ ∀ q ∈ x.L, W.heap[q]? = x.h q ∧ q ∉ O
/-- what a consumer's state has to stand -/
structure YI (Ks : List Nat) (W0 : World) (I : Nat → List Nat → World → Prop) : Prop where
  lt : ∀ k O W, I k O W → ∀ q ∈ O, q < W.heap.size
  ch : ∀ k O A A', I k O A → Ch [] A A' → I k O A'
  kept : ∀ k O W, I k O W → ∀ q ∈ Ks, W.heap[q]? = W0.heap[q]?
theorem cls_at {ns : List Nd} {m l : List Int} {k j : Nat} (hk : k < m.length) {n : Int} (hn : m[k]? = some n) {c : List Int} (hc : (nodeCls ns m k n)[j]? = some c) : (clsOf ns m l)[(nodesCls ns m k).length + j]? = some c := by
  have hpre : ∀ d, ∃ t, nodesCls ns m (k + d) = nodesCls ns m k ++ t := by
    intro d
    induction d with
    | zero => exact ⟨[], by simp⟩
    | succ d ih =>
      obtain ⟨t, e⟩ := ih
      exact ⟨t ++ nodeCls ns m (k + d) (m.getD (k + d) 0), by rw [← Nat.add_assoc, nodesCls_succ, e, List.append_assoc]⟩
  have hpre1 : ∃ t, nodesCls ns m m.length = nodesCls ns m k ++ nodeCls ns m k n ++ t := by
    have h1 : ∀ d, ∃ t, nodesCls ns m (k + 1 + d) = nodesCls ns m (k + 1) ++ t := by
      intro d
      induction d with
      | zero => exact ⟨[], by simp⟩
      | succ d ih =>
        obtain ⟨t, e⟩ := ih
        exact ⟨t ++ nodeCls ns m (k + 1 + d) (m.getD (k + 1 + d) 0), by rw [← Nat.add_assoc, nodesCls_succ, e, List.append_assoc]⟩
    obtain ⟨t, e⟩ := h1 (m.length - (k + 1))
    rw [show k + 1 + (m.length - (k + 1)) = m.length by omega, nodesCls_succ, getD_at hn] at e
    exact ⟨t, e⟩
  obtain ⟨t, e⟩ := hpre1
  have hj := (List.getElem?_eq_some_iff.1 hc).1
  unfold clsOf
  rw [e, List.append_assoc, List.append_assoc, List.getElem?_append_right (by omega), Nat.add_sub_cancel_left, List.getElem?_append_left hj]
  exact hc
theorem cls_root {ns : List Nd} {m l : List Int} {j : Nat} {r : Int} (hr : l[j]? = some r) {c : List Int} (hc : rootCls m r = [c]) : (clsOf ns m l)[(nodesCls ns m m.length).length + (rootsCls m (l.take j)).length]? = some c := by
  have hj := (List.getElem?_eq_some_iff.1 hr).1
  have e : rootsCls m l = rootsCls m (l.take j) ++ [c] ++ rootsCls m (l.drop (j + 1)) := by
    have h1 : l = l.take j ++ r :: l.drop (j + 1) := by
      conv => lhs; rw [← List.take_append_drop j l, drop_cons' hr]
    conv => lhs; rw [h1]
    unfold rootsCls
    rw [List.flatMap_append, List.flatMap_cons, hc, List.append_assoc]
  unfold clsOf
  rw [List.getElem?_append_right (by omega), Nat.add_sub_cancel_left, e, List.append_assoc, List.getElem?_append_right (Nat.le_refl _), Nat.sub_self]
  rfl
/-- what is known between two yields -/
structure YS (b0 : Nat) (I : Nat → List Nat → World → Prop) (X : World → Prop) (bv mb : Nat) (m : List Nat) (B : List (Nat × List Value)) (k : Nat) (O : List Nat) (W : World) : Prop where
  i : I k O W
  x : X W
  lf : LitFn W bv mb m
  bl : ∀ p ∈ B, blk W p.1 p.2
  o : ∀ q ∈ bv :: mb :: B.map Prod.fst, q ∉ O
  nb : ∀ q ∈ bv :: mb :: B.map Prod.fst, q ≠ b0 ∧ q ≠ b0 + 1
section
variable {b0 : Nat} {I : Nat → List Nat → World → Prop} {X : World → Prop} {bv mb : Nat} {m : List Nat} {B : List (Nat × List Value)} {k : Nat} {O : List Nat} {W W' : World}
theorem YS.lt (h : YS b0 I X bv mb m B k O W) : ∀ q ∈ bv :: mb :: B.map Prod.fst, q < W.heap.size := fun q hq => by
  simp only [List.mem_cons, List.mem_map] at hq
  rcases hq with rfl | rfl | ⟨p, hp, rfl⟩
  · exact h.lf.box.lt
  · exact h.lf.map.lt
  · exact (h.bl p hp).lt
theorem YS.next {O' : List Nat} (h : YS b0 I X bv mb m B k O W) {k' : Nat} (hi : I k' O' W') (hx : X W') (hk : ∀ q ∈ bv :: mb :: B.map Prod.fst, W'.heap[q]? = W.heap[q]? ∧ q ∉ O') : YS b0 I X bv mb m B k' O' W' :=
  ⟨hi, hx, ⟨h.lf.box.keep (hk bv (by simp)).1, h.lf.map.of_heap (hk mb (by simp)).1⟩, fun p hp => (h.bl p hp).keep (hk p.1 (by simp only [List.mem_cons, List.mem_map]; exact .inr (.inr ⟨p, hp, rfl⟩))).1, fun q hq => (hk q hq).2, h.nb⟩
theorem YS.ch {Ks : List Nat} {W0 : World} (hI : YI Ks W0 I) (hX : ∀ A A' L, X A → Ch L A A' → (∀ q ∈ L, q ≠ b0 ∧ q ≠ b0 + 1) → X A') (h : YS b0 I X bv mb m B k O W) (hc : Ch [] W W') : YS b0 I X bv mb m B k O W' :=
  h.next (hI.ch _ _ _ _ h.i hc) (hX _ _ _ h.x hc (by simp)) (fun q hq => ⟨hc.block q (h.lt q hq) (by simp), h.o q hq⟩)
theorem YS.add (h : YS b0 I X bv mb m B k O W) {b : Nat} {xs : List Value} (hb : blk W b xs) (hO : b ∉ O) (hbb : b ≠ b0 ∧ b ≠ b0 + 1) : YS b0 I X bv mb m ((b, xs) :: B) k O W :=
  ⟨h.i, h.x, h.lf, fun p hp => (List.mem_cons.1 hp).elim (fun e => by rw [e]; exact hb) (h.bl p), fun q hq => by
    simp only [List.map_cons, List.mem_cons] at hq
    rcases hq with e | e | e | hq
    · exact h.o q (by simp [e])
    · exact h.o q (by simp [e])
    · rw [e]; exact hO
    · exact h.o q (by simp only [List.mem_cons]; exact .inr (.inr hq)), fun q hq => by
    simp only [List.map_cons, List.mem_cons] at hq
    rcases hq with e | e | e | hq
    · exact h.nb q (by simp [e])
    · exact h.nb q (by simp [e])
    · rw [e]; exact hbb
    · exact h.nb q (by simp only [List.mem_cons]; exact .inr (.inr hq))⟩
theorem YS.drop {B' : List (Nat × List Value)} (h : YS b0 I X bv mb m B k O W) (hs : ∀ p ∈ B', p ∈ B) : YS b0 I X bv mb m B' k O W :=
  ⟨h.i, h.x, h.lf, fun p hp => h.bl p (hs p hp), fun q hq => h.o q (by
    simp only [List.mem_cons, List.mem_map] at hq ⊢
    rcases hq with e | e | ⟨p, hp, e⟩
    · exact .inl e
    · exact .inr (.inl e)
    · exact .inr (.inr ⟨p, hs p hp, e⟩)), fun q hq => h.nb q (by
    simp only [List.mem_cons, List.mem_map] at hq ⊢
    rcases hq with e | e | ⟨p, hp, e⟩
    · exact .inl e
    · exact .inr (.inl e)
    · exact .inr (.inr ⟨p, hs p hp, e⟩))⟩
end
theorem Sl.of_blk {w : World} {b : Nat} {c : List Int} (h : blk w b (intCells c)) (hn : c.length ≤ 1000000) : Sl w (some ⟨b, 0, none⟩) c :=
  ⟨fun i x hx => ⟨b, 0, rfl, by rw [Nat.zero_add]; exact h.cell (by unfold intCells; rw [List.getElem?_map, hx]; rfl)⟩, by omega⟩
theorem litOf_bd {m : List Nat} (hp : m.Pairwise (fun a b => a < b)) (hm : m.length ≤ 65536) (r : Int) : -65536 ≤ litOf (natInts m) r ∧ litOf (natInts m) r ≤ 65536 := by
  have := varOf_le (nat_asc hp) (r / 2)
  rw [natInts_len] at this
  unfold litOf
  split <;> omega
theorem empty_row (w : World) (T : TypeId) : row (w.alloc (.cells #[] T)) T 1 (.slice (some ⟨w.heap.size, 0, none⟩) 0 0) 0 [] :=
  ⟨rfl, .inr ⟨w.heap.size, 0, #[], rfl, Nat.zero_le _, heap_alloc_new w _, Nat.le_refl _, by decide, by simp, by simp⟩⟩
theorem infoLit : (Try.prog.info? 46).map (fun i => (i.zero, i.size, i.bytes)) = some (some (.int .i64 0), 1, 8) := by kernel_rfl
theorem slLits : SliceTy Try.prog 137 46 1 8 (.int .i64 0) := ⟨Try.underlying137, infoLit, rfl, by decide⟩
theorem fnvtswritten1 : Fnv 161 := fnv_of Try.func161 (by simp [Try.f161]) (by simp [Try.f161])
section
set_option maxRecDepth 100000 in
set_option maxHeartbeats 1000000 in
theorem tswritten_is (w : World) (g : Nat) (ma ra : Option Addr) (n mc k rc : Nat) : Calls Try.prog 82 #[.pointer (some ⟨g, 0, none⟩), .slice ma n mc, .slice ra k rc] w fun e w' => e = .returned (.func (.func 161) #[] #[.pointer (some ⟨w.heap.size + 1, 0, none⟩), .pointer (some ⟨w.heap.size, 0, none⟩), .pointer (some ⟨w.heap.size + 2, 0, none⟩)]) ∧
    Ch [] w w' ∧ blk w' w.heap.size [.pointer (some ⟨g, 0, none⟩)] ∧ blk w' (w.heap.size + 1) [.slice ma n mc] ∧ blk w' (w.heap.size + 2) [.slice ra k rc] ∧ w.heap.size + 3 ≤ w'.heap.size := by
  go_enter Try.func82, Try.ntmps82
  go_wp2_with fail
  go_ret
  exact ⟨rfl, (((Ch.refl _ _).alloc _).alloc _).alloc _, ((blk.new' _ _ (by simp)).alloc _).alloc _, (blk.new' _ _ (by simp)).alloc _, blk.new' _ _ (by simp), by simp⟩
set_option maxRecDepth 100000 in
set_option maxHeartbeats 8000000 in
theorem written1_seq {W0 : World} {g : Nat} {G : Gra} {F : List Nat} (h : GIn W0 g G F) {m l : List Nat} (hm : VarOk G.nodes m) (hl : ∀ r ∈ l, r < 2 * G.nodes.length) {ma ra : Option Addr} (n mc k rc : Nat) (hn : m.length = n) (hk : l.length = k) (hk6 : k ≤ 65536)
    {bg bm br : Nat} (hbg : blk W0 bg [.pointer (some ⟨g, 0, none⟩)]) (hbm : blk W0 bm [.slice ma n mc]) (hbr : blk W0 br [.slice ra k rc]) {Km Kr : List Nat} (hSm : ∀ W, (∀ q ∈ Km, W.heap[q]? = W0.heap[q]?) → Sl W ma (natInts m)) (hSr : ∀ W, (∀ q ∈ Kr, W.heap[q]? = W0.heap[q]?) → Sl W ra (natInts l))
    {I : Nat → List Nat → World → Prop} (hI : YI (bg :: bm :: br :: (F ++ (Km ++ Kr))) W0 I) (N : Nat) (hN : 1 ≤ N) (B : Nat) (lp : Nat) (X : World → Prop) (hX : ∀ A A' L, X A → Ch L A A' → (∀ q ∈ L, q ≠ B ∧ q ≠ B + 1) → X A')
    (hXB : ∀ A, X A → B + 2 ≤ A.heap.size)
    (hY : ∀ x W, YK B (clsOf G.nodes (natInts m) (natInts l)) I x W → X W → YieldAt Fence.wide (N - 1) Try.prog lp (ycEnc x) W fun e W' => e = .returned (.bool true) ∧ YJ I x W' ∧ X W')
    (W : World) (O0 : List Nat) (hI0 : I 0 O0 W) (hXW : X W) :
    CallsIn Fence.wide N Try.prog 161 #[.func (.yield lp) #[] #[], .pointer (some ⟨bm, 0, none⟩), .pointer (some ⟨bg, 0, none⟩), .pointer (some ⟨br, 0, none⟩)] W fun e W' => (∃ v, e = .returned v) ∧ (∃ O, I (clsOf G.nodes (natInts m) (natInts l)).length O W') ∧ X W' := by
  have hok := h.ok
  have hlen := hok.room
  have hmost := hok.most
  have hn6 : n ≤ 65536 := by
    rw [← hn]
    have h1 := rising_len (m := natInts m) (by
      rw [rising_iff]
      refine ⟨fun x hx => ?_, nat_asc hm.asc⟩
      unfold natInts at hx
      obtain ⟨d, hd, rfl⟩ := List.mem_map.1 hx
      have := hm.lt d hd
      exact ⟨by omega, by omega⟩)
    rw [natInts_len] at h1
    omega
  have hkp := fun (k : Nat) (O : List Nat) (W : World) (hi : I k O W) => hI.kept k O W hi
  have hgt := fun (k : Nat) (O : List Nat) (W : World) (hi : I k O W) => h.keep (W := W) (fun q hq => hkp k O W hi q (by simp [hq]))
  have hbt := fun (k : Nat) (O : List Nat) (W : World) (hi : I k O W) => hbg.keep (hkp k O W hi bg (by simp))
  have hmt := fun (k : Nat) (O : List Nat) (W : World) (hi : I k O W) => hbm.keep (hkp k O W hi bm (by simp))
  have hrt := fun (k : Nat) (O : List Nat) (W : World) (hi : I k O W) => hbr.keep (hkp k O W hi br (by simp))
  have hsm := fun (k : Nat) (O : List Nat) (W : World) (hi : I k O W) => hSm W (fun q hq => hkp k O W hi q (by simp [hq]))
  have hsr := fun (k : Nat) (O : List Nat) (W : World) (hi : I k O W) => hSr W (fun q hq => hkp k O W hi q (by simp [hq]))
  have y0 := (hmt _ _ _ hI0).cell (i := 0) rfl
  have y1 := (hbt _ _ _ hI0).cell (i := 0) rfl
  have y2 := (hrt _ _ _ hI0).cell (i := 0) rfl
  have hLI := tsliterals_is hm.asc n mc hn (by omega) (hsm _ _ _ hI0)
  have HLI := Lib.hid hLI; clear hLI
  have HI := Lib.hid hI; clear hI
  have HGT := Lib.hid hgt; clear hgt
  have HBT := Lib.hid hbt; clear hbt
  have HMT := Lib.hid hmt; clear hmt
  have HRT := Lib.hid hrt; clear hrt
  have HSM := Lib.hid hsm; clear hsm
  have HSR := Lib.hid hsr; clear hsr
  have HX := Lib.hid hX; clear hX
  have HY := Lib.hid hY; clear hY
  have HXB := Lib.hid hXB; clear hXB
  have HI0 := Lib.hid hI0; clear hI0
  have HXW := Lib.hid hXW; clear hXW
  have HM := Lib.hid hm; clear hm
  have HL := Lib.hid hl; clear hl
  have HN := Lib.hid hn; clear hn
  have HK := Lib.hid hk; clear hk
  have HOK := Lib.hid hok; clear hok
  clear hkp h hbg hbm hbr hSm hSr
  refine callsIn_of_wp Try.func161 rfl trivial ?_ rfl
  simp only [Try.ntmps161, List.size_toArray, List.length_cons, List.length_nil, Nat.reduceAdd, Nat.reduceSub, Array.replicate_succ, Array.replicate_zero, List.push_toArray, List.append_toArray, List.nil_append, List.cons_append]
  gi_wp2
  refine ⟨trivial, callsIn_wide.2 (HLI.out.mono ?_)⟩
  rintro e w1 ⟨bv, mb, rfl, hlf, hbv, hmb, hc1⟩
  have hys : YS B I X bv mb m [] 0 O0 w1 := ⟨HI.out.ch _ _ _ _ HI0.out hc1, HX.out _ _ _ HXW.out hc1 (by simp), hlf, by simp, fun q hq => by
    have := HI.out.lt _ _ _ HI0.out
    simp only [List.map_nil, List.mem_cons, List.not_mem_nil, or_false] at hq
    rcases hq with rfl | rfl
    · exact fun hin => by have := this _ hin; omega
    · exact fun hin => by have := this _ hin; omega, fun q hq => by
    have := HXB.out _ HXW.out
    simp only [List.map_nil, List.mem_cons, List.not_mem_nil, or_false] at hq
    rcases hq with rfl | rfl <;> omega⟩
  have y0 := (HMT.out _ _ _ hys.i).cell (i := 0) rfl
  have HYS := Lib.hid hys; clear hys
  clear hc1 HLI y1 y2 hlf hbv hmb HI0 HXW
  have hcf : ∀ args w, (callFunc 201 args).run Try.prog w = .ok (.enter 201 args) w := fnvtsliterals1
  gi_wp2
  clear y0
  gi_loopw [23] (fun i wr => ∃ (j : Nat) (O : List Nat), j ≤ n ∧ i = .int .i64 j ∧ YS B I X bv mb m [] (nodesCls G.nodes (natInts m) j).length O wr) (fun i _ => n - (intOf i).toNat)
  case atStart => exact ⟨0, O0, by omega, rfl, HYS.out⟩
  case round =>
    clear HYS
    obtain ⟨j, O, hj, rfl, hys⟩ := hrel
    by_cases hlt : j < n
    · obtain ⟨nd, hnd⟩ : ∃ nd, m[j]? = some nd := ⟨_, List.getElem?_eq_getElem (by rw [HN.out]; exact hlt)⟩
      have hndb := HM.out.lt nd (List.mem_of_getElem? hnd)
      have hndZ : (natInts m)[j]? = some (nd : Int) := by unfold natInts; rw [List.getElem?_map, hnd]; rfl
      obtain ⟨xb, xo, rfl, c0⟩ := (HSM.out _ _ _ hys.i).cells j (nd : Int) hndZ
      have y1 := (HBT.out _ _ _ hys.i).cell (i := 0) rfl
      have hSd := Sides_g (HGT.out _ _ _ hys.i) (2 * (nd : Int)) (by omega)
      obtain ⟨x, hxn⟩ : ∃ x, G.nodes[nd]? = some x := ⟨_, List.getElem?_eq_getElem hndb.2⟩
      obtain ⟨s1, s2⟩ := side_of HOK.out.wf hxn
      have hsucc : nodesCls G.nodes (natInts m) (j + 1) = nodesCls G.nodes (natInts m) j ++ nodeCls G.nodes (natInts m) j (nd : Int) := by rw [nodesCls_succ, getD_at hndZ]
      by_cases h3 : x.k = 3
      · obtain ⟨e1, e2, hl2, hr2, hl3, hr3⟩ := s2 h3
        have hcls : nodeCls G.nodes (natInts m) j (nd : Int) = andCls ((j : Int) + 1) (litOf (natInts m) x.l) (litOf (natInts m) x.r) := by
          unfold nodeCls
          rw [s1, e1, e2, if_pos (by simp [h3])]
        rw [s1, e1, e2, show (x.k == 3) = true by simp [h3]] at hSd
        have hat := fun (q : Nat) (c : List Int) (hc : (nodeCls G.nodes (natInts m) j (nd : Int))[q]? = some c) => cls_at (ns := G.nodes) (l := natInts l) (List.getElem?_eq_some_iff.1 hndZ).1 hndZ hc
        rw [hcls] at hat hsucc
        have hL1 := fun (W : World) (hW : LitFn W bv mb m) => tsliterals1_is HM.out.asc hW (by rw [HN.out]; omega) x.l (by omega)
        have hL2 := fun (W : World) (hW : LitFn W bv mb m) => tsliterals1_is HM.out.asc hW (by rw [HN.out]; omega) x.r (by omega)
        have hab := litOf_bd HM.out.asc (by rw [HN.out]; exact hn6) x.l
        have hbb := litOf_bd HM.out.asc (by rw [HN.out]; exact hn6) x.r
        generalize litOf (natInts m) x.l = A at *
        generalize litOf (natInts m) x.r = D at *
        have HL1 := Lib.hid hL1; clear hL1
        have HL2 := Lib.hid hL2; clear hL2
        have HSD := Lib.hid hSd; clear hSd
        have HAT := Lib.hid hat; clear hat
        have HSU := Lib.hid hsucc; clear hsucc
        have HYS := Lib.hid hys; clear hys
        clear s1 s2 h3 e1 e2 hnd hxn hcls hndZ
        generalize x.l = xl at *
        generalize x.r = xr at *
        gi_wp2
        refine ⟨trivial, callsIn_wide.2 (HSD.out.mono ?_)⟩
        rintro e w2 ⟨rfl, hc2⟩
        have hy2 := YS.ch HI.out HX.out HYS.out hc2
        have HY2 := Lib.hid hy2; clear hy2 HYS HSD hc2 c0 y1
        gi_wp2
        refine ⟨trivial, callsIn_wide.2 ((HL1.out _ HY2.out.lf).mono ?_)⟩
        rintro e w' ⟨rfl, rfl⟩
        gi_wp2
        refine ⟨trivial, callsIn_wide.2 ((HL2.out _ HY2.out.lf).mono ?_)⟩
        rintro e w' ⟨rfl, rfl⟩
        gi_wp2
        refine wpIn_named fun W7 hW7 => ?_
        have hc7 : Ch [] w2 W7 := by rw [hW7]; exact ((((Ch.refl _ _).alloc _).alloc _).alloc _).alloc _
        have k1 : blk W7 w2.heap.size (intCells [-((j : Int) + 1), A]) := by rw [hW7]; exact (((blk.new' _ _ rfl).alloc _).alloc _).alloc _
        have k2 : blk W7 (w2.heap.size + 1) (intCells [-((j : Int) + 1), D]) := by rw [hW7]; exact ((blk.new' _ _ (by simp)).alloc _).alloc _
        have k3 : blk W7 (w2.heap.size + 1 + 1) (intCells [(j : Int) + 1, -A, -D]) := by rw [hW7]; exact (blk.new' _ _ (by simp)).alloc _
        have k4 : blk W7 (w2.heap.size + 1 + 1 + 1) [.slice (some ⟨w2.heap.size, 0, none⟩) 2 2, .slice (some ⟨w2.heap.size + 1, 0, none⟩) 2 2, .slice (some ⟨w2.heap.size + 1 + 1, 0, none⟩) 3 3] := by rw [hW7]; exact blk.new' _ _ (by simp)
        have hno : ∀ d, w2.heap.size + d ∉ O := fun d hin => by have := HI.out.lt _ _ _ HY2.out.i _ hin; omega
        have hnb : ∀ d, w2.heap.size + d ≠ B ∧ w2.heap.size + d ≠ B + 1 := fun d => by have := HXB.out _ HY2.out.x; omega
        have hy7 := (((((HY2.out.ch HI.out HX.out hc7).add k4 (hno 3) (hnb 3)).add k3 (hno 2) (hnb 2)).add k2 (hno 1) (hnb 1)).add k1 (hno 0) (hnb 0))
        clear hW7 hc7 k1 k2 k3 k4 hno hnb HY2
        generalize w2.heap.size = b1 at *
        have HY7 := Lib.hid hy7; clear hy7
        gi_loopw [62] (fun i wr => ∃ (q : Nat) (O : List Nat), q ≤ 3 ∧ i = .int .i64 q ∧ YS B I X bv mb m [(b1, intCells [-((j : Int) + 1), A]), (b1 + 1, intCells [-((j : Int) + 1), D]), (b1 + 1 + 1, intCells [(j : Int) + 1, -A, -D]), (b1 + 1 + 1 + 1, [.slice (some ⟨b1, 0, none⟩) 2 2, .slice (some ⟨b1 + 1, 0, none⟩) 2 2, .slice (some ⟨b1 + 1 + 1, 0, none⟩) 3 3])] ((nodesCls G.nodes (natInts m) j).length + q) O wr) (fun i _ => 3 - (intOf i).toNat)
        case atStart => exact ⟨0, O, by omega, rfl, HY7.out⟩
        case round =>
          clear HY7
          obtain ⟨q, O, hq, rfl, hys⟩ := hrel
          by_cases hlt : q < 3
          · obtain ⟨bq, nq, c, cq, hnq, hn3, hbq, hbO, hlt2, hcc⟩ : ∃ (bq nq : Nat) (c : List Int), wr.cell? ⟨b1 + 1 + 1 + 1, q, none⟩ = some (.slice (some ⟨bq, 0, none⟩) nq nq) ∧ c.length = nq ∧ nq ≤ 3 ∧ blk wr bq (intCells c) ∧ (bq ∉ O ∧ bq ≠ B ∧ bq ≠ B + 1) ∧ bq < wr.heap.size ∧ (andCls ((j : Int) + 1) A D)[q]? = some c := by
              have k1 := hys.bl (b1, intCells [-((j : Int) + 1), A]) (by simp)
              have k2 := hys.bl (b1 + 1, intCells [-((j : Int) + 1), D]) (by simp)
              have k3 := hys.bl (b1 + 1 + 1, intCells [(j : Int) + 1, -A, -D]) (by simp)
              have k4 := hys.bl (b1 + 1 + 1 + 1, [.slice (some ⟨b1, 0, none⟩) 2 2, .slice (some ⟨b1 + 1, 0, none⟩) 2 2, .slice (some ⟨b1 + 1 + 1, 0, none⟩) 3 3]) (by simp)
              rcases (by omega : q = 0 ∨ q = 1 ∨ q = 2) with rfl | rfl | rfl
              · exact ⟨b1, 2, _, k4.cell rfl, rfl, by omega, k1, ⟨hys.o b1 (by simp), hys.nb b1 (by simp)⟩, k1.lt, rfl⟩
              · exact ⟨b1 + 1, 2, _, k4.cell rfl, rfl, by omega, k2, ⟨hys.o (b1 + 1) (by simp), hys.nb (b1 + 1) (by simp)⟩, k2.lt, rfl⟩
              · exact ⟨b1 + 1 + 1, 3, _, k4.cell rfl, rfl, by omega, k3, ⟨hys.o (b1 + 1 + 1) (by simp), hys.nb (b1 + 1 + 1) (by simp)⟩, k3.lt, rfl⟩
            have hat := HAT.out q c hcc
            have hY1 := HY.out ⟨(nodesCls G.nodes (natInts m) j).length + q, some ⟨bq, 0, none⟩, nq, nq, _, fun q => wr.heap[q]?⟩ wr ⟨O, c, hys.i, hat, hnq, Nat.le_refl _, (show nq ≤ 9223372036854775807 by omega), Sl.of_blk hbq (by omega), fun p hp => by cases hp; exact ⟨hlt2, hbO⟩, fun z hz => ⟨hys.lt z hz, hys.o z hz, hys.nb z hz, rfl⟩⟩ hys.x
            obtain ⟨fn, tmps, assign, body, hy1, hR⟩ := hY1
            simp only [ycEnc] at hy1
            have HYS := Lib.hid hys; clear hys
            clear hbq hbO hlt2 hcc hat hnq
            gi_wp2
            refine hR.mono ?_
            rintro e W2 ⟨rfl, ⟨O', hi', hkp⟩, hx'⟩
            have hys := HYS.out.next hi' hx' hkp
            have HYS := Lib.hid hys; clear hys hi' hkp hx' hR hy1
            gi_wp2
            go_roundw
            case rel => exact ⟨q + 1, O', by omega, by go_num, HYS.out⟩
            case measure => simp [intOf]; omega
          · have hq3 : q = 3 := by omega
            subst hq3
            have hys := hys.drop (B' := []) (by simp)
            rw [show (nodesCls G.nodes (natInts m) j).length + 3 = (nodesCls G.nodes (natInts m) (j + 1)).length by rw [HSU.out, List.length_append]; rfl] at hys
            have HYS := Lib.hid hys; clear hys
            gi_wp2
            go_roundw
            case rel => exact ⟨j + 1, O, by omega, by go_num, HYS.out⟩
            case measure => simp [intOf]; omega
      · rw [s1, show (x.k == 3) = false by simp [h3]] at hSd
        have hcls : nodeCls G.nodes (natInts m) j (nd : Int) = [] := by
          unfold nodeCls
          rw [s1, if_neg (by simp [h3])]
        rw [hcls, List.append_nil] at hsucc
        have HSD := Lib.hid hSd; clear hSd
        have HSU := Lib.hid hsucc; clear hsucc
        have HYS := Lib.hid hys; clear hys
        clear s1 s2 h3 hnd hxn hcls hndZ
        gi_wp2
        refine ⟨trivial, callsIn_wide.2 (HSD.out.mono ?_)⟩
        rintro e w2 ⟨rfl, hc2⟩
        have hy2 := YS.ch HI.out HX.out HYS.out hc2
        rw [← HSU.out] at hy2
        have HY2 := Lib.hid hy2; clear hy2 HYS HSD hc2 c0 y1
        gi_wp2
        go_roundw
        case rel => exact ⟨j + 1, O, by omega, by go_num, HY2.out⟩
        case measure => simp [intOf]; omega
    · have hjn : j = n := by omega
      subst hjn
      have y2 := (HRT.out _ _ _ hys.i).cell (i := 0) rfl
      have hml : (natInts m).length = j := by rw [natInts_len]; exact HN.out
      have HYS := Lib.hid hys; clear hys
      gi_wp2
      clear y2
      gi_loopw [74] (fun i wr => ∃ (q : Nat) (O : List Nat), q ≤ k ∧ i = .int .i64 q ∧ YS B I X bv mb m [] ((nodesCls G.nodes (natInts m) (natInts m).length).length + (rootsCls (natInts m) ((natInts l).take q)).length) O wr) (fun i _ => k - (intOf i).toNat)
      case atStart => exact ⟨0, O, by omega, rfl, by rw [hml]; exact HYS.out⟩
      case round =>
        clear HYS
        obtain ⟨q, O, hq, rfl, hys⟩ := hrel
        by_cases hltq : q < k
        · obtain ⟨r, hr⟩ : ∃ r, l[q]? = some r := ⟨_, List.getElem?_eq_getElem (by rw [HK.out]; exact hltq)⟩
          have hrb := HL.out r (List.mem_of_getElem? hr)
          have hrZ : (natInts l)[q]? = some (r : Int) := by unfold natInts; rw [List.getElem?_map, hr]; rfl
          obtain ⟨xb, xo, rfl, c0⟩ := (HSR.out _ _ _ hys.i).cells q (r : Int) hrZ
          have hsucc : rootsCls (natInts m) ((natInts l).take (q + 1)) = rootsCls (natInts m) ((natInts l).take q) ++ rootCls (natInts m) r := by
            rw [List.take_add_one, hrZ, ← rootsCls_snoc]; rfl
          have hcA : Ch [] wr (wr.alloc (.cells #[] 46)) := (Ch.refl _ _).alloc _
          have hyA := hys.ch HI.out HX.out hcA
          have hnO : wr.heap.size ∉ O ∧ wr.heap.size ≠ B ∧ wr.heap.size ≠ B + 1 := ⟨fun hin => by have := HI.out.lt _ _ _ hys.i _ hin; omega, by have := HXB.out _ hys.x; omega⟩
          by_cases h1 : r = 1
          · have d1 : ((r : Int) == 1) = true := by simp [h1]
            have e1 : rootCls (natInts m) r = [] := by unfold rootCls; rw [if_pos (by omega)]
            rw [e1, List.append_nil] at hsucc
            rw [← hsucc] at hyA
            have HYA := Lib.hid hyA; clear hyA hys hsucc hrZ hr e1 h1 hcA
            gi_wp2
            go_roundw
            case rel => exact ⟨q + 1, O, by omega, by go_num, HYA.out⟩
            case measure => simp [intOf]; omega
          · have d1 : ((r : Int) == 1) = false := by simp; omega
            by_cases h0 : r = 0
            · have d0 : ((r : Int) == 0) = true := by simp [h0]
              have e1 : rootCls (natInts m) r = [[]] := by unfold rootCls; rw [if_neg (by omega), if_pos (by omega)]
              have hcls := cls_root (ns := G.nodes) hrZ e1
              rw [e1] at hsucc
              have hY1 := HY.out ⟨(nodesCls G.nodes (natInts m) (natInts m).length).length + (rootsCls (natInts m) ((natInts l).take q)).length, some ⟨wr.heap.size, 0, none⟩, 0, 0, _, fun z => (wr.alloc (.cells #[] 46)).heap[z]?⟩ (wr.alloc (.cells #[] 46)) ⟨O, [], hyA.i, hcls, rfl, Nat.le_refl _, (show 0 ≤ 9223372036854775807 by omega), ⟨by simp, by simp⟩, fun p hp => by cases hp; exact ⟨by simp, hnO⟩, fun z hz => ⟨hyA.lt z hz, hyA.o z hz, hyA.nb z hz, rfl⟩⟩ hyA.x
              obtain ⟨fn, tmps, assign, body, hy1, hR⟩ := hY1
              simp only [ycEnc] at hy1
              have HYA := Lib.hid hyA; clear hyA hys
              have HSU := Lib.hid hsucc; clear hsucc
              clear hrZ hr e1 h1 h0 hcA hcls
              gi_wp2
              refine hR.mono ?_
              rintro e W2 ⟨rfl, ⟨O', hi', hkp⟩, hx'⟩
              have hy2 := HYA.out.next hi' hx' hkp
              have e2 : (nodesCls G.nodes (natInts m) (natInts m).length).length + (rootsCls (natInts m) ((natInts l).take q)).length + 1 = (nodesCls G.nodes (natInts m) (natInts m).length).length + (rootsCls (natInts m) ((natInts l).take (q + 1))).length := by rw [HSU.out, List.length_append]; rfl
              rw [e2] at hy2
              have HY2 := Lib.hid hy2; clear hy2 hi' hkp hx' hR hy1 HYA e2
              gi_wp2
              go_roundw
              case rel => exact ⟨q + 1, O', by omega, by go_num, HY2.out⟩
              case measure => simp [intOf]; omega
            · have d0 : ((r : Int) == 0) = false := by simp; omega
              have e1 : rootCls (natInts m) r = [[litOf (natInts m) r]] := by unfold rootCls; rw [if_neg (by omega), if_neg (by omega)]
              have hcls := cls_root (ns := G.nodes) hrZ e1
              rw [e1] at hsucc
              have hL1 := tsliterals1_is HM.out.asc hyA.lf (by rw [HN.out]; omega) r (by omega)
              have hrow0 := empty_row wr 46
              generalize litOf (natInts m) r = A at *
              have hrowB := hrow0.ch (F := []) ((Ch.refl [] _).alloc (.cells #[.int .i64 A] 46)) (by simp)
              have hnewB : blk ((wr.alloc (.cells #[] 46)).alloc (.cells #[.int .i64 A] 46)) (wr.heap.size + 1) [.int .i64 A] := blk.new' _ _ (by simp)
              have HL1 := Lib.hid hL1; clear hL1
              have HROWB := Lib.hid hrowB; clear hrowB hrow0
              have HNEWB := Lib.hid hnewB; clear hnewB
              have HYS := Lib.hid hys; clear hyA hys
              have HSU := Lib.hid hsucc; clear hsucc
              have HCLS := Lib.hid hcls; clear hcls
              have HNO := Lib.hid hnO; clear hnO
              clear hrZ hr e1 h1 h0 hcA
              gi_wp2
              refine ⟨trivial, callsIn_wide.2 (HL1.out.mono ?_)⟩
              rintro e w' ⟨rfl, rfl⟩
              gi_wp2_with (gi_at_builtin; go_loud (refine wpListIn_append_rowI slLits rfl _ _ rfl (v := .slice (some ⟨wr.heap.size, 0, none⟩) 0 0) (n := 0) (xs := []) rfl HROWB.out (ad := ⟨wr.heap.size + 1, 0, none⟩) (m := 1) (c := 1) (news := [.int .i64 A]) rfl rfl (news_blk HNEWB.out) (by simp [Value.oneCell']) (by omega) (by omega) ?_; intro v' w4 hown4 hC4 hf4; obtain ⟨gb, gc, rfl⟩ := hown4.parts (by omega); have HO4 := Lib.hid hown4; clear hown4; have HC4 := Lib.hid hC4; clear hC4; have HF4 := Lib.hid hf4; clear hf4))
              have hr4 : row w4 46 1 (.slice (some ⟨gb, 0, none⟩) 1 gc) 1 (intCells [A]) := HO4.out
              have hgb : wr.heap.size ≤ gb := by
                rcases HF4.out gb rfl with e | e
                · cases e; exact Nat.le_refl _
                · simp at e; omega
              have hc4 : Ch [] wr w4 := (((Ch.refl [] wr).alloc _).alloc _).trans HC4.out (fun z hz => .inr (by simp [Value.ownBlock] at hz; omega))
              have hy4 := HYS.out.ch HI.out HX.out hc4
              have hgO : gb ∉ O ∧ gb ≠ B ∧ gb ≠ B + 1 := ⟨fun hin => by have := HI.out.lt _ _ _ HYS.out.i _ hin; omega, by have := HXB.out _ HYS.out.x; omega⟩
              have hY1 := HY.out ⟨(nodesCls G.nodes (natInts m) (natInts m).length).length + (rootsCls (natInts m) ((natInts l).take q)).length, some ⟨gb, 0, none⟩, 1, gc, _, fun z => w4.heap[z]?⟩ w4 ⟨O, [A], hy4.i, HCLS.out, rfl, (row.capLe' hr4).1, (row.capLe' hr4).2, Sl.of_ints hr4 (by omega), fun p hp => by cases hp; exact ⟨(hr4.lt gb rfl).2, hgO⟩, fun z hz => ⟨hy4.lt z hz, hy4.o z hz, hy4.nb z hz, rfl⟩⟩ hy4.x
              obtain ⟨fn, tmps, assign, body, hy1, hR⟩ := hY1
              simp only [ycEnc] at hy1
              have HY4 := Lib.hid hy4; clear hy4 hgO hc4 hgb hr4 HO4 HC4 HF4 HYS HCLS HROWB HNEWB HL1
              rw [hy1]
              gi_wp2
              refine hR.mono ?_
              rintro e W2 ⟨rfl, ⟨O', hi', hkp⟩, hx'⟩
              have hy2 := HY4.out.next hi' hx' hkp
              have e2 : (nodesCls G.nodes (natInts m) (natInts m).length).length + (rootsCls (natInts m) ((natInts l).take q)).length + 1 = (nodesCls G.nodes (natInts m) (natInts m).length).length + (rootsCls (natInts m) ((natInts l).take (q + 1))).length := by rw [HSU.out, List.length_append]; rfl
              rw [e2] at hy2
              have HY2 := Lib.hid hy2; clear hy2 hi' hkp hx' hR hy1 HY4 e2
              gi_wp2
              go_roundw
              case rel => exact ⟨q + 1, O', by omega, by go_num, HY2.out⟩
              case measure => simp [intOf]; omega
        · have hqk : q = k := by omega
          subst hqk
          have e1 : (natInts l).take q = natInts l := List.take_of_length_le (by rw [natInts_len, HK.out]; exact Nat.le_refl _)
          rw [e1] at hys
          have HYS := Lib.hid hys; clear hys e1
          gi_wp2
          go_end0
          exact ⟨⟨_, rfl⟩, ⟨O, by unfold clsOf; rw [List.length_append]; exact HYS.out.i⟩, HYS.out.x⟩
end
end Go.Proofs.Ytkedpifopclipaa
namespace Go.Proofs.Ytkedpifopclipaa
open Go.RowKit Go.Mem Go.Aig
theorem mapN_len {G : Gra} (hok : Ok G) (l : List Nat) : (mapN G.nodes l).length ≤ 65536 := by
  have h1 := rising_len (mapN_rising hok.wf (by have := hok.room; have := hok.most; omega) l)
  rw [natInts_len] at h1
  omega
theorem YK.books {B : Nat} {cls : List (List Int)} {I : Nat → List Nat → World → Prop} {x : YC} {A A' : World} (h : YK B cls I x A) (hc : Ch [B, B + 1] A A') (hI : ∀ O, I x.k O A → I x.k O A') : YK B cls I x A' := by
  obtain ⟨O, c, h1, h2, h3, h4, h5, h6, h7, h8⟩ := h
  refine ⟨O, c, hI O h1, h2, h3, h4, h5, h6.keep (fun q hq => ?_), fun p hp => ⟨Nat.lt_of_lt_of_le (h7 p hp).1 hc.size, (h7 p hp).2⟩, fun q hq => ⟨Nat.lt_of_lt_of_le (h8 q hq).1 hc.size, (h8 q hq).2.1, (h8 q hq).2.2.1, ?_⟩⟩
  · cases hx : x.ca with
    | none => rw [hx] at hq; simp [ablk] at hq
    | some p =>
      rw [hx] at hq
      simp only [ablk, List.mem_singleton] at hq
      obtain ⟨p1, _, p2, p3⟩ := h7 p hx
      rw [hq]
      exact hc.block _ p1 (by simp; omega)
  · obtain ⟨q1, q2, q3, q4⟩ := h8 q hq
    rw [← q4]
    exact hc.block q q1 (by simp; omega)
theorem YJ.books {B : Nat} {I : Nat → List Nat → World → Prop} {x : YC} {A A' : World} (h : YJ I x A) (hx : ∀ q ∈ x.L, q < A.heap.size ∧ q ≠ B ∧ q ≠ B + 1) (hc : Ch [B, B + 1] A A') (hI : ∀ O, I (x.k + 1) O A → I (x.k + 1) O A') : YJ I x A' := by
  obtain ⟨O, h1, h2⟩ := h
  refine ⟨O, hI O h1, fun q hq => ⟨?_, (h2 q hq).2⟩⟩
  rw [← (h2 q hq).1]
  exact hc.block q (hx q hq).1 (by have := hx q hq; simp; omega)
section
attribute [local go_sem] Oper.semAt_some
variable {w : World} {g : Nat} {G : Gra} {F : List Nat}
end
end Go.Proofs.Ytkedpifopclipaa
namespace Go.Proofs.Ytkedpifopclipaa
open Go.RowKit Go.Mem Go.Aig
theorem infoCls : (Try.prog.info? 137).map (fun i => (i.zero, i.size, i.bytes)) = some (some (.slice none 0 0), 1, 24) := by kernel_rfl
theorem slCls : SliceTy Try.prog 34 137 1 24 (.slice none 0 0) := ⟨Try.underlying34, infoCls, rfl, by decide⟩
/-- clauses in memory: their slices, apart from the blocks O -/
structure ClsIn (w : World) (O : List Nat) (es : List Value) (cls : List (List Int)) : Prop where
  len : es.length = cls.length
  each : ∀ (i : Nat) (c : List Int), cls[i]? = some c → ∃ a cc, es[i]? = some (.slice a c.length cc) ∧ c.length ≤ cc ∧ cc ≤ 9223372036854775807 ∧ Sl w a c ∧ ∀ p, a = some p → p.block < w.heap.size ∧ p.block ∉ O
theorem Sl.chO {w w' : World} {a : Option Addr} {l : List Int} {F : List Nat} (h : Sl w a l) (hc : Ch F w w') (ha : ∀ p, a = some p → p.block < w.heap.size ∧ p.block ∉ F) : Sl w' a l := h.keep (fun q hq => by
  cases a with
  | none => simp [ablk] at hq
  | some p =>
    simp only [ablk, List.mem_singleton] at hq
    rw [hq]
    exact hc.block _ (ha p rfl).1 (ha p rfl).2)
theorem ClsIn.ch {w w' : World} {O O' F : List Nat} {es : List Value} {cls : List (List Int)} (h : ClsIn w O es cls) (hc : Ch F w w') (hF : ∀ q ∈ F, q ∈ O ∨ w.heap.size ≤ q) (hO : ∀ q ∈ O', q ∈ O ∨ w.heap.size ≤ q) : ClsIn w' O' es cls :=
  ⟨h.len, fun i c hi => by
    obtain ⟨a, cc, h1, h2, h3, h4, h5⟩ := h.each i c hi
    refine ⟨a, cc, h1, h2, h3, h4.chO hc (fun p hp => ⟨(h5 p hp).1, fun hin => ?_⟩), fun p hp => ⟨Nat.lt_of_lt_of_le (h5 p hp).1 hc.size, fun hin => ?_⟩⟩
    · have := h5 p hp
      rcases hF _ hin with e | e
      · exact this.2 e
      · omega
    · have := h5 p hp
      rcases hO _ hin with e | e
      · exact this.2 e
      · omega⟩
theorem ClsIn.snoc {w : World} {O : List Nat} {es : List Value} {cls : List (List Int)} (h : ClsIn w O es cls) {a : Option Addr} {c : List Int} {cc : Nat} (h2 : c.length ≤ cc) (h3 : cc ≤ 9223372036854775807) (h4 : Sl w a c) (h5 : ∀ p, a = some p → p.block < w.heap.size ∧ p.block ∉ O) : ClsIn w O (es ++ [.slice a c.length cc]) (cls ++ [c]) :=
  ⟨by simp [h.len], fun i d hi => by
    by_cases hlt : i < cls.length
    · rw [List.getElem?_append_left hlt] at hi
      obtain ⟨a', cc', q1, q2⟩ := h.each i d hi
      exact ⟨a', cc', by rw [List.getElem?_append_left (by rw [h.len]; exact hlt)]; exact q1, q2⟩
    · have hlt2 := (List.getElem?_eq_some_iff.1 hi).1
      rw [List.length_append] at hlt2
      have hie : i = cls.length := by simp at hlt2; omega
      subst hie
      rw [List.getElem?_append_right (Nat.le_refl _), Nat.sub_self] at hi
      have hd : c = d := by simpa using hi
      subst hd
      exact ⟨a, cc, by rw [List.getElem?_append_right (by rw [h.len]; exact Nat.le_refl _), h.len, Nat.sub_self]; rfl, h2, h3, h4, h5⟩⟩
/-- what is known when Encode has taken k clauses -/
structure EnI (B bf bx vars : Nat) (cls : List (List Int)) (W0 : World) (k : Nat) (O : List Nat) (W : World) : Prop where
  ex : ∃ (v : Value) (es : List Value), O = bf :: bx :: v.ownBlock.toList ∧ bx < bf ∧ blk W bf [.int .i64 vars, v] ∧ row W 137 1 v k es ∧ ClsIn W (B :: (B + 1) :: O) es (cls.take k) ∧ ∀ q ∈ v.ownBlock.toList, B + 2 ≤ q
  ch : Ch [bf, B, B + 1] W0 W
theorem EnI.lt {B bf bx vars : Nat} {cls : List (List Int)} {W0 W : World} {k : Nat} {O : List Nat} (h : EnI B bf bx vars cls W0 k O W) : ∀ q ∈ O, q < W.heap.size := fun q hq => by
  obtain ⟨v, es, h1, h0, h2, h3, _⟩ := h.ex
  have hbl := h2.lt
  rw [h1, List.mem_cons, List.mem_cons] at hq
  rcases hq with rfl | rfl | hq
  · exact h2.lt
  · omega
  · exact (h3.lt q (by simpa using hq)).2
theorem EnI.yi {B bf bx vars : Nat} {cls : List (List Int)} {W0 : World} {Ks : List Nat} (hK : ∀ q ∈ Ks, q < B ∧ q ≠ bf ∧ q < W0.heap.size) : YI Ks W0 (EnI B bf bx vars cls W0) :=
  ⟨fun k O W h => h.lt,
    fun k O A A' h hc => by
      obtain ⟨v, es, h1, h0, h2, h3, h4, h5⟩ := h.ex
      exact ⟨⟨v, es, h1, h0, h2.ch hc (by simp), h3.ch hc (by simp), h4.ch hc (by simp) (fun q hq => .inl hq), h5⟩, h.ch.trans hc (by simp)⟩,
    fun k O W h q hq => h.ch.block q (hK q hq).2.2 (by have := hK q hq; simp; omega)⟩
theorem EnI.books {B bf bx vars : Nat} {cls : List (List Int)} {W0 A A' : World} {k : Nat} {O : List Nat} (hb : bf < B) (h : EnI B bf bx vars cls W0 k O A) (hc : Ch [B, B + 1] A A') : EnI B bf bx vars cls W0 k O A' := by
  obtain ⟨v, es, h1, h0, h2, h3, h4, h5⟩ := h.ex
  exact ⟨⟨v, es, h1, h0, h2.ch hc (by simp; omega), h3.ch hc (fun q hq => by have := h5 q (by simpa using hq); simp; omega), h4.ch hc (fun q hq => .inl (by simp only [List.mem_cons, List.not_mem_nil, or_false] at hq ⊢; omega)) (fun q hq => .inl hq), h5⟩, h.ch.trans hc (fun q hq => .inl (by simp only [List.mem_cons] at hq ⊢; exact .inr hq))⟩
theorem EnI.step {B bf bx vars : Nat} {cls : List (List Int)} {W0 W : World} {k : Nat} {va : Option Addr} {vc : Nat} {es : List Value} (h0 : bx < bf) (hb : bf < B) (hWl : B + 2 ≤ W.heap.size) (h2 : blk W bf [.int .i64 vars, .slice va k vc]) (h3 : row W 137 1 (.slice va k vc) k es)
    (h4 : ClsIn W (B :: (B + 1) :: bf :: bx :: (Value.slice va k vc).ownBlock.toList) es (cls.take k)) (h5 : ∀ q ∈ (Value.slice va k vc).ownBlock.toList, B + 2 ≤ q) (hch : Ch [bf, B, B + 1] W0 W) (hW0 : W0.heap.size = B) {c : List Int} (hc : cls[k]? = some c) {ca : Option Addr} {cc : Nat} (hcc : c.length ≤ cc) (hcm : cc ≤ 9223372036854775807)
    (hS : Sl W ca c) (hp : ∀ p, ca = some p → p.block < W.heap.size ∧ p.block ∉ bf :: bx :: (Value.slice va k vc).ownBlock.toList ∧ p.block ≠ B ∧ p.block ≠ B + 1) {o : Obj} {w4 W' : World} {gb gc : Nat} (hrow : row w4 137 1 (.slice (some ⟨gb, 0, none⟩) (k + 1) gc) (k + 1) (es ++ [.slice ca c.length cc]))
    (hC4 : Ch (Value.slice va k vc).ownBlock.toList (W.alloc o) w4) (hf4 : ∀ q, (Value.slice (some ⟨gb, 0, none⟩) (k + 1) gc).ownBlock = some q → (Value.slice va k vc).ownBlock = some q ∨ (W.alloc o).heap.size ≤ q) (hW : W' = w4.setCell ⟨bf, 1, none⟩ (.slice (some ⟨gb, 0, none⟩) (k + 1 : Nat) gc)) :
    EnI B bf bx vars cls W0 (k + 1) (bf :: bx :: [gb]) W' ∧ Ch (bf :: (Value.slice va k vc).ownBlock.toList) W W' ∧ (gb ∈ (Value.slice va k vc).ownBlock.toList ∨ W.heap.size ≤ gb) := by
  have hA : Ch (Value.slice va k vc).ownBlock.toList W w4 := ((Ch.refl (Value.slice va k vc).ownBlock.toList W).alloc o).trans hC4 (fun q hq => .inl hq)
  have hbl := h2.lt
  have hvlt : ∀ q ∈ (Value.slice va k vc).ownBlock.toList, q < W.heap.size := fun q hq => (h3.lt q (by simpa using hq)).2
  have hgb : gb ∈ (Value.slice va k vc).ownBlock.toList ∨ W.heap.size ≤ gb := by
    rcases hf4 gb rfl with e | e
    · exact .inl (by simp [e])
    · rw [World.size_alloc] at e; exact .inr (by omega)
  have hgB : B + 2 ≤ gb := by rcases hgb with e | e; exact h5 _ e; omega
  have hS1 : Ch [bf] w4 W' := by rw [hW]; exact (Ch.refl _ _).setCell (.inl (by simp)) _
  have hF : Ch (bf :: (Value.slice va k vc).ownBlock.toList) W W' := (hA.mono (by intro q hq; exact .inl (List.mem_cons_of_mem _ hq))).trans hS1 (fun q hq => .inl (by rw [List.mem_singleton.1 hq]; simp))
  have hbo : bf ∉ (Value.slice va k vc).ownBlock.toList := fun hin => by have := h5 _ hin; omega
  refine ⟨⟨⟨.slice (some ⟨gb, 0, none⟩) (k + 1 : Nat) gc, es ++ [.slice ca c.length cc], rfl, h0, ?_, ?_, ?_, ?_⟩, ?_⟩, hF, hgb⟩
  · rw [hW]
    exact (h2.ch hA hbo).set (i := 1) _
  · exact hrow.ch hS1 (fun q hq => by simp [Value.ownBlock] at hq; simp; omega)
  · have h6 := (h4.ch (O' := B :: (B + 1) :: bf :: bx :: [gb]) hF (fun q hq => .inl (by
      simp only [List.mem_cons] at hq ⊢
      rcases hq with e | e
      · exact .inr (.inr (.inl e))
      · exact .inr (.inr (.inr (.inr e))))) (fun q hq => by
      simp only [List.mem_cons, List.not_mem_nil, or_false] at hq ⊢
      rcases hq with e | e | e | e | e
      · exact .inl (.inl e)
      · exact .inl (.inr (.inl e))
      · exact .inl (.inr (.inr (.inl e)))
      · exact .inl (.inr (.inr (.inr (.inl e))))
      · subst e
        rcases hgb with e | e
        · exact .inl (.inr (.inr (.inr (.inr e))))
        · exact .inr e)).snoc (a := ca) (c := c) (cc := cc) hcc hcm (hS.chO hF (fun p hpe => ⟨(hp p hpe).1, fun hin => (hp p hpe).2.1 (by
          simp only [List.mem_cons] at hin ⊢
          rcases hin with e | e
          · exact .inl e
          · exact .inr (.inr e))⟩)) (fun p hpe => ⟨Nat.lt_of_lt_of_le (hp p hpe).1 hF.size, fun hin => by
        obtain ⟨q1, q2, q3, q4⟩ := hp p hpe
        simp only [List.mem_cons, List.not_mem_nil, or_false, not_or] at hin q2
        rcases hin with e | e | e | e | e
        · exact q3 e
        · exact q4 e
        · exact q2.1 e
        · exact q2.2.1 e
        · rcases hgb with e2 | e2
          · exact q2.2.2 (by rw [e]; exact e2)
          · omega⟩)
    rw [List.take_add_one, hc]
    exact h6
  · intro q hq
    simp [Value.ownBlock] at hq
    omega
  · refine hch.trans hF (fun q hq => ?_)
    simp only [List.mem_cons, List.not_mem_nil, or_false] at hq ⊢
    rcases hq with e | e
    · exact .inl (.inl e)
    · have := h5 q e
      exact .inr (by omega)
/-- a new formula in memory -/
structure ForIn (w w' : World) (v : Value) (cls : List (List Int)) : Prop where
  ex : ∃ es, row w' 137 1 v cls.length es ∧ ClsIn w' [] es cls
  own : ∀ q ∈ v.ownBlock.toList, w.heap.size ≤ q
section
attribute [local go_sem] Oper.semAt_some
variable {w : World} {g : Nat} {G : Gra} {F : List Nat}
set_option maxRecDepth 100000 in
set_option maxHeartbeats 4000000 in
theorem tsEncode_yes (h : GIn w g G F) {a : Option Addr} {l : List Nat} (n c : Nat) (hn : l.length = n) (hn6 : n ≤ 65536) (hl : Sl w a (natInts l)) (halt : ∀ p, a = some p → p.block < w.heap.size) (hr : ∀ r ∈ l, r < 2 * G.nodes.length)
    (most : Int) (hm0 : 0 ≤ most) (hm1 : most ≤ 1048576) (hm2 : ((mapN G.nodes l).length : Int) ≤ most) :
    Calls Try.prog 17 #[.pointer (some ⟨g, 0, none⟩), .slice a n c, .int .i64 most] w fun e w' => ∃ cv mv, e = .returned (.tuple #[.agg #[.int .i64 (mapN G.nodes l).length, cv], mv, .int .i64 0]) ∧ ForIn w w' cv (clsOf G.nodes (natInts (mapN G.nodes l)) (natInts l)) ∧
      row w' 3 1 mv (mapN G.nodes l).length (intCells (natInts (mapN G.nodes l))) ∧ (∀ q ∈ mv.ownBlock.toList, w.heap.size ≤ q) ∧ Ch [] w w' := by
  have hM := fun (W : World) (hc : Ch [] w W) => tsmapped_yes (h.same hc (by simp)) n c hn (hl.ch hc (by simp)) (fun p hp => Nat.lt_of_lt_of_le (halt p hp) hc.size) hr
  have hok := mapN_ok h.ok.wf l
  have hml := mapN_len h.ok l
  have hcl := clsOf_len G.nodes (natInts (mapN G.nodes l)) (natInts l)
  rw [natInts_len, natInts_len, hn] at hcl
  have hFl := h.lt
  have d1 : decide (most < 0) = false := decide_eq_false (by omega)
  have d2 : decide (1048576 < most) = false := decide_eq_false (by omega)
  have d3 : decide (most < ((mapN G.nodes l).length : Int)) = false := decide_eq_false (by omega)
  generalize mapN G.nodes l = m at *
  obtain ⟨cls, hcls⟩ : ∃ cls, clsOf G.nodes (natInts m) (natInts l) = cls := ⟨_, rfl⟩
  rw [hcls] at hcl ⊢
  have HM := Lib.hid hM; clear hM
  have HOK := Lib.hid hok; clear hok
  have H := Lib.hid h; clear h
  have HL := Lib.hid hl; clear hl
  have HR := Lib.hid hr; clear hr
  have HFL := Lib.hid hFl; clear hFl
  have HCL := Lib.hid hcls; clear hcls
  have HLN := Lib.hid hn; clear hn
  have HALT := Lib.hid halt; clear halt
  refine callsIn_wide (n := 4) |>.1 ?_
  refine callsIn_of_wp_marks Try.func17 rfl trivial ?_ rfl
  simp only [Try.ntmps17, List.size_toArray, List.length_cons, List.length_nil, Nat.reduceAdd, Nat.reduceSub, Array.replicate_succ, Array.replicate_zero, List.push_toArray, List.append_toArray, List.nil_append, List.cons_append]
  refine wpIn_wide.2 ?_
  go_wp2_with fail
  refine calls_named fun W1 hW1 => ?_
  have hbx := alw_blk (xs := [.int .i64 0, .slice none 0 0]) hW1
  have hc01 := alw_ch hW1
  clear hW1
  refine (HM.out W1 hc01).mono ?_
  rintro e w1 ⟨v, rfl, hrow, hv, hc1⟩
  obtain ⟨ma, mc, rfl⟩ := row.shape hrow
  have hz0 : w.heap.size < W1.heap.size := hbx.lt
  have hbx := hbx.ch hc1 (by simp)
  have hbx1 : w.heap.size < w1.heap.size := hbx.lt
  have hc1 := hc01.trans hc1 (by simp)
  generalize hbxE : w.heap.size = bx at *
  have HBX := Lib.hid hbx; clear hbx
  have HC1 := Lib.hid hc1; clear hc1 hc01 HM
  have HROW := Lib.hid hrow; clear hrow
  have HV := Lib.hid hv; clear hv
  go_upto_region 9 with fail
  refine wp_alw ?_
  intro W2 hW2
  have hb9 := alw_blk (xs := [.int .i64 m.length, .slice none 0 0]) hW2
  have hc2 := HC1.out.trans (alw_ch hW2) (by simp)
  have hbx2 := HBX.out.ch (alw_ch hW2) (by simp)
  have hrow2 := HROW.out.ch (alw_ch hW2) (by simp)
  have hvlt : ∀ q ∈ (Value.slice ma m.length mc).ownBlock.toList, bx < q ∧ q < w1.heap.size := fun q hq => ⟨by have := HV.out q hq; omega, (HROW.out.lt q (by simpa using hq)).2⟩
  clear hW2 HROW HC1 HBX HV
  generalize w1.heap.size = bn at *
  have HB9 := Lib.hid hb9; clear hb9
  have HC2 := Lib.hid hc2; clear hc2
  have HROW := Lib.hid hrow2; clear hrow2
  have HBX := Lib.hid hbx2; clear hbx2
  have HVLT := Lib.hid hvlt; clear hvlt
  go_wp2_with fail
  refine (tswritten_is W2 g ma a m.length mc n c).mono ?_
  rintro e W3 ⟨rfl, hc3, hbg, hbm, hbr, hz3⟩
  have hb9 := HB9.out.ch hc3 (by simp)
  have hbx3 := HBX.out.ch hc3 (by simp)
  have hrow3 := HROW.out.ch hc3 (by simp)
  have hc4 := HC2.out.trans hc3 (by simp)
  have hz2 : bn < W2.heap.size := HB9.out.lt
  clear HB9 HROW HC2 hc3 HBX
  generalize W2.heap.size = b2 at *
  obtain ⟨B, hB⟩ : ∃ B, W3.heap.size = B := ⟨_, rfl⟩
  have hgin := H.out.same hc4 (by simp)
  have hsl := HL.out.ch hc4 (by simp)
  have hKs : ∀ q ∈ (b2 :: (b2 + 1) :: (b2 + 2) :: (F ++ ((Value.slice ma m.length mc).ownBlock.toList ++ ablk a))), q < B ∧ q ≠ bn ∧ q < W3.heap.size := fun q hq => by
    simp only [List.mem_cons, List.mem_append] at hq
    rcases hq with rfl | rfl | rfl | hq | hq | hq
    · omega
    · omega
    · omega
    · have := HFL.out q hq; omega
    · have := HVLT.out q hq; omega
    · cases ha : a with
      | none => rw [ha] at hq; simp [ablk] at hq
      | some p =>
        rw [ha] at hq
        simp only [ablk, List.mem_singleton] at hq
        have := HALT.out p ha
        omega
  have hI : YI (b2 :: (b2 + 1) :: (b2 + 2) :: (F ++ ((Value.slice ma m.length mc).ownBlock.toList ++ ablk a))) W3 (EnI B bn bx m.length cls W3) := EnI.yi hKs
  have hseq := fun (N : Nat) (hN : 1 ≤ N) => written1_seq hgin HOK.out HR.out (ma := ma) (ra := a) m.length mc n c rfl HLN.out hn6 hbg hbm hbr (Km := (Value.slice ma m.length mc).ownBlock.toList) (Kr := ablk a) (fun W hW => Sl.of_ints (hrow3.keep (fun k hk => hW k (by simpa using hk))) (by omega)) (fun W hW => hsl.keep hW) hI N hN B
  rw [HCL.out] at hseq
  have hI0 : EnI B bn bx m.length cls W3 0 [bn, bx] W3 := ⟨⟨.slice none 0 0, [], rfl, by omega, hb9, ⟨rfl, .inl ⟨rfl, rfl⟩⟩, ⟨rfl, by simp⟩, by simp [Value.ownBlock]⟩, Ch.refl _ _⟩
  have hbB : bn < B := by omega
  have HSEQ := Lib.hid hseq; clear hseq
  have HI := Lib.hid hI; clear hI
  have HC4 := Lib.hid hc4; clear hc4
  have HROW := Lib.hid hrow3; clear hrow3
  have HBX := Lib.hid hbx3; clear hbx3
  clear hgin hsl hKs hb9 hbg hbm hbr
  go_wp2_with fail
  refine (wpIn_wide (n := 4)).1 ?_
  refine wpIn_rangeFunc_Q (n := 4) B hB rfl (by omega) rfl trivial (fun args w => fnvtswritten1 args w) (encs := ycEnc) (fun _ => rfl)
    (fun W => ∃ O, EnI B bn bx m.length cls W3 0 O W) (fun x W => (∀ q ∈ x.L, q < W.heap.size ∧ q ≠ B ∧ q ≠ B + 1) ∧ YK B cls (EnI B bn bx m.length cls W3) x W) (fun x W => (∀ q ∈ x.L, q < W.heap.size ∧ q ≠ B ∧ q ≠ B + 1) ∧ YJ (EnI B bn bx m.length cls W3) x W) (fun W => ∃ O, EnI B bn bx m.length cls W3 cls.length O W) ?seq ?j0 ?k ?j ?d ⟨_, hI0⟩ ?a1 ?assign ?body ?done
  case assign =>
    intro q x W K hK
    simp only [ycEnc]
    gi_wp2
    exact hK
  case j0 =>
    rintro A A' ⟨O, h⟩ hc
    exact ⟨O, h.books hbB hc⟩
  case k =>
    rintro x A A' ⟨h0, h⟩ hc
    exact ⟨fun q hq => ⟨Nat.lt_of_lt_of_le (h0 q hq).1 hc.size, (h0 q hq).2⟩, h.books hc (fun O hO => hO.books hbB hc)⟩
  case j =>
    rintro x A A' ⟨h0, h⟩ hc
    exact ⟨fun q hq => ⟨Nat.lt_of_lt_of_le (h0 q hq).1 hc.size, (h0 q hq).2⟩, h.books h0 hc (fun O hO => hO.books hbB hc)⟩
  case d =>
    rintro A A' ⟨O, h⟩ hc
    exact ⟨O, h.books hbB hc⟩
  case seq =>
    rintro lp X hX hXB hY W ⟨O, hi⟩ hXW
    refine HSEQ.out 3 (by omega) lp X hX hXB (fun x W hk hx => (hY x W ⟨?_, hk⟩ hx).mono ?_) W O hi hXW
    · obtain ⟨O, c, _, _, _, _, _, _, _, h8⟩ := hk
      exact fun q hq => ⟨(h8 q hq).1, (h8 q hq).2.2.1⟩
    · rintro e W' ⟨h1, ⟨_, h2⟩, h3⟩
      exact ⟨h1, h2, h3⟩
  case body =>
    rintro lp ⟨xk, xa, xn, xc, xL, xh⟩ W ⟨hxl, O, cl, hi, hcx, h3, h4, h5, h6, h7, h8⟩ hWl
    simp only at hxl hcx h3 h4 h5 h6 h7 h8 hi
    have hkl := (List.getElem?_eq_some_iff.1 hcx).1
    obtain ⟨⟨v, es, rfl, hbxn, hb, hrow, hcl4, hown⟩, hch⟩ := hi
    obtain ⟨va, vc, rfl⟩ := row.shape hrow
    have c1 := hb.cell (i := 1) rfl
    have hcA : Ch [] W (W.alloc (.cells #[.slice xa xn xc] 137)) := (Ch.refl _ _).alloc _
    have hrowA := hrow.ch hcA (by simp)
    have hnewA : blk (W.alloc (.cells #[.slice xa xn xc] 137)) W.heap.size [.slice xa xn xc] := blk.new' _ _ rfl
    have hbA := hb.ch hcA (by simp)
    have hno : bn ∉ (Value.slice va xk vc).ownBlock.toList := fun hin => by have := hown _ hin; omega
    subst h3
    have hkb : xk ≤ 1000000 := by omega
    have HFIN := Lib.hid (fun (w4 : World) (gb gc : Nat) hr4 hC4 hf4 => EnI.step (vars := m.length) (W' := w4.setCell ⟨bn, 1, none⟩ (.slice (some ⟨gb, 0, none⟩) (xk + 1 : Nat) gc)) (gb := gb) (gc := gc) (o := .cells #[.slice xa cl.length xc] 137) hbxn hbB hWl hb hrow hcl4 hown hch hB hcx h4 h5 h6 h7 hr4 hC4 hf4 rfl)
    have HROWA := Lib.hid hrowA; clear hrowA
    have HNEWA := Lib.hid hnewA; clear hnewA
    have HBA := Lib.hid hbA; clear hbA
    have HNO := Lib.hid hno; clear hno
    have HOWN := Lib.hid hown
    have H8 := Lib.hid h8; clear h8
    have HXL := Lib.hid hxl; clear hxl
    have HVL := Lib.hid (fun q (hq : q ∈ (Value.slice va xk vc).ownBlock.toList) => (hrow.lt q (by simpa using hq)).2)
    clear hcx h4 h5 h6 h7 hb hrow hcl4 hown hch hcA
    gi_wp2_with (gi_at_builtin; go_loud (refine wpListIn_append_rowI slCls rfl _ _ rfl (v := .slice va xk vc) (n := xk) (xs := es) rfl HROWA.out (ad := ⟨W.heap.size, 0, none⟩) (m := 1) (c := 1) (news := [.slice xa cl.length xc]) rfl rfl (news_blk HNEWA.out) (by simp [Value.oneCell']) (by omega) (by omega) ?_; intro v' w4 hown4 hC4 hf4; obtain ⟨gb, gc, rfl⟩ := hown4.parts (by omega); have hb4 := HBA.out.ch hC4 HNO.out; have k1 := hb4.cell (i := 1) rfl; have k2 := hb4.frozen (i := 1); have HO4 := Lib.hid hown4; clear hown4; have HC4' := Lib.hid hC4; clear hC4; have HF4 := Lib.hid hf4; clear hf4; clear hb4))
    obtain ⟨q1, q2, q3⟩ := HFIN.out w4 gb gc HO4.out HC4'.out HF4.out
    have hbs : Ch [bn] w4 (w4.setCell ⟨bn, 1, none⟩ (.slice (some ⟨gb, 0, none⟩) (xk + 1 : Nat) gc)) := (Ch.refl _ _).setCell (.inl (by simp)) _
    refine ⟨Books.of_ch q2 hWl (fun q hq => ?_), fun q hq => ⟨by have := q2.size; have := (HXL.out q hq).1; simp at *; omega, (HXL.out q hq).2⟩, _, q1, fun q hq => ⟨(q2.block q (H8.out q hq).1 (fun hin => (H8.out q hq).2.1 ?_)).trans (H8.out q hq).2.2.2, fun hin => ?_⟩⟩
    · simp only [List.mem_cons] at hq
      rcases hq with e | hq
      · omega
      · have := HOWN.out q hq; omega
    · simp only [List.mem_cons] at hin ⊢
      rcases hin with e | e
      · exact .inl e
      · exact .inr (.inr e)
    · have h9 := H8.out q hq
      simp only [List.mem_cons, List.not_mem_nil, or_false, not_or] at hin h9
      rcases hin with e | e | e
      · exact h9.2.1.1 e
      · exact h9.2.1.2.1 e
      · rcases q3 with e2 | e2
        · exact h9.2.1.2.2 (by rw [e]; exact e2)
        · omega
  case done =>
    rintro W ⟨O, ⟨⟨v, es, rfl, hbxn, hb, hrow, hcl4, hown⟩, hch⟩⟩ hK hWl
    rw [List.take_of_length_le (Nat.le_refl _)] at hcl4
    obtain ⟨va, vc, rfl⟩ := row.shape hrow
    have c0 := hb.cell (i := 0) rfl
    have c1 := hb.cell (i := 1) rfl
    have hbxW := HBX.out.ch hch (by simp; omega)
    have z0 := hbxW.cell (i := 0) rfl
    have z1 := hbxW.cell (i := 1) rfl
    have f0 := hbxW.frozen (i := 0)
    have f1 := hbxW.frozen (i := 1)
    have HBW := Lib.hid hbxW; clear hbxW hb
    have HROWC := Lib.hid hrow; clear hrow
    have HCL4 := Lib.hid hcl4; clear hcl4
    have HOWN := Lib.hid hown; clear hown
    have HCH := Lib.hid hch; clear hch
    have HK := Lib.hid hK; clear hK
    go_wp2_with fail
    obtain ⟨Wf, hWf⟩ : ∃ Wf, Wf = (W.setCell ⟨bx, 0, none⟩ (.int .i64 m.length)).setCell ⟨bx, 1, none⟩ (.slice va cls.length vc) := ⟨_, rfl⟩
    rw [← hWf]
    have hcf : Ch [bx] W Wf := by rw [hWf]; exact ((Ch.refl _ _).setCell (.inl (by simp)) _).setCell (.inl (by simp)) _
    have hbf : blk Wf bx [.int .i64 m.length, .slice va cls.length vc] := by rw [hWf]; exact (HBW.out.set (i := 0) _).set (i := 1) _
    have hKf := (hcf.block B (by omega) (by simp; omega)).trans HK.out
    clear hWf
    refine ⟨by simp, .inl ⟨_, _, rfl, run_takeDeferred hKf, ?_⟩⟩
    obtain ⟨WF, hWF⟩ : ∃ WF, WF = Wf.putObj B (Obj.deferred none) := ⟨_, rfl⟩
    rw [← hWF]
    have hcp : Ch [B] Wf WF := by rw [hWF]; exact ch_put (by simp)
    have hbF := hbf.ch hcp (by simp; omega)
    have y0 := hbF.cell (i := 0) rfl
    have y1 := hbF.cell (i := 1) rfl
    have hcc : Ch [bx, B] W WF := (hcf.mono (by simp)).trans hcp (fun q hq => .inl (by simp at hq; simp [hq]))
    refine ⟨.tuple #[.agg #[.int .i64 m.length, .slice va cls.length vc], .slice ma m.length mc, .int .i64 0], by simp [results, Try.results17, go_sem, y0, y1], ?_⟩
    refine ⟨_, _, rfl, ⟨⟨es, HROWC.out.ch hcc (fun q hq => by have := HOWN.out q (by simpa using hq); simp; omega), HCL4.out.ch hcc (fun q hq => .inl (by simp only [List.mem_cons, List.not_mem_nil, or_false] at hq ⊢; rcases hq with e | e; exact .inr (.inr (.inr (.inl e))); exact .inl e)) (by simp)⟩, fun q hq => by have := HOWN.out q hq; omega⟩,
      (HROW.out.ch HCH.out (fun q hq => by have := HVLT.out q (by simpa using hq); simp; omega)).ch hcc (fun q hq => by have := HVLT.out q (by simpa using hq); simp; omega), fun q hq => (by rw [hbxE]; exact Nat.le_of_lt (HVLT.out q hq).1), ?_⟩
    exact (HC4.out.trans HCH.out (fun q hq => .inr (by have := HC4.out.size; simp only [List.mem_cons, List.not_mem_nil, or_false] at hq; omega))).trans hcc (fun q hq => .inr (by have e9 := hbxE; have e8 := HC4.out.size; simp only [List.mem_cons, List.not_mem_nil, or_false] at hq; omega))
end
end Go.Proofs.Ytkedpifopclipaa
namespace Go.Proofs.Ytkedpifopclipaa
open Go.RowKit Go.Mem Go.Aig
section
variable {w : World}
set_option maxRecDepth 100000 in
set_option maxHeartbeats 1000000 in
theorem EQmap_is {a b : Option Addr} {xs ys : List Int} (ca cb : Nat) (hx : Sl w a xs) (hy : Sl w b ys) :
    Calls Try.prog 19 #[.slice a xs.length ca, .slice b ys.length cb] w fun e w' => e = .returned (.bool (decide (xs = ys))) ∧ Ch [] w w' := by
  have hbx := hx.bd
  have hby := hy.bd
  have HX := Lib.hid hx; clear hx
  have HY := Lib.hid hy; clear hy
  by_cases hl : xs.length = ys.length
  · have hne : ((xs.length : Int) != (ys.length : Int)) = false := by simp [hl]
    generalize hd : decide (xs = ys) = d
    have HD := Lib.hid hd; clear hd
    have HL := Lib.hid hl; clear hl
    go_enter Try.func19, Try.ntmps19
    go_wp2_with fail
    go_loopw [13] (fun i wr => ∃ k : Nat, k ≤ xs.length ∧ i = .int .i64 k ∧ xs.take k = ys.take k ∧ Ch [] w wr) (fun i _ => xs.length - (intOf i).toNat)
    case atStart => exact ⟨0, Nat.zero_le _, rfl, rfl, Ch.refl _ _⟩
    case round =>
      obtain ⟨k, hk, rfl, ht, hc⟩ := hrel
      have HT := Lib.hid ht; clear ht
      by_cases hlt : k < xs.length
      · have hlt2 : k < ys.length := by have := HL.out; omega
        have hxk : xs[k]? = some xs[k] := List.getElem?_eq_getElem hlt
        have hyk : ys[k]? = some ys[k] := List.getElem?_eq_getElem hlt2
        obtain ⟨b1, o1, rfl, c1⟩ := (HX.out.ch hc (by simp)).cells k _ hxk
        obtain ⟨b2, o2, rfl, c2⟩ := (HY.out.ch hc (by simp)).cells k _ hyk
        generalize xs[k] = x at *
        generalize ys[k] = y at *
        have HXK := Lib.hid hxk; clear hxk
        have HYK := Lib.hid hyk; clear hyk
        have HC := Lib.hid hc; clear hc
        by_cases hxy : x = y
        · have hb : (x != y) = false := by simp [hxy]
          have HE := Lib.hid hxy; clear hxy
          go_wp2_with fail
          refine Ord.St.door (fun _ => True) [.fl, .fl, .fl, .rd, .fl, .fl, .fl, .rd, .fl] [0, 0, 3, 7, 0, 0, 48, 112, 255] [0, 1, 2, 3, 4, 5, 6, 7, 8] mixed (by kernel_rfl) rfl ?_
          refine Ord.St.fl2 (T' := ?_) 0 [1, 2, 3, 4, 5, 6, 7, 8] _ _ rfl (by kernel_rfl) rfl rfl rfl rfl (fun K w' hk => ?_) ?_
          rotate_left
          · go_step; exact hk
          refine Ord.St.fl2 (T' := ?_) 1 [2, 3, 4, 5, 6, 7, 8] _ _ rfl (by kernel_rfl) rfl rfl rfl rfl (fun K w' hk => ?_) ?_
          rotate_left
          · go_step; exact hk
          refine Ord.St.fl2 (T' := ?_) 2 [3, 4, 5, 6, 7, 8] _ _ rfl (by kernel_rfl) rfl rfl rfl rfl (fun K w' hk => ?_) ?_
          rotate_left
          · go_step; exact hk
          refine Ord.St.rd2 (T' := ?_) 3 [4, 5, 6, 7, 8] _ _ rfl (by kernel_rfl) rfl rfl rfl rfl (fun K hk => ?_) ?_
          rotate_left
          · go_step; exact hk
          refine Ord.St.fl2 (T' := ?_) 4 [5, 6, 7, 8] _ _ rfl (by kernel_rfl) rfl rfl rfl rfl (fun K w' hk => ?_) ?_
          rotate_left
          · go_step; exact hk
          refine Ord.St.fl2 (T' := ?_) 5 [6, 7, 8] _ _ rfl (by kernel_rfl) rfl rfl rfl rfl (fun K w' hk => ?_) ?_
          rotate_left
          · go_step; exact hk
          refine Ord.St.fl2 (T' := ?_) 6 [7, 8] _ _ rfl (by kernel_rfl) rfl rfl rfl rfl (fun K w' hk => ?_) ?_
          rotate_left
          · go_step; exact hk
          refine Ord.St.rd2 (T' := ?_) 7 [8] _ _ rfl (by kernel_rfl) rfl rfl rfl rfl (fun K hk => ?_) ?_
          rotate_left
          · go_step; exact hk
          refine Ord.St.fl2 (T' := ?_) 8 [] _ _ rfl (by kernel_rfl) rfl rfl rfl rfl (fun K w' hk => ?_) ?_
          rotate_left
          · go_step; exact hk
          refine Ord.St.nil ?_
          go_wp2_with fail
          go_roundw
          case rel => exact ⟨k + 1, by omega, by go_num, take_eq_succ HT.out HXK.out HYK.out HE.out, HC.out.drew⟩
          case measure => simp [intOf]; omega
        · have hb : (x != y) = true := by simp [hxy]
          have hdf : d = false := by
            rw [← HD.out]
            refine decide_eq_false fun e => hxy ?_
            have h1 := HXK.out
            rw [e, HYK.out] at h1
            cases h1; rfl
          have HDF := Lib.hid hdf; clear hdf
          clear hxy
          go_wp2_with fail
          refine Ord.St.door (fun _ => True) [.fl, .fl, .fl, .rd, .fl, .fl, .fl, .rd, .fl] [0, 0, 3, 7, 0, 0, 48, 112, 255] [0, 1, 2, 3, 4, 5, 6, 7, 8] mixed (by kernel_rfl) rfl ?_
          refine Ord.St.fl2 (T' := ?_) 0 [1, 2, 3, 4, 5, 6, 7, 8] _ _ rfl (by kernel_rfl) rfl rfl rfl rfl (fun K w' hk => ?_) ?_
          rotate_left
          · go_step; exact hk
          refine Ord.St.fl2 (T' := ?_) 1 [2, 3, 4, 5, 6, 7, 8] _ _ rfl (by kernel_rfl) rfl rfl rfl rfl (fun K w' hk => ?_) ?_
          rotate_left
          · go_step; exact hk
          refine Ord.St.fl2 (T' := ?_) 2 [3, 4, 5, 6, 7, 8] _ _ rfl (by kernel_rfl) rfl rfl rfl rfl (fun K w' hk => ?_) ?_
          rotate_left
          · go_step; exact hk
          refine Ord.St.rd2 (T' := ?_) 3 [4, 5, 6, 7, 8] _ _ rfl (by kernel_rfl) rfl rfl rfl rfl (fun K hk => ?_) ?_
          rotate_left
          · go_step; exact hk
          refine Ord.St.fl2 (T' := ?_) 4 [5, 6, 7, 8] _ _ rfl (by kernel_rfl) rfl rfl rfl rfl (fun K w' hk => ?_) ?_
          rotate_left
          · go_step; exact hk
          refine Ord.St.fl2 (T' := ?_) 5 [6, 7, 8] _ _ rfl (by kernel_rfl) rfl rfl rfl rfl (fun K w' hk => ?_) ?_
          rotate_left
          · go_step; exact hk
          refine Ord.St.fl2 (T' := ?_) 6 [7, 8] _ _ rfl (by kernel_rfl) rfl rfl rfl rfl (fun K w' hk => ?_) ?_
          rotate_left
          · go_step; exact hk
          refine Ord.St.rd2 (T' := ?_) 7 [8] _ _ rfl (by kernel_rfl) rfl rfl rfl rfl (fun K hk => ?_) ?_
          rotate_left
          · go_step; exact hk
          refine Ord.St.fl2 (T' := ?_) 8 [] _ _ rfl (by kernel_rfl) rfl rfl rfl rfl (fun K w' hk => ?_) ?_
          rotate_left
          · go_step; exact hk
          refine Ord.St.nil ?_
          go_wp2_with fail
          go_ret
          rw [HDF.out]
          exact ⟨rfl, HC.out.drew⟩
      · have hdt : d = true := by
          rw [← HD.out]
          have h1 := HT.out
          rw [List.take_of_length_le (by omega), List.take_of_length_le (by have := HL.out; omega)] at h1
          exact decide_eq_true h1
        have HDT := Lib.hid hdt; clear hdt
        have HC := Lib.hid hc; clear hc
        go_wp2_with fail
        go_ret
        rw [HDT.out]
        exact ⟨rfl, HC.out⟩
  · have hne : ((xs.length : Int) != (ys.length : Int)) = true := by rw [bne_iff_ne]; omega
    have hd : decide (xs = ys) = false := decide_eq_false fun e => hl (by rw [e])
    rw [hd]
    clear hd
    go_enter Try.func19, Try.ntmps19
    go_wp2_with fail
    go_ret
    exact ⟨rfl, Ch.refl _ _⟩
set_option maxRecDepth 100000 in
set_option maxHeartbeats 1000000 in
theorem EQcls_is {a b : Option Addr} {xs ys : List Int} (ca cb : Nat) (hx : Sl w a xs) (hy : Sl w b ys) :
    Calls Try.prog 79 #[.slice a xs.length ca, .slice b ys.length cb] w fun e w' => e = .returned (.bool (decide (xs = ys))) ∧ Ch [] w w' := by
  have hbx := hx.bd
  have hby := hy.bd
  have HX := Lib.hid hx; clear hx
  have HY := Lib.hid hy; clear hy
  by_cases hl : xs.length = ys.length
  · have hne : ((xs.length : Int) != (ys.length : Int)) = false := by simp [hl]
    generalize hd : decide (xs = ys) = d
    have HD := Lib.hid hd; clear hd
    have HL := Lib.hid hl; clear hl
    go_enter Try.func79, Try.ntmps79
    go_wp2_with fail
    go_loopw [13] (fun i wr => ∃ k : Nat, k ≤ xs.length ∧ i = .int .i64 k ∧ xs.take k = ys.take k ∧ Ch [] w wr) (fun i _ => xs.length - (intOf i).toNat)
    case atStart => exact ⟨0, Nat.zero_le _, rfl, rfl, Ch.refl _ _⟩
    case round =>
      obtain ⟨k, hk, rfl, ht, hc⟩ := hrel
      have HT := Lib.hid ht; clear ht
      by_cases hlt : k < xs.length
      · have hlt2 : k < ys.length := by have := HL.out; omega
        have hxk : xs[k]? = some xs[k] := List.getElem?_eq_getElem hlt
        have hyk : ys[k]? = some ys[k] := List.getElem?_eq_getElem hlt2
        obtain ⟨b1, o1, rfl, c1⟩ := (HX.out.ch hc (by simp)).cells k _ hxk
        obtain ⟨b2, o2, rfl, c2⟩ := (HY.out.ch hc (by simp)).cells k _ hyk
        generalize xs[k] = x at *
        generalize ys[k] = y at *
        have HXK := Lib.hid hxk; clear hxk
        have HYK := Lib.hid hyk; clear hyk
        have HC := Lib.hid hc; clear hc
        by_cases hxy : x = y
        · have hb : (x != y) = false := by simp [hxy]
          have HE := Lib.hid hxy; clear hxy
          go_wp2_with fail
          refine Ord.St.door (fun _ => True) [.fl, .fl, .fl, .rd, .fl, .fl, .fl, .rd, .fl] [0, 0, 3, 7, 0, 0, 48, 112, 255] [0, 1, 2, 3, 4, 5, 6, 7, 8] mixed (by kernel_rfl) rfl ?_
          refine Ord.St.fl2 (T' := ?_) 0 [1, 2, 3, 4, 5, 6, 7, 8] _ _ rfl (by kernel_rfl) rfl rfl rfl rfl (fun K w' hk => ?_) ?_
          rotate_left
          · go_step; exact hk
          refine Ord.St.fl2 (T' := ?_) 1 [2, 3, 4, 5, 6, 7, 8] _ _ rfl (by kernel_rfl) rfl rfl rfl rfl (fun K w' hk => ?_) ?_
          rotate_left
          · go_step; exact hk
          refine Ord.St.fl2 (T' := ?_) 2 [3, 4, 5, 6, 7, 8] _ _ rfl (by kernel_rfl) rfl rfl rfl rfl (fun K w' hk => ?_) ?_
          rotate_left
          · go_step; exact hk
          refine Ord.St.rd2 (T' := ?_) 3 [4, 5, 6, 7, 8] _ _ rfl (by kernel_rfl) rfl rfl rfl rfl (fun K hk => ?_) ?_
          rotate_left
          · go_step; exact hk
          refine Ord.St.fl2 (T' := ?_) 4 [5, 6, 7, 8] _ _ rfl (by kernel_rfl) rfl rfl rfl rfl (fun K w' hk => ?_) ?_
          rotate_left
          · go_step; exact hk
          refine Ord.St.fl2 (T' := ?_) 5 [6, 7, 8] _ _ rfl (by kernel_rfl) rfl rfl rfl rfl (fun K w' hk => ?_) ?_
          rotate_left
          · go_step; exact hk
          refine Ord.St.fl2 (T' := ?_) 6 [7, 8] _ _ rfl (by kernel_rfl) rfl rfl rfl rfl (fun K w' hk => ?_) ?_
          rotate_left
          · go_step; exact hk
          refine Ord.St.rd2 (T' := ?_) 7 [8] _ _ rfl (by kernel_rfl) rfl rfl rfl rfl (fun K hk => ?_) ?_
          rotate_left
          · go_step; exact hk
          refine Ord.St.fl2 (T' := ?_) 8 [] _ _ rfl (by kernel_rfl) rfl rfl rfl rfl (fun K w' hk => ?_) ?_
          rotate_left
          · go_step; exact hk
          refine Ord.St.nil ?_
          go_wp2_with fail
          go_roundw
          case rel => exact ⟨k + 1, by omega, by go_num, take_eq_succ HT.out HXK.out HYK.out HE.out, HC.out.drew⟩
          case measure => simp [intOf]; omega
        · have hb : (x != y) = true := by simp [hxy]
          have hdf : d = false := by
            rw [← HD.out]
            refine decide_eq_false fun e => hxy ?_
            have h1 := HXK.out
            rw [e, HYK.out] at h1
            cases h1; rfl
          have HDF := Lib.hid hdf; clear hdf
          clear hxy
          go_wp2_with fail
          refine Ord.St.door (fun _ => True) [.fl, .fl, .fl, .rd, .fl, .fl, .fl, .rd, .fl] [0, 0, 3, 7, 0, 0, 48, 112, 255] [0, 1, 2, 3, 4, 5, 6, 7, 8] mixed (by kernel_rfl) rfl ?_
          refine Ord.St.fl2 (T' := ?_) 0 [1, 2, 3, 4, 5, 6, 7, 8] _ _ rfl (by kernel_rfl) rfl rfl rfl rfl (fun K w' hk => ?_) ?_
          rotate_left
          · go_step; exact hk
          refine Ord.St.fl2 (T' := ?_) 1 [2, 3, 4, 5, 6, 7, 8] _ _ rfl (by kernel_rfl) rfl rfl rfl rfl (fun K w' hk => ?_) ?_
          rotate_left
          · go_step; exact hk
          refine Ord.St.fl2 (T' := ?_) 2 [3, 4, 5, 6, 7, 8] _ _ rfl (by kernel_rfl) rfl rfl rfl rfl (fun K w' hk => ?_) ?_
          rotate_left
          · go_step; exact hk
          refine Ord.St.rd2 (T' := ?_) 3 [4, 5, 6, 7, 8] _ _ rfl (by kernel_rfl) rfl rfl rfl rfl (fun K hk => ?_) ?_
          rotate_left
          · go_step; exact hk
          refine Ord.St.fl2 (T' := ?_) 4 [5, 6, 7, 8] _ _ rfl (by kernel_rfl) rfl rfl rfl rfl (fun K w' hk => ?_) ?_
          rotate_left
          · go_step; exact hk
          refine Ord.St.fl2 (T' := ?_) 5 [6, 7, 8] _ _ rfl (by kernel_rfl) rfl rfl rfl rfl (fun K w' hk => ?_) ?_
          rotate_left
          · go_step; exact hk
          refine Ord.St.fl2 (T' := ?_) 6 [7, 8] _ _ rfl (by kernel_rfl) rfl rfl rfl rfl (fun K w' hk => ?_) ?_
          rotate_left
          · go_step; exact hk
          refine Ord.St.rd2 (T' := ?_) 7 [8] _ _ rfl (by kernel_rfl) rfl rfl rfl rfl (fun K hk => ?_) ?_
          rotate_left
          · go_step; exact hk
          refine Ord.St.fl2 (T' := ?_) 8 [] _ _ rfl (by kernel_rfl) rfl rfl rfl rfl (fun K w' hk => ?_) ?_
          rotate_left
          · go_step; exact hk
          refine Ord.St.nil ?_
          go_wp2_with fail
          go_ret
          rw [HDF.out]
          exact ⟨rfl, HC.out.drew⟩
      · have hdt : d = true := by
          rw [← HD.out]
          have h1 := HT.out
          rw [List.take_of_length_le (by omega), List.take_of_length_le (by have := HL.out; omega)] at h1
          exact decide_eq_true h1
        have HDT := Lib.hid hdt; clear hdt
        have HC := Lib.hid hc; clear hc
        go_wp2_with fail
        go_ret
        rw [HDT.out]
        exact ⟨rfl, HC.out⟩
  · have hne : ((xs.length : Int) != (ys.length : Int)) = true := by rw [bne_iff_ne]; omega
    have hd : decide (xs = ys) = false := decide_eq_false fun e => hl (by rw [e])
    rw [hd]
    clear hd
    go_enter Try.func79, Try.ntmps79
    go_wp2_with fail
    go_ret
    exact ⟨rfl, Ch.refl _ _⟩
theorem fnvsame271 : Fnv 155 := fnv_of Try.func155 (by simp [Try.f155]) (by simp [Try.f155])
theorem fnvsame2711 : Fnv 157 := fnv_of Try.func157 (by simp [Try.f157]) (by simp [Try.f157])
set_option maxRecDepth 100000 in
theorem same2711_is (x : Int) : Calls Try.prog 157 #[.int .i64 x, .int .i64 x] w fun e w' => e = .returned (.bool true) ∧ w = w' := by
  go_enter Try.func157, Try.ntmps157
  go_wp2_with fail
  go_ret
  exact ⟨ret_bool (by simp), rfl⟩
set_option maxRecDepth 100000 in
set_option maxHeartbeats 1000000 in
theorem EFlit_yes {a b : Option Addr} {xs : List Int} (n ca cb : Nat) (hn : xs.length = n) (hm : n ≤ 1000000) (hA : Sl w a xs) (hB : Sl w b xs) :
    Calls Try.prog 156 #[.slice a n ca, .slice b n cb, .func (.func 157) #[] #[]] w fun e w' => e = .returned (.bool true) ∧ Ch [] w w' := by
  have hcf : ∀ args w, (callFunc 157 args).run Try.prog w = .ok (.enter 157 args) w := fnvsame2711
  have HA := Lib.hid hA; clear hA
  have HB := Lib.hid hB; clear hB
  have HN := Lib.hid hn; clear hn
  go_enter Try.func156, Try.ntmps156
  go_wp2_with fail
  go_loopw [17] (fun i wr => ∃ k : Nat, k ≤ n ∧ i = .int .i64 k ∧ Ch [] w wr) (fun i _ => n - (intOf i).toNat)
  case atStart => exact ⟨0, Nat.zero_le _, rfl, Ch.refl _ _⟩
  case round =>
    obtain ⟨k, hk, rfl, hc⟩ := hrel
    by_cases hlt : k < n
    · obtain ⟨x, hx⟩ : ∃ x, xs[k]? = some x := ⟨_, List.getElem?_eq_getElem (by rw [HN.out]; exact hlt)⟩
      obtain ⟨b1, o1, rfl, c1⟩ := (HA.out.ch hc (by simp)).cells k _ hx
      obtain ⟨b2, o2, rfl, c2⟩ := (HB.out.ch hc (by simp)).cells k _ hx
      have HE := Lib.hid (same2711_is (w := wr) x)
      have HC := Lib.hid hc; clear hc hx
      go_wp2_with fail
      refine HE.out.mono ?_
      rintro e w1 ⟨rfl, rfl⟩
      go_wp2_with fail
      go_roundw
      case rel => exact ⟨k + 1, by omega, by go_num, HC.out⟩
      case measure => simp [intOf]; omega
    · have HC := Lib.hid hc; clear hc
      go_wp2_with fail
      go_ret
      exact ⟨rfl, HC.out⟩
set_option maxRecDepth 100000 in
set_option maxHeartbeats 1000000 in
theorem same271_is {a b : Option Addr} {xs : List Int} (n ca cb : Nat) (hn : xs.length = n) (hm : n ≤ 1000000) (hA : Sl w a xs) (hB : Sl w b xs) :
    Calls Try.prog 155 #[.slice a n ca, .slice b n cb] w fun e w' => e = .returned (.bool true) ∧ Ch [] w w' := by
  have HE := Lib.hid (EFlit_yes n ca cb hn hm hA hB)
  clear hA hB hn
  go_enter Try.func155, Try.ntmps155
  go_wp2_with fail
  refine HE.out.mono ?_
  rintro e w1 ⟨rfl, hc⟩
  have HC := Lib.hid hc; clear hc
  go_wp2_with fail
  go_ret
  exact ⟨rfl, HC.out⟩
set_option maxRecDepth 100000 in
set_option maxHeartbeats 2000000 in
theorem EFcls_yes {a b : Option Addr} {es1 es2 : List Value} {cls : List (List Int)} {O1 O2 : List Nat} (n ca cb : Nat) (hn : cls.length = n) (hm : n ≤ 1000000) (hl : ∀ c ∈ cls, c.length ≤ 1000000) (hA : Sv w a es1) (hB : Sv w b es2) (h1 : ClsIn w O1 es1 cls) (h2 : ClsIn w O2 es2 cls) :
    Calls Try.prog 154 #[.slice a n ca, .slice b n cb, .func (.func 155) #[] #[]] w fun e w' => e = .returned (.bool true) ∧ Ch [] w w' := by
  have hcf : ∀ args w, (callFunc 155 args).run Try.prog w = .ok (.enter 155 args) w := fnvsame271
  have HA := Lib.hid hA; clear hA
  have HB := Lib.hid hB; clear hB
  have H1 := Lib.hid h1; clear h1
  have H2 := Lib.hid h2; clear h2
  have HN := Lib.hid hn; clear hn
  have HL := Lib.hid hl; clear hl
  go_enter Try.func154, Try.ntmps154
  go_wp2_with fail
  go_loopw [17] (fun i wr => ∃ k : Nat, k ≤ n ∧ i = .int .i64 k ∧ Ch [] w wr) (fun i _ => n - (intOf i).toNat)
  case atStart => exact ⟨0, Nat.zero_le _, rfl, Ch.refl _ _⟩
  case round =>
    obtain ⟨k, hk, rfl, hc⟩ := hrel
    by_cases hlt : k < n
    · obtain ⟨c, hx⟩ : ∃ c, cls[k]? = some c := ⟨_, List.getElem?_eq_getElem (by rw [HN.out]; exact hlt)⟩
      have hcl := HL.out c (List.mem_of_getElem? hx)
      obtain ⟨x1, y1, e1, _, _, s1, p1⟩ := H1.out.each k c hx
      obtain ⟨x2, y2, e2, _, _, s2, p2⟩ := H2.out.each k c hx
      obtain ⟨b1, o1, rfl, c1⟩ := (HA.out.ch hc (by simp)).cells k _ e1
      obtain ⟨b2, o2, rfl, c2⟩ := (HB.out.ch hc (by simp)).cells k _ e2
      have HE := Lib.hid (same271_is (w := wr) c.length y1 y2 rfl hcl (s1.chO hc (fun p hp => ⟨(p1 p hp).1, by simp⟩)) (s2.chO hc (fun p hp => ⟨(p2 p hp).1, by simp⟩)))
      have HC := Lib.hid hc; clear hc hx e1 e2 s1 s2 p1 p2
      go_wp2_with fail
      refine HE.out.mono ?_
      rintro e w1 ⟨rfl, hc1⟩
      have HC1 := Lib.hid hc1; clear hc1 HE
      go_wp2_with fail
      go_roundw
      case rel => exact ⟨k + 1, by omega, by go_num, HC.out.trans HC1.out (by simp)⟩
      case measure => simp [intOf]; omega
    · have HC := Lib.hid hc; clear hc
      go_wp2_with fail
      go_ret
      exact ⟨rfl, HC.out⟩
set_option maxRecDepth 100000 in
set_option maxHeartbeats 2000000 in
theorem same27_yes {ca la : Option Addr} {es1 es2 : List Value} {cls : List (List Int)} {O1 O2 : List Nat} (vars : Int) (n cc lc : Nat) (hn : cls.length = n) (hm : n ≤ 1000000) (hl : ∀ c ∈ cls, c.length ≤ 1000000) (hA : Sv w ca es1) (hB : Sv w la es2) (h1 : ClsIn w O1 es1 cls) (h2 : ClsIn w O2 es2 cls) :
    Calls Try.prog 74 #[.agg #[.int .i64 vars, .slice ca n cc], .slice la n lc] w fun e w' => e = .returned (.bool true) ∧ Ch [] w w' := by
  have hE := fun (W : World) (hc : Ch [] w W) => EFcls_yes (w := W) n cc lc hn hm hl (hA.ch hc (by simp)) (hB.ch hc (by simp)) (h1.ch (O' := []) hc (by simp) (by simp)) (h2.ch (O' := []) hc (by simp) (by simp))
  have HE := Lib.hid hE; clear hE hA hB h1 h2 hn hl
  go_enter Try.func74, Try.ntmps74
  go_wp2_with fail
  refine calls_named fun W1 hW1 => ?_
  have hc1 := alw_ch hW1
  clear hW1
  refine (HE.out W1 hc1).mono ?_
  rintro e w1 ⟨rfl, hc⟩
  have HC := Lib.hid (hc1.trans hc (by simp)); clear hc hc1
  go_wp2_with fail
  go_ret
  exact ⟨rfl, HC.out⟩
end
end Go.Proofs.Ytkedpifopclipaa
namespace Go.Aig
def sb27 : Gra := ⟨9, [⟨1, 0, 0, 0⟩, ⟨2, 0, 0, 0⟩, ⟨2, 0, 0, 0⟩, ⟨3, 2, 4, 1⟩]⟩
theorem m27a : mapN sb27.nodes [6] = [1, 2, 3] := by decide +kernel
theorem m27b : mapN sb27.nodes [7] = [1, 2, 3] := by decide +kernel
theorem m27c : mapN sb27.nodes [2, 1] = [1] := by decide +kernel
theorem m27d : mapN sb27.nodes [0] = [] := by decide +kernel
theorem c27a : clsOf sb27.nodes (natInts [1, 2, 3]) (natInts [6]) = [[-3, 1], [-3, 2], [3, -1, -2], [3]] := by decide +kernel
theorem c27b : clsOf sb27.nodes (natInts [1, 2, 3]) (natInts [7]) = [[-3, 1], [-3, 2], [3, -1, -2], [-3]] := by decide +kernel
theorem c27c : clsOf sb27.nodes (natInts [1]) (natInts [2, 1]) = [[1]] := by decide +kernel
theorem c27d : clsOf sb27.nodes (natInts []) (natInts [0]) = [[]] := by decide +kernel
end Go.Aig
namespace Go.Proofs.Ytkedpifopclipaa
open Go.RowKit Go.Mem Go.Aig
/-- a formula in a block -/
structure FBox (w : World) (b : Nat) (vars : Nat) (ca : Option Addr) (n cc : Nat) (cls : List (List Int)) : Prop where
  box : blk w b [.int .i64 vars, .slice ca n cc]
  len : cls.length = n
  ex : ∃ es, Sv w ca es ∧ ClsIn w [] es cls
theorem FBox.ch {w w' : World} {b vars n cc : Nat} {ca : Option Addr} {cls : List (List Int)} (h : FBox w b vars ca n cc cls) (hc : Ch [] w w') : FBox w' b vars ca n cc cls :=
  ⟨h.box.ch hc (by simp), h.len, h.ex.imp fun es ⟨h1, h2⟩ => ⟨h1.ch hc (by simp), h2.ch hc (by simp) (by simp)⟩⟩
theorem ForIn.box {w w' W : World} {ca : Option Addr} {n cc : Nat} {cls : List (List Int)} (h : ForIn w w' (.slice ca n cc) cls) (hn : cls.length = n) (hm : n ≤ 1000000) {vars : Nat} (hW : W = w'.alloc (.cells #[.int .i64 vars, .slice ca n cc] 36)) : FBox W w'.heap.size vars ca n cc cls := by
  obtain ⟨es, h1, h2⟩ := h.ex
  have hc : Ch [] w' W := alw_ch hW
  exact ⟨alw_blk (xs := [.int .i64 vars, .slice ca n cc]) hW, hn, es, (row.sv h1 rfl (by omega)).ch hc (by simp), h2.ch hc (by simp) (by simp)⟩
theorem ClsIn.nil (w : World) : ClsIn w [] [] [] := ⟨rfl, by simp⟩
theorem ClsIn.add {w : World} {es : List Value} {cls : List (List Int)} (h : ClsIn w [] es cls) {b : Nat} {c : List Int} (hb : blk w b (intCells c)) (hn : c.length ≤ 1000000) : ClsIn w [] (es ++ [.slice (some ⟨b, 0, none⟩) c.length c.length]) (cls ++ [c]) :=
  h.snoc (Nat.le_refl _) (by omega) (Sl.of_blk hb hn) (fun p hp => by cases hp; exact ⟨hb.lt, by simp⟩)
theorem Sv.of_blk {w : World} {b : Nat} {xs : List Value} (h : blk w b xs) (hn : xs.length ≤ 1000000) : Sv w (some ⟨b, 0, none⟩) xs :=
  ⟨fun i x hx => ⟨b, 0, rfl, by rw [Nat.zero_add]; exact h.cell hx⟩, by omega⟩
section
set_option maxRecDepth 100000 in
set_option maxHeartbeats 8000000 in
theorem awake27_is (w : World) : Calls Try.prog 14 #[] w fun e w' => e = .returned (.bool true) ∧ Ch [] w w' := by
  have HN := Lib.hid (New_yes (w := w) 9 (by decide) (by decide))
  go_enter Try.func14, Try.ntmps14
  go_wp2_with fail
  refine HN.out.mono ?_
  rintro e w1 ⟨g, F1, rfl, hg, hF, hc⟩
  have hown : Own w w1 g (gIn 9 0) F1 := ⟨hg, hF, hc⟩
  clear hg hF hc HN
  have HO := Lib.hid hown; clear hown
  have hI := Input_g HO.out.gin
  rw [show doInput (gIn 9 0) = (gIn 9 1, 2, 0) from rfl] at hI
  go_wp2_with fail
  refine hI.mono ?_
  rintro e w2 ⟨rfl, hto⟩
  obtain ⟨F2, ho⟩ := HO.out.to hto
  clear HO hto hI; have HO := Lib.hid ho; clear ho
  have hI := Input_g HO.out.gin
  rw [show doInput (gIn 9 1) = (gIn 9 2, 4, 0) from rfl] at hI
  go_wp2_with fail
  refine hI.mono ?_
  rintro e w3 ⟨rfl, hto⟩
  obtain ⟨F3, ho⟩ := HO.out.to hto
  clear HO hto hI; have HO := Lib.hid ho; clear ho
  have hA := And_g HO.out.gin 2 4 (by decide) (by decide)
  rw [show doAnd (gIn 9 2) 2 4 = (sb27, 6, 0) by kernel_rfl] at hA
  go_wp2_with fail
  refine hA.mono ?_
  rintro e w4 ⟨rfl, hto⟩
  obtain ⟨F, ho⟩ := HO.out.to hto
  clear HO hto hA
  have HCW := Lib.hid ho.ch
  have HG := Lib.hid ho.gin; clear ho
  have HC := Lib.hid (Ch.refl [] w4)
  go_wp2_with fail
  refine calls_named fun WA hWA => ?_
  have hlb := alw_blk (xs := [.int .i64 6]) hWA
  have hca := alw_ch hWA
  have hcc := HC.out.trans hca (by simp); clear HC; have HC := Lib.hid hcc; clear hcc
  clear hWA hca
  have hE := tsEncode_yes (HG.out.same HC.out (by simp)) (l := [6]) 1 1 rfl (by decide) (Sl.of_blk hlb (by simp [natInts])) (fun p hp => by cases hp; exact hlb.lt) (by decide) 3 (by decide) (by decide) (by rw [m27a]; decide)
  rw [m27a, c27a] at hE
  have HE := Lib.hid hE; clear hE hlb
  refine HE.out.mono ?_
  rintro e WB ⟨cv, mv, rfl, hfor, hrm, _, hcb⟩
  obtain ⟨c1a, c1c, rfl⟩ := row.shape hfor.ex.choose_spec.1
  obtain ⟨m1a, m1c, rfl⟩ := row.shape hrm
  have hcc := HC.out.trans hcb (by simp); clear HC; have HC := Lib.hid hcc; clear hcc
  clear hcb HE
  have HM1 := Lib.hid hrm; clear hrm
  have HFO := Lib.hid hfor; clear hfor
  go_upto_region 8 with fail
  refine wp_alw ?_
  intro WD hWD
  have hfb := HFO.out.box (vars := 3) (n := 4) rfl (by decide) hWD
  have hcd := alw_ch hWD
  have hq2 := HM1.out.ch hcd (by simp); clear HM1; have HM1 := Lib.hid hq2; clear hq2
  have hcc := HC.out.trans hcd (by simp); clear HC; have HC := Lib.hid hcc; clear hcc
  clear hWD hcd HFO
  generalize WB.heap.size = b1 at *
  have FB1 := Lib.hid hfb; clear hfb
  go_wp2_with fail
  refine calls_named fun WA hWA => ?_
  have hlb := alw_blk (xs := [.int .i64 1, .int .i64 2, .int .i64 3]) hWA
  have hca := alw_ch hWA
  have hq2 := HM1.out.ch hca (by simp); clear HM1; have HM1 := Lib.hid hq2; clear hq2
  have hq2 := FB1.out.ch hca; clear FB1; have FB1 := Lib.hid hq2; clear hq2
  have hcc := HC.out.trans hca (by simp); clear HC; have HC := Lib.hid hcc; clear hcc
  clear hWA hca
  have hE := EQmap_is (xs := natInts [1, 2, 3]) (ys := [1, 2, 3]) m1c 3 (Sl.of_ints HM1.out (by decide)) (Sl.of_blk hlb (by decide))
  rw [show decide (natInts [1, 2, 3] = ([1, 2, 3] : List Int)) = true by decide] at hE
  have HE := Lib.hid hE; clear hE hlb
  refine HE.out.mono ?_
  rintro e WB0 ⟨rfl, hcb⟩
  have hq2 := HM1.out.ch hcb (by simp); clear HM1; have HM1 := Lib.hid hq2; clear hq2
  have hq2 := FB1.out.ch hcb; clear FB1; have FB1 := Lib.hid hq2; clear hq2
  have hcc := HC.out.trans hcb (by simp); clear HC; have HC := Lib.hid hcc; clear hcc
  clear hcb HE
  have x10 := FB1.out.box.cell (i := 0) rfl
  have x11 := FB1.out.box.cell (i := 1) rfl
  go_wp2_with fail
  clear x10 x11
  refine calls_named fun WA hWA => ?_
  have hca : Ch [] WB0 WA := by rw [hWA]; exact (((((Ch.refl _ _).alloc _).alloc _).alloc _).alloc _).alloc _
  have k0 : blk WA (WB0.heap.size) (intCells [-3, 1]) := by rw [hWA]; exact ((((blk.new' _ _ (by simp)).alloc _).alloc _).alloc _).alloc _
  have k1 : blk WA (WB0.heap.size + 1) (intCells [-3, 2]) := by rw [hWA]; exact (((blk.new' _ _ (by simp)).alloc _).alloc _).alloc _
  have k2 : blk WA (WB0.heap.size + 1 + 1) (intCells [3, -1, -2]) := by rw [hWA]; exact ((blk.new' _ _ (by simp)).alloc _).alloc _
  have k3 : blk WA (WB0.heap.size + 1 + 1 + 1) (intCells [3]) := by rw [hWA]; exact (blk.new' _ _ (by simp)).alloc _
  have ko : blk WA (WB0.heap.size + 1 + 1 + 1 + 1) [.slice (some ⟨WB0.heap.size, 0, none⟩) 2 2, .slice (some ⟨WB0.heap.size + 1, 0, none⟩) 2 2, .slice (some ⟨WB0.heap.size + 1 + 1, 0, none⟩) 3 3, .slice (some ⟨WB0.heap.size + 1 + 1 + 1, 0, none⟩) 1 1] := by rw [hWA]; exact blk.new' _ _ (by simp)
  have hcls : ClsIn WA [] [.slice (some ⟨WB0.heap.size, 0, none⟩) 2 2, .slice (some ⟨WB0.heap.size + 1, 0, none⟩) 2 2, .slice (some ⟨WB0.heap.size + 1 + 1, 0, none⟩) 3 3, .slice (some ⟨WB0.heap.size + 1 + 1 + 1, 0, none⟩) 1 1] [[-3, 1], [-3, 2], [3, -1, -2], [3]] := ((((ClsIn.nil WA).add k0 (by decide)).add k1 (by decide)).add k2 (by decide)).add k3 (by decide)
  have hq2 := HM1.out.ch hca (by simp); clear HM1; have HM1 := Lib.hid hq2; clear hq2
  have hq2 := FB1.out.ch hca; clear FB1; have FB1 := Lib.hid hq2; clear hq2
  have hcc := HC.out.trans hca (by simp); clear HC; have HC := Lib.hid hcc; clear hcc
  clear hWA hca
  obtain ⟨es1, hs1, hd1⟩ := FB1.out.ex
  have hE := same27_yes 3 4 c1c 4 rfl (by decide) (by decide) hs1 (Sv.of_blk ko (by simp)) hd1 hcls
  have HE := Lib.hid hE; clear hE hs1 hd1 hcls ko k0 k1 k2 k3
  refine HE.out.mono ?_
  rintro e WB1 ⟨rfl, hcb⟩
  have hq2 := HM1.out.ch hcb (by simp); clear HM1; have HM1 := Lib.hid hq2; clear hq2
  have hq2 := FB1.out.ch hcb; clear FB1; have FB1 := Lib.hid hq2; clear hq2
  have hcc := HC.out.trans hcb (by simp); clear HC; have HC := Lib.hid hcc; clear hcc
  clear hcb HE
  go_wp2_with fail
  refine calls_named fun WA hWA => ?_
  have hlb := alw_blk (xs := [.int .i64 7]) hWA
  have hca := alw_ch hWA
  have hq2 := HM1.out.ch hca (by simp); clear HM1; have HM1 := Lib.hid hq2; clear hq2
  have hq2 := FB1.out.ch hca; clear FB1; have FB1 := Lib.hid hq2; clear hq2
  have hcc := HC.out.trans hca (by simp); clear HC; have HC := Lib.hid hcc; clear hcc
  clear hWA hca
  have hE := tsEncode_yes (HG.out.same HC.out (by simp)) (l := [7]) 1 1 rfl (by decide) (Sl.of_blk hlb (by simp [natInts])) (fun p hp => by cases hp; exact hlb.lt) (by decide) 3 (by decide) (by decide) (by rw [m27b]; decide)
  rw [m27b, c27b] at hE
  have HE := Lib.hid hE; clear hE hlb
  refine HE.out.mono ?_
  rintro e WB ⟨cv, mv, rfl, hfor, hrm, _, hcb⟩
  obtain ⟨c2a, c2c, rfl⟩ := row.shape hfor.ex.choose_spec.1
  obtain ⟨m2a, m2c, rfl⟩ := row.shape hrm
  have hq2 := HM1.out.ch hcb (by simp); clear HM1; have HM1 := Lib.hid hq2; clear hq2
  have hq2 := FB1.out.ch hcb; clear FB1; have FB1 := Lib.hid hq2; clear hq2
  have hcc := HC.out.trans hcb (by simp); clear HC; have HC := Lib.hid hcc; clear hcc
  clear hcb HE
  have HM2 := Lib.hid hrm; clear hrm
  have HFO := Lib.hid hfor; clear hfor
  go_upto_region 11 with fail
  refine wp_alw ?_
  intro WD hWD
  have hfb := HFO.out.box (vars := 3) (n := 4) rfl (by decide) hWD
  have hcd := alw_ch hWD
  have hq2 := HM1.out.ch hcd (by simp); clear HM1; have HM1 := Lib.hid hq2; clear hq2
  have hq2 := FB1.out.ch hcd; clear FB1; have FB1 := Lib.hid hq2; clear hq2
  have hq2 := HM2.out.ch hcd (by simp); clear HM2; have HM2 := Lib.hid hq2; clear hq2
  have hcc := HC.out.trans hcd (by simp); clear HC; have HC := Lib.hid hcc; clear hcc
  clear hWD hcd HFO
  generalize WB.heap.size = b2 at *
  have FB2 := Lib.hid hfb; clear hfb
  go_wp2_with fail
  refine calls_named fun WA hWA => ?_
  have hlb := alw_blk (xs := [.int .i64 2, .int .i64 1]) hWA
  have hca := alw_ch hWA
  have hq2 := HM1.out.ch hca (by simp); clear HM1; have HM1 := Lib.hid hq2; clear hq2
  have hq2 := FB1.out.ch hca; clear FB1; have FB1 := Lib.hid hq2; clear hq2
  have hq2 := HM2.out.ch hca (by simp); clear HM2; have HM2 := Lib.hid hq2; clear hq2
  have hq2 := FB2.out.ch hca; clear FB2; have FB2 := Lib.hid hq2; clear hq2
  have hcc := HC.out.trans hca (by simp); clear HC; have HC := Lib.hid hcc; clear hcc
  clear hWA hca
  have hE := tsEncode_yes (HG.out.same HC.out (by simp)) (l := [2, 1]) 2 2 rfl (by decide) (Sl.of_blk hlb (by simp [natInts])) (fun p hp => by cases hp; exact hlb.lt) (by decide) 3 (by decide) (by decide) (by rw [m27c]; decide)
  rw [m27c, c27c] at hE
  have HE := Lib.hid hE; clear hE hlb
  refine HE.out.mono ?_
  rintro e WB ⟨cv, mv, rfl, hfor, hrm, _, hcb⟩
  obtain ⟨c3a, c3c, rfl⟩ := row.shape hfor.ex.choose_spec.1
  obtain ⟨m3a, m3c, rfl⟩ := row.shape hrm
  have hq2 := HM1.out.ch hcb (by simp); clear HM1; have HM1 := Lib.hid hq2; clear hq2
  have hq2 := FB1.out.ch hcb; clear FB1; have FB1 := Lib.hid hq2; clear hq2
  have hq2 := HM2.out.ch hcb (by simp); clear HM2; have HM2 := Lib.hid hq2; clear hq2
  have hq2 := FB2.out.ch hcb; clear FB2; have FB2 := Lib.hid hq2; clear hq2
  have hcc := HC.out.trans hcb (by simp); clear HC; have HC := Lib.hid hcc; clear hcc
  clear hcb HE
  have HM3 := Lib.hid hrm; clear hrm
  have HFO := Lib.hid hfor; clear hfor
  go_upto_region 12 with fail
  refine wp_alw ?_
  intro WD hWD
  have hfb := HFO.out.box (vars := 1) (n := 1) rfl (by decide) hWD
  have hcd := alw_ch hWD
  have hq2 := HM1.out.ch hcd (by simp); clear HM1; have HM1 := Lib.hid hq2; clear hq2
  have hq2 := FB1.out.ch hcd; clear FB1; have FB1 := Lib.hid hq2; clear hq2
  have hq2 := HM2.out.ch hcd (by simp); clear HM2; have HM2 := Lib.hid hq2; clear hq2
  have hq2 := FB2.out.ch hcd; clear FB2; have FB2 := Lib.hid hq2; clear hq2
  have hq2 := HM3.out.ch hcd (by simp); clear HM3; have HM3 := Lib.hid hq2; clear hq2
  have hcc := HC.out.trans hcd (by simp); clear HC; have HC := Lib.hid hcc; clear hcc
  clear hWD hcd HFO
  generalize WB.heap.size = b3 at *
  have FB3 := Lib.hid hfb; clear hfb
  go_wp2_with fail
  refine calls_named fun WA hWA => ?_
  have hlb := alw_blk (xs := [.int .i64 0]) hWA
  have hca := alw_ch hWA
  have hq2 := HM1.out.ch hca (by simp); clear HM1; have HM1 := Lib.hid hq2; clear hq2
  have hq2 := FB1.out.ch hca; clear FB1; have FB1 := Lib.hid hq2; clear hq2
  have hq2 := HM2.out.ch hca (by simp); clear HM2; have HM2 := Lib.hid hq2; clear hq2
  have hq2 := FB2.out.ch hca; clear FB2; have FB2 := Lib.hid hq2; clear hq2
  have hq2 := HM3.out.ch hca (by simp); clear HM3; have HM3 := Lib.hid hq2; clear hq2
  have hq2 := FB3.out.ch hca; clear FB3; have FB3 := Lib.hid hq2; clear hq2
  have hcc := HC.out.trans hca (by simp); clear HC; have HC := Lib.hid hcc; clear hcc
  clear hWA hca
  have hE := tsEncode_yes (HG.out.same HC.out (by simp)) (l := [0]) 1 1 rfl (by decide) (Sl.of_blk hlb (by simp [natInts])) (fun p hp => by cases hp; exact hlb.lt) (by decide) 3 (by decide) (by decide) (by rw [m27d]; decide)
  rw [m27d, c27d] at hE
  have HE := Lib.hid hE; clear hE hlb
  refine HE.out.mono ?_
  rintro e WB ⟨cv, mv, rfl, hfor, hrm, _, hcb⟩
  obtain ⟨c4a, c4c, rfl⟩ := row.shape hfor.ex.choose_spec.1
  obtain ⟨m4a, m4c, rfl⟩ := row.shape hrm
  have hq2 := HM1.out.ch hcb (by simp); clear HM1; have HM1 := Lib.hid hq2; clear hq2
  have hq2 := FB1.out.ch hcb; clear FB1; have FB1 := Lib.hid hq2; clear hq2
  have hq2 := HM2.out.ch hcb (by simp); clear HM2; have HM2 := Lib.hid hq2; clear hq2
  have hq2 := FB2.out.ch hcb; clear FB2; have FB2 := Lib.hid hq2; clear hq2
  have hq2 := HM3.out.ch hcb (by simp); clear HM3; have HM3 := Lib.hid hq2; clear hq2
  have hq2 := FB3.out.ch hcb; clear FB3; have FB3 := Lib.hid hq2; clear hq2
  have hcc := HC.out.trans hcb (by simp); clear HC; have HC := Lib.hid hcc; clear hcc
  clear hcb HE
  have HM4 := Lib.hid hrm; clear hrm
  have HFO := Lib.hid hfor; clear hfor
  go_upto_region 13 with fail
  refine wp_alw ?_
  intro WD hWD
  have hfb := HFO.out.box (vars := 0) (n := 1) rfl (by decide) hWD
  have hcd := alw_ch hWD
  have hq2 := HM1.out.ch hcd (by simp); clear HM1; have HM1 := Lib.hid hq2; clear hq2
  have hq2 := FB1.out.ch hcd; clear FB1; have FB1 := Lib.hid hq2; clear hq2
  have hq2 := HM2.out.ch hcd (by simp); clear HM2; have HM2 := Lib.hid hq2; clear hq2
  have hq2 := FB2.out.ch hcd; clear FB2; have FB2 := Lib.hid hq2; clear hq2
  have hq2 := HM3.out.ch hcd (by simp); clear HM3; have HM3 := Lib.hid hq2; clear hq2
  have hq2 := FB3.out.ch hcd; clear FB3; have FB3 := Lib.hid hq2; clear hq2
  have hq2 := HM4.out.ch hcd (by simp); clear HM4; have HM4 := Lib.hid hq2; clear hq2
  have hcc := HC.out.trans hcd (by simp); clear HC; have HC := Lib.hid hcc; clear hcc
  clear hWD hcd HFO
  generalize WB.heap.size = b4 at *
  have FB4 := Lib.hid hfb; clear hfb
  have hL := tsLit_is (m := natInts [1, 2, 3]) 3 m1c rfl (by decide) (Sl.of_ints HM1.out (by decide)) 7 (by decide)
  rw [show litF (natInts [1, 2, 3]) 7 = -3 by decide] at hL
  go_wp2_with fail
  refine hL.mono ?_
  rintro e w' ⟨rfl, rfl⟩
  clear hL
  have hL := tsRef_is (m := natInts [1, 2, 3]) 3 m1c rfl (by decide) (Sl.of_ints HM1.out (by decide)) (-1) (by decide)
  rw [show refF (natInts [1, 2, 3]) (-1) = 3 by decide] at hL
  go_wp2_with fail
  refine hL.mono ?_
  rintro e w' ⟨rfl, rfl⟩
  clear hL
  obtain ⟨es2, hs2, hd2⟩ := FB2.out.ex
  obtain ⟨q2a, q2c, e2, _, _, hs3, hp3⟩ := hd2.each 3 [-3] rfl
  obtain ⟨h2b, h2o, h2e, h2c⟩ := hs2.cells 3 _ e2
  subst h2e
  have hqa : ∀ p, q2a = some p → p.block < WD.heap.size := fun p hp => (hp3 p hp).1
  clear hs2 hd2 e2 hp3
  have x20 := FB2.out.box.cell (i := 0) rfl
  have x21 := FB2.out.box.cell (i := 1) rfl
  go_wp2_with fail
  clear x20 x21
  clear h2c
  refine calls_named fun WA hWA => ?_
  have hlb := alw_blk (xs := [.int .i64 (-3)]) hWA
  have hca := alw_ch hWA
  have hs3 := hs3.ch hca (by simp)
  have hq2 := HM1.out.ch hca (by simp); clear HM1; have HM1 := Lib.hid hq2; clear hq2
  have hq2 := FB1.out.ch hca; clear FB1; have FB1 := Lib.hid hq2; clear hq2
  have hq2 := HM2.out.ch hca (by simp); clear HM2; have HM2 := Lib.hid hq2; clear hq2
  have hq2 := FB2.out.ch hca; clear FB2; have FB2 := Lib.hid hq2; clear hq2
  have hq2 := HM3.out.ch hca (by simp); clear HM3; have HM3 := Lib.hid hq2; clear hq2
  have hq2 := FB3.out.ch hca; clear FB3; have FB3 := Lib.hid hq2; clear hq2
  have hq2 := HM4.out.ch hca (by simp); clear HM4; have HM4 := Lib.hid hq2; clear hq2
  have hq2 := FB4.out.ch hca; clear FB4; have FB4 := Lib.hid hq2; clear hq2
  have hcc := HC.out.trans hca (by simp); clear HC; have HC := Lib.hid hcc; clear hcc
  clear hWA hca hqa
  have hE := EQcls_is (xs := [-3]) (ys := [-3]) q2c 1 hs3 (Sl.of_blk hlb (by decide))
  rw [show decide (([-3] : List Int) = [-3]) = true by decide] at hE
  have HE := Lib.hid hE; clear hE hlb hs3
  refine HE.out.mono ?_
  rintro e WBx ⟨rfl, hcb⟩
  have hq2 := HM1.out.ch hcb (by simp); clear HM1; have HM1 := Lib.hid hq2; clear hq2
  have hq2 := FB1.out.ch hcb; clear FB1; have FB1 := Lib.hid hq2; clear hq2
  have hq2 := HM2.out.ch hcb (by simp); clear HM2; have HM2 := Lib.hid hq2; clear hq2
  have hq2 := FB2.out.ch hcb; clear FB2; have FB2 := Lib.hid hq2; clear hq2
  have hq2 := HM3.out.ch hcb (by simp); clear HM3; have HM3 := Lib.hid hq2; clear hq2
  have hq2 := FB3.out.ch hcb; clear FB3; have FB3 := Lib.hid hq2; clear hq2
  have hq2 := HM4.out.ch hcb (by simp); clear HM4; have HM4 := Lib.hid hq2; clear hq2
  have hq2 := FB4.out.ch hcb; clear FB4; have FB4 := Lib.hid hq2; clear hq2
  have hcc := HC.out.trans hcb (by simp); clear HC; have HC := Lib.hid hcc; clear hcc
  clear hcb HE
  go_wp2_with fail
  refine calls_named fun WA hWA => ?_
  have hlb := alw_blk (xs := [.int .i64 1]) hWA
  have hca := alw_ch hWA
  have hq2 := HM1.out.ch hca (by simp); clear HM1; have HM1 := Lib.hid hq2; clear hq2
  have hq2 := FB1.out.ch hca; clear FB1; have FB1 := Lib.hid hq2; clear hq2
  have hq2 := HM2.out.ch hca (by simp); clear HM2; have HM2 := Lib.hid hq2; clear hq2
  have hq2 := FB2.out.ch hca; clear FB2; have FB2 := Lib.hid hq2; clear hq2
  have hq2 := HM3.out.ch hca (by simp); clear HM3; have HM3 := Lib.hid hq2; clear hq2
  have hq2 := FB3.out.ch hca; clear FB3; have FB3 := Lib.hid hq2; clear hq2
  have hq2 := HM4.out.ch hca (by simp); clear HM4; have HM4 := Lib.hid hq2; clear hq2
  have hq2 := FB4.out.ch hca; clear FB4; have FB4 := Lib.hid hq2; clear hq2
  have hcc := HC.out.trans hca (by simp); clear HC; have HC := Lib.hid hcc; clear hcc
  clear hWA hca
  have hE := EQmap_is (xs := natInts [1]) (ys := [1]) m3c 1 (Sl.of_ints HM3.out (by decide)) (Sl.of_blk hlb (by decide))
  rw [show decide (natInts [1] = ([1] : List Int)) = true by decide] at hE
  have HE := Lib.hid hE; clear hE hlb
  refine HE.out.mono ?_
  rintro e WB2 ⟨rfl, hcb⟩
  have hq2 := HM1.out.ch hcb (by simp); clear HM1; have HM1 := Lib.hid hq2; clear hq2
  have hq2 := FB1.out.ch hcb; clear FB1; have FB1 := Lib.hid hq2; clear hq2
  have hq2 := HM2.out.ch hcb (by simp); clear HM2; have HM2 := Lib.hid hq2; clear hq2
  have hq2 := FB2.out.ch hcb; clear FB2; have FB2 := Lib.hid hq2; clear hq2
  have hq2 := HM3.out.ch hcb (by simp); clear HM3; have HM3 := Lib.hid hq2; clear hq2
  have hq2 := FB3.out.ch hcb; clear FB3; have FB3 := Lib.hid hq2; clear hq2
  have hq2 := HM4.out.ch hcb (by simp); clear HM4; have HM4 := Lib.hid hq2; clear hq2
  have hq2 := FB4.out.ch hcb; clear FB4; have FB4 := Lib.hid hq2; clear hq2
  have hcc := HC.out.trans hcb (by simp); clear HC; have HC := Lib.hid hcc; clear hcc
  clear hcb HE
  have x30 := FB3.out.box.cell (i := 0) rfl
  have x31 := FB3.out.box.cell (i := 1) rfl
  go_wp2_with fail
  clear x30 x31
  refine calls_named fun WA hWA => ?_
  have hca : Ch [] WB2 WA := by rw [hWA]; exact ((Ch.refl _ _).alloc _).alloc _
  have k0 : blk WA (WB2.heap.size) (intCells [1]) := by rw [hWA]; exact (blk.new' _ _ (by simp)).alloc _
  have ko : blk WA (WB2.heap.size + 1) [.slice (some ⟨WB2.heap.size, 0, none⟩) 1 1] := by rw [hWA]; exact blk.new' _ _ (by simp)
  have hcls : ClsIn WA [] [.slice (some ⟨WB2.heap.size, 0, none⟩) 1 1] [[1]] := (ClsIn.nil WA).add k0 (by decide)
  have hq2 := HM1.out.ch hca (by simp); clear HM1; have HM1 := Lib.hid hq2; clear hq2
  have hq2 := FB1.out.ch hca; clear FB1; have FB1 := Lib.hid hq2; clear hq2
  have hq2 := HM2.out.ch hca (by simp); clear HM2; have HM2 := Lib.hid hq2; clear hq2
  have hq2 := FB2.out.ch hca; clear FB2; have FB2 := Lib.hid hq2; clear hq2
  have hq2 := HM3.out.ch hca (by simp); clear HM3; have HM3 := Lib.hid hq2; clear hq2
  have hq2 := FB3.out.ch hca; clear FB3; have FB3 := Lib.hid hq2; clear hq2
  have hq2 := HM4.out.ch hca (by simp); clear HM4; have HM4 := Lib.hid hq2; clear hq2
  have hq2 := FB4.out.ch hca; clear FB4; have FB4 := Lib.hid hq2; clear hq2
  have hcc := HC.out.trans hca (by simp); clear HC; have HC := Lib.hid hcc; clear hcc
  clear hWA hca
  obtain ⟨es1, hs1, hd1⟩ := FB3.out.ex
  have hE := same27_yes 1 1 c3c 1 rfl (by decide) (by decide) hs1 (Sv.of_blk ko (by simp)) hd1 hcls
  have HE := Lib.hid hE; clear hE hs1 hd1 hcls ko k0
  refine HE.out.mono ?_
  rintro e WB3 ⟨rfl, hcb⟩
  have hq2 := HM1.out.ch hcb (by simp); clear HM1; have HM1 := Lib.hid hq2; clear hq2
  have hq2 := FB1.out.ch hcb; clear FB1; have FB1 := Lib.hid hq2; clear hq2
  have hq2 := HM2.out.ch hcb (by simp); clear HM2; have HM2 := Lib.hid hq2; clear hq2
  have hq2 := FB2.out.ch hcb; clear FB2; have FB2 := Lib.hid hq2; clear hq2
  have hq2 := HM3.out.ch hcb (by simp); clear HM3; have HM3 := Lib.hid hq2; clear hq2
  have hq2 := FB3.out.ch hcb; clear FB3; have FB3 := Lib.hid hq2; clear hq2
  have hq2 := HM4.out.ch hcb (by simp); clear HM4; have HM4 := Lib.hid hq2; clear hq2
  have hq2 := FB4.out.ch hcb; clear FB4; have FB4 := Lib.hid hq2; clear hq2
  have hcc := HC.out.trans hcb (by simp); clear HC; have HC := Lib.hid hcc; clear hcc
  clear hcb HE
  have x40 := FB4.out.box.cell (i := 0) rfl
  have x41 := FB4.out.box.cell (i := 1) rfl
  go_wp2_with fail
  clear x40 x41
  refine calls_named fun WA hWA => ?_
  have hca : Ch [] WB3 WA := by rw [hWA]; exact ((Ch.refl _ _).alloc _).alloc _
  have k0 : blk WA (WB3.heap.size) (intCells []) := by rw [hWA]; exact (blk.new' _ _ (by simp)).alloc _
  have ko : blk WA (WB3.heap.size + 1) [.slice (some ⟨WB3.heap.size, 0, none⟩) 0 0] := by rw [hWA]; exact blk.new' _ _ (by simp)
  have hcls : ClsIn WA [] [.slice (some ⟨WB3.heap.size, 0, none⟩) 0 0] [[]] := (ClsIn.nil WA).add k0 (by decide)
  have hq2 := HM1.out.ch hca (by simp); clear HM1; have HM1 := Lib.hid hq2; clear hq2
  have hq2 := FB1.out.ch hca; clear FB1; have FB1 := Lib.hid hq2; clear hq2
  have hq2 := HM2.out.ch hca (by simp); clear HM2; have HM2 := Lib.hid hq2; clear hq2
  have hq2 := FB2.out.ch hca; clear FB2; have FB2 := Lib.hid hq2; clear hq2
  have hq2 := HM3.out.ch hca (by simp); clear HM3; have HM3 := Lib.hid hq2; clear hq2
  have hq2 := FB3.out.ch hca; clear FB3; have FB3 := Lib.hid hq2; clear hq2
  have hq2 := HM4.out.ch hca (by simp); clear HM4; have HM4 := Lib.hid hq2; clear hq2
  have hq2 := FB4.out.ch hca; clear FB4; have FB4 := Lib.hid hq2; clear hq2
  have hcc := HC.out.trans hca (by simp); clear HC; have HC := Lib.hid hcc; clear hcc
  clear hWA hca
  obtain ⟨es1, hs1, hd1⟩ := FB4.out.ex
  have hE := same27_yes 0 1 c4c 1 rfl (by decide) (by decide) hs1 (Sv.of_blk ko (by simp)) hd1 hcls
  have HE := Lib.hid hE; clear hE hs1 hd1 hcls ko k0
  refine HE.out.mono ?_
  rintro e WB4 ⟨rfl, hcb⟩
  have hq2 := HM1.out.ch hcb (by simp); clear HM1; have HM1 := Lib.hid hq2; clear hq2
  have hq2 := FB1.out.ch hcb; clear FB1; have FB1 := Lib.hid hq2; clear hq2
  have hq2 := HM2.out.ch hcb (by simp); clear HM2; have HM2 := Lib.hid hq2; clear hq2
  have hq2 := FB2.out.ch hcb; clear FB2; have FB2 := Lib.hid hq2; clear hq2
  have hq2 := HM3.out.ch hcb (by simp); clear HM3; have HM3 := Lib.hid hq2; clear hq2
  have hq2 := FB3.out.ch hcb; clear FB3; have FB3 := Lib.hid hq2; clear hq2
  have hq2 := HM4.out.ch hcb (by simp); clear HM4; have HM4 := Lib.hid hq2; clear hq2
  have hq2 := FB4.out.ch hcb; clear FB4; have FB4 := Lib.hid hq2; clear hq2
  have hcc := HC.out.trans hcb (by simp); clear HC; have HC := Lib.hid hcc; clear hcc
  clear hcb HE
  go_wp2_with fail
  go_ret
  exact ⟨rfl, HCW.out.trans HC.out (by simp)⟩
end
end Go.Proofs.Ytkedpifopclipaa
namespace Go.Aig
/-- what a node of a map has to be -/
def rightAt (ns : List Nd) (m : List Int) (n : Int) : Bool := decide (n < (ns.length : Int)) && (!isAndAt ns (2 * n) || litF m (lOf ns (2 * n)) != 0 && litF m (rOf ns (2 * n)) != 0)
theorem rightM_eq (ns : List Nd) (m : List Int) : rightM ns m = (rising m && m.all (rightAt ns m)) := rfl
theorem all_take_succ {α : Type} {p : α → Bool} {l : List α} {k : Nat} {x : α} (h : (l.take k).all p = true) (hx : l[k]? = some x) (hp : p x = true) : (l.take (k + 1)).all p = true := by
  rw [List.take_add_one, hx, List.all_append, h]
  simp [hp]
theorem all_false {α : Type} {p : α → Bool} {l : List α} {k : Nat} {x : α} (hx : l[k]? = some x) (hp : p x = false) : l.all p = false := by
  rw [← Bool.not_eq_true, List.all_eq_true]
  intro h
  have := h x (List.mem_of_getElem? hx)
  rw [hp] at this
  cases this
end Go.Aig
namespace Go.Proofs.Ytkedpifopclipaa
open Go.RowKit Go.Mem Go.Aig
section
set_option maxRecDepth 100000 in
set_option maxHeartbeats 4000000 in
theorem tsRight_is {w : World} {g : Nat} {G : Gra} {F : List Nat} (h : GIn w g G F) {a : Option Addr} {m : List Int} (n c : Nat) (hn : m.length = n) (hnl : n ≤ 100000) (hS : Sl w a m) :
    Calls Try.prog 34 #[.pointer (some ⟨g, 0, none⟩), .slice a n c] w fun e w' => e = .returned (.bool (rightM G.nodes m)) ∧ Ch [] w w' := by
  have hRI := tsrising_is n c hn (by omega) hS
  have hpos := h.ok.wf.pos
  have hlen := h.ok.room
  have hmost := h.ok.most
  have hL := fun (W : World) (hc : Ch [] w W) => Len_g (h.same hc (by simp))
  have hSd := fun (W : World) (hc : Ch [] w W) (r : Int) (hr : r ≤ 9223372036854775807) => Sides_g (h.same hc (by simp)) r hr
  have hLt := fun (W : World) (hc : Ch [] w W) (r : Int) hr => tsLit_is n c hn (by omega) (hS.ch hc (by simp)) r hr
  have hside : ∀ x : Int, 0 ≤ lOf G.nodes (2 * x) ∧ lOf G.nodes (2 * x) ≤ 1000000 ∧ 0 ≤ rOf G.nodes (2 * x) ∧ rOf G.nodes (2 * x) ≤ 1000000 := fun x => by
    unfold lOf rOf
    cases hx : nodeAt G.nodes (2 * x) with
    | none => simp
    | some y =>
      obtain ⟨h0, h1⟩ := nodeAt_some hx
      simp only
      split
      · rename_i h3
        obtain ⟨_, h2⟩ := side_of h.ok.wf h1
        obtain ⟨_, _, _, _, h5, h6⟩ := h2 h3
        have := (List.getElem?_eq_some_iff.1 h1).1
        omega
      · omega
  obtain ⟨RM, hrm0⟩ : ∃ RM, rightM G.nodes m = RM := ⟨_, rfl⟩
  rw [hrm0]
  have hrm := rightM_eq G.nodes m
  rw [hrm0] at hrm
  clear hrm0
  obtain ⟨NL, hNL⟩ : ∃ NL, G.nodes.length = NL := ⟨_, rfl⟩
  rw [hNL] at hL hpos hlen
  have HSD := Lib.hid hSd; clear hSd
  have HLT := Lib.hid hLt; clear hLt
  have HL := Lib.hid hL; clear hL
  have HSI := Lib.hid hside; clear hside
  have HS := Lib.hid hS; clear hS
  have HN := Lib.hid hn; clear hn
  have HRM := Lib.hid hrm; clear hrm
  have HNL := Lib.hid hNL; clear hNL h
  cases hri : rising m
  · rw [hri] at hRI
    have hn1 : 1 ≤ n := by
      rw [← HN.out]
      cases m with
      | nil => simp [rising, risingF] at hri
      | cons x m => simp
    have e : RM = false := by rw [HRM.out, hri]; rfl
    obtain ⟨x, hx⟩ : ∃ x, m[0]? = some x := ⟨_, List.getElem?_eq_getElem (by have := HN.out; omega)⟩
    obtain ⟨xb, xo, rfl, hcl⟩ := HS.out.cells 0 x hx
    rw [Nat.add_zero] at hcl
    subst e
    clear hri hx HRM
    have hL0 := HL.out w (Ch.refl _ _)
    clear HL HSD HLT
    go_enter Try.func34, Try.ntmps34
    go_wp2_with fail
    refine wp_scope_straight ?_
    go_wp2_with fail
    refine hRI.mono ?_
    rintro e w' ⟨rfl, rfl⟩
    go_wp2_with fail
    refine wp_label ?_
    go_wp2_with fail
    go_loopw [5, 19] (fun q i wr => q = .bool false ∧ i = .int .i64 0 ∧ wr = w) (fun _ _ _ => 0)
    case atStart => exact ⟨rfl, rfl, rfl⟩
    case round =>
      obtain ⟨rfl, rfl, rfl⟩ := hrel
      go_wp2_with fail
      try simp only [Exit.noGoto]
      go_ret
      exact ⟨rfl, Ch.refl _ _⟩
  · rw [hri] at hRI
    have hr := (rising_iff m).1 hri
    have e : RM = m.all (rightAt G.nodes m) := by rw [HRM.out, hri]; rfl
    have hrat : ∀ x, rightAt G.nodes m x = (decide (x < (NL : Int)) && (!isAndAt G.nodes (2 * x) || litF m (lOf G.nodes (2 * x)) != 0 && litF m (rOf G.nodes (2 * x)) != 0)) := fun x => by unfold rightAt; rw [HNL.out]
    clear hri HRM
    have HRT := Lib.hid hrat; clear hrat
    have HR := Lib.hid hr; clear hr
    have HRM := Lib.hid e; clear e
    go_enter Try.func34, Try.ntmps34
    go_wp2_with fail
    refine wp_scope_straight ?_
    go_wp2_with fail
    refine hRI.mono ?_
    rintro e w' ⟨rfl, rfl⟩
    go_wp2_with fail
    refine wp_label ?_
    go_wp2_with fail
    go_loopw [5, 19] (fun q i wr => ∃ k : Nat, k ≤ n ∧ q = .bool true ∧ i = .int .i64 k ∧ Ch [] w wr ∧ (m.take k).all (rightAt G.nodes m) = true) (fun _ i _ => n - (intOf i).toNat)
    case atStart => exact ⟨0, by omega, rfl, rfl, Ch.refl _ _, by simp⟩
    case round =>
      obtain ⟨k, hk, rfl, rfl, hc, hall⟩ := hrel
      by_cases hlt : k < n
      · obtain ⟨x, hx⟩ : ∃ x, m[k]? = some x := ⟨_, List.getElem?_eq_getElem (by have := HN.out; omega)⟩
        obtain ⟨xb, xo, rfl, d0⟩ := HS.out.cells k x hx
        have c0 := (hc.cell (cell_lt d0) (by simp)).trans d0
        have hxb := HR.out.1 x (List.mem_of_getElem? hx)
        have hL0 := HL.out wr hc
        have hrx := HRT.out x
        have hsd := HSD.out wr hc (2 * x) (by omega)
        have hsi := HSI.out x
        generalize lOf G.nodes (2 * x) = L at *
        generalize rOf G.nodes (2 * x) = R at *
        have HX := Lib.hid hx; clear hx d0
        have HC := Lib.hid hc; clear hc
        have HALL := Lib.hid hall; clear hall
        by_cases hxl : (NL : Int) ≤ x
        · have d1 : decide ((NL : Int) ≤ x) = true := decide_eq_true hxl
          rw [decide_eq_false (by omega : ¬ x < (NL : Int)), Bool.false_and] at hrx
          have hf := all_false HX.out hrx
          have HF := Lib.hid hf; clear hf hrx hsd
          go_wp2_with fail
          refine hL0.mono ?_
          rintro e w' ⟨rfl, rfl⟩
          go_wp2_with fail
          try simp only [Exit.noGoto]
          go_ret
          exact ⟨by rw [HRM.out, HF.out]; rfl, HC.out⟩
        · have d1 : decide ((NL : Int) ≤ x) = false := decide_eq_false hxl
          rw [decide_eq_true (by omega : x < (NL : Int)), Bool.true_and] at hrx
          cases hia : isAndAt G.nodes (2 * x)
          · rw [hia] at hrx hsd
            have hall2 := all_take_succ HALL.out HX.out (by rw [hrx]; rfl)
            have HALL2 := Lib.hid hall2; clear hall2 hrx hia
            have HSD1 := Lib.hid hsd; clear hsd
            go_wp2_with fail
            refine hL0.mono ?_
            rintro e w' ⟨rfl, rfl⟩
            go_wp2_with fail
            refine HSD1.out.mono ?_
            rintro e w2 ⟨rfl, hc2⟩
            have HC2 := Lib.hid (HC.out.trans hc2 (by simp)); clear hc2
            go_wp2_with fail
            go_roundw
            case rel => exact ⟨k + 1, by omega, rfl, by go_num, HC2.out, HALL2.out⟩
            case measure => simp [intOf]; omega
          · rw [hia] at hrx hsd
            have HRX := Lib.hid hrx; clear hrx hia
            have HSD1 := Lib.hid hsd; clear hsd
            have hlt1 := fun (W : World) (hc : Ch [] w W) => HLT.out W hc L (by omega)
            have hlt2 := fun (W : World) (hc : Ch [] w W) => HLT.out W hc R (by omega)
            generalize hA : litF m L = A at *
            generalize hD : litF m R = D at *
            have HA := Lib.hid hA; clear hA
            have HD := Lib.hid hD; clear hD
            have HL1 := Lib.hid hlt1; clear hlt1
            have HL2 := Lib.hid hlt2; clear hlt2
            go_wp2_with fail
            refine hL0.mono ?_
            rintro e w' ⟨rfl, rfl⟩
            go_wp2_with fail
            refine HSD1.out.mono ?_
            rintro e w2 ⟨rfl, hc2⟩
            have HC2 := Lib.hid (HC.out.trans hc2 (by simp)); clear hc2
            go_wp2_with fail
            refine wp_named fun W3 hW3 => ?_
            have hb3 := alw_blk (xs := [.int .i64 (L : Int), .int .i64 (R : Int)]) hW3
            have hc3 := HC2.out.trans (alw_ch hW3) (by simp)
            clear hW3
            generalize w2.heap.size = b2 at *
            have HB3 := Lib.hid hb3; clear hb3
            have HC3 := Lib.hid hc3; clear hc3 HC2
            go_loopw [5, 45] (fun q i wr => ∃ j : Nat, j ≤ 2 ∧ q = .bool true ∧ i = .int .i64 j ∧ Ch [] w wr ∧ blk wr b2 [.int .i64 (L : Int), .int .i64 (R : Int)] ∧ (1 ≤ j → (A != 0) = true) ∧ (2 ≤ j → (D != 0) = true)) (fun _ i _ => 2 - (intOf i).toNat)
            case atStart => exact ⟨0, by omega, rfl, rfl, HC3.out, HB3.out, by omega, by omega⟩
            case round =>
              clear HB3 HC3
              obtain ⟨j, hj, rfl, rfl, hc, hb, h1, h2⟩ := hrel
              rcases (by omega : j = 0 ∨ j = 1 ∨ j = 2) with rfl | rfl | rfl
              · clear h1 h2
                have q0 := hb.cell (i := 0) rfl
                have hcl := HL1.out wr hc
                have hbd : 0 ≤ (1 : Int) := by decide
                cases hv : (A != 0)
                · rw [hv] at hcl
                  have hf := all_false HX.out (by rw [HRX.out]; simp only [hv]; rfl : rightAt G.nodes m x = false)
                  have HF := Lib.hid hf; clear hf hv
                  have HC3 := Lib.hid hc; clear hc
                  have HCL := Lib.hid hcl; clear hcl hb
                  go_wp2_with fail
                  refine HCL.out.mono ?_
                  rintro e w' ⟨rfl, rfl⟩
                  go_wp2_with fail
                  try simp only [Exit.noGoto]
                  go_ret
                  exact ⟨by rw [HRM.out, HF.out]; rfl, HC3.out⟩
                · rw [hv] at hcl
                  have HCL := Lib.hid hcl; clear hcl
                  have HV := Lib.hid hv; clear hv
                  have HB := Lib.hid hb; clear hb
                  have HC3 := Lib.hid hc; clear hc
                  go_wp2_with fail
                  refine HCL.out.mono ?_
                  rintro e w' ⟨rfl, rfl⟩
                  go_wp2_with fail
                  go_roundw
                  case rel => exact ⟨1, by omega, rfl, by go_num, HC3.out, HB.out, fun _ => by first | trivial | exact HV.out, by omega⟩
                  case measure => simp [intOf]
              · have h1 := h1 (Nat.le_refl _)
                clear h2
                have HA1 := Lib.hid h1; clear h1
                have q0 := hb.cell (i := 1) rfl
                have hcl := HL2.out wr hc
                have hbd : 0 ≤ (1 : Int) := by decide
                cases hv : (D != 0)
                · rw [hv] at hcl
                  have hf := all_false HX.out (by rw [HRX.out]; simp only [hv]; simp : rightAt G.nodes m x = false)
                  have HF := Lib.hid hf; clear hf hv
                  have HC3 := Lib.hid hc; clear hc
                  have HCL := Lib.hid hcl; clear hcl hb
                  go_wp2_with fail
                  refine HCL.out.mono ?_
                  rintro e w' ⟨rfl, rfl⟩
                  go_wp2_with fail
                  try simp only [Exit.noGoto]
                  go_ret
                  exact ⟨by rw [HRM.out, HF.out]; rfl, HC3.out⟩
                · rw [hv] at hcl
                  have HCL := Lib.hid hcl; clear hcl
                  have HV := Lib.hid hv; clear hv
                  have HB := Lib.hid hb; clear hb
                  have HC3 := Lib.hid hc; clear hc
                  go_wp2_with fail
                  refine HCL.out.mono ?_
                  rintro e w' ⟨rfl, rfl⟩
                  go_wp2_with fail
                  go_roundw
                  case rel => exact ⟨2, by omega, rfl, by go_num, HC3.out, HB.out, fun _ => by first | trivial | exact HA1.out, fun _ => by first | trivial | exact HV.out⟩
                  case measure => simp [intOf]
              · have h1 := h1 (by omega)
                have h2 := h2 (by omega)
                have hall2 := all_take_succ HALL.out HX.out (by rw [HRX.out, h1, h2]; rfl)
                have HALL2 := Lib.hid hall2; clear hall2 h1 h2 hb
                have HC3 := Lib.hid hc; clear hc
                go_wp2_with fail
                go_roundw
                case rel => exact ⟨k + 1, by omega, rfl, by go_num, HC3.out, HALL2.out⟩
                case measure => simp [intOf]; omega
      · have hkn : k = n := by omega
        subst hkn
        rw [List.take_of_length_le (by have := HN.out; omega)] at hall
        have HALL := Lib.hid hall; clear hall
        have hL0 := HL.out wr hc
        have d9 : decide ((0 : Int) < NL) = true := decide_eq_true (by omega)
        have HC := Lib.hid hc; clear hc
        go_wp2_with fail
        refine hL0.mono ?_
        rintro e w' ⟨rfl, rfl⟩
        go_wp2_with fail
        try simp only [Exit.noGoto]
        go_ret
        exact ⟨by rw [HRM.out, HALL.out]; rfl, HC.out⟩
end
end Go.Proofs.Ytkedpifopclipaa
namespace Go.Aig
theorem natAbs_le {m : List Int} {r : Int} (hp : m.Pairwise (fun a b => a < b)) : (litOf m r).natAbs ≤ m.length := by
  have := varOf_le hp (r / 2)
  unfold litOf
  split <;> omega
theorem litF_abs (m : List Int) (r : Int) : (litF m r).natAbs ≤ m.length := by
  unfold litF
  split
  · rename_i h
    exact natAbs_le ((rising_iff m).1 h.1).2
  · simp
theorem rightM_all {ns : List Nd} {m : List Int} (h : rightM ns m = true) : (∀ x ∈ m, 0 < x ∧ x < (ns.length : Int)) ∧ rising m = true := by
  rw [rightM_eq, Bool.and_eq_true, List.all_eq_true] at h
  refine ⟨fun x hx => ⟨(((rising_iff m).1 h.1).1 x hx).1, ?_⟩, h.1⟩
  have := h.2 x hx
  unfold rightAt at this
  rw [Bool.and_eq_true, decide_eq_true_eq] at this
  exact this.1
theorem model_bits {G : Gra} {m : List Int} (h : rightM G.nodes m = true) (ins : List Bool) : Go.Proofs.Ytkedpifopclipaa.bitsR G ins (m.map fun n => 2 * n) = if ins.length ≠ (inputs G.nodes).length then ([], 210) else (m.map fun n => bv (fun i => ins.getD i false) G.nodes (2 * n.toNat), 0) := by
  have ha := (rightM_all h).1
  have hb : badIn G (m.map fun n => 2 * n) = false := by
    unfold badIn
    rw [List.any_eq_false]
    intro r hr
    obtain ⟨n, hn, rfl⟩ := List.mem_map.1 hr
    have := ha n hn
    unfold right
    simp
    omega
  unfold Go.Proofs.Ytkedpifopclipaa.bitsR
  rw [hb, if_neg (by simp)]
  split
  · rfl
  · unfold bsOf nats
    rw [List.map_map, List.map_map]
    congr 1
    apply List.map_congr_left
    intro n hn
    have := ha n hn
    simp only [Function.comp]
    rw [show (2 * n).toNat = 2 * n.toNat by omega]
end Go.Aig
namespace Go.Proofs.Ytkedpifopclipaa
open Go.RowKit Go.Mem Go.Aig
section
variable {w : World} {g : Nat} {G : Gra} {F : List Nat}
theorem BNew.nil (w w' : World) (h : Ch [] w w') : BNew w (.slice none 0 0) [] w' := ⟨⟨rfl, .inl ⟨rfl, rfl⟩⟩, by simp, h⟩
set_option maxRecDepth 100000 in
set_option maxHeartbeats 4000000 in
theorem tsModel_is (h : GIn w g G F) {a : Option Addr} {m : List Int} (n c : Nat) (hn : m.length = n) (hnl : n ≤ 100000) (hS : Sl w a m) {xa : Option Addr} {ins : List Bool} (k xc : Nat) (hk : ins.length = k) (hB : Sb w xa ins) (hkl : k ≤ 100000) :
    Calls Try.prog 32 #[.pointer (some ⟨g, 0, none⟩), .slice a n c, .slice xa k xc] w fun e w' => ∃ v, e = .returned (.tuple #[v, .int .i64 (modelR G m ins).2]) ∧ BNew w v (modelR G m ins).1 w' := by
  have hpos := h.ok.wf.pos
  have hL := Len_g h
  have hRi := tsRight_is h n c hn hnl hS
  have hBi := fun (W : World) (hc : Ch [] w W) (ra : Option Addr) (rc : Nat) (hr : row W 45 1 (.slice ra n rc) n (intCells (m.map fun x => 2 * x))) (hbd : ∀ r ∈ m.map (fun x => 2 * x), -9223372036854775808 ≤ r ∧ r ≤ 9223372036854775807) => simBits_is (h.same hc (by simp)) (xa := xa) (ins := ins) k xc hk (hB.ch hc (by simp)) hkl (a := ra) (l := m.map fun x => 2 * x) n rc (by simpa using hn) (Sl.of_ints hr (by omega)) hbd hnl
  have hN6 : G.nodes.length ≤ 65536 := by have := h.ok.room; have := h.ok.most; omega
  have d0 : ((G.nodes.length : Int) == 0) = false := by rw [beq_eq_false_iff_ne]; omega
  unfold modelR
  cases hrm : rightM G.nodes m
  · rw [hrm] at hRi
    simp only [if_true]
    have HL := Lib.hid hL; clear hL
    have HR := Lib.hid hRi; clear hRi
    clear hBi h hS hB hrm hn hk
    generalize G.nodes.length = NL at *
    go_enter Try.func32, Try.ntmps32
    go_wp2_with fail
    refine HL.out.mono ?_
    rintro e w' ⟨rfl, rfl⟩
    go_wp2_with fail
    refine HR.out.mono ?_
    rintro e w1 ⟨rfl, hc⟩
    have HC := Lib.hid hc; clear hc
    go_wp2_with fail
    go_ret2
    exact ⟨_, rfl, BNew.nil _ _ HC.out⟩
  · rw [hrm] at hRi
    have hmb := (rightM_all hrm).1
    have hbits := model_bits hrm ins
    simp only [Bool.true_eq_false, if_false]
    have hbd : ∀ r ∈ m.map (fun x => 2 * x), -9223372036854775808 ≤ r ∧ r ≤ 9223372036854775807 := fun r hr => by
      obtain ⟨x, hx, rfl⟩ := List.mem_map.1 hr
      have := hmb x hx
      omega
    have hBi2 := fun W hc ra rc hr => hBi W hc ra rc hr hbd
    rw [show Go.Proofs.Ytkedpifopclipaa.bitsR G ins (m.map fun x => 2 * x) = bitsR G ins (m.map fun x => 2 * x) from rfl] at hbits
    rw [hbits] at hBi2
    rw [show (if ins.length ≠ (inputs G.nodes).length then (([] : List Bool), 272) else (m.map fun n => bv (fun i => ins.getD i false) G.nodes (2 * n.toNat), 0)) = ((if ins.length ≠ (inputs G.nodes).length then (([] : List Bool), 210) else (m.map fun n => bv (fun i => ins.getD i false) G.nodes (2 * n.toNat), 0)).1, if (if ins.length ≠ (inputs G.nodes).length then (([] : List Bool), 210) else (m.map fun n => bv (fun i => ins.getD i false) G.nodes (2 * n.toNat), 0)).2 = 0 then 0 else 272) by split <;> rfl]
    have hq : (if ins.length ≠ (inputs G.nodes).length then (([] : List Bool), 210) else (m.map fun n => bv (fun i => ins.getD i false) G.nodes (2 * n.toNat), 0)).2 = 0 ∨ (if ins.length ≠ (inputs G.nodes).length then (([] : List Bool), 210) else (m.map fun n => bv (fun i => ins.getD i false) G.nodes (2 * n.toNat), 0)) = ([], 210) := by split; exact .inr rfl; exact .inl rfl
    generalize (if ins.length ≠ (inputs G.nodes).length then (([] : List Bool), 210) else (m.map fun n => bv (fun i => ins.getD i false) G.nodes (2 * n.toNat), 0)) = Q at *
    obtain ⟨ql, qe⟩ := Q
    simp only at hq hBi2 ⊢
    have HL := Lib.hid hL; clear hL
    have HR := Lib.hid hRi; clear hRi
    have HBI := Lib.hid hBi2; clear hBi2 hBi
    have HS := Lib.hid hS; clear hS
    have HN := Lib.hid hn; clear hn
    have HMB := Lib.hid hmb; clear hmb
    have HQ := Lib.hid hq; clear hq
    clear h hB hrm hk hbits hbd
    generalize G.nodes.length = NL at *
    go_enter Try.func32, Try.ntmps32
    go_wp2_with fail
    refine HL.out.mono ?_
    rintro e w' ⟨rfl, rfl⟩
    go_wp2_with fail
    refine HR.out.mono ?_
    rintro e w1 ⟨rfl, hc⟩
    have HC := Lib.hid hc; clear hc
    go_wp2_with fail
    go_loopw [8, 24] (fun o i wr => ∃ j : Nat, j ≤ n ∧ i = .int .i64 j ∧ Ch [] w wr ∧ row wr 45 1 o j (intCells ((m.take j).map fun x => 2 * x)) ∧ ∀ q ∈ o.ownBlock.toList, w.heap.size ≤ q) (fun _ i _ => n - (intOf i).toNat)
    case atStart => exact ⟨0, by omega, rfl, HC.out, ⟨rfl, .inl ⟨rfl, rfl⟩⟩, by simp⟩
    case round =>
      clear HC
      obtain ⟨j, hj, rfl, hc, hrow, hlo⟩ := hrel
      obtain ⟨oa, oc, rfl⟩ := row.shape hrow
      by_cases hlt : j < n
      · obtain ⟨x, hx⟩ : ∃ x, m[j]? = some x := ⟨_, List.getElem?_eq_getElem (by rw [HN.out]; exact hlt)⟩
        obtain ⟨xb, xo, rfl, d9⟩ := HS.out.cells j x hx
        have c0 := (hc.cell (cell_lt d9) (by simp)).trans d9
        have hxb := HMB.out x (List.mem_of_getElem? hx)
        have hsu : intCells ((m.take (j + 1)).map fun x => 2 * x) = intCells ((m.take j).map fun x => 2 * x) ++ [.int .i64 (2 * x)] := by rw [List.take_add_one, hx]; simp [intCells]
        have hcA : Ch [] wr (wr.alloc (.cells #[.int .i64 (2 * x)] 45)) := (Ch.refl _ _).alloc _
        have hrA := hrow.ch hcA (by simp)
        have hbA : blk (wr.alloc (.cells #[.int .i64 (2 * x)] 45)) wr.heap.size [.int .i64 (2 * x)] := blk.new' _ _ rfl
        have HSU := Lib.hid hsu; clear hsu
        have HRA := Lib.hid hrA; clear hrA hrow
        have HBA := Lib.hid hbA; clear hbA
        have HCA := Lib.hid hcA; clear hcA
        have HCP := Lib.hid hc; clear hc
        have HLO := Lib.hid hlo; clear hlo d9 hx
        go_wp2_with (at_builtin; go_loud (refine wpList_append_row slRefs rfl _ _ rfl (v := .slice oa j oc) (n := j) (xs := intCells ((m.take j).map fun x => 2 * x)) rfl HRA.out (ad := ⟨wr.heap.size, 0, none⟩) (m := 1) (c := 1) (news := [.int .i64 (2 * x)]) rfl rfl (news_blk HBA.out) (by simp [Value.oneCell']) (by omega) (by omega) ?_; intro v' w4 hown4 hC4 hf4; obtain ⟨gb, gc, rfl⟩ := hown4.parts (by omega); have HO4 := Lib.hid hown4; clear hown4; have HCC4 := Lib.hid hC4; clear hC4; have HF4 := Lib.hid hf4; clear hf4))
        go_roundw
        case rel =>
          obtain ⟨q1, q2⟩ := app_step HCP.out HCA.out HLO.out HCC4.out HF4.out
          refine ⟨j + 1, by omega, by go_num, q1, ?_, q2⟩
          rw [HSU.out]; exact HO4.out
        case measure => simp [intOf]; omega
      · have hjn : j = n := by omega
        subst hjn
        rw [List.take_of_length_le (by rw [HN.out]; exact Nat.le_refl _)] at hrow
        have hbi := HBI.out wr hc oa oc hrow
        have HB2 := Lib.hid hbi; clear hbi hrow hlo
        have HC := Lib.hid hc; clear hc
        go_wp2_with fail
        refine HB2.out.mono ?_
        rintro e w3 ⟨v, rfl, hv1, hv2, hc3⟩
        obtain ⟨va, vc, rfl⟩ := row.shape hv1
        rcases HQ.out with h0 | h0
        · subst h0
          have HV1 := Lib.hid hv1; clear hv1
          have HV2 := Lib.hid hv2; clear hv2
          have HC3 := Lib.hid (HC.out.trans hc3 (by simp)); clear hc3
          have hz := HC.out.size
          have HZ := Lib.hid hz; clear hz
          go_wp2_with fail
          go_ret2
          exact ⟨_, rfl, HV1.out, fun q hq => Nat.le_trans HZ.out (HV2.out q hq), HC3.out⟩
        · cases h0
          have HC3 := Lib.hid (HC.out.trans hc3 (by simp)); clear hc3 hv1 hv2
          go_wp2_with fail
          go_ret2
          exact ⟨_, rfl, BNew.nil _ _ HC3.out⟩
end
end Go.Proofs.Ytkedpifopclipaa
namespace Go.Aig
theorem nth_input : ∀ (ns : List Nd) (i : Nat), i < (inputs ns).length → ∃ (n : Nat) (x : Nd), ns[n]? = some x ∧ x.k = 2 ∧ (inputs (ns.take n)).length = i := by
  intro ns
  induction ns using List.snocRec with
  | nil => intro i h; simp [inputs, inputsFrom] at h
  | snoc ns x ih =>
    intro i h
    have e : inputs (ns ++ [x]) = inputs ns ++ (if x.k = 2 then [2 * ns.length] else []) := by
      unfold inputs
      rw [inputsFrom_app, Nat.zero_add]
      congr 1
    by_cases hi : i < (inputs ns).length
    · obtain ⟨n, y, h1, h2, h3⟩ := ih i hi
      have hn := (List.getElem?_eq_some_iff.1 h1).1
      exact ⟨n, y, by rw [List.getElem?_append_left hn]; exact h1, h2, by rw [List.take_append_of_le_length (by omega)]; exact h3⟩
    · rw [e, List.length_append] at h
      by_cases h2 : x.k = 2
      · rw [if_pos h2] at h
        simp only [List.length_cons, List.length_nil] at h
        exact ⟨ns.length, x, by simp, h2, by rw [List.take_left']; omega; rfl⟩
      · rw [if_neg h2] at h
        simp at h
        omega
section
variable {ns : List Nd} (hw : WF ns) (hn6 : ns.length ≤ 65536) {l : List Nat} (hl : ∀ r ∈ l, r < 2 * ns.length)
include hw hn6
include hl
end
end Go.Aig
