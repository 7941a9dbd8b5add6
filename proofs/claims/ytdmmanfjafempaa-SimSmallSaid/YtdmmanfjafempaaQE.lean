/-
  A range over a function whose body may leave it by an exit: the caller's law. Conditions: those of XRng2's law.
  Walk over sim: first. Conditions: a graph of at most 16 inputs in memory, what tells a word.
  Walks over sim: First, Parts. Conditions: a graph in memory, any references.
  The laws' graphs, plainly: what small numbers make. No program in sight.
  Walks over pick. Conditions: slices that are read.
  Walks over step. Conditions: a graph in memory, slices that are read.
  What small numbers make, plainly: no error where there is room, and what it means. No program in sight. Conditions: none beyond the hypotheses.
  The laws' graphs, plainly: built step by step. No program in sight. Conditions: none beyond the hypotheses.
  The words of the nodes, plainly, and their bits. No program in sight. Conditions: none beyond the hypotheses.
  What was made is made again, plainly: over a graph that was cut off the one that came of it. No program in sight. Conditions: none beyond the hypotheses.
  The steps of a built graph, plainly: what lies between them, and that each made again is the same. No program in sight. Conditions: none beyond the hypotheses.
  The cone that AigCone looks through, plainly: in which order, what is marked when, how many. No program in sight. Conditions: none beyond the hypotheses.
  What Sides and Depth say of a node of the cone, plainly. No program in sight. Conditions: a well-formed graph.
  Walks over slices.BinarySearch of ints, sim's Nodes and Support. Conditions: a rising slice; a graph in memory.
  Walks over few, index, ref and made of chapter 21's laws. Conditions: a slice of nodes of any integers.
  From a law's arguments to what the walks say: nodes, slices of words. Conditions: those of the given row.
  Graphs that are none: nil, and the zero value; what Len says of them. Conditions: such a graph.
  Walks over sim's functions, for graphs that are none, and over none of chapter 21. Conditions: such a graph.
  Walk over none of chapter 21's laws: graphs that are none are refused. Conditions: none.
  Walk over slices.Equal of words; the functions of sim as steps of a walk that holds slices. Conditions: slices that can be read.
  Walk over the chapter's examples (awake of sim): true. Conditions: none.
  append of a number of zeros to a row of any shape. Conditions: a row, an element type of the table.
  Walk over slices.Clone of words; words fitted to as many as inputs; what the nodes are for words of the inputs, node by node. Conditions: a slice that can be read.
  The support of references, plainly: what does not lie in it does not matter. No program in sight. Conditions: a graph in order.
  The reference of chapter 21: Column, Assignment, Values, Value. Conditions: a graph of the reference that can be read, values 0 or 1.
  The reference of chapter 21: Value, Assignment, Column, True. Conditions: a graph of the reference that can be read, at most 17 inputs.
-/
import Derived.Test.YtdmmanfjafempaaQC
import Derived.Test.YtdmmanfjafempaaQD
import Derived.Test.YtdmmanfjafempaaQB
import Derived.Test.YtdmmanfjafempaaQA
import Derived.Lib.AppendZeros
namespace Go
open Go.RowKit Go.Mem
section
variable {F : Fence} {n : Nat} {P : Program}
theorem wpIn_rangeFunc_E {α : Type} {g : Operand} {ps : Array Tmp} {assign body : Code} {Q : Exit → Act → World → Prop} {a : Act} {w : World} (id : Nat) (B : Nat) (hB : w.heap.size = B)
    (hro : F.round = none) (h1 : 1 ≤ n) {gf : Nat} {lb : Array Value} (hg : a.eval g = .func (.func gf) #[] lb) (hFg : F.fn gf) (eg : ∀ args w, (callFunc gf args).run P w = .ok (.enter gf args) w)
    {encs : α → Array Value} {K : List Nat} {xs : List α} (hseq : SeqP F (n - 1) P gf lb encs K xs w) (hK : ∀ k ∈ K, k < B) (hps : ∀ x, (encs x).size = ps.size)
    (I : List α → World → Prop) (Ix : World → Prop) (hI : ∀ s A A', I s A → Ch [B, B + 1] A A' → I s A') (hIx : ∀ A A', Ix A → Ch [B, B + 1] A A' → Ix A') (h0 : I [] w) (a₁ : α → Act)
    (hassign : ∀ (l : Nat) (x : α) (W : World) (K : Act → World → Prop), K (a₁ x) W →
      assign.wpIn (F.inRound l) (n - 1 - 1) P (Exit.then K (fun _ _ _ => False)) { tmps := (ps.zip (encs x)).foldl (fun t (p, v) => t.setIfInBounds p v) a.tmps, defers := [] } W)
    (hbody : ∀ (l : Nat) (pre : List α) (x : α) (W : World), I pre W → B + 2 ≤ W.heap.size → (pre ++ [x]) <+: xs → body.wpIn (F.inRound l) (n - 1 - 1) P (fun e _ W' => Books B W W' ∧ ((e = .normal ∧ I (pre ++ [x]) W' ∧ Kept K W W') ∨ (e = .exit id ∧ Ix W'))) (a₁ x) W)
    (hdone : ∀ (W : World), I xs W → W.heap[B]? = some (.deferred (some [])) → B + 2 ≤ W.heap.size → Q .normal { a with defers := { target := .collected B, args := #[] } :: a.defers } W)
    (hstop : ∀ (W : World), Ix W → W.heap[B]? = some (.deferred (some [])) → B + 2 ≤ W.heap.size → (Code.exit id).wpIn F n P Q { a with defers := { target := .collected B, args := #[] } :: a.defers } W) :
    (Code.rangeFunc g ps assign body).wpIn F n P Q a w := by
  subst hB
  refine wpIn_rangeFunc fun fn hfn => ?_
  rw [hro]
  let rec0 : LoopState → Option Code → Loop := fun st pe => { state := st, pending := pe, fn, tmps := a.tmps, params := ps, assign, body, defers := w.heap.size }
  obtain ⟨W1, hW1⟩ : ∃ W1, (w.alloc (.deferred (some []))).alloc (.loop (rec0 .ready none)) = W1 := ⟨_, rfl⟩
  have hz1 : W1.heap.size = w.heap.size + 2 := by rw [← hW1]; simp
  have hL1 : W1.heap[w.heap.size + 1]? = some (.loop (rec0 .ready none)) := by
    rw [← hW1]; have := World.alloc_heap_new (w.alloc (.deferred (some []))) (.loop (rec0 .ready none)); rwa [World.size_alloc] at this
  have hK1 : W1.heap[w.heap.size]? = some (.deferred (some [])) := by
    rw [← hW1]; exact (Below.heap_alloc _ _ _ (by simp)).trans (World.alloc_heap_new w _)
  have hc1 : Ch [] w W1 := by rw [← hW1]; exact ((Ch.refl _ _).alloc _).alloc _
  have hI1 : I [] W1 := hI _ _ _ h0 (hc1.mono (by simp))
  refine ⟨w.heap.size + 1, [{ target := .collected w.heap.size, args := #[] }], W1, { target := .fn (.func gf) lb, args := #[.func (.yield (w.heap.size + 1)) #[] #[]] }, W1, gf,
    #[.func (.yield (w.heap.size + 1)) #[] #[]] ++ lb, W1, ?_, ?_, ?_, ?_, fun _ => h1, ?_⟩
  · rw [← hW1]; exact run_enterLoop_outer _ _ _ _ _
  · simp only [resolve, hg]
    simp [go_sem]
  · intro f' hf'; simp [Target.leads] at hf'; subst hf'; exact hFg
  · simp [invoke, go_sem, eg]
  · have hKne : ∀ k ∈ K, k ≠ w.heap.size + 1 := fun k hk => by have := hK k hk; omega
    refine (hseq (w.heap.size + 1) (fun pre W => I pre W ∧ w.heap.size + 2 ≤ W.heap.size ∧ W.heap[w.heap.size + 1]? = some (.loop (rec0 .ready none)) ∧ W.heap[w.heap.size]? = some (.deferred (some [])))
      (fun W => Ix W ∧ w.heap.size + 2 ≤ W.heap.size ∧ W.heap[w.heap.size + 1]? = some (.loop (rec0 .done (some (.exit id)))) ∧ W.heap[w.heap.size]? = some (.deferred (some []))) W1 (fun k hk => hc1.block k (hK k hk) (by simp))
      (fun s A A' hs hc => ⟨hI s A A' hs.1 (hc.mono (by simp)), Nat.le_trans hs.2.1 hc.size, (hc.block _ (by have := hs.2.1; omega) (by simp)).trans hs.2.2.1, (hc.block _ (by have := hs.2.1; omega) (by simp)).trans hs.2.2.2⟩)
      (fun A A' hs hc => ⟨hIx A A' hs.1 (hc.mono (by simp)), Nat.le_trans hs.2.1 hc.size, (hc.block _ (by have := hs.2.1; omega) (by simp)).trans hs.2.2.1, (hc.block _ (by have := hs.2.1; omega) (by simp)).trans hs.2.2.2⟩)
      ?_ ⟨hI1, by omega, hL1, hK1⟩).mono ?_
    · rintro pre x W ⟨hi, hz, hl, hk⟩ hpre
      have hlt : w.heap.size + 1 < W.heap.size := by omega
      refine ⟨fn, _, assign, body, run_yield (P := P) (args := encs x) hl (hps x), roundIn_of_wpIn hfn (hassign _ x W _ ⟨_, run_beginRound hl rfl, ?_⟩)⟩
      have hl2 : (W.putObj (w.heap.size + 1) (.loop (rec0 .busy none))).heap[w.heap.size + 1]? = some (.loop (rec0 .busy none)) := World.putObj_heap_same hlt
      have hk2 : (W.putObj (w.heap.size + 1) (.loop (rec0 .busy none))).heap[w.heap.size]? = some (.deferred (some [])) := (World.putObj_heap_other (by omega)).trans hk
      have hK2 : ∀ k ∈ K, (W.putObj (w.heap.size + 1) (.loop (rec0 .busy none))).heap[k]? = W.heap[k]? := fun k hk => World.putObj_heap_other (hKne k hk)
      refine wpIn_mono (hbody _ pre x _ (hI _ _ _ hi (ch_put (by simp))) (by simp; omega) hpre) ?_
      rintro e a3 W3 ⟨⟨hb0, hb1⟩, (⟨rfl, hi3, hk3⟩ | ⟨rfl, hi3⟩)⟩
      · have hl3 := hb1.trans hl2
        have hlt3 := (Array.getElem?_eq_some_iff.1 hl3).1
        refine ⟨_, _, run_endRound (P := P) none hl3, .inl ⟨rfl, ⟨hI _ _ _ hi3 (ch_put (by simp)), by simp; omega, World.putObj_heap_same hlt3, (World.putObj_heap_other (by omega)).trans (hb0.trans hk2)⟩, fun k hk => ?_⟩⟩
        exact (World.putObj_heap_other (hKne k hk)).trans ((hk3 k hk).trans (hK2 k hk))
      · have hl3 := hb1.trans hl2
        have hlt3 := (Array.getElem?_eq_some_iff.1 hl3).1
        refine ⟨_, _, run_endRound (P := P) (some (.exit id)) hl3, .inr ⟨rfl, hIx _ _ hi3 (ch_put (by simp)), by simp; omega, World.putObj_heap_same hlt3, (World.putObj_heap_other (by omega)).trans (hb0.trans hk2)⟩⟩
    · rintro e W2 ⟨⟨v, rfl⟩, (⟨hi, hz, hl, hk⟩ | ⟨hi, hz, hl, hk⟩)⟩
      · exact ⟨none, _, run_endLoop (P := P) hl (by simp [rec0]), hdone _ (hI _ _ _ hi (ch_put (by simp))) ((World.putObj_heap_other (by omega)).trans hk) (by simp; omega)⟩
      · exact ⟨some (.exit id), _, run_endLoop (P := P) hl (by simp [rec0]), hstop _ (hIx _ _ hi (ch_put (by simp))) ((World.putObj_heap_other (by omega)).trans hk) (by simp; omega)⟩
end
end Go
namespace Go.Aig
theorem tabL_prefix {ns : List Nd} {f : List Nat → Nat} {n : Nat} {pre : List (Nat × Nat)} {i x : Nat} (h : (pre ++ [(i, x)]) <+: Go.Proofs.Ytdmmanfjafempaa.tabL ns f n) : i = pre.length ∧ i < 2 ^ (n - 6) ∧ (tabW ns f n).getD i 0 = x := by
  obtain ⟨t, ht⟩ := h
  have h1 : (Go.Proofs.Ytdmmanfjafempaa.tabL ns f n)[pre.length]? = some (i, x) := by rw [← ht]; simp
  have hl := (List.getElem?_eq_some_iff.1 h1).1
  rw [Go.Proofs.Ytdmmanfjafempaa.tabL_len] at hl
  rw [Go.Proofs.Ytdmmanfjafempaa.tabL_at ns f n hl] at h1
  have h2 := Option.some.inj h1
  have e1 := congrArg Prod.fst h2
  have e2 := congrArg Prod.snd h2
  simp only at e1 e2
  refine ⟨e1.symm, by omega, ?_⟩
  rw [List.getD_eq_getElem?_getD, ← e1, tab_at ns f n hl]
  exact e2
theorem firstR_none {T : List Nat} {n : Nat} {p : Nat → Bool} (h : TabOf T n p) (h0 : ∀ a, a < 64 * 2 ^ (n - 6) → tbit T a = false) : firstR n p = ([], false) := by
  have : firstV n p = none := firstV_none.2 fun a ha => by
    rw [← h.at' a ha]
    exact h0 a (Nat.lt_of_lt_of_le ha (blocks_le n))
  unfold firstR
  rw [this]
theorem firstR_some {T : List Nat} {n : Nat} {p : Nat → Bool} {a : Nat} (h : TabOf T n p) (ha : a < 64 * 2 ^ (n - 6)) (h1 : tbit T a = true) (h0 : ∀ b, b < a → tbit T b = false) : firstR n p = (asgBits n a, true) ∧ a < 2 ^ n := by
  have hn : a < 2 ^ n := by
    by_cases hn : a < 2 ^ n
    · exact hn
    · rw [h.out a (by omega) ha] at h1; cases h1
  have : firstV n p = some a := by
    unfold firstV
    refine find_range p a (by rw [← h.at' a hn]; exact h1) (fun b hb => by rw [← h.at' b (by omega)]; exact h0 b hb) _ hn
  unfold firstR
  rw [this]
  exact ⟨rfl, hn⟩
theorem asgBits_snoc (n a k : Nat) (hk : k < n) : (asgBits n a).take (k + 1) = (asgBits n a).take k ++ [a.testBit k] := by
  rw [List.take_add_one]
  congr 1
  unfold asgBits
  rw [List.getElem?_map, List.getElem?_range hk]
  rfl
end Go.Aig
namespace Go.Proofs.Ytdmmanfjafempaa
open Go.RowKit Go.Mem Go.Aig
attribute [local go_sem] Oper.semAt_some
section
variable {w : World} {g : Nat} {G : Gra} {F : List Nat}
set_option maxRecDepth 100000 in
set_option maxHeartbeats 8000000 in
theorem simfirst_is (h : GIn w g G F) {fid : Nat} {caps : Array Value} {Kf : List Nat} {f : List Nat → Nat} (hT : TellW w fid caps Kf G.nodes.length f) {n : Nat} (hn : (inputs G.nodes).length = n) (h16 : n ≤ 16) {p : Nat → Bool} (hp : TabOf (tabW G.nodes f n) n p) :
    Calls Try.prog 116 #[.pointer (some ⟨g, 0, none⟩), .func (.func fid) #[] caps] w fun e w' => ∃ v, e = .returned (.tuple #[v, .bool (firstR n p).2]) ∧ BNew w v (firstR n p).1 w' := by
  have hFl := h.lt
  have hKl := hT.ksz
  have H := Lib.hid h; clear h
  have HT := Lib.hid hT; clear hT
  have HN := Lib.hid hn; clear hn
  have HP := Lib.hid hp; clear hp
  refine callsIn_wide (n := 4) |>.1 ?_
  refine callsIn_of_wp_marks Try.func116 rfl trivial ?_ rfl
  simp only [Try.ntmps116, List.size_toArray, List.length_cons, List.length_nil, Nat.reduceAdd, Nat.reduceSub, Array.replicate_succ, Array.replicate_zero, List.push_toArray, List.append_toArray, List.nil_append, List.cons_append]
  refine wpIn_wide.2 ?_
  go_wp2_with fail
  refine wp_scope_straight ?_
  go_wp2_with fail
  refine wp_label ?_
  go_upto_region 2 with fail
  refine wp_named fun W3 hW3 => ?_
  have hb6 : blk W3 w.heap.size [.int .i64 (-1)] := by rw [hW3]; exact blk.new' _ _ rfl
  have hc3 : Ch [] w W3 := by rw [hW3]; exact (Ch.refl _ _).alloc _
  clear hW3
  have HB6 := Lib.hid hb6; clear hb6
  have HC3 := Lib.hid hc3; clear hc3
  go_wp2_with fail
  refine (simtable_is W3 g fid caps).mono ?_
  rintro e W5 ⟨rfl, hc5, hbg, hbf, hz5⟩
  have hb6 := HB6.out.ch hc5 (by simp)
  have hz6 := HB6.out.lt
  have hc := HC3.out.trans hc5 (by simp)
  clear hc5 HB6 HC3
  generalize hbG : W3.heap.size = bg at *
  obtain ⟨b6, hb6e⟩ : ∃ b6, w.heap.size = b6 := ⟨_, rfl⟩
  rw [hb6e] at hb6 hz6 hFl hKl
  have H6 := Lib.hid hb6; clear hb6
  have HG := Lib.hid hbg; clear hbg
  have HF := Lib.hid hbf; clear hbf
  have HC5 := Lib.hid hc; clear hc
  have HKT : TellW W5 fid caps Kf G.nodes.length f := ⟨HT.out.fn, HT.out.lt, fun k hk => by have := HT.out.ksz k hk; have := HC5.out.size; omega, fun W hW => HT.out.tells W (fun k hk => (hW k hk).trans (HC5.out.block k (HT.out.ksz k hk) (by simp)))⟩
  have hseq := simtable_seq (H.out.same HC5.out (by simp)) HKT rfl HN.out h16 HG.out HF.out 3 (by omega)
  clear HKT
  rw [hb6e]
  go_wp2_with fail
  refine (wpIn_wide (n := 4)).1 ?_
  obtain ⟨B, hB⟩ : ∃ B, W5.heap.size = B := ⟨_, rfl⟩
  have HB6e := Lib.hid hb6e; clear hb6e
  refine wpIn_rangeFunc_E (n := 4) 0 B hB rfl (by omega) rfl trivial (fun args w => fnvsimtable1 args w) hseq ?kb (fun _ => rfl)
    (fun pre W => blk W b6 [.int .i64 (-1)] ∧ Ch [b6, B, B + 1] W5 W ∧ ∀ a, a < 64 * pre.length → tbit (tabW G.nodes f n) a = false)
    (fun W => ∃ a : Nat, a < 64 * 2 ^ (n - 6) ∧ tbit (tabW G.nodes f n) a = true ∧ (∀ b, b < a → tbit (tabW G.nodes f n) b = false) ∧ blk W b6 [.int .i64 a] ∧ Ch [b6, B, B + 1] W5 W) ?hi ?hx ?h0 ?a1 ?assign ?body ?done ?stop
  case assign =>
    intro q x W K hK
    simp only [tabEnc]
    gi_wp2
    exact hK
  case kb =>
    intro k hk
    simp only [List.mem_cons, List.mem_append] at hk
    rcases hk with rfl | rfl | hk | hk
    · omega
    · omega
    · have := hFl k hk; omega
    · have := hKl k hk; omega
  case hi =>
    rintro pre A A' ⟨h2, h3, h4⟩ hc
    exact ⟨h2.ch hc (by simp; omega), h3.trans (hc.mono (F' := [b6, B, B + 1]) (by simp)) (fun q hq => .inl hq), h4⟩
  case hx =>
    rintro A A' ⟨a, h1, h2, h3, h4, h5⟩ hc
    exact ⟨a, h1, h2, h3, h4.ch hc (by simp; omega), h5.trans (hc.mono (F' := [b6, B, B + 1]) (by simp)) (fun q hq => .inl hq)⟩
  case h0 => exact ⟨H6.out, Ch.refl _ _, fun a ha => by simp at ha⟩
  case body =>
    rintro q pre ⟨i, x⟩ W ⟨hb6, hc, hz⟩ hWl hpx
    obtain ⟨hi, hi2, hxg⟩ := tabL_prefix hpx
    have hxm : x ∈ tabW G.nodes f n := by
      have h1 := List.IsPrefix.subset hpx (List.mem_append_right pre (List.mem_singleton.2 rfl))
      rw [← tabL_snd]
      exact List.mem_map.2 ⟨(i, x), h1, rfl⟩
    have hx := tabW_lt _ _ _ x hxm
    have hi10 : i ≤ 1024 := by
      have : (2 : Nat) ^ (n - 6) ≤ 2 ^ 10 := Nat.pow_le_pow_right (by omega) (by omega)
      omega
    rw [← hi] at hz
    have hbt : ∀ k, k < 64 → tbit (tabW G.nodes f n) (64 * i + k) = x.testBit k := fun k hk => by rw [tbit_at _ _ _ hk, hxg]
    have hb6B : b6 < B := by omega
    have hbgB : bg + 2 ≤ B := by omega
    have hlen : (pre ++ [(i, x)]).length = i + 1 := by simp [hi]
    have HLEN := Lib.hid hlen; clear hlen
    have HBT := Lib.hid hbt; clear hbt
    have HZ := Lib.hid hz; clear hz
    have HB := Lib.hid hB
    have HCC := Lib.hid hc; clear hc
    have HB6' := Lib.hid hb6; clear hb6
    have HI0 := Lib.hid hi; clear hi
    clear hpx hseq hB hxm hxg
    gi_wp2
    gi_loopw [17] (fun y wr => ∃ k : Nat, k ≤ 64 ∧ y = .int .i64 k ∧ wr = W ∧ ∀ j, j < k → x.testBit j = false) (fun y _ => 64 - (intOf y).toNat)
    case atStart => exact ⟨0, by omega, rfl, rfl, fun j hj => by omega⟩
    case round =>
      obtain ⟨k, hk, rfl, rfl, hzk⟩ := hrel
      have HZK := Lib.hid hzk; clear hzk
      by_cases hlt : k < 64
      · have hbit := bit_u64 x k (by omega)
        cases hb : x.testBit k
        · rw [hb] at hbit
          have HBK := Lib.hid hb; clear hb
          gi_wp2
          go_roundw
          case rel =>
            refine ⟨k + 1, by omega, by go_num, trivial, fun j hj => ?_⟩
            by_cases hjk : j < k
            · exact HZK.out j hjk
            · rw [show j = k by omega]; exact HBK.out
          case measure => simp [intOf]; omega
        · rw [hb] at hbit
          have HBK := Lib.hid hb; clear hb
          have c6 := HB6'.out.cell (i := 0) rfl
          have f6 := HB6'.out.frozen (i := 0)
          gi_wp2
          have hcS : Ch [b6] wr (wr.setCell ⟨b6, 0, none⟩ (.int .i64 (64 * (i : Int) + k))) := (Ch.refl _ _).setCell (.inl (by simp)) _
          refine ⟨Books.of_ch hcS hWl (by simp; omega), 64 * i + k, by omega, by rw [HBT.out k hlt]; exact HBK.out, fun b hb => ?_, ?_, HCC.out.trans hcS (by simp)⟩
          · by_cases hbi : b < 64 * i
            · exact HZ.out b hbi
            · rw [show b = 64 * i + (b - 64 * i) by omega, HBT.out _ (by omega)]
              exact HZK.out _ (by omega)
          · have := HB6'.out.set (i := 0) (.int .i64 (64 * (i : Int) + k))
            simpa using this
      · have hk6 : k = 64 := by omega
        subst hk6
        gi_wp2
        have hz := HZ.out
        have hbt := HBT.out
        rw [HI0.out] at hz hbt
        refine ⟨⟨rfl, rfl⟩, ⟨HB6'.out, HCC.out, fun a ha => ?_⟩, fun _ _ => rfl⟩
        by_cases hai : a < 64 * pre.length
        · exact hz a hai
        · rw [show a = 64 * pre.length + (a - 64 * pre.length) by omega, hbt _ (by omega)]
          exact HZK.out _ (by omega)
  case done =>
    rintro W ⟨hb6, hc, hz⟩ hK _
    rw [tabL_len] at hz
    have hfr := firstR_none HP.out hz
    have HFR := Lib.hid hfr; clear hfr
    have c6 := hb6.cell (i := 0) rfl
    have HB6 := Lib.hid hb6; clear hb6
    have HCC := Lib.hid hc; clear hc
    have HK := Lib.hid hK; clear hK
    clear hseq hz
    go_wp2
    simp only [Exit.noGoto]
    refine ⟨by simp, .inl ⟨_, _, rfl, run_takeDeferred HK.out, ?_⟩⟩
    refine ⟨_, results_tmp2 rfl _ _ _, .slice none 0 0, by rw [HFR.out]; rfl, ?_⟩
    rw [HFR.out]
    exact ⟨⟨rfl, .inl ⟨rfl, rfl⟩⟩, by simp, HC5.out.trans (HCC.out.trans (ch_put (l := B) (L := [B]) (by simp)) (fun q hq => .inl (by simp at hq; simp [hq]))) (fun q hq => .inr (by have := HC5.out.size; have := HB6e.out; simp only [List.mem_cons, List.not_mem_nil, or_false] at hq; omega))⟩
  case stop =>
    rintro W ⟨a, ha, hta, hza, hb6, hc⟩ hK hzB
    obtain ⟨hfr, han⟩ := firstR_some HP.out ha hta hza
    have HFR := Lib.hid hfr; clear hfr
    have c6 := hb6.cell (i := 0) rfl
    have HB6 := Lib.hid hb6; clear hb6
    have HCC := Lib.hid hc; clear hc
    have HK := Lib.hid hK; clear hK
    have HI := Inputs_g ((H.out.same HC5.out (by simp)).same HCC.out (fun k hk hin => by have := hFl k hk; simp only [List.mem_cons, List.not_mem_nil, or_false] at hin; omega))
    rw [HN.out] at HI
    have HI := Lib.hid HI
    clear hseq hta hza
    have hzB' : B < W.heap.size := by omega
    refine wpIn_exit ?_
    go_wp2_with fail
    refine HI.out.mono ?_
    rintro e W6 ⟨v, rfl, hrI, _, hc6⟩
    obtain ⟨ia, ic, rfl⟩ := row.shape hrI
    have hk6 := (hc6.block B hzB' (by simp)).trans HK.out
    have c6 := (HB6.out.ch hc6 (by simp)).cell (i := 0) rfl
    have hz66 := hc6.size
    have HCC6 := Lib.hid (HCC.out.trans hc6 (by simp)); clear hc6 hrI
    have HC66 := Lib.hid c6
    have HK6 := Lib.hid hk6; clear hk6
    have hlen : (asgBits n a).length = n := asgBits_len n a
    have HSN := Lib.hid (asgBits_snoc n a)
    have hz6 := HCC6.out.size
    have hz7 := HC5.out.size
    have ha63 : a < 9223372036854775808 := by
      have : (2 : Nat) ^ n ≤ 2 ^ 16 := Nat.pow_le_pow_right (by omega) (by omega)
      omega
    clear HI
    go_wp2_with fail
    go_loopw [10, 35] (fun o i wr => ∃ k : Nat, k ≤ n ∧ i = .int .i64 k ∧ Ch [] W6 wr ∧ row wr 4 1 o k (bools ((asgBits n a).take k)) ∧ ∀ q ∈ o.ownBlock.toList, W6.heap.size ≤ q) (fun _ i _ => n - (intOf i).toNat)
    case atStart => exact ⟨0, by omega, rfl, Ch.refl _ _, ⟨rfl, .inl ⟨rfl, rfl⟩⟩, by simp⟩
    case round =>
      clear c6
      obtain ⟨k, hk, rfl, hc, hrow, hlo⟩ := hrel
      obtain ⟨oa, oc, rfl⟩ := row.shape hrow
      have HROW := Lib.hid hrow; clear hrow
      by_cases hlt : k < n
      · have hsn := HSN.out k hlt
        have c6 := (hc.cell (p := ⟨b6, 0, none⟩) (cell_lt HC66.out) (by simp)).trans HC66.out
        have hbit := bit_i64 a k ha63
        rw [← Nat.testBit_eq_decide_div_mod_eq] at hbit
        have HC := Lib.hid hc; clear hc
        have HLO := Lib.hid hlo; clear hlo
        generalize a.testBit k = tb at hsn hbit
        have hcA : Ch [] wr (wr.alloc (.cells #[.bool tb] 4)) := (Ch.refl _ _).alloc _
        have hrA := HROW.out.ch hcA (by simp)
        have hbA : blk (wr.alloc (.cells #[.bool tb] 4)) wr.heap.size [.bool tb] := blk.new' _ _ rfl
        have HSU := Lib.hid hsn; clear hsn
        have HRA := Lib.hid hrA; clear hrA
        have HBA := Lib.hid hbA; clear hbA
        have HCA := Lib.hid hcA; clear hcA
        go_wp2_with (at_builtin; go_loud (refine wpList_append_row slBools rfl _ _ rfl (v := .slice oa k oc) (n := k) (xs := bools ((asgBits n a).take k)) rfl HRA.out (ad := ⟨wr.heap.size, 0, none⟩) (m := 1) (c := 1) (news := [.bool tb]) rfl rfl (news_blk HBA.out) (by simp [Value.oneCell']) (by omega) (by omega) ?_; intro v' w5 hown4 hC4 hf4; have HO4 := Lib.hid hown4; clear hown4; have HCC4 := Lib.hid hC4; clear hC4; have HF4 := Lib.hid hf4; clear hf4))
        go_roundw
        case rel =>
          obtain ⟨q1, q2⟩ := app_step HC.out HCA.out HLO.out HCC4.out HF4.out
          refine ⟨k + 1, by omega, by go_num, q1, ?_, q2⟩
          rw [HSU.out, show bools ((asgBits n a).take k ++ [tb]) = bools ((asgBits n a).take k) ++ [.bool tb] by simp [bools]]
          exact HO4.out
        case measure => simp [intOf]; omega
      · have hkn : k = n := by omega
        have hall : (asgBits n a).take k = asgBits n a := List.take_of_length_le (by omega)
        have hrow := HROW.out
        rw [hall, hkn] at hrow
        clear HROW
        rw [hkn] at hlo ⊢
        have hk7 := (hc.block B (by omega) (by simp)).trans HK6.out
        have HK7 := Lib.hid hk7; clear hk7
        have HROW := Lib.hid hrow; clear hrow
        have HLO := Lib.hid hlo; clear hlo
        have HC := Lib.hid hc; clear hc hall hkn
        go_wp2_with fail
        simp only [Exit.noGoto]
        refine ⟨by simp, .inl ⟨_, _, rfl, run_takeDeferred HK7.out, ?_⟩⟩
        refine ⟨_, results_tmp2 rfl _ _ _, .slice oa n oc, by rw [HFR.out]; rfl, ?_⟩
        rw [HFR.out]
        have hcB := ch_put (l := B) (L := [B]) (o' := .deferred none) (A := wr) (by simp)
        refine ⟨?_, fun q hq => ?_, ?_⟩
        · have h1 := HROW.out.ch hcB (fun q hq hin => by have := HLO.out q (by rw [hq]; simp); simp at hin; omega)
          show row _ _ 1 _ (asgBits n a).length (bools (asgBits n a))
          rw [asgBits_len]
          exact h1
        · have := HLO.out q hq
          omega
        · exact HC5.out.trans ((HCC6.out.trans HC.out (by simp)).trans hcB (fun q hq => .inl (by simp at hq; simp [hq]))) (fun q hq => .inr (by have := HB6e.out; simp only [List.mem_cons, List.not_mem_nil, or_false] at hq; omega))
end
end Go.Proofs.Ytdmmanfjafempaa
namespace Go.Proofs.Ytdmmanfjafempaa
open Go.RowKit Go.Mem Go.Aig
/-- what First returns, and what Parts does -/
def firstG (G : Gra) (r : Int) : (List Bool × Bool) × Nat := (if tabE G [r] = 0 then firstR (inputs G.nodes).length (tellR G.nodes (inputs G.nodes).length r.toNat) else ([], false), tabE G [r])
def partsG (G : Gra) (a b : Int) : (List Bool × Bool) × Nat := (if tabE G [a, b] = 0 then firstR (inputs G.nodes).length (tellX G.nodes (inputs G.nodes).length a.toNat b.toNat) else ([], false), tabE G [a, b])
theorem fnvsimParts1 : Fnv 117 := fnv_of Try.func117 (by simp [Try.f117]) (by simp [Try.f117])
theorem bits_xor_u64 (a b : Nat) (ha : a < 18446744073709551616) (hb : b < 18446744073709551616) : bits .xor .u64 (a : Int) (b : Int) = ((a ^^^ b : Nat) : Int) := bits_xor_u64_nat a b ha hb
section
variable {w : World} {g : Nat} {G : Gra} {F : List Nat}
set_option maxRecDepth 100000 in
set_option maxHeartbeats 2000000 in
theorem simFirst_is (h : GIn w g G F) (r : Int) (hr : -9223372036854775808 ≤ r ∧ r ≤ 9223372036854775807) :
    Calls Try.prog 53 #[.pointer (some ⟨g, 0, none⟩), .int .i64 r] w fun e w' => ∃ v, e = .returned (.tuple #[v, .bool (firstG G r).1.2, .int .i64 (firstG G r).2]) ∧ BNew w v (firstG G r).1.1 w' := by
  have HTD := fun (W : World) (hW : Ch [] w W) (b : Nat) (hb : blk W b [.int .i64 r]) => simtabled_is (h.same hW (by simp)) (l := [r]) 1 1 rfl (Sl.one hb) (by simpa using hr.2)
  unfold firstG
  have hok := tabE_ok (G := G) (l := [r])
  generalize tabE G [r] = te at *
  have HTD := Lib.hid HTD
  by_cases h0 : te = 0
  · subst h0
    obtain ⟨hbad, h16⟩ := hok rfl
    have hrr := badIn_no hbad
    obtain ⟨r0, rfl⟩ : ∃ r0 : Nat, r = (r0 : Int) := ⟨r.toNat, by
      have := hrr.1
      simp [nats] at this
      omega⟩
    have hrl : r0 < 2 * G.nodes.length := hrr.2 r0 (by simp [nats])
    have hnl : G.nodes.length ≤ 65536 := by have := h.ok.room; have := h.ok.most; omega
    rw [if_pos rfl]
    have HF := fun (W : World) (hW : Ch [] w W) (bo : Nat) (hb : blk W bo [.int .i64 r0]) => simfirst_is (h.same hW (by simp)) (one_tells hrl hnl hb) rfl h16 (tabW_of G.nodes r0 _)
    rw [show (r0 : Int).toNat = r0 from rfl]
    generalize firstR (inputs G.nodes).length (tellR G.nodes (inputs G.nodes).length r0) = R at *
    obtain ⟨rl, rb⟩ := R
    have HF := Lib.hid HF
    clear hok hbad hrr h h16 hrl
    go_enter Try.func53, Try.ntmps53
    go_wp2_with fail
    refine calls_named fun W1 hW1 => ?_
    have hc1 := alw_ch hW1
    have hb1 := alw_blk (xs := [.int .i64 r0]) hW1
    clear hW1
    refine (HTD.out W1 hc1 _ hb1).mono ?_
    rintro e w2 ⟨rfl, hc2⟩
    have HC2 := Lib.hid (hc1.trans hc2 (by simp)); clear HTD hb1 hc1 hc2
    go_wp2_with fail
    refine (simone_is w2 r0).mono ?_
    rintro e W4 ⟨rfl, hW4⟩
    have hf := HF.out W4 (HC2.out.trans (alw_ch hW4) (by simp)) _ (alw_blk (xs := [.int .i64 r0]) hW4)
    have HC4 := Lib.hid (HC2.out.trans (alw_ch hW4) (by simp)); clear hW4 HC2 HF
    have HF := Lib.hid hf; clear hf
    go_wp2_with fail
    refine HF.out.mono ?_
    rintro e W5 ⟨v, rfl, hrow, hv, hc5⟩
    obtain ⟨va, vc, rfl⟩ := row.shape hrow
    have HR := Lib.hid hrow; clear hrow
    have HV := Lib.hid hv; clear hv
    have HC5 := Lib.hid hc5; clear hc5
    go_wp2_with fail
    go_ret3
    exact ⟨_, rfl, HR.out, fun q hq => Nat.le_trans HC4.out.size (HV.out q hq), HC4.out.trans HC5.out (by simp)⟩
  · rw [if_neg h0]
    have e1 : ((te : Int) != 0) = true := by simp; omega
    have HH0 := Lib.hid h0; clear h0 hok
    go_enter Try.func53, Try.ntmps53
    go_wp2_with fail
    refine calls_named fun W1 hW1 => ?_
    have hc1 := alw_ch hW1
    have hb1 := alw_blk (xs := [.int .i64 r]) hW1
    clear hW1
    refine (HTD.out W1 hc1 _ hb1).mono ?_
    rintro e w2 ⟨rfl, hc2⟩
    have HC2 := Lib.hid (hc1.trans hc2 (by simp)); clear hc1 hc2 hb1
    go_wp2_with fail
    go_ret3
    exact ⟨_, rfl, ⟨rfl, .inl ⟨rfl, rfl⟩⟩, by simp, HC2.out⟩
theorem Sl.two {w : World} {b : Nat} {r s : Int} (h : blk w b [.int .i64 r, .int .i64 s]) : Sl w (some ⟨b, 0, none⟩) [r, s] := ⟨fun i x hx => by
  rcases i with _ | _ | i
  · cases hx; exact ⟨b, 0, rfl, h.cell rfl⟩
  · cases hx; exact ⟨b, 0, rfl, h.cell rfl⟩
  · simp at hx, by simp⟩
set_option maxRecDepth 100000 in
set_option maxHeartbeats 2000000 in
theorem simParts1_is {w : World} {bx bo bp nb n r s : Nat} {vs : List Nat} (hr : r < 2 * n) (hs : s < 2 * n) (hn6 : n ≤ 65536) (hb : w.cell? ⟨bo, 0, none⟩ = some (.int .i64 r)) (hb2 : w.cell? ⟨bp, 0, none⟩ = some (.int .i64 s)) (hn : vs.length = n) (hlt : ∀ v ∈ vs, v < 2 ^ 64) (hx : w.cell? ⟨bx, 0, none⟩ = some (.slice (some ⟨nb, 0, none⟩) n n)) (hk : blk w nb (u64s vs)) :
    Calls Try.prog 117 (#[.func (.func 150) #[] #[.pointer (some ⟨bx, 0, none⟩)]] ++ #[.pointer (some ⟨bo, 0, none⟩), .pointer (some ⟨bp, 0, none⟩)]) w fun e w' => e = .returned (.int .u64 (wref U64 vs r ^^^ wref U64 vs s : Nat)) ∧ Ch [] w w' := by
  show Calls Try.prog 117 #[.func (.func 150) #[] #[.pointer (some ⟨bx, 0, none⟩)], .pointer (some ⟨bo, 0, none⟩), .pointer (some ⟨bp, 0, none⟩)] w _
  have hcf : ∀ args w, (callFunc 150 args).run Try.prog w = .ok (.enter 150 args) w := fnvsimof1
  have hO1 := fun (W : World) (hW : Ch [] w W) => simof1_is ((hW.cell (cell_lt hx) (by simp)).trans hx) (hk.ch hW (by simp)) hn hlt r hr (by omega)
  have hO2 := fun (W : World) (hW : Ch [] w W) => simof1_is ((hW.cell (cell_lt hx) (by simp)).trans hx) (hk.ch hW (by simp)) hn hlt s hs (by omega)
  have h1 := wref_lt (N := 64) hlt r
  have h2 := wref_lt (N := 64) hlt s
  rw [u64_pow] at h1 h2
  have hxo := bits_xor_u64_nat (wref U64 vs r) (wref U64 vs s) (by omega) (by omega)
  generalize wref U64 vs r = x at *
  generalize wref U64 vs s = y at *
  have HXO := Lib.hid hxo; clear hxo
  have HO1 := Lib.hid hO1; clear hO1
  have HO2 := Lib.hid hO2; clear hO2
  clear hx hk hlt hn
  go_enter Try.func117, Try.ntmps117
  go_wp2_with fail
  refine Ord.St.door (fun w' => Ch [] w w') [.fl, .ho, .ef, .fl, .ho, .ef, .fl, .fl] [0, 0, 3, 0, 0, 31, 63, 127] [0, 1, 2, 3, 4, 5, 6, 7] mixed (by kernel_rfl) rfl ?_
  obtain ⟨Wc, hWc⟩ : ∃ Wc, Wc = w.drew := ⟨_, rfl⟩
  rw [← hWc]
  have hcur : Ch [] w Wc := by rw [hWc]; exact (Ch.refl _ _).drew
  clear hWc
  refine Ord.St.fl2 (T' := ?_) 0 [1, 2, 3, 4, 5, 6, 7] _ _ rfl (by kernel_rfl) rfl rfl rfl rfl (fun K w' hk => ?_) ?_
  rotate_left
  · go_step; exact hk
  refine Ord.St.ho2 (T' := ?_) 1 [2, 3, 4, 5, 6, 7] _ _ rfl (by kernel_rfl) rfl rfl rfl rfl ?_ (fun K w' hw' hk => ?_) ?_
  rotate_left
  · exact hcur
  · have q1 := (hw'.cell (cell_lt hb) (by simp)).trans hb; have q2 := (hw'.cell (cell_lt hb2) (by simp)).trans hb2; go_step; exact hk
  refine Ord.St.fl2 (T' := ?_) 3 [2, 4, 5, 6, 7] _ _ rfl (by kernel_rfl) rfl rfl rfl rfl (fun K w' hk => ?_) ?_
  rotate_left
  · go_step; exact hk
  refine Ord.St.ho2 (T' := ?_) 4 [2, 5, 6, 7] _ _ rfl (by kernel_rfl) rfl rfl rfl rfl ?_ (fun K w' hw' hk => ?_) ?_
  rotate_left
  · exact hcur
  · have q1 := (hw'.cell (cell_lt hb) (by simp)).trans hb; have q2 := (hw'.cell (cell_lt hb2) (by simp)).trans hb2; go_step; exact hk
  refine Ord.St.efC 2 [5, 6, 7] _ rfl (by kernel_rfl) (fun K hK => ?_)
  go_wp2_with fail
  refine (HO1.out _ hcur).mono ?_
  rintro e w' ⟨rfl, rfl⟩
  go_wp2_with fail
  refine ⟨rfl, hK _ _ ?_ ?_⟩
  · exact hcur
  clear hK K
  refine Ord.St.ef 5 [6, 7] _ rfl (by kernel_rfl) (fun K hK => ?_)
  go_wp2_with fail
  refine (HO2.out _ hcur).mono ?_
  rintro e w' ⟨rfl, rfl⟩
  go_wp2_with fail
  refine ⟨rfl, hK _ _ ?_⟩; clear hK K
  refine Ord.St.fl2 (T' := ?_) 6 [7] _ _ rfl (by kernel_rfl) rfl rfl rfl rfl (fun K w' hk => ?_) ?_
  rotate_left
  · go_step; exact hk
  refine Ord.St.fl2 (T' := ?_) 7 [] _ _ rfl (by kernel_rfl) rfl rfl rfl rfl (fun K w' hk => ?_) ?_
  rotate_left
  · go_step; exact hk
  refine Ord.St.nil ?_
  go_wp2_with fail
  go_ret
  exact ⟨ret_int HXO.out, hcur⟩
theorem two_tells {w : World} {bo bp n r s : Nat} (hr : r < 2 * n) (hs : s < 2 * n) (hn6 : n ≤ 65536) (hb : blk w bo [.int .i64 r]) (hb2 : blk w bp [.int .i64 s]) : TellW w 117 #[.pointer (some ⟨bo, 0, none⟩), .pointer (some ⟨bp, 0, none⟩)] [bo, bp] n (fun vs => wref U64 vs r ^^^ wref U64 vs s) :=
  ⟨fnvsimParts1, fun vs h _ => by
    have h1 := wref_lt (N := 64) h r
    have h2 := wref_lt (N := 64) h s
    rw [u64_pow] at h1 h2
    exact Nat.xor_lt_two_pow h1 h2, fun k hk => by
      simp only [List.mem_cons, List.not_mem_nil, or_false] at hk
      rcases hk with rfl | rfl
      · exact hb.lt
      · exact hb2.lt, fun W hW bx nb vs hn hlt hx hk => simParts1_is hr hs hn6 ((hb.keep (hW bo (by simp))).cell (i := 0) rfl) ((hb2.keep (hW bp (by simp))).cell (i := 0) rfl) hn hlt hx hk⟩
set_option maxRecDepth 100000 in
set_option maxHeartbeats 2000000 in
theorem simParts_is (h : GIn w g G F) (r s : Int) (hr : -9223372036854775808 ≤ r ∧ r ≤ 9223372036854775807) (hs : -9223372036854775808 ≤ s ∧ s ≤ 9223372036854775807) :
    Calls Try.prog 54 #[.pointer (some ⟨g, 0, none⟩), .int .i64 r, .int .i64 s] w fun e w' => ∃ v, e = .returned (.tuple #[v, .bool (partsG G r s).1.2, .int .i64 (partsG G r s).2]) ∧ BNew w v (partsG G r s).1.1 w' := by
  have HTD := fun (W : World) (hW : Ch [] w W) (b : Nat) (hb : blk W b [.int .i64 r, .int .i64 s]) => simtabled_is (h.same hW (by simp)) (l := [r, s]) 2 2 rfl (Sl.two hb) (by simp; omega)
  unfold partsG
  have hok := tabE_ok (G := G) (l := [r, s])
  generalize tabE G [r, s] = te at *
  have HTD := Lib.hid HTD
  by_cases h0 : te = 0
  · subst h0
    obtain ⟨hbad, h16⟩ := hok rfl
    have hrr := badIn_no hbad
    obtain ⟨r0, rfl⟩ : ∃ r0 : Nat, r = (r0 : Int) := ⟨r.toNat, by
      have := hrr.1
      simp [nats] at this
      omega⟩
    obtain ⟨s0, rfl⟩ : ∃ s0 : Nat, s = (s0 : Int) := ⟨s.toNat, by
      have := hrr.1
      simp [nats] at this
      omega⟩
    have hrl : r0 < 2 * G.nodes.length := hrr.2 r0 (by simp [nats])
    have hsl : s0 < 2 * G.nodes.length := hrr.2 s0 (by simp [nats])
    have hnl : G.nodes.length ≤ 65536 := by have := h.ok.room; have := h.ok.most; omega
    rw [if_pos rfl]
    have HF := fun (W : World) (hW : Ch [] w W) (bo bp : Nat) (hb : blk W bo [.int .i64 r0]) (hb2 : blk W bp [.int .i64 s0]) => simfirst_is (h.same hW (by simp)) (two_tells hrl hsl hnl hb hb2) rfl h16 (tabx_of G.nodes r0 s0 _)
    rw [show (r0 : Int).toNat = r0 from rfl, show (s0 : Int).toNat = s0 from rfl]
    generalize firstR (inputs G.nodes).length (tellX G.nodes (inputs G.nodes).length r0 s0) = R at *
    obtain ⟨rl, rb⟩ := R
    have HF := Lib.hid HF
    clear hok hbad hrr h h16 hrl hsl
    go_enter Try.func54, Try.ntmps54
    go_wp2_with fail
    refine calls_named fun W1 hW1 => ?_
    have hc1 : Ch [] w W1 := by rw [hW1]; exact (((Ch.refl _ _).alloc _).alloc _).alloc _
    have hb1 : blk W1 w.heap.size [.int .i64 r0] := by rw [hW1]; exact ((blk.new' _ _ (by simp)).alloc _).alloc _
    have hb2 : blk W1 (w.heap.size + 1) [.int .i64 s0] := by rw [hW1]; exact (blk.new' _ _ (by simp)).alloc _
    have hb3 : blk W1 (w.heap.size + 2) [.int .i64 r0, .int .i64 s0] := by rw [hW1]; exact blk.new' _ _ (by simp)
    clear hW1
    refine (HTD.out W1 hc1 _ hb3).mono ?_
    rintro e w2 ⟨rfl, hc2⟩
    have hf := HF.out w2 (hc1.trans hc2 (by simp)) _ _ (hb1.ch hc2 (by simp)) (hb2.ch hc2 (by simp))
    have HC4 := Lib.hid (hc1.trans hc2 (by simp)); clear HTD hb1 hb2 hb3 hc1 hc2
    have HF := Lib.hid hf; clear hf
    go_wp2_with fail
    refine HF.out.mono ?_
    rintro e W5 ⟨v, rfl, hrow, hv, hc5⟩
    obtain ⟨va, vc, rfl⟩ := row.shape hrow
    have HR := Lib.hid hrow; clear hrow
    have HV := Lib.hid hv; clear hv
    have HC5 := Lib.hid hc5; clear hc5
    go_wp2_with fail
    go_ret3
    exact ⟨_, rfl, HR.out, fun q hq => Nat.le_trans HC4.out.size (HV.out q hq), HC4.out.trans HC5.out (by simp)⟩
  · rw [if_neg h0]
    have e1 : ((te : Int) != 0) = true := by simp; omega
    have HH0 := Lib.hid h0; clear h0 hok
    go_enter Try.func54, Try.ntmps54
    go_wp2_with fail
    refine calls_named fun W1 hW1 => ?_
    have hc1 : Ch [] w W1 := by rw [hW1]; exact (((Ch.refl _ _).alloc _).alloc _).alloc _
    have hb3 : blk W1 (w.heap.size + 2) [.int .i64 r, .int .i64 s] := by rw [hW1]; exact blk.new' _ _ (by simp)
    clear hW1
    refine (HTD.out W1 hc1 _ hb3).mono ?_
    rintro e w2 ⟨rfl, hc2⟩
    have HC2 := Lib.hid (hc1.trans hc2 (by simp)); clear hc1 hc2 hb3
    go_wp2_with fail
    go_ret3
    exact ⟨_, rfl, ⟨rfl, .inl ⟨rfl, rfl⟩⟩, by simp, HC2.out⟩
end
end Go.Proofs.Ytdmmanfjafempaa
namespace Go.Aig
/-- a small one: kind, and three numbers -/
structure Sm where
  k : Nat
  a : Nat
  b : Nat
  c : Nat
def pickI (len n : Nat) : Nat := len - 1 - n / 2 % len
def pickR (refs : List Nat) (n : Nat) : Nat := if n % 2 = 1 then neg (refs.getD (pickI refs.length n) 0) else refs.getD (pickI refs.length n) 0
def pickW (want : List Nat) (n : Nat) : Nat := if n % 2 = 1 then want.getD (pickI want.length n) 0 ^^^ 65535 else want.getD (pickI want.length n) 0
def stepW (want : List Nat) (x : Sm) : Nat :=
  let u := pickW want x.a; let v := pickW want x.b; let w := pickW want x.c
  if x.k % 6 = 0 then u &&& v else if x.k % 6 = 1 then u ||| v else if x.k % 6 = 2 then u ^^^ v else if x.k % 6 = 3 then (u &&& v) ||| ((u ^^^ 65535) &&& w) else if x.k % 6 = 4 then u &&& v &&& w else u ||| v ||| w
theorem xor_lt {a : Nat} (h : a < 65536) : a ^^^ 65535 < 65536 := Nat.xor_lt_two_pow (n := 16) h (by decide)
theorem pickW_lt {want : List Nat} (h : ∀ x ∈ want, x < 65536) (n : Nat) : pickW want n < 65536 := by
  have hd : ∀ i, want.getD i 0 < 65536 := fun i => by
    rw [List.getD_eq_getElem?_getD]
    cases hi : want[i]? with
    | none => simp
    | some x => exact h x (List.mem_of_getElem? hi)
  unfold pickW; split
  · exact xor_lt (hd _)
  · exact hd _
theorem pickI_lt {len : Nat} (h : 0 < len) (n : Nat) : pickI len n < len := by unfold pickI; omega
theorem pickR_lt {refs : List Nat} {m : Nat} (h : ∀ r ∈ refs, r < 2 * m) (h0 : 0 < refs.length) (n : Nat) : pickR refs n < 2 * m := by
  have hd : refs.getD (pickI refs.length n) 0 < 2 * m := by
    rw [List.getD_eq_getElem?_getD, List.getElem?_eq_getElem (pickI_lt h0 n)]
    exact h _ (List.getElem_mem _)
  unfold pickR; split
  · exact neg_lt hd
  · exact hd
theorem stepW_lt {want : List Nat} (h : ∀ x ∈ want, x < 65536) (x : Sm) : stepW want x < 65536 := by
  have hu := pickW_lt h x.a
  have hv := pickW_lt h x.b
  have hw := pickW_lt h x.c
  have ha : ∀ {a b : Nat}, a < 65536 → b < 65536 → a &&& b < 65536 := fun {a b} h1 h2 => Nat.and_lt_two_pow (n := 16) _ h2
  have ho : ∀ {a b : Nat}, a < 65536 → b < 65536 → a ||| b < 65536 := fun {a b} h1 h2 => Nat.or_lt_two_pow (n := 16) h1 h2
  have hx : ∀ {a b : Nat}, a < 65536 → b < 65536 → a ^^^ b < 65536 := fun {a b} h1 h2 => Nat.xor_lt_two_pow (n := 16) h1 h2
  unfold stepW
  (repeat' split)
  · exact ha hu hv
  · exact ho hu hv
  · exact hx hu hv
  · exact ho (ha hu hv) (ha (xor_lt hu) hw)
  · exact ha (ha hu hv) hw
  · exact ho (ho hu hv) hw
end Go.Aig
namespace Go.Proofs.Ytdmmanfjafempaa
open Go.RowKit Go.Mem Go.Aig
section
variable {w : World} {g : Value} {ra wa : Option Addr} {refs want : List Nat}
end
end Go.Proofs.Ytdmmanfjafempaa
namespace Go.Proofs.Ytdmmanfjafempaa
open Go.RowKit Go.Mem Go.Aig
def stepRes (G : Gra) (refs : List Nat) (x : Sm) : Res :=
  let p := pickR refs x.a; let q := pickR refs x.b; let r := pickR refs x.c
  if x.k % 6 = 0 then doAnd G p q else if x.k % 6 = 1 then doOr G p q else if x.k % 6 = 2 then doXor G p q else if x.k % 6 = 3 then doMux G p q r else if x.k % 6 = 4 then doAll G [p, q, r] else doAny G [p, q, r]
theorem and_words (x y : Nat) (hx : x < 65536) (hy : y < 65536) : bits .and .u64 (x : Int) (y : Int) = ((x &&& y : Nat) : Int) := bits_and_u64_nat x y (by omega) (by omega)
theorem or_words (x y : Nat) (hx : x < 65536) (hy : y < 65536) : bits .or .u64 (x : Int) (y : Int) = ((x ||| y : Nat) : Int) := bits_or_u64_nat x y (by omega) (by omega)
theorem xor_words (x y : Nat) (hx : x < 65536) (hy : y < 65536) : bits .xor .u64 (x : Int) (y : Int) = ((x ^^^ y : Nat) : Int) := bits_xor_u64_nat x y (by omega) (by omega)
theorem ret_iii {k l m : IntKind} {a b c d e f : Int} (h : a = b) (h' : c = d) (h'' : e = f) : Ending.returned (.tuple #[.int k a, .int l c, .int m e]) = .returned (.tuple #[.int k b, .int l d, .int m f]) := by rw [h, h', h'']
theorem and3_lt {a b : Nat} (_h1 : a < 65536) (h2 : b < 65536) : a &&& b < 65536 := Nat.and_lt_two_pow (n := 16) _ h2
theorem or3_lt {a b : Nat} (h1 : a < 65536) (h2 : b < 65536) : a ||| b < 65536 := Nat.or_lt_two_pow (n := 16) h1 h2
theorem mux_words (u v w : Nat) (hu : u < 65536) (hv : v < 65536) (hw : w < 65536) : bits .or .u64 (bits .and .u64 (u : Int) (v : Int)) (bits .and .u64 (bits .and .u64 (bits .xor .u64 IntKind.u64.max (u : Int)) (w : Int)) 65535) = (((u &&& v) ||| ((u ^^^ 65535) &&& w) : Nat) : Int) := by
  have h1 := bits_xor_u64_nat 18446744073709551615 u (by omega) (by omega)
  have h2 : 18446744073709551615 ^^^ u < 2 ^ 64 := Nat.xor_lt_two_pow (by omega) (by omega)
  have h3 := bits_and_u64_nat (18446744073709551615 ^^^ u) w (by omega) (by omega)
  have h4 : (18446744073709551615 ^^^ u) &&& w < 65536 := Nat.and_lt_two_pow (n := 16) _ hw
  have h5 := and_words ((18446744073709551615 ^^^ u) &&& w) 65535 h4 (by omega)
  have h6 : ((18446744073709551615 ^^^ u) &&& w) &&& 65535 < 65536 := Nat.and_lt_two_pow (n := 16) _ (by omega)
  rw [show IntKind.u64.max = ((18446744073709551615 : Nat) : Int) from by decide, h1, h3, show (65535 : Int) = ((65535 : Nat) : Int) from rfl, h5, and_words u v hu hv, or_words _ _ (and3_lt hu hv) h6]
  congr 2
  apply Nat.eq_of_testBit_eq
  intro i
  simp only [Nat.testBit_and, Nat.testBit_xor]
  rw [show (18446744073709551615 : Nat) = 2 ^ 64 - 1 from rfl, show (65535 : Nat) = 2 ^ 16 - 1 from rfl, Nat.testBit_two_pow_sub_one, Nat.testBit_two_pow_sub_one]
  by_cases hi : i < 16
  · have : i < 64 := by omega
    simp [hi, this]
  · have hw' : w.testBit i = false := Nat.testBit_lt_two_pow (Nat.lt_of_lt_of_le hw (by show 2 ^ 16 ≤ 2 ^ i; exact Nat.pow_le_pow_right (by omega) (by omega)))
    simp [hw']
section
variable {w : World} {g : Nat} {G : Gra} {F : List Nat} {ra wa : Option Addr} {refs want : List Nat}
/-- what step is told of the graph, and of the two slices -/
structure Told (w : World) (g : Nat) (G : Gra) (F : List Nat) (ra wa : Option Addr) (len : Nat) (refs want : List Nat) : Prop where
  gin : GIn w g G F
  hr : Sv w ra (refsCells refs)
  hw : Sv w wa (u64s want)
  l1 : refs.length = len
  l2 : want.length = len
  pos : 0 < len
  max : len ≤ 1000000
  ar : ∀ p, ra = some p → p.block < w.heap.size ∧ p.block ∉ F
  aw : ∀ p, wa = some p → p.block < w.heap.size ∧ p.block ∉ F
  words : ∀ x ∈ want, x < 65536
  refs : ∀ r ∈ refs, r < 2 * G.nodes.length
theorem Told.same {w' : World} {len : Nat} (h : Told w g G F ra wa len refs want) (hc : Ch [] w w') : Told w' g G F ra wa len refs want :=
  ⟨h.gin.same hc (by simp), h.hr.ch hc (by simp), h.hw.ch hc (by simp), h.l1, h.l2, h.pos, h.max, fun p hp => ⟨Nat.lt_of_lt_of_le (h.ar p hp).1 hc.size, (h.ar p hp).2⟩, fun p hp => ⟨Nat.lt_of_lt_of_le (h.aw p hp).1 hc.size, (h.aw p hp).2⟩, h.words, h.refs⟩
theorem Sl.new3 (w : World) (p q z : Int) : Sl (w.alloc (.cells #[.int .i64 p, .int .i64 q, .int .i64 z] 39)) (some ⟨w.heap.size, 0, none⟩) [p, q, z] := ⟨fun i y hy => ⟨_, _, rfl, by
  have hb : blk (w.alloc (.cells #[.int .i64 p, .int .i64 q, .int .i64 z] 39)) w.heap.size [.int .i64 p, .int .i64 q, .int .i64 z] := blk.new' _ _ rfl
  have hi : i < 3 := (List.getElem?_eq_some_iff.1 hy).1
  rcases i with _ | _ | _ | i
  all_goals first | omega | (simp at hy; subst hy; exact hb.cell rfl)⟩, by simp⟩
theorem blk3 {w : World} {b : Nat} {x y z : Value} (h : blk w b [x, y, z]) : w.cell? ⟨b, 0, none⟩ = some x ∧ w.cell? ⟨b, 1, none⟩ = some y ∧ w.cell? ⟨b, 2, none⟩ = some z := ⟨h.cell rfl, h.cell rfl, h.cell rfl⟩
theorem blk4 {w : World} {b : Nat} {x y z t : Value} (h : blk w b [x, y, z, t]) : w.cell? ⟨b, 0, none⟩ = some x ∧ w.cell? ⟨b, 1, none⟩ = some y ∧ w.cell? ⟨b, 2, none⟩ = some z ∧ w.cell? ⟨b, 3, none⟩ = some t := ⟨h.cell rfl, h.cell rfl, h.cell rfl, h.cell rfl⟩
end
end Go.Proofs.Ytdmmanfjafempaa
namespace Go.Proofs.Ytdmmanfjafempaa
open Go.Aig
theorem and_room {G : Gra} {a b : Nat} (h : G.nodes.length < G.most) : (Aig.and G a b).2.2 = 0 ∧ (Aig.and G a b).1.nodes.length ≤ G.nodes.length + 1 := by
  unfold Aig.and
  split
  · exact ⟨rfl, by show G.nodes.length ≤ _; omega⟩
  · split
    · exact ⟨rfl, by show G.nodes.length ≤ _; omega⟩
    · unfold put
      rw [if_neg (by omega)]
      exact ⟨rfl, by simp⟩
theorem and_most (G : Gra) (a b : Nat) : (Aig.and G a b).1.most = G.most := by
  unfold Aig.and put; (repeat' split) <;> rfl
theorem mand_room {s : Mk} {a b : Nat} (he : s.2 = 0) (h : s.1.nodes.length < s.1.most) : (mand s a b).1.2 = 0 ∧ (mand s a b).1.1.nodes.length ≤ s.1.nodes.length + 1 ∧ (mand s a b).1.1.most = s.1.most := by
  unfold mand
  rw [if_neg (by omega)]
  obtain ⟨h1, h2⟩ := and_room (a := a) (b := b) h
  exact ⟨h1, h2, and_most _ _ _⟩
theorem mor_room {s : Mk} {a b : Nat} (he : s.2 = 0) (h : s.1.nodes.length < s.1.most) : (mor s a b).1.2 = 0 ∧ (mor s a b).1.1.nodes.length ≤ s.1.nodes.length + 1 ∧ (mor s a b).1.1.most = s.1.most := mand_room (a := neg a) (b := neg b) he h
theorem mmux_room {s : Mk} {c a b : Nat} (he : s.2 = 0) (h : s.1.nodes.length + 3 ≤ s.1.most) : (mmux s c a b).1.2 = 0 ∧ (mmux s c a b).1.1.nodes.length ≤ s.1.nodes.length + 3 ∧ (mmux s c a b).1.1.most = s.1.most := by
  obtain ⟨h1, h2, h3⟩ := mand_room (a := c) (b := a) he (by omega)
  obtain ⟨h4, h5, h6⟩ := mand_room (a := neg c) (b := b) h1 (by omega)
  obtain ⟨h7, h8, h9⟩ := mor_room (a := (mand s c a).2) (b := (mand (mand s c a).1 (neg c) b).2) h4 (by omega)
  exact ⟨h7, by show (mor _ _ _).1.1.nodes.length ≤ _; omega, by show (mor _ _ _).1.1.most = _; omega⟩
theorem mall_room : ∀ (l : List Nat) {s : Mk} {out : Nat}, s.2 = 0 → s.1.nodes.length + l.length ≤ s.1.most → (mall s out l).1.2 = 0 ∧ (mall s out l).1.1.nodes.length ≤ s.1.nodes.length + l.length ∧ (mall s out l).1.1.most = s.1.most
  | [], s, out, he, _ => ⟨he, by simp [mall], rfl⟩
  | r :: l, s, out, he, h => by
    simp only [List.length_cons] at h ⊢
    obtain ⟨h1, h2, h3⟩ := mand_room (a := out) (b := r) he (by omega)
    obtain ⟨h4, h5, h6⟩ := mall_room l (s := (mand s out r).1) (out := (mand s out r).2) h1 (by omega)
    refine ⟨h4, ?_, ?_⟩
    · show (mall (mand s out r).1 (mand s out r).2 l).1.1.nodes.length ≤ _; omega
    · show (mall (mand s out r).1 (mand s out r).2 l).1.1.most = _; omega
/-- what a maker is that keeps all in order -/
structure Good (f : Mk → Mk × Nat) (G : Gra) (k : Nat) (v : (Nat → Bool) → Bool) : Prop where
  ok : MOk (f (G, 0)).1
  ext : Ext G (f (G, 0)).1.1
  lt : (f (G, 0)).2 < 2 * (f (G, 0)).1.1.nodes.length
  sem : ∀ env, (f (G, 0)).1.2 = 0 → bv env (f (G, 0)).1.1.nodes (f (G, 0)).2 = v env
  room : G.nodes.length + k ≤ G.most → (f (G, 0)).1.2 = 0 ∧ (f (G, 0)).1.1.nodes.length ≤ G.nodes.length + k
theorem right_of {ns : List Nd} {r : Nat} (h : r < 2 * ns.length) : right ns (r : Int) = true := by unfold right; simp; omega
theorem whole_good {G : Gra} {l : List Nat} {f : Mk → Mk × Nat} {k : Nat} {v : (Nat → Bool) → Bool} (hl : ∀ r ∈ l, r < 2 * G.nodes.length) (h : Good f G k v) (hok : Ok G) :
    Ok (whole G (l.map fun (r : Nat) => (r : Int)) f).1 ∧ Ext G (whole G (l.map fun (r : Nat) => (r : Int)) f).1 ∧ (whole G (l.map fun (r : Nat) => (r : Int)) f).2.1 < 2 * (whole G (l.map fun (r : Nat) => (r : Int)) f).1.nodes.length ∧
      (∀ env, (whole G (l.map fun (r : Nat) => (r : Int)) f).2.2 = 0 → bv env (whole G (l.map fun (r : Nat) => (r : Int)) f).1.nodes (whole G (l.map fun (r : Nat) => (r : Int)) f).2.1 = v env) ∧
      (G.nodes.length + k ≤ G.most → (whole G (l.map fun (r : Nat) => (r : Int)) f).2.2 = 0 ∧ (whole G (l.map fun (r : Nat) => (r : Int)) f).1.nodes.length ≤ G.nodes.length + k) := by
  have hany : ((l.map fun (r : Nat) => (r : Int)).any fun r => !right G.nodes r) = false := by
    rw [List.any_eq_false]
    intro x hx
    obtain ⟨r, hr, rfl⟩ := List.mem_map.1 hx
    simp [right_of (hl r hr)]
  have hp := hok.wf.pos
  unfold whole
  rw [hany]
  simp only [Bool.false_eq_true, if_false]
  by_cases he : (f (G, 0)).1.2 = 0
  · rw [if_neg (by omega)]
    exact ⟨h.ok.ok, h.ext, h.lt, fun env _ => h.sem env he, fun hk => ⟨rfl, (h.room hk).2⟩⟩
  · rw [if_pos (by omega)]
    exact ⟨hok, Ext.refl _, by show 0 < 2 * G.nodes.length; omega, fun env hz => (he hz).elim, fun hk => (he (h.room hk).1).elim⟩
section
variable {G : Gra} (h : Ok G)
include h
theorem mok0 : MOk (G, 0) := ⟨h, .inl rfl⟩
theorem good_and {a b : Nat} (ha : a < 2 * G.nodes.length) (hb : b < 2 * G.nodes.length) : Good (fun s => mand s a b) G 1 (fun env => bv env G.nodes a && bv env G.nodes b) := by
  obtain ⟨h1, h2, h3⟩ := mand_ok (mok0 h) ha hb
  exact ⟨h1, h2, h3, fun env he => mand_sem env (mok0 h) ha hb he, fun hk => ⟨(mand_room (s := (G, 0)) rfl hk).1, (mand_room (s := (G, 0)) rfl hk).2.1⟩⟩
theorem good_or {a b : Nat} (ha : a < 2 * G.nodes.length) (hb : b < 2 * G.nodes.length) : Good (fun s => mor s a b) G 1 (fun env => bv env G.nodes a || bv env G.nodes b) := by
  obtain ⟨h1, h2, h3⟩ := mor_ok (mok0 h) ha hb
  exact ⟨h1, h2, h3, fun env he => mor_sem env (mok0 h) ha hb he, fun hk => ⟨(mor_room (s := (G, 0)) rfl hk).1, (mor_room (s := (G, 0)) rfl hk).2.1⟩⟩
theorem good_mux {c a b : Nat} (hc : c < 2 * G.nodes.length) (ha : a < 2 * G.nodes.length) (hb : b < 2 * G.nodes.length) : Good (fun s => mmux s c a b) G 3 (fun env => bv env G.nodes c && bv env G.nodes a || !bv env G.nodes c && bv env G.nodes b) := by
  obtain ⟨h1, h2, h3⟩ := mmux_ok (mok0 h) hc ha hb
  exact ⟨h1, h2, h3, fun env he => mmux_sem env (mok0 h) hc ha hb he, fun hk => ⟨(mmux_room (s := (G, 0)) rfl hk).1, (mmux_room (s := (G, 0)) rfl hk).2.1⟩⟩
theorem good_all {l : List Nat} (hl : ∀ r ∈ l, r < 2 * G.nodes.length) : Good (fun s => mall s 1 l) G l.length (fun env => l.all fun r => bv env G.nodes r) := by
  have hp := h.wf.pos
  obtain ⟨h1, h2, h3⟩ := mall_ok l (mok0 h) (show 1 < 2 * G.nodes.length by omega) hl
  refine ⟨h1, h2, h3, fun env he => ?_, fun hk => ⟨(mall_room l (s := (G, 0)) rfl hk).1, (mall_room l (s := (G, 0)) rfl hk).2.1⟩⟩
  have := mall_sem env l (mok0 h) (show 1 < 2 * G.nodes.length by omega) hl he
  rw [this]
  show (bv env G.nodes 1 && _) = _
  rw [bv_one env h.wf, Bool.true_and]
theorem good_any {l : List Nat} (hl : ∀ r ∈ l, r < 2 * G.nodes.length) : Good (fun s => many s l) G l.length (fun env => l.any fun r => bv env G.nodes r) := by
  have hl' : ∀ r ∈ l.map neg, r < 2 * G.nodes.length := fun r hr => by
    obtain ⟨x, hx, rfl⟩ := List.mem_map.1 hr
    exact neg_lt (hl x hx)
  have := good_all h hl'
  refine ⟨this.ok, this.ext, neg_lt this.lt, fun env he => ?_, fun hk => ?_⟩
  rotate_left
  · obtain ⟨h1, h2⟩ := this.room (by simpa using hk)
    exact ⟨h1, by simpa [many] using h2⟩
  have h2 := this.sem env he
  show bv env (mall (G, 0) 1 (l.map neg)).1.1.nodes (neg (mall (G, 0) 1 (l.map neg)).2) = _
  rw [bv_neg, h2]
  simp only [List.all_map, Function.comp_def, bv_neg]
  simp [List.any_eq_not_all_not]
end
/-- the maker of a small one, the references that it takes, and what it means -/
def stepMk (refs : List Nat) (x : Sm) : Mk → Mk × Nat := fun s =>
  let p := pickR refs x.a; let q := pickR refs x.b; let r := pickR refs x.c
  if x.k % 6 = 0 then mand s p q else if x.k % 6 = 1 then mor s p q else if x.k % 6 = 2 then mmux s p (neg q) q else if x.k % 6 = 3 then mmux s p q r else if x.k % 6 = 4 then mall s 1 [p, q, r] else many s [p, q, r]
def stepArgs (refs : List Nat) (x : Sm) : List Nat := if x.k % 6 < 3 then [pickR refs x.a, pickR refs x.b] else [pickR refs x.a, pickR refs x.b, pickR refs x.c]
def stepV (u v w : Bool) (k : Nat) : Bool :=
  if k % 6 = 0 then u && v else if k % 6 = 1 then u || v else if k % 6 = 2 then Bool.xor u v else if k % 6 = 3 then (u && v || !u && w) else if k % 6 = 4 then u && v && w else u || v || w
theorem stepRes_eq (G : Gra) (refs : List Nat) (x : Sm) : stepRes G refs x = whole G ((stepArgs refs x).map fun (r : Nat) => (r : Int)) (stepMk refs x) := by
  unfold stepRes stepArgs stepMk
  rcases (show x.k % 6 = 0 ∨ x.k % 6 = 1 ∨ x.k % 6 = 2 ∨ x.k % 6 = 3 ∨ x.k % 6 = 4 ∨ x.k % 6 = 5 by omega) with e | e | e | e | e | e <;> simp [e, doAnd, doOr, doXor, doMux, doAll, doAny]
theorem stepMk_good {G : Gra} (h : Ok G) {refs : List Nat} (hr : ∀ r ∈ refs, r < 2 * G.nodes.length) (h0 : 0 < refs.length) (x : Sm) :
    Good (stepMk refs x) G 3 (fun env => stepV (bv env G.nodes (pickR refs x.a)) (bv env G.nodes (pickR refs x.b)) (bv env G.nodes (pickR refs x.c)) x.k) := by
  have hp := pickR_lt hr h0 x.a
  have hq := pickR_lt hr h0 x.b
  have hz := pickR_lt hr h0 x.c
  have hl : ∀ r ∈ [pickR refs x.a, pickR refs x.b, pickR refs x.c], r < 2 * G.nodes.length := fun r hr => by
    simp at hr; rcases hr with rfl | rfl | rfl <;> assumption
  have up : ∀ {f : Mk → Mk × Nat} {v : (Nat → Bool) → Bool}, Good f G 1 v → Good f G 3 v := fun g => ⟨g.ok, g.ext, g.lt, g.sem, fun hk => ⟨(g.room (by omega)).1, by have := (g.room (by omega)).2; omega⟩⟩
  unfold stepMk stepV
  rcases (show x.k % 6 = 0 ∨ x.k % 6 = 1 ∨ x.k % 6 = 2 ∨ x.k % 6 = 3 ∨ x.k % 6 = 4 ∨ x.k % 6 = 5 by omega) with e | e | e | e | e | e <;> simp (decide := true) only [e, if_true, if_false]
  · exact up (good_and h hp hq)
  · exact up (good_or h hp hq)
  · have := good_mux h hp (neg_lt hq) hq
    refine ⟨this.ok, this.ext, this.lt, fun env he => (this.sem env he).trans ?_, this.room⟩
    rw [bv_neg]
    cases bv env G.nodes (pickR refs x.a) <;> cases bv env G.nodes (pickR refs x.b) <;> rfl
  · exact good_mux h hp hq hz
  · have := good_all h hl
    refine ⟨this.ok, this.ext, this.lt, fun env he => (this.sem env he).trans ?_, this.room⟩
    simp [Bool.and_assoc]
  · have := good_any h hl
    refine ⟨this.ok, this.ext, this.lt, fun env he => (this.sem env he).trans ?_, this.room⟩
    simp [Bool.or_assoc]
end Go.Proofs.Ytdmmanfjafempaa
namespace Go.Proofs.Ytdmmanfjafempaa
open Go.Aig
structure Bd where
  G : Gra
  refs : List Nat
  want : List Nat
def inNodes (k : Nat) : List Nd := ⟨1, 0, 0, 0⟩ :: List.replicate k ⟨2, 0, 0, 0⟩
def bd0 (most k : Nat) : Bd := ⟨⟨most, inNodes k⟩, 0 :: (List.range k).map (fun i => 2 * (i + 1)), 0 :: inWords.take k⟩
def stepB (b : Bd) (x : Sm) : Bd := ⟨(stepRes b.G b.refs x).1, b.refs ++ [(stepRes b.G b.refs x).2.1], b.want ++ [stepW b.want x]⟩
def builtB (most : Nat) (l : List Sm) : Bd := l.foldl stepB (bd0 most 4)
/-- the bits of the inputs, for the assignment j -/
def envOf (j k : Nat) : Bool := (inWords.getD k 0).testBit j
structure BOk (b : Bd) : Prop where
  ok : Ok b.G
  len : b.refs.length = b.want.length
  pos : 0 < b.refs.length
  refs : ∀ r ∈ b.refs, r < 2 * b.G.nodes.length
  words : ∀ x ∈ b.want, x < 65536
  sem : ∀ j, j < 16 → ∀ (i r x : Nat), b.refs[i]? = some r → b.want[i]? = some x → x.testBit j = bv (envOf j) b.G.nodes r
  ins : ∀ env, (nv env b.G.nodes).2 = 4
theorem inNodes_len (k : Nat) : (inNodes k).length = k + 1 := by simp [inNodes]
theorem doInput_in {most k : Nat} (h : k + 1 < most) : doInput ⟨most, inNodes k⟩ = (⟨most, inNodes (k + 1)⟩, 2 * (k + 1), 0) := by
  unfold doInput put
  rw [if_neg (by simp [inNodes_len]; omega)]
  simp [inNodes, List.replicate_succ']
theorem nv_count (env : Nat → Bool) : ∀ (ms ns : List Nd), (nv env (ns ++ ms)).2 = (nv env ns).2 + (ms.filter fun x => x.k == 2).length
  | [], ns => by simp
  | x :: ms, ns => by
    rw [List.append_cons, nv_count env ms (ns ++ [x]), nv_snoc]
    unfold nvStep
    by_cases h3 : x.k = 3
    · simp [h3]
    · by_cases h2 : x.k = 2
      · simp [h2]; omega
      · simp [h3, h2]
/-- what the ands make holds no input -/
theorem and_noin {G : Gra} {a b : Nat} : ∃ more, (Aig.and G a b).1.nodes = G.nodes ++ more ∧ ∀ x ∈ more, x.k = 3 := by
  unfold Aig.and put
  (repeat' split)
  · exact ⟨[], by simp, by simp⟩
  · exact ⟨[], by simp, by simp⟩
  · exact ⟨[], by simp, by simp⟩
  · exact ⟨_, rfl, fun x hx => by simp at hx; subst hx; rfl⟩
def NoIn (G G' : Gra) : Prop := ∃ more, G'.nodes = G.nodes ++ more ∧ ∀ x ∈ more, x.k = 3
theorem NoIn.refl (G : Gra) : NoIn G G := ⟨[], by simp, by simp⟩
theorem NoIn.trans {a b c : Gra} (h : NoIn a b) (h' : NoIn b c) : NoIn a c := by
  obtain ⟨m, e, h1⟩ := h
  obtain ⟨m', e', h2⟩ := h'
  exact ⟨m ++ m', by rw [e', e, List.append_assoc], fun x hx => (List.mem_append.1 hx).elim (h1 x) (h2 x)⟩
theorem mand_noin (s : Mk) (a b : Nat) : NoIn s.1 (mand s a b).1.1 := by
  unfold mand
  split
  · exact .refl _
  · exact and_noin
theorem mall_noin : ∀ (l : List Nat) (s : Mk) (out : Nat), NoIn s.1 (mall s out l).1.1
  | [], _, _ => .refl _
  | r :: l, s, out => (mand_noin s out r).trans (mall_noin l _ _)
theorem stepMk_noin (refs : List Nat) (x : Sm) (G : Gra) : NoIn G (stepMk refs x (G, 0)).1.1 := by
  unfold stepMk
  (repeat' split)
  · exact mand_noin _ _ _
  · exact mand_noin _ _ _
  · exact ((mand_noin _ _ _).trans (mand_noin _ _ _)).trans (mand_noin _ _ _)
  · exact ((mand_noin _ _ _).trans (mand_noin _ _ _)).trans (mand_noin _ _ _)
  · exact mall_noin _ _ _
  · exact mall_noin _ _ _
theorem whole_noin {G : Gra} {l : List Int} {f : Mk → Mk × Nat} (h : NoIn G (f (G, 0)).1.1) : NoIn G (whole G l f).1 := by
  unfold whole
  split
  · exact .refl _
  · dsimp only
    split
    · exact .refl _
    · exact h
theorem stepRes_noin (G : Gra) (refs : List Nat) (x : Sm) : NoIn G (stepRes G refs x).1 := by
  rw [stepRes_eq]
  exact whole_noin (stepMk_noin refs x G)
theorem NoIn.count {G G' : Gra} (h : NoIn G G') (env : Nat → Bool) : (nv env G'.nodes).2 = (nv env G.nodes).2 := by
  obtain ⟨more, e, hm⟩ := h
  rw [e, nv_count]
  have : more.filter (fun x => x.k == 2) = [] := by
    rw [List.filter_eq_nil_iff]
    intro x hx
    simp [hm x hx]
  simp [this]
theorem pickR_sem {b : Bd} (h : BOk b) (j : Nat) (hj : j < 16) (n : Nat) : (pickW b.want n).testBit j = bv (envOf j) b.G.nodes (pickR b.refs n) := by
  have hi := pickI_lt h.pos n
  have g1 : b.refs[pickI b.refs.length n]? = some b.refs[pickI b.refs.length n] := List.getElem?_eq_getElem hi
  have hi2 : pickI b.refs.length n < b.want.length := by rw [← h.len]; exact hi
  have g2 : b.want[pickI b.refs.length n]? = some b.want[pickI b.refs.length n] := List.getElem?_eq_getElem hi2
  have hs := h.sem j hj _ _ _ g1 g2
  have e1 : b.refs.getD (pickI b.refs.length n) 0 = b.refs[pickI b.refs.length n] := by rw [List.getD_eq_getElem?_getD, g1]; rfl
  have e2 : b.want.getD (pickI b.want.length n) 0 = b.want[pickI b.refs.length n] := by rw [← h.len, List.getD_eq_getElem?_getD, g2]; rfl
  unfold pickW pickR
  rw [e1, e2]
  split
  · rw [Nat.testBit_xor, hs, bv_neg, show (65535 : Nat) = 2 ^ 16 - 1 from rfl, Nat.testBit_two_pow_sub_one]
    simp [hj]
  · exact hs
theorem stepW_sem {b : Bd} (h : BOk b) (j : Nat) (hj : j < 16) (x : Sm) :
    (stepW b.want x).testBit j = stepV (bv (envOf j) b.G.nodes (pickR b.refs x.a)) (bv (envOf j) b.G.nodes (pickR b.refs x.b)) (bv (envOf j) b.G.nodes (pickR b.refs x.c)) x.k := by
  have hu := pickR_sem h j hj x.a
  have hv := pickR_sem h j hj x.b
  have hw := pickR_sem h j hj x.c
  have hm : Nat.testBit 65535 j = true := by rw [show (65535 : Nat) = 2 ^ 16 - 1 from rfl, Nat.testBit_two_pow_sub_one]; simp [hj]
  unfold stepW stepV
  rcases (show x.k % 6 = 0 ∨ x.k % 6 = 1 ∨ x.k % 6 = 2 ∨ x.k % 6 = 3 ∨ x.k % 6 = 4 ∨ x.k % 6 = 5 by omega) with e | e | e | e | e | e <;> simp (decide := true) only [e, if_true, if_false, Nat.testBit_and, Nat.testBit_or, Nat.testBit_xor, hu, hv, hw, hm, Bool.xor_true]
/-- a step where there is room -/
theorem stepB_ok {b : Bd} (h : BOk b) (x : Sm) (hr : b.G.nodes.length + 3 ≤ b.G.most) :
    (stepRes b.G b.refs x).2.2 = 0 ∧ BOk (stepB b x) ∧ Ext b.G (stepB b x).G ∧ (stepB b x).G.nodes.length ≤ b.G.nodes.length + 3 := by
  have hg := stepMk_good h.ok h.refs h.pos x
  have ha : ∀ r ∈ stepArgs b.refs x, r < 2 * b.G.nodes.length := fun r hr => by
    unfold stepArgs at hr
    split at hr <;> simp at hr
    · rcases hr with rfl | rfl <;> exact pickR_lt h.refs h.pos _
    · rcases hr with rfl | rfl | rfl <;> exact pickR_lt h.refs h.pos _
  obtain ⟨h1, h2, h3, h4, h5⟩ := whole_good ha hg h.ok
  rw [← stepRes_eq] at h1 h2 h3 h4 h5
  obtain ⟨h6, h7⟩ := h5 hr
  refine ⟨h6, ⟨h1, by simp [stepB, h.len], by simp [stepB], fun r hr => ?_, fun y hy => ?_, fun j hj i r y hi hy => ?_, fun env => ?_⟩, h2, h7⟩
  · simp only [stepB, List.mem_append, List.mem_singleton] at hr
    rcases hr with hr | rfl
    · exact h2.lt (h.refs r hr)
    · exact h3
  · simp only [stepB, List.mem_append, List.mem_singleton] at hy
    rcases hy with hy | rfl
    · exact h.words y hy
    · exact stepW_lt h.words x
  · simp only [stepB] at hi hy ⊢
    by_cases hlt : i < b.refs.length
    · rw [List.getElem?_append_left hlt] at hi
      rw [List.getElem?_append_left (by rw [← h.len]; exact hlt)] at hy
      rw [bv_of (envOf j) h2 (h.refs r (List.mem_of_getElem? hi))]
      exact h.sem j hj i r y hi hy
    · have hi' := (List.getElem?_eq_some_iff.1 hi).1
      simp at hi'
      have e : i = b.refs.length := by omega
      subst e
      rw [List.getElem?_append_right (Nat.le_refl _)] at hi
      rw [List.getElem?_append_right (by rw [h.len]; exact Nat.le_refl _)] at hy
      simp [h.len] at hi hy
      subst hi; subst hy
      rw [stepW_sem h j hj x, h4 (envOf j) h6]
  · exact ((stepRes_noin b.G b.refs x).count env).trans (h.ins env)
theorem bd0_ok {most : Nat} (h5 : 5 ≤ most) (hm : most ≤ 65536) : BOk (bd0 most 4) := by
  have hin : (bd0 most 4).G.nodes = [⟨1, 0, 0, 0⟩, ⟨2, 0, 0, 0⟩, ⟨2, 0, 0, 0⟩, ⟨2, 0, 0, 0⟩, ⟨2, 0, 0, 0⟩] := rfl
  have hw : WF (bd0 most 4).G.nodes := by
    have h1 := (newG_ok (n := 1) (by omega) (by omega)).wf
    exact (((h1.input).input).input).input
  refine ⟨⟨hw, by rw [hin]; simpa [bd0] using h5, hm⟩, rfl, by simp [bd0], ?_, ?_, ?_, fun env => rfl⟩
  · rw [hin]; intro r hr; simp [bd0, List.range, List.range.loop] at hr ⊢; omega
  · intro x hx; simp [bd0, inWords] at hx; omega
  · intro j hj i r x hi hx
    rcases i with _ | _ | _ | _ | _ | i <;> simp [bd0, List.range, List.range.loop, inWords] at hi hx
    all_goals subst hi; subst hx; simp [hin, bv, rv, nv, nvStep, envOf, inWords]
theorem run_ok : ∀ (l : List Sm) {b : Bd}, BOk b → b.G.nodes.length + 3 * l.length ≤ b.G.most → BOk (l.foldl stepB b) ∧ Ext b.G (l.foldl stepB b).G ∧ (l.foldl stepB b).G.nodes.length ≤ b.G.nodes.length + 3 * l.length ∧ (l.foldl stepB b).refs.length = b.refs.length + l.length
  | [], b, h, _ => ⟨h, .refl _, by simp, by simp⟩
  | x :: l, b, h, hr => by
    simp only [List.length_cons] at hr ⊢
    obtain ⟨_, h1, h2, h3⟩ := stepB_ok h x (by omega)
    obtain ⟨h4, h5, h6, h7⟩ := run_ok l h1 (by have : (stepB b x).G.most = b.G.most := h2.most; omega)
    refine ⟨h4, h2.trans h5, by simp only [List.foldl_cons]; omega, ?_⟩
    simp only [List.foldl_cons]
    rw [h7]
    simp [stepB]; omega
end Go.Proofs.Ytdmmanfjafempaa
namespace Go.Proofs.Ytdmmanfjafempaa
open Go.Aig
def wvStep (s : List Nat × Nat) (x : Nd) : List Nat × Nat :=
  if x.k = 3 then (s.1 ++ [wv s.1 x.l &&& wv s.1 x.r], s.2) else if x.k = 2 then (s.1 ++ [inWords.getD s.2 0], s.2 + 1) else (s.1 ++ [0], s.2)
def wvs (ns : List Nd) : List Nat × Nat := ns.foldl wvStep ([], 0)
theorem wvs_snoc (ns : List Nd) (x : Nd) : wvs (ns ++ [x]) = wvStep (wvs ns) x := by unfold wvs; rw [List.foldl_append]; rfl
theorem inWords_lt (k : Nat) : inWords.getD k 0 < 65536 := by
  rcases k with _ | _ | _ | _ | k <;> simp [inWords]
theorem wv_lt {vs : List Nat} (h : ∀ x ∈ vs, x < 65536) (r : Nat) : wv vs r < 65536 := by
  have hd : vs.getD (r / 2) 0 < 65536 := by
    rw [List.getD_eq_getElem?_getD]
    cases hi : vs[r / 2]? with
    | none => simp
    | some x => exact h x (List.mem_of_getElem? hi)
  unfold wv; split
  · exact xor_lt hd
  · exact hd
/-- the words go with the bits -/
structure WB (ns : List Nd) : Prop where
  len : (wvs ns).1.length = ns.length
  cnt : ∀ env, (wvs ns).2 = (nv env ns).2
  lt : ∀ x ∈ (wvs ns).1, x < 65536
  bit : ∀ j, j < 16 → ∀ i, ((wvs ns).1.getD i 0).testBit j = (nv (envOf j) ns).1.getD i false
theorem wv_bit {ns : List Nd} (h : WB ns) {j : Nat} (hj : j < 16) (r : Nat) : (wv (wvs ns).1 r).testBit j = bv (envOf j) ns r := by
  unfold wv bv rv
  split
  · rename_i h1
    rw [Nat.testBit_xor, h.bit j hj, show (65535 : Nat) = 2 ^ 16 - 1 from rfl, Nat.testBit_two_pow_sub_one]
    simp [hj, h1]
  · rename_i h1
    rw [h.bit j hj]
    simp [h1]
theorem getD_snoc {α : Type} (l : List α) (x d : α) (i : Nat) : (l ++ [x]).getD i d = if i < l.length then l.getD i d else if i = l.length then x else d := by
  simp only [List.getD_eq_getElem?_getD]
  by_cases h : i < l.length
  · rw [if_pos h, List.getElem?_append_left h]
  · rw [if_neg h]
    by_cases h2 : i = l.length
    · subst h2; rw [if_pos rfl, List.getElem?_append_right (Nat.le_refl _)]; simp
    · rw [if_neg h2, List.getElem?_eq_none (by simp; omega)]; rfl
theorem wb_nil : WB [] := ⟨rfl, fun _ => rfl, by simp [wvs], by intro j _ i; simp [wvs, nv]⟩
theorem wb_snoc {ns : List Nd} (h : WB ns) (x : Nd) : WB (ns ++ [x]) := by
  have hl : ∀ env, (nv env ns).1.length = (wvs ns).1.length := fun env => by rw [nv_len, h.len]
  refine ⟨?_, fun env => ?_, fun y hy => ?_, fun j hj i => ?_⟩
  · rw [wvs_snoc]; unfold wvStep; (repeat' split) <;> simp [h.len]
  · rw [wvs_snoc, nv_snoc]; unfold wvStep nvStep; (repeat' split) <;> simp [h.cnt env]
  · rw [wvs_snoc] at hy
    unfold wvStep at hy
    (repeat' split at hy) <;> simp at hy <;> rcases hy with hy | rfl
    · exact h.lt y hy
    · exact Nat.and_lt_two_pow (n := 16) _ (wv_lt h.lt _)
    · exact h.lt y hy
    · have := inWords_lt (wvs ns).2; simpa using this
    · exact h.lt y hy
    · omega
  · rw [wvs_snoc, nv_snoc]
    have e := h.cnt (envOf j)
    unfold wvStep nvStep
    split
    · rw [getD_snoc, getD_snoc, hl]
      (repeat' split)
      · exact h.bit j hj i
      · rw [Nat.testBit_and, wv_bit h hj, wv_bit h hj]; rfl
      · simp
    · split
      · rw [getD_snoc, getD_snoc, hl]
        (repeat' split)
        · exact h.bit j hj i
        · rw [e]; rfl
        · simp
      · rw [getD_snoc, getD_snoc, hl]
        (repeat' split)
        · exact h.bit j hj i
        · simp
        · simp
theorem wb_all : ∀ (ms ns : List Nd), WB ns → WB (ns ++ ms)
  | [], ns, h => by simpa using h
  | x :: ms, ns, h => by
    rw [List.append_cons]
    exact wb_all ms (ns ++ [x]) (wb_snoc h x)
theorem wb (ns : List Nd) : WB ns := by simpa using wb_all ns [] wb_nil
theorem cnt_mono (ns : List Nd) (k : Nat) : (wvs (ns.take k)).2 ≤ (wvs ns).2 := by
  rw [(wb _).cnt (fun _ => false), (wb _).cnt (fun _ => false)]
  have := nv_count (fun _ => false) (ns.drop k) (ns.take k)
  rw [List.take_append_drop] at this
  omega
/-- what the laws compare: the words of the references -/
theorem want_is {b : Bd} (h : BOk b) {i r x : Nat} (hr : b.refs[i]? = some r) (hx : b.want[i]? = some x) : wv (wvs b.G.nodes).1 r = x := by
  apply Nat.eq_of_testBit_eq
  intro j
  have hxl := h.words x (List.mem_of_getElem? hx)
  by_cases hj : j < 16
  · rw [wv_bit (wb _) hj, h.sem j hj i r x hr hx]
  · have hp : 2 ^ 16 ≤ 2 ^ j := Nat.pow_le_pow_right (by omega) (by omega)
    rw [Nat.testBit_lt_two_pow (Nat.lt_of_lt_of_le (wv_lt (wb _).lt r) hp), Nat.testBit_lt_two_pow (Nat.lt_of_lt_of_le hxl hp)]
end Go.Proofs.Ytdmmanfjafempaa
namespace Go.Proofs.Ytdmmanfjafempaa
open Go.Aig
/-- the first p nodes of a graph -/
structure Pre (B : Gra) (p : Nat) (H : Gra) : Prop where
  most : H.most = B.most
  le : p ≤ B.nodes.length
  nodes : H.nodes = B.nodes.take p
theorem Pre.len {B H : Gra} {p : Nat} (h : Pre B p H) : H.nodes.length = p := by rw [h.nodes, List.length_take]; have := h.le; omega
theorem _root_.Go.Aig.Ext.take {G B : Gra} (h : Ext G B) : B.nodes.take G.nodes.length = G.nodes := by
  obtain ⟨_, more, e⟩ := h
  rw [e, List.take_left]
theorem _root_.Go.Aig.Ext.get {G B : Gra} (h : Ext G B) {n : Nat} {x : Nd} (hx : G.nodes[n]? = some x) : B.nodes[n]? = some x := by
  obtain ⟨_, more, e⟩ := h
  rw [e, List.getElem?_append_left (List.getElem?_eq_some_iff.1 hx).1]; exact hx
theorem and_again {B G H : Gra} {p a b : Nat} (hB : Ok B) (hG : Ok G) (hH : Pre B p H) (hp : G.nodes.length ≤ p) (he : (Aig.and G a b).2.2 = 0) (hx : Ext (Aig.and G a b).1 B) (_ha : a < 2 * G.nodes.length) (_hb : b < 2 * G.nodes.length) :
    (Aig.and H a b).2.2 = 0 ∧ (Aig.and H a b).2.1 = (Aig.and G a b).2.1 ∧ Pre B (max p (Aig.and G a b).1.nodes.length) (Aig.and H a b).1 := by
  have hpos := hG.wf.pos
  have hwH : WF H.nodes := by rw [hH.nodes]; exact hB.wf.take (by omega)
  unfold Aig.and at he hx ⊢
  split at he
  · rename_i r hi
    exact ⟨rfl, rfl, by show Pre B (max p G.nodes.length) H; rw [Nat.max_eq_left hp]; exact hH⟩
  · rename_i l r hi
    rw [hi] at hx
    dsimp only at hx
    split at he
    · rename_i n hn
      rw [hn] at hx
      obtain ⟨x, hxn, hk, hl, hr⟩ := findAnd_some hn
      have hxB := hx.get hxn
      have hxH : H.nodes[n]? = some x := by rw [hH.nodes, List.getElem?_take, if_pos (by have := (List.getElem?_eq_some_iff.1 hxn).1; omega)]; exact hxB
      have hf := findAnd_of hwH hxH hk
      rw [hl, hr] at hf
      rw [hf]
      exact ⟨rfl, rfl, by show Pre B (max p G.nodes.length) H; rw [Nat.max_eq_left hp]; exact hH⟩
    · rename_i hn
      rw [hn] at hx
      unfold put at he hx ⊢
      split at he
      · cases he
      · rename_i hm
        rw [if_neg hm] at hx
        rw [if_neg hm]
        dsimp only at hx ⊢
        have hxB : B.nodes[G.nodes.length]? = some ⟨3, l, r, 1 + max (dep G.nodes a) (dep G.nodes b)⟩ := hx.get (by simp)
        have hBl := (List.getElem?_eq_some_iff.1 hxB).1
        have hmB : B.most = G.most := hx.most
        by_cases hlt : G.nodes.length < p
        · have hxH : H.nodes[G.nodes.length]? = some ⟨3, l, r, 1 + max (dep G.nodes a) (dep G.nodes b)⟩ := by rw [hH.nodes, List.getElem?_take, if_pos hlt]; exact hxB
          have hf := findAnd_of hwH hxH rfl
          dsimp only at hf
          rw [hf]
          refine ⟨rfl, rfl, ?_⟩
          show Pre B (max p (G.nodes ++ [_]).length) H
          rw [Nat.max_eq_left (by simp; omega)]
          exact hH
        · have hpe : p = G.nodes.length := by omega
          subst hpe
          have hGB : Ext G B := ⟨hmB, by obtain ⟨_, more, e⟩ := hx; exact ⟨[⟨3, l, r, 1 + max (dep G.nodes a) (dep G.nodes b)⟩] ++ more, by rw [e]; simp⟩⟩
          have hHG : H.nodes = G.nodes := by rw [hH.nodes, hGB.take]
          rw [hHG, hn]
          dsimp only
          rw [if_neg (by rw [hH.most, hmB]; exact hm)]
          refine ⟨rfl, rfl, ⟨hH.most, by simp; omega, ?_⟩⟩
          have := hx.take
          simp only [List.length_append, List.length_singleton] at this
          have hm2 : max G.nodes.length (G.nodes ++ [(⟨3, l, r, 1 + max (dep G.nodes a) (dep G.nodes b)⟩ : Nd)]).length = G.nodes.length + 1 := by simp
          rw [hm2]
          exact this.symm
/-- a maker over a cut graph goes with the one that made it -/
theorem mand_again {B : Gra} {s t : Mk} {p a b : Nat} (hB : Ok B) (hs : MOk s) (ht : t.2 = 0) (hH : Pre B p t.1) (hp : s.1.nodes.length ≤ p) (he : (mand s a b).1.2 = 0) (hx : Ext (mand s a b).1.1 B) (ha : a < 2 * s.1.nodes.length) (hb : b < 2 * s.1.nodes.length) :
    (mand t a b).1.2 = 0 ∧ (mand t a b).2 = (mand s a b).2 ∧ Pre B (max p (mand s a b).1.1.nodes.length) (mand t a b).1.1 := by
  obtain ⟨h0, e, h1⟩ := mand_err0 he
  rw [e] at hx ⊢
  obtain ⟨q1, q2, q3⟩ := and_again hB hs.ok hH hp h1 hx ha hb
  unfold mand
  rw [if_neg (by omega)]
  exact ⟨q1, q2, q3⟩
theorem mor_again {B : Gra} {s t : Mk} {p a b : Nat} (hB : Ok B) (hs : MOk s) (ht : t.2 = 0) (hH : Pre B p t.1) (hp : s.1.nodes.length ≤ p) (he : (mor s a b).1.2 = 0) (hx : Ext (mor s a b).1.1 B) (ha : a < 2 * s.1.nodes.length) (hb : b < 2 * s.1.nodes.length) :
    (mor t a b).1.2 = 0 ∧ (mor t a b).2 = (mor s a b).2 ∧ Pre B (max p (mor s a b).1.1.nodes.length) (mor t a b).1.1 := by
  obtain ⟨q1, q2, q3⟩ := mand_again hB hs ht hH hp (a := neg a) (b := neg b) he hx (neg_lt ha) (neg_lt hb)
  exact ⟨q1, by show neg _ = neg _; rw [q2], q3⟩
theorem mmux_again {B : Gra} {s t : Mk} {p c a b : Nat} (hB : Ok B) (hs : MOk s) (ht : t.2 = 0) (hH : Pre B p t.1) (hp : s.1.nodes.length ≤ p) (he : (mmux s c a b).1.2 = 0) (hx : Ext (mmux s c a b).1.1 B) (hc : c < 2 * s.1.nodes.length) (ha : a < 2 * s.1.nodes.length) (hb : b < 2 * s.1.nodes.length) :
    (mmux t c a b).1.2 = 0 ∧ (mmux t c a b).2 = (mmux s c a b).2 ∧ Pre B (max p (mmux s c a b).1.1.nodes.length) (mmux t c a b).1.1 := by
  obtain ⟨h1, h2, h3⟩ := mand_ok hs hc ha
  obtain ⟨h4, h5, h6⟩ := mand_ok h1 (h2.lt (neg_lt hc)) (h2.lt hb)
  obtain ⟨h7, h8, h9⟩ := mor_ok h4 (h5.lt h3) h6
  have e3 : (mor (mand (mand s c a).1 (neg c) b).1 (mand s c a).2 (mand (mand s c a).1 (neg c) b).2).1.2 = 0 := he
  have e2 := (mand_err0 (show (mand (mand (mand s c a).1 (neg c) b).1 (neg (mand s c a).2) (neg (mand (mand s c a).1 (neg c) b).2)).1.2 = 0 from e3)).1
  have e1 := (mand_err0 e2).1
  have hx3 : Ext (mor (mand (mand s c a).1 (neg c) b).1 (mand s c a).2 (mand (mand s c a).1 (neg c) b).2).1.1 B := hx
  have l1 := h2.len
  have l2 := h5.len
  have l3 := h8.len
  obtain ⟨q1, q2, q3⟩ := mand_again hB hs ht hH hp e1 ((h5.trans h8).trans hx3) hc ha
  obtain ⟨q4, q5, q6⟩ := mand_again hB h1 q1 q3 (by omega) e2 (h8.trans hx3) (h2.lt (neg_lt hc)) (h2.lt hb)
  obtain ⟨q7, q8, q9⟩ := mor_again hB h4 q4 q6 (by omega) e3 hx3 (h5.lt h3) h6
  show (mor (mand (mand t c a).1 (neg c) b).1 (mand t c a).2 (mand (mand t c a).1 (neg c) b).2).1.2 = 0 ∧ (mor (mand (mand t c a).1 (neg c) b).1 (mand t c a).2 (mand (mand t c a).1 (neg c) b).2).2 = (mor (mand (mand s c a).1 (neg c) b).1 (mand s c a).2 (mand (mand s c a).1 (neg c) b).2).2 ∧ Pre B (max p (mor (mand (mand s c a).1 (neg c) b).1 (mand s c a).2 (mand (mand s c a).1 (neg c) b).2).1.1.nodes.length) (mor (mand (mand t c a).1 (neg c) b).1 (mand t c a).2 (mand (mand t c a).1 (neg c) b).2).1.1
  rw [q2, q5]
  refine ⟨q7, q8, ?_⟩
  have hm : max (max (max p (mand s c a).1.1.nodes.length) (mand (mand s c a).1 (neg c) b).1.1.nodes.length) (mor (mand (mand s c a).1 (neg c) b).1 (mand s c a).2 (mand (mand s c a).1 (neg c) b).2).1.1.nodes.length = max p (mor (mand (mand s c a).1 (neg c) b).1 (mand s c a).2 (mand (mand s c a).1 (neg c) b).2).1.1.nodes.length := by omega
  rw [← hm]
  exact q9
theorem mall_again {B : Gra} (hB : Ok B) : ∀ (l : List Nat) {s t : Mk} {p out : Nat}, MOk s → t.2 = 0 → Pre B p t.1 → s.1.nodes.length ≤ p → (mall s out l).1.2 = 0 → Ext (mall s out l).1.1 B → out < 2 * s.1.nodes.length → (∀ r ∈ l, r < 2 * s.1.nodes.length) →
    (mall t out l).1.2 = 0 ∧ (mall t out l).2 = (mall s out l).2 ∧ Pre B (max p (mall s out l).1.1.nodes.length) (mall t out l).1.1
  | [], s, t, p, out, _, ht, hH, hp, _, _, _, _ => ⟨ht, rfl, by show Pre B (max p s.1.nodes.length) t.1; rw [Nat.max_eq_left hp]; exact hH⟩
  | r :: l, s, t, p, out, hs, ht, hH, hp, he, hx, ho, hl => by
    obtain ⟨h1, h2, h3⟩ := mand_ok hs ho (hl r (by simp))
    have hr : ∀ x ∈ l, x < 2 * (mand s out r).1.1.nodes.length := fun x hx => h2.lt (hl x (by simp [hx]))
    obtain ⟨h4, h5, h6⟩ := mall_ok l h1 h3 hr
    have e1 : (mand s out r).1.2 = 0 := mall_err0 l he
    have hx1 : Ext (mall (mand s out r).1 (mand s out r).2 l).1.1 B := hx
    obtain ⟨q1, q2, q3⟩ := mand_again hB hs ht hH hp e1 (h5.trans hx1) ho (hl r (by simp))
    have l1 := h2.len
    have l2 := h5.len
    obtain ⟨q4, q5, q6⟩ := mall_again hB l h1 q1 q3 (by omega) he hx1 h3 hr
    show (mall (mand t out r).1 (mand t out r).2 l).1.2 = 0 ∧ (mall (mand t out r).1 (mand t out r).2 l).2 = (mall (mand s out r).1 (mand s out r).2 l).2 ∧ Pre B (max p (mall (mand s out r).1 (mand s out r).2 l).1.1.nodes.length) (mall (mand t out r).1 (mand t out r).2 l).1.1
    rw [q2]
    refine ⟨q4, q5, ?_⟩
    have hm : max (max p (mand s out r).1.1.nodes.length) (mall (mand s out r).1 (mand s out r).2 l).1.1.nodes.length = max p (mall (mand s out r).1 (mand s out r).2 l).1.1.nodes.length := by omega
    rw [← hm]
    exact q6
theorem stepMk_again {B G H : Gra} {p : Nat} {refs : List Nat} (hB : Ok B) (hG : Ok G) (hH : Pre B p H) (hp : G.nodes.length ≤ p) (hr : ∀ r ∈ refs, r < 2 * G.nodes.length) (h0 : 0 < refs.length) (x : Sm) (he : (stepMk refs x (G, 0)).1.2 = 0) (hx : Ext (stepMk refs x (G, 0)).1.1 B) :
    (stepMk refs x (H, 0)).1.2 = 0 ∧ (stepMk refs x (H, 0)).2 = (stepMk refs x (G, 0)).2 ∧ Pre B (max p (stepMk refs x (G, 0)).1.1.nodes.length) (stepMk refs x (H, 0)).1.1 := by
  have hpa := pickR_lt hr h0 x.a
  have hqa := pickR_lt hr h0 x.b
  have hza := pickR_lt hr h0 x.c
  have hpos := hG.wf.pos
  have hl : ∀ r ∈ [pickR refs x.a, pickR refs x.b, pickR refs x.c], r < 2 * G.nodes.length := fun r hr => by
    simp at hr; rcases hr with rfl | rfl | rfl <;> assumption
  have hln : ∀ r ∈ [pickR refs x.a, pickR refs x.b, pickR refs x.c].map neg, r < 2 * G.nodes.length := fun r hr => by
    obtain ⟨y, hy, rfl⟩ := List.mem_map.1 hr
    exact neg_lt (hl y hy)
  unfold stepMk at he hx ⊢
  rcases (show x.k % 6 = 0 ∨ x.k % 6 = 1 ∨ x.k % 6 = 2 ∨ x.k % 6 = 3 ∨ x.k % 6 = 4 ∨ x.k % 6 = 5 by omega) with e | e | e | e | e | e <;> simp (decide := true) only [e, if_true, if_false] at he hx ⊢
  · exact mand_again (s := (G, 0)) (t := (H, 0)) hB ⟨hG, .inl rfl⟩ rfl hH hp he hx hpa hqa
  · exact mor_again (s := (G, 0)) (t := (H, 0)) hB ⟨hG, .inl rfl⟩ rfl hH hp he hx hpa hqa
  · exact mmux_again (s := (G, 0)) (t := (H, 0)) hB ⟨hG, .inl rfl⟩ rfl hH hp he hx hpa (neg_lt hqa) hqa
  · exact mmux_again (s := (G, 0)) (t := (H, 0)) hB ⟨hG, .inl rfl⟩ rfl hH hp he hx hpa hqa hza
  · exact mall_again hB _ (s := (G, 0)) (t := (H, 0)) ⟨hG, .inl rfl⟩ rfl hH hp he hx (by show 1 < 2 * G.nodes.length; omega) hl
  · obtain ⟨q1, q2, q3⟩ := mall_again hB _ (s := (G, 0)) (t := (H, 0)) ⟨hG, .inl rfl⟩ rfl hH hp he hx (by show 1 < 2 * G.nodes.length; omega) hln
    exact ⟨q1, by show neg _ = neg _; rw [q2], q3⟩
theorem whole_yes {G : Gra} {l : List Nat} {f : Mk → Mk × Nat} (hl : ∀ r ∈ l, r < 2 * G.nodes.length) (he : (f (G, 0)).1.2 = 0) : whole G (l.map fun (r : Nat) => (r : Int)) f = ((f (G, 0)).1.1, (f (G, 0)).2, 0) := by
  have hany : ((l.map fun (r : Nat) => (r : Int)).any fun r => !right G.nodes r) = false := by
    rw [List.any_eq_false]
    intro x hx
    obtain ⟨r, hr, rfl⟩ := List.mem_map.1 hx
    simp [right_of (hl r hr)]
  unfold whole
  rw [hany]
  simp only [Bool.false_eq_true, if_false]
  rw [if_neg (by omega)]
theorem stepArgs_lt {refs : List Nat} {m : Nat} (hr : ∀ r ∈ refs, r < 2 * m) (h0 : 0 < refs.length) (x : Sm) : ∀ r ∈ stepArgs refs x, r < 2 * m := fun r h => by
  unfold stepArgs at h
  split at h <;> simp at h
  · rcases h with rfl | rfl <;> exact pickR_lt hr h0 _
  · rcases h with rfl | rfl | rfl <;> exact pickR_lt hr h0 _
/-- a step made again -/
theorem stepRes_again {B H : Gra} {b : Bd} {p : Nat} (hB : Ok B) (h : BOk b) (hH : Pre B p H) (hp : b.G.nodes.length ≤ p) (x : Sm) (hroom : b.G.nodes.length + 3 ≤ b.G.most) (hx : Ext (stepB b x).G B) :
    stepRes H b.refs x = ((stepRes H b.refs x).1, (stepRes b.G b.refs x).2.1, 0) ∧ Pre B (max p (stepB b x).G.nodes.length) (stepRes H b.refs x).1 := by
  have hg := stepMk_good h.ok h.refs h.pos x
  have he := (hg.room hroom).1
  have ha := stepArgs_lt h.refs h.pos x
  have hw : stepRes b.G b.refs x = ((stepMk b.refs x (b.G, 0)).1.1, (stepMk b.refs x (b.G, 0)).2, 0) := by rw [stepRes_eq]; exact whole_yes ha he
  have hx2 : Ext (stepMk b.refs x (b.G, 0)).1.1 B := by unfold stepB at hx; rw [hw] at hx; exact hx
  obtain ⟨q1, q2, q3⟩ := stepMk_again hB h.ok hH hp h.refs h.pos x he hx2
  have hHl := hH.len
  have hwH : stepRes H b.refs x = ((stepMk b.refs x (H, 0)).1.1, (stepMk b.refs x (H, 0)).2, 0) := by rw [stepRes_eq]; exact whole_yes (fun r hr => by have := ha r hr; omega) q1
  refine ⟨by rw [hwH, hw, q2], ?_⟩
  rw [hwH]
  unfold stepB
  rw [hw]
  exact q3
end Go.Proofs.Ytdmmanfjafempaa
namespace Go.Proofs.Ytdmmanfjafempaa
open Go.Aig
theorem run_prefix : ∀ (l : List Sm) (b : Bd), (∃ m, (l.foldl stepB b).refs = b.refs ++ m) ∧ ∃ m, (l.foldl stepB b).want = b.want ++ m
  | [], b => ⟨⟨[], by simp⟩, ⟨[], by simp⟩⟩
  | x :: l, b => by
    obtain ⟨⟨m, h⟩, ⟨m', h'⟩⟩ := run_prefix l (stepB b x)
    exact ⟨⟨_, by rw [List.foldl_cons, h]; unfold stepB; rw [List.append_assoc]⟩, ⟨_, by rw [List.foldl_cons, h']; unfold stepB; rw [List.append_assoc]⟩⟩
/-- the graph behind i steps -/
def runTo (l : List Sm) (i : Nat) : Bd := ((l.take 60).take i).foldl stepB (bd0 4000 4)
structure AtStep (l : List Sm) (B : Bd) (i : Nat) (x : Sm) : Prop where
  ok : BOk (runTo l i)
  len : (runTo l i).G.nodes.length + 3 ≤ (runTo l i).G.most
  refs : (runTo l i).refs = B.refs.take (5 + i)
  want : (runTo l i).want = B.want.take (5 + i)
  next : runTo l (i + 1) = stepB (runTo l i) x
  ext : Ext (stepB (runTo l i) x).G B.G
  got : B.refs[5 + i]? = some (stepRes (runTo l i).G (runTo l i).refs x).2.1
  le : (runTo l i).G.nodes.length ≤ B.G.nodes.length
theorem runTo_all (l : List Sm) : runTo l (l.take 60).length = builtB 4000 (l.take 60) := by unfold runTo builtB; rw [List.take_length]
theorem runTo_zero (l : List Sm) : runTo l 0 = bd0 4000 4 := by unfold runTo; simp
theorem at_step {l : List Sm} {i : Nat} {x : Sm} (hx : (l.take 60)[i]? = some x) : AtStep l (builtB 4000 (l.take 60)) i x := by
  have hi := (List.getElem?_eq_some_iff.1 hx).1
  have hm : (l.take 60).length ≤ 60 := by rw [List.length_take]; omega
  have hn0 : (bd0 4000 4).G.nodes.length = 5 := rfl
  have hr0 : (bd0 4000 4).refs.length = 5 := rfl
  have hli : ((l.take 60).take i).length = i := by rw [List.length_take]; omega
  have hrun := run_ok ((l.take 60).take i) (bd0_ok (most := 4000) (by omega) (by omega)) (by rw [hli, hn0]; show 5 + 3 * i ≤ 4000; omega)
  rw [show ((l.take 60).take i).foldl stepB (bd0 4000 4) = runTo l i from rfl] at hrun
  obtain ⟨r1, r2, r3, r4⟩ := hrun
  rw [hli] at r3 r4
  rw [hn0] at r3
  rw [hr0] at r4
  have hmost : (runTo l i).G.most = 4000 := r2.most
  have hsplit : builtB 4000 (l.take 60) = ((l.take 60).drop i).foldl stepB (runTo l i) := by
    unfold builtB runTo
    rw [← List.foldl_append, List.take_append_drop]
  have hd : (l.take 60).drop i = x :: (l.take 60).drop (i + 1) := by
    rw [List.drop_eq_getElem_cons hi]
    rw [List.getElem?_eq_getElem hi] at hx
    cases hx; rfl
  obtain ⟨s1, s2, s3, s4⟩ := stepB_ok r1 x (by show (runTo l i).G.nodes.length + 3 ≤ (runTo l i).G.most; rw [hmost]; have : (runTo l i).G.nodes.length ≤ 5 + 3 * i := r3; omega)
  have hsplit2 : builtB 4000 (l.take 60) = ((l.take 60).drop (i + 1)).foldl stepB (stepB (runTo l i) x) := by rw [hsplit, hd]; rfl
  have hdl : ((l.take 60).drop (i + 1)).length ≤ 60 - (i + 1) := by rw [List.length_drop]; omega
  have hnl : (runTo l i).G.nodes.length ≤ 5 + 3 * i := r3
  have hsm : (stepB (runTo l i) x).G.most = 4000 := s3.most.trans hmost
  have hs4 : (stepB (runTo l i) x).G.nodes.length ≤ (runTo l i).G.nodes.length + 3 := s4
  obtain ⟨t1, t2, t3, t4⟩ := run_ok ((l.take 60).drop (i + 1)) s2 (by show (stepB (runTo l i) x).G.nodes.length + _ ≤ (stepB (runTo l i) x).G.most; omega)
  rw [← hsplit2] at t2
  obtain ⟨⟨m1, p1⟩, ⟨m2, p2⟩⟩ := run_prefix ((l.take 60).drop i) (runTo l i)
  rw [← hsplit] at p1 p2
  have hrl : (runTo l i).refs.length = 5 + i := r4
  have hwl : (runTo l i).want.length = 5 + i := by have := r1.len; show (runTo l i).want.length = _; have h2 : (runTo l i).refs.length = (runTo l i).want.length := this; omega
  obtain ⟨⟨m3, p3⟩, _⟩ := run_prefix ((l.take 60).drop (i + 1)) (stepB (runTo l i) x)
  rw [← hsplit2] at p3
  refine ⟨r1, by omega, by rw [p1, ← hrl, List.take_left], by rw [p2, ← hwl, List.take_left], ?_, t2, ?_, ?_⟩
  · unfold runTo
    rw [List.take_add_one, hx, List.foldl_append]; rfl
  · rw [p3]
    unfold stepB
    dsimp only
    rw [List.append_assoc, List.getElem?_append_right (by omega), hrl]
    simp
  · have := s3.len
    have h2 := t2.len
    have h3 : (runTo l i).G.nodes.length ≤ (stepB (runTo l i) x).G.nodes.length := this
    omega
/-- the and of a node's sides is that node -/
theorem doAnd_node {G : Gra} (h : Ok G) {i : Nat} {x : Nd} (hx : G.nodes[i]? = some x) (hk : x.k = 3) : doAnd G x.l x.r = (G, 2 * i, 0) ∧ doAnd G x.r x.l = (G, 2 * i, 0) := by
  obtain ⟨s1, s2, s3, s4, s5⟩ := h.wf.sides hx hk
  have hi := (List.getElem?_eq_some_iff.1 hx).1
  have hf := findAnd_of h.wf hx hk
  have hn : ∀ a b, (a = x.l ∧ b = x.r ∨ a = x.r ∧ b = x.l) → andIs a b = .node x.l x.r := by
    intro a b hab
    unfold andIs
    have e1 : min a b = x.l := by omega
    have e2 : max a b = x.r := by omega
    rw [e1, e2, if_neg, if_neg]
    · omega
    · intro hc
      rcases hc with hc | hc
      · omega
      · unfold neg at hc
        split at hc <;> omega
  have go : ∀ a b : Nat, (a = x.l ∧ b = x.r ∨ a = x.r ∧ b = x.l) → doAnd G a b = (G, 2 * i, 0) := by
    intro a b hab
    have hand : Aig.and G a b = (G, 2 * i, 0) := by unfold Aig.and; rw [hn a b hab]; dsimp only; rw [hf]
    have hm : mand (G, 0) a b = ((G, 0), 2 * i) := by unfold mand; rw [if_neg (by simp), hand]
    have := whole_yes (G := G) (l := [a, b]) (f := fun s => mand s a b) (fun r hr => by simp at hr; omega) (by rw [hm])
    unfold doAnd
    simp only [List.map_cons, List.map_nil, hm] at this
    simpa using this
  exact ⟨go _ _ (.inl ⟨rfl, rfl⟩), go _ _ (.inr ⟨rfl, rfl⟩)⟩
end Go.Proofs.Ytdmmanfjafempaa
namespace Go.Proofs.Ytdmmanfjafempaa
open Go.Aig
theorem coneFrom_cons {ns : List Nd} : ∀ {n : Nat} {met : List Bool} {d : Nat} {rest : List Nat}, coneFrom ns n met = d :: rest → d < n ∧ met.getD d false = true ∧ (∀ m, d < m → m < n → met.getD m false = false) ∧ rest = coneFrom ns d (stepMet ns met d)
  | 0, met, d, rest, h => by cases h
  | n + 1, met, d, rest, h => by
    unfold coneFrom at h
    split at h
    · rename_i hm
      obtain ⟨rfl, rfl⟩ := List.cons.inj h
      exact ⟨by omega, hm, fun m h1 h2 => by omega, rfl⟩
    · rename_i hm
      obtain ⟨h1, h2, h3, h4⟩ := coneFrom_cons h
      refine ⟨by omega, h2, fun m q1 q2 => ?_, h4⟩
      by_cases e : m = n
      · subst e; simpa using hm
      · exact h3 m q1 (by omega)
theorem coneFrom_nil {ns : List Nd} : ∀ {n : Nat} {met : List Bool}, coneFrom ns n met = [] → ∀ m, m < n → met.getD m false = false
  | 0, _, _, m, hm => by omega
  | n + 1, met, h, m, hm => by
    unfold coneFrom at h
    split at h
    · cases h
    · rename_i hn
      by_cases e : m = n
      · subst e; simpa using hn
      · exact coneFrom_nil h m (by omega)
theorem getD_set {l : List Bool} {i j : Nat} : (l.set i true).getD j false = true ↔ (l.getD j false = true ∨ (j = i ∧ i < l.length)) := by
  rw [List.getD_eq_getElem?_getD, List.getD_eq_getElem?_getD, List.getElem?_set]
  by_cases e : i = j
  · subst e
    by_cases h : i < l.length
    · simp [h]
    · simp [h]
  · simp [e, Ne.symm e]
/-- one node of the cone after the other -/
structure ConeAt (ns : List Nd) (D : List Nat) (k n : Nat) (met : List Bool) : Prop where
  len : met.length = ns.length
  rest : D.drop k = coneFrom ns n met
  done : ∀ m, (met.getD m false = true ∧ n ≤ m) ↔ m ∈ D.take k
theorem ConeAt.start (ns : List Nd) (l : List Nat) : ConeAt ns (coneDown ns l) 0 ns.length (met0 ns.length l) := by
  refine ⟨met0_len _ _, by simp [coneDown], fun m => ⟨fun ⟨h1, h2⟩ => ?_, fun h => by simp at h⟩⟩
  rw [List.getD_eq_getElem?_getD, List.getElem?_eq_none (by rw [met0_len]; exact h2)] at h1
  cases h1
theorem stepMet_getD {ns : List Nd} {met : List Bool} (hw : WF ns) {d : Nat} (hl : met.length = ns.length) (m : Nat) : (stepMet ns met d).getD m false = true ↔ (met.getD m false = true ∨ ∃ x, ns[d]? = some x ∧ x.k = 3 ∧ (m = x.l / 2 ∨ m = x.r / 2)) := by
  unfold stepMet
  split
  · rename_i x hx
    have hd := (List.getElem?_eq_some_iff.1 hx).1
    by_cases h3 : x.k = 3
    · obtain ⟨s1, s2, s3, s4, s5⟩ := hw.sides hx h3
      rw [if_pos h3]
      unfold setMark
      rw [getD_set, getD_set]
      simp only [List.length_set]
      constructor
      · rintro ((h | ⟨rfl, _⟩) | ⟨rfl, _⟩)
        · exact .inl h
        · exact .inr ⟨x, hx, h3, .inl rfl⟩
        · exact .inr ⟨x, hx, h3, .inr rfl⟩
      · rintro (h | ⟨y, hy, _, hm⟩)
        · exact .inl (.inl h)
        · rw [hx] at hy; cases hy
          rcases hm with rfl | rfl
          · exact .inl (.inr ⟨rfl, by omega⟩)
          · exact .inr ⟨rfl, by omega⟩
    · rw [if_neg h3]
      constructor
      · exact .inl
      · rintro (h | ⟨y, hy, hk, _⟩)
        · exact h
        · rw [hx] at hy; cases hy; exact absurd hk h3
  · rename_i hx
    constructor
    · exact .inl
    · rintro (h | ⟨y, hy, _⟩)
      · exact h
      · rw [hx] at hy; cases hy
theorem ConeAt.next {ns : List Nd} {D : List Nat} {k n : Nat} {met : List Bool} (h : ConeAt ns D k n met) (hw : WF ns) {d : Nat} (hd : D[k]? = some d) : d < n ∧ met.getD d false = true ∧ ConeAt ns D (k + 1) d (stepMet ns met d) := by
  have hdrop : D.drop k = d :: D.drop (k + 1) := by
    have hlt := (List.getElem?_eq_some_iff.1 hd).1
    rw [List.drop_eq_getElem_cons hlt]
    rw [List.getElem?_eq_getElem hlt] at hd
    cases hd; rfl
  have hr := h.rest
  rw [hdrop] at hr
  obtain ⟨h1, h2, h3, h4⟩ := coneFrom_cons hr.symm
  refine ⟨h1, h2, by rw [stepMet_len, h.len], h4, fun m => ?_⟩
  rw [List.take_add_one, hd, stepMet_getD hw h.len m]
  simp only [Option.toList_some, List.mem_append, List.mem_singleton]
  rw [← h.done m]
  constructor
  · rintro ⟨hm | ⟨x, hx, h3', hm⟩, hle⟩
    · by_cases e : m = d
      · exact .inr e
      · exact .inl ⟨hm, by
          rcases Nat.lt_or_ge m n with q | q
          · have := h3 m (by omega) q; rw [this] at hm; cases hm
          · exact q⟩
    · obtain ⟨s1, s2, s3, s4, s5⟩ := hw.sides hx h3'
      omega
  · rintro (⟨hm, hle⟩ | rfl)
    · exact ⟨.inl hm, by omega⟩
    · exact ⟨.inl h2, Nat.le_refl _⟩
/-- at the end just the cone is marked -/
theorem ConeAt.all {ns : List Nd} {D : List Nat} {k n : Nat} {met : List Bool} (h : ConeAt ns D k n met) (hk : D.length ≤ k) (m : Nat) : met.getD m false = true ↔ m ∈ D := by
  have hr := h.rest
  rw [List.drop_eq_nil_of_le hk] at hr
  have hd := h.done m
  rw [List.take_of_length_le hk] at hd
  rw [← hd]
  constructor
  · intro hm
    refine ⟨hm, ?_⟩
    rcases Nat.lt_or_ge m n with q | q
    · have := coneFrom_nil hr.symm m q; rw [this] at hm; cases hm
    · exact q
  · exact fun h => h.1
theorem coneFrom_desc {ns : List Nd} : ∀ (n : Nat) (met : List Bool), (coneFrom ns n met).Pairwise (fun a b => b < a)
  | 0, _ => List.Pairwise.nil
  | n + 1, met => by
    unfold coneFrom
    split
    · exact List.Pairwise.cons (fun r hr => coneFrom_lt ns n _ r hr) (coneFrom_desc n _)
    · exact coneFrom_desc n met
theorem cone_asc (ns : List Nd) (l : List Nat) : (cone ns l).Pairwise (fun a b => a < b) := by
  unfold cone
  rw [List.pairwise_reverse]
  exact coneFrom_desc _ _
/-- it grows with what is marked -/
theorem coneFrom_mono {ns : List Nd} (hw : WF ns) : ∀ (n : Nat) (met met' : List Bool), met.length = ns.length → met'.length = ns.length → (∀ m, met.getD m false = true → met'.getD m false = true) → ∀ x ∈ coneFrom ns n met, x ∈ coneFrom ns n met'
  | 0, _, _, _, _, _, x, hx => by cases hx
  | n + 1, met, met', hl, hl', hle, x, hx => by
    unfold coneFrom at hx ⊢
    have hle2 : ∀ m, (stepMet ns met n).getD m false = true → (stepMet ns met' n).getD m false = true := fun m hm => by
      rw [stepMet_getD hw hl] at hm
      rw [stepMet_getD hw hl']
      exact hm.imp (hle m) id
    have hle3 : ∀ m, met.getD m false = true → (stepMet ns met' n).getD m false = true := fun m hm => by
      rw [stepMet_getD hw hl']
      exact .inl (hle m hm)
    split at hx
    · rename_i h1
      rw [if_pos (hle n h1)]
      rcases List.mem_cons.1 hx with rfl | hx
      · exact List.mem_cons_self ..
      · exact List.mem_cons_of_mem _ (coneFrom_mono hw n _ _ (by rw [stepMet_len, hl]) (by rw [stepMet_len, hl']) hle2 x hx)
    · split
      · exact List.mem_cons_of_mem _ (coneFrom_mono hw n _ _ hl (by rw [stepMet_len, hl']) hle3 x hx)
      · exact coneFrom_mono hw n _ _ hl hl' hle x hx
theorem foldl_mark_mono : ∀ (l : List Nat) (met : List Bool) (m : Nat), met.getD m false = true → (l.foldl setMark met).getD m false = true
  | [], _, _, h => h
  | r :: l, met, m, h => foldl_mark_mono l _ m (by unfold setMark; rw [getD_set]; exact .inl h)
/-- the cone of some of the references is in that of all -/
theorem cone_take {ns : List Nd} (hw : WF ns) (l : List Nat) (i : Nat) : ∀ x ∈ cone ns (l.take i), x ∈ cone ns l := by
  intro x hx
  unfold cone coneDown at hx ⊢
  rw [List.mem_reverse] at hx ⊢
  refine coneFrom_mono hw _ _ _ (met0_len _ _) (met0_len _ _) (fun m hm => ?_) x hx
  unfold met0 at hm ⊢
  conv => lhs; arg 1; rw [← List.take_append_drop i l, List.foldl_append]
  exact foldl_mark_mono _ _ _ hm
end Go.Proofs.Ytdmmanfjafempaa
namespace Go.Proofs.Ytdmmanfjafempaa
open Go.Mem Go.Aig
theorem nodeAt_even {ns : List Nd} {d : Nat} {x : Nd} (hx : ns[d]? = some x) : nodeAt ns (2 * (d : Int)) = some x := by
  unfold nodeAt
  rw [if_pos (by omega), show ((2 * (d : Int)).toNat / 2) = d from by omega, hx]
theorem nodeAt_odd {ns : List Nd} {d : Nat} {x : Nd} (hx : ns[d]? = some x) : nodeAt ns (2 * (d : Int) + 1) = some x := by
  unfold nodeAt
  rw [if_pos (by omega), show ((2 * (d : Int) + 1).toNat / 2) = d from by omega, hx]
structure NodeIs (ns : List Nd) (d : Nat) (x : Nd) : Prop where
  l : lOf ns (2 * (d : Int)) = if x.k = 3 then x.l else 0
  r : rOf ns (2 * (d : Int)) = if x.k = 3 then x.r else 0
  is : isAndAt ns (2 * (d : Int)) = (x.k == 3)
  dep : depthOf ns (2 * (d : Int) + 1) = x.d
  err : depthErr ns (2 * (d : Int) + 1) = 0
theorem node_is {ns : List Nd} {d : Nat} {x : Nd} (hx : ns[d]? = some x) : NodeIs ns d x := by
  refine ⟨?_, ?_, ?_, ?_, ?_⟩
  · unfold lOf; rw [nodeAt_even hx]
  · unfold rOf; rw [nodeAt_even hx]
  · unfold isAndAt kindOf; rw [nodeAt_even hx]
  · unfold depthOf; rw [nodeAt_odd hx]
  · unfold depthErr; rw [nodeAt_odd hx]
theorem dep_is {ns : List Nd} {r : Nat} (hr : r < 2 * ns.length) : depthOf ns (r : Int) = dep ns r ∧ depthErr ns (r : Int) = 0 := by
  have hx : ns[r / 2]? = some ns[r / 2] := List.getElem?_eq_getElem (by omega)
  have hn : nodeAt ns (r : Int) = some ns[r / 2] := by
    unfold nodeAt
    rw [if_pos (by omega), show ((r : Int).toNat / 2) = r / 2 from by omega, hx]
  unfold depthOf depthErr dep
  rw [hn, hx]
  exact ⟨rfl, rfl⟩
theorem leaf_d {ns : List Nd} (hw : WF ns) {d : Nat} {x : Nd} (hx : ns[d]? = some x) (hk : ¬ x.k = 3) : x.d = 0 := by
  rcases Nat.eq_zero_or_pos d with h0 | h0
  · subst h0
    rw [hw.const] at hx; cases hx; rfl
  · rcases hw.other d x hx h0 with h | h
    · rw [h]
    · exact absurd h.1 hk
theorem cone_at {ns : List Nd} {l : List Nat} {j d : Nat} (h : (cone ns l)[j]? = some d) : (coneDown ns l)[(cone ns l).length - (j + 1)]? = some d := by
  have hlt := (List.getElem?_eq_some_iff.1 h).1
  unfold cone at h hlt ⊢
  rw [List.length_reverse] at hlt ⊢
  rw [List.getElem?_reverse hlt] at h
  rw [← h]; congr 1; omega
theorem cone_lt' {ns : List Nd} {l : List Nat} {j p q : Nat} (h1 : (cone ns l)[j]? = some p) (h2 : (cone ns l)[j + 1]? = some q) : p < q := by
  obtain ⟨l1, e1⟩ := List.getElem?_eq_some_iff.1 h1
  obtain ⟨l2, e2⟩ := List.getElem?_eq_some_iff.1 h2
  have := List.pairwise_iff_getElem.1 (cone_asc ns l) j (j + 1) l1 l2 (by omega)
  rw [e1, e2] at this
  exact this
theorem nodup_le : ∀ (l m : List Nat), l.Nodup → (∀ x ∈ l, x ∈ m) → l.length ≤ m.length
  | [], _, _, _ => by simp
  | a :: l, m, h, hs => by
    have ha := hs a (List.mem_cons_self ..)
    obtain ⟨h1, h2⟩ := List.nodup_cons.1 h
    have := nodup_le l (m.erase a) h2 fun x hx => (List.mem_erase_of_ne (show x ≠ a from fun e => h1 (by rw [← e]; exact hx))).2 (hs x (List.mem_cons_of_mem _ hx))
    rw [List.length_erase_of_mem ha] at this
    have := List.length_pos_of_mem ha
    simp only [List.length_cons]
    omega
theorem cone_len_of {ns : List Nd} {l L : List Nat} {k n : Nat} {met : List Bool} (h : ConeAt ns (coneDown ns l) k n met) (hk : (coneDown ns l).length ≤ k) (hL : L.Nodup) (hm : ∀ q, q ∈ L ↔ met.getD q false = true) : L.length = (cone ns l).length := by
  have h2 : (coneDown ns l).Nodup := (coneFrom_desc _ _).imp fun h => by omega
  have h3 : ∀ q, q ∈ L ↔ q ∈ coneDown ns l := fun q => (hm q).trans (h.all hk q)
  have h4 : L.length ≤ (coneDown ns l).length := nodup_le _ _ hL fun q hq => (h3 q).1 hq
  have h5 : (coneDown ns l).length ≤ L.length := nodup_le _ _ h2 fun q hq => (h3 q).2 hq
  unfold cone
  rw [List.length_reverse]
  omega
end Go.Proofs.Ytdmmanfjafempaa
namespace Go.Proofs.Ytdmmanfjafempaa
open Go.RowKit Go.Mem Go.Aig
set_option maxRecDepth 100000 in
theorem cmpIsNaN_is (w : World) (x : Int) : Calls Try.prog 175 #[.int .i64 x] w fun e w' => e = .returned (.bool false) ∧ w = w' := by
  go_enter Try.func175, Try.ntmps175
  go_wp2_with fail
  go_ret
  exact ⟨ret_bool (by simp), rfl⟩
set_option maxRecDepth 100000 in
theorem slIsNaN_is (w : World) (x : Int) : Calls Try.prog 155 #[.int .i64 x] w fun e w' => e = .returned (.bool false) ∧ w = w' := by
  go_enter Try.func155, Try.ntmps155
  go_wp2_with fail
  go_ret
  exact ⟨ret_bool (by simp), rfl⟩
set_option maxRecDepth 100000 in
set_option maxHeartbeats 1000000 in
theorem cmpLess_is (w : World) (x y : Int) : Calls Try.prog 154 #[.int .i64 x, .int .i64 y] w fun e w' => e = .returned (.bool (decide (x < y))) ∧ w = w' := by
  go_enter Try.func154, Try.ntmps154
  go_wp2_with fail
  refine (cmpIsNaN_is w x).mono ?_
  rintro e w' ⟨rfl, rfl⟩
  go_wp2_with fail
  go_ret
  exact ⟨rfl, rfl⟩
theorem rising_lt {l : List Nat} (h : l.Pairwise (· < ·)) {i j a b : Nat} (hi : l[i]? = some a) (hj : l[j]? = some b) (hij : i < j) : a < b := by
  obtain ⟨h1, h2⟩ := List.getElem?_eq_some_iff.1 hi
  obtain ⟨h3, h4⟩ := List.getElem?_eq_some_iff.1 hj
  rw [← h2, ← h4]
  exact List.pairwise_iff_getElem.1 h i j h1 h3 hij
set_option maxRecDepth 100000 in
set_option maxHeartbeats 4000000 in
theorem BSint_is {w : World} {a : Option Addr} {l : List Nat} (hP : l.Pairwise (· < ·)) (n c : Nat) (hn : l.length = n) (hnl : n ≤ 1000000) (hS : Sl w a (l.map fun (r : Nat) => (r : Int))) (x : Nat) :
    Calls Try.prog 108 #[.slice a n c, .int .i64 x] w fun e w' => ∃ i : Nat, e = .returned (.tuple #[.int .i64 i, .bool (decide (x ∈ l))]) ∧ w = w' := by
  have HS := Lib.hid hS; clear hS
  have HP := Lib.hid hP; clear hP
  have HN := Lib.hid hn; clear hn
  go_enter Try.func108, Try.ntmps108
  go_wp2_with fail
  go_loopw [7, 8] (fun s t wr => ∃ i j : Nat, s = .int .i64 i ∧ t = .int .i64 j ∧ i ≤ j ∧ j ≤ n ∧ wr = w ∧ (∀ k y : Nat, k < i → l[k]? = some y → y < x) ∧ (∀ k y : Nat, j ≤ k → l[k]? = some y → x ≤ y)) (fun s t _ => (intOf t).toNat - (intOf s).toNat)
  case atStart => exact ⟨0, n, rfl, rfl, by omega, by omega, rfl, fun k y hk => by omega, fun k y hk hy => by have := (List.getElem?_eq_some_iff.1 hy).1; have := HN.out; omega⟩
  case round =>
    obtain ⟨i, j, rfl, rfl, hij, hjn, rfl, h1, h2⟩ := hrel
    have H1 := Lib.hid h1; clear h1
    have H2 := Lib.hid h2; clear h2
    by_cases hlt : i < j
    · obtain ⟨m, hm⟩ : ∃ m, (i + j) / 2 = m := ⟨_, rfl⟩
      have hmi : i ≤ m ∧ m < j := by omega
      obtain ⟨y, hy⟩ : ∃ y, l[m]? = some y := ⟨_, List.getElem?_eq_getElem (by have := HN.out; omega)⟩
      obtain ⟨xb, xo, rfl, hcl⟩ := HS.out.cells m (y : Int) (by simp [hy])
      have em : ((i : Int) + (j : Int)) / 2 = m := by omega
      have HL := Lib.hid (cmpLess_is wr y x)
      have HY := Lib.hid hy; clear hy
      have HM := Lib.hid hm; clear hm
      by_cases hyx : y < x
      · have e1 : decide ((y : Int) < x) = true := decide_eq_true (by omega)
        rw [e1] at HL
        have HYX := Lib.hid hyx; clear hyx e1
        go_wp2_with fail
        refine HL.out.mono ?_
        rintro e w' ⟨rfl, rfl⟩
        go_wp2_with fail
        go_roundw
        case rel =>
          refine ⟨m + 1, j, by go_num, rfl, by omega, hjn, trivial, fun k z hk hz => ?_, H2.out⟩
          by_cases hkm : k = m
          · subst hkm
            have := HY.out.symm.trans hz
            cases this
            exact HYX.out
          · exact Nat.lt_trans (rising_lt HP.out hz HY.out (by omega)) HYX.out
        case measure => simp [intOf]; omega
      · have e1 : decide ((y : Int) < x) = false := decide_eq_false (by omega)
        rw [e1] at HL
        have HYX := Lib.hid hyx; clear hyx e1
        go_wp2_with fail
        refine HL.out.mono ?_
        rintro e w' ⟨rfl, rfl⟩
        go_wp2_with fail
        go_roundw
        case rel =>
          refine ⟨i, m, rfl, by go_num, by omega, by omega, trivial, H1.out, fun k z hk hz => ?_⟩
          have h3 := HYX.out
          by_cases hkm : k = m
          · subst hkm
            have := HY.out.symm.trans hz
            cases this
            omega
          · have := rising_lt HP.out HY.out hz (by omega)
            omega
        case measure => simp [intOf]; omega
    · have hij2 : j = i := by omega
      subst hij2
      by_cases hin : j < n
      · obtain ⟨y, hy⟩ : ∃ y, l[j]? = some y := ⟨_, List.getElem?_eq_getElem (by have := HN.out; omega)⟩
        obtain ⟨xb, xo, rfl, hcl⟩ := HS.out.cells j (y : Int) (by simp [hy])
        have HNA := Lib.hid (slIsNaN_is wr y)
        have hmem : decide (x ∈ l) = ((y : Int) == (x : Int)) := by
          have h3 := H2.out j y (Nat.le_refl _) hy
          by_cases hyx : y = x
          · subst hyx
            rw [decide_eq_true (List.mem_of_getElem? hy)]
            simp
          · have hne : x ∉ l := fun hmem => by
              obtain ⟨k, hk⟩ := List.mem_iff_getElem?.1 hmem
              by_cases hkj : k < j
              · have := H1.out k x hkj hk; omega
              · by_cases hkj2 : k = j
                · subst hkj2; rw [hy] at hk; cases hk; exact hyx rfl
                · have := rising_lt HP.out hy hk (by omega); omega
            rw [decide_eq_false hne]
            symm
            rw [beq_eq_false_iff_ne]
            omega
        have HMEM := Lib.hid hmem; clear hmem
        have HY := Lib.hid hy; clear hy
        cases hb : ((y : Int) == (x : Int))
        · go_wp2_with fail
          refine HNA.out.mono ?_
          rintro e w' ⟨rfl, rfl⟩
          go_wp2_with fail
          go_ret2
          exact ⟨j, by rw [HMEM.out, hb]; rfl, rfl⟩
        · go_wp2_with fail
          go_ret2
          exact ⟨j, by rw [HMEM.out, hb]; rfl, rfl⟩
      · have hjn2 : j = n := by omega
        have hne : decide (x ∈ l) = false := decide_eq_false fun hmem => by
          obtain ⟨k, hk⟩ := List.mem_iff_getElem?.1 hmem
          have h4 := (List.getElem?_eq_some_iff.1 hk).1
          have := H1.out k x (by have := HN.out; omega) hk
          omega
        have HNE := Lib.hid hne; clear hne
        have e1 : decide ((j : Int) < n) = false := decide_eq_false (by omega)
        clear hjn2
        go_wp2_with fail
        go_ret2
        exact ⟨j, by rw [HNE.out]; rfl, rfl⟩
/-- what Nodes returns -/
def nodesR (G : Gra) (ins : List Nat) : List Nat × Nat := if ins.length ≠ (inputs G.nodes).length then ([], 210) else ((wvF U64 ins G.nodes).1, 0)
section
variable {w : World} {g : Nat} {G : Gra} {F : List Nat}
set_option maxRecDepth 100000 in
set_option maxHeartbeats 2000000 in
theorem simNodes_is (h : GIn w g G F) {xa : Option Addr} {ins : List Nat} (m xc : Nat) (hm : ins.length = m) (hS : Sv w xa (u64s ins)) (hlt : ∀ v ∈ ins, v < 2 ^ 64) (hcap : m ≤ xc) (hxc : xc ≤ 9223372036854775807) (hml : m ≤ 1000000) :
    Calls Try.prog 41 #[.pointer (some ⟨g, 0, none⟩), .slice xa m xc] w fun e w' => ∃ v, e = .returned (.tuple #[v, .int .i64 (nodesR G ins).2]) ∧ ((nodesR G ins).2 = 0 → ∃ b, v = .slice (some ⟨b, 0, none⟩) G.nodes.length G.nodes.length ∧ w.heap.size ≤ b ∧ blk w' b (u64s (nodesR G ins).1)) ∧ ((nodesR G ins).2 ≠ 0 → v = .slice none 0 0) ∧ Ch [] w w' := by
  subst hm
  have HCK := simcheck_is h (a := none) (l := []) 0 0 rfl ⟨fun i x hx => by simp at hx, by simp⟩ (by simp)
  have hb0 : badIn G [] = false := rfl
  rw [hb0] at HCK
  have HIN := fun (W : World) (hW : Ch [] w W) => Inputs_g (h.same hW (by simp))
  have HIN := Lib.hid HIN
  have HND := fun (W : World) (hW : Ch [] w W) (hi : (inputs G.nodes).length = ins.length) => simnodes_is (h.same hW (by simp)) xc (hS.ch hW (by simp)) hi hlt hcap hxc
  have HND := Lib.hid HND
  unfold nodesR
  have hil : (inputs G.nodes).length ≤ 65536 := by
    have := inputs_le G.nodes
    have := h.ok.room
    have := h.ok.most
    omega
  by_cases hi : ins.length = (inputs G.nodes).length
  · rw [if_neg (by simp [hi])]
    have hie : ((ins.length : Int) != (inputs G.nodes).length) = false := by simp [hi]
    have hi' := Lib.hid hi.symm
    clear hi h hS hlt
    generalize (inputs G.nodes).length = ni at *
    go_enter Try.func41, Try.ntmps41
    go_wp2_with fail
    refine HCK.mono ?_
    rintro e w1 ⟨rfl, hc1⟩
    have hI := HIN.out w1 hc1
    have HI := Lib.hid hI; clear hI HIN
    have HC1 := Lib.hid hc1; clear hc1
    go_wp2_with fail
    refine HI.out.mono ?_
    rintro e w2 ⟨v, rfl, hr, _, hc2⟩
    obtain ⟨ia, ic, rfl⟩ := row.shape hr
    have hc12 := HC1.out.trans hc2 (by simp)
    have hN := HND.out w2 hc12 hi'.out
    have HN := Lib.hid hN; clear hN HND hr hc2
    have HC2 := Lib.hid hc12; clear hc12 HC1 HI
    go_wp2_with fail
    refine HN.out.mono ?_
    rintro e w3 ⟨rfl, hb, hc3⟩
    have HB := Lib.hid hb; clear hb
    have HC3 := Lib.hid hc3; clear hc3
    go_wp2_with fail
    go_ret2
    exact ⟨_, rfl, fun _ => ⟨_, rfl, HC2.out.size, HB.out⟩, fun hne => absurd rfl hne, HC2.out.trans HC3.out (by simp)⟩
  · rw [if_pos hi]
    have hie : ((ins.length : Int) != (inputs G.nodes).length) = true := by simp; omega
    clear hi h hS hlt HND
    generalize (inputs G.nodes).length = ni at *
    go_enter Try.func41, Try.ntmps41
    go_wp2_with fail
    refine HCK.mono ?_
    rintro e w1 ⟨rfl, hc1⟩
    have hI := HIN.out w1 hc1
    have HI := Lib.hid hI; clear hI HIN
    have HC1 := Lib.hid hc1; clear hc1
    go_wp2_with fail
    refine HI.out.mono ?_
    rintro e w2 ⟨v, rfl, hr, _, hc2⟩
    obtain ⟨ia, ic, rfl⟩ := row.shape hr
    have HC2 := Lib.hid (HC1.out.trans hc2 (by simp)); clear hr hc2 HC1 HI
    go_wp2_with fail
    go_ret2
    exact ⟨_, rfl, fun h => by simp at h, fun _ => rfl, HC2.out⟩
/-- the inputs in the cone -/
def suppL (ns : List Nd) (l : List Nat) (k : Nat) : List Nat := (List.range k).filter fun i => decide ((inputs ns).getD i 0 / 2 ∈ cone ns l)
def suppR (G : Gra) (l : List Int) : List Nat × Nat := if badIn G l then ([], 200) else (suppL G.nodes (nats l) (inputs G.nodes).length, 0)
theorem suppL_succ (ns : List Nd) (l : List Nat) (k : Nat) : suppL ns l (k + 1) = suppL ns l k ++ (if (inputs ns).getD k 0 / 2 ∈ cone ns l then [k] else []) := by
  unfold suppL
  rw [List.range_succ, List.filter_append]
  congr 1
  by_cases h : (inputs ns).getD k 0 / 2 ∈ cone ns l
  · rw [if_pos h, List.filter_cons, if_pos (by simpa using h)]; rfl
  · rw [if_neg h, List.filter_cons, if_neg (by simpa using h)]; rfl
theorem suppL_len (ns : List Nd) (l : List Nat) (k : Nat) : (suppL ns l k).length ≤ k := by
  unfold suppL
  exact Nat.le_trans (List.length_filter_le _ _) (by simp)
/-- a new slice of ints -/
def INew (w : World) (v : Value) (l : List Nat) (w' : World) : Prop := row w' 3 1 v l.length (refsCells l) ∧ (∀ q ∈ v.ownBlock.toList, w.heap.size ≤ q) ∧ Ch [] w w'
set_option maxRecDepth 100000 in
set_option maxHeartbeats 1000000 in
theorem simSupport_is (h : GIn w g G F) {a : Option Addr} {l : List Int} (n c : Nat) (hn : l.length = n) (hL : Sl w a l) (hlow : ∀ q, a = some q → q.block < w.heap.size) (hbd : ∀ r ∈ l, -9223372036854775808 ≤ r ∧ r ≤ 9223372036854775807) :
    Calls Try.prog 44 #[.pointer (some ⟨g, 0, none⟩), .slice a n c] w fun e w' => ∃ v, e = .returned (.tuple #[v, .int .i64 (suppR G l).2]) ∧ INew w v (suppR G l).1 w' := by
  subst hn
  have HCK := simcheck_is h l.length c rfl hL (fun r hr => (hbd r hr).2)
  unfold suppR
  cases hb : badIn G l
  · rw [hb] at HCK
    simp only [Bool.false_eq_true, if_false] at HCK ⊢
    obtain ⟨hnat, hnl⟩ := badIn_no hb
    have HCN := fun (W : World) (hW : Ch [] w W) => Cone_g (h.same hW (by simp)) (l := nats l) l.length c (by rw [← hnat]; simp [nats]) (by rw [hnat]; exact hL.ch hW (by simp)) (fun p hp => Nat.lt_of_lt_of_le (hlow p hp) hW.size) hnl
    have HCN := Lib.hid HCN
    have HIN := fun (W : World) (hW : Ch [] w W) => Inputs_g (h.same hW (by simp))
    have HIN := Lib.hid HIN
    have hca := cone_asc G.nodes (nats l)
    have hcl : (cone G.nodes (nats l)).length ≤ 65536 := by
      have h1 : (cone G.nodes (nats l)).length ≤ G.nodes.length := by
        unfold cone coneDown
        rw [List.length_reverse]
        exact coneFrom_len _ _ _
      have := h.ok.room
      have := h.ok.most
      omega
    have HSU := Lib.hid (suppL_succ G.nodes (nats l))
    have HSL := Lib.hid (suppL_len G.nodes (nats l))
    obtain ⟨IN, hIN⟩ : ∃ IN, IN = inputs G.nodes := ⟨_, rfl⟩
    rw [← hIN] at HIN HSU ⊢
    have hil : IN.length ≤ 65536 := by
      rw [hIN]
      have := inputs_le G.nodes
      have := h.ok.room
      have := h.ok.most
      omega
    have hibd : ∀ r ∈ IN, r ≤ 1000000 := fun r hr => by
      rw [hIN] at hr
      have := (inputsFrom_ge _ _ _ hr).2.2
      have := h.ok.room
      have := h.ok.most
      omega
    have HIB := Lib.hid hibd; clear hibd
    clear hIN
    generalize hCC : cone G.nodes (nats l) = CC at *
    generalize hSS : suppL G.nodes (nats l) = SS at *
    have hSS0 : SS 0 = [] := by rw [← hSS]; rfl
    have HSS0 := Lib.hid hSS0; clear hSS0
    have HCA := Lib.hid hca; clear hca
    clear h hL hlow hbd hb hnat hnl hCC hSS
    go_enter Try.func44, Try.ntmps44
    go_wp2_with fail
    refine HCK.mono ?_
    rintro e w1 ⟨rfl, hc1⟩
    have hC := HCN.out w1 hc1
    have HCo := Lib.hid hC; clear hC HCN
    have HC1 := Lib.hid hc1; clear hc1 HCK
    go_wp2_with fail
    refine HCo.out.mono ?_
    rintro e w2 ⟨v, rfl, hro, _, hc2⟩
    obtain ⟨ca, cc, rfl⟩ := row.shape hro
    have hsc := Sl.of_row' hro rfl (by omega)
    have hc12 := HC1.out.trans hc2 (by simp)
    have hI := HIN.out w2 hc12
    have HI := Lib.hid hI; clear hI HIN hro hc2 HCo
    have HC2 := Lib.hid hc12; clear hc12 HC1
    have HSC := Lib.hid hsc; clear hsc
    go_wp2_with fail
    refine HI.out.mono ?_
    rintro e w3 ⟨v, rfl, hri, _, hc3⟩
    obtain ⟨ia, ic, rfl⟩ := row.shape hri
    have hsi := Sl.of_row' hri rfl (by omega)
    have hsc := HSC.out.ch hc3 (by simp)
    have hc23 := HC2.out.trans hc3 (by simp)
    clear hri hc3 HI HSC
    have HC3 := Lib.hid hc23; clear hc23 HC2
    have HSC := Lib.hid hsc; clear hsc
    have HSI := Lib.hid hsi; clear hsi
    go_wp2_with fail
    go_loopw [9, 29] (fun o i wr => ∃ k : Nat, k ≤ IN.length ∧ i = .int .i64 k ∧ Ch [] w3 wr ∧ row wr 3 1 o (SS k).length (refsCells (SS k)) ∧ ∀ q ∈ o.ownBlock.toList, w3.heap.size ≤ q) (fun _ i _ => IN.length - (intOf i).toNat)
    case atStart => exact ⟨0, by omega, rfl, Ch.refl _ _, by rw [HSS0.out]; exact ⟨rfl, .inl ⟨rfl, rfl⟩⟩, by simp⟩
    case round =>
      obtain ⟨k, hk, rfl, hc, hrow, hlo⟩ := hrel
      obtain ⟨oa, oc, rfl⟩ := row.shape hrow
      have HROW := Lib.hid hrow; clear hrow
      by_cases hlt : k < IN.length
      · obtain ⟨x, hx⟩ : ∃ x, IN[k]? = some x := ⟨_, List.getElem?_eq_getElem hlt⟩
        have hxb := HIB.out x (List.mem_of_getElem? hx)
        have hsn := HSU.out k
        rw [show IN.getD k 0 = x by rw [List.getD_eq_getElem?_getD, hx]; rfl] at hsn
        have hsl := HSL.out k
        have hsl2 := HSL.out (k + 1)
        obtain ⟨xb, xo, rfl, hcl'⟩ := HSI.out.cells k (x : Int) (by simp [hx])
        have c0 := (hc.cell (cell_lt hcl') (by simp)).trans hcl'
        have ex : (x : Int) / 2 = ((x / 2 : Nat) : Int) := by omega
        have hBS := BSint_is HCA.out CC.length cc rfl (by omega) (HSC.out.ch hc (by simp)) (x / 2)
        rw [← ex] at hBS
        have HC := Lib.hid hc; clear hc
        have HLO := Lib.hid hlo; clear hlo
        have HBS := Lib.hid hBS; clear hBS ex hcl' hx
        by_cases hm : x / 2 ∈ CC
        · rw [if_pos hm] at hsn
          rw [decide_eq_true hm] at HBS
          have HM := Lib.hid hm; clear hm
          have hcA : Ch [] wr (wr.alloc (.cells #[.int .i64 k] 3)) := (Ch.refl _ _).alloc _
          have hrA := HROW.out.ch hcA (by simp)
          have hbA : blk (wr.alloc (.cells #[.int .i64 k] 3)) wr.heap.size [.int .i64 k] := blk.new' _ _ rfl
          have HSN := Lib.hid hsn; clear hsn
          have HRA := Lib.hid hrA; clear hrA
          have HBA := Lib.hid hbA; clear hbA
          have HCA' := Lib.hid hcA; clear hcA
          go_wp2_with fail
          refine HBS.out.mono ?_
          rintro e w' ⟨i0, rfl, rfl⟩
          go_wp2_with (at_builtin; go_loud (refine wpList_append_row slInts rfl _ _ rfl (v := .slice oa (SS k).length oc) (n := (SS k).length) (xs := refsCells (SS k)) rfl HRA.out (ad := ⟨wr.heap.size, 0, none⟩) (m := 1) (c := 1) (news := [.int .i64 k]) rfl rfl (news_blk HBA.out) (by simp [Value.oneCell']) (by omega) (by omega) ?_; intro v' w5 hown4 hC4 hf4; have HO4 := Lib.hid hown4; clear hown4; have HCC4 := Lib.hid hC4; clear hC4; have HF4 := Lib.hid hf4; clear hf4))
          go_roundw
          case rel =>
            obtain ⟨q1, q2⟩ := app_step HC.out HCA'.out HLO.out HCC4.out HF4.out
            refine ⟨k + 1, by omega, by go_num, q1, ?_, q2⟩
            rw [HSN.out, List.length_append, show refsCells (SS k ++ [k]) = refsCells (SS k) ++ [.int .i64 k] by simp [refsCells]]
            exact HO4.out
          case measure => simp [intOf]; omega
        · rw [if_neg hm] at hsn
          rw [decide_eq_false hm] at HBS
          have HM := Lib.hid hm; clear hm
          have HSN := Lib.hid hsn; clear hsn
          go_wp2_with fail
          refine HBS.out.mono ?_
          rintro e w' ⟨i0, rfl, rfl⟩
          go_wp2_with fail
          go_roundw
          case rel => exact ⟨k + 1, by omega, by go_num, HC.out, by rw [HSN.out, List.append_nil]; exact HROW.out, HLO.out⟩
          case measure => simp [intOf]; omega
      · have hkn : k = IN.length := by omega
        subst hkn
        have HLO := Lib.hid hlo; clear hlo
        have HC := Lib.hid hc; clear hc
        go_wp2_with fail
        go_ret2
        exact ⟨_, rfl, HROW.out, fun q hq => Nat.le_trans HC3.out.size (HLO.out q hq), HC3.out.trans HC.out (by simp)⟩
  · rw [hb] at HCK
    simp only [if_true] at HCK ⊢
    go_enter Try.func44, Try.ntmps44
    go_wp2_with fail
    refine HCK.mono ?_
    rintro e w1 ⟨rfl, hc1⟩
    have HC1 := Lib.hid hc1; clear hc1
    go_wp2_with fail
    go_ret2
    exact ⟨_, rfl, ⟨rfl, .inl ⟨rfl, rfl⟩⟩, by simp, HC1.out⟩
end
end Go.Proofs.Ytdmmanfjafempaa
namespace Go.Aig
/-- a node that is wanted -/
structure N21 where
  inp : Bool
  l : Int
  r : Int
deriving Inhabited
def fewS (q : List N21 × Nat) (x : N21) : List N21 × Nat := (if q.2 + x.inp.toNat ≤ 8 ∨ x.inp = false then q.1 ++ [x] else q.1, q.2 + x.inp.toNat)
def fewL (l : List N21) : List N21 := ((l.take 40).foldl fewS ([], 0)).1
def cntI (l : List N21) : Nat := (l.filter fun x => x.inp).length
theorem cntI_snoc (l : List N21) (x : N21) : cntI (l ++ [x]) = cntI l + x.inp.toNat := by
  unfold cntI
  rw [List.filter_append, List.length_append]
  cases h : x.inp <;> simp [h]
theorem few_inv : ∀ l : List N21, (l.foldl fewS ([], 0)).1.length ≤ l.length ∧ cntI (l.foldl fewS ([], 0)).1 ≤ 8 ∧ cntI (l.foldl fewS ([], 0)).1 ≤ (l.foldl fewS ([], 0)).2 ∧ (l.foldl fewS ([], 0)).2 ≤ l.length := by
  intro l
  induction l using List.snocRec with
  | nil => exact ⟨Nat.le_refl _, by simp [cntI], by simp [cntI], Nat.le_refl _⟩
  | snoc l x ih =>
    obtain ⟨h1, h2, h3, h4⟩ := ih
    rw [List.foldl_append]
    generalize l.foldl fewS ([], 0) = q at *
    have hx : x.inp.toNat ≤ 1 := by cases x.inp <;> simp
    show (fewS q x).1.length ≤ _ ∧ cntI (fewS q x).1 ≤ 8 ∧ cntI (fewS q x).1 ≤ (fewS q x).2 ∧ (fewS q x).2 ≤ _
    unfold fewS
    simp only
    split
    · rename_i h
      rw [List.length_append, List.length_append, cntI_snoc]
      refine ⟨by simp; omega, ?_, by omega, by simp; omega⟩
      rcases h with h | h
      · omega
      · rw [h]; simpa using h2
    · rw [List.length_append]
      exact ⟨by omega, h2, by omega, by simp; omega⟩
theorem fewS_sub : ∀ (l : List N21) (q : List N21 × Nat), ∀ x ∈ (l.foldl fewS q).1, x ∈ q.1 ∨ x ∈ l := by
  intro l
  induction l with
  | nil => intro q x hx; exact .inl hx
  | cons y l ih =>
    intro q x hx
    rcases ih _ x hx with h | h
    · unfold fewS at h
      simp only at h
      split at h
      · rcases List.mem_append.1 h with h | h
        · exact .inl h
        · rw [List.mem_singleton.1 h]; exact .inr (List.mem_cons_self ..)
      · exact .inl h
    · exact .inr (List.mem_cons_of_mem _ h)
theorem fewL_sub {l : List N21} {x : N21} (h : x ∈ fewL l) : x ∈ l := by
  rcases fewS_sub (l.take 40) ([], 0) x h with h | h
  · simp at h
  · exact List.mem_of_mem_take h
theorem fewL_len (l : List N21) : (fewL l).length ≤ 40 ∧ cntI (fewL l) ≤ 8 := by
  have := few_inv (l.take 40)
  unfold fewL
  rw [List.length_take] at this
  omega
end Go.Aig
namespace Go.Proofs.Ytdmmanfjafempaa
open Go.RowKit Go.Mem Go.Aig
theorem and_room21 {G : Gra} (a b : Nat) (h : G.nodes.length < G.most) : (Aig.and G a b).2.2 = 0 ∧ (Aig.and G a b).1.most = G.most ∧ (Aig.and G a b).1.nodes.length ≤ G.nodes.length + 1 ∧ inputs (Aig.and G a b).1.nodes = inputs G.nodes := by
  unfold Aig.and
  split
  · exact ⟨rfl, rfl, by simp, rfl⟩
  · split
    · exact ⟨rfl, rfl, by simp, rfl⟩
    · unfold put
      rw [if_neg (by omega)]
      refine ⟨rfl, rfl, by simp, ?_⟩
      exact inputs_append (by simp)
theorem input_room {G : Gra} (h : G.nodes.length < G.most) : (doInput G).2.2 = 0 ∧ (doInput G).1.most = G.most ∧ (doInput G).1.nodes.length = G.nodes.length + 1 ∧ (inputs (doInput G).1.nodes).length = (inputs G.nodes).length + 1 := by
  unfold doInput put
  rw [if_neg (by omega)]
  refine ⟨rfl, rfl, by simp, ?_⟩
  show (inputs (G.nodes ++ [_])).length = _
  rw [inputs_input rfl]
  simp
/-- a slice of nodes -/
structure NodeS (w : World) (a : Option Addr) (n cap : Nat) (l : List N21) : Prop where
  len : l.length = n
  le : n ≤ cap
  max : cap ≤ 9223372036854775807
  cells : ∀ (i : Nat) (x : N21), l[i]? = some x → ∃ b o, a = some ⟨b, o, none⟩ ∧ w.cell? ⟨b, o + i * 3, none⟩ = some (.bool x.inp) ∧ w.cell? ⟨b, o + i * 3 + 1, none⟩ = some (.int .i64 x.l) ∧ w.cell? ⟨b, o + i * 3 + 2, none⟩ = some (.int .i64 x.r)
  bd : ∀ x ∈ l, (-9223372036854775808 ≤ x.l ∧ x.l ≤ 9223372036854775807) ∧ (-9223372036854775808 ≤ x.r ∧ x.r ≤ 9223372036854775807)
theorem NodeS.ch {w w' : World} {a : Option Addr} {n cap : Nat} {l : List N21} (h : NodeS w a n cap l) (hc : Ch [] w w') : NodeS w' a n cap l :=
  ⟨h.len, h.le, h.max, fun i x hx => by
    obtain ⟨b, o, e, h1, h2, h3⟩ := h.cells i x hx
    exact ⟨b, o, e, (hc.cell (cell_lt h1) (by simp)).trans h1, (hc.cell (cell_lt h2) (by simp)).trans h2, (hc.cell (cell_lt h3) (by simp)).trans h3⟩, h.bd⟩
def n21Cells (l : List N21) : List Value := l.flatMap fun x => [.bool x.inp, .int .i64 x.l, .int .i64 x.r]
theorem n21Cells_snoc (l : List N21) (x : N21) : n21Cells (l ++ [x]) = n21Cells l ++ [.bool x.inp, .int .i64 x.l, .int .i64 x.r] := by simp [n21Cells]
theorem n21_at : ∀ {L : List N21} {k : Nat} {x : N21}, L[k]? = some x → (n21Cells L)[k * 3]? = some (.bool x.inp) ∧ (n21Cells L)[k * 3 + 1]? = some (.int .i64 x.l) ∧ (n21Cells L)[k * 3 + 2]? = some (.int .i64 x.r)
  | [], k, x, h => by simp at h
  | y :: L, 0, x, h => by
    have e : y = x := by simpa using h
    subst e
    exact ⟨rfl, rfl, rfl⟩
  | y :: L, k + 1, x, h => by
    have ih := n21_at (L := L) (k := k) (x := x) (by simpa using h)
    have e : n21Cells (y :: L) = [.bool y.inp, .int .i64 y.l, .int .i64 y.r] ++ n21Cells L := by simp [n21Cells]
    rw [e, show (k + 1) * 3 = k * 3 + 3 by omega]
    refine ⟨?_, ?_, ?_⟩
    · rw [List.getElem?_append_right (by simp)]; simpa using ih.1
    · rw [List.getElem?_append_right (by simp)]; simpa using ih.2.1
    · rw [List.getElem?_append_right (by simp)]; simpa using ih.2.2
theorem row_cell {w : World} {e : TypeId} {size b n c m : Nat} {vs : List Value} (h : row w e size (.slice (some ⟨b, 0, none⟩) n c) m vs) {k : Nat} {v : Value} (hk : vs[k]? = some v) : w.cell? ⟨b, k, none⟩ = some v := by
  have := h.cells (g := b) rfl k v hk
  rw [Addr.add_lit] at this
  simpa using this
theorem infoNode21 : (Try.prog.info? 23).map (fun i => (i.zero, i.size, i.bytes)) = some (some (.agg #[.bool false, .int .i64 0, .int .i64 0]), 3, 24) := by kernel_rfl
theorem slNodes21 : SliceTy Try.prog 24 23 3 24 (.agg #[.bool false, .int .i64 0, .int .i64 0]) := ⟨Try.underlying24, infoNode21, rfl, by decide⟩
set_option maxRecDepth 100000 in
set_option maxHeartbeats 1000000 in
theorem index21_is (w : World) (n : Int) (_hn : -9223372036854775808 ≤ n ∧ n ≤ 9223372036854775807) (k : Nat) (hk : 1 ≤ k) (hk2 : k ≤ 1000000) :
    Calls Try.prog 102 #[.int .i64 n, .int .i64 k] w fun e w' => e = .returned (.int .i64 (n % k)) ∧ w = w' := by
  have hb := Int.emod_nonneg n (show (k : Int) ≠ 0 by omega)
  have hb2 := Int.emod_lt_of_pos n (show (0 : Int) < k by omega)
  have hk0 : ((k : Int) == 0) = false := beqN (by omega)
  have ht := Int.tmod_eq_emod (a := n) (b := (k : Int))
  obtain ⟨r, hr⟩ : ∃ r, Int.tmod n k = r := ⟨_, rfl⟩
  have hr1 : -(k : Int) < r ∧ r < k := by
    have := Int.natAbs_tmod n k
    have h2 : (Int.tmod n k).natAbs < k := by rw [this]; exact Nat.mod_lt _ (by omega)
    rw [hr] at h2
    omega
  have hres : n % k = if r < 0 then r + k else r := by
    rw [hr] at ht
    split at ht
    · split <;> omega
    · have : ((k : Int).natAbs : Int) = k := by simp
      rw [this] at ht
      split <;> omega
  by_cases h0 : r < 0
  · rw [if_pos h0] at hres
    rw [hres]
    have HH := Lib.hid hres
    clear hres ht hb hb2
    go_enter Try.func102, Try.ntmps102
    go_wp2_with fail
    go_ret
    exact ⟨rfl, rfl⟩
  · rw [if_neg h0] at hres
    rw [hres]
    clear hres ht hb hb2
    go_enter Try.func102, Try.ntmps102
    go_wp2_with fail
    go_ret
    exact ⟨rfl, rfl⟩
end Go.Proofs.Ytdmmanfjafempaa
namespace Go.Proofs.Ytdmmanfjafempaa
open Go.ChangeShapes Go.WideShapes Go.ChangeAt Go.RowKit Go.Mem Go.Aig Go.Deep
theorem wf_u64 {n : Int} (h : (Lit.int .u64 n).wf = true) : ∃ m : Nat, n = m ∧ m < 2 ^ 64 := by
  have : 0 ≤ n ∧ n ≤ 18446744073709551615 := by simpa [Lit.wf, IntKind.min, IntKind.max, IntKind.signed, IntKind.bits] using h
  exact ⟨n.toNat, by omega, by omega⟩
theorem wf_u16 {n : Int} (h : (Lit.int .u16 n).wf = true) : ∃ m : Nat, n = m ∧ m < 2 ^ 16 := by
  have : 0 ≤ n ∧ n ≤ 65535 := by simpa [Lit.wf, IntKind.min, IntKind.max, IntKind.signed, IntKind.bits] using h
  exact ⟨n.toNat, by omega, by omega⟩
theorem wf_u8' {n : Int} (h : (Lit.int .u8 n).wf = true) : ∃ m : Nat, n = m ∧ m < 2 ^ 8 := by
  have : 0 ≤ n ∧ n ≤ 255 := by simpa [Lit.wf, IntKind.min, IntKind.max, IntKind.signed, IntKind.bits] using h
  exact ⟨n.toNat, by omega, by omega⟩
/-- a slice of numbers of one kind that came in -/
structure NumS (k : IntKind) (bits : Nat) (w : World) (a : Option Addr) (n cap : Nat) (l : List Nat) : Prop where
  sv : Sv w a (l.map fun (x : Nat) => .int k x)
  len : l.length = n
  bd : ∀ x ∈ l, x < 2 ^ bits
  le : n ≤ cap
  max : cap ≤ 9223372036854775807
section
variable {H : Type} {enc : TypeId × Value → H} {W : World}
set_option maxRecDepth 100000 in
theorem u64s_open6 {a : Option Addr} {len cap : Nat} {d : DataW H} {p : List MemPlace} (h : DataW.Trod enc Try.prog W 0 (fun _ => true) true 27 (.slice a len cap) d p) : ∃ l, NumS .u64 64 W a len cap l := by
  obtain ⟨fuel, hf⟩ := h
  rcases open_slice Try.underlying27 hf with ⟨hcs, _⟩ | ⟨y, l, cp, m, n, D, Pl, hcs, _, hl, hm, hmm, _, hi⟩
  · simp [Value.cells] at hcs
    obtain ⟨rfl, rfl, rfl⟩ := hcs
    exact ⟨[], ⟨by simp, by simp⟩, rfl, by simp, by omega, by omega⟩
  · simp [Value.cells] at hcs
    obtain ⟨rfl, rfl, rfl⟩ := hcs
    have hm' : cap ≤ 9223372036854775807 := by unfold maxLen at hm; exact hm
    have hC : Try.prog.cellsOf 26 = 1 := by kernel_rfl
    have hspot : 0 < len → y.spot = none := fun h0 => by
      obtain ⟨cs', hc, _⟩ := hi 0 (by rw [hmm]; simp; omega)
      rw [hC] at hc
      obtain ⟨_, hcl, hat⟩ := World.cells?_some hc
      have e0 := hat 0 (by omega)
      rw [List.getElem?_eq_getElem (by omega)] at e0
      simpa [Addr.add] using World.cell?_spot e0
    have key : ∀ i, i < len → ∃ z : Nat, (∃ b o, (some y : Option Addr) = some ⟨b, o, none⟩ ∧ W.cell? ⟨b, o + i, none⟩ = some (.int .u64 z)) ∧ z < 2 ^ 64 := by
      intro i hlt
      obtain ⟨cs', hc, ht⟩ := hi i (by rw [hmm]; simp; omega)
      rw [hC] at hc
      obtain ⟨_, hcl, hat⟩ := World.cells?_some hc
      match cs', hcl with
      | [c0], _ =>
        obtain ⟨z, hz, _, hw⟩ := DataW.trod_int Try.underlying26 ht
        obtain ⟨m, rfl, hb⟩ := wf_u64 hw
        simp at hz
        subst hz
        have e0 := hat 0 (by omega)
        simp at e0
        obtain ⟨b, o, spot⟩ := y
        have hsp : spot = none := hspot (by omega)
        subst hsp
        simp only [Addr.add_lit] at e0
        exact ⟨m, ⟨b, o, rfl, by simpa using e0⟩, hb⟩
    obtain ⟨ll, hll, hp⟩ := list_of _ len key
    refine ⟨ll, ⟨fun i s hs => ?_, by rw [List.length_map]; omega⟩, hll, fun s hs => ?_, hl, hm'⟩
    · rw [List.getElem?_map, Option.map_eq_some_iff] at hs
      obtain ⟨q, hq, rfl⟩ := hs
      exact (hp i q hq).1
    · obtain ⟨i, hi2⟩ := List.mem_iff_getElem?.1 hs
      exact (hp i s hi2).2
set_option maxRecDepth 100000 in
theorem nodes_open {a : Option Addr} {len cap : Nat} {d : DataW H} {p : List MemPlace} (h : DataW.Trod enc Try.prog W 0 (fun _ => true) true 24 (.slice a len cap) d p) : ∃ l, NodeS W a len cap l := by
  obtain ⟨fuel, hf⟩ := h
  rcases open_slice Try.underlying24 hf with ⟨hcs, _⟩ | ⟨x, l, c, m, n, D, Pl, hcs, _, hl, hm, hmm, _, hi⟩
  · simp [Value.cells] at hcs
    obtain ⟨rfl, rfl, rfl⟩ := hcs
    exact ⟨[], rfl, by omega, by omega, by simp, by simp⟩
  · simp [Value.cells] at hcs
    obtain ⟨rfl, rfl, rfl⟩ := hcs
    have hC : Try.prog.cellsOf 23 = 3 := by kernel_rfl
    have hspot : 0 < len → x.spot = none := fun h0 => by
      obtain ⟨cs', hc, _⟩ := hi 0 (by rw [hmm]; simp; omega)
      rw [hC] at hc
      obtain ⟨_, hcl, hat⟩ := World.cells?_some hc
      have e0 := hat 0 (by omega)
      rw [List.getElem?_eq_getElem (by omega)] at e0
      simpa [Addr.add] using World.cell?_spot e0
    have key : ∀ i, i < len → ∃ s : N21, (∃ b o, (some x : Option Addr) = some ⟨b, o, none⟩ ∧ W.cell? ⟨b, o + i * 3, none⟩ = some (.bool s.inp) ∧ W.cell? ⟨b, o + i * 3 + 1, none⟩ = some (.int .i64 s.l) ∧ W.cell? ⟨b, o + i * 3 + 2, none⟩ = some (.int .i64 s.r)) ∧
        (-9223372036854775808 ≤ s.l ∧ s.l ≤ 9223372036854775807) ∧ (-9223372036854775808 ≤ s.r ∧ s.r ≤ 9223372036854775807) := by
      intro i hlt
      obtain ⟨cs', hc, ht⟩ := hi i (by rw [hmm]; simp; omega)
      rw [hC] at hc
      obtain ⟨ys, n', _, _, hlen, _, hfd⟩ := DataW.trod_struct Try.underlying23 ht
      obtain ⟨_, hcl, hat⟩ := World.cells?_some hc
      match cs', hcl with
      | [c0, c1, c2], _ =>
        have f0 := hfd 0 _ rfl
        have f1 := hfd 1 _ rfl
        have f2 := hfd 2 _ rfl
        have hu : Try.prog.cellsOf 4 = 1 := by kernel_rfl
        have hi9 : Try.prog.cellsOf 3 = 1 := by kernel_rfl
        simp only [List.getElem_toArray, List.getElem_cons_zero, List.getElem_cons_succ, hu, hi9, List.drop_zero, List.drop_succ_cons, List.take_succ_cons, List.take_zero] at f0 f1 f2
        have hys : ys.length = 3 := by have := ‹ys.length = _›; simpa using this
        rw [List.getElem?_eq_getElem (by omega)] at f0 f1 f2
        obtain ⟨z0, hz0, _⟩ := DataW.trod_bool Try.underlying4 f0
        obtain ⟨z1, hz1, _, hw1⟩ := DataW.trod_int Try.underlying3 f1
        obtain ⟨z2, hz2, _, hw2⟩ := DataW.trod_int Try.underlying3 f2
        have b1 := wf_i64 hw1
        have b2 := wf_i64 hw2
        simp at hz0 hz1 hz2
        subst hz0 hz1 hz2
        have e0 := hat 0 (by omega)
        have e1 := hat 1 (by omega)
        have e2 := hat 2 (by omega)
        simp at e0 e1 e2
        obtain ⟨b, o, spot⟩ := x
        have hsp : spot = none := hspot (by omega)
        subst hsp
        simp only [Addr.add_lit] at e0 e1 e2
        exact ⟨⟨z0, z1, z2⟩, ⟨b, o, rfl, by simpa using e0, by simpa using e1, by simpa using e2⟩, b1, b2⟩
    obtain ⟨ll, hll, hp⟩ := list_of _ len key
    have idx : ∀ s ∈ ll, ∃ i : Nat, ll[i]? = some s := fun s hs => List.mem_iff_getElem?.1 hs
    exact ⟨ll, hll, hl, by unfold maxLen at hm; exact hm, fun i s hs => (hp i s hs).1, fun s hs => by obtain ⟨i, hi2⟩ := idx s hs; exact (hp i s hi2).2⟩
end
end Go.Proofs.Ytdmmanfjafempaa
namespace Go.Proofs.Ytdmmanfjafempaa
open Go.RowKit Go.Mem Go.Aig
/-- a graph that is none: 'none' says so, here and in all worlds that come of it -/
def NoGr (w : World) (v : Value) : Prop := ∀ W, Ch [] w W → Calls Try.prog 68 #[v] W fun e w' => e = .returned (.bool true) ∧ W = w'
theorem NoGr.ch {w W : World} {v : Value} (h : NoGr w v) (hc : Ch [] w W) : NoGr W v := fun U hU => h U (hc.trans hU (by simp))
section
set_option maxRecDepth 100000 in
set_option maxHeartbeats 400000 in
theorem nogr_nil (w : World) : NoGr w (.pointer none) := fun W _ => by
  go_enter Try.func68, Try.ntmps68
  go_wp2_with fail
  go_ret
  exact ⟨rfl, rfl⟩
set_option maxRecDepth 100000 in
set_option maxHeartbeats 400000 in
theorem nogr_zero {w : World} {g : Nat} (h : blk w g [.int .i64 0, .slice none 0 0, .map none, .slice none 0 0]) : NoGr w (.pointer (some ⟨g, 0, none⟩)) := fun W hW => by
  have c2 := (h.ch hW (by simp)).cell (i := 2) rfl
  clear h
  go_enter Try.func68, Try.ntmps68
  go_wp2_with fail
  go_ret
  exact ⟨rfl, rfl⟩
set_option maxRecDepth 100000 in
set_option maxHeartbeats 400000 in
theorem Len_none {w : World} {p : Option Addr} (h : NoGr w (.pointer p)) : Calls Try.prog 17 #[.pointer p] w fun e w' => e = .returned (.int .i64 0) ∧ Ch [] w w' := by
  have H := Lib.hid h; clear h
  go_enter Try.func17, Try.ntmps17
  go_wp2_with fail
  refine (H.out _ ?hc).mono ?_
  case hc => repeat (first | refine Ch.alloc ?_ _ | exact Ch.refl _ _)
  rintro e w' ⟨rfl, rfl⟩
  go_wp2_with fail
  go_ret
  exact ⟨rfl, by repeat (first | refine Ch.alloc ?_ _ | exact Ch.refl _ _)⟩
end
end Go.Proofs.Ytdmmanfjafempaa
namespace Go.Proofs.Ytdmmanfjafempaa
open Go.RowKit Go.Mem Go.Aig
section
variable {w : World} {p : Option Addr}
set_option maxRecDepth 100000 in
set_option maxHeartbeats 800000 in
theorem simcheck_none (h : NoGr w (.pointer p)) (a : Option Addr) (n c : Nat) : Calls Try.prog 104 #[.pointer p, .slice a n c] w fun e w' => e = .returned (.int .i64 1) ∧ Ch [] w w' := by
  have hL := Lib.hid (fun (W : World) (hW : Ch [] w W) => Len_none (h.ch hW))
  clear h
  go_enter Try.func104, Try.ntmps104
  go_wp2_with fail
  refine (hL.out _ ((Ch.refl _ _).alloc _)).mono ?_
  rintro e w' ⟨rfl, hc⟩
  have HC := Lib.hid (((Ch.refl [] w).alloc _).trans hc (by simp)); clear hc
  go_wp2_with fail
  go_ret
  exact ⟨rfl, HC.out⟩
set_option maxRecDepth 100000 in
set_option maxHeartbeats 800000 in
theorem simtabled_none (h : NoGr w (.pointer p)) (a : Option Addr) (n c : Nat) : Calls Try.prog 113 #[.pointer p, .slice a n c] w fun e w' => e = .returned (.int .i64 1) ∧ Ch [] w w' := by
  have hL := Lib.hid (simcheck_none h a n c)
  clear h
  go_enter Try.func113, Try.ntmps113
  go_wp2_with fail
  refine hL.out.mono ?_
  rintro e w' ⟨rfl, hc⟩
  have HC := Lib.hid hc; clear hc
  go_wp2_with fail
  go_ret
  exact ⟨rfl, HC.out⟩
set_option maxRecDepth 100000 in
set_option maxHeartbeats 800000 in
theorem simNodes_none (h : NoGr w (.pointer p)) (a : Option Addr) (n c : Nat) : Calls Try.prog 41 #[.pointer p, .slice a n c] w fun e w' => e = .returned (.tuple #[.slice none 0 0, .int .i64 1]) ∧ Ch [] w w' := by
  have hL := Lib.hid (simcheck_none h none 0 0)
  clear h
  go_enter Try.func41, Try.ntmps41
  go_wp2_with fail
  refine hL.out.mono ?_
  rintro e w' ⟨rfl, hc⟩
  have HC := Lib.hid hc; clear hc
  go_wp2_with fail
  go_ret2
  exact ⟨rfl, HC.out⟩
set_option maxRecDepth 100000 in
set_option maxHeartbeats 800000 in
theorem simSupport_none (h : NoGr w (.pointer p)) (a : Option Addr) (n c : Nat) : Calls Try.prog 44 #[.pointer p, .slice a n c] w fun e w' => e = .returned (.tuple #[.slice none 0 0, .int .i64 1]) ∧ Ch [] w w' := by
  have hL := Lib.hid (simcheck_none h a n c)
  clear h
  go_enter Try.func44, Try.ntmps44
  go_wp2_with fail
  refine hL.out.mono ?_
  rintro e w' ⟨rfl, hc⟩
  have HC := Lib.hid hc; clear hc
  go_wp2_with fail
  go_ret2
  exact ⟨rfl, HC.out⟩
set_option maxRecDepth 100000 in
set_option maxHeartbeats 800000 in
theorem simWords_none (h : NoGr w (.pointer p)) (xa : Option Addr) (m xc : Nat) (a : Option Addr) (n c : Nat) : Calls Try.prog 42 #[.pointer p, .slice xa m xc, .slice a n c] w fun e w' => e = .returned (.tuple #[.slice none 0 0, .int .i64 1]) ∧ Ch [] w w' := by
  have hL := Lib.hid (simcheck_none h a n c)
  clear h
  go_enter Try.func42, Try.ntmps42
  go_wp2_with fail
  refine hL.out.mono ?_
  rintro e w' ⟨rfl, hc⟩
  have HC := Lib.hid hc; clear hc
  go_wp2_with fail
  go_ret2
  exact ⟨rfl, HC.out⟩
set_option maxRecDepth 100000 in
set_option maxHeartbeats 800000 in
theorem simBits_none (h : NoGr w (.pointer p)) (a : Option Addr) (n c : Nat) : Calls Try.prog 43 #[.pointer p, .slice none 0 0, .slice a n c] w fun e w' => e = .returned (.tuple #[.slice none 0 0, .int .i64 1]) ∧ Ch [] w w' := by
  have hL := Lib.hid (fun (W : World) (hW : Ch [] w W) => simWords_none (h.ch hW) none 0 0 a n c)
  clear h
  go_enter Try.func43, Try.ntmps43
  go_wp2_with fail
  go_loopw [8, 19] (fun v i wr => v = .slice none 0 0 ∧ i = .int .i64 0 ∧ Ch [] w wr) (fun _ _ _ => 0)
  case atStart => exact ⟨rfl, rfl, Ch.refl _ _⟩
  case round =>
    obtain ⟨rfl, rfl, hc⟩ := hrel
    have HH := Lib.hid (hL.out wr hc)
    have HC := Lib.hid hc; clear hc hL
    go_wp2_with fail
    refine HH.out.mono ?_
    rintro e w' ⟨rfl, hc⟩
    replace HC := Lib.hid (HC.out.trans hc (by simp)); clear hc HH
    go_wp2_with fail
    go_loopw [14, 38] (fun v i wr => v = .slice none 0 0 ∧ i = .int .i64 0 ∧ Ch [] w wr) (fun _ _ _ => 0)
    case atStart => exact ⟨rfl, rfl, HC.out⟩
    case round =>
      obtain ⟨rfl, rfl, hc⟩ := hrel
      clear HC
      have HC := Lib.hid hc; clear hc
      go_wp2_with fail
      go_ret2
      exact ⟨rfl, HC.out⟩
set_option maxRecDepth 100000 in
set_option maxHeartbeats 800000 in
theorem simTable_none (h : NoGr w (.pointer p)) (r : Int) : Calls Try.prog 51 #[.pointer p, .int .i64 r] w fun e w' => e = .returned (.tuple #[.slice none 0 0, .int .i64 1]) ∧ Ch [] w w' := by
  have hL := Lib.hid (fun (W : World) (hW : Ch [] w W) => simtabled_none (h.ch hW))
  clear h
  go_enter Try.func51, Try.ntmps51
  go_wp2_with fail
  refine (hL.out _ ((Ch.refl _ _).alloc _) _ _ _).mono ?_
  rintro e w' ⟨rfl, hc⟩
  have HC := Lib.hid (((Ch.refl [] w).alloc _).trans hc (by simp)); clear hc
  go_wp2_with fail
  go_ret2
  exact ⟨rfl, HC.out⟩
set_option maxRecDepth 100000 in
set_option maxHeartbeats 800000 in
theorem simCount_none (h : NoGr w (.pointer p)) (r : Int) : Calls Try.prog 52 #[.pointer p, .int .i64 r] w fun e w' => e = .returned (.tuple #[.int .i64 0, .int .i64 1]) ∧ Ch [] w w' := by
  have hL := Lib.hid (fun (W : World) (hW : Ch [] w W) => simtabled_none (h.ch hW))
  clear h
  go_enter Try.func52, Try.ntmps52
  go_wp2_with fail
  refine (hL.out _ ((Ch.refl _ _).alloc _) _ _ _).mono ?_
  rintro e w' ⟨rfl, hc⟩
  have HC := Lib.hid (((Ch.refl [] w).alloc _).trans hc (by simp)); clear hc
  go_wp2_with fail
  go_ret2
  exact ⟨rfl, HC.out⟩
set_option maxRecDepth 100000 in
set_option maxHeartbeats 800000 in
theorem simFirst_none (h : NoGr w (.pointer p)) (r : Int) : Calls Try.prog 53 #[.pointer p, .int .i64 r] w fun e w' => e = .returned (.tuple #[.slice none 0 0, .bool false, .int .i64 1]) ∧ Ch [] w w' := by
  have hL := Lib.hid (fun (W : World) (hW : Ch [] w W) => simtabled_none (h.ch hW))
  clear h
  go_enter Try.func53, Try.ntmps53
  go_wp2_with fail
  refine (hL.out _ ((Ch.refl _ _).alloc _) _ _ _).mono ?_
  rintro e w' ⟨rfl, hc⟩
  have HC := Lib.hid (((Ch.refl [] w).alloc _).trans hc (by simp)); clear hc
  go_wp2_with fail
  go_ret3
  exact ⟨rfl, HC.out⟩
set_option maxRecDepth 100000 in
set_option maxHeartbeats 800000 in
theorem simParts_none (h : NoGr w (.pointer p)) (r s : Int) : Calls Try.prog 54 #[.pointer p, .int .i64 r, .int .i64 s] w fun e w' => e = .returned (.tuple #[.slice none 0 0, .bool false, .int .i64 1]) ∧ Ch [] w w' := by
  have hL := Lib.hid (fun (W : World) (hW : Ch [] w W) => simtabled_none (h.ch hW))
  clear h
  go_enter Try.func54, Try.ntmps54
  go_wp2_with fail
  refine (hL.out _ ((((Ch.refl _ _).alloc _).alloc _).alloc _) _ _ _).mono ?_
  rintro e w' ⟨rfl, hc⟩
  have HC := Lib.hid (((((Ch.refl [] w).alloc _).alloc _).alloc _).trans hc (by simp)); clear hc
  go_wp2_with fail
  go_ret3
  exact ⟨rfl, HC.out⟩
end
end Go.Proofs.Ytdmmanfjafempaa
namespace Go.Proofs.Ytdmmanfjafempaa
open Go.RowKit Go.Mem Go.Aig
section
set_option maxRecDepth 100000 in
set_option maxHeartbeats 8000000 in
theorem none21_is (w : World) : Calls Try.prog 12 #[] w fun e w' => e = .returned (.bool true) ∧ Ch [] w w' := by
  go_enter Try.func12, Try.ntmps12
  go_wp2_with fail
  refine wp_alw ?_
  intro W0 hW0
  have hc0 : Ch [] w W0 := by rw [hW0]; exact ((Ch.refl _ _).alloc _).alloc _
  have bg : blk W0 w.heap.size [.int .i64 0, .slice none 0 0, .map none, .slice none 0 0] := by rw [hW0]; exact (blk.new' (w := w) [.int .i64 0, .slice none 0 0, .map none, .slice none 0 0] 113 rfl).alloc _
  have bs : blk W0 (w.heap.size + 1) [.pointer none, .pointer (some ⟨w.heap.size, 0, none⟩)] := by rw [hW0]; exact blk.new' [.pointer none, .pointer (some ⟨w.heap.size, 0, none⟩)] 36 (by simp)
  clear hW0
  have BS := Lib.hid bs; clear bs
  have BG := Lib.hid bg; clear bg
  have HC0 := Lib.hid hc0; clear hc0
  go_loopw [27] (fun i wr => ∃ k : Nat, k ≤ 2 ∧ i = .int .i64 k ∧ Ch [] W0 wr) (fun i _ => 2 - (intOf i).toNat)
  case atStart => exact ⟨0, by omega, rfl, Ch.refl _ _⟩
  case round =>
    obtain ⟨k, hk, rfl, hcur⟩ := hrel
    by_cases hlt : k < 2
    · obtain ⟨p, hv, hn⟩ : ∃ p, [Value.pointer none, Value.pointer (some ⟨w.heap.size, 0, none⟩)][k]? = some (.pointer p) ∧ NoGr W0 (.pointer p) := by
        rcases (by omega : k = 0 ∨ k = 1) with e | e
        · subst e; exact ⟨_, rfl, nogr_nil W0⟩
        · subst e; exact ⟨_, rfl, nogr_zero BG.out⟩
      have c0 := (BS.out.ch hcur (by simp)).cell hv
      have HN := Lib.hid hn; clear hn hv
      have HX1 := Lib.hid (simNodes_none (HN.out.ch hcur) none 0 0)
      go_wp2_with fail
      refine HX1.out.mono ?_
      rintro e w1 ⟨rfl, hc1⟩
      replace hcur := hcur.trans hc1 (by simp)
      clear hc1 HX1
      go_wp2_with fail
      refine calls_named fun W2 hW2 => ?_
      replace hcur := hcur.trans (alw_ch hW2) (by simp)
      clear hW2
      refine (simWords_none (HN.out.ch hcur) none 0 0 _ 1 1).mono ?_
      rintro e w2 ⟨rfl, hc2⟩
      replace hcur := hcur.trans hc2 (by simp)
      clear hc2
      have HX3 := Lib.hid (simBits_none (HN.out.ch hcur) none 0 0)
      go_wp2_with fail
      refine HX3.out.mono ?_
      rintro e w3 ⟨rfl, hc3⟩
      replace hcur := hcur.trans hc3 (by simp)
      clear hc3 HX3
      have HX4 := Lib.hid (simTable_none (HN.out.ch hcur) 0)
      go_wp2_with fail
      refine HX4.out.mono ?_
      rintro e w4 ⟨rfl, hc4⟩
      replace hcur := hcur.trans hc4 (by simp)
      clear hc4 HX4
      have HX5 := Lib.hid (simCount_none (HN.out.ch hcur) 0)
      go_wp2_with fail
      refine HX5.out.mono ?_
      rintro e w5 ⟨rfl, hc5⟩
      replace hcur := hcur.trans hc5 (by simp)
      clear hc5 HX5
      have HX6 := Lib.hid (simFirst_none (HN.out.ch hcur) 0)
      go_wp2_with fail
      refine HX6.out.mono ?_
      rintro e w6 ⟨rfl, hc6⟩
      replace hcur := hcur.trans hc6 (by simp)
      clear hc6 HX6
      have HX7 := Lib.hid (simParts_none (HN.out.ch hcur) 0 1)
      go_wp2_with fail
      refine HX7.out.mono ?_
      rintro e w7 ⟨rfl, hc7⟩
      replace hcur := hcur.trans hc7 (by simp)
      clear hc7 HX7
      have HX8 := Lib.hid (simSupport_none (HN.out.ch hcur) none 0 0)
      go_wp2_with fail
      refine HX8.out.mono ?_
      rintro e w8 ⟨rfl, hc8⟩
      replace hcur := hcur.trans hc8 (by simp)
      clear hc8 HX8
      go_wp2_with fail
      refine wp_alw ?_
      intro W1 hW1
      have be := alw_blk (xs := List.replicate 8 (.int .i64 1)) hW1
      have hc1 := hcur.trans (alw_ch hW1) (by simp)
      clear hW1
      generalize w8.heap.size = eb at *
      have BE := Lib.hid be; clear be
      have HC1 := Lib.hid hc1; clear hc1 hcur c0
      go_loopw [84] (fun i wr => ∃ j : Nat, j ≤ 8 ∧ i = .int .i64 j ∧ Ch [] W1 wr) (fun i _ => 8 - (intOf i).toNat)
      case atStart => exact ⟨0, by omega, rfl, Ch.refl _ _⟩
      case round =>
        obtain ⟨j, hj, rfl, hcj⟩ := hrel
        by_cases hjl : j < 8
        · have e0 := (BE.out.ch hcj (by simp)).cell (i := j) (v := .int .i64 1) (by rw [List.getElem?_replicate, if_pos hjl])
          have HCJ := Lib.hid hcj; clear hcj
          go_wp2_with fail
          go_roundw
          case rel => exact ⟨j + 1, by omega, by go_num, HCJ.out⟩
          case measure => simp [intOf]; omega
        · have hcur := HC1.out.trans hcj (by simp)
          have HCF := Lib.hid hcur; clear hcur hcj
          have hj8 : j = 8 := by omega
          rw [hj8]
          clear hj8 hjl hj
          go_wp2_with fail
          go_roundw
          case rel => exact ⟨k + 1, by omega, by go_num, HCF.out⟩
          case measure => simp [intOf]; omega
    · have HCF := Lib.hid hcur; clear hcur
      go_wp2_with fail
      go_ret
      exact ⟨rfl, HC0.out.trans HCF.out (by simp)⟩
end
end Go.Proofs.Ytdmmanfjafempaa
namespace Go.Proofs.Ytdmmanfjafempaa
open Go.RowKit Go.Mem Go.Aig
theorem takeN_succ {xs ys : List Nat} {k : Nat} {x y : Nat} (h : xs.take k = ys.take k) (hx : xs[k]? = some x) (hy : ys[k]? = some y) (e : x = y) : xs.take (k + 1) = ys.take (k + 1) := by
  rw [List.take_add_one, List.take_add_one, h, hx, hy, e]
section
variable {w : World}
set_option maxRecDepth 100000 in
set_option maxHeartbeats 1000000 in
theorem EQu64_is {a b : Option Addr} {xs ys : List Nat} (ca cb : Nat) (hx : Sv w a (u64s xs)) (hy : Sv w b (u64s ys)) :
    Calls Try.prog 48 #[.slice a xs.length ca, .slice b ys.length cb] w fun e w' => e = .returned (.bool (decide (xs = ys))) ∧ Ch [] w w' := by
  have hbx : xs.length ≤ 9223372036854775807 := by have := hx.bd; simpa [u64s] using this
  have hby : ys.length ≤ 9223372036854775807 := by have := hy.bd; simpa [u64s] using this
  have HX := Lib.hid hx; clear hx
  have HY := Lib.hid hy; clear hy
  by_cases hl : xs.length = ys.length
  · have hne : ((xs.length : Int) != (ys.length : Int)) = false := by simp [hl]
    generalize hd : decide (xs = ys) = d
    have HD := Lib.hid hd; clear hd
    have HL := Lib.hid hl; clear hl
    go_enter Try.func48, Try.ntmps48
    go_wp2_with fail
    go_loopw [13] (fun i wr => ∃ k : Nat, k ≤ xs.length ∧ i = .int .i64 k ∧ xs.take k = ys.take k ∧ Ch [] w wr) (fun i _ => xs.length - (intOf i).toNat)
    case atStart => exact ⟨0, Nat.zero_le _, rfl, rfl, Ch.refl _ _⟩
    case round =>
      obtain ⟨k, hk, rfl, ht, hc⟩ := hrel
      have HT := Lib.hid ht; clear ht
      by_cases hlt : k < xs.length
      · have hlt2 : k < ys.length := by have := HL.out; omega
        have hxk : xs[k]? = some xs[k] := List.getElem?_eq_getElem hlt
        have hyk : ys[k]? = some ys[k] := List.getElem?_eq_getElem hlt2
        obtain ⟨b1, o1, rfl, c1⟩ := (HX.out.ch hc (by simp)).cells k (.int .u64 (xs[k] : Nat)) (u64s_get hxk)
        obtain ⟨b2, o2, rfl, c2⟩ := (HY.out.ch hc (by simp)).cells k (.int .u64 (ys[k] : Nat)) (u64s_get hyk)
        generalize xs[k] = x at *
        generalize ys[k] = y at *
        have HXK := Lib.hid hxk; clear hxk
        have HYK := Lib.hid hyk; clear hyk
        have HC := Lib.hid hc; clear hc
        by_cases hxy : x = y
        · have hb : ((x : Int) != y) = false := by simp [hxy]
          have HE := Lib.hid hxy; clear hxy
          go_wp2_with fail
          refine Ord.St.door (fun _ => True) [.fl, .fl, .fl, .rd, .fl, .fl, .fl, .rd, .fl] [0, 0, 3, 7, 0, 0, 48, 112, 255] [0, 1, 2, 3, 4, 5, 6, 7, 8] mixed (by kernel_rfl) rfl ?_
          refine Ord.St.fl2 (T' := ?_) 0 [1, 2, 3, 4, 5, 6, 7, 8] _ _ rfl (by kernel_rfl) rfl rfl rfl rfl (fun K w' hk => ?_) ?_
          rotate_left
          · go_step; exact hk
          refine Ord.St.fl2 (T' := ?_) 1 [2, 3, 4, 5, 6, 7, 8] _ _ rfl (by kernel_rfl) rfl rfl rfl rfl (fun K w' hk => ?_) ?_
          rotate_left
          · go_step; exact hk
          refine Ord.St.fl2 (T' := ?_) 2 [3, 4, 5, 6, 7, 8] _ _ rfl (by kernel_rfl) rfl rfl rfl rfl (fun K w' hk => ?_) ?_
          rotate_left
          · go_step; exact hk
          refine Ord.St.rd2 (T' := ?_) 3 [4, 5, 6, 7, 8] _ _ rfl (by kernel_rfl) rfl rfl rfl rfl (fun K hk => ?_) ?_
          rotate_left
          · go_step; exact hk
          refine Ord.St.fl2 (T' := ?_) 4 [5, 6, 7, 8] _ _ rfl (by kernel_rfl) rfl rfl rfl rfl (fun K w' hk => ?_) ?_
          rotate_left
          · go_step; exact hk
          refine Ord.St.fl2 (T' := ?_) 5 [6, 7, 8] _ _ rfl (by kernel_rfl) rfl rfl rfl rfl (fun K w' hk => ?_) ?_
          rotate_left
          · go_step; exact hk
          refine Ord.St.fl2 (T' := ?_) 6 [7, 8] _ _ rfl (by kernel_rfl) rfl rfl rfl rfl (fun K w' hk => ?_) ?_
          rotate_left
          · go_step; exact hk
          refine Ord.St.rd2 (T' := ?_) 7 [8] _ _ rfl (by kernel_rfl) rfl rfl rfl rfl (fun K hk => ?_) ?_
          rotate_left
          · go_step; exact hk
          refine Ord.St.fl2 (T' := ?_) 8 [] _ _ rfl (by kernel_rfl) rfl rfl rfl rfl (fun K w' hk => ?_) ?_
          rotate_left
          · go_step; exact hk
          refine Ord.St.nil ?_
          go_wp2_with fail
          go_roundw
          case rel => exact ⟨k + 1, by omega, by go_num, takeN_succ HT.out HXK.out HYK.out HE.out, HC.out.drew⟩
          case measure => simp [intOf]; omega
        · have hb : ((x : Int) != y) = true := by simp; omega
          have hdf : d = false := by
            rw [← HD.out]
            refine decide_eq_false fun e => hxy ?_
            have h1 := HXK.out
            rw [e, HYK.out] at h1
            cases h1; rfl
          have HDF := Lib.hid hdf; clear hdf
          clear hxy
          go_wp2_with fail
          refine Ord.St.door (fun _ => True) [.fl, .fl, .fl, .rd, .fl, .fl, .fl, .rd, .fl] [0, 0, 3, 7, 0, 0, 48, 112, 255] [0, 1, 2, 3, 4, 5, 6, 7, 8] mixed (by kernel_rfl) rfl ?_
          refine Ord.St.fl2 (T' := ?_) 0 [1, 2, 3, 4, 5, 6, 7, 8] _ _ rfl (by kernel_rfl) rfl rfl rfl rfl (fun K w' hk => ?_) ?_
          rotate_left
          · go_step; exact hk
          refine Ord.St.fl2 (T' := ?_) 1 [2, 3, 4, 5, 6, 7, 8] _ _ rfl (by kernel_rfl) rfl rfl rfl rfl (fun K w' hk => ?_) ?_
          rotate_left
          · go_step; exact hk
          refine Ord.St.fl2 (T' := ?_) 2 [3, 4, 5, 6, 7, 8] _ _ rfl (by kernel_rfl) rfl rfl rfl rfl (fun K w' hk => ?_) ?_
          rotate_left
          · go_step; exact hk
          refine Ord.St.rd2 (T' := ?_) 3 [4, 5, 6, 7, 8] _ _ rfl (by kernel_rfl) rfl rfl rfl rfl (fun K hk => ?_) ?_
          rotate_left
          · go_step; exact hk
          refine Ord.St.fl2 (T' := ?_) 4 [5, 6, 7, 8] _ _ rfl (by kernel_rfl) rfl rfl rfl rfl (fun K w' hk => ?_) ?_
          rotate_left
          · go_step; exact hk
          refine Ord.St.fl2 (T' := ?_) 5 [6, 7, 8] _ _ rfl (by kernel_rfl) rfl rfl rfl rfl (fun K w' hk => ?_) ?_
          rotate_left
          · go_step; exact hk
          refine Ord.St.fl2 (T' := ?_) 6 [7, 8] _ _ rfl (by kernel_rfl) rfl rfl rfl rfl (fun K w' hk => ?_) ?_
          rotate_left
          · go_step; exact hk
          refine Ord.St.rd2 (T' := ?_) 7 [8] _ _ rfl (by kernel_rfl) rfl rfl rfl rfl (fun K hk => ?_) ?_
          rotate_left
          · go_step; exact hk
          refine Ord.St.fl2 (T' := ?_) 8 [] _ _ rfl (by kernel_rfl) rfl rfl rfl rfl (fun K w' hk => ?_) ?_
          rotate_left
          · go_step; exact hk
          refine Ord.St.nil ?_
          go_wp2_with fail
          go_ret
          rw [HDF.out]
          exact ⟨rfl, HC.out.drew⟩
      · have hdt : d = true := by
          rw [← HD.out]
          have h1 := HT.out
          rw [List.take_of_length_le (by omega), List.take_of_length_le (by have := HL.out; omega)] at h1
          exact decide_eq_true h1
        have HDT := Lib.hid hdt; clear hdt
        have HC := Lib.hid hc; clear hc
        go_wp2_with fail
        go_ret
        rw [HDT.out]
        exact ⟨rfl, HC.out⟩
  · have hne : ((xs.length : Int) != (ys.length : Int)) = true := by rw [bne_iff_ne]; omega
    have hd : decide (xs = ys) = false := decide_eq_false fun e => hl (by rw [e])
    rw [hd]
    clear hd
    go_enter Try.func48, Try.ntmps48
    go_wp2_with fail
    go_ret
    exact ⟨rfl, Ch.refl _ _⟩
end
/-- what is known along a walk that changes no graph: the graph, and slices that are held -/
structure HS (w0 w : World) (g : Nat) (G : Gra) (F : List Nat) (L : List (Option Addr × List Value)) : Prop where
  own : Own w0 w g G F
  held : ∀ p ∈ L, Sv w p.1 p.2
section
variable {w0 w : World} {g : Nat} {G : Gra} {F : List Nat} {L : List (Option Addr × List Value)}
theorem HS.same {w' : World} (h : HS w0 w g G F L) (hc : Ch [] w w') : HS w0 w' g G F L := ⟨h.own.same hc, fun p hp => (h.held p hp).ch hc (by simp)⟩
theorem HS.add {a : Option Addr} {xs : List Value} (h : HS w0 w g G F L) (hs : Sv w a xs) : HS w0 w g G F ((a, xs) :: L) := ⟨h.own, fun p hp => by
  rcases List.mem_cons.1 hp with rfl | hp
  · exact hs
  · exact h.held p hp⟩
theorem HS.drop {p : Option Addr × List Value} (h : HS w0 w g G F (p :: L)) : HS w0 w g G F L := ⟨h.own, fun q hq => h.held q (List.mem_cons_of_mem _ hq)⟩
theorem HS.blk {b : Nat} {xs : List Value} (h : HS w0 w g G F L) (hb : blk w b xs) (hl : xs.length ≤ 9223372036854775807) : HS w0 w g G F ((some ⟨b, 0, none⟩, xs) :: L) := h.add ⟨fun i x hx => ⟨b, 0, rfl, by
  rw [Nat.zero_add]
  exact hb.cell hx⟩, hl⟩
theorem simTable_h (h : HS w0 w g G F L) (r : Int) (hr : -9223372036854775808 ≤ r ∧ r ≤ 9223372036854775807) {T : List Nat} {e k : Nat} (hR : tableR G r = (T, e)) (hk : T.length = k) (hkl : k ≤ 1000000) :
    Calls Try.prog 51 #[.pointer (some ⟨g, 0, none⟩), .int .i64 r] w fun en w' => ∃ a c, en = .returned (.tuple #[.slice a k c, .int .i64 e]) ∧ HS w0 w' g G F ((a, u64s T) :: L) := by
  have H := simTable_is h.own.gin r hr
  rw [hR] at H
  refine H.mono ?_
  rintro en w' ⟨v, rfl, hrow, _, hc⟩
  obtain ⟨a, c, rfl⟩ := row.shape hrow
  simp only [hk] at hrow
  exact ⟨a, c, by simp only [hk], (h.same hc).add (row.sv hrow rfl hkl)⟩
theorem simCount_h (h : HS w0 w g G F L) (r : Int) (hr : -9223372036854775808 ≤ r ∧ r ≤ 9223372036854775807) {n e : Nat} (hR : countR G r = (n, e)) :
    Calls Try.prog 52 #[.pointer (some ⟨g, 0, none⟩), .int .i64 r] w fun en w' => en = .returned (.tuple #[.int .i64 n, .int .i64 e]) ∧ HS w0 w' g G F L := by
  have H := simCount_is h.own.gin r hr
  rw [hR] at H
  refine H.mono ?_
  rintro en w' ⟨rfl, hc⟩
  exact ⟨rfl, h.same hc⟩
theorem simFirst_h (h : HS w0 w g G F L) (r : Int) (hr : -9223372036854775808 ≤ r ∧ r ≤ 9223372036854775807) {B : List Bool} {b : Bool} {e k : Nat} (hR : firstG G r = ((B, b), e)) (hk : B.length = k) (hkl : k ≤ 1000000) :
    Calls Try.prog 53 #[.pointer (some ⟨g, 0, none⟩), .int .i64 r] w fun en w' => ∃ a c, en = .returned (.tuple #[.slice a k c, .bool b, .int .i64 e]) ∧ HS w0 w' g G F ((a, bools B) :: L) := by
  have H := simFirst_is h.own.gin r hr
  rw [hR] at H
  refine H.mono ?_
  rintro en w' ⟨v, rfl, hrow, _, hc⟩
  obtain ⟨a, c, rfl⟩ := row.shape hrow
  simp only [hk] at hrow
  exact ⟨a, c, by simp only [hk], (h.same hc).add (row.sv hrow rfl hkl)⟩
theorem simParts_h (h : HS w0 w g G F L) (r s : Int) (hr : -9223372036854775808 ≤ r ∧ r ≤ 9223372036854775807) (hs : -9223372036854775808 ≤ s ∧ s ≤ 9223372036854775807) {B : List Bool} {b : Bool} {e k : Nat} (hR : partsG G r s = ((B, b), e)) (hk : B.length = k) (hkl : k ≤ 1000000) :
    Calls Try.prog 54 #[.pointer (some ⟨g, 0, none⟩), .int .i64 r, .int .i64 s] w fun en w' => ∃ a c, en = .returned (.tuple #[.slice a k c, .bool b, .int .i64 e]) ∧ HS w0 w' g G F ((a, bools B) :: L) := by
  have H := simParts_is h.own.gin r s hr hs
  rw [hR] at H
  refine H.mono ?_
  rintro en w' ⟨v, rfl, hrow, _, hc⟩
  obtain ⟨a, c, rfl⟩ := row.shape hrow
  simp only [hk] at hrow
  exact ⟨a, c, by simp only [hk], (h.same hc).add (row.sv hrow rfl hkl)⟩
theorem simWords_h (h : HS w0 w g G F L) {xa : Option Addr} {ins : List Nat} {m xc : Nat} (hx : (xa, u64s ins) ∈ L) (hm : ins.length = m) (hlt : ∀ v ∈ ins, v < 2 ^ 64) (hcap : m ≤ xc) (hxc : xc ≤ 9223372036854775807) {a : Option Addr} {l : List Int} {n c : Nat} (hn : l.length = n) (hL : Sl w a l) (hbd : ∀ r ∈ l, -9223372036854775808 ≤ r ∧ r ≤ 9223372036854775807) (hll : n ≤ 100000) {ws : List Nat} {e k : Nat} (hR : wordsR G ins l = (ws, e)) (hk : ws.length = k) (hkl : k ≤ 1000000) :
    Calls Try.prog 42 #[.pointer (some ⟨g, 0, none⟩), .slice xa m xc, .slice a n c] w fun en w' => ∃ ya yc, en = .returned (.tuple #[.slice ya k yc, .int .i64 e]) ∧ HS w0 w' g G F ((ya, u64s ws) :: L) := by
  subst hm hn
  have H := simWords_is h.own.gin (xa := xa) (ins := ins) xc (h.held _ hx) hlt hcap hxc c hL hbd hll
  rw [hR] at H
  refine H.mono ?_
  rintro en w' ⟨v, rfl, hrow, _, hc⟩
  obtain ⟨ya, yc, rfl⟩ := row.shape hrow
  simp only [hk] at hrow
  exact ⟨ya, yc, by simp only [hk], (h.same hc).add (row.sv hrow rfl hkl)⟩
theorem simBits_h (h : HS w0 w g G F L) {xa : Option Addr} {ins : List Bool} {m xc : Nat} (hx : (xa, bools ins) ∈ L) (hm : ins.length = m) (hml : m ≤ 100000) {a : Option Addr} {l : List Int} {n c : Nat} (hn : l.length = n) (hL : Sl w a l) (hbd : ∀ r ∈ l, -9223372036854775808 ≤ r ∧ r ≤ 9223372036854775807) (hll : n ≤ 100000) {bs : List Bool} {e k : Nat} (hR : bitsR G ins l = (bs, e)) (hk : bs.length = k) (hkl : k ≤ 1000000) :
    Calls Try.prog 43 #[.pointer (some ⟨g, 0, none⟩), .slice xa m xc, .slice a n c] w fun en w' => ∃ ya yc, en = .returned (.tuple #[.slice ya k yc, .int .i64 e]) ∧ HS w0 w' g G F ((ya, bools bs) :: L) := by
  have H := simBits_is h.own.gin (xa := xa) (ins := ins) m xc hm (h.held _ hx) hml n c hn hL hbd hll
  rw [hR] at H
  refine H.mono ?_
  rintro en w' ⟨v, rfl, hrow, _, hc⟩
  obtain ⟨ya, yc, rfl⟩ := row.shape hrow
  simp only [hk] at hrow
  exact ⟨ya, yc, by simp only [hk], (h.same hc).add (row.sv hrow rfl hkl)⟩
theorem simSupport_h (h : HS w0 w g G F L) {a : Option Addr} {l : List Int} {n c : Nat} (hn : l.length = n) (hL : Sl w a l) (hlow : ∀ q, a = some q → q.block < w.heap.size) (hbd : ∀ r ∈ l, -9223372036854775808 ≤ r ∧ r ≤ 9223372036854775807) {s : List Nat} {e k : Nat} (hR : suppR G l = (s, e)) (hk : s.length = k) (hkl : k ≤ 1000000) :
    Calls Try.prog 44 #[.pointer (some ⟨g, 0, none⟩), .slice a n c] w fun en w' => ∃ ya yc, en = .returned (.tuple #[.slice ya k yc, .int .i64 e]) ∧ HS w0 w' g G F ((ya, refsCells s) :: L) := by
  have H := simSupport_is h.own.gin (a := a) (l := l) n c hn hL hlow hbd
  rw [hR] at H
  refine H.mono ?_
  rintro en w' ⟨v, rfl, hrow, _, hc⟩
  obtain ⟨ya, yc, rfl⟩ := row.shape hrow
  simp only [hk] at hrow
  exact ⟨ya, yc, by simp only [hk], (h.same hc).add (row.sv hrow rfl hkl)⟩
theorem EQu64_h (h : HS w0 w g G F L) {a b : Option Addr} {xs ys : List Nat} {n m ca cb : Nat} (hx : (a, u64s xs) ∈ L) (hy : Sv w b (u64s ys)) (hn : xs.length = n) (hm : ys.length = m) {q : Bool} (hq : decide (xs = ys) = q) :
    Calls Try.prog 48 #[.slice a n ca, .slice b m cb] w fun e w' => e = .returned (.bool q) ∧ HS w0 w' g G F L := by
  subst hn hm hq
  exact (EQu64_is ca cb (h.held _ hx) hy).mono fun e w' ⟨he, hc⟩ => ⟨he, h.same hc⟩
theorem Eqbool_h (h : HS w0 w g G F L) {a b : Option Addr} {xs ys : List Bool} {n m ca cb : Nat} (hx : (a, bools xs) ∈ L) (hy : Sv w b (bools ys)) (hn : xs.length = n) (hm : ys.length = m) {q : Bool} (hq : decide (xs = ys) = q) :
    Calls Try.prog 61 #[.slice a n ca, .slice b m cb] w fun e w' => e = .returned (.bool q) ∧ HS w0 w' g G F L := by
  subst hn hm hq
  exact (Eqbool_is ca cb (h.held _ hx) hy).mono fun e w' ⟨he, hc⟩ => ⟨he, h.same hc⟩
theorem Eqint_h (h : HS w0 w g G F L) {a b : Option Addr} {xs ys : List Int} {n m ca cb : Nat} (hx : Sl w a xs) (hy : Sl w b ys) (hn : xs.length = n) (hm : ys.length = m) {q : Bool} (hq : decide (xs = ys) = q) :
    Calls Try.prog 45 #[.slice a n ca, .slice b m cb] w fun e w' => e = .returned (.bool q) ∧ HS w0 w' g G F L := by
  subst hn hm hq
  exact (Eqint_is ca cb hx hy).mono fun e w' ⟨he, hc⟩ => ⟨he, h.same hc⟩
end
end Go.Proofs.Ytdmmanfjafempaa
namespace Go.Proofs.Ytdmmanfjafempaa
open Go.RowKit Go.Mem Go.Aig
def sb1 : Gra := ⟨20, [⟨1, 0, 0, 0⟩, ⟨2, 0, 0, 0⟩]⟩
def sb2 : Gra := ⟨20, [⟨1, 0, 0, 0⟩, ⟨2, 0, 0, 0⟩, ⟨2, 0, 0, 0⟩]⟩
def sb3 : Gra := ⟨20, [⟨1, 0, 0, 0⟩, ⟨2, 0, 0, 0⟩, ⟨2, 0, 0, 0⟩, ⟨3, 2, 5, 1⟩, ⟨3, 3, 4, 1⟩, ⟨3, 7, 9, 2⟩]⟩
def sb4 : Gra := ⟨20, [⟨1, 0, 0, 0⟩, ⟨2, 0, 0, 0⟩, ⟨2, 0, 0, 0⟩, ⟨3, 2, 5, 1⟩, ⟨3, 3, 4, 1⟩, ⟨3, 7, 9, 2⟩, ⟨3, 3, 5, 1⟩]⟩
theorem blkSv {w : World} {b : Nat} {xs : List Value} (hb : blk w b xs) (hl : xs.length ≤ 9223372036854775807) : Sv w (some ⟨b, 0, none⟩) xs := ⟨fun i x hx => ⟨b, 0, rfl, by
  rw [Nat.zero_add]
  exact hb.cell hx⟩, hl⟩
theorem blkSl {w : World} {b : Nat} {l : List Int} {xs : List Value} (hb : blk w b xs) (hx : xs = l.map fun z => .int .i64 z) (hl : l.length ≤ 9223372036854775807) : Sl w (some ⟨b, 0, none⟩) l := ⟨fun i x hi => ⟨b, 0, rfl, by
  rw [Nat.zero_add]
  refine hb.cell ?_
  rw [hx, List.getElem?_map, hi]
  rfl⟩, hl⟩
theorem svSl {w : World} {a : Option Addr} {l : List Nat} (h : Sv w a (refsCells l)) : Sl w a (l.map fun (r : Nat) => (r : Int)) := ⟨fun i x hx => by
  rw [List.getElem?_map] at hx
  cases hl : l[i]? with
  | none => rw [hl] at hx; cases hx
  | some r =>
    rw [hl] at hx
    cases hx
    exact h.cells i _ (by simp [refsCells, hl]), by have := h.bd; simpa [refsCells] using this⟩
section
variable {w0 w : World} {g : Nat} {G : Gra} {F : List Nat}
theorem New_s (n : Nat) (h1 : 1 ≤ n) (h2 : n ≤ 65536) : Calls Try.prog 31 #[.int .i64 n] w fun e w' => ∃ g F, e = .returned (.tuple #[.pointer (some ⟨g, 0, none⟩), .int .i64 0]) ∧ HS w w' g (newG n) F [] :=
  (New_yes n h1 h2).mono fun e w' ⟨g, F, he, hg, hF, hc⟩ => ⟨g, F, he, ⟨hg, hF, hc⟩, by simp⟩
theorem Input_s (h : HS w0 w g G F []) {G' : Gra} {r e : Nat} (hR : doInput G = (G', r, e)) : Calls Try.prog 58 #[.pointer (some ⟨g, 0, none⟩)] w fun en w' => ∃ F', en = .returned (.tuple #[.int .i64 r, .int .i64 e]) ∧ HS w0 w' g G' F' [] := by
  have H := Input_g h.own.gin
  rw [hR] at H
  refine H.mono ?_
  rintro en w' ⟨rfl, hto⟩
  obtain ⟨F', ho⟩ := h.own.to hto
  exact ⟨F', rfl, ho, by simp⟩
theorem And_s (h : HS w0 w g G F []) (a b : Int) (ba : a ≤ 9223372036854775807) (bb : b ≤ 9223372036854775807) {G' : Gra} {r e : Nat} (hR : doAnd G a b = (G', r, e)) : Calls Try.prog 81 #[.pointer (some ⟨g, 0, none⟩), .int .i64 a, .int .i64 b] w fun en w' => ∃ F', en = .returned (.tuple #[.int .i64 r, .int .i64 e]) ∧ HS w0 w' g G' F' [] := by
  have H := And_g h.own.gin a b ba bb
  rw [hR] at H
  refine H.mono ?_
  rintro en w' ⟨rfl, hto⟩
  obtain ⟨F', ho⟩ := h.own.to hto
  exact ⟨F', rfl, ho, by simp⟩
theorem Or_s (h : HS w0 w g G F []) (a b : Int) (ba : a ≤ 9223372036854775807) (bb : b ≤ 9223372036854775807) {G' : Gra} {r e : Nat} (hR : doOr G a b = (G', r, e)) : Calls Try.prog 60 #[.pointer (some ⟨g, 0, none⟩), .int .i64 a, .int .i64 b] w fun en w' => ∃ F', en = .returned (.tuple #[.int .i64 r, .int .i64 e]) ∧ HS w0 w' g G' F' [] := by
  have H := Or_g h.own.gin a b ba bb
  rw [hR] at H
  refine H.mono ?_
  rintro en w' ⟨rfl, hto⟩
  obtain ⟨F', ho⟩ := h.own.to hto
  exact ⟨F', rfl, ho, by simp⟩
theorem Xor_s (h : HS w0 w g G F []) (a b : Int) (ba : a ≤ 9223372036854775807) (bb : b ≤ 9223372036854775807) {G' : Gra} {r e : Nat} (hR : doXor G a b = (G', r, e)) : Calls Try.prog 59 #[.pointer (some ⟨g, 0, none⟩), .int .i64 a, .int .i64 b] w fun en w' => ∃ F', en = .returned (.tuple #[.int .i64 r, .int .i64 e]) ∧ HS w0 w' g G' F' [] := by
  have H := Xor_g h.own.gin a b ba bb
  rw [hR] at H
  refine H.mono ?_
  rintro en w' ⟨rfl, hto⟩
  obtain ⟨F', ho⟩ := h.own.to hto
  exact ⟨F', rfl, ho, by simp⟩
end
set_option maxRecDepth 100000 in
set_option maxHeartbeats 4000000 in
theorem awake21_is (w : World) : Calls Try.prog 13 #[] w fun e w' => e = .returned (.bool true) ∧ Ch [] w w' := by
  have hN := New_s (w := w) 20 (by decide) (by decide)
  have HN := Lib.hid hN; clear hN
  go_enter Try.func13, Try.ntmps13
  go_wp2_with fail
  refine HN.out.mono ?_
  rintro e w1 ⟨g, F1, rfl, ho⟩
  have HO := Lib.hid ho; clear ho HN
  go_wp2_with fail
  refine (Input_s HO.out (G' := sb1) (r := 2) (e := 0) (by kernel_rfl)).mono ?_
  rintro e w2 ⟨F2, rfl, ho⟩
  clear HO; have HO := Lib.hid ho; clear ho
  go_wp2_with fail
  refine (Input_s HO.out (G' := sb2) (r := 4) (e := 0) (by kernel_rfl)).mono ?_
  rintro e w3 ⟨F3, rfl, ho⟩
  clear HO; have HO := Lib.hid ho; clear ho
  go_wp2_with fail
  refine (Xor_s HO.out 2 4 (by decide) (by decide) (G' := sb3) (r := 11) (e := 0) (by kernel_rfl)).mono ?_
  rintro e w4 ⟨F4, rfl, ho⟩
  clear HO; have HO := Lib.hid ho; clear ho
  go_wp2_with fail
  refine (Or_s HO.out 2 4 (by decide) (by decide) (G' := sb4) (r := 13) (e := 0) (by kernel_rfl)).mono ?_
  rintro e w5 ⟨F5, rfl, ho⟩
  clear HO; have HO := Lib.hid ho; clear ho
  go_wp2_with fail
  refine (simTable_h HO.out 11 (by decide) (T := [6]) (e := 0) (k := 1) (by kernel_rfl) rfl (by decide)).mono ?_
  rintro e w6 ⟨a0, c0, rfl, ho⟩
  clear HO; have HO := Lib.hid ho; clear ho
  go_wp2_with fail
  refine (simTable_h HO.out 2 (by decide) (T := [10]) (e := 0) (k := 1) (by kernel_rfl) rfl (by decide)).mono ?_
  rintro e w7 ⟨a1, c1, rfl, ho⟩
  clear HO; have HO := Lib.hid ho; clear ho
  go_wp2_with fail
  refine (simTable_h HO.out 1 (by decide) (T := [15]) (e := 0) (k := 1) (by kernel_rfl) rfl (by decide)).mono ?_
  rintro e w8 ⟨a2, c2, rfl, ho⟩
  clear HO; have HO := Lib.hid ho; clear ho
  go_wp2_with fail
  refine (simCount_h HO.out 11 (by decide) (n := 2) (e := 0) (by kernel_rfl)).mono ?_
  rintro e w9 ⟨rfl, ho⟩
  clear HO; have HO := Lib.hid ho; clear ho
  go_wp2_with fail
  refine (simFirst_h HO.out 11 (by decide) (B := [true, false]) (b := true) (e := 0) (k := 2) (by kernel_rfl) rfl (by decide)).mono ?_
  rintro e w10 ⟨a3, c3, rfl, ho⟩
  clear HO; have HO := Lib.hid ho; clear ho
  go_wp2_with fail
  refine calls_named fun w11 hW => ?_
  have hc : Ch [] w10 w11 := by rw [hW]; exact ((Ch.refl _ _).alloc _)
  have hk11_0 : blk w11 (w10.heap.size) [.int .u64 6] := by rw [hW]; exact blk.new' _ _ (by simp)
  clear hW
  have ho := HO.out.same hc
  clear HO hc; have HO := Lib.hid ho; clear ho
  refine (EQu64_h HO.out (a := a0) (ca := c0) (xs := [6]) (ys := [6]) (by simp) (blkSv hk11_0 (by decide)) rfl rfl (q := true) (by decide)).mono ?_
  rintro e w12 ⟨rfl, ho⟩
  clear HO; have HO := Lib.hid ho; clear ho
  go_wp2_with fail
  refine calls_named fun w13 hW => ?_
  have hc : Ch [] w12 w13 := by rw [hW]; exact ((Ch.refl _ _).alloc _)
  have hk13_0 : blk w13 (w12.heap.size) [.int .u64 10] := by rw [hW]; exact blk.new' _ _ (by simp)
  clear hW
  have ho := HO.out.same hc
  clear HO hc; have HO := Lib.hid ho; clear ho
  refine (EQu64_h HO.out (a := a1) (ca := c1) (xs := [10]) (ys := [10]) (by simp) (blkSv hk13_0 (by decide)) rfl rfl (q := true) (by decide)).mono ?_
  rintro e w14 ⟨rfl, ho⟩
  clear HO; have HO := Lib.hid ho; clear ho
  go_wp2_with fail
  refine calls_named fun w15 hW => ?_
  have hc : Ch [] w14 w15 := by rw [hW]; exact ((Ch.refl _ _).alloc _)
  have hk15_0 : blk w15 (w14.heap.size) [.int .u64 15] := by rw [hW]; exact blk.new' _ _ (by simp)
  clear hW
  have ho := HO.out.same hc
  clear HO hc; have HO := Lib.hid ho; clear ho
  refine (EQu64_h HO.out (a := a2) (ca := c2) (xs := [15]) (ys := [15]) (by simp) (blkSv hk15_0 (by decide)) rfl rfl (q := true) (by decide)).mono ?_
  rintro e w16 ⟨rfl, ho⟩
  clear HO; have HO := Lib.hid ho; clear ho
  go_wp2_with fail
  refine calls_named fun w17 hW => ?_
  have hc : Ch [] w16 w17 := by rw [hW]; exact ((Ch.refl _ _).alloc _)
  have hk17_0 : blk w17 (w16.heap.size) [.bool true, .bool false] := by rw [hW]; exact blk.new' _ _ (by simp)
  clear hW
  have ho := HO.out.same hc
  clear HO hc; have HO := Lib.hid ho; clear ho
  refine (Eqbool_h HO.out (a := a3) (ca := c3) (xs := [true, false]) (ys := [true, false]) (by simp) (blkSv hk17_0 (by decide)) rfl rfl (q := true) (by decide)).mono ?_
  rintro e w18 ⟨rfl, ho⟩
  clear HO; have HO := Lib.hid ho; clear ho
  go_wp2_with fail
  refine (simParts_h HO.out 2 4 (by decide) (by decide) (B := [true, false]) (b := true) (e := 0) (k := 2) (by kernel_rfl) rfl (by decide)).mono ?_
  rintro e w19 ⟨a4, c4, rfl, ho⟩
  clear HO; have HO := Lib.hid ho; clear ho
  go_wp2_with fail
  refine (simParts_h HO.out 11 13 (by decide) (by decide) (B := [true, true]) (b := true) (e := 0) (k := 2) (by kernel_rfl) rfl (by decide)).mono ?_
  rintro e w20 ⟨a5, c5, rfl, ho⟩
  clear HO; have HO := Lib.hid ho; clear ho
  go_wp2_with fail
  refine calls_named fun w21 hW => ?_
  have hc : Ch [] w20 w21 := by rw [hW]; exact (((Ch.refl _ _).alloc _).alloc _)
  have hk21_0 : blk w21 (w20.heap.size) [.int .u64 12, .int .u64 10] := by rw [hW]; exact (blk.new' _ _ (by simp)).alloc _
  have hk21_1 : blk w21 (w20.heap.size + 1) [.int .i64 2, .int .i64 11] := by rw [hW]; exact blk.new' _ _ (by simp)
  clear hW
  have ho := HO.out.same hc
  clear HO hc; have HO := Lib.hid ho; clear ho
  have ho := HO.out.blk hk21_0 (by decide)
  clear HO; have HO := Lib.hid ho; clear ho
  refine (simWords_h HO.out (xa := some ⟨w20.heap.size, 0, none⟩) (ins := [12, 10]) (m := 2) (xc := 2) (by simp [u64s]) rfl (by decide) (by decide) (by decide) (l := [2, 11]) (n := 2) (c := 2) rfl (blkSl hk21_1 rfl (by decide)) (by decide) (by decide) (ws := [12, 6]) (e := 0) (k := 2) (by kernel_rfl) rfl (by decide)).mono ?_
  rintro e w22 ⟨a6, c6, rfl, ho⟩
  clear HO; have HO := Lib.hid ho; clear ho
  go_wp2_with fail
  refine calls_named fun w23 hW => ?_
  have hc : Ch [] w22 w23 := by rw [hW]; exact ((Ch.refl _ _).alloc _)
  have hk23_0 : blk w23 (w22.heap.size) [.int .i64 1] := by rw [hW]; exact blk.new' _ _ (by simp)
  clear hW
  have ho := HO.out.same hc
  clear HO hc; have HO := Lib.hid ho; clear ho
  refine (simSupport_h HO.out (l := [1]) (n := 1) (c := 1) rfl (blkSl hk23_0 rfl (by decide)) (fun q hq => by cases hq; exact hk23_0.lt) (by decide) (s := []) (e := 0) (k := 0) (by kernel_rfl) rfl (by decide)).mono ?_
  rintro e w24 ⟨a7, c7, rfl, ho⟩
  clear HO; have HO := Lib.hid ho; clear ho
  go_wp2_with fail
  refine calls_named fun w25 hW => ?_
  have hc : Ch [] w24 w25 := by rw [hW]; exact ((Ch.refl _ _).alloc _)
  have hk25_0 : blk w25 (w24.heap.size) [.int .i64 11] := by rw [hW]; exact blk.new' _ _ (by simp)
  clear hW
  have ho := HO.out.same hc
  clear HO hc; have HO := Lib.hid ho; clear ho
  refine (simSupport_h HO.out (l := [11]) (n := 1) (c := 1) rfl (blkSl hk25_0 rfl (by decide)) (fun q hq => by cases hq; exact hk25_0.lt) (by decide) (s := [0, 1]) (e := 0) (k := 2) (by kernel_rfl) rfl (by decide)).mono ?_
  rintro e w26 ⟨a8, c8, rfl, ho⟩
  clear HO; have HO := Lib.hid ho; clear ho
  go_wp2_with fail
  refine (New_s 1 (by decide) (by decide)).mono ?_
  rintro e w27 ⟨g2, G2, rfl, hn⟩
  have HN := Lib.hid hn; clear hn
  go_wp2_with fail
  refine (simTable_h HN.out 1 (by decide) (T := [1]) (e := 0) (k := 1) (by kernel_rfl) rfl (by decide)).mono ?_
  rintro e w28 ⟨a9, c9, rfl, hn⟩
  have ho := (HO.out.same hn.own.ch).add (hn.held _ (List.mem_cons_self ..))
  clear HO HN hn; have HO := Lib.hid ho; clear ho
  go_wp2_with fail
  refine calls_named fun w29 hW => ?_
  have hc : Ch [] w28 w29 := by rw [hW]; exact ((Ch.refl _ _).alloc _)
  have hk29_0 : blk w29 (w28.heap.size) [.bool true, .bool false] := by rw [hW]; exact blk.new' _ _ (by simp)
  clear hW
  have ho := HO.out.same hc
  clear HO hc; have HO := Lib.hid ho; clear ho
  refine (Eqbool_h HO.out (a := a4) (ca := c4) (xs := [true, false]) (ys := [true, false]) (by simp) (blkSv hk29_0 (by decide)) rfl rfl (q := true) (by decide)).mono ?_
  rintro e w30 ⟨rfl, ho⟩
  clear HO; have HO := Lib.hid ho; clear ho
  go_wp2_with fail
  refine calls_named fun w31 hW => ?_
  have hc : Ch [] w30 w31 := by rw [hW]; exact ((Ch.refl _ _).alloc _)
  have hk31_0 : blk w31 (w30.heap.size) [.bool true, .bool true] := by rw [hW]; exact blk.new' _ _ (by simp)
  clear hW
  have ho := HO.out.same hc
  clear HO hc; have HO := Lib.hid ho; clear ho
  refine (Eqbool_h HO.out (a := a5) (ca := c5) (xs := [true, true]) (ys := [true, true]) (by simp) (blkSv hk31_0 (by decide)) rfl rfl (q := true) (by decide)).mono ?_
  rintro e w32 ⟨rfl, ho⟩
  clear HO; have HO := Lib.hid ho; clear ho
  go_wp2_with fail
  refine calls_named fun w33 hW => ?_
  have hc : Ch [] w32 w33 := by rw [hW]; exact ((Ch.refl _ _).alloc _)
  have hk33_0 : blk w33 (w32.heap.size) [.int .u64 12, .int .u64 6] := by rw [hW]; exact blk.new' _ _ (by simp)
  clear hW
  have ho := HO.out.same hc
  clear HO hc; have HO := Lib.hid ho; clear ho
  refine (EQu64_h HO.out (a := a6) (ca := c6) (xs := [12, 6]) (ys := [12, 6]) (by simp) (blkSv hk33_0 (by decide)) rfl rfl (q := true) (by decide)).mono ?_
  rintro e w34 ⟨rfl, ho⟩
  clear HO; have HO := Lib.hid ho; clear ho
  go_wp2_with fail
  refine calls_named fun w35 hW => ?_
  have hc : Ch [] w34 w35 := by rw [hW]; exact ((Ch.refl _ _).alloc _)
  have hk35_0 : blk w35 (w34.heap.size) [.int .i64 0, .int .i64 1] := by rw [hW]; exact blk.new' _ _ (by simp)
  clear hW
  have ho := HO.out.same hc
  clear HO hc; have HO := Lib.hid ho; clear ho
  refine (Eqint_h HO.out (a := a8) (ca := c8) (xs := [0, 1]) (ys := [0, 1]) (svSl (l := [0, 1]) (HO.out.held (a8, refsCells [0, 1]) (by simp))) (blkSl hk35_0 rfl (by decide)) rfl rfl (q := true) (by decide)).mono ?_
  rintro e w36 ⟨rfl, ho⟩
  clear HO; have HO := Lib.hid ho; clear ho
  go_wp2_with fail
  refine calls_named fun w37 hW => ?_
  have hc : Ch [] w36 w37 := by rw [hW]; exact ((Ch.refl _ _).alloc _)
  have hk37_0 : blk w37 (w36.heap.size) [.int .u64 1] := by rw [hW]; exact blk.new' _ _ (by simp)
  clear hW
  have ho := HO.out.same hc
  clear HO hc; have HO := Lib.hid ho; clear ho
  refine (EQu64_h HO.out (a := a9) (ca := c9) (xs := [1]) (ys := [1]) (by simp) (blkSv hk37_0 (by decide)) rfl rfl (q := true) (by decide)).mono ?_
  rintro e w38 ⟨rfl, ho⟩
  clear HO; have HO := Lib.hid ho; clear ho
  go_wp2_with fail
  go_ret
  exact ⟨rfl, HO.out.own.ch⟩
end Go.Proofs.Ytdmmanfjafempaa
namespace Go
open Go.RowKit Go.Mem
section
variable {P : Program} (w : World)
theorem run_append_zeros_room (t tn ty e : TypeId) (i : TypeInfo) (z : Value) (kn : IntKind) (ht : P.underlying t = some (.slice e)) (htn : P.underlying tn = some (.int kn)) (hi : P.info? e = some i) (hz : i.zero = some z) (hs : 0 < i.size)
    (g sLen sCap : Nat) (cur : Array Value) (hg : w.heap[g]? = some (.cells cur e (0, 0))) (m : Nat) (hl : (Builtin.zeroCells z.cells m).toList.length = m * i.size) (h1 : ∀ u ∈ (Builtin.zeroCells z.cells m).toList, u.oneCell' = true)
    (hm63 : m ≤ 1000000) (hmb : m * i.bytes ≤ 281474976710656) (hroom : sLen + m ≤ sCap) (hfit : sLen * i.size + m * i.size ≤ cur.size) :
    (Builtin.append_ #[t, tn] ty #[.slice (some ⟨g, 0, none⟩) sLen sCap, .int .i64 m]).run P w =
      .ok (.slice (some ⟨g, 0, none⟩) (sLen + m) sCap) (w.setRow g (cur.toList.take (sLen * i.size) ++ (Builtin.zeroCells z.cells m).toList ++ cur.toList.drop (sLen * i.size + m * i.size)).toArray) := by
  have hst := run_storeCells_at P g (sLen * i.size) e (Builtin.zeroCells z.cells m).toList 0 cur w hg (by rw [hl]; simpa using hfit) h1
  simp only [Nat.add_zero] at hst
  have hw : IntKind.i64.wrap (m : Int) = m := by rw [IntKind.wrap_i64]; omega
  have hneg : ¬ ((m : Int) < 0) := by omega
  have h48i : ¬ (281474976710656 < (m : Int) * (i.bytes : Int)) := by
    rw [← Int.natCast_mul]
    omega
  rw [hl] at hst
  by_cases hm : m = 0
  · subst hm
    have hz0 : (Builtin.zeroCells z.cells 0).toList = [] := by simp [Builtin.zeroCells]
    rw [hz0] at hst ⊢
    have hw0 : IntKind.i64.wrap 0 = 0 := by rw [IntKind.wrap_i64]; rfl
    simp at hst hroom ⊢
    simp [Builtin.append_, run_underlying ht, run_underlying htn, sizeOf, typeInfo, hi, asInt, asIntOf, hw0, hroom, Addr.add_lit, hst]
  · have hns : ¬ (m * i.size = 0) := Nat.mul_ne_zero hm (by omega)
    simp [Builtin.append_, run_underlying ht, run_underlying htn, sizeOf, typeInfo, zeroValue, hi, hz, asInt, asIntOf, hw, hneg, h48i, hns, hroom, Addr.add_lit, hst]
theorem run_append_zeros_grow (t tn ty e : TypeId) (i : TypeInfo) (z : Value) (kn : IntKind) (ht : P.underlying t = some (.slice e)) (htn : P.underlying tn = some (.int kn)) (hi : P.info? e = some i) (hz : i.zero = some z) (hs : 0 < i.size)
    (b : Addr) (sLen sCap : Nat) (olds : List Value) (hlo : olds.length = sLen * i.size) (holds : ∀ j v, olds[j]? = some v → w.cell? (b.add j) = some v) (m : Nat) (hm : m ≠ 0) (hm63 : m ≤ 1000000) (hmb : m * i.bytes ≤ 281474976710656)
    (hg : sCap < sLen + m) (h63 : ((sLen + m : Nat) : Int) ≤ 9223372036854775807) (hfit : Builtin.nextslicecap (sLen + m) sCap * i.bytes ≤ 281474976710656) :
    (Builtin.append_ #[t, tn] ty #[.slice (some b) sLen sCap, .int .i64 m]).run P w =
      .ok (.slice (some ⟨w.heap.size, 0, none⟩) (sLen + m) (grownCap w (sLen + m) sCap e))
        (w.drew.alloc (.cells (olds.toArray ++ Builtin.zeroCells z.cells m ++ Builtin.zeroCells z.cells (grownCap w (sLen + m) sCap e - (sLen + m))) e)) := by
  have hn : ¬ (sLen + m ≤ sCap) := by omega
  have h63' : ¬ (9223372036854775807 < ((sLen : Int) + (m : Int))) := by omega
  have h48' : ¬ (281474976710656 < Builtin.nextslicecap (sLen + m) sCap * i.bytes) := by omega
  have hfo := run_firstCells_some (P := P) w.drew i.size sLen b sLen sCap olds hlo (by simpa using holds)
  have hw : IntKind.i64.wrap (m : Int) = m := by rw [IntKind.wrap_i64]; omega
  have hneg : ¬ ((m : Int) < 0) := by omega
  have h48i : ¬ (281474976710656 < (m : Int) * (i.bytes : Int)) := by
    rw [← Int.natCast_mul]
    omega
  have hns : ¬ (m * i.size = 0) := Nat.mul_ne_zero hm (by omega)
  simp [Builtin.append_, run_underlying ht, run_underlying htn, sizeOf, typeInfo, zeroValue, hi, hz, asInt, asIntOf, hw, hneg, h48i, hns, hn, h63', h48', Question.forced, hfo, newRow, grownCap]
end
theorem run_append_zeros {P : Program} (w : World) {t tn e : TypeId} {size bytes : Nat} {z : Value} (S : SliceTy P t e size bytes z) (ty : TypeId) {kn : IntKind} (htn : P.underlying tn = some (.int kn))
    (v : Value) (n : Nat) (xs : List Value) (hown : row w e size v n xs) (m : Nat) (zs : List Value) (hzs : (Builtin.zeroCells z.cells m).toList = zs) (h1 : ∀ u ∈ zs, u.oneCell' = true)
    (hm63 : m ≤ 1000000) (hbytes : (n + m) * bytes ≤ 140737488355328) (h63 : n + m ≤ maxLen) :
    ∃ v' w', (Builtin.append_ #[t, tn] ty #[v, .int .i64 m]).run P w = .ok v' w' ∧ row w' e size v' (n + m) (xs ++ zs) ∧ Ch v.ownBlock.toList w w' ∧ (∀ k, v'.ownBlock = some k → v.ownBlock = some k ∨ w.heap.size ≤ k) := by
  obtain ⟨i, hi, hz, hsize, hby⟩ := info_parts S.info
  subst hsize hby hzs
  have hl : (Builtin.zeroCells z.cells m).toList.length = m * i.size := by rw [Array.length_toList, size_zeroCells, S.zs]
  have hsmall : n + m ≤ 9223372036854775807 := by simp only [maxLen] at h63; omega
  have hmb : m * i.bytes ≤ 281474976710656 := by
    have := Nat.mul_le_mul_right i.bytes (show m ≤ n + m by omega)
    omega
  have hlen : (xs ++ (Builtin.zeroCells z.cells m).toList).length = (n + m) * i.size := by rw [List.length_append, hown.1, hl, Nat.add_mul]
  have grown : ∀ (old : Nat), old < n + m → row (w.drew.alloc (.cells (xs.toArray ++ Builtin.zeroCells z.cells m ++ Builtin.zeroCells z.cells (grownCap w (n + m) old e - (n + m))) e)) e i.size
        (.slice (some ⟨w.heap.size, 0, none⟩) (n + m) (grownCap w (n + m) old e)) (n + m) (xs ++ (Builtin.zeroCells z.cells m).toList) ∧
      Ch [] w (w.drew.alloc (.cells (xs.toArray ++ Builtin.zeroCells z.cells m ++ Builtin.zeroCells z.cells (grownCap w (n + m) old e - (n + m))) e)) := by
    intro old ho
    have hge := grownCap_ge w (n + m) old e
    have hcm : grownCap w (n + m) old e ≤ maxLen := grownCap_le_maxLen w (n + m) old e h63
    refine ⟨⟨hlen, .inr ⟨w.heap.size, _, _, rfl, Nat.zero_le _, heap_alloc_new w.drew _, hge, hcm, ?_, ?_⟩⟩, (Ch.refl _ _).drew.alloc _⟩
    · simp only [Array.size_append, List.size_toArray, size_zeroCells, S.zs, hown.1, ← Nat.add_mul]
      congr 1
      omega
    · simp only [Array.toList_append, List.append_assoc]
      rw [← List.append_assoc, ← hlen]
      exact List.take_left
  rcases hown.2 with ⟨rfl, rfl⟩ | ⟨g, cap, cur, rfl, hbg, hg, hnc, hcm, hcs, htake⟩
  · have hx : xs = [] := List.eq_nil_of_length_eq_zero (by simpa using hown.1)
    subst hx
    by_cases hm : m = 0
    · subst hm
      have hz0 : (Builtin.zeroCells z.cells 0).toList = [] := by simp [Builtin.zeroCells]
      rw [hz0]
      refine ⟨.slice none 0 0, w, ?_, ⟨by simp, .inl ⟨rfl, rfl⟩⟩, Ch.refl _ _, by simp [Value.ownBlock]⟩
      have hw0 : IntKind.i64.wrap 0 = 0 := by rw [IntKind.wrap_i64]; rfl
      simp [Builtin.append_, run_underlying S.under, run_underlying htn, sizeOf, typeInfo, hi, asInt, asIntOf, hw0]
    · have hr := Lib.run_append_nil_zeros (P := P) w t tn ty e i z .i64 kn S.under htn hi hz m (by omega) S.pos (by omega) hmb
      have hgr := grown 0 (by omega)
      simp only [Nat.zero_add, List.nil_append, Array.empty_append] at hgr ⊢
      refine ⟨_, _, hr, ?_, ?_, fun k hk => .inr ?_⟩
      · have := hgr.1
        simpa using this
      · have := hgr.2
        exact (by simpa using this : Ch [] w _).mono (by simp)
      · simp [Value.ownBlock] at hk; omega
  · by_cases hroom : n + m ≤ cap
    · have hfit : n * i.size + m * i.size ≤ cur.size := by rw [hcs, ← Nat.add_mul]; exact Nat.mul_le_mul_right _ hroom
      have hr := run_append_zeros_room (P := P) w t tn ty e i z kn S.under htn hi hz S.pos g n cap cur hg m hl h1 hm63 hmb hroom hfit
      refine ⟨_, _, hr, ⟨hlen, .inr ⟨g, cap, _, rfl, hbg, setRow_heap w g cur _ e _ hg, hroom, hcm, ?_, ?_⟩⟩, ?_, fun k hk => .inl hk⟩
      · simp only [List.size_toArray, List.length_append, List.length_take, List.length_drop, Array.length_toList, hl]
        rw [Array.length_toList] at hl
        omega
      · rw [htake, ← hlen]
        exact List.take_left
      · exact ⟨rfl, rfl, rfl, by simp, fun k _ hk => setRow_other w g k _ (fun e => hk (by simp [Value.ownBlock, e]))⟩
    · have hm : m ≠ 0 := by omega
      have holds : ∀ j u, xs[j]? = some u → w.cell? ((⟨g, 0, none⟩ : Addr).add j) = some u := hown.cells (g := g) rfl
      have hr := run_append_zeros_grow (P := P) w t tn ty e i z kn S.under htn hi hz S.pos ⟨g, 0, none⟩ n cap xs hown.1 holds m hm hm63 hmb (by omega) (by omega) (growslice_fits (by omega) hbytes)
      have hgr := grown cap (by omega)
      exact ⟨_, _, hr, hgr.1, hgr.2.mono (by simp), fun k hk => .inr (by simp [Value.ownBlock] at hk; omega)⟩
/-- the operation, for the walk -/
theorem wpList_append_zeros {P : Program} {w : World} {ops : Array Oper} {rest : List Oper} {o : Oper} {a : Act} {Q : Exit → Act → World → Prop} {t tn e : TypeId} {size bytes : Nat} {z : Value} (S : SliceTy P t e size bytes z) {kn : IntKind} (htn : P.underlying tn = some (.int kn)) (hgd : o.guard = none) (s x : Operand)
    (ho : o.op = .call { callee := .builtin .append, args := #[s, x], argTypes := #[t, tn] }) {v : Value} {n : Nat} {xs : List Value} (hs : a.eval s = v) (hown : row w e size v n xs) {m : Nat} (hx : a.eval x = .int .i64 m) (zs : List Value) (hzs : (Builtin.zeroCells z.cells m).toList = zs) (h1 : ∀ u ∈ zs, u.oneCell' = true)
    (hm63 : m ≤ 1000000) (hbytes : (n + m) * bytes ≤ 140737488355328) (h63 : n + m ≤ maxLen)
    (h : ∀ v' w', row w' e size v' (n + m) (xs ++ zs) → Ch v.ownBlock.toList w w' → (∀ k, v'.ownBlock = some k → v.ownBlock = some k ∨ w.heap.size ≤ k) → wpList P ops Q rest (a.put o.dst v') w') : wpList P ops Q (o :: rest) a w := by
  obtain ⟨v', w', hr, h2, h3, h4⟩ := run_append_zeros w S o.type htn v n xs hown m zs hzs h1 hm63 hbytes h63
  exact Lib.wpList_append_run w hgd s x t tn ho v (.int .i64 m) hs hx v' w' hr (h v' w' h2 h3 h4)
end Go
namespace Go.Aig
theorem wvF_app (M : Nat) (ins : List Nat) (a b : List Nd) : ∃ t, (wvF M ins (a ++ b)).1 = (wvF M ins a).1 ++ t := by
  induction b using List.snocRec with
  | nil => exact ⟨[], by simp⟩
  | snoc b x ih =>
    obtain ⟨t, ht⟩ := ih
    obtain ⟨v, hv⟩ := wvF_ext M ins (a ++ b) x
    rw [← List.append_assoc]
    exact ⟨t ++ [v], by rw [hv, ht, List.append_assoc]⟩
/-- what a node is, by its kind -/
theorem wv_node {ns : List Nd} (hw : WF ns) (M : Nat) (ins : List Nat) {n : Nat} {x : Nd} (hx : ns[n]? = some x) :
    (wvF M ins ns).1[n]? = some (if x.k = 3 then wref M (wvF M ins ns).1 x.l &&& wref M (wvF M ins ns).1 x.r else if x.k = 2 then ins.getD (inputs (ns.take n)).length 0 else 0) := by
  have hn := (List.getElem?_eq_some_iff.1 hx).1
  obtain ⟨t, ht⟩ := wvF_app M ins (ns.take (n + 1)) (ns.drop (n + 1))
  rw [List.take_append_drop] at ht
  have h1 : wvF M ins (ns.take (n + 1)) = wvStep M (wvF M ins (ns.take n)) x := by rw [List.take_add_one, hx]; exact wvF_snoc M ins (ns.take n) x
  have hl : (wvF M ins (ns.take n)).1.length = n := by rw [wvF_len, List.length_take]; omega
  have hr : ∀ r, r < 2 * n → wref M (wvF M ins ns).1 r = wref M (wvF M ins (ns.take n)).1 r := fun r hr => by
    obtain ⟨t2, ht2⟩ := wvF_app M ins (ns.take n) (ns.drop n)
    rw [List.take_append_drop] at ht2
    rw [ht2, wref_ext (by omega)]
  have h2 : (wvF M ins (ns.take n)).2 = ins.drop (inputs (ns.take n)).length := by
    have : ∀ ms : List Nd, (wvF M ins ms).2 = ins.drop (inputs ms).length := by
      intro ms
      induction ms using List.snocRec with
      | nil => rfl
      | snoc ms y ih =>
        rw [wvF_snoc]
        unfold wvStep
        split
        · rename_i h; rw [Go.Proofs.Ytdmmanfjafempaa.inputs_append (by omega)]; exact ih
        · split
          · rename_i h; rw [Go.Proofs.Ytdmmanfjafempaa.inputs_input h, List.length_append]; simp only [ih, List.tail_drop, List.length_cons, List.length_nil]
          · rename_i h; rw [Go.Proofs.Ytdmmanfjafempaa.inputs_append h]; exact ih
    exact this _
  have key : (wvF M ins ns).1[n]? = (wvStep M (wvF M ins (ns.take n)) x).1[n]? := by rw [ht, List.getElem?_append_left (by rw [wvF_len, List.length_take]; omega), h1]
  rw [key]
  unfold wvStep
  split
  · rename_i h3
    have hs := hw.sides hx h3
    simp only
    rw [List.getElem?_append_right (by omega), hl, Nat.sub_self, hr x.l (by omega), hr x.r (by omega)]
    rfl
  · split
    · simp only
      rw [List.getElem?_append_right (by omega), hl, Nat.sub_self, h2]
      simp [List.headD_eq_head?_getD, List.head?_drop, List.getD_eq_getElem?_getD]
    · simp only
      rw [List.getElem?_append_right (by omega), hl, Nat.sub_self]
      rfl
/-- words for just as many inputs as there are -/
def fitI (ins : List Nat) (k : Nat) : List Nat := ins.take (min ins.length k) ++ List.replicate (k - ins.length) 0
theorem fitI_len (ins : List Nat) (k : Nat) : (fitI ins k).length = k := by
  unfold fitI
  rw [List.length_append, List.length_take, List.length_replicate]
  omega
theorem fitI_lt {ins : List Nat} (h : ∀ v ∈ ins, v < 2 ^ 64) (k : Nat) : ∀ v ∈ fitI ins k, v < 2 ^ 64 := fun v hv => by
  unfold fitI at hv
  rcases List.mem_append.1 hv with hv | hv
  · exact h v (List.mem_of_mem_take hv)
  · rw [(List.mem_replicate.1 hv).2]; omega
end Go.Aig
namespace Go.Proofs.Ytdmmanfjafempaa
open Go.RowKit Go.Mem Go.Aig
theorem zeros_u64 (m : Nat) : (Builtin.zeroCells (Value.int .u64 0).cells m).toList = u64s (List.replicate m 0) := by
  unfold Builtin.zeroCells u64s
  rw [show (Value.int .u64 0).cells = #[.int .u64 0] from rfl]
  apply List.ext_getElem
  · simp
  · intro i h1 h2
    simp [Nat.mod_one]
theorem eqSliceNilW (w : World) (a : Option Addr) (n c : Nat) : (binOp .eql 27 (.slice a n c) (.slice none 0 0)).run Try.prog w = .ok (.bool a.isNone) w := by
  have h : Try.prog.underlying 27 = some (.slice 26) := Try.underlying27
  simp only [binOp]
  simp [run_equal_slice_nil w _ _ a n c h]
attribute [local go_sem] eqSliceNilW
section
variable {w : World}
set_option maxRecDepth 100000 in
set_option maxHeartbeats 1000000 in
theorem CLu64_is {a : Option Addr} {l : List Nat} (n c : Nat) (hn : l.length = n) (h : Sv w a (u64s l)) (hm : n ≤ 1000000) : Calls Try.prog 39 #[.slice a n c] w fun e w' => ∃ v, e = .returned v ∧ row w' 26 1 v n (u64s l) ∧ (∀ q ∈ v.ownBlock.toList, w.heap.size ≤ q) ∧ Ch [] w w' := by
  subst hn
  cases a with
  | none =>
    have hl : l = [] := by
      cases l with
      | nil => rfl
      | cons y l =>
        obtain ⟨b, o, e, _⟩ := h.cells 0 (.int .u64 y) rfl
        cases e
    subst hl
    clear h
    go_enter Try.func39, Try.ntmps39
    go_wp2_with fail
    go_ret
    exact ⟨_, rfl, ⟨rfl, .inl ⟨rfl, rfl⟩⟩, by simp, Ch.refl _ _⟩
  | some p =>
    have hO : row (w.alloc (.cells #[] 26)) 26 1 (.slice (some ⟨w.heap.size, 0, none⟩) 0 0) 0 [] := ⟨rfl, .inr ⟨w.heap.size, 0, #[], rfl, by omega, heap_alloc_new w _, by omega, by unfold maxLen; omega, rfl, rfl⟩⟩
    have hN : ∀ j u, (u64s l)[j]? = some u → (w.alloc (.cells #[] 26)).cell? (p.add j) = some u := fun j u hu => by
      obtain ⟨b, o, e, hc⟩ := h.cells j u hu
      cases e
      rw [Addr.add_lit]
      exact (((Ch.refl [] w).alloc _).cell (cell_lt hc) (by simp)).trans hc
    have h1 : ∀ u ∈ u64s l, u.oneCell' = true := fun u hu => by
      obtain ⟨r, _, rfl⟩ := List.mem_map.1 hu
      rfl
    have HO := Lib.hid hO; clear hO
    have HN := Lib.hid hN; clear hN h
    have H1 := Lib.hid h1; clear h1
    go_enter Try.func39, Try.ntmps39
    go_wp2_with (at_builtin; go_loud (refine wpList_append_row slU64s rfl _ _ rfl (v := .slice (some ⟨w.heap.size, 0, none⟩) 0 0) (n := 0) (xs := []) rfl HO.out (ad := p) (m := l.length) (c := c) (news := u64s l) rfl (by simp [u64s]) HN.out H1.out (by omega) (by omega) ?_; intro v' w2 hown hC2 hfresh; have HOWN := Lib.hid hown; clear hown; have HC2 := Lib.hid hC2; clear hC2; have HFR := Lib.hid hfresh; clear hfresh))
    go_ret
    have hown := HOWN.out
    rw [Nat.zero_add, List.nil_append] at hown
    refine ⟨_, rfl, hown, fun k hk => ?_, (((Ch.refl [] w).alloc (.cells #[] 26))).trans HC2.out (by simp)⟩
    rcases HFR.out k (by simpa using hk) with e | e
    · simp at e; omega
    · simp at e; omega

end
end Go.Proofs.Ytdmmanfjafempaa
namespace Go.Aig
open Go.Proofs.Ytdmmanfjafempaa
theorem metDown_mono {ns : List Nd} (hw : WF ns) : ∀ (n : Nat) (met : List Bool), met.length = ns.length → ∀ m, met.getD m false = true → (metDown ns n met).getD m false = true
  | 0, _, _, _, h => h
  | n + 1, met, hl, m, h => by
    unfold metDown
    split
    · exact metDown_mono hw n _ (by rw [stepMet_len, hl]) m ((stepMet_getD hw hl m).2 (.inl h))
    · exact metDown_mono hw n _ hl m h
theorem metDown_closed {ns : List Nd} (hw : WF ns) : ∀ (n : Nat) (met : List Bool), met.length = ns.length → ∀ d, d < n → (metDown ns n met).getD d false = true → ∀ x, ns[d]? = some x → x.k = 3 → (metDown ns n met).getD (x.l / 2) false = true ∧ (metDown ns n met).getD (x.r / 2) false = true
  | 0, _, _, d, hd, _, _, _, _ => by omega
  | n + 1, met, hl, d, hd, h, x, hx, h3 => by
    unfold metDown at h ⊢
    by_cases hdn : d < n
    · split at h
      · rename_i hm
        rw [if_pos hm]
        exact metDown_closed hw n _ (by rw [stepMet_len, hl]) d hdn h x hx h3
      · rename_i hm
        rw [if_neg hm]
        exact metDown_closed hw n _ hl d hdn h x hx h3
    · have e : d = n := by omega
      subst e
      split at h
      · rename_i hm
        rw [if_pos hm]
        have h1 := (stepMet_getD hw hl (d := d) (x.l / 2)).2 (.inr ⟨x, hx, h3, .inl rfl⟩)
        have h2 := (stepMet_getD hw hl (d := d) (x.r / 2)).2 (.inr ⟨x, hx, h3, .inr rfl⟩)
        exact ⟨metDown_mono hw d _ (by rw [stepMet_len, hl]) _ h1, metDown_mono hw d _ (by rw [stepMet_len, hl]) _ h2⟩
      · rename_i hm
        rw [metDown_far hw d met d (Nat.le_refl _)] at h
        exact absurd h hm
theorem mem_cone {ns : List Nd} (hw : WF ns) (l : List Nat) (d : Nat) : d ∈ cone ns l ↔ d < ns.length ∧ (metDown ns ns.length (met0 ns.length l)).getD d false = true := by
  rw [cone_filter hw, List.mem_filter, List.mem_range]
theorem cone_closed {ns : List Nd} (hw : WF ns) {l : List Nat} {d : Nat} {x : Nd} (h : d ∈ cone ns l) (hx : ns[d]? = some x) (h3 : x.k = 3) : x.l / 2 ∈ cone ns l ∧ x.r / 2 ∈ cone ns l := by
  obtain ⟨h1, h2⟩ := (mem_cone hw l d).1 h
  have hs := hw.sides hx h3
  obtain ⟨a, b⟩ := metDown_closed hw ns.length _ (met0_len _ _) d h1 h2 x hx h3
  exact ⟨(mem_cone hw l _).2 ⟨by omega, a⟩, (mem_cone hw l _).2 ⟨by omega, b⟩⟩
theorem marked : ∀ (l : List Nat) (met : List Bool) (r : Nat), r ∈ l → r / 2 < met.length → (l.foldl setMark met).getD (r / 2) false = true
  | [], _, _, h, _ => by cases h
  | q :: l, met, r, h, hr => by
    rw [List.foldl_cons]
    rcases List.mem_cons.1 h with rfl | h
    · refine foldl_mark_mono l _ _ ?_
      unfold setMark
      exact getD_set.2 (.inr ⟨rfl, hr⟩)
    · exact marked l _ r h (by rw [setMark_len]; exact hr)
theorem mem_marked : ∀ (l : List Nat) (met : List Bool) (m : Nat), (l.foldl setMark met).getD m false = true → met.getD m false = true ∨ ∃ r ∈ l, m = r / 2
  | [], _, _, h => .inl h
  | q :: l, met, m, h => by
    rw [List.foldl_cons] at h
    rcases mem_marked l _ m h with h | ⟨r, hr, e⟩
    · unfold setMark at h
      rcases getD_set.1 h with h | ⟨h, _⟩
      · exact .inl h
      · exact .inr ⟨q, List.mem_cons_self .., h⟩
    · exact .inr ⟨r, List.mem_cons_of_mem _ hr, e⟩
theorem cone_has {ns : List Nd} (hw : WF ns) {l : List Nat} {r : Nat} (h : r ∈ l) (hr : r < 2 * ns.length) : r / 2 ∈ cone ns l :=
  (mem_cone hw l _).2 ⟨by omega, metDown_mono hw _ _ (met0_len _ _) _ (by unfold met0; exact marked l _ r h (by simp; omega))⟩
/-- the cone of references whose nodes are among those of others -/
theorem cone_sub {ns : List Nd} (hw : WF ns) {l l' : List Nat} (h : ∀ r ∈ l, r < 2 * ns.length ∧ ∃ q ∈ l', r / 2 = q / 2) : ∀ d ∈ cone ns l, d ∈ cone ns l' := fun d hd => by
  unfold cone coneDown at hd ⊢
  rw [List.mem_reverse] at hd ⊢
  refine coneFrom_mono hw ns.length _ _ (met0_len _ _) (met0_len _ _) (fun m hm => ?_) d hd
  unfold met0 at hm ⊢
  rcases mem_marked l _ m hm with h1 | ⟨r, hr, rfl⟩
  · rw [List.getD_eq_getElem?_getD, List.getElem?_replicate] at h1
    split at h1 <;> simp at h1
  · obtain ⟨h2, q, hq, e⟩ := h r hr
    rw [e]
    exact marked l' _ q hq (by simp; omega)
theorem inputsFrom_app : ∀ (a b : List Nd) (n : Nat), inputsFrom (a ++ b) n = inputsFrom a n ++ inputsFrom b (n + a.length)
  | [], b, n => rfl
  | x :: a, b, n => by
    show (if x.k = 2 then 2 * n :: inputsFrom (a ++ b) (n + 1) else inputsFrom (a ++ b) (n + 1)) = (if x.k = 2 then 2 * n :: inputsFrom a (n + 1) else inputsFrom a (n + 1)) ++ inputsFrom b (n + (a.length + 1))
    rw [inputsFrom_app a b (n + 1), show n + 1 + a.length = n + (a.length + 1) by omega]
    split <;> rfl
/-- which input a node is -/
theorem input_at {ns : List Nd} {n : Nat} {x : Nd} (hx : ns[n]? = some x) (h2 : x.k = 2) : (inputs (ns.take n)).length < (inputs ns).length ∧ (inputs ns).getD (inputs (ns.take n)).length 0 = 2 * n := by
  have hn := (List.getElem?_eq_some_iff.1 hx).1
  have e : ns = ns.take n ++ x :: ns.drop (n + 1) := by
    have h1 := List.take_append_drop n ns
    rw [List.drop_eq_getElem_cons hn, (List.getElem?_eq_some_iff.1 hx).2] at h1
    exact h1.symm
  have h3 : inputs ns = inputs (ns.take n) ++ 2 * n :: inputsFrom (ns.drop (n + 1)) (n + 1) := by
    conv => lhs; rw [e]
    unfold inputs
    rw [inputsFrom_app, Nat.zero_add, List.length_take, Nat.min_eq_left (by omega)]
    congr 1
    show (if x.k = 2 then _ else _) = _
    rw [if_pos h2]
  constructor
  · rw [h3]; simp
  · rw [h3, List.getD_eq_getElem?_getD, List.getElem?_append_right (Nat.le_refl _), Nat.sub_self]
    rfl
/-- two assignments that are the same in the support make the same of what lies in the cone -/
theorem cone_same {ns : List Nd} (hw : WF ns) (M : Nat) {l : List Nat} {I J : List Nat} (h : ∀ i ∈ Go.Proofs.Ytdmmanfjafempaa.suppL ns l (inputs ns).length, I.getD i 0 = J.getD i 0) :
    ∀ n, n ∈ cone ns l → (wvF M I ns).1.getD n 0 = (wvF M J ns).1.getD n 0 := by
  intro n
  induction n using Nat.strongRecOn with
  | _ n ih =>
    intro hn
    obtain ⟨h1, _⟩ := (mem_cone hw l n).1 hn
    obtain ⟨x, hx⟩ : ∃ x, ns[n]? = some x := ⟨_, List.getElem?_eq_getElem h1⟩
    rw [List.getD_eq_getElem?_getD, List.getD_eq_getElem?_getD, wv_node hw M I hx, wv_node hw M J hx]
    show (if x.k = 3 then _ else _) = (if x.k = 3 then _ else _)
    by_cases h3 : x.k = 3
    · rw [if_pos h3, if_pos h3]
      have hs := hw.sides hx h3
      obtain ⟨c1, c2⟩ := cone_closed hw hn hx h3
      have e1 := ih (x.l / 2) (by omega) c1
      have e2 := ih (x.r / 2) (by omega) c2
      unfold wref
      rw [e1, e2]
    · rw [if_neg h3, if_neg h3]
      by_cases h2 : x.k = 2
      · rw [if_pos h2, if_pos h2]
        obtain ⟨q1, q2⟩ := input_at hx h2
        refine h _ ?_
        unfold Go.Proofs.Ytdmmanfjafempaa.suppL
        refine List.mem_filter.2 ⟨List.mem_range.2 q1, decide_eq_true ?_⟩
        rw [q2, show 2 * n / 2 = n by omega]
        exact hn
      · rw [if_neg h2, if_neg h2]
theorem words_same {G : Gra} (hw : WF G.nodes) {l : List Nat} (hl : ∀ r ∈ l, r < 2 * G.nodes.length) {I J : List Nat} (h : ∀ i ∈ Go.Proofs.Ytdmmanfjafempaa.suppL G.nodes l (inputs G.nodes).length, I.getD i 0 = J.getD i 0) : wsOf I G.nodes l = wsOf J G.nodes l := by
  unfold wsOf
  refine List.map_congr_left fun r hr => ?_
  have e := cone_same hw 18446744073709551615 h (r / 2) (cone_has hw hr (hl r hr))
  unfold wref
  rw [e]
/-- the support of fewer references is in that of more -/
theorem supp_sub {ns : List Nd} (hw : WF ns) {l l' : List Nat} (h : ∀ r ∈ l, r < 2 * ns.length ∧ ∃ q ∈ l', r / 2 = q / 2) (k : Nat) : ∀ i ∈ Go.Proofs.Ytdmmanfjafempaa.suppL ns l k, i ∈ Go.Proofs.Ytdmmanfjafempaa.suppL ns l' k := fun i hi => by
  unfold Go.Proofs.Ytdmmanfjafempaa.suppL at hi ⊢
  obtain ⟨h1, h2⟩ := List.mem_filter.1 hi
  exact List.mem_filter.2 ⟨h1, decide_eq_true (cone_sub hw h _ (of_decide_eq_true h2))⟩
theorem supp_asc (ns : List Nd) (l : List Nat) (k : Nat) : (Go.Proofs.Ytdmmanfjafempaa.suppL ns l k).Pairwise (fun a b => a < b) := by
  unfold Go.Proofs.Ytdmmanfjafempaa.suppL
  exact List.Pairwise.filter _ (List.pairwise_lt_range)
theorem supp_lt (ns : List Nd) (l : List Nat) (k : Nat) : ∀ i ∈ Go.Proofs.Ytdmmanfjafempaa.suppL ns l k, i < k := fun _ hi => List.mem_range.1 (List.mem_filter.1 hi).1
end Go.Aig
namespace Go.Proofs.Ytdmmanfjafempaa
open Go.RowKit Go.Mem Go.Aig
theorem bits_xor_i64_nat (a b : Nat) (ha : a < 9223372036854775808) (hb : b < 9223372036854775808) : bits .xor .i64 (a : Int) (b : Int) = ((a ^^^ b : Nat) : Int) := by
  have hx : a ^^^ b < 2 ^ 63 := Nat.xor_lt_two_pow (by omega) (by omega)
  have h1 : (BitVec.ofInt 64 (a : Int)).toNat = a := by
    rw [BitVec.ofInt_natCast, BitVec.toNat_ofNat]; exact Nat.mod_eq_of_lt (by omega)
  have h2 : (BitVec.ofInt 64 (b : Int)).toNat = b := by
    rw [BitVec.ofInt_natCast, BitVec.toNat_ofNat]; exact Nat.mod_eq_of_lt (by omega)
  show IntKind.i64.wrap ((BitVec.ofInt 64 (a : Int) ^^^ BitVec.ofInt 64 (b : Int)).toNat : Int) = _
  rw [BitVec.toNat_xor, h1, h2, IntKind.wrap_i64]
  omega
def bitN (b : Bool) : Nat := b.toNat
/-- what all nodes are, 0 or 1 -/
def valsN (I : List Nat) (ns : List Nd) : List Nat := (wvF 1 I ns).1
theorem valsN_len (I : List Nat) (ns : List Nd) : (valsN I ns).length = ns.length := wvF_len 1 I ns
theorem valsN_le {I : List Nat} (h : ∀ v ∈ I, v ≤ 1) (ns : List Nd) : ∀ v ∈ valsN I ns, v ≤ 1 := fun v hv => by
  have := (wvF_lt (N := 1) (ins := I) (fun v hv => by have := h v hv; omega) ns).1 v hv
  omega
theorem wref1 (V : List Nat) (r : Nat) : wref 1 V r = V.getD (r / 2) 0 ^^^ (r % 2) := by
  unfold wref
  rcases Nat.mod_two_eq_zero_or_one r with h | h <;> rw [h]
  · simp
  · rw [if_pos rfl, Nat.xor_comm]
theorem bit_mul {a b : Nat} (ha : a ≤ 1) (hb : b ≤ 1) : a * b = a &&& b := by
  rcases (by omega : a = 0 ∨ a = 1) with rfl | rfl <;> rcases (by omega : b = 0 ∨ b = 1) with rfl | rfl <;> rfl
theorem xor_le1 {a b : Nat} (ha : a ≤ 1) (hb : b ≤ 1) : a ^^^ b ≤ 1 := by
  rcases (by omega : a = 0 ∨ a = 1) with rfl | rfl <;> rcases (by omega : b = 0 ∨ b = 1) with rfl | rfl <;> decide
section
variable {w : World}
set_option maxRecDepth 100000 in
set_option maxHeartbeats 2000000 in
theorem r21Values_is {rb cap : Nat} {G : Gra} (h : RG w rb cap G) {xa : Option Addr} {I : List Nat} (m xc : Nat) (hm : I.length = m) (hI : Sv w xa (refsCells I)) (hle : ∀ v ∈ I, v ≤ 1) (hlen : (inputs G.nodes).length ≤ m) :
    Calls Try.prog 111 #[.agg #[.int .i64 G.most, .slice (some ⟨rb, 0, none⟩) G.nodes.length cap], .slice xa m xc] w fun e w' => ∃ v, e = .returned v ∧ row w' 3 1 v G.nodes.length (refsCells (valsN I G.nodes)) ∧ (∀ q ∈ v.ownBlock.toList, w.heap.size ≤ q) ∧ Ch [] w w' := by
  obtain ⟨hl, hp, hmo⟩ := h.len
  have hle0 := h.le
  have hmx := h.mx
  have hV1 := valsN_le hle G.nodes
  have hVl := valsN_len I G.nodes
  have hwf := h.ok.wf
  have hVn := fun (i : Nat) (x : Nd) (hx : G.nodes[i]? = some x) => wv_node hwf 1 I hx
  have hin := fun (i : Nat) (x : Nd) (hx : G.nodes[i]? = some x) (h2 : x.k = 2) => input_at hx h2
  have hIb : I.length ≤ 9223372036854775807 := by have := hI.bd; simpa [refsCells] using this
  obtain ⟨V, hV⟩ : ∃ V, valsN I G.nodes = V := ⟨_, rfl⟩
  have hV' : (wvF 1 I G.nodes).1 = V := hV
  rw [hV] at hV1 hVl
  simp only [hV'] at hVn
  rw [hV]
  clear hV hV'
  have H := Lib.hid h; clear h
  have HI := Lib.hid hI; clear hI
  have HM := Lib.hid hm; clear hm
  have HV1 := Lib.hid hV1; clear hV1
  have HVL := Lib.hid hVl; clear hVl
  have HVN := Lib.hid hVn; clear hVn
  have HIN := Lib.hid hin; clear hin
  have HLE := Lib.hid hle; clear hle
  go_enter Try.func111, Try.ntmps111
  go_wp2_with fail
  refine wp_alw ?_
  intro W0 hW0
  have hc0 : Ch [] w W0 := by rw [hW0]; exact (Ch.refl _ _).alloc _
  have b2 : blk W0 w.heap.size [.int .i64 G.most, .slice (some ⟨rb, 0, none⟩) G.nodes.length cap] := by rw [hW0]; exact blk.new' (w := w) [.int .i64 G.most, .slice (some ⟨rb, 0, none⟩) G.nodes.length cap] 83 rfl
  clear hW0
  have hr0 := H.out.ch hc0 (by simp)
  have hi0 := HI.out.ch hc0 (by simp)
  have B2 := Lib.hid b2; clear b2
  have HC0 := Lib.hid hc0; clear hc0
  have HR0 := Lib.hid hr0; clear hr0
  have HI0 := Lib.hid hi0; clear hi0
  go_loopw [5, 6, 7] (fun o q i wr => ∃ n : Nat, n ≤ G.nodes.length ∧ i = .int .i64 n ∧ q = .int .i64 ((inputs (G.nodes.take n)).length : Nat) ∧ Ch [] W0 wr ∧ row wr 3 1 o n (refsCells (V.take n)) ∧ ∀ q ∈ o.ownBlock.toList, W0.heap.size ≤ q) (fun _ _ i _ => G.nodes.length - (intOf i).toNat)
  case atStart => exact ⟨0, by omega, rfl, rfl, Ch.refl _ _, ⟨rfl, .inl ⟨rfl, rfl⟩⟩, by simp⟩
  case round =>
    obtain ⟨n, hn, rfl, rfl, hc, hrow, hlo⟩ := hrel
    obtain ⟨oa, oc, rfl⟩ := row.shape hrow
    have y1 := (B2.out.ch hc (by simp)).cell (i := 1) rfl
    by_cases hlt : n < G.nodes.length
    · obtain ⟨x, hx⟩ : ∃ x, G.nodes[n]? = some x := ⟨_, List.getElem?_eq_getElem hlt⟩
      obtain ⟨c0, c1, c2⟩ := (HR0.out.ch hc (by simp)).node hx
      have hvn := HVN.out n x hx
      obtain ⟨v, hv⟩ : ∃ v, V[n]? = some v := ⟨_, List.getElem?_eq_getElem (by rw [HVL.out]; exact hlt)⟩
      rw [hv] at hvn
      replace hvn := Option.some.inj hvn
      have hts : V.take (n + 1) = V.take n ++ [v] := by rw [List.take_add_one, hv]; rfl
      have hv1 := HV1.out v (List.mem_of_getElem? hv)
      have hins : (inputs (G.nodes.take n)).length ≤ n := by
        have : ∀ (l : List Nd) (k : Nat), (inputsFrom l k).length ≤ l.length := fun l => by
          induction l with
          | nil => intro n; simp [inputsFrom]
          | cons a l ih => intro n; unfold inputsFrom; split <;> simp <;> have := ih (n + 1) <;> omega
        have := this (G.nodes.take n) 0
        rw [List.length_take] at this
        unfold inputs
        omega
      have hisucc : (inputs (G.nodes.take (n + 1))).length = (inputs (G.nodes.take n)).length + (if x.k = 2 then 1 else 0) := by
        rw [List.take_add_one, hx]
        show (inputs (G.nodes.take n ++ [x])).length = _
        by_cases h2 : x.k = 2
        · rw [inputs_input h2, if_pos h2]; simp
        · rw [inputs_append h2, if_neg h2]; rfl
      have HTS := Lib.hid hts; clear hts
      have HC := Lib.hid hc; clear hc
      have HROW := Lib.hid hrow; clear hrow
      have HLO := Lib.hid hlo; clear hlo
      have HVNN := Lib.hid hvn; clear hvn
      have HIS := Lib.hid hisucc; clear hisucc
      have HXX := Lib.hid hx
      go_upto_region 7 with fail
      refine wp_named fun W1 hW1 => ?_
      have hc1 : Ch [] wr W1 := by rw [hW1]; exact (Ch.refl _ _).alloc _
      have hb1 : blk W1 wr.heap.size [.int .i64 x.k, .int .i64 x.l, .int .i64 x.r] := by rw [hW1]; exact blk.new' _ _ rfl
      have d0 := hb1.cell (i := 0) rfl
      clear hW1 y1 c0 c1 c2
      have hc1' := Lib.hid hc1; clear hc1
      by_cases h3 : x.k = 3
      · have q2 : ((x.k : Int) == 2) = false := by rw [h3]; rfl
        have q3 : ((x.k : Int) == 3) = true := by rw [h3]; rfl
        have hsd := hwf.sides hx h3
        have hvn := HVNN.out
        rw [if_pos h3, wref1, wref1] at hvn
        have his := HIS.out
        rw [if_neg (by omega), Nat.add_zero] at his
        obtain ⟨L, hL⟩ : ∃ L, x.l / 2 = L := ⟨_, rfl⟩
        obtain ⟨R, hR⟩ : ∃ R, x.r / 2 = R := ⟨_, rfl⟩
        obtain ⟨lm, hlm⟩ : ∃ lm, x.l % 2 = lm := ⟨_, rfl⟩
        obtain ⟨rm, hrm⟩ : ∃ rm, x.r % 2 = rm := ⟨_, rfl⟩
        have hLn : L < n := by omega
        have hRn : R < n := by omega
        rw [hL, hR, hlm, hrm] at hvn
        obtain ⟨p, hp⟩ : ∃ p, V[L]? = some p := ⟨_, List.getElem?_eq_getElem (by rw [HVL.out]; omega)⟩
        obtain ⟨q, hq⟩ : ∃ q, V[R]? = some q := ⟨_, List.getElem?_eq_getElem (by rw [HVL.out]; omega)⟩
        have hp1 := HV1.out p (List.mem_of_getElem? hp)
        have hq1 := HV1.out q (List.mem_of_getElem? hq)
        rw [List.getD_eq_getElem?_getD, List.getD_eq_getElem?_getD, hp, hq] at hvn
        simp only [Option.getD_some] at hvn
        have hpt : (V.take n)[L]? = some p := by rw [List.getElem?_take, if_pos hLn]; exact hp
        have hqt : (V.take n)[R]? = some q := by rw [List.getElem?_take, if_pos hRn]; exact hq
        obtain ⟨ob, oc', hoe⟩ := row.parts HROW.out (by omega)
        cases hoe
        have cp := row_cell (HROW.out.ch hc1'.out (by simp)) (k := L) (v := .int .i64 p) (by unfold refsCells; rw [List.getElem?_map, hpt]; rfl)
        have cq := row_cell (HROW.out.ch hc1'.out (by simp)) (k := R) (v := .int .i64 q) (by unfold refsCells; rw [List.getElem?_map, hqt]; rfl)
        have d1 := hb1.cell (i := 1) rfl
        have d2 := hb1.cell (i := 2) rfl
        have hlm1 : lm ≤ 1 := by omega
        have hrm1 : rm ≤ 1 := by omega
        have ex1 := bits_xor_i64_nat p lm (by omega) (by omega)
        have ex2 := bits_xor_i64_nat q rm (by omega) (by omega)
        have ha1 := xor_le1 hp1 hlm1
        have hb1' := xor_le1 hq1 hrm1
        obtain ⟨A, hA⟩ : ∃ A, p ^^^ lm = A := ⟨_, rfl⟩
        obtain ⟨B, hB⟩ : ∃ B, q ^^^ rm = B := ⟨_, rfl⟩
        rw [hA] at ex1 ha1 hvn
        rw [hB] at ex2 hb1' hvn
        rw [← bit_mul ha1 hb1'] at hvn
        have em : (A : Int) * (B : Int) = (v : Int) := by rw [hvn]; simp
        have em1 : ∀ [Nonempty Unit], wrap64 ((A : Int) * (B : Int)) = (v : Int) := by rw [em]; exact IntWalk.wrap64_in _ (by omega)
        have em2 : ∀ [Nonempty Unit], IntKind.i64.wrap ((A : Int) * (B : Int)) = (v : Int) := by rw [em]; exact IntWalk.i64_in _ (by omega)
        have el1 : (x.l : Int) / 2 = (L : Int) := by omega
        have el2 : (x.l : Int) % 2 = (lm : Int) := by omega
        have er1 : (x.r : Int) / 2 = (R : Int) := by omega
        have er2 : (x.r : Int) % 2 = (rm : Int) := by omega
        have hxb : x.l ≤ 200000 ∧ x.r ≤ 200000 := by omega
        have HIS2 := Lib.hid his; clear his HIS
        have HSD := Lib.hid hsd; clear hsd
        clear hvn hp hq hpt hqt hA hB hL hR hlm hrm em HVNN hx h3 hb1
        go_wp2_with fail
        refine Ord.St.door (fun _ => True) [.fl, .fl, .rd, .fl, .fl, .rd, .fl, .rd, .fl, .fl, .fl, .fl, .rd, .fl, .fl, .rd, .fl, .rd, .fl, .fl, .fl, .fl] [0, 0, 2, 6, 15, 31, 0, 64, 192, 511, 0, 0, 2048, 6144, 15360, 31744, 0, 65536, 196608, 523264, 1048575, 2097151] [0, 1, 2, 3, 4, 5, 6, 7, 8, 9, 10, 11, 12, 13, 14, 15, 16, 17, 18, 19, 20, 21] mixed (by kernel_rfl) rfl ?_
        refine Ord.St.fl2 (T' := ?_) 0 [1, 2, 3, 4, 5, 6, 7, 8, 9, 10, 11, 12, 13, 14, 15, 16, 17, 18, 19, 20, 21] _ _ rfl (by kernel_rfl) rfl rfl rfl rfl (fun K w' hk => ?_) ?_
        rotate_left
        · go_step; exact hk
        refine Ord.St.fl2 (T' := ?_) 1 [2, 3, 4, 5, 6, 7, 8, 9, 10, 11, 12, 13, 14, 15, 16, 17, 18, 19, 20, 21] _ _ rfl (by kernel_rfl) rfl rfl rfl rfl (fun K w' hk => ?_) ?_
        rotate_left
        · go_step; exact hk
        refine Ord.St.rd2 (T' := ?_) 2 [3, 4, 5, 6, 7, 8, 9, 10, 11, 12, 13, 14, 15, 16, 17, 18, 19, 20, 21] _ _ rfl (by kernel_rfl) rfl rfl rfl rfl (fun K hk => ?_) ?_
        rotate_left
        · go_step; exact hk
        refine Ord.St.fl2 (T' := ?_) 3 [4, 5, 6, 7, 8, 9, 10, 11, 12, 13, 14, 15, 16, 17, 18, 19, 20, 21] _ _ rfl (by kernel_rfl) rfl rfl rfl rfl (fun K w' hk => ?_) ?_
        rotate_left
        · go_step; exact hk
        refine Ord.St.fl2 (T' := ?_) 4 [5, 6, 7, 8, 9, 10, 11, 12, 13, 14, 15, 16, 17, 18, 19, 20, 21] _ _ rfl (by kernel_rfl) rfl rfl rfl rfl (fun K w' hk => ?_) ?_
        rotate_left
        · go_step; exact hk
        refine Ord.St.rd2 (T' := ?_) 5 [6, 7, 8, 9, 10, 11, 12, 13, 14, 15, 16, 17, 18, 19, 20, 21] _ _ rfl (by kernel_rfl) rfl rfl rfl rfl (fun K hk => ?_) ?_
        rotate_left
        · go_step; exact hk
        refine Ord.St.fl2 (T' := ?_) 6 [7, 8, 9, 10, 11, 12, 13, 14, 15, 16, 17, 18, 19, 20, 21] _ _ rfl (by kernel_rfl) rfl rfl rfl rfl (fun K w' hk => ?_) ?_
        rotate_left
        · go_step; exact hk
        refine Ord.St.rd2 (T' := ?_) 7 [8, 9, 10, 11, 12, 13, 14, 15, 16, 17, 18, 19, 20, 21] _ _ rfl (by kernel_rfl) rfl rfl rfl rfl (fun K hk => ?_) ?_
        rotate_left
        · go_step; exact hk
        refine Ord.St.fl2 (T' := ?_) 8 [9, 10, 11, 12, 13, 14, 15, 16, 17, 18, 19, 20, 21] _ _ rfl (by kernel_rfl) rfl rfl rfl rfl (fun K w' hk => ?_) ?_
        rotate_left
        · go_step; exact hk
        refine Ord.St.fl2 (T' := ?_) 9 [10, 11, 12, 13, 14, 15, 16, 17, 18, 19, 20, 21] _ _ rfl (by kernel_rfl) rfl rfl rfl rfl (fun K w' hk => ?_) ?_
        rotate_left
        · go_step; exact hk
        refine Ord.St.fl2 (T' := ?_) 10 [11, 12, 13, 14, 15, 16, 17, 18, 19, 20, 21] _ _ rfl (by kernel_rfl) rfl rfl rfl rfl (fun K w' hk => ?_) ?_
        rotate_left
        · go_step; exact hk
        refine Ord.St.fl2 (T' := ?_) 11 [12, 13, 14, 15, 16, 17, 18, 19, 20, 21] _ _ rfl (by kernel_rfl) rfl rfl rfl rfl (fun K w' hk => ?_) ?_
        rotate_left
        · go_step; exact hk
        refine Ord.St.rd2 (T' := ?_) 12 [13, 14, 15, 16, 17, 18, 19, 20, 21] _ _ rfl (by kernel_rfl) rfl rfl rfl rfl (fun K hk => ?_) ?_
        rotate_left
        · go_step; exact hk
        refine Ord.St.fl2 (T' := ?_) 13 [14, 15, 16, 17, 18, 19, 20, 21] _ _ rfl (by kernel_rfl) rfl rfl rfl rfl (fun K w' hk => ?_) ?_
        rotate_left
        · go_step; exact hk
        refine Ord.St.fl2 (T' := ?_) 14 [15, 16, 17, 18, 19, 20, 21] _ _ rfl (by kernel_rfl) rfl rfl rfl rfl (fun K w' hk => ?_) ?_
        rotate_left
        · go_step; exact hk
        refine Ord.St.rd2 (T' := ?_) 15 [16, 17, 18, 19, 20, 21] _ _ rfl (by kernel_rfl) rfl rfl rfl rfl (fun K hk => ?_) ?_
        rotate_left
        · go_step; exact hk
        refine Ord.St.fl2 (T' := ?_) 16 [17, 18, 19, 20, 21] _ _ rfl (by kernel_rfl) rfl rfl rfl rfl (fun K w' hk => ?_) ?_
        rotate_left
        · go_step; exact hk
        refine Ord.St.rd2 (T' := ?_) 17 [18, 19, 20, 21] _ _ rfl (by kernel_rfl) rfl rfl rfl rfl (fun K hk => ?_) ?_
        rotate_left
        · go_step; exact hk
        refine Ord.St.fl2 (T' := ?_) 18 [19, 20, 21] _ _ rfl (by kernel_rfl) rfl rfl rfl rfl (fun K w' hk => ?_) ?_
        rotate_left
        · go_step; exact hk
        refine Ord.St.fl2 (T' := ?_) 19 [20, 21] _ _ rfl (by kernel_rfl) rfl rfl rfl rfl (fun K w' hk => ?_) ?_
        rotate_left
        · go_step; exact hk
        refine Ord.St.fl2 (T' := ?_) 20 [21] _ _ rfl (by kernel_rfl) rfl rfl rfl rfl (fun K w' hk => ?_) ?_
        rotate_left
        · go_step; exact hk
        refine Ord.St.fl2 (T' := ?_) 21 [] _ _ rfl (by kernel_rfl) rfl rfl rfl rfl (fun K w' hk => ?_) ?_
        rotate_left
        · go_step; exact hk
        refine Ord.St.nil ?_
        clear cp cq d0 d1 d2 ex1 ex2 em1 em2 el1 el2 er1 er2
        have hcA : Ch [] W1.drew (W1.drew.alloc (.cells #[.int .i64 v] 3)) := (Ch.refl _ _).alloc _
        have hrA := (HROW.out.ch (hc1'.out.drew) (by simp)).ch hcA (by simp)
        have hbA : blk (W1.drew.alloc (.cells #[.int .i64 v] 3)) W1.drew.heap.size [.int .i64 v] := blk.new' _ _ rfl
        have HRA := Lib.hid hrA; clear hrA
        have HBA := Lib.hid hbA; clear hbA
        have HCA := Lib.hid hcA; clear hcA
        go_wp2_with (at_builtin; go_loud (refine wpList_append_row slInts rfl _ _ rfl (v := .slice (some ⟨ob, 0, none⟩) n oc) (n := n) (xs := refsCells (V.take n)) rfl HRA.out (ad := ⟨W1.drew.heap.size, 0, none⟩) (m := 1) (c := 1) (news := [.int .i64 v]) rfl rfl (news_blk HBA.out) (by simp [Value.oneCell']) (by omega) (by omega) ?_; intro v' w4 hown4 hC4 hf4; have HO4 := Lib.hid hown4; clear hown4; have HC4 := Lib.hid hC4; clear hC4; have HF4 := Lib.hid hf4; clear hf4))
        go_roundw
        case rel =>
          obtain ⟨q1, q2⟩ := app_step (HC.out.trans (hc1'.out.drew) (by simp)) HCA.out HLO.out HC4.out HF4.out
          refine ⟨n + 1, by omega, by go_num, by rw [HIS2.out]; rfl, q1, ?_, q2⟩
          rw [HTS.out, show refsCells (V.take n ++ [v]) = refsCells (V.take n) ++ [.int .i64 v] by simp [refsCells]]
          exact HO4.out
        case measure => simp [intOf]; omega
      · by_cases h2 : x.k = 2
        · have q2 : ((x.k : Int) == 2) = true := by rw [h2]; rfl
          have q3 : ((x.k : Int) == 3) = false := by rw [h2]; rfl
          have hvn := HVNN.out
          rw [if_neg h3, if_pos h2] at hvn
          have his := HIS.out
          rw [if_pos h2] at his
          obtain ⟨h5, _⟩ := HIN.out n x hx h2
          obtain ⟨K, hK⟩ : ∃ K, (inputs (G.nodes.take n)).length = K := ⟨_, rfl⟩
          rw [hK] at hvn his h5 hins ⊢
          obtain ⟨iv, hiv⟩ : ∃ iv, I[K]? = some iv := ⟨_, List.getElem?_eq_getElem (by rw [HM.out]; omega)⟩
          rw [List.getD_eq_getElem?_getD, hiv] at hvn
          replace hvn : v = iv := hvn
          subst hvn
          obtain ⟨b1, o1, rfl, ci⟩ := ((HI0.out.ch HC.out (by simp)).ch hc1'.out (by simp)).cells K (.int .i64 v) (by unfold refsCells; rw [List.getElem?_map, hiv]; rfl)
          have HIS2 := Lib.hid his; clear his HIS
          have hKm : K < m := by omega
          have hK2 : K ≤ 65536 := by omega
          clear hiv HVNN hx h2 h3 hb1 hK hv HXX hwf h5 hlen
          have hcA : Ch [] W1 (W1.alloc (.cells #[.int .i64 v] 3)) := (Ch.refl _ _).alloc _
          have hrA := (HROW.out.ch hc1'.out (by simp)).ch hcA (by simp)
          have hbA : blk (W1.alloc (.cells #[.int .i64 v] 3)) W1.heap.size [.int .i64 v] := blk.new' _ _ rfl
          have HRA := Lib.hid hrA; clear hrA
          have HBA := Lib.hid hbA; clear hbA
          have HCA := Lib.hid hcA; clear hcA
          go_wp2_with (at_builtin; go_loud (refine wpList_append_row slInts rfl _ _ rfl (v := .slice oa n oc) (n := n) (xs := refsCells (V.take n)) rfl HRA.out (ad := ⟨W1.heap.size, 0, none⟩) (m := 1) (c := 1) (news := [.int .i64 v]) rfl rfl (news_blk HBA.out) (by simp [Value.oneCell']) (by omega) (by omega) ?_; intro v' w4 hown4 hC4 hf4; have HO4 := Lib.hid hown4; clear hown4; have HC4 := Lib.hid hC4; clear hC4; have HF4 := Lib.hid hf4; clear hf4))
          go_roundw
          case rel =>
            obtain ⟨q1, q2⟩ := app_step (HC.out.trans hc1'.out (by simp)) HCA.out HLO.out HC4.out HF4.out
            refine ⟨n + 1, by omega, by go_num, by rw [HIS2.out]; go_num, q1, ?_, q2⟩
            rw [HTS.out, show refsCells (V.take n ++ [v]) = refsCells (V.take n) ++ [.int .i64 v] by simp [refsCells]]
            exact HO4.out
          case measure => simp [intOf]; omega
        · have q2 : ((x.k : Int) == 2) = false := by rw [beq_eq_false_iff_ne]; omega
          have q3 : ((x.k : Int) == 3) = false := by rw [beq_eq_false_iff_ne]; omega
          have hvn := HVNN.out
          rw [if_neg h3, if_neg h2] at hvn
          replace hvn : v = 0 := hvn
          subst hvn
          have his := HIS.out
          rw [if_neg h2, Nat.add_zero] at his
          have HIS2 := Lib.hid his; clear his HIS
          clear HVNN hx h2 h3 hb1
          have hcA : Ch [] W1 (W1.alloc (.cells #[.int .i64 0] 3)) := (Ch.refl _ _).alloc _
          have hrA := (HROW.out.ch hc1'.out (by simp)).ch hcA (by simp)
          have hbA : blk (W1.alloc (.cells #[.int .i64 0] 3)) W1.heap.size [.int .i64 0] := blk.new' _ _ rfl
          have HRA := Lib.hid hrA; clear hrA
          have HBA := Lib.hid hbA; clear hbA
          have HCA := Lib.hid hcA; clear hcA
          go_wp2_with (at_builtin; go_loud (refine wpList_append_row slInts rfl _ _ rfl (v := .slice oa n oc) (n := n) (xs := refsCells (V.take n)) rfl HRA.out (ad := ⟨W1.heap.size, 0, none⟩) (m := 1) (c := 1) (news := [.int .i64 0]) rfl rfl (news_blk HBA.out) (by simp [Value.oneCell']) (by omega) (by omega) ?_; intro v' w4 hown4 hC4 hf4; have HO4 := Lib.hid hown4; clear hown4; have HC4 := Lib.hid hC4; clear hC4; have HF4 := Lib.hid hf4; clear hf4))
          go_roundw
          case rel =>
            obtain ⟨q1, q2⟩ := app_step (HC.out.trans hc1'.out (by simp)) HCA.out HLO.out HC4.out HF4.out
            refine ⟨n + 1, by omega, by go_num, by rw [HIS2.out]; rfl, q1, ?_, q2⟩
            rw [HTS.out, show refsCells (V.take n ++ [0]) = refsCells (V.take n) ++ [.int .i64 0] by simp [refsCells]]
            exact HO4.out
          case measure => simp [intOf]; omega
    · have hnl : n = G.nodes.length := by omega
      have hrow' := hrow
      rw [hnl, List.take_of_length_le (by rw [HVL.out]; omega)] at hrow'
      have HROW := Lib.hid hrow'; clear hrow' hrow
      have HLO := Lib.hid hlo; clear hlo
      have HC := Lib.hid hc; clear hc
      go_wp2_with fail
      go_ret
      refine ⟨_, rfl, ?_, fun q hq => Nat.le_trans HC0.out.size (HLO.out q hq), HC0.out.trans HC.out (by simp)⟩
      have := HROW.out
      rwa [← hnl] at this ⊢
end
end Go.Proofs.Ytdmmanfjafempaa
namespace Go.Aig
/-- the values of the inputs for an assignment -/
def asgN (n a : Nat) : List Nat := (List.range n).map fun i => (a.testBit i).toNat
theorem asgN_len (n a : Nat) : (asgN n a).length = n := by simp [asgN]
theorem asgN_le (n a : Nat) : ∀ v ∈ asgN n a, v ≤ 1 := fun v hv => by
  obtain ⟨i, _, rfl⟩ := List.mem_map.1 hv
  cases a.testBit i <;> simp
theorem asgN_snoc (n a k : Nat) (hk : k < n) : (asgN n a).take (k + 1) = (asgN n a).take k ++ [(a.testBit k).toNat] := by
  rw [List.take_add_one]
  congr 1
  unfold asgN
  rw [List.getElem?_map, List.getElem?_range hk]
  rfl
theorem half_bit (a k : Nat) : a / 2 ^ k % 2 = (a.testBit k).toNat := by
  rw [Nat.testBit_eq_decide_div_mod_eq]
  rcases Nat.mod_two_eq_zero_or_one (a / 2 ^ k) with h | h <;> rw [h] <;> rfl
theorem half_half (a k : Nat) : a / 2 ^ k / 2 = a / 2 ^ (k + 1) := by rw [Nat.div_div_eq_div_mul, ← Nat.pow_succ]
/-- the column k of words -/
def colN (I : List Nat) (k : Nat) : List Nat := I.map fun v => (v.testBit k).toNat
theorem colN_len (I : List Nat) (k : Nat) : (colN I k).length = I.length := by simp [colN]
theorem colN_le (I : List Nat) (k : Nat) : ∀ v ∈ colN I k, v ≤ 1 := fun v hv => by
  obtain ⟨x, _, rfl⟩ := List.mem_map.1 hv
  cases x.testBit k <;> simp
theorem bit_of {v : Nat} (h : v ≤ 1) : v = (v.testBit 0).toNat := by
  rcases (by omega : v = 0 ∨ v = 1) with rfl | rfl <;> rfl
/-- what a reference is, 0 or 1 -/
theorem vals_bv {I : List Nat} (hI : ∀ v ∈ I, v ≤ 1) (ns : List Nd) (r : Nat) : wref 1 (Go.Proofs.Ytdmmanfjafempaa.valsN I ns) r = (bv (fun i => (I.getD i 0).testBit 0) ns r).toNat := by
  have h := wv_bv (N := 1) (k := 0) (by omega) I ns r
  have h2 : wref 1 (Go.Proofs.Ytdmmanfjafempaa.valsN I ns) r ≤ 1 := by
    have : wref 1 (Go.Proofs.Ytdmmanfjafempaa.valsN I ns) r < 2 := wref_lt (N := 1) (vs := Go.Proofs.Ytdmmanfjafempaa.valsN I ns) (fun v hv => by have := Go.Proofs.Ytdmmanfjafempaa.valsN_le hI ns v hv; omega) r
    omega
  rw [bit_of h2]
  congr 1
theorem asgN_bits (n a : Nat) : (fun i => ((asgN n a).getD i 0).testBit 0) = asg n a := by
  funext i
  unfold asgN asg
  rw [List.getD_eq_getElem?_getD, List.getElem?_map]
  by_cases h : i < n
  · rw [List.getElem?_range h, decide_eq_true h]
    show ((a.testBit i).toNat).testBit 0 = _
    cases a.testBit i <;> rfl
  · rw [List.getElem?_eq_none (by simp; omega), decide_eq_false h]
    simp
theorem colN_bits (I : List Nat) (k : Nat) : (fun i => ((colN I k).getD i 0).testBit 0) = fun i => (I.getD i 0).testBit k := by
  funext i
  unfold colN
  rw [List.getD_eq_getElem?_getD, List.getElem?_map, List.getD_eq_getElem?_getD]
  cases I[i]? with
  | none => simp
  | some v =>
    show ((v.testBit k).toNat).testBit 0 = v.testBit k
    cases v.testBit k <;> rfl
end Go.Aig
namespace Go.Proofs.Ytdmmanfjafempaa
open Go.RowKit Go.Mem Go.Aig
section
variable {w : World}
set_option maxRecDepth 100000 in
set_option maxHeartbeats 2000000 in
theorem r21Value_is {rb cap : Nat} {G : Gra} (h : RG w rb cap G) {xa : Option Addr} {I : List Nat} (m xc : Nat) (hm : I.length = m) (hI : Sv w xa (refsCells I)) (hle : ∀ v ∈ I, v ≤ 1) (hlen : (inputs G.nodes).length ≤ m) (r : Nat) (hr : r < 2 * G.nodes.length) :
    Calls Try.prog 118 #[.agg #[.int .i64 G.most, .slice (some ⟨rb, 0, none⟩) G.nodes.length cap], .slice xa m xc, .int .i64 r] w fun e w' => e = .returned (.int .i64 (wref 1 (valsN I G.nodes) r : Nat)) ∧ Ch [] w w' := by
  obtain ⟨hl, hp, hmo⟩ := h.len
  have hV1 := valsN_le hle G.nodes
  have hVl := valsN_len I G.nodes
  have HC := fun (W : World) (hW : Ch [] w W) => r21Values_is (h.ch hW (by simp)) (xa := xa) m xc hm (hI.ch hW (by simp)) hle hlen
  have HC := Lib.hid HC
  clear h hI hle hm
  rw [wref1]
  generalize valsN I G.nodes = V at *
  obtain ⟨L, hL⟩ : ∃ L, r / 2 = L := ⟨_, rfl⟩
  obtain ⟨rm, hrm⟩ : ∃ rm, r % 2 = rm := ⟨_, rfl⟩
  obtain ⟨p, hpp⟩ : ∃ p, V[L]? = some p := ⟨_, List.getElem?_eq_getElem (by omega)⟩
  have hp1 := hV1 p (List.mem_of_getElem? hpp)
  rw [hL, hrm, List.getD_eq_getElem?_getD, hpp]
  simp only [Option.getD_some]
  have ex1 := bits_xor_i64_nat p rm (by omega) (by omega)
  have el1 : (r : Int) / 2 = (L : Int) := by omega
  have el2 : (r : Int) % 2 = (rm : Int) := by omega
  have hLn : L < G.nodes.length := by omega
  generalize p ^^^ rm = A at ex1 ⊢
  have hcl : (refsCells V)[L]? = some (.int .i64 p) := by unfold refsCells; rw [List.getElem?_map, hpp]; rfl
  have HCL := Lib.hid hcl; clear hcl hpp hVl
  have HV1 := Lib.hid hV1; clear hV1
  clear hL hrm
  go_enter Try.func118, Try.ntmps118
  go_wp2_with fail
  refine calls_named fun W1 hW1 => ?_
  have hc1 := alw_ch hW1
  clear hW1
  refine (HC.out W1 hc1).mono ?_
  rintro e w2 ⟨v, rfl, hrow, _, hc2⟩
  obtain ⟨ob, oc, rfl⟩ := row.parts hrow (by omega)
  have cp := row_cell hrow HCL.out
  have hcc := hc1.trans hc2 (by simp)
  clear hrow hc1 hc2 HC
  go_wp2_with fail
  go_ret
  exact ⟨rfl, hcc⟩
set_option maxRecDepth 100000 in
set_option maxHeartbeats 2000000 in
theorem r21Assignment_is (n a : Nat) (hn : n ≤ 60) (ha : a ≤ 9223372036854775807) :
    Calls Try.prog 119 #[.int .i64 n, .int .i64 a] w fun e w' => ∃ v, e = .returned v ∧ row w' 3 1 v n (refsCells (asgN n a)) ∧ (∀ q ∈ v.ownBlock.toList, w.heap.size ≤ q) ∧ Ch [] w w' := by
  have HSN := Lib.hid (asgN_snoc n a)
  have HB := Lib.hid (half_bit a)
  have HH := Lib.hid (half_half a)
  have hAl := asgN_len n a
  obtain ⟨Q, hQ⟩ : ∃ Q : Nat → Nat, Q = fun k => a / 2 ^ k := ⟨_, rfl⟩
  have hQ0 : Q 0 = a := by rw [hQ]; simp
  have hQb : ∀ k, Q k % 2 = (a.testBit k).toNat := fun k => by rw [hQ]; exact HB.out k
  have hQs : ∀ k, Q k / 2 = Q (k + 1) := fun k => by rw [hQ]; exact HH.out k
  have hQl : ∀ k, Q k ≤ a := fun k => by rw [hQ]; exact Nat.div_le_self _ _
  clear hQ HB HH
  generalize asgN n a = A at *
  have HQ0 := Lib.hid hQ0; clear hQ0
  have HQB := Lib.hid hQb; clear hQb
  have HQS := Lib.hid hQs; clear hQs
  have HQL := Lib.hid hQl; clear hQl
  have HAL := Lib.hid hAl; clear hAl
  go_enter Try.func119, Try.ntmps119
  go_wp2_with fail
  go_loopw [1, 5, 6] (fun z o i wr => ∃ k : Nat, k ≤ n ∧ i = .int .i64 k ∧ z = .int .i64 (Q k : Nat) ∧ Ch [] w wr ∧ row wr 3 1 o k (refsCells (A.take k)) ∧ ∀ q ∈ o.ownBlock.toList, w.heap.size ≤ q) (fun _ _ i _ => n - (intOf i).toNat)
  case atStart => exact ⟨0, by omega, rfl, by rw [HQ0.out], Ch.refl _ _, ⟨rfl, .inl ⟨rfl, rfl⟩⟩, by simp⟩
  case round =>
    obtain ⟨k, hk, rfl, rfl, hc, hrow, hlo⟩ := hrel
    obtain ⟨oa, oc, rfl⟩ := row.shape hrow
    have HROW := Lib.hid hrow; clear hrow
    by_cases hlt : k < n
    · have hsn := HSN.out k hlt
      have hqb := HQB.out k
      have hqs := HQS.out k
      have hql := HQL.out k
      obtain ⟨q, hq⟩ : ∃ q, Q k = q := ⟨_, rfl⟩
      obtain ⟨b, hb⟩ : ∃ b, (a.testBit k).toNat = b := ⟨_, rfl⟩
      obtain ⟨q2, hq2⟩ : ∃ q2, Q (k + 1) = q2 := ⟨_, rfl⟩
      rw [hb] at hsn hqb
      rw [hq] at hqb hqs hql ⊢
      rw [hq2] at hqs
      have e1 : (q : Int) % 2 = (b : Int) := by omega
      have e2 : (q : Int) / 2 = (q2 : Int) := by omega
      have HQ2 := Lib.hid hq2; clear hq2
      have HC := Lib.hid hc; clear hc
      have HLO := Lib.hid hlo; clear hlo
      have HSU := Lib.hid hsn; clear hsn
      clear hq hb hqb hqs
      have hcA : Ch [] wr (wr.alloc (.cells #[.int .i64 b] 3)) := (Ch.refl _ _).alloc _
      have hrA := HROW.out.ch hcA (by simp)
      have hbA : blk (wr.alloc (.cells #[.int .i64 b] 3)) wr.heap.size [.int .i64 b] := blk.new' _ _ rfl
      have HRA := Lib.hid hrA; clear hrA
      have HBA := Lib.hid hbA; clear hbA
      have HCA := Lib.hid hcA; clear hcA
      go_wp2_with (at_builtin; go_loud (refine wpList_append_row slInts rfl _ _ rfl (v := .slice oa k oc) (n := k) (xs := refsCells (A.take k)) rfl HRA.out (ad := ⟨wr.heap.size, 0, none⟩) (m := 1) (c := 1) (news := [.int .i64 b]) rfl rfl (news_blk HBA.out) (by simp [Value.oneCell']) (by omega) (by omega) ?_; intro v' w4 hown4 hC4 hf4; have HO4 := Lib.hid hown4; clear hown4; have HC4 := Lib.hid hC4; clear hC4; have HF4 := Lib.hid hf4; clear hf4))
      go_roundw
      case rel =>
        obtain ⟨q1, q2'⟩ := app_step HC.out HCA.out HLO.out HC4.out HF4.out
        refine ⟨k + 1, by omega, by go_num, by rw [HQ2.out], q1, ?_, q2'⟩
        rw [HSU.out, show refsCells (A.take k ++ [b]) = refsCells (A.take k) ++ [.int .i64 b] by simp [refsCells]]
        exact HO4.out
      case measure => simp [intOf]; omega
    · have hkn : k = n := by omega
      subst hkn
      have hrow := HROW.out
      rw [List.take_of_length_le (by rw [HAL.out]; omega)] at hrow
      have HR := Lib.hid hrow; clear hrow HROW
      have HC := Lib.hid hc; clear hc
      have HLO := Lib.hid hlo; clear hlo
      go_wp2_with fail
      go_ret
      exact ⟨_, rfl, HR.out, HLO.out, HC.out⟩
set_option maxRecDepth 100000 in
set_option maxHeartbeats 2000000 in
theorem r21Column_is {xa : Option Addr} {I : List Nat} (m xc k : Nat) (hm : I.length = m) (hI : Sv w xa (u64s I)) (hlt : ∀ v ∈ I, v < 2 ^ 64) (hml : m ≤ 1000000) (hk : k ≤ 63) :
    Calls Try.prog 112 #[.slice xa m xc, .int .i64 k] w fun e w' => ∃ v, e = .returned v ∧ row w' 3 1 v m (refsCells (colN I k)) ∧ (∀ q ∈ v.ownBlock.toList, w.heap.size ≤ q) ∧ Ch [] w w' := by
  have hAl := colN_len I k
  have hsn : ∀ j v, I[j]? = some v → (colN I k).take (j + 1) = (colN I k).take j ++ [(v.testBit k).toNat] := fun j v hv => by
    rw [List.take_add_one]
    congr 1
    unfold colN
    rw [List.getElem?_map, hv]
    rfl
  rw [hm] at hAl
  generalize colN I k = A at *
  have HSN := Lib.hid hsn; clear hsn
  have HAL := Lib.hid hAl; clear hAl
  have HI := Lib.hid hI; clear hI
  have HM := Lib.hid hm; clear hm
  have HLT := Lib.hid hlt; clear hlt
  go_enter Try.func112, Try.ntmps112
  go_wp2_with fail
  go_loopw [5, 6] (fun o i wr => ∃ j : Nat, j ≤ m ∧ i = .int .i64 j ∧ Ch [] w wr ∧ row wr 3 1 o j (refsCells (A.take j)) ∧ ∀ q ∈ o.ownBlock.toList, w.heap.size ≤ q) (fun _ i _ => m - (intOf i).toNat)
  case atStart => exact ⟨0, by omega, rfl, Ch.refl _ _, ⟨rfl, .inl ⟨rfl, rfl⟩⟩, by simp⟩
  case round =>
    obtain ⟨j, hj, rfl, hc, hrow, hlo⟩ := hrel
    obtain ⟨oa, oc, rfl⟩ := row.shape hrow
    have HROW := Lib.hid hrow; clear hrow
    by_cases hlt : j < m
    · obtain ⟨x, hx⟩ : ∃ x, I[j]? = some x := ⟨_, List.getElem?_eq_getElem (by rw [HM.out]; exact hlt)⟩
      have hxb := HLT.out x (List.mem_of_getElem? hx)
      have hsn := HSN.out j x hx
      obtain ⟨b1, o1, rfl, c0⟩ := (HI.out.ch hc (by simp)).cells j (.int .u64 x) (u64s_get hx)
      obtain ⟨q, hq⟩ : ∃ q, x / 2 ^ k = q := ⟨_, rfl⟩
      have hqb := half_bit x k
      obtain ⟨b, hb⟩ : ∃ b, (x.testBit k).toNat = b := ⟨_, rfl⟩
      rw [hb] at hsn hqb
      rw [hq] at hqb
      have hqx : q ≤ x := by rw [← hq]; exact Nat.div_le_self _ _
      have e1 : ∀ [Nonempty Unit], (x : Int) / 2 ^ k = (q : Int) := by rw [← hq]; simp
      have e2 : (q : Int) % 2 = (b : Int) := by omega
      have hbb : b ≤ 1 := by omega
      have HC := Lib.hid hc; clear hc
      have HLO := Lib.hid hlo; clear hlo
      have HSU := Lib.hid hsn; clear hsn
      clear hq hb hqb hx
      have hcA : Ch [] wr (wr.alloc (.cells #[.int .i64 b] 3)) := (Ch.refl _ _).alloc _
      have hrA := HROW.out.ch hcA (by simp)
      have hbA : blk (wr.alloc (.cells #[.int .i64 b] 3)) wr.heap.size [.int .i64 b] := blk.new' _ _ rfl
      have HRA := Lib.hid hrA; clear hrA
      have HBA := Lib.hid hbA; clear hbA
      have HCA := Lib.hid hcA; clear hcA
      go_wp2_with (at_builtin; go_loud (refine wpList_append_row slInts rfl _ _ rfl (v := .slice oa j oc) (n := j) (xs := refsCells (A.take j)) rfl HRA.out (ad := ⟨wr.heap.size, 0, none⟩) (m := 1) (c := 1) (news := [.int .i64 b]) rfl rfl (news_blk HBA.out) (by simp [Value.oneCell']) (by omega) (by omega) ?_; intro v' w4 hown4 hC4 hf4; have HO4 := Lib.hid hown4; clear hown4; have HC4 := Lib.hid hC4; clear hC4; have HF4 := Lib.hid hf4; clear hf4))
      go_roundw
      case rel =>
        obtain ⟨q1, q2'⟩ := app_step HC.out HCA.out HLO.out HC4.out HF4.out
        refine ⟨j + 1, by omega, by go_num, q1, ?_, q2'⟩
        rw [HSU.out, show refsCells (A.take j ++ [b]) = refsCells (A.take j) ++ [.int .i64 b] by simp [refsCells]]
        exact HO4.out
      case measure => simp [intOf]; omega
    · have hkn : j = m := by omega
      subst hkn
      have hrow := HROW.out
      rw [List.take_of_length_le (by rw [HAL.out]; omega)] at hrow
      have HR := Lib.hid hrow; clear hrow HROW
      have HC := Lib.hid hc; clear hc
      have HLO := Lib.hid hlo; clear hlo
      go_wp2_with fail
      go_ret
      exact ⟨_, rfl, HR.out, HLO.out, HC.out⟩
end
end Go.Proofs.Ytdmmanfjafempaa
