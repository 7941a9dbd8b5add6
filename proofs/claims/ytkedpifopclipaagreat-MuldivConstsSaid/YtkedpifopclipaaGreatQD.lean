/-
  Walk over the closure of Both of muldiv: the loop over the bits of the quotient. Conditions: a graph in memory, two words of its references, of the same width.
  Walks over Both, Div, Rem of muldiv. Conditions: a graph in memory, two words of any integers.
  Walks over Div, Rem, Square, Times of muldiv; all of them as steps of a law's walk. Conditions: a graph in memory, words of any integers.
  Words of many assignments at once, plainly: what the nodes of a graph are for the words of its inputs, bit by bit. No program in sight. Conditions: none beyond the hypotheses.
  Numbers and their bits: plain. No program in sight. Conditions: none beyond the hypotheses.
  Of constants everything is a constant, plainly: what the operations of sums make of words of constants, and the numbers that these are. No program in sight. Conditions: none beyond the hypotheses.
  Walks over bitword: the table of the operations, what each does, Apply. Conditions: words in range, a width from 1 to 16.
  What made makes of two words of constants, plainly: constants, and the numbers that the operations say. No program in sight. Conditions: none beyond the hypotheses.
  Of constants product, quotient and rest are constants, plainly, and the numbers that they are. No program in sight. Conditions: none beyond the hypotheses.
  Walks over bitword: Name, what each operation does, Cut, Apply. Conditions: words in range, a width from 1 to 16.
  Walks over bitword: product, quotient, rest, Apply of them. Conditions: words in range, a width from 1 to 16.
  Walks over small functions of the laws: words, value, pick. Conditions: slices that are read.
  Walks over Same and Begin of chapter 23's laws: two graphs that are the same, and such ones that are made. Conditions: none beyond the hypotheses.
  Walks over sim: of, nodes. Conditions: a graph in memory, as many words as inputs.
  Walks over sim: check, Words, Bits. Conditions: a graph in memory, references of any integers, words that can be read.
  Walk over sim: Bits. Conditions: a graph in memory, references of any integers, values that can be read.
  Reads of words of constants, and SumsConsts' own closure. Conditions: a graph in memory, words of 1 to 16 bits.
  Walk over SumsConsts: true, whatever comes in. Conditions: words below 2^32, a width that is a byte.
  What MuldivConsts asks: its own closure; constants, and what is made of them. Conditions: none beyond the hypotheses.
  The functions of muldiv as steps of a law's walk: the graph and the words that are held. Conditions: none beyond the hypotheses.
  Two words of bits out of two numbers, plainly. No program in sight. Conditions: none.
  Counting the bits of a word, plainly: the lowest bit that is 1 goes with each step. No program in sight. Conditions: none beyond the hypotheses.
  Walks over sim: inputs, one. Conditions: at most 16 inputs, a block of a table of them.
  Walks over sim: tabled, Table. Conditions: a graph in memory, any reference.
  Walk over sim: Count. Conditions: a graph in memory, any reference.
  Walk over sim: first. Conditions: a graph of at most 16 inputs in memory, what tells a word.
  The laws' graphs, plainly: what small numbers make. No program in sight.
  The laws' graphs, plainly: built step by step. No program in sight. Conditions: none beyond the hypotheses.
  The words of the nodes, plainly, and their bits. No program in sight. Conditions: none beyond the hypotheses.
  Reads of words for values of the inputs; the values of the inputs of chapter 23's law; slices.Clone of numbers. Conditions: a graph in memory, words of 1 to 16 bits.
  Walk over the chapter's examples (awake of muldiv): true. Conditions: none.
  Walk over MuldivConsts: true, whatever comes in. Conditions: words below 2^32, a width that is a byte.
-/
import Derived.Test.YtkedpifopclipaaGreatQC
import Derived.Deep.WholeRow
import Derived.Laws.Bits64b
namespace Go.Proofs.YtkedpifopclipaaGreat
open Go.RowKit Go.Mem Go.Aig
attribute [local go_sem] Oper.semAt_some
/-- what the loop keeps: the quotient so far, what is left -/
def QI (bq be : Nat) (d : List Nat) (G : Gra) (bits : List Nat) (n : Nat) (k : Nat) (T : List Nat) (W : World) : Prop :=
  ∃ qv ev, T = bq :: be :: (qv.ownBlock.toList ++ ev.ownBlock.toList) ∧ blk W bq [qv] ∧ blk W be [ev] ∧ row W 53 1 qv k (refsCells (divF d (G, 0) (bits.take k)).2.1) ∧ (0 < k → row W 53 1 ev n (refsCells ((divF d (G, 0) (bits.take k)).2.2.take n))) ∧ (∀ q, qv.ownBlock = some q → q ≠ bq ∧ q ≠ be ∧ ev.ownBlock ≠ some q) ∧ (∀ q, ev.ownBlock = some q → q ≠ bq ∧ q ≠ be)
theorem QI.ok (bq be : Nat) (d : List Nat) (G : Gra) (bits : List Nat) (n : Nat) : IOk (QI bq be d G bits n) := ⟨by
  rintro k T A A' L ⟨qv, ev, rfl, h1, h2, h3, h4, h5, h6⟩ hc hL
  have hm : ∀ q ∈ bq :: be :: (qv.ownBlock.toList ++ ev.ownBlock.toList), q ∉ L := fun q hq hm => hL q hm hq
  exact ⟨qv, ev, rfl, h1.ch hc (hm _ (by simp)), h2.ch hc (hm _ (by simp)), h3.ch hc (fun q hq => hm _ (by simp [hq])), fun h0 => (h4 h0).ch hc (fun q hq => hm _ (by simp [hq])), h5, h6⟩⟩
theorem JX.books {w : World} {F T0 : List Nat} {bq be : Nat} {d : List Nat} {G : Gra} {bits : List Nat} {n : Nat} {q : YX} {W A W' : World} (hk : KX w F T0 (QI bq be d G bits n) d G bits n q W) (hj : JX w (QI bq be d G bits n) q A) (hc : Ch [w.heap.size, w.heap.size + 1] A W') : JX w (QI bq be d G bits n) q W' := by
  obtain ⟨_, _, _, _, _, k6, k7, _⟩ := hk
  obtain ⟨T', j1, j2, j3⟩ := hj
  have hs := hc.size
  refine ⟨T', (QI.ok bq be d G bits n).same _ _ _ _ _ j1 hc (fun z hz hm => ?_), j2.trans hc (fun z hz => .inl (by simp at hz; rcases hz with e | e <;> simp [e])), fun z hz => ⟨(j3 z hz).1, by have := (j3 z hz).2; omega⟩⟩
  have hz2 : z = w.heap.size ∨ z = w.heap.size + 1 := by simpa using hz
  rcases (j3 z hm).1 with e | e
  · have := k6 z e; omega
  · omega
theorem fnvmdBoth1 : Fnv 29 := fnv_of Tryz.func29 (by simp [Tryz.f29]) (by simp [Tryz.f29])
/-- what the closure of Both does if it is not stopped -/
def BothD (g n : Nat) (F : List Nat) (R : Mk × List Nat × List Nat) (bq be : Nat) (w w' : World) : Prop :=
  R.1.2 = 0 ∧ ∃ F' qv ev, GIn w' g R.1.1 F' ∧ Ch ([bq, be] ++ F) w w' ∧ (∀ q ∈ F', q ∈ F ∨ w.heap.size ≤ q) ∧ F'[2]? = F[2]? ∧ blk w' bq [qv] ∧ blk w' be [ev] ∧ row w' 53 1 qv n (refsCells R.2.1) ∧ row w' 53 1 ev n (refsCells (R.2.2.take n)) ∧ (∀ q, qv.ownBlock = some q → w.heap.size ≤ q ∧ q ∉ F' ∧ ev.ownBlock ≠ some q) ∧ (∀ q, ev.ownBlock = some q → w.heap.size ≤ q ∧ q ∉ F')
section
variable {w : World} {g : Nat} {G : Gra} {F : List Nat}
set_option maxRecDepth 100000 in
set_option maxHeartbeats 4000000 in
theorem mdBoth1_is (h : GIn w g G F) {x y : List Nat} {xa ya : Option Addr} {xc yc : Nat} (n : Nat) (hxl : x.length = n) (hyl : y.length = n) (h1 : 1 ≤ n) (h16 : n ≤ 16)
    (hx : WVin w F ⟨xa, natInts x, xc⟩) (hy : WVin w F ⟨ya, natInts y, yc⟩) (hxr : ∀ r ∈ x, r < 2 * G.nodes.length) (hyr : ∀ r ∈ y, r < 2 * G.nodes.length)
    {bg bx bY bq be : Nat} (hg : blk w bg [.pointer (some ⟨g, 0, none⟩)]) (hbx : blk w bx [.slice xa n xc]) (hby : blk w bY [.slice ya n yc]) (hbq : blk w bq [.slice none 0 0]) (hbe : blk w be [.slice none 0 0]) (hne : bq ≠ be) (hF : bq ∉ F ∧ be ∉ F) (hap : ∀ q ∈ [bq, be], q ≠ bx ∧ q ∉ ablk xa ∧ q ∉ ablk ya) (hxF : bx ∉ F) :
    Calls Tryz.prog 29 #[.pointer (some ⟨bg, 0, none⟩), .pointer (some ⟨bx, 0, none⟩), .pointer (some ⟨bY, 0, none⟩), .pointer (some ⟨bq, 0, none⟩), .pointer (some ⟨be, 0, none⟩)] w (Stops w g G [bq, be] F (divF (y ++ [0]) (G, 0) x.reverse).1.2 (BothD g n F (divF (y ++ [0]) (G, 0) x.reverse) bq be)) := by
  have c0 := hg.cell (i := 0) rfl
  have c1 := hbx.cell (i := 0) rfl
  have c2 := hby.cell (i := 0) rfl
  obtain ⟨d, hd⟩ : ∃ d, y ++ [0] = d := ⟨_, rfl⟩
  rw [hd]
  have hst := mdsteps_is w g xa ya n xc n yc
  have HST := Lib.hid hst; clear hst
  refine (callsIn_wide (n := 4)).1 ?_
  refine callsIn_of_wp_marks Tryz.func29 rfl trivial ?_ rfl
  simp only [Tryz.ntmps29, List.size_toArray, List.length_cons, List.length_nil, Nat.reduceAdd, Nat.reduceSub, Array.replicate_succ, Array.replicate_zero, List.push_toArray, List.append_toArray, List.nil_append, List.cons_append]
  refine wpIn_wide.2 ?_
  go_wp2_with fail
  refine HST.out.mono ?_
  rintro e w1 ⟨rfl, hw1⟩
  have hc1 : Ch [] w w1 := by rw [hw1]; exact (((Ch.refl _ _).alloc _).alloc _).alloc _
  have hz1 : w1.heap.size = w.heap.size + 3 := by rw [hw1]; simp
  have hb0 : blk w1 w.heap.size [.pointer (some ⟨g, 0, none⟩)] := by rw [hw1]; exact ((blk.new w _ _).alloc _).alloc _
  have hb1 : blk w1 (w.heap.size + 1) [.slice xa n xc] := by rw [hw1]; exact (blk.new' _ _ (by simp)).alloc _
  have hb2 : blk w1 (w.heap.size + 1 + 1) [.slice ya n yc] := by rw [hw1]; exact blk.new' _ _ (by simp)
  clear hw1
  have hFl := h.lt
  have hqlt := hbq.lt
  have helt := hbe.lt
  have hG1 := h.same hc1 (by simp)
  have hins : ∀ {a : Option Addr} {l : List Nat} {c : Nat}, WVin w F ⟨a, natInts l, c⟩ → (∀ q ∈ [bq, be], q ∉ ablk a) → WVin w1 ([bq, be] ++ F) ⟨a, natInts l, c⟩ := fun {a l c} hv ha => ⟨hv.ok.ch hc1 (by simp), fun k hk => by
    obtain ⟨k1, k2⟩ := hv.apart k hk
    refine ⟨fun hm => ?_, by omega⟩
    rcases List.mem_append.1 hm with hm | hm
    · exact ha k hm hk
    · exact k1 hm⟩
  have hi0 : QI bq be (y ++ [0]) G x.reverse n 0 [bq, be] w1 := ⟨.slice none 0 0, .slice none 0 0, by simp [Value.ownBlock], hbq.ch hc1 (by simp), hbe.ch hc1 (by simp), ⟨rfl, .inl ⟨rfl, rfl⟩⟩, by omega, by simp [Value.ownBlock], by simp [Value.ownBlock]⟩
  have hseq := fun (N : Nat) => mdsteps1_seq (T0 := [bq, be]) hG1 n hxl hyl h1 h16 (hins hx (fun q hq => (hap q hq).2.1)) (hins hy (fun q hq => (hap q hq).2.2)) hxr hyr hb0 hb1 hb2 (by
    refine ⟨fun hm => ?_, fun hm => ?_, fun hm => ?_⟩ <;> rcases List.mem_append.1 hm with hm | hm
    · simp at hm; omega
    · have := hFl _ hm; omega
    · simp at hm; omega
    · have := hFl _ hm; omega
    · simp at hm; omega
    · have := hFl _ hm; omega) (QI.ok bq be (y ++ [0]) G x.reverse n) hi0 (fun q hq => by
    simp only [List.mem_cons, List.not_mem_nil, or_false] at hq
    rcases hq with rfl | rfl
    · exact ⟨by omega, hF.1⟩
    · exact ⟨by omega, hF.2⟩) N
  simp only [hd] at hseq hi0
  have HSEQ := Lib.hid hseq; clear hseq
  have hbx1 := hbx.ch hc1 (by simp)
  have hxb : bx ∉ [bq, be] ++ F := fun hm => by
    rcases List.mem_append.1 hm with hm | hm
    · exact (hap bx hm).1 rfl
    · exact hxF hm
  clear hins hb0 hb1 hb2 c0 c1 c2 HST
  go_wp2_with fail
  refine (wpIn_wide (n := 4)).1 ?_
  refine wpIn_rangeFunc_R (n := 4) w1.heap.size rfl rfl (by omega) rfl trivial (fun args w => fnvmdsteps1 args w) (encs := sEnc n) (fun _ => rfl)
    (fun W' => Ch [w1.heap.size, w1.heap.size + 1] w1 W')
    (KX w1 F [bq, be] (QI bq be d G x.reverse n) d G x.reverse n)
    (fun q W' => ∃ A, JX w1 (QI bq be d G x.reverse n) q A ∧ Ch [w1.heap.size, w1.heap.size + 1] A W')
    (fun W' => ∃ A, DX w1 g F [bq, be] (QI bq be d G x.reverse n) (divF d (G, 0) x.reverse) n A ∧ Ch [w1.heap.size, w1.heap.size + 1] A W')
    (fun c W' => DPX w1 g F [bq, be] G (divF d (G, 0) x.reverse).1.2 c W')
    ?seq ?j0 ?k ?j ?d ?pan (Ch.refl _ _) ?a1 ?assign ?body ?done
  case assign =>
    intro q x W K hK
    simp only [sEnc]
    gi_wp2
    exact hK
  case j0 => exact fun A A' h hc => h.trans hc (fun q hq => .inl hq)
  case k => exact fun x A A' h hc => ⟨h.1.trans hc (fun q hq => .inl hq), h.2⟩
  case j => exact fun x A A' ⟨A0, h1, h2⟩ hc => ⟨A0, h1, h2.trans hc (fun q hq => .inl hq)⟩
  case d => exact fun A A' ⟨A0, h1, h2⟩ hc => ⟨A0, h1, h2.trans hc (fun q hq => .inl hq)⟩
  case seq =>
    intro l X hX hXB hY W hcW hXW
    refine (HSEQ.out 3 l X ⟨hX⟩ hXB (fun q W hk hx => YieldAt.any 3 ((hY q W hk hx).mono ?_)) W hcW hXW).mono ?_
    · rintro e W' ⟨rfl, ⟨A, hj, hca⟩, hx⟩
      exact ⟨rfl, hj.books hk hca, hx⟩
    · rintro e W' (⟨hv, hd, hx⟩ | ⟨c, rfl, hp, hx⟩)
      · exact .inl ⟨hv, ⟨W', hd, Ch.refl _ _⟩, hx⟩
      · exact .inr ⟨c, rfl, hp, hx⟩
  case pan =>
    rintro c W1 ⟨p0, rfl, G', F', p1, p2, p3, p4, p5⟩ hK hz
    have hcp : Ch [w1.heap.size] W1 (W1.putObj w1.heap.size (.deferred none)) := ch_put (by simp)
    refine ⟨by simp, .inl ⟨_, _, rfl, run_takeDeferred hK, ?_⟩⟩
    refine .inr ⟨p0, rfl, G', F', p1, p2.same hcp (fun q hq hm => by rcases p4 q hq with e | e <;> (simp at hm; omega)), ?_, fun q hq => (p4 q hq).elim (fun e => .inl e.1) (fun e => .inr (by omega)), p5⟩
    exact ((hc1.mono (by simp)).trans p3 (fun q hq => .inl hq)).trans hcp (fun q hq => .inr (by simp at hq; omega))
  case done =>
    rintro W1 ⟨A, ⟨p0, F', T', p1, p2, p3, p4, p5, p6⟩, hca⟩ hK hz
    obtain ⟨qv, ev, rfl, q1, q2, q3, q4, q5, q6⟩ := p5
    have htk : x.reverse.take n = x.reverse := List.take_of_length_le (by simp [hxl])
    rw [htk] at q3 q4
    have hcp : Ch [w1.heap.size] W1 (W1.putObj w1.heap.size (.deferred none)) := ch_put (by simp)
    have hca2 : Ch [w1.heap.size, w1.heap.size + 1] A (W1.putObj w1.heap.size (.deferred none)) := hca.trans hcp (fun q hq => .inl (by simp at hq; simp [hq]))
    have hnb : ∀ q ∈ bq :: be :: (qv.ownBlock.toList ++ ev.ownBlock.toList), q ∉ [w1.heap.size, w1.heap.size + 1] := fun q hq hm => by
      have hm2 : q = w1.heap.size ∨ q = w1.heap.size + 1 := by simpa using hm
      rcases (p6 q hq).1 with e | e <;> omega
    refine ⟨by simp, .inl ⟨_, _, rfl, run_takeDeferred hK, ?_⟩⟩
    refine ⟨_, results_none rfl _ _ _, .inl ⟨p0, rfl, p0, F', qv, ev, p1.same hca2 (fun q hq hm => ?_), ?_, fun q hq => (p3 q hq).elim (fun e => .inl e.1) (fun e => .inr (by omega)), p4, q1.ch hca2 (hnb _ (by simp)), q2.ch hca2 (hnb _ (by simp)), q3.ch hca2 (fun q hq => hnb _ (by simp [hq])), (q4 h1).ch hca2 (fun q hq => hnb _ (by simp [hq])), fun q hq => ?_, fun q hq => ?_⟩⟩
    · have hm2 : q = w1.heap.size ∨ q = w1.heap.size + 1 := by simpa using hm
      rcases p3 q hq with e | e <;> omega
    · exact ((hc1.mono (by simp)).trans p2 (fun q hq => .inl hq)).trans hca2 (fun q hq => .inr (by simp at hq; omega))
    · obtain ⟨t1, t2, _⟩ := p6 q (by simp [hq])
      refine ⟨?_, t2, (q5 q hq).2.2⟩
      rcases t1 with ⟨e, _⟩ | e
      · have := q5 q hq; simp at e; omega
      · omega
    · obtain ⟨t1, t2, _⟩ := p6 q (by simp [hq])
      refine ⟨?_, t2⟩
      rcases t1 with ⟨e, _⟩ | e
      · have := q6 q hq; simp at e; omega
      · omega
  case body =>
    rintro l2 q W ⟨k1, k2, k3, k4, k5, k6, k7, k8, k9, k10, k11⟩ hWl
    obtain ⟨qv, ev, hT, q1, q2, q3, q4, q5, q6⟩ := (QI.ok bq be d G x.reverse n).same _ _ _ _ _ k3 k1 (fun z hz hm => by have := k6 z hm; simp at hz; omega)
    have hrr := k4.ch k1 (fun z hz => by cases hz; simp; have := k5.2; omega)
    have hrc := row_cap' k4
    have cx := ((hbx1.ch k2 hxb).ch k1 (by have := hbx1.lt; simp; omega)).cell (i := 0) rfl
    obtain ⟨qa, qc, rfl⟩ := row.shape q3
    have hks : q.W.heap.size ≤ W.heap.size := k1.size
    have hcA : Ch [] W (W.alloc (.cells #[.int .i64 q.f] 53)) := (Ch.refl _ _).alloc _
    have hrA := q3.ch hcA (by simp)
    have hbA : blk (W.alloc (.cells #[.int .i64 q.f] 53)) W.heap.size [.int .i64 q.f] := blk.new' _ _ rfl
    have cq := (q1.ch hcA (by simp)).cell (i := 0) rfl
    have cq0 := q1.cell (i := 0) rfl
    have hkn : q.k ≤ 1000000 := by omega
    obtain ⟨k, T, Wq, f, rb, rc, r⟩ := q
    simp only at k1 k2 k3 k4 k5 k6 k7 k8 k9 k10 k11 hT q3 q4 hrr hrc hks hrA cq hbA hcA hkn
    have HRA := Lib.hid hrA; clear hrA
    have HBA := Lib.hid hbA; clear hbA
    have HCA := Lib.hid hcA; clear hcA
    have K1 := Lib.hid k1; clear k1
    have K2 := Lib.hid k2; clear k2
    have K3 := Lib.hid k3; clear k3
    have K5 := Lib.hid k5; clear k5
    have K6 := Lib.hid k6; clear k6
    have K9 := Lib.hid k9; clear k9
    have HRR := Lib.hid hrr; clear hrr k4
    have Q1 := Lib.hid q1; clear q1
    have Q2 := Lib.hid q2; clear q2
    have Q3 := Lib.hid q3; clear q3 q4
    have Q5 := Lib.hid q5; clear q5
    have Q6 := Lib.hid q6; clear q6
    have HT := Lib.hid hT; clear hT
    refine wpIn_block ?_
    refine wpIn_seq ?_
    refine Ord.plainR (by kernel_rfl) ?_
    go_wp2_with (at_builtin; go_loud (refine wpList_append_row slRefs rfl _ _ rfl (v := .slice qa k qc) (n := k) (xs := refsCells (divF d (G, 0) (x.reverse.take k)).2.1) rfl HRA.out (ad := ⟨W.heap.size, 0, none⟩) (m := 1) (c := 1) (news := [.int .i64 f]) rfl rfl (news_blk HBA.out) (by simp [Value.oneCell']) (by omega) (by omega) ?_; intro v' w5 hown4 hC4 hf4; obtain ⟨gb, gc, rfl⟩ := row.parts hown4 (by omega); have HO4 := Lib.hid hown4; clear hown4; have HCC4 := Lib.hid hC4; clear hC4; have HF4 := Lib.hid hf4; clear hf4; have c55 := ((Q1.out.ch HCA.out (by simp)).ch HCC4.out (fun hm => (Q5.out bq (by simpa using hm)).1 rfl)).cell (i := 0) rfl; have f55 := ((Q1.out.ch HCA.out (by simp)).ch HCC4.out (fun hm => (Q5.out bq (by simpa using hm)).1 rfl)).frozen (i := 0)))
    refine ⟨rfl, ?_⟩
    obtain ⟨W6, hW6⟩ : ∃ W6, W6 = w5.setCell ⟨bq, 0, none⟩ (.slice (some ⟨gb, 0, none⟩) (k + 1) gc) := ⟨_, rfl⟩
    rw [← hW6]
    change Code.wpIn _ _ _ _ _ _ _
    have hC5 : Ch (Value.slice qa k qc).ownBlock.toList W w5 := (HCA.out.mono (by simp)).trans HCC4.out (fun z hz => .inl hz)
    have hC56 : Ch [bq] w5 W6 := by rw [hW6]; exact (Ch.refl _ _).setCell (.inl (by simp)) _
    have hC6 : Ch (bq :: (Value.slice qa k qc).ownBlock.toList) W W6 := (hC5.mono (fun z hz => .inl (by simp [hz]))).trans hC56 (fun z hz => .inl (by simp at hz; simp [hz]))
    have hLT : ∀ z ∈ bq :: (Value.slice qa k qc).ownBlock.toList, z ∈ T := fun z hz => by
      rw [HT.out]
      rcases List.mem_cons.1 hz with rfl | hz
      · simp
      · simp [hz]
    have hbxT : bx ∉ T := fun hm => by
      rcases (K6.out bx hm).2.2.2 with e | e
      · exact hxb (List.mem_append_left _ e)
      · have := hbx1.lt; omega
    have hrbT : rb ∉ T := K5.out.1
    have cx6 := (((hbx1.ch K2.out hxb).ch K1.out (by have := hbx1.lt; simp; omega)).ch hC6 (fun hm => hbxT (hLT _ hm))).cell (i := 0) rfl
    have hrr6 := HRR.out.ch hC6 (fun z hz hm => by cases hz; exact hrbT (hLT _ hm))
    have hbe6 := Q2.out.ch hC6 (fun hm => by
      rcases List.mem_cons.1 hm with e | e
      · exact hne e.symm
      · exact (Q5.out be (by simpa using e)).2.1 rfl)
    have hgbn : gb ∈ (Value.slice qa k qc).ownBlock.toList ∨ W.heap.size ≤ gb := by
      rcases HF4.out gb rfl with e | e
      · exact .inl (by simp [e])
      · exact .inr (by have := HCA.out.size; omega)
    have hgq : gb ≠ bq ∧ gb ≠ be := by
      rcases hgbn with e | e
      · have := Q5.out gb (by simpa using e); exact ⟨this.1, this.2.1⟩
      · have := Q1.out.lt; have := Q2.out.lt; omega
    have hq6 : row W6 53 1 (.slice (some ⟨gb, 0, none⟩) (k + 1) gc) (k + 1) (refsCells (divF d (G, 0) (x.reverse.take (k + 1))).2.1) := by
      rw [K9.out]
      have := HO4.out.ch hC56 (fun z hz => by cases hz; simpa using hgq.1)
      simpa [refsCells] using this
    have hbq6 : blk W6 bq [.slice (some ⟨gb, 0, none⟩) (k + 1) gc] := by
      rw [hW6]
      exact ((Q1.out.ch HCA.out (by simp)).ch HCC4.out (fun hm => (Q5.out bq (by simpa using hm)).1 rfl)).set _
    have hslr : Sl W6 (some ⟨rb, 0, none⟩) (natInts r) := Sl.of_row' hrr6 k10 (by omega)
    have hwv : WVok W6 ⟨some ⟨rb, 0, none⟩, natInts (r.take n), rc⟩ := by
      refine ⟨⟨fun i z hz => hslr.cells i z ?_, by simp; omega⟩, fun z hz => ?_, by simp [natInts]; omega⟩
      · simp only [natInts, List.getElem?_map, List.getElem?_take] at hz ⊢
        split at hz
        · exact hz
        · cases hz
      · obtain ⟨u, hu, rfl⟩ := List.mem_map.1 hz
        have := k11 u (List.mem_of_mem_take hu)
        omega
    have hcl := Clref_w hwv n (by simp [natInts]; omega)
    simp only at hcl
    have HCL := Lib.hid hcl; clear hcl
    have HC6 := Lib.hid hC6; clear hC6
    have HQ6 := Lib.hid hq6; clear hq6
    have HBQ6 := Lib.hid hbq6; clear hbq6
    have HBE6 := Lib.hid hbe6; clear hbe6
    have HLT := Lib.hid hLT; clear hLT
    clear hC5 hC56 hW6 c55 f55 hslr hwv hrr6 cq cq0 cx HO4 HCC4 HF4 HBA HRA HCA
    gi_wp2
    refine ⟨trivial, (CallsIn.inRound l2 ((callsIn_wide (n := _)).2 HCL.out)).mono ?_⟩
    rintro e w7 ⟨v, rfl, hv1, hv2, hv3⟩
    obtain ⟨va, vc, rfl⟩ := row.shape hv1
    have hvl : (intCells (natInts (r.take n))).length = n := by simp [intCells, natInts]; omega
    have hve : intCells (natInts (r.take n)) = refsCells (r.take n) := by simp [intCells, natInts, refsCells, Function.comp_def]
    have HV1 := Lib.hid hv1; clear hv1
    have HV2 := Lib.hid hv2; clear hv2
    have HV3 := Lib.hid hv3; clear hv3
    have c7 := (HBE6.out.ch HV3.out (by simp)).cell (i := 0) rfl
    have f7 := (HBE6.out.ch HV3.out (by simp)).frozen (i := 0)
    gi_wp2
    rw [← hz1]
    have hvl2 : (refsCells (r.take n)).length = n := by rw [← hve]; exact hvl
    rw [hvl2]
    have hve1 : row w7 53 1 (.slice va n vc) n (refsCells (r.take n)) := by
      have := HV1.out
      rw [hve, hvl2] at this
      exact this
    have hv2' : ∀ z, (Value.slice va n vc).ownBlock = some z → W6.heap.size ≤ z := fun z hz => by
      have := HV2.out z (by cases va <;> simp_all [Value.ownBlock])
      exact this
    obtain ⟨W8, hW8⟩ : ∃ W8, W8 = w7.setCell ⟨be, 0, none⟩ (.slice va n vc) := ⟨_, rfl⟩
    rw [← hW8]
    have hC78 : Ch [be] w7 W8 := by rw [hW8]; exact (Ch.refl _ _).setCell (.inl (by simp)) _
    have hC68 : Ch [be] W6 W8 := (HV3.out.mono (by simp)).trans hC78 (fun z hz => .inl hz)
    have hgb6 : gb < W6.heap.size := (HQ6.out.lt gb rfl).2
    have hbe6 := HBE6.out.lt
    have hbq6 := HBQ6.out.lt
    have hs68 := hC68.size
    have hs6 := HC6.out.size
    have hbeT : be ∈ T := by rw [HT.out]; simp
    have hC8 : Ch (be :: bq :: (Value.slice qa k qc).ownBlock.toList) W W8 := (HC6.out.mono (fun z hz => .inl (List.mem_cons_of_mem _ hz))).trans hC68 (fun z hz => .inl (by simp at hz; simp [hz]))
    have hL8 : ∀ z ∈ be :: bq :: (Value.slice qa k qc).ownBlock.toList, z ∈ T := fun z hz => by
      rcases List.mem_cons.1 hz with rfl | hz
      · exact hbeT
      · exact HLT.out z hz
    have hrw8 := hve1.ch hC78 (fun z hz => by have := hv2' z hz; simp; omega)
    have hrw8l := fun z hz => (hrw8.lt z hz).2
    refine ⟨Books.of_ch hC8 hWl (fun z hz => by have := K6.out z (hL8 z hz); omega), trivial, W8, ⟨bq :: be :: ((Value.slice (some ⟨gb, 0, none⟩) (k + 1) gc).ownBlock.toList ++ (Value.slice va n vc).ownBlock.toList), ⟨.slice (some ⟨gb, 0, none⟩) (k + 1) gc, .slice va n vc, rfl, ?_, ?_, ?_, fun _ => ?_, fun z hz => ?_, fun z hz => ?_⟩, ?_, fun z hz => ?_⟩, Ch.refl _ _⟩
    · exact HBQ6.out.ch hC68 (by simpa using hne)
    · rw [hW8]; exact (HBE6.out.ch HV3.out (by simp)).set _
    · exact HQ6.out.ch hC68 (fun z hz => by cases hz; simpa using hgq.2)
    · show row W8 53 1 (.slice va n vc) n (refsCells ((divF d (G, 0) (x.reverse.take (k + 1))).2.2.take n))
      rw [K9.out]
      exact hrw8
    · cases hz
      exact ⟨hgq.1, hgq.2, fun hm => by have := hv2' gb hm; omega⟩
    · have := hv2' z hz
      omega
    · exact (K1.out.mono (fun z hz => .inl (by simp at hz; rcases hz with e | e <;> simp [e]))).trans hC8 (fun z hz => .inl (by simp only [List.mem_cons]; exact .inr (.inr (hL8 z hz))))
    · simp only [List.mem_cons, List.mem_append, Option.mem_toList] at hz
      rcases hz with rfl | rfl | hz | hz
      · exact ⟨.inl (HLT.out _ (by simp)), by omega⟩
      · exact ⟨.inl hbeT, by omega⟩
      · cases hz
        refine ⟨?_, by show gb < _; omega⟩
        rcases hgbn with e | e
        · exact .inl (HLT.out gb (List.mem_cons_of_mem _ e))
        · exact .inr (by show Wq.heap.size ≤ gb; omega)
      · exact ⟨.inr (by have := hv2' z hz; show Wq.heap.size ≤ z; omega), hrw8l z hz⟩
end
end Go.Proofs.YtkedpifopclipaaGreat
namespace Go.Aig
/-- what is left of a quotient and a rest -/
def bres (G : Gra) (n : Nat) (R : Mk × List Nat × List Nat) : Gra × (List Nat × List Nat) × Nat := if R.1.2 ≠ 0 then (G, ([], []), R.1.2) else (R.1.1, (R.2.1.reverse, R.2.2.take n), 0)
def bothG (G : Gra) (x y : List Int) : Gra × (List Nat × List Nat) × Nat := if chk24 G [x, y] ≠ 0 then (G, ([], []), chk24 G [x, y]) else bres G x.length (divF (nats y ++ [0]) (G, 0) (nats x).reverse)
end Go.Aig
namespace Go.Proofs.YtkedpifopclipaaGreat
open Go.RowKit Go.Mem Go.Aig
/-- what a function leaves of a graph, with two words of its own -/
def GVV (w : World) (g : Nat) (G : Gra) (F : List Nat) (v1 : Value) (l1 : List Nat) (v2 : Value) (l2 : List Nat) (w' : World) : Prop :=
  ∃ F', GIn w' g G F' ∧ Ch F w w' ∧ (∀ k ∈ F', k ∈ F ∨ w.heap.size ≤ k) ∧ F'[2]? = F[2]? ∧ row w' 53 1 v1 l1.length (refsCells l1) ∧ row w' 53 1 v2 l2.length (refsCells l2) ∧ (∀ k, v1.ownBlock = some k → w.heap.size ≤ k ∧ k ∉ F' ∧ v2.ownBlock ≠ some k) ∧ (∀ k, v2.ownBlock = some k → w.heap.size ≤ k ∧ k ∉ F')
theorem GVV.none {w w' : World} {g : Nat} {G : Gra} {F F' : List Nat} (h1 : GIn w' g G F') (h2 : Ch F w w') (h3 : ∀ k ∈ F', k ∈ F ∨ w.heap.size ≤ k) (h4 : F'[2]? = F[2]?) : GVV w g G F (.slice none 0 0) [] (.slice none 0 0) [] w' :=
  ⟨F', h1, h2, h3, h4, ⟨rfl, .inl ⟨rfl, rfl⟩⟩, ⟨rfl, .inl ⟨rfl, rfl⟩⟩, by simp [Value.ownBlock], by simp [Value.ownBlock]⟩
section
variable {w : World} {g : Nat} {G : Gra} {F : List Nat}
set_option maxRecDepth 100000 in
set_option maxHeartbeats 4000000 in
theorem mdBoth_is (h : GIn w g G F) {x y : WV} (hx : WVin w F x) (hy : WVin w F y) :
    Calls Tryz.prog 8 #[.pointer (some ⟨g, 0, none⟩), x.val, y.val] w fun e w' => ∃ v1 v2, e = .returned (.tuple #[v1, v2, .int .i64 (bothG G x.l y.l).2.2]) ∧ GVV w g (bothG G x.l y.l).1 F v1 (bothG G x.l y.l).2.1.1 v2 (bothG G x.l y.l).2.1.2 w' := by
  have hFl := h.lt
  obtain ⟨xa, xl, xc⟩ := x
  obtain ⟨ya, yl, yc⟩ := y
  simp only [WV.val] at *
  unfold bothG
  have hch := chk24_ok (G := G) (x := xl) (y := yl)
  have hcs := chk24_small G [xl, yl]
  have hmf : ∀ (fn : Fn) (first cap : Array Value) (w : World), (Instr.makeFunc fn first cap).run Tryz.prog w = .ok (.func fn first cap) w := fun _ _ _ _ => rfl
  generalize hc : chk24 G [xl, yl] = cc at *
  have hC : ∀ W, Ch [] w W → ∀ b, blk W b [.slice xa xl.length xc, .slice ya yl.length yc] → Calls Tryz.prog 25 #[.pointer (some ⟨g, 0, none⟩), .slice (some ⟨b, 0, none⟩) 2 2] W fun e w' => e = .returned (.int .i64 cc) ∧ Ch [] W w' := fun W hW b hb => by
    have := mdcheck_is (h.same hW (by simp)) (b := b) (ws := [⟨xa, xl, xc⟩, ⟨ya, yl, yc⟩]) 2 2 rfl (by omega) (fun i z hz => by
      match i, hz with
      | 0, hz => cases hz; exact hb.cell rfl
      | 1, hz => cases hz; exact hb.cell rfl) (fun z hz => by
      simp only [List.mem_cons, List.not_mem_nil, or_false] at hz
      rcases hz with rfl | rfl
      · exact (hx.ch hW).ok
      · exact (hy.ch hW).ok)
    rw [show ([⟨xa, xl, xc⟩, ⟨ya, yl, yc⟩] : List WV).map WV.l = [xl, yl] from rfl, hc] at this
    exact this
  have HC := Lib.hid hC; clear hC
  have HX := Lib.hid hx; clear hx
  have HY := Lib.hid hy; clear hy
  have H := Lib.hid h; clear h
  have HCH := Lib.hid hch; clear hch
  clear hc
  generalize hWW : (if cc ≠ 0 then (G, ([], []), cc) else bres G xl.length (divF (nats yl ++ [0]) (G, 0) (nats xl).reverse) : Gra × (List Nat × List Nat) × Nat) = WW
  have HWW := Lib.hid hWW; clear hWW
  go_enter Tryz.func8, Tryz.ntmps8
  go_wp2_with fail
  refine calls_named fun W0 hW0 => ?_
  have hc0 : Ch [] w W0 := by rw [hW0]; exact ((((Ch.refl _ _).alloc _).alloc _).alloc _).alloc _
  have hbg : blk W0 w.heap.size [.pointer (some ⟨g, 0, none⟩)] := by rw [hW0]; exact (((blk.new w _ _).alloc _).alloc _).alloc _
  have hbx : blk W0 (w.heap.size + 1) [.slice xa xl.length xc] := by rw [hW0]; exact ((blk.new' _ _ (by simp)).alloc _).alloc _
  have hby : blk W0 (w.heap.size + 1 + 1) [.slice ya yl.length yc] := by rw [hW0]; exact (blk.new' _ _ (by simp)).alloc _
  have hbl : blk W0 (w.heap.size + 1 + 1 + 1) [.slice xa xl.length xc, .slice ya yl.length yc] := by rw [hW0]; exact blk.new' _ _ (by simp)
  clear hW0
  refine (HC.out W0 hc0 _ hbl).mono ?_
  rintro e w1 ⟨rfl, hc1⟩
  have hc01 := hc0.trans hc1 (by simp)
  have hbg := hbg.ch hc1 (by simp)
  have hbx := hbx.ch hc1 (by simp)
  have hby := hby.ch hc1 (by simp)
  clear hbl hc0 hc1
  by_cases hcc : cc = 0
  · subst hcc
    obtain ⟨k1, k2, k3, k4, k5, k6, k7⟩ := HCH.out rfl
    have d0 := ((hbg.alloc (.cells #[.slice none 0 0] 25)).alloc (.cells #[.slice none 0 0] 25)).cell (i := 0) rfl
    have hc2 : Ch [] w ((w1.alloc (.cells #[.slice none 0 0] 25)).alloc (.cells #[.slice none 0 0] 25)) := (hc01.alloc _).alloc _
    have hbq : blk ((w1.alloc (.cells #[.slice none 0 0] 25)).alloc (.cells #[.slice none 0 0] 25)) w1.heap.size [.slice none 0 0] := (blk.new _ _ _).alloc _
    have hbe : blk ((w1.alloc (.cells #[.slice none 0 0] 25)).alloc (.cells #[.slice none 0 0] 25)) (w1.heap.size + 1) [.slice none 0 0] := blk.new' _ _ (by simp)
    have hz1 := hc01.size
    have hxap : ∀ q, w.heap.size ≤ q → q ∉ ablk xa ∧ q ∉ ablk ya := fun q hq => ⟨fun hm => by have := (HX.out.apart q hm).2; omega, fun hm => by have := (HY.out.apart q hm).2; omega⟩
    have hbxl := hbx.lt
    have hB := mdbuild_is (H.out.same hc2 (by simp)) 29 #[.pointer (some ⟨w.heap.size, 0, none⟩), .pointer (some ⟨w.heap.size + 1, 0, none⟩), .pointer (some ⟨w.heap.size + 1 + 1, 0, none⟩), .pointer (some ⟨w1.heap.size, 0, none⟩), .pointer (some ⟨w1.heap.size + 1, 0, none⟩)] fnvmdBoth1 [w1.heap.size, w1.heap.size + 1] (fun k hk => by simp at hk ⊢; omega) (divF (nats yl ++ [0]) (G, 0) (nats xl).reverse).1.2 (BothD g xl.length F (divF (nats yl ++ [0]) (G, 0) (nats xl).reverse) w1.heap.size (w1.heap.size + 1)) (fun a b hd => by
      obtain ⟨_, _, _, _, _, q, _⟩ := hd
      exact q) (fun W hW hG => by
      have := mdBoth1_is hG (x := nats xl) (y := nats yl) (xa := xa) (ya := ya) (xc := xc) (yc := yc) xl.length (by simp) (by simp [k1]) k2 k3
        (by rw [k4]; exact HX.out.ch (hc2.trans hW (by simp))) (by rw [k5]; exact HY.out.ch (hc2.trans hW (by simp))) k6 k7 (((hbg.alloc _).alloc _).ch hW (by simp)) (((hbx.alloc _).alloc _).ch hW (by simp)) (by rw [← k1]; exact ((hby.alloc _).alloc _).ch hW (by simp)) (hbq.ch hW (by simp)) (hbe.ch hW (by simp)) (by omega) ⟨fun hm => by have := hFl _ hm; omega, fun hm => by have := hFl _ hm; omega⟩ (fun q hq => by
          simp only [List.mem_cons, List.not_mem_nil, or_false] at hq
          exact ⟨by omega, hxap q (by omega)⟩) (fun hm => by have := hFl _ hm; omega)
      exact this)
    have HB := Lib.hid hB; clear hB
    have hww := HWW.out
    rw [if_neg (by simp)] at hww
    clear HWW
    generalize divF (nats yl ++ [0]) (G, 0) (nats xl).reverse = R at *
    unfold bres at hww
    have HC01 := Lib.hid hc01; clear hc01
    have HBQ := Lib.hid hbq; clear hbq
    have HBE := Lib.hid hbe; clear hbe
    have HC2 := Lib.hid hc2; clear hc2
    clear hbg hbx hby HX HY HCH HC k1 k4 k5 k6 k7 hxap
    go_wp2_with fail
    refine HB.out.mono ?_
    rintro e w2 ⟨rfl, ⟨h0, bk, W1, W2, hb1, hb2, hW1, ⟨_, F', qv, ev, p1, p2, p3, p4, p5, p6, p7, p8, p9, p10⟩, hc2⟩ | ⟨h0, F', q1, q2, q3, q4⟩⟩
    · rw [if_neg (by simpa using h0)] at hww
      subst hww
      have hzc := HC2.out.size
      have hz2 : ((w1.alloc (.cells #[.slice none 0 0] 25)).alloc (.cells #[.slice none 0 0] 25)).heap.size = w1.heap.size + 2 := by simp
      rw [hz2] at hb1
      have hzW := hW1.size
      rw [hz2] at hzW
      have hnk : ∀ q, q < w1.heap.size + 2 → q ∉ [bk] := fun q hq hm => by simp at hm; omega
      have r1 := p5.ch hc2 (hnk _ (by omega))
      have r2 := p6.ch hc2 (hnk _ (by omega))
      have r3 := p7.ch hc2 (fun q hq hm => by have := (p9 q hq).1; simp at hm; omega)
      have r4 := p8.ch hc2 (fun q hq hm => by have := (p10 q hq).1; simp at hm; omega)
      have hFk : ∀ q ∈ F', q ∉ [bk] := fun q hq hm => by
        simp at hm
        rcases p3 q hq with e | e
        · have := hFl q e; omega
        · omega
      have hG2 := p1.same hc2 hFk
      obtain ⟨qb, qc, rfl⟩ := row.parts r3 (by omega)
      obtain ⟨ea, ec, rfl⟩ := row.shape r4
      have hql : R.2.1.length = xl.length := by have := r3.1; simpa [refsCells] using this
      have hel : (R.2.2.take xl.length).length = xl.length := by have := r4.1; simpa [refsCells] using this
      have hrev := Revref_some r3 (by omega)
      have hqb := p9 qb rfl
      have d1 := r1.cell (i := 0) rfl
      have hqbn : qb ≠ w1.heap.size ∧ qb ≠ w1.heap.size + 1 := by have := hqb.1; constructor <;> omega
      have hc12 : Ch F w w2 := by
        have h1 := ((HC2.out.trans hW1 (by simp)).mono (F' := [w1.heap.size, w1.heap.size + 1] ++ F) (by simp)).trans p2 (fun q hq => .inl hq)
        have h2 := h1.trans hc2 (fun q hq => .inr (by simp at hq; omega))
        refine h2.mono (fun q hq => ?_)
        rcases List.mem_append.1 hq with e | e
        · right; simp at e; omega
        · exact .inl e
      have HREV := Lib.hid hrev; clear hrev
      have R1 := Lib.hid r1; clear r1
      have R2 := Lib.hid r2; clear r2
      have R4 := Lib.hid r4; clear r4 r3
      have HG2 := Lib.hid hG2; clear hG2
      have HC12 := Lib.hid hc12; clear hc12
      have P9 := Lib.hid p9; clear p9
      have P10 := Lib.hid p10; clear p10
      have P3 := Lib.hid p3; clear p3
      have P4 := Lib.hid p4; clear p4
      clear p1 p2 p5 p6 p7 p8 hc2 hFk
      rw [h0]
      go_wp2_with fail
      refine HREV.out.mono ?_
      rintro e w3 ⟨⟨v, rfl⟩, hr3, hc3⟩
      have e1 := (R1.out.ch hc3 (by simpa using fun e => hqbn.1 e.symm)).cell (i := 0) rfl
      have e2 := (R2.out.ch hc3 (by simpa using fun e => hqbn.2 e.symm)).cell (i := 0) rfl
      have hfin : GVV w g R.1.1 F (.slice (some ⟨qb, 0, none⟩) xl.length qc) R.2.1.reverse (.slice ea xl.length ec) (R.2.2.take xl.length) w3.drew := by
        have hcd : Ch [qb] w2 w3.drew := hc3.trans (Ch.refl [] _).drew (by simp)
        refine ⟨F', HG2.out.same hcd (fun q hq hm => hqb.2.1 (by simp at hm; rw [← hm]; exact hq)), HC12.out.trans hcd (fun q hq => .inr (by simp at hq; have := hqb.1; omega)), fun q hq => (P3.out q hq).imp id (fun e => by omega), P4.out, ?_, ?_, fun q hq => ?_, fun q hq => ?_⟩
        · rw [List.length_reverse, hql]
          exact hr3.ch (Ch.refl [] _).drew (by simp)
        · rw [hel]
          exact R4.out.ch hcd (fun q hq hm => by simp at hm; exact hqb.2.2 (by rw [← hm]; exact hq))
        · have := P9.out q hq
          exact ⟨by omega, this.2.1, this.2.2⟩
        · have := P10.out q hq
          exact ⟨by omega, this.2⟩
      have HFIN := Lib.hid hfin; clear hfin hr3 hc3
      go_wp2_with fail
      refine Ord.St.door (fun _ => True) [.rd, .rd, .fl, .fl, .fl] [0, 0, 1, 7, 15] [0, 1, 2, 3, 4] mixed (by kernel_rfl) rfl ?_
      refine Ord.St.rd2 (T' := ?_) 0 [1, 2, 3, 4] _ _ rfl (by kernel_rfl) rfl rfl rfl rfl (fun K hk => ?_) ?_
      rotate_left
      · go_step; exact hk
      refine Ord.St.rd2 (T' := ?_) 1 [2, 3, 4] _ _ rfl (by kernel_rfl) rfl rfl rfl rfl (fun K hk => ?_) ?_
      rotate_left
      · go_step; exact hk
      refine Ord.St.fl2 (T' := ?_) 2 [3, 4] _ _ rfl (by kernel_rfl) rfl rfl rfl rfl (fun K w' hk => ?_) ?_
      rotate_left
      · go_step; exact hk
      refine Ord.St.fl2 (T' := ?_) 3 [4] _ _ rfl (by kernel_rfl) rfl rfl rfl rfl (fun K w' hk => ?_) ?_
      rotate_left
      · go_step; exact hk
      refine Ord.St.fl2 (T' := ?_) 4 [] _ _ rfl (by kernel_rfl) rfl rfl rfl rfl (fun K w' hk => ?_) ?_
      rotate_left
      · go_step; exact hk
      refine Ord.St.nil ?_
      go_wp2_with fail
      go_ret3
      exact ⟨_, _, rfl, HFIN.out⟩
    · have he : ((R.1.2 : Int) != 0) = true := by simp; omega
      rw [if_pos h0] at hww
      subst hww
      have hzc := HC2.out.size
      have hgv : GVV w g G F (.slice none 0 0) [] (.slice none 0 0) [] w2 := by
        refine GVV.none q1 ((HC2.out.mono (by simp)).trans q2 (fun k hk => ?_)) (fun k hk => (q3 k hk).imp id (fun e => by omega)) q4
        rcases List.mem_append.1 hk with hk | hk
        · right; simp at hk; omega
        · exact .inl hk
      have HGV := Lib.hid hgv
      clear hgv q1 q2 q3 q4
      go_wp2_with fail
      go_ret3
      exact ⟨_, _, rfl, HGV.out⟩
  · have hq : ((cc : Int) != 0) = true := by simp; omega
    have hgv : GVV w g G F (.slice none 0 0) [] (.slice none 0 0) [] w1 := GVV.none (H.out.same hc01 (by simp)) (hc01.mono (by simp)) (fun k hk => .inl hk) rfl
    have HGV := Lib.hid hgv; clear hgv hc01 hbg hbx hby HX HY HCH HC
    have hww := HWW.out
    rw [if_pos hcc] at hww
    subst hww
    have HQ := Lib.hid hcc; clear hcc
    go_wp2_with fail
    go_ret3
    exact ⟨_, _, rfl, HGV.out⟩
end
end Go.Proofs.YtkedpifopclipaaGreat
namespace Go.Aig
/-- the product of a word and a constant -/
def timesG (G : Gra) (x : List Int) (n : Nat) : Gra × List Nat × Nat := if chk24 G [x] ≠ 0 then (G, [], chk24 G [x]) else mulG G x (natInts (constL n x.length))
theorem chk24_one {G : Gra} {x : List Int} (h : chk24 G [x] = 0) : 1 ≤ x.length ∧ x.length ≤ 16 ∧ natInts (nats x) = x ∧ ∀ r ∈ nats x, r < 2 * G.nodes.length := by
  unfold chk24 at h
  split at h
  · cases h
  · rename_i h1
    split at h
    · cases h
    · rename_i h2
      simp only [List.any_cons, List.any_nil, Bool.or_false, List.headD_cons, Bool.not_eq_true] at h1 h2
      have hx := badIn_no h2
      unfold bad24 at h1
      simp only [Bool.or_eq_false_iff, decide_eq_false_iff_not] at h1
      exact ⟨by omega, by omega, hx.1, hx.2⟩
end Go.Aig
namespace Go.Proofs.YtkedpifopclipaaGreat
open Go.RowKit Go.Mem Go.Aig
section
variable {w : World} {g : Nat} {G : Gra} {F : List Nat}
set_option maxRecDepth 100000 in
set_option maxHeartbeats 1000000 in
theorem mdDiv_is (h : GIn w g G F) {x y : WV} (hx : WVin w F x) (hy : WVin w F y) :
    Calls Tryz.prog 17 #[.pointer (some ⟨g, 0, none⟩), x.val, y.val] w fun e w' => ∃ v, e = .returned (.tuple #[v, .int .i64 (bothG G x.l y.l).2.2]) ∧ GVo w g (bothG G x.l y.l).1 [] F v (bothG G x.l y.l).2.1.1 w' := by
  have HB := mdBoth_is h hx hy
  generalize bothG G x.l y.l = R at *
  unfold WV.val at *
  clear h hx hy
  go_enter Tryz.func17, Tryz.ntmps17
  go_wp2_with fail
  refine HB.mono ?_
  rintro e w' ⟨v1, v2, rfl, F', g1, g2, g3, g4, g5, g6, g7, g8⟩
  have hgv : GVo w g R.1 [] F v1 R.2.1.1 w' := ⟨F', g1, by simpa using g2, g3, g4, g5, fun k hk => ⟨(g7 k hk).1, (g7 k hk).2.1⟩⟩
  obtain ⟨a1, c1, rfl⟩ := row.shape g5
  obtain ⟨a2, c2, rfl⟩ := row.shape g6
  have HV := Lib.hid hgv; clear hgv g1 g2 g3 g4 g5 g6 g7 g8
  go_wp2_with fail
  go_ret2
  exact ⟨_, rfl, HV.out⟩
set_option maxRecDepth 100000 in
set_option maxHeartbeats 1000000 in
theorem mdRem_is (h : GIn w g G F) {x y : WV} (hx : WVin w F x) (hy : WVin w F y) :
    Calls Tryz.prog 18 #[.pointer (some ⟨g, 0, none⟩), x.val, y.val] w fun e w' => ∃ v, e = .returned (.tuple #[v, .int .i64 (bothG G x.l y.l).2.2]) ∧ GVo w g (bothG G x.l y.l).1 [] F v (bothG G x.l y.l).2.1.2 w' := by
  have HB := mdBoth_is h hx hy
  generalize bothG G x.l y.l = R at *
  unfold WV.val at *
  clear h hx hy
  go_enter Tryz.func18, Tryz.ntmps18
  go_wp2_with fail
  refine HB.mono ?_
  rintro e w' ⟨v1, v2, rfl, F', g1, g2, g3, g4, g5, g6, g7, g8⟩
  have hgv : GVo w g R.1 [] F v2 R.2.1.2 w' := ⟨F', g1, by simpa using g2, g3, g4, g6, fun k hk => g8 k hk⟩
  obtain ⟨a1, c1, rfl⟩ := row.shape g5
  obtain ⟨a2, c2, rfl⟩ := row.shape g6
  have HV := Lib.hid hgv; clear hgv g1 g2 g3 g4 g5 g6 g7 g8
  go_wp2_with fail
  go_ret2
  exact ⟨_, rfl, HV.out⟩
set_option maxRecDepth 100000 in
set_option maxHeartbeats 2000000 in
theorem mdTimes_is (h : GIn w g G F) {x : WV} (hx : WVin w F x) (hxc : x.l.length ≤ x.c) (n : Nat) (hn : n < 4294967296) :
    Calls Tryz.prog 16 #[.pointer (some ⟨g, 0, none⟩), x.val, .int .u32 n] w fun e w' => ∃ v, e = .returned (.tuple #[v, .int .i64 (timesG G x.l n).2.2]) ∧ GVo w g (timesG G x.l n).1 [] F v (timesG G x.l n).2.1 w' := by
  have hFl := h.lt
  obtain ⟨xa, xl, xc⟩ := x
  simp only [WV.val] at *
  unfold timesG
  have hch := chk24_one (G := G) (x := xl)
  have hcs := chk24_small G [xl]
  generalize hc : chk24 G [xl] = cc at *
  have hC : ∀ W, Ch [] w W → ∀ b, blk W b [.slice xa xl.length xc] → Calls Tryz.prog 25 #[.pointer (some ⟨g, 0, none⟩), .slice (some ⟨b, 0, none⟩) 1 1] W fun e w' => e = .returned (.int .i64 cc) ∧ Ch [] W w' := fun W hW b hb => by
    have := mdcheck_is (h.same hW (by simp)) (b := b) (ws := [⟨xa, xl, xc⟩]) 1 1 rfl (by omega) (fun i z hz => by
      match i, hz with
      | 0, hz => cases hz; exact hb.cell rfl) (fun z hz => by
      simp only [List.mem_cons, List.not_mem_nil, or_false] at hz
      rcases hz with rfl
      exact (hx.ch hW).ok)
    rw [show ([⟨xa, xl, xc⟩] : List WV).map WV.l = [xl] from rfl, hc] at this
    exact this
  have HC := Lib.hid hC; clear hC
  have HX := Lib.hid hx; clear hx
  have H := Lib.hid h; clear h
  have HCH := Lib.hid hch; clear hch
  clear hc
  generalize hWW : (if cc ≠ 0 then (G, [], cc) else mulG G xl (natInts (constL n xl.length)) : Gra × List Nat × Nat) = WW
  have HWW := Lib.hid hWW; clear hWW
  go_enter Tryz.func16, Tryz.ntmps16
  go_wp2_with fail
  refine calls_named fun W0 hW0 => ?_
  have hc0 : Ch [] w W0 := by rw [hW0]; exact (Ch.refl _ _).alloc _
  have hbl : blk W0 w.heap.size [.slice xa xl.length xc] := by rw [hW0]; exact blk.new' _ _ (by simp)
  clear hW0
  refine (HC.out W0 hc0 _ hbl).mono ?_
  rintro e w1 ⟨rfl, hc1⟩
  have hc01 := hc0.trans hc1 (by simp)
  clear hbl hc0 hc1
  by_cases hcc : cc = 0
  · subst hcc
    obtain ⟨k1, k2, k3, k4⟩ := HCH.out rfl
    have hww := HWW.out
    rw [if_neg (by simp)] at hww
    have hrw : rightW (xl.length : Int) = true := by unfold rightW; simp; omega
    have hco := sConst_is (w := w1) n hn (xl.length : Int)
    rw [hrw] at hco
    simp only [if_true, Int.toNat_natCast] at hco
    have HCO := Lib.hid hco; clear hco
    have HC01 := Lib.hid hc01; clear hc01
    clear HC HCH HWW
    go_wp2_with fail
    refine HCO.out.mono ?_
    rintro e w2 ⟨v, rfl, hv1, hv2, hv3⟩
    have hcl : (refsCells (constL n xl.length)).length = xl.length := by simp [refsCells, constL]
    rw [hcl] at hv1
    obtain ⟨va, vc, rfl⟩ := row.shape hv1
    have hc02 := HC01.out.trans hv3 (by simp)
    have hz := HC01.out.size
    have hcnl : (constL n xl.length).length = xl.length := by simp [constL]
    have hyin : WVin w2 F ⟨va, natInts (constL n xl.length), vc⟩ := wv_of_row (by rw [hcnl]; exact hv1) hcnl (fun k hk hm => by have := hv2 k (by simp [hk]); have := hFl k hm; omega) (by omega) (fun r hr => by have := constL_le n xl.length r hr; omega)
    have hmul := mdMul_is (H.out.same hc02 (by simp)) (HX.out.ch hc02) hyin hxc
    simp only [WV.val, natInts_len, hcnl] at hmul
    rw [hww] at hmul
    have HMUL := Lib.hid hmul; clear hmul
    have HC02 := Lib.hid hc02; clear hc02 hv1 hv2 hv3 hyin
    go_wp2_with fail
    refine HMUL.out.mono ?_
    rintro e w3 ⟨v, rfl, hgv⟩
    obtain ⟨ua, uc, rfl⟩ : ∃ ua uc, v = .slice ua WW.2.1.length uc := by
      obtain ⟨_, _, _, _, _, hr, _⟩ := hgv
      exact row.shape hr
    have HV := Lib.hid (GVo.since HC02.out hgv); clear hgv
    go_wp2_with fail
    go_ret2
    exact ⟨_, rfl, HV.out⟩
  · have hq : ((cc : Int) != 0) = true := by simp; omega
    have hgv : GVo w g G [] F (.slice none 0 0) [] w1 := GVo.none H.out hc01
    have HGV := Lib.hid hgv; clear hgv hc01 HX HCH HC
    have hww := HWW.out
    rw [if_pos hcc] at hww
    subst hww
    have HQ := Lib.hid hcc; clear hcc
    go_wp2_with fail
    go_ret2
    exact ⟨_, rfl, HGV.out⟩
end
end Go.Proofs.YtkedpifopclipaaGreat
namespace Go.Aig
theorem List.snocRec {α : Type} {motive : List α → Prop} (nil : motive []) (snoc : ∀ l x, motive l → motive (l ++ [x])) (l : List α) : motive l := by
  have : ∀ n (l : List α), l.length = n → motive l := by
    intro n
    induction n with
    | zero => intro l hl; rw [List.eq_nil_of_length_eq_zero hl]; exact nil
    | succ n ih =>
      intro l hl
      have hne : l ≠ [] := by intro e; rw [e] at hl; simp at hl
      rw [← List.dropLast_concat_getLast hne]
      exact snoc _ _ (ih _ (by rw [List.length_dropLast]; omega))
  exact this l.length l rfl
/-- the word of a reference, over the words of the nodes; M has all bits -/
def wref (M : Nat) (vs : List Nat) (r : Nat) : Nat := if r % 2 = 1 then M ^^^ vs.getD (r / 2) 0 else vs.getD (r / 2) 0
def wvStep (M : Nat) (s : List Nat × List Nat) (x : Nd) : List Nat × List Nat :=
  if x.k = 3 then (s.1 ++ [wref M s.1 x.l &&& wref M s.1 x.r], s.2) else if x.k = 2 then (s.1 ++ [s.2.headD 0], s.2.tail) else (s.1 ++ [0], s.2)
/-- the words of the nodes, and those of the inputs that are left -/
def wvF (M : Nat) (ins : List Nat) (ns : List Nd) : List Nat × List Nat := ns.foldl (wvStep M) ([], ins)
theorem wvF_snoc (M : Nat) (ins : List Nat) (ns : List Nd) (x : Nd) : wvF M ins (ns ++ [x]) = wvStep M (wvF M ins ns) x := by unfold wvF; rw [List.foldl_append]; rfl
theorem wvF_len (M : Nat) (ins : List Nat) (ns : List Nd) : (wvF M ins ns).1.length = ns.length := by
  induction ns using List.snocRec with
  | nil => rfl
  | snoc ns x ih =>
    rw [wvF_snoc]
    unfold wvStep
    (repeat' split) <;> simp [ih]
theorem wref_ext {M : Nat} {vs more : List Nat} {r : Nat} (h : r < 2 * vs.length) : wref M (vs ++ more) r = wref M vs r := by
  unfold wref
  rw [List.getD_eq_getElem?_getD, List.getD_eq_getElem?_getD, List.getElem?_append_left (by omega)]
theorem wref_bit {N k : Nat} (hk : k < N) (vs : List Nat) (r : Nat) : (wref (2 ^ N - 1) vs r).testBit k = rv (vs.map fun v => v.testBit k) r := by
  have hg : (vs.map fun v => v.testBit k).getD (r / 2) false = (vs.getD (r / 2) 0).testBit k := by
    rw [List.getD_eq_getElem?_getD, List.getD_eq_getElem?_getD, List.getElem?_map]
    cases vs[r / 2]? <;> simp
  unfold wref rv
  rw [hg]
  split
  · rename_i h
    rw [Nat.testBit_xor, Nat.testBit_two_pow_sub_one, decide_eq_true hk, decide_eq_true h, Bool.xor_comm]
  · rename_i h
    rw [decide_eq_false h, Bool.xor_false]
/-- bit by bit, the words are what the nodes are for one assignment -/
theorem wvF_bits {N k : Nat} (hk : k < N) (ins : List Nat) (ns : List Nd) :
    (wvF (2 ^ N - 1) ins ns).1.map (fun v => v.testBit k) = (nv (fun i => (ins.getD i 0).testBit k) ns).1 ∧ (wvF (2 ^ N - 1) ins ns).2 = ins.drop (nv (fun i => (ins.getD i 0).testBit k) ns).2 := by
  induction ns using List.snocRec with
  | nil => exact ⟨rfl, rfl⟩
  | snoc ns x ih =>
    obtain ⟨h1, h2⟩ := ih
    rw [wvF_snoc, nv_snoc]
    unfold wvStep nvStep
    split
    · refine ⟨?_, h2⟩
      simp only [List.map_append, List.map_cons, List.map_nil, h1, Nat.testBit_and, wref_bit hk]
    · split
      · refine ⟨?_, ?_⟩
        · simp only [List.map_append, List.map_cons, List.map_nil, h1, h2]
          congr 2
          rw [List.headD_eq_head?_getD, List.head?_drop, List.getD_eq_getElem?_getD]
        · simp only [h2, List.tail_drop]
      · refine ⟨?_, h2⟩
        simp only [List.map_append, List.map_cons, List.map_nil, h1, Nat.zero_testBit]
theorem wv_bv {N k : Nat} (hk : k < N) (ins : List Nat) (ns : List Nd) (r : Nat) : (wref (2 ^ N - 1) (wvF (2 ^ N - 1) ins ns).1 r).testBit k = bv (fun i => (ins.getD i 0).testBit k) ns r := by
  rw [wref_bit hk, (wvF_bits hk ins ns).1]
  rfl
theorem wref_lt {N : Nat} {vs : List Nat} (h : ∀ v ∈ vs, v < 2 ^ N) (r : Nat) : wref (2 ^ N - 1) vs r < 2 ^ N := by
  have hp : 0 < 2 ^ N := Nat.two_pow_pos N
  have hg : vs.getD (r / 2) 0 < 2 ^ N := by
    rw [List.getD_eq_getElem?_getD]
    cases hq : vs[r / 2]? with
    | none => exact hp
    | some v => exact h v (List.mem_of_getElem? hq)
  unfold wref
  split
  · exact Nat.xor_lt_two_pow (by omega) hg
  · exact hg
theorem wvF_lt {N : Nat} {ins : List Nat} (hi : ∀ v ∈ ins, v < 2 ^ N) (ns : List Nd) : (∀ v ∈ (wvF (2 ^ N - 1) ins ns).1, v < 2 ^ N) ∧ ∀ v ∈ (wvF (2 ^ N - 1) ins ns).2, v < 2 ^ N := by
  have hp : 0 < 2 ^ N := Nat.two_pow_pos N
  induction ns using List.snocRec with
  | nil => exact ⟨by simp [wvF], hi⟩
  | snoc ns x ih =>
    obtain ⟨h1, h2⟩ := ih
    rw [wvF_snoc]
    unfold wvStep
    split
    · refine ⟨fun v hv => ?_, h2⟩
      rcases List.mem_append.1 hv with hv | hv
      · exact h1 v hv
      · rw [List.mem_singleton.1 hv]
        exact Nat.and_lt_two_pow _ (wref_lt h1 _)
    · split
      · refine ⟨fun v hv => ?_, fun v hv => h2 v (List.mem_of_mem_tail hv)⟩
        rcases List.mem_append.1 hv with hv | hv
        · exact h1 v hv
        · rw [List.mem_singleton.1 hv]
          cases hq : (wvF (2 ^ N - 1) ins ns).2 with
          | nil => exact hp
          | cons a l => exact h2 a (by rw [hq]; exact List.mem_cons_self ..)
      · refine ⟨fun v hv => ?_, h2⟩
        rcases List.mem_append.1 hv with hv | hv
        · exact h1 v hv
        · rw [List.mem_singleton.1 hv]; exact hp
/-- how many inputs there are -/
theorem nv_count (env : Nat → Bool) (ns : List Nd) : (nv env ns).2 = (inputs ns).length := by
  have : ∀ (ns : List Nd) (n : Nat), (inputsFrom ns n).length = (ns.filter fun x => x.k == 2).length := by
    intro ns
    induction ns with
    | nil => intro n; rfl
    | cons x ns ih =>
      intro n
      unfold inputsFrom
      split
      · rename_i h; simp [h, ih]
      · rename_i h; simp [h, ih]
  unfold inputs
  rw [this]
  induction ns using List.snocRec with
  | nil => rfl
  | snoc ns x ih =>
    rw [nv_snoc, List.filter_append, List.length_append, ← ih]
    unfold nvStep
    split
    · rename_i h; simp [h]
    · split
      · rename_i h; simp [h]
      · rename_i h; simp [h]
end Go.Aig
namespace Go.Aig
theorem b_le (b : Bool) : b.toNat ≤ 1 := by cases b <;> decide
theorem bitsVal_bit : ∀ (l : List Bool) (i : Nat), (bitsVal l).testBit i = l.getD i false
  | [], i => by simp [bitsVal]
  | b :: l, 0 => by
    show (b.toNat + 2 * bitsVal l).testBit 0 = b
    rw [Nat.testBit_zero]
    cases b <;> simp <;> omega
  | b :: l, i + 1 => by
    show (b.toNat + 2 * bitsVal l).testBit (i + 1) = _
    rw [Nat.testBit_succ, show (b.toNat + 2 * bitsVal l) / 2 = bitsVal l by have := b_le b; omega, bitsVal_bit l i]
    simp
theorem bits_val (a w : Nat) : bitsVal ((List.range w).map fun i => a.testBit i) = a % 2 ^ w := by
  apply Nat.eq_of_testBit_eq
  intro i
  rw [bitsVal_bit, Nat.testBit_mod_two_pow, List.getD_eq_getElem?_getD, List.getElem?_map]
  by_cases h : i < w
  · rw [List.getElem?_range h]; simp [h]
  · rw [List.getElem?_eq_none (by simp; omega)]; simp [h]
end Go.Aig
namespace Go.Aig
theorem and_c (G : Gra) (a b : Bool) : and G a.toNat b.toNat = (G, (a && b).toNat, 0) := by cases a <;> cases b <;> rfl
theorem neg_c (b : Bool) : neg b.toNat = (!b).toNat := by cases b <;> rfl
theorem rOr_c (G : Gra) (a b : Bool) : rOr G a.toNat b.toNat = (G, (a || b).toNat, 0) := by cases a <;> cases b <;> rfl
theorem rMux_c (G : Gra) (c a b : Bool) : rMux G c.toNat a.toNat b.toNat = (G, (bif c then a else b).toNat, 0) := by cases c <;> cases a <;> cases b <;> rfl
theorem rXor_c (G : Gra) (a b : Bool) : rXor G a.toNat b.toNat = (G, (Bool.xor a b).toNat, 0) := by cases a <;> cases b <;> rfl
/-- a word of constants -/
def crs (l : List Bool) : List Nat := l.map Bool.toNat
def cp (p : Bool × Bool) : Nat × Nat := (p.1.toNat, p.2.toNat)
theorem crs_snoc (l : List Bool) (b : Bool) : crs (l ++ [b]) = crs l ++ [b.toNat] := by simp [crs]
theorem crs_zip (x y : List Bool) : (crs x).zip (crs y) = (x.zip y).map cp := by
  unfold crs cp
  rw [List.zip_map]
  rfl
theorem each_c (G : Gra) (f : Gra → Nat → Nat → Res) (g : Bool → Bool → Bool) (hf : ∀ a b : Bool, f G a.toNat b.toNat = (G, (g a b).toNat, 0)) (l : List (Bool × Bool)) :
    eachF (rop f) (G, 0) (l.map cp) = ((G, 0), crs (l.map fun p => g p.1 p.2)) := by
  have : ∀ (l : List (Bool × Bool)) (acc : List Nat), (l.map cp).foldl (eachS (rop f)) ((G, 0), acc) = ((G, 0), acc ++ crs (l.map fun p => g p.1 p.2)) := by
    intro l
    induction l with
    | nil => intro acc; simp [crs]
    | cons p l ih =>
      intro acc
      rw [List.map_cons, List.foldl_cons]
      have e : eachS (rop f) ((G, 0), acc) (cp p) = ((G, 0), acc ++ [(g p.1 p.2).toNat]) := by
        unfold eachS rop cp
        simp only [hf]
        rfl
      rw [e, ih]
      simp [crs]
  exact this l []
/-- the sum of constants, bit by bit -/
def sB (n : Nat) (q : List Bool × Bool) (p : Bool × Bool) : List Bool × Bool :=
  (q.1 ++ [Bool.xor (Bool.xor p.1 p.2) q.2], if q.1.length + 1 < n then (p.1 && p.2) || (Bool.xor p.1 p.2 && q.2) else q.2)
theorem sum_c (G : Gra) (n : Nat) (l : List (Bool × Bool)) (c : Bool) : sumF n (G, 0) (l.map cp) c.toNat = ((G, 0), crs (l.foldl (sB n) ([], c)).1, (l.foldl (sB n) ([], c)).2.toNat) := by
  have : ∀ (l : List (Bool × Bool)) (acc : List Bool) (c : Bool), (l.map cp).foldl (sumS n) ((G, 0), crs acc, c.toNat) = ((G, 0), crs (l.foldl (sB n) (acc, c)).1, (l.foldl (sB n) (acc, c)).2.toNat) := by
    intro l
    induction l with
    | nil => intro acc c; rfl
    | cons p l ih =>
      intro acc c
      rw [List.map_cons, List.foldl_cons, List.foldl_cons]
      have e : sumS n ((G, 0), crs acc, c.toNat) (cp p) = ((G, 0), crs (sB n (acc, c) p).1, (sB n (acc, c) p).2.toNat) := by
        have hx : sXor (G, 0) p.1.toNat p.2.toNat = ((G, 0), (Bool.xor p.1 p.2).toNat) := by unfold sXor; simp only [rXor_c]; rfl
        have hr : sXor (G, 0) (Bool.xor p.1 p.2).toNat c.toNat = ((G, 0), (Bool.xor (Bool.xor p.1 p.2) c).toNat) := by unfold sXor; simp only [rXor_c]; rfl
        have h1 : sAnd (G, 0) p.1.toNat p.2.toNat = ((G, 0), (p.1 && p.2).toNat) := by unfold sAnd; simp only [and_c]; rfl
        have h2 : sAnd (G, 0) (Bool.xor p.1 p.2).toNat c.toNat = ((G, 0), (Bool.xor p.1 p.2 && c).toNat) := by unfold sAnd; simp only [and_c]; rfl
        have h3 : sOr (G, 0) (p.1 && p.2).toNat (Bool.xor p.1 p.2 && c).toNat = ((G, 0), ((p.1 && p.2) || (Bool.xor p.1 p.2 && c)).toNat) := by unfold sOr; simp only [rOr_c]; rfl
        have hl : (crs acc).length = acc.length := by simp [crs]
        unfold sumS sB cp
        simp only [hx, hr, h1, h2, h3, hl]
        split
        · simp only [crs_snoc]
        · simp only [crs_snoc]
      rw [e, ih]
  exact this l [] c
theorem sB_len (n : Nat) (c : Bool) (l : List (Bool × Bool)) : (l.foldl (sB n) ([], c)).1.length = l.length := by
  induction l using List.snocRec with
  | nil => rfl
  | snoc l p ih => rw [List.foldl_append]; simp [sB, ih]
theorem full_add (a b c : Bool) : (Bool.xor (Bool.xor a b) c).toNat + 2 * ((a && b) || (Bool.xor a b && c)).toNat = a.toNat + b.toNat + c.toNat := by cases a <;> cases b <;> cases c <;> rfl
theorem sB_val (n : Nat) (c : Bool) (l : List (Bool × Bool)) (h : l.length < n) : bitsVal (l.foldl (sB n) ([], c)).1 + (l.foldl (sB n) ([], c)).2.toNat * 2 ^ l.length = bitsVal (l.map Prod.fst) + bitsVal (l.map Prod.snd) + c.toNat := by
  induction l using List.snocRec with
  | nil => simp [bitsVal]
  | snoc l p ih =>
    rw [List.length_append] at h
    have ih := ih (by simp at h; omega)
    have hl := sB_len n c l
    rw [List.foldl_append]
    generalize l.foldl (sB n) ([], c) = q at *
    obtain ⟨out, cc⟩ := q
    simp only at ih hl
    simp only [List.foldl_cons, List.foldl_nil, sB, hl, List.map_append, List.map_cons, List.map_nil, List.length_append, List.length_cons, List.length_nil]
    simp at h
    rw [if_pos (by omega)]
    rw [bitsVal_snoc, bitsVal_snoc, bitsVal_snoc, hl, List.length_map, List.length_map, Nat.zero_add, Nat.pow_succ]
    have hf := full_add p.1 p.2 cc
    generalize 2 ^ l.length = P at *
    generalize (Bool.xor (Bool.xor p.1 p.2) cc).toNat = s at *
    generalize ((p.1 && p.2) || (Bool.xor p.1 p.2 && cc)).toNat = t at *
    generalize p.1.toNat = a at *
    generalize p.2.toNat = b at *
    generalize cc.toNat = k at *
    have e : s * P + t * (P * 2) = a * P + b * P + k * P := by
      have : (s + 2 * t) * P = (a + b + k) * P := by rw [hf]
      rw [Nat.add_mul, Nat.add_mul, Nat.add_mul] at this
      rw [show t * (P * 2) = 2 * t * P by rw [Nat.mul_comm P 2, ← Nat.mul_assoc, Nat.mul_comm t 2]]
      exact this
    omega
theorem sB_last (n : Nat) (c : Bool) (l : List (Bool × Bool)) (h : l.length = n) (hn : 1 ≤ n) : bitsVal (l.foldl (sB n) ([], c)).1 = (bitsVal (l.map Prod.fst) + bitsVal (l.map Prod.snd) + c.toNat) % 2 ^ n := by
  have hne : l ≠ [] := by intro e; rw [e] at h; simp at h; omega
  obtain ⟨l', p, rfl⟩ : ∃ l' p, l = l' ++ [p] := ⟨_, _, (List.dropLast_concat_getLast hne).symm⟩
  rw [List.length_append] at h
  simp at h
  have hv := sB_val n c l' (by omega)
  have hl := sB_len n c l'
  have hlt := bitsVal_lt (((l' ++ [p]).foldl (sB n) ([], c)).1)
  rw [sB_len, List.length_append] at hlt
  simp only [List.length_cons, List.length_nil, Nat.zero_add, h] at hlt
  rw [List.foldl_append] at hlt ⊢
  generalize l'.foldl (sB n) ([], c) = q at *
  obtain ⟨out, cc⟩ := q
  simp only at hv hl
  simp only [List.foldl_cons, List.foldl_nil, sB, List.map_append, List.map_cons, List.map_nil] at hlt ⊢
  rw [bitsVal_snoc] at hlt ⊢
  rw [bitsVal_snoc, bitsVal_snoc, hl, List.length_map, List.length_map]
  rw [hl] at hlt
  have hP : 2 ^ n = 2 * 2 ^ l'.length := by rw [← h, Nat.pow_succ, Nat.mul_comm]
  rw [hP] at hlt ⊢
  have hf := full_add p.1 p.2 cc
  generalize 2 ^ l'.length = P at *
  generalize (Bool.xor (Bool.xor p.1 p.2) cc).toNat = s at *
  generalize ((p.1 && p.2) || (Bool.xor p.1 p.2 && cc)).toNat = t at *
  generalize p.1.toNat = a at *
  generalize p.2.toNat = b at *
  generalize cc.toNat = k at *
  have e : s * P + t * (2 * P) = a * P + b * P + k * P := by
    have : (s + 2 * t) * P = (a + b + k) * P := by rw [hf]
    rw [Nat.add_mul, Nat.add_mul, Nat.add_mul] at this
    rw [show t * (2 * P) = 2 * t * P by rw [← Nat.mul_assoc, Nat.mul_comm t 2]]
    exact this
  have e2 : bitsVal (l'.map Prod.fst) + a * P + (bitsVal (l'.map Prod.snd) + b * P) + c.toNat = bitsVal out + s * P + t * (2 * P) := by omega
  rw [e2, Nat.mul_comm t (2 * P), Nat.add_mul_mod_self_left, Nat.mod_eq_of_lt hlt]
/-- less than, of constants -/
def lB (o : Bool) (p : Bool × Bool) : Bool := bif Bool.xor p.1 p.2 then p.2 else o
theorem lt_c (G : Gra) (l : List (Bool × Bool)) : ltF (G, 0) (l.map cp) = ((G, 0), (l.foldl lB false).toNat) := by
  have : ∀ (l : List (Bool × Bool)) (o : Bool), (l.map cp).foldl ltS ((G, 0), o.toNat) = ((G, 0), (l.foldl lB o).toNat) := by
    intro l
    induction l with
    | nil => intro o; rfl
    | cons p l ih =>
      intro o
      rw [List.map_cons, List.foldl_cons, List.foldl_cons]
      have e : ltS ((G, 0), o.toNat) (cp p) = ((G, 0), (lB o p).toNat) := by
        have hx : sXor (G, 0) p.1.toNat p.2.toNat = ((G, 0), (Bool.xor p.1 p.2).toNat) := by unfold sXor; simp only [rXor_c]; rfl
        have hm : sMux (G, 0) (Bool.xor p.1 p.2).toNat p.2.toNat o.toNat = ((G, 0), (bif Bool.xor p.1 p.2 then p.2 else o).toNat) := by unfold sMux; simp only [rMux_c]; rfl
        unfold ltS cp
        simp only [hx, hm]
        rfl
      rw [e, ih]
  exact this l false
theorem lB_val (l : List (Bool × Bool)) : l.foldl lB false = decide (bitsVal (l.map Prod.fst) < bitsVal (l.map Prod.snd)) := by
  induction l using List.snocRec with
  | nil => rfl
  | snoc l p ih =>
    rw [List.foldl_append, ih]
    simp only [List.foldl_cons, List.foldl_nil, List.map_append, List.map_cons, List.map_nil]
    rw [bitsVal_snoc, bitsVal_snoc, List.length_map, List.length_map]
    have h1 := bitsVal_lt (l.map Prod.fst)
    have h2 := bitsVal_lt (l.map Prod.snd)
    rw [List.length_map] at h1 h2
    unfold lB
    generalize bitsVal (l.map Prod.fst) = x at *
    generalize bitsVal (l.map Prod.snd) = y at *
    generalize 2 ^ l.length = P at *
    obtain ⟨a, b⟩ := p
    cases a <;> cases b <;> simp <;> omega
theorem not_val (l : List Bool) : bitsVal (l.map not) = 2 ^ l.length - 1 - bitsVal l := by
  induction l with
  | nil => rfl
  | cons b l ih =>
    have h := bitsVal_lt l
    show (!b).toNat + 2 * bitsVal (l.map not) = 2 ^ (l.length + 1) - 1 - (b.toNat + 2 * bitsVal l)
    rw [ih, Nat.pow_succ]
    cases b <;> simp <;> omega
end Go.Aig
namespace Go.Aig
end Go.Aig
namespace Go.Proofs.YtkedpifopclipaaGreat
open Go.RowKit Go.Mem Go.Aig
def Stop (p : Prop) : Prop := p
theorem wpList_store_one {P : Program} {ops : Array Oper} {o : Oper} {a : Act} {w w' : World} {Q : Exit → Act → World → Prop} (t : TypeId) (p v : Operand) (vp vv : Value) (hg : o.guard = none) (ho : o.op = .store t p v)
    (h : (Instr.storeAt t vp vv).run P w = .ok () w') (hp : Stop (a.eval p = vp)) (hv : Stop (a.eval v = vv)) (hn : Stop (wpList P ops Q [] (a.put o.dst undef) w')) : wpList P ops Q [o] a w :=
  wpList_plain hg fun _ hK => by
    unfold Stop at hp hv hn
    unfold Oper.wp execOp
    simp only [ho, Sem.run_bind, Sem.run_pure, Result.andThen_ok, hp, hv, h]
    exact hK _ _ hn
section
variable {w : World}
set_option maxRecDepth 100000 in
set_option maxHeartbeats 4000000 in
theorem table_is : Calls Tryz.prog 37 #[] w fun e w' => e = .returned (.agg #[.string ⟨#[]⟩, .int .i64 0, .bool false, .nilFunc, .string ⟨#[126]⟩, .int .i64 0, .bool false, .func (.func 63) #[] #[], .string ⟨#[45]⟩, .int .i64 0, .bool false, .func (.func 64) #[] #[], .string ⟨#[43]⟩, .int .i64 5, .bool false, .func (.func 65) #[] #[], .string ⟨#[45]⟩, .int .i64 5, .bool false, .func (.func 66) #[] #[], .string ⟨#[42]⟩, .int .i64 6, .bool false, .func (.func 67) #[] #[], .string ⟨#[47]⟩, .int .i64 6, .bool false, .func (.func 68) #[] #[], .string ⟨#[37]⟩, .int .i64 6, .bool false, .func (.func 69) #[] #[], .string ⟨#[38]⟩, .int .i64 2, .bool false, .func (.func 70) #[] #[], .string ⟨#[124]⟩, .int .i64 1, .bool false, .func (.func 71) #[] #[], .string ⟨#[94]⟩, .int .i64 1, .bool false, .func (.func 72) #[] #[], .string ⟨#[60, 60]⟩, .int .i64 4, .bool false, .func (.func 73) #[] #[], .string ⟨#[62, 62]⟩, .int .i64 4, .bool false, .func (.func 74) #[] #[], .string ⟨#[61, 61]⟩, .int .i64 3, .bool true, .func (.func 75) #[] #[], .string ⟨#[33, 61]⟩, .int .i64 3, .bool true, .func (.func 77) #[] #[], .string ⟨#[60]⟩, .int .i64 3, .bool true, .func (.func 78) #[] #[], .string ⟨#[60, 61]⟩, .int .i64 3, .bool true, .func (.func 79) #[] #[]]) ∧ Ch [] w w' := by
  have hs1 := run_storeAt_new (P := Tryz.prog) w 77 Tryz.zeroCells77 #[.string ⟨#[]⟩, .int .i64 0, .bool false, .nilFunc, .string ⟨#[126]⟩, .int .i64 0, .bool false, .func (.func 63) #[] #[], .string ⟨#[45]⟩, .int .i64 0, .bool false, .func (.func 64) #[] #[], .string ⟨#[43]⟩, .int .i64 5, .bool false, .func (.func 65) #[] #[], .string ⟨#[45]⟩, .int .i64 5, .bool false, .func (.func 66) #[] #[], .string ⟨#[42]⟩, .int .i64 6, .bool false, .func (.func 67) #[] #[], .string ⟨#[47]⟩, .int .i64 6, .bool false, .func (.func 68) #[] #[], .string ⟨#[37]⟩, .int .i64 6, .bool false, .func (.func 69) #[] #[], .string ⟨#[38]⟩, .int .i64 2, .bool false, .func (.func 70) #[] #[], .string ⟨#[124]⟩, .int .i64 1, .bool false, .func (.func 71) #[] #[], .string ⟨#[94]⟩, .int .i64 1, .bool false, .func (.func 72) #[] #[], .string ⟨#[60, 60]⟩, .int .i64 4, .bool false, .func (.func 73) #[] #[], .string ⟨#[62, 62]⟩, .int .i64 4, .bool false, .func (.func 74) #[] #[], .string ⟨#[61, 61]⟩, .int .i64 3, .bool true, .func (.func 75) #[] #[], .string ⟨#[33, 61]⟩, .int .i64 3, .bool true, .func (.func 77) #[] #[], .string ⟨#[60]⟩, .int .i64 3, .bool true, .func (.func 78) #[] #[], .string ⟨#[60, 61]⟩, .int .i64 3, .bool true, .func (.func 79) #[] #[]] (by kernel_rfl) (by kernel_rfl) (by kernel_rfl)
  go_enter Tryz.func37, Tryz.ntmps37
  go_wp2_with (refine wpList_store_one 77 (.tmp 0) (.tmp 18) _ _ rfl rfl hs1 ?_ ?_ ?_)
  · unfold Stop
    exact trivial
  · unfold Stop
    kernel_rfl
  · unfold Stop
    go_wp2_with fail
    exact bodyPost_ret (results_cell_row (d := .array 17 76) rfl _ _ w.heap.size 77 #[.string ⟨#[]⟩, .int .i64 0, .bool false, .nilFunc, .string ⟨#[126]⟩, .int .i64 0, .bool false, .func (.func 63) #[] #[], .string ⟨#[45]⟩, .int .i64 0, .bool false, .func (.func 64) #[] #[], .string ⟨#[43]⟩, .int .i64 5, .bool false, .func (.func 65) #[] #[], .string ⟨#[45]⟩, .int .i64 5, .bool false, .func (.func 66) #[] #[], .string ⟨#[42]⟩, .int .i64 6, .bool false, .func (.func 67) #[] #[], .string ⟨#[47]⟩, .int .i64 6, .bool false, .func (.func 68) #[] #[], .string ⟨#[37]⟩, .int .i64 6, .bool false, .func (.func 69) #[] #[], .string ⟨#[38]⟩, .int .i64 2, .bool false, .func (.func 70) #[] #[], .string ⟨#[124]⟩, .int .i64 1, .bool false, .func (.func 71) #[] #[], .string ⟨#[94]⟩, .int .i64 1, .bool false, .func (.func 72) #[] #[], .string ⟨#[60, 60]⟩, .int .i64 4, .bool false, .func (.func 73) #[] #[], .string ⟨#[62, 62]⟩, .int .i64 4, .bool false, .func (.func 74) #[] #[], .string ⟨#[61, 61]⟩, .int .i64 3, .bool true, .func (.func 75) #[] #[], .string ⟨#[33, 61]⟩, .int .i64 3, .bool true, .func (.func 77) #[] #[], .string ⟨#[60]⟩, .int .i64 3, .bool true, .func (.func 78) #[] #[], .string ⟨#[60, 61]⟩, .int .i64 3, .bool true, .func (.func 79) #[] #[]] (0, 0) (by kernel_rfl) (heap_alloc_last w _) (by kernel_rfl) rfl (by kernel_rfl)) rfl ⟨rfl, (Ch.refl _ w).alloc _⟩
end
end Go.Proofs.YtkedpifopclipaaGreat
namespace Go.Aig
theorem nats_crs (X : List Bool) : nats (natInts (crs X)) = crs X := by
  unfold nats natInts
  exact Go.Proofs.YtkedpifopclipaaGreat.toNats (crs X)
theorem crs_len (X : List Bool) : (crs X).length = X.length := by simp [crs]
theorem natInts_crs_len (X : List Bool) : (natInts (crs X)).length = X.length := by simp [natInts, crs]
theorem crs_neg (X : List Bool) : (crs X).map neg = crs (X.map not) := by
  unfold crs
  rw [List.map_map, List.map_map]
  exact List.map_congr_left (fun b _ => neg_c b)
theorem badIn_c {G : Gra} (hG : Ok G) (X : List Bool) : badIn G (natInts (crs X)) = false := by
  unfold badIn
  rw [List.any_eq_false]
  intro r hr
  unfold natInts crs at hr
  rw [List.map_map] at hr
  obtain ⟨b, _, rfl⟩ := List.mem_map.1 hr
  have := hG.wf.pos
  have := b_le b
  simp [right]; omega
theorem negG_c (G : Gra) (b : Bool) : negG (G, b.toNat, 0) = (G, (!b).toNat, 0) := by
  unfold negG
  rw [if_neg (by simp), neg_c]
theorem mask_eq (a w : Nat) : a &&& (2 ^ w - 1) = a % 2 ^ w := Nat.and_two_pow_sub_one_eq_mod a w
theorem fst_zip {X Y : List Bool} (h : X.length = Y.length) : (X.zip Y).map Prod.fst = X := List.map_fst_zip (by omega)
theorem snd_zip {X Y : List Bool} (h : X.length = Y.length) : (X.zip Y).map Prod.snd = Y := List.map_snd_zip (by omega)
theorem sumW_c {G : Gra} {X Y : List Bool} {w : Nat} (hx : X.length = w) (hy : Y.length = w) (h1 : 1 ≤ w) (c : Bool) : ∃ B : List Bool, sumW w (G, 0) ((crs X).zip (crs Y)) c.toNat = ((G, 0), crs B) ∧ B.length = w ∧ bitsVal B = (bitsVal X + bitsVal Y + c.toNat) % 2 ^ w := by
  have hl : (X.zip Y).length = w := by rw [List.length_zip]; omega
  refine ⟨((X.zip Y).foldl (sB w) ([], c)).1, ?_, by rw [sB_len]; exact hl, ?_⟩
  · unfold sumW
    rw [crs_zip, sum_c]
  · rw [sB_last w c _ hl h1, fst_zip (by omega), snd_zip (by omega)]
theorem pow32 {w : Nat} (h : w ≤ 16) : ∃ Q, 4294967296 = 2 ^ w * Q ∧ 1 ≤ Q := ⟨2 ^ (32 - w), by rw [← Nat.pow_add, show w + (32 - w) = 32 by omega], Nat.one_le_two_pow⟩
theorem bit_val (b : Bool) : bitsVal [b] = b.toNat := by simp [bitsVal]
end Go.Aig
namespace Go.Aig
theorem bitsVal_take (X : List Bool) (m : Nat) : bitsVal (X.take m) = bitsVal X % 2 ^ m := by
  apply Nat.eq_of_testBit_eq
  intro i
  rw [Nat.testBit_mod_two_pow, bitsVal_bit, bitsVal_bit, List.getD_eq_getElem?_getD, List.getD_eq_getElem?_getD, List.getElem?_take]
  by_cases h : i < m <;> simp [h]
theorem bitsVal_zeros (k : Nat) (M : List Bool) : bitsVal (List.replicate k false ++ M) = 2 ^ k * bitsVal M := by
  induction k with
  | zero => simp
  | succ k ih =>
    rw [List.replicate_succ, List.cons_append]
    show false.toNat + 2 * bitsVal (List.replicate k false ++ M) = _
    rw [ih, Nat.pow_succ]
    simp only [Bool.toNat_false, Nat.zero_add]
    rw [← Nat.mul_assoc, Nat.mul_comm 2 (2 ^ k)]
theorem bitsVal_ands (b : Bool) (Z : List Bool) : bitsVal (Z.map fun a => a && b) = bitsVal Z * b.toNat := by
  induction Z with
  | nil => simp [bitsVal]
  | cons a Z ih =>
    show (a && b).toNat + 2 * bitsVal (Z.map fun a => a && b) = (a.toNat + 2 * bitsVal Z) * b.toNat
    rw [ih]
    cases a <;> cases b <;> simp
theorem ands_c (G : Gra) (b : Bool) (Z : List Bool) : andsF (G, 0) b.toNat (crs Z) = ((G, 0), crs (Z.map fun a => a && b)) := by
  unfold andsF
  have h := each_c G and (fun a b => a && b) (and_c G) (Z.map fun a => (a, b))
  rw [show ((crs Z).map fun a => (a, b.toNat)) = (Z.map fun a => (a, b)).map cp from by unfold crs cp; rw [List.map_map, List.map_map]; rfl, h, List.map_map]
  rfl
theorem crs_take (X : List Bool) (m : Nat) : (crs X).take m = crs (X.take m) := by unfold crs; rw [List.map_take]
theorem crs_zeros (k : Nat) (M : List Bool) : List.replicate k 0 ++ crs M = crs (List.replicate k false ++ M) := by unfold crs; simp
theorem mod_help (X Y B k w : Nat) (h : k ≤ w) : (X * Y % 2 ^ w + 2 ^ k * (X % 2 ^ (w - k) * B)) % 2 ^ w = X * (Y + B * 2 ^ k) % 2 ^ w := by
  have e : 2 ^ k * (X % 2 ^ (w - k)) = 2 ^ k * X % 2 ^ w := by
    rw [show 2 ^ w = 2 ^ k * 2 ^ (w - k) from by rw [← Nat.pow_add]; congr 1; omega, Nat.mul_mod_mul_left]
  rw [← Nat.mul_assoc, e, Nat.mul_add, Nat.add_mod, Nat.mul_mod (2 ^ k * X % 2 ^ w), Nat.mod_mod, Nat.mod_mod, ← Nat.mul_mod, ← Nat.add_mod]
  congr 2
  rw [Nat.mul_comm (2 ^ k) X, Nat.mul_assoc, Nat.mul_comm (2 ^ k) B]
theorem add_c {G : Gra} {X Y : List Bool} {w : Nat} (hx : X.length = w) (hy : Y.length = w) (h1 : 1 ≤ w) : ∃ B : List Bool, addR G (crs X) (crs Y) = (G, crs B, 0) ∧ B.length = w ∧ bitsVal B = (bitsVal X + bitsVal Y) % 2 ^ w := by
  obtain ⟨B, h, hl, hv⟩ := sumW_c (G := G) hx hy h1 false
  refine ⟨B, ?_, hl, by simpa using hv⟩
  unfold addR
  have h' : sumW w (G, 0) ((crs X).zip (crs Y)) 0 = ((G, 0), crs B) := h
  rw [crs_len, hx, h']
  rfl
theorem prod_c {G : Gra} {X : List Bool} {w : Nat} (hx : X.length = w) (h1 : 1 ≤ w) : ∀ Y : List Bool, 1 ≤ Y.length → Y.length ≤ w → ∃ B, prodF (crs X) (G, 0) (crs Y) = ((G, 0), crs B) ∧ B.length = w ∧ bitsVal B = bitsVal X * bitsVal Y % 2 ^ w := by
  intro Y
  induction Y using List.snocRec with
  | nil => intro h; simp at h
  | snoc Y b ih =>
    intro h0 hw
    rw [List.length_append] at hw
    simp at hw
    rw [crs_snoc, prodF_snoc, crs_len]
    have hX := bitsVal_lt X
    rw [hx] at hX
    by_cases hk : Y.length = 0
    · have hY : Y = [] := List.length_eq_zero_iff.1 hk
      subst hY
      refine ⟨X.map fun a => a && b, ?_, by simp [hx], ?_⟩
      · unfold prodS
        simp only [List.length_nil, if_true]
        rw [show prodF (crs X) (G, 0) (crs []) = ((G, 0), []) from rfl]
        simp only [crs_len, Nat.sub_zero]
        rw [crs_take, ands_c, List.take_length]
        simp
      · rw [bitsVal_ands]
        show bitsVal X * b.toNat = bitsVal X * bitsVal [b] % 2 ^ w
        rw [bit_val, Nat.mod_eq_of_lt]
        cases b <;> simp <;> omega
    · obtain ⟨B, hB, hl, hv⟩ := ih (by omega) (by omega)
      rw [hB]
      unfold prodS
      rw [if_neg hk]
      simp only [crs_len]
      rw [crs_take, ands_c]
      simp only [crs_zeros]
      obtain ⟨C, hC, hCl, hCv⟩ := add_c (G := G) (X := B) (Y := List.replicate Y.length false ++ (X.take (X.length - Y.length)).map fun a => a && b) (w := w) hl (by simp [hx]; omega) h1
      rw [hC]
      refine ⟨C, wstep_ok rfl rfl, hCl, ?_⟩
      rw [hCv, hv, bitsVal_zeros, bitsVal_ands, bitsVal_take, hx, bitsVal_snoc]
      exact mod_help _ _ _ _ _ (by omega)
theorem chk24_c {G : Gra} (hG : Ok G) {X Y : List Bool} {w : Nat} (hx : X.length = w) (hy : Y.length = w) (h1 : 1 ≤ w) (h16 : w ≤ 16) : chk24 G [natInts (crs X), natInts (crs Y)] = 0 := by
  unfold chk24
  simp only [List.any_cons, List.any_nil, Bool.or_false, List.headD_cons, badIn_c hG, bad24, natInts_crs_len, hx, hy]
  rw [if_neg (by simp; omega), if_neg (by simp)]
theorem chk24_c1 {G : Gra} (hG : Ok G) {X : List Bool} {w : Nat} (hx : X.length = w) (h1 : 1 ≤ w) (h16 : w ≤ 16) : chk24 G [natInts (crs X)] = 0 := by
  unfold chk24
  simp only [List.any_cons, List.any_nil, Bool.or_false, List.headD_cons, badIn_c hG, bad24, natInts_crs_len, hx]
  rw [if_neg (by simp; omega), if_neg (by simp)]
theorem mul_c {G : Gra} (hG : Ok G) {X Y : List Bool} {w : Nat} (hx : X.length = w) (hy : Y.length = w) (h1 : 1 ≤ w) (h16 : w ≤ 16) : ∃ B, mulG G (natInts (crs X)) (natInts (crs Y)) = (G, crs B, 0) ∧ B.length = w ∧ bitsVal B = bitsVal X * bitsVal Y % 2 ^ w := by
  obtain ⟨B, hB, hl, hv⟩ := prod_c (G := G) hx h1 Y (by omega) (by omega)
  refine ⟨B, ?_, hl, hv⟩
  unfold mulG
  rw [if_neg (by rw [chk24_c hG hx hy h1 h16]; simp), nats_crs, nats_crs, hB]
  rfl
theorem le_c (G : Gra) {X Y : List Bool} (h : X.length = Y.length) : leR G (crs X) (crs Y) = (G, (decide (bitsVal X ≤ bitsVal Y)).toNat, 0) := by
  unfold leR
  rw [crs_zip, lt_c, lB_val, fst_zip h.symm, snd_zip h.symm]
  show negG (G, (decide (bitsVal Y < bitsVal X)).toNat, 0) = _
  rw [negG_c]
  rw [show (!decide (bitsVal Y < bitsVal X)) = decide (bitsVal X ≤ bitsVal Y) from by rw [← decide_not]; congr 1; exact propext Nat.not_lt]
theorem sub_c {G : Gra} {X Y : List Bool} {w : Nat} (hx : X.length = w) (hy : Y.length = w) (h1 : 1 ≤ w) : ∃ B : List Bool, subR G (crs X) (crs Y) = (G, crs B, 0) ∧ B.length = w ∧ (bitsVal Y ≤ bitsVal X → bitsVal B = bitsVal X - bitsVal Y) := by
  obtain ⟨B, h, hl, hv⟩ := sumW_c (G := G) hx (Y := Y.map not) (by simp [hy]) h1 true
  refine ⟨B, ?_, hl, fun hle => ?_⟩
  · unfold subR
    have h' : sumW w (G, 0) ((crs X).zip (crs (Y.map not))) 1 = ((G, 0), crs B) := h
    rw [crs_len, hx, crs_neg, h']
    rfl
  · have hX := bitsVal_lt X
    have hY := bitsVal_lt Y
    rw [hx] at hX
    rw [hy] at hY
    rw [hv, not_val, hy]
    show (bitsVal X + (2 ^ w - 1 - bitsVal Y) + 1) % 2 ^ w = _
    rw [show bitsVal X + (2 ^ w - 1 - bitsVal Y) + 1 = (bitsVal X - bitsVal Y) + 2 ^ w by omega, Nat.add_mod_right, Nat.mod_eq_of_lt (by omega)]
theorem mux_c (G : Gra) (c : Bool) (X Y : List Bool) (h : X.length = Y.length) : chF c.toNat (G, 0) ((crs X).zip (crs Y)) = ((G, 0), crs (bif c then X else Y)) := by
  have e := each_c G (fun G a b => rMux G c.toNat a b) (fun a b => bif c then a else b) (rMux_c G c) (X.zip Y)
  rw [crs_zip]
  show eachF (rop fun G a b => rMux G c.toNat a b) (G, 0) _ = _
  rw [e]
  cases c
  · rw [show ((X.zip Y).map fun p => bif false then p.1 else p.2) = (X.zip Y).map Prod.snd from rfl, snd_zip h]; rfl
  · rw [show ((X.zip Y).map fun p => bif true then p.1 else p.2) = (X.zip Y).map Prod.fst from rfl, fst_zip h]; rfl
/-- what is known of quotient and rest of the bits so far -/
def DvI (y k z q r : Nat) : Prop := if y = 0 then q = 2 ^ k - 1 ∧ r = z else q * y + r = z ∧ r < y
theorem div_c {G : Gra} {Y : List Bool} {w : Nat} (hy : Y.length = w) : ∀ Z : List Bool, Z.length ≤ w → ∃ Q R, divF (crs (Y ++ [false])) (G, 0) (crs Z) = ((G, 0), crs Q, crs R) ∧ Q.length = Z.length ∧ R.length = w + 1 ∧ DvI (bitsVal Y) Z.length (bitsVal Z.reverse) (bitsVal Q.reverse) (bitsVal R) := by
  intro Z
  have hY := bitsVal_lt Y
  rw [hy] at hY
  have hd : bitsVal (Y ++ [false]) = bitsVal Y := by rw [bitsVal_snoc]; simp
  have hdl : (Y ++ [false]).length = w + 1 := by simp [hy]
  induction Z using List.snocRec with
  | nil =>
    intro _
    refine ⟨[], List.replicate (w + 1) false, ?_, rfl, by simp, ?_⟩
    · show ((G, 0), [], List.replicate (crs (Y ++ [false])).length 0) = _
      rw [crs_len, hdl]
      simp [crs]
    · have h0 : bitsVal (List.replicate (w + 1) false) = 0 := by
        have := bitsVal_zeros (w + 1) []
        rw [List.append_nil] at this
        rw [this]; simp [bitsVal]
      rw [h0]
      unfold DvI
      simp [bitsVal]
      omega
  | snoc Z b ih =>
    intro hw
    rw [List.length_append] at hw
    simp at hw
    obtain ⟨Q, R, h, hQ, hR, hI⟩ := ih (by omega)
    rw [crs_snoc Z b, divF_snoc, h]
    obtain ⟨T, hT⟩ : ∃ T, T = b :: R.dropLast := ⟨_, rfl⟩
    have hTc : b.toNat :: (crs R).dropLast = crs T := by rw [hT]; unfold crs; simp [List.map_dropLast]
    have hTl : T.length = w + 1 := by rw [hT]; simp [hR]
    have hZ := bitsVal_lt Z.reverse
    rw [List.length_reverse] at hZ
    have hZw : 2 ^ Z.length ≤ 2 ^ w := Nat.pow_le_pow_right (by omega) (by omega)
    have hRlt : bitsVal R < 2 ^ w := by
      unfold DvI at hI
      split at hI <;> omega
    have hTv : bitsVal T = b.toNat + 2 * bitsVal R := by
      rw [hT]
      show b.toNat + 2 * bitsVal R.dropLast = _
      rw [List.dropLast_eq_take, bitsVal_take, hR, Nat.add_sub_cancel, Nat.mod_eq_of_lt hRlt]
    obtain ⟨S, hS, hSl, hSv⟩ := sub_c (G := G) (X := T) (Y := Y ++ [false]) (w := w + 1) hTl hdl (by omega)
    have hLe := le_c G (X := Y ++ [false]) (Y := T) (by omega)
    rw [hd] at hLe hSv
    obtain ⟨f, hf⟩ : ∃ f, f = decide (bitsVal Y ≤ bitsVal T) := ⟨_, rfl⟩
    rw [← hf] at hLe
    have hL : divL (crs (Y ++ [false])) ((G, 0), crs Q, crs R) b.toNat = ((G, 0), f.toNat) := by
      unfold divL
      simp only [hTc, hLe]
      rfl
    have hD : divD (crs (Y ++ [false])) ((G, 0), crs Q, crs R) b.toNat = ((G, 0), crs S) := by
      unfold divD
      rw [hL]
      simp only [hTc, hS]
      rfl
    have hM : divM (crs (Y ++ [false])) ((G, 0), crs Q, crs R) b.toNat = ((G, 0), crs (bif f then S else T)) := by
      unfold divM
      rw [hL, hD]
      simp only [hTc]
      exact mux_c G f S T (by omega)
    refine ⟨Q ++ [f], bif f then S else T, ?_, by simp [hQ], by cases f <;> simp [hSl, hTl], ?_⟩
    · unfold divS
      rw [hM, hL, crs_snoc Q f]
    · have e1 : bitsVal (Z ++ [b]).reverse = b.toNat + 2 * bitsVal Z.reverse := by rw [List.reverse_append]; rfl
      have e2 : bitsVal (Q ++ [f]).reverse = f.toNat + 2 * bitsVal Q.reverse := by rw [List.reverse_append]; rfl
      have hb := b_le b
      rw [e1, e2, List.length_append]
      have hp : 2 ^ (Z.length + [b].length) = 2 * 2 ^ Z.length := by simp [Nat.pow_succ, Nat.mul_comm]
      unfold DvI at hI ⊢
      rw [hp]
      have hP : 0 < 2 ^ Z.length := Nat.two_pow_pos _
      by_cases h0 : bitsVal Y = 0
      · rw [if_pos h0] at hI ⊢
        have hft : f = true := by rw [hf]; exact decide_eq_true (by omega)
        rw [hft]
        simp only [Bool.toNat_true, cond_true]
        have hs := hSv (by omega)
        omega
      · rw [if_neg h0] at hI ⊢
        rw [hTv] at hf hSv
        cases f
        · have hlt : ¬ bitsVal Y ≤ b.toNat + 2 * bitsVal R := of_decide_eq_false hf.symm
          simp only [Bool.toNat_false, cond_false, Nat.zero_add]
          rw [hTv, Nat.mul_assoc]
          omega
        · have hle : bitsVal Y ≤ b.toNat + 2 * bitsVal R := of_decide_eq_true hf.symm
          have hs := hSv hle
          simp only [Bool.toNat_true, cond_true]
          rw [hs, Nat.add_mul, Nat.mul_assoc]
          omega
theorem DvI.quo {y k z q r : Nat} (h : DvI y k z q r) : q = if y = 0 then 2 ^ k - 1 else z / y := by
  unfold DvI at h
  split at h
  · rename_i h0; rw [if_pos h0]; exact h.1
  · rename_i h0
    rw [if_neg h0, ← h.1, Nat.add_comm, Nat.add_mul_div_right _ _ (by omega), Nat.div_eq_of_lt h.2, Nat.zero_add]
theorem DvI.rem {y k z q r : Nat} (h : DvI y k z q r) : r = if y = 0 then z else z % y := by
  unfold DvI at h
  split at h
  · rename_i h0; rw [if_pos h0]; exact h.2
  · rename_i h0
    rw [if_neg h0, ← h.1, Nat.add_comm, Nat.add_mul_mod_self_right, Nat.mod_eq_of_lt h.2]
theorem both_c {G : Gra} (hG : Ok G) {X Y : List Bool} {w : Nat} (hx : X.length = w) (hy : Y.length = w) (h1 : 1 ≤ w) (h16 : w ≤ 16) : ∃ Q R, bothG G (natInts (crs X)) (natInts (crs Y)) = (G, (crs Q, crs R), 0) ∧ Q.length = w ∧ R.length = w ∧ (bitsVal Q = if bitsVal Y = 0 then 2 ^ w - 1 else bitsVal X / bitsVal Y) ∧ bitsVal R = if bitsVal Y = 0 then bitsVal X else bitsVal X % bitsVal Y := by
  obtain ⟨Q, R, h, hQ, hR, hI⟩ := div_c (G := G) hy X.reverse (by simp [hx])
  rw [List.length_reverse] at hQ hI
  rw [List.reverse_reverse] at hI
  have hX := bitsVal_lt X
  rw [hx] at hX hQ hI
  have hrl : bitsVal R < 2 ^ w := by
    have hY := bitsVal_lt Y
    rw [hy] at hY
    unfold DvI at hI
    split at hI <;> omega
  refine ⟨Q.reverse, R.take w, ?_, by simp [hQ], by simp [hR], hI.quo, ?_⟩
  · unfold bothG
    rw [if_neg (by rw [chk24_c hG hx hy h1 h16]; simp), nats_crs, nats_crs, natInts_crs_len]
    have hd : crs Y ++ [0] = crs (Y ++ [false]) := by rw [crs_snoc]; rfl
    have hr : (crs X).reverse = crs X.reverse := by unfold crs; rw [List.map_reverse]
    rw [hd, hr, h]
    unfold bres
    rw [if_neg (by simp), crs_take, hx]
    simp only [crs, List.map_reverse]
  · rw [bitsVal_take, Nat.mod_eq_of_lt hrl]
    exact hI.rem
end Go.Aig
namespace Go.Proofs.YtkedpifopclipaaGreat
open Go.RowKit Go.Mem Go.Aig
section
variable {w : World}
def TabC : Array Value := #[.string ⟨#[]⟩, .int .i64 0, .bool false, .nilFunc, .string ⟨#[126]⟩, .int .i64 0, .bool false, .func (.func 63) #[] #[], .string ⟨#[45]⟩, .int .i64 0, .bool false, .func (.func 64) #[] #[], .string ⟨#[43]⟩, .int .i64 5, .bool false, .func (.func 65) #[] #[], .string ⟨#[45]⟩, .int .i64 5, .bool false, .func (.func 66) #[] #[], .string ⟨#[42]⟩, .int .i64 6, .bool false, .func (.func 67) #[] #[], .string ⟨#[47]⟩, .int .i64 6, .bool false, .func (.func 68) #[] #[], .string ⟨#[37]⟩, .int .i64 6, .bool false, .func (.func 69) #[] #[], .string ⟨#[38]⟩, .int .i64 2, .bool false, .func (.func 70) #[] #[], .string ⟨#[124]⟩, .int .i64 1, .bool false, .func (.func 71) #[] #[], .string ⟨#[94]⟩, .int .i64 1, .bool false, .func (.func 72) #[] #[], .string ⟨#[60, 60]⟩, .int .i64 4, .bool false, .func (.func 73) #[] #[], .string ⟨#[62, 62]⟩, .int .i64 4, .bool false, .func (.func 74) #[] #[], .string ⟨#[61, 61]⟩, .int .i64 3, .bool true, .func (.func 75) #[] #[], .string ⟨#[33, 61]⟩, .int .i64 3, .bool true, .func (.func 77) #[] #[], .string ⟨#[60]⟩, .int .i64 3, .bool true, .func (.func 78) #[] #[], .string ⟨#[60, 61]⟩, .int .i64 3, .bool true, .func (.func 79) #[] #[]]
theorem frozen_alloc (w : World) (c : Array Value) (t : TypeId) (j : Nat) : (w.alloc (.cells c t)).frozen? ⟨w.heap.size, j, none⟩ = false := by
  simp only [World.frozen?]
  rw [heap_alloc_last]
  simp
set_option maxRecDepth 100000 in
set_option maxHeartbeats 4000000 in
theorem bName_is (k : Nat) (v : Value) (hk : k < 17) (hx : TabC[k * 4]? = some v) : Calls Tryz.prog 35 #[.int .u8 k] w fun e w' => e = .returned v ∧ Ch [] w w' := by
  have hk1 : ¬ ((17 : Int) ≤ (k : Int)) := by omega
  have hk2 : ¬ (17 ≤ k) := by omega
  have hk3 : ((k : Int)) < 17 := by omega
  go_enter Tryz.func35, Tryz.ntmps35
  go_wp2_with fail
  refine table_is.mono ?_
  rintro e w1 ⟨rfl, h1⟩
  have hs1 := run_storeAt_new (P := Tryz.prog) w1 77 Tryz.zeroCells77 #[.string ⟨#[]⟩, .int .i64 0, .bool false, .nilFunc, .string ⟨#[126]⟩, .int .i64 0, .bool false, .func (.func 63) #[] #[], .string ⟨#[45]⟩, .int .i64 0, .bool false, .func (.func 64) #[] #[], .string ⟨#[43]⟩, .int .i64 5, .bool false, .func (.func 65) #[] #[], .string ⟨#[45]⟩, .int .i64 5, .bool false, .func (.func 66) #[] #[], .string ⟨#[42]⟩, .int .i64 6, .bool false, .func (.func 67) #[] #[], .string ⟨#[47]⟩, .int .i64 6, .bool false, .func (.func 68) #[] #[], .string ⟨#[37]⟩, .int .i64 6, .bool false, .func (.func 69) #[] #[], .string ⟨#[38]⟩, .int .i64 2, .bool false, .func (.func 70) #[] #[], .string ⟨#[124]⟩, .int .i64 1, .bool false, .func (.func 71) #[] #[], .string ⟨#[94]⟩, .int .i64 1, .bool false, .func (.func 72) #[] #[], .string ⟨#[60, 60]⟩, .int .i64 4, .bool false, .func (.func 73) #[] #[], .string ⟨#[62, 62]⟩, .int .i64 4, .bool false, .func (.func 74) #[] #[], .string ⟨#[61, 61]⟩, .int .i64 3, .bool true, .func (.func 75) #[] #[], .string ⟨#[33, 61]⟩, .int .i64 3, .bool true, .func (.func 77) #[] #[], .string ⟨#[60]⟩, .int .i64 3, .bool true, .func (.func 78) #[] #[], .string ⟨#[60, 61]⟩, .int .i64 3, .bool true, .func (.func 79) #[] #[]] (by kernel_rfl) (by kernel_rfl) (by kernel_rfl)
  go_wp2_with (refine wpList_store_one 77 (.tmp 3) (.tmp 4) _ _ rfl rfl hs1 ?_ ?_ ?_)
  · unfold Stop
    rfl
  · unfold Stop
    rfl
  · unfold Stop
    have hf : (w1.alloc (.cells #[.string ⟨#[]⟩, .int .i64 0, .bool false, .nilFunc, .string ⟨#[126]⟩, .int .i64 0, .bool false, .func (.func 63) #[] #[], .string ⟨#[45]⟩, .int .i64 0, .bool false, .func (.func 64) #[] #[], .string ⟨#[43]⟩, .int .i64 5, .bool false, .func (.func 65) #[] #[], .string ⟨#[45]⟩, .int .i64 5, .bool false, .func (.func 66) #[] #[], .string ⟨#[42]⟩, .int .i64 6, .bool false, .func (.func 67) #[] #[], .string ⟨#[47]⟩, .int .i64 6, .bool false, .func (.func 68) #[] #[], .string ⟨#[37]⟩, .int .i64 6, .bool false, .func (.func 69) #[] #[], .string ⟨#[38]⟩, .int .i64 2, .bool false, .func (.func 70) #[] #[], .string ⟨#[124]⟩, .int .i64 1, .bool false, .func (.func 71) #[] #[], .string ⟨#[94]⟩, .int .i64 1, .bool false, .func (.func 72) #[] #[], .string ⟨#[60, 60]⟩, .int .i64 4, .bool false, .func (.func 73) #[] #[], .string ⟨#[62, 62]⟩, .int .i64 4, .bool false, .func (.func 74) #[] #[], .string ⟨#[61, 61]⟩, .int .i64 3, .bool true, .func (.func 75) #[] #[], .string ⟨#[33, 61]⟩, .int .i64 3, .bool true, .func (.func 77) #[] #[], .string ⟨#[60]⟩, .int .i64 3, .bool true, .func (.func 78) #[] #[], .string ⟨#[60, 61]⟩, .int .i64 3, .bool true, .func (.func 79) #[] #[]] 77)).frozen? ⟨w1.heap.size, k * 4, none⟩ = false := frozen_alloc _ _ _ _
    have hc : (w1.alloc (.cells #[.string ⟨#[]⟩, .int .i64 0, .bool false, .nilFunc, .string ⟨#[126]⟩, .int .i64 0, .bool false, .func (.func 63) #[] #[], .string ⟨#[45]⟩, .int .i64 0, .bool false, .func (.func 64) #[] #[], .string ⟨#[43]⟩, .int .i64 5, .bool false, .func (.func 65) #[] #[], .string ⟨#[45]⟩, .int .i64 5, .bool false, .func (.func 66) #[] #[], .string ⟨#[42]⟩, .int .i64 6, .bool false, .func (.func 67) #[] #[], .string ⟨#[47]⟩, .int .i64 6, .bool false, .func (.func 68) #[] #[], .string ⟨#[37]⟩, .int .i64 6, .bool false, .func (.func 69) #[] #[], .string ⟨#[38]⟩, .int .i64 2, .bool false, .func (.func 70) #[] #[], .string ⟨#[124]⟩, .int .i64 1, .bool false, .func (.func 71) #[] #[], .string ⟨#[94]⟩, .int .i64 1, .bool false, .func (.func 72) #[] #[], .string ⟨#[60, 60]⟩, .int .i64 4, .bool false, .func (.func 73) #[] #[], .string ⟨#[62, 62]⟩, .int .i64 4, .bool false, .func (.func 74) #[] #[], .string ⟨#[61, 61]⟩, .int .i64 3, .bool true, .func (.func 75) #[] #[], .string ⟨#[33, 61]⟩, .int .i64 3, .bool true, .func (.func 77) #[] #[], .string ⟨#[60]⟩, .int .i64 3, .bool true, .func (.func 78) #[] #[], .string ⟨#[60, 61]⟩, .int .i64 3, .bool true, .func (.func 79) #[] #[]] 77)).cell? ⟨w1.heap.size, k * 4, none⟩ = some v := (cell_of_row _ _ (k * 4) _ 77 (0, 0) (heap_alloc_last w1 (.cells TabC 77))).trans hx
    go_wp2_with fail
    go_ret
    exact ⟨rfl, h1.alloc _⟩
end
end Go.Proofs.YtkedpifopclipaaGreat
namespace Go.Aig
def mulW (x y _m : Nat) : Nat := x * y % 4294967296
def quoW (x y m : Nat) : Nat := if y = 0 then m else x / y
def remW (x y _m : Nat) : Nat := if y = 0 then x else x % y
end Go.Aig
namespace Go.Proofs.YtkedpifopclipaaGreat
open Go.RowKit Go.Mem Go.Aig
section
variable {w : World}
set_option maxRecDepth 100000 in
theorem bt5_is (x y m : Nat) : Calls Tryz.prog 67 #[.int .u32 x, .int .u32 y, .int .u32 m] w fun e w' => e = .returned (.int .u32 (mulW x y m : Nat)) ∧ w = w' := by
  have hr : ((x : Int) * y % 4294967296) = ((mulW x y m : Nat) : Int) := by unfold mulW; simp
  have HR := Lib.hid hr; clear hr
  go_enter Tryz.func67, Tryz.ntmps67
  go_wp2_with fail
  go_ret
  refine ⟨?_, rfl⟩
  exact ret_int HR.out
set_option maxRecDepth 100000 in
theorem bt6_is (x y m : Nat) (hx : x < 65536) (hy : y < 65536) (_hm : m < 65536) : Calls Tryz.prog 68 #[.int .u32 x, .int .u32 y, .int .u32 m] w fun e w' => e = .returned (.int .u32 (quoW x y m : Nat)) ∧ w = w' := by
  by_cases h0 : y = 0
  · subst h0
    have hr : quoW x 0 m = m := by unfold quoW; simp
    rw [hr]
    go_enter Tryz.func68, Tryz.ntmps68
    go_wp2_with fail
    go_ret
    exact ⟨rfl, rfl⟩
  · have hr : ((x : Int) / (y : Int)) = ((quoW x y m : Nat) : Int) := by unfold quoW; rw [if_neg h0]; simp
    have hb : ((y : Int) == 0) = false := beqN (by omega)
    have hy1 : (y : Int) ≠ 0 := by omega
    have hr2 : ((x : Int) / (y : Int)) % 4294967296 = ((quoW x y m : Nat) : Int) := by
      rw [hr]
      have hlt : quoW x y m < 4294967296 := by
        unfold quoW
        rw [if_neg h0]
        exact Nat.lt_of_le_of_lt (Nat.div_le_self _ _) (by omega)
      generalize quoW x y m = z at *
      omega
    have HR := Lib.hid hr; clear hr h0
    have HR2 := Lib.hid hr2; clear hr2
    go_enter Tryz.func68, Tryz.ntmps68
    go_wp2_with fail
    go_ret
    refine ⟨?_, rfl⟩
    first | exact ret_int HR.out | exact ret_int HR2.out
set_option maxRecDepth 100000 in
theorem bt7_is (x y m : Nat) (hx : x < 65536) (hy : y < 65536) (_hm : m < 65536) : Calls Tryz.prog 69 #[.int .u32 x, .int .u32 y, .int .u32 m] w fun e w' => e = .returned (.int .u32 (remW x y m : Nat)) ∧ w = w' := by
  by_cases h0 : y = 0
  · subst h0
    have hr : remW x 0 m = x := by unfold remW; simp
    rw [hr]
    go_enter Tryz.func69, Tryz.ntmps69
    go_wp2_with fail
    go_ret
    exact ⟨rfl, rfl⟩
  · have hr : ((x : Int) % (y : Int)) = ((remW x y m : Nat) : Int) := by unfold remW; rw [if_neg h0]; simp
    have hb : ((y : Int) == 0) = false := beqN (by omega)
    have hy1 : (y : Int) ≠ 0 := by omega
    have hr2 : ((x : Int) % (y : Int)) % 4294967296 = ((remW x y m : Nat) : Int) := by
      rw [hr]
      have hlt : remW x y m < 4294967296 := by
        unfold remW
        rw [if_neg h0]
        exact Nat.lt_of_le_of_lt (Nat.mod_le _ _) (by omega)
      generalize remW x y m = z at *
      omega
    have HR := Lib.hid hr; clear hr h0
    have HR2 := Lib.hid hr2; clear hr2
    go_enter Tryz.func69, Tryz.ntmps69
    go_wp2_with fail
    go_ret
    refine ⟨?_, rfl⟩
    first | exact ret_int HR.out | exact ret_int HR2.out
set_option maxRecDepth 100000 in
set_option maxHeartbeats 4000000 in
theorem bApply5_is (x y n : Nat) (hx : x < 4294967296) (hy : y < 4294967296) (h1 : 1 ≤ n) (h16 : n ≤ 16) : Calls Tryz.prog 13 #[.int .u8 5, .int .i64 n, .int .u32 x, .int .u32 y] w fun e w' => e = .returned (.tuple #[.int .u32 (mulW (x &&& (2 ^ n - 1)) (y &&& (2 ^ n - 1)) (2 ^ n - 1) &&& (2 ^ n - 1) : Nat), .int .i64 0]) ∧ Ch [] w w' := by
  have h3 : 2 ^ n ≤ 2 ^ 16 := Nat.pow_le_pow_right (by omega) h16
  have HN := bName_is (w := w) 5 (.string ⟨#[42]⟩) (by omega) rfl
  have HM := fun w => Most_is (w := w) n h1 h16
  generalize hm : 2 ^ n - 1 = m at *
  have hm16 : m < 65536 := by omega
  have hux := u32_and_nat x m hx (by omega)
  have huy := u32_and_nat y m hy (by omega)
  have hXm : x &&& m ≤ m := Nat.and_le_right
  have hYm : y &&& m ≤ m := Nat.and_le_right
  generalize hX : x &&& m = X at *
  generalize hY : y &&& m = Y at *
  have HB := fun w => bt5_is (w := w) X Y m
  have hv : mulW X Y m < 4294967296 := by
    unfold mulW; exact Nat.mod_lt _ (by omega)
  have huv := u32_and_nat (mulW X Y m) m hv (by omega)
  generalize mulW X Y m = v at *
  go_enter Tryz.func13, Tryz.ntmps13
  go_wp2_with fail
  refine HN.mono ?_
  rintro e w1 ⟨rfl, hw1⟩
  go_wp2_with fail
  refine (HM w1).mono ?_
  rintro e w2 ⟨rfl, rfl⟩
  go_wp2_with fail
  refine table_is.mono ?_
  rintro e w3 ⟨rfl, hw3⟩
  have hix : ∀ w, (Instr.index 77 (.agg #[.string ⟨#[]⟩, .int .i64 0, .bool false, .nilFunc, .string ⟨#[126]⟩, .int .i64 0, .bool false, .func (.func 63) #[] #[], .string ⟨#[45]⟩, .int .i64 0, .bool false, .func (.func 64) #[] #[], .string ⟨#[43]⟩, .int .i64 5, .bool false, .func (.func 65) #[] #[], .string ⟨#[45]⟩, .int .i64 5, .bool false, .func (.func 66) #[] #[], .string ⟨#[42]⟩, .int .i64 6, .bool false, .func (.func 67) #[] #[], .string ⟨#[47]⟩, .int .i64 6, .bool false, .func (.func 68) #[] #[], .string ⟨#[37]⟩, .int .i64 6, .bool false, .func (.func 69) #[] #[], .string ⟨#[38]⟩, .int .i64 2, .bool false, .func (.func 70) #[] #[], .string ⟨#[124]⟩, .int .i64 1, .bool false, .func (.func 71) #[] #[], .string ⟨#[94]⟩, .int .i64 1, .bool false, .func (.func 72) #[] #[], .string ⟨#[60, 60]⟩, .int .i64 4, .bool false, .func (.func 73) #[] #[], .string ⟨#[62, 62]⟩, .int .i64 4, .bool false, .func (.func 74) #[] #[], .string ⟨#[61, 61]⟩, .int .i64 3, .bool true, .func (.func 75) #[] #[], .string ⟨#[33, 61]⟩, .int .i64 3, .bool true, .func (.func 77) #[] #[], .string ⟨#[60]⟩, .int .i64 3, .bool true, .func (.func 78) #[] #[], .string ⟨#[60, 61]⟩, .int .i64 3, .bool true, .func (.func 79) #[] #[]]) (.int .u8 5)).run Tryz.prog w = .ok (.agg #[.string ⟨#[42]⟩, .int .i64 6, .bool false, .func (.func 67) #[] #[]]) w := fun w => by first | kernel_rfl | rfl
  have hfl : ∀ w, (Instr.field 76 (.agg #[.string ⟨#[42]⟩, .int .i64 6, .bool false, .func (.func 67) #[] #[]]) 3).run Tryz.prog w = .ok (.func (.func 67) #[] #[]) w := fun w => by first | kernel_rfl | rfl
  go_wp2_with fail
  refine (HB w3).mono ?_
  rintro e w4 ⟨rfl, rfl⟩
  go_wp2_with fail
  go_ret2
  exact ⟨rfl, hw1.trans hw3 (by simp)⟩
set_option maxRecDepth 100000 in
set_option maxHeartbeats 4000000 in
theorem bApply6_is (x y n : Nat) (hx : x < 4294967296) (hy : y < 4294967296) (h1 : 1 ≤ n) (h16 : n ≤ 16) : Calls Tryz.prog 13 #[.int .u8 6, .int .i64 n, .int .u32 x, .int .u32 y] w fun e w' => e = .returned (.tuple #[.int .u32 (quoW (x &&& (2 ^ n - 1)) (y &&& (2 ^ n - 1)) (2 ^ n - 1) &&& (2 ^ n - 1) : Nat), .int .i64 0]) ∧ Ch [] w w' := by
  have h3 : 2 ^ n ≤ 2 ^ 16 := Nat.pow_le_pow_right (by omega) h16
  have HN := bName_is (w := w) 6 (.string ⟨#[47]⟩) (by omega) rfl
  have HM := fun w => Most_is (w := w) n h1 h16
  generalize hm : 2 ^ n - 1 = m at *
  have hm16 : m < 65536 := by omega
  have hux := u32_and_nat x m hx (by omega)
  have huy := u32_and_nat y m hy (by omega)
  have hXm : x &&& m ≤ m := Nat.and_le_right
  have hYm : y &&& m ≤ m := Nat.and_le_right
  generalize hX : x &&& m = X at *
  generalize hY : y &&& m = Y at *
  have HB := fun w => bt6_is (w := w) X Y m (by omega) (by omega) hm16
  have hv : quoW X Y m < 4294967296 := by
    unfold quoW; split; · omega
    · exact Nat.lt_of_le_of_lt (Nat.div_le_self _ _) (by omega)
  have huv := u32_and_nat (quoW X Y m) m hv (by omega)
  generalize quoW X Y m = v at *
  go_enter Tryz.func13, Tryz.ntmps13
  go_wp2_with fail
  refine HN.mono ?_
  rintro e w1 ⟨rfl, hw1⟩
  go_wp2_with fail
  refine (HM w1).mono ?_
  rintro e w2 ⟨rfl, rfl⟩
  go_wp2_with fail
  refine table_is.mono ?_
  rintro e w3 ⟨rfl, hw3⟩
  have hix : ∀ w, (Instr.index 77 (.agg #[.string ⟨#[]⟩, .int .i64 0, .bool false, .nilFunc, .string ⟨#[126]⟩, .int .i64 0, .bool false, .func (.func 63) #[] #[], .string ⟨#[45]⟩, .int .i64 0, .bool false, .func (.func 64) #[] #[], .string ⟨#[43]⟩, .int .i64 5, .bool false, .func (.func 65) #[] #[], .string ⟨#[45]⟩, .int .i64 5, .bool false, .func (.func 66) #[] #[], .string ⟨#[42]⟩, .int .i64 6, .bool false, .func (.func 67) #[] #[], .string ⟨#[47]⟩, .int .i64 6, .bool false, .func (.func 68) #[] #[], .string ⟨#[37]⟩, .int .i64 6, .bool false, .func (.func 69) #[] #[], .string ⟨#[38]⟩, .int .i64 2, .bool false, .func (.func 70) #[] #[], .string ⟨#[124]⟩, .int .i64 1, .bool false, .func (.func 71) #[] #[], .string ⟨#[94]⟩, .int .i64 1, .bool false, .func (.func 72) #[] #[], .string ⟨#[60, 60]⟩, .int .i64 4, .bool false, .func (.func 73) #[] #[], .string ⟨#[62, 62]⟩, .int .i64 4, .bool false, .func (.func 74) #[] #[], .string ⟨#[61, 61]⟩, .int .i64 3, .bool true, .func (.func 75) #[] #[], .string ⟨#[33, 61]⟩, .int .i64 3, .bool true, .func (.func 77) #[] #[], .string ⟨#[60]⟩, .int .i64 3, .bool true, .func (.func 78) #[] #[], .string ⟨#[60, 61]⟩, .int .i64 3, .bool true, .func (.func 79) #[] #[]]) (.int .u8 6)).run Tryz.prog w = .ok (.agg #[.string ⟨#[47]⟩, .int .i64 6, .bool false, .func (.func 68) #[] #[]]) w := fun w => by first | kernel_rfl | rfl
  have hfl : ∀ w, (Instr.field 76 (.agg #[.string ⟨#[47]⟩, .int .i64 6, .bool false, .func (.func 68) #[] #[]]) 3).run Tryz.prog w = .ok (.func (.func 68) #[] #[]) w := fun w => by first | kernel_rfl | rfl
  go_wp2_with fail
  refine (HB w3).mono ?_
  rintro e w4 ⟨rfl, rfl⟩
  go_wp2_with fail
  go_ret2
  exact ⟨rfl, hw1.trans hw3 (by simp)⟩
set_option maxRecDepth 100000 in
set_option maxHeartbeats 4000000 in
theorem bApply7_is (x y n : Nat) (hx : x < 4294967296) (hy : y < 4294967296) (h1 : 1 ≤ n) (h16 : n ≤ 16) : Calls Tryz.prog 13 #[.int .u8 7, .int .i64 n, .int .u32 x, .int .u32 y] w fun e w' => e = .returned (.tuple #[.int .u32 (remW (x &&& (2 ^ n - 1)) (y &&& (2 ^ n - 1)) (2 ^ n - 1) &&& (2 ^ n - 1) : Nat), .int .i64 0]) ∧ Ch [] w w' := by
  have h3 : 2 ^ n ≤ 2 ^ 16 := Nat.pow_le_pow_right (by omega) h16
  have HN := bName_is (w := w) 7 (.string ⟨#[37]⟩) (by omega) rfl
  have HM := fun w => Most_is (w := w) n h1 h16
  generalize hm : 2 ^ n - 1 = m at *
  have hm16 : m < 65536 := by omega
  have hux := u32_and_nat x m hx (by omega)
  have huy := u32_and_nat y m hy (by omega)
  have hXm : x &&& m ≤ m := Nat.and_le_right
  have hYm : y &&& m ≤ m := Nat.and_le_right
  generalize hX : x &&& m = X at *
  generalize hY : y &&& m = Y at *
  have HB := fun w => bt7_is (w := w) X Y m (by omega) (by omega) hm16
  have hv : remW X Y m < 4294967296 := by
    unfold remW; split; · omega
    · exact Nat.lt_of_le_of_lt (Nat.mod_le _ _) (by omega)
  have huv := u32_and_nat (remW X Y m) m hv (by omega)
  generalize remW X Y m = v at *
  go_enter Tryz.func13, Tryz.ntmps13
  go_wp2_with fail
  refine HN.mono ?_
  rintro e w1 ⟨rfl, hw1⟩
  go_wp2_with fail
  refine (HM w1).mono ?_
  rintro e w2 ⟨rfl, rfl⟩
  go_wp2_with fail
  refine table_is.mono ?_
  rintro e w3 ⟨rfl, hw3⟩
  have hix : ∀ w, (Instr.index 77 (.agg #[.string ⟨#[]⟩, .int .i64 0, .bool false, .nilFunc, .string ⟨#[126]⟩, .int .i64 0, .bool false, .func (.func 63) #[] #[], .string ⟨#[45]⟩, .int .i64 0, .bool false, .func (.func 64) #[] #[], .string ⟨#[43]⟩, .int .i64 5, .bool false, .func (.func 65) #[] #[], .string ⟨#[45]⟩, .int .i64 5, .bool false, .func (.func 66) #[] #[], .string ⟨#[42]⟩, .int .i64 6, .bool false, .func (.func 67) #[] #[], .string ⟨#[47]⟩, .int .i64 6, .bool false, .func (.func 68) #[] #[], .string ⟨#[37]⟩, .int .i64 6, .bool false, .func (.func 69) #[] #[], .string ⟨#[38]⟩, .int .i64 2, .bool false, .func (.func 70) #[] #[], .string ⟨#[124]⟩, .int .i64 1, .bool false, .func (.func 71) #[] #[], .string ⟨#[94]⟩, .int .i64 1, .bool false, .func (.func 72) #[] #[], .string ⟨#[60, 60]⟩, .int .i64 4, .bool false, .func (.func 73) #[] #[], .string ⟨#[62, 62]⟩, .int .i64 4, .bool false, .func (.func 74) #[] #[], .string ⟨#[61, 61]⟩, .int .i64 3, .bool true, .func (.func 75) #[] #[], .string ⟨#[33, 61]⟩, .int .i64 3, .bool true, .func (.func 77) #[] #[], .string ⟨#[60]⟩, .int .i64 3, .bool true, .func (.func 78) #[] #[], .string ⟨#[60, 61]⟩, .int .i64 3, .bool true, .func (.func 79) #[] #[]]) (.int .u8 7)).run Tryz.prog w = .ok (.agg #[.string ⟨#[37]⟩, .int .i64 6, .bool false, .func (.func 69) #[] #[]]) w := fun w => by first | kernel_rfl | rfl
  have hfl : ∀ w, (Instr.field 76 (.agg #[.string ⟨#[37]⟩, .int .i64 6, .bool false, .func (.func 69) #[] #[]]) 3).run Tryz.prog w = .ok (.func (.func 69) #[] #[]) w := fun w => by first | kernel_rfl | rfl
  go_wp2_with fail
  refine (HB w3).mono ?_
  rintro e w4 ⟨rfl, rfl⟩
  go_wp2_with fail
  go_ret2
  exact ⟨rfl, hw1.trans hw3 (by simp)⟩
end
end Go.Proofs.YtkedpifopclipaaGreat
namespace Go.Proofs.YtkedpifopclipaaGreat
open Go.RowKit Go.Mem Go.Aig
def u64s (l : List Nat) : List Value := l.map fun (r : Nat) => .int .u64 r
/-- the words of the four inputs -/
def inWords : List Nat := [43690, 52428, 61680, 65280]
/-- the word of a reference, over the words of the nodes -/
def wv (vs : List Nat) (r : Nat) : Nat := if r % 2 = 1 then vs.getD (r / 2) 0 ^^^ 65535 else vs.getD (r / 2) 0
end Go.Proofs.YtkedpifopclipaaGreat
namespace Go.Aig
/-- what the program tells of a node -/
theorem node_tells {G : Gra} (h : Ok G) {n : Nat} {x : Nd} (hx : G.nodes[n]? = some x) : kindOf G.nodes ((2 * n : Nat) : Int) = x.k ∧ lOf G.nodes ((2 * n : Nat) : Int) = x.l ∧ rOf G.nodes ((2 * n : Nat) : Int) = x.r ∧ x.k ≤ 3 := by
  have hn : nodeAt G.nodes ((2 * n : Nat) : Int) = some x := by
    unfold nodeAt
    rw [if_pos (by omega), Int.toNat_natCast, show 2 * n / 2 = n by omega, hx]
  unfold kindOf lOf rOf
  rw [hn]
  refine ⟨rfl, ?_, ?_, ?_⟩
  · show (if x.k = 3 then x.l else 0) = x.l
    by_cases h0 : n = 0
    · subst h0; rw [h.wf.const] at hx; cases hx; rfl
    · rcases h.wf.other n x hx (by omega) with e | e
      · rw [e]; rfl
      · rw [if_pos e.1]
  · show (if x.k = 3 then x.r else 0) = x.r
    by_cases h0 : n = 0
    · subst h0; rw [h.wf.const] at hx; cases hx; rfl
    · rcases h.wf.other n x hx (by omega) with e | e
      · rw [e]; rfl
      · rw [if_pos e.1]
  · by_cases h0 : n = 0
    · subst h0; rw [h.wf.const] at hx; cases hx; decide
    · rcases h.wf.other n x hx (by omega) with e | e
      · rw [e]; decide
      · omega
end Go.Aig
namespace Go.Proofs.YtkedpifopclipaaGreat
open Go.RowKit Go.Mem Go.Aig
section
variable {w : World} {g : Nat} {G : Gra} {F : List Nat}
end
end Go.Proofs.YtkedpifopclipaaGreat
namespace Go.Proofs.YtkedpifopclipaaGreat
open Go.RowKit Go.Mem Go.Aig
/-- all bits -/
abbrev U64 : Nat := 18446744073709551615
theorem u64_pow : (2 ^ 64 - 1 : Nat) = U64 := rfl
theorem infoU64 : (Tryz.prog.info? 110).map (fun i => (i.zero, i.size, i.bytes)) = some (some (.int .u64 0), 1, 8) := by kernel_rfl
theorem slU64s : SliceTy Tryz.prog 109 110 1 8 (.int .u64 0) := ⟨Tryz.underlying109, infoU64, rfl, by decide⟩
theorem run_make_u64s (w : World) (n : Nat) (hn : n ≤ 1000000) : (Instr.makeSlice 109 (.int .i64 n) (.int .i64 n)).run Tryz.prog w = .ok (.slice (some ⟨w.heap.size, 0, none⟩) n n) (w.alloc (.cells (u64s (List.replicate n 0)).toArray 110)) := by
  obtain ⟨i, hi, hz, hs, hb⟩ := info_parts infoU64
  have := run_make (P := Tryz.prog) w 109 110 i (.int .u64 0) Tryz.underlying109 hi hz .i64 .i64 n n (by omega) (by omega) (by rw [hb]; omega) (by omega)
  rw [this, hs]
  have e : madeCells (Value.int .u64 0).cells ((n : Int).toNat * 1) = (u64s (List.replicate n 0)).toArray := by
    apply Array.ext'
    have h := toList_madeCells_one (Value.int .u64 0) ((n : Int).toNat * 1)
    simpa [u64s, Value.cells] using h
  rw [e]; simp
theorem u64s_get {l : List Nat} {i v : Nat} (h : l[i]? = some v) : (u64s l)[i]? = some (.int .u64 v) := by simp [u64s, h]
section
variable {w : World}
set_option maxRecDepth 100000 in
set_option maxHeartbeats 2000000 in
theorem simof1_is {bx nb n c : Nat} {vs : List Nat} (hb : w.cell? ⟨bx, 0, none⟩ = some (.slice (some ⟨nb, 0, none⟩) n c)) (hk : blk w nb (u64s vs)) (hn : vs.length = n) (hlt : ∀ v ∈ vs, v < 2 ^ 64) (r : Nat) (hr : r < 2 * n) (hr2 : r ≤ 1000000) :
    Calls Tryz.prog 107 #[.int .i64 r, .pointer (some ⟨bx, 0, none⟩)] w fun e w' => e = .returned (.int .u64 (wref U64 vs r)) ∧ w = w' := by
  have hg : vs[r / 2]? = some vs[r / 2] := List.getElem?_eq_getElem (by omega)
  have hx := hlt _ (List.getElem_mem (show r / 2 < vs.length by omega))
  have c0 : w.cell? ⟨nb, r / 2, none⟩ = some (.int .u64 vs[r / 2]) := hk.cell (u64s_get hg)
  have hv : wref U64 vs r = if r % 2 = 1 then U64 ^^^ vs[r / 2] else vs[r / 2] := by unfold wref; rw [List.getD_eq_getElem?_getD, hg]; rfl
  rw [hv]
  generalize vs[r / 2] = x at *
  clear hg hk hlt hv
  by_cases h1 : r % 2 = 1
  · rw [if_pos h1]
    have hbb : ((r : Int) % 2 == 1) = true := by simp; omega
    have hnx := bits_xor_u64_nat U64 x (by decide) (by omega)
    have H1 := Lib.hid h1; clear h1
    have HNX := Lib.hid hnx; clear hnx
    have HN := Lib.hid hn; clear hn
    go_enter Tryz.func107, Tryz.ntmps107
    go_wp2_with fail
    go_ret
    exact ⟨ret_int (by first | exact HNX.out | (rw [show IntKind.u64.max = ((U64 : Nat) : Int) from by decide]; exact HNX.out)), rfl⟩
  · rw [if_neg h1]
    have hbb : ((r : Int) % 2 == 1) = false := by simp; omega
    have H1 := Lib.hid h1; clear h1
    have HN := Lib.hid hn; clear hn
    go_enter Tryz.func107, Tryz.ntmps107
    go_wp2_with fail
    go_ret
    exact ⟨rfl, rfl⟩
theorem fnvsimof1 : Fnv 107 := fnv_of Tryz.func107 (by simp [Tryz.f107]) (by simp [Tryz.f107])
set_option maxRecDepth 100000 in
set_option maxHeartbeats 400000 in
theorem simof_is (a : Option Addr) (n c : Nat) : Calls Tryz.prog 95 #[.slice a n c] w fun e w' => e = .returned (.func (.func 107) #[] #[.pointer (some ⟨w.heap.size, 0, none⟩)]) ∧ w' = w.alloc (.cells #[.slice a n c] 109) := by
  go_enter Tryz.func95, Tryz.ntmps95
  go_wp2_with fail
  go_ret
  exact ⟨rfl, rfl⟩
theorem isAnd_at {G : Gra} (hG : Ok G) {n : Nat} {x : Nd} (hx : G.nodes[n]? = some x) : isAndAt G.nodes ((2 * n : Nat) : Int) = (x.k == 3) := by
  have := (node_tells hG hx).1
  unfold isAndAt
  rw [this]
theorem Sv.ch2 {F : List Nat} {w w' : World} {a : Option Addr} {xs : List Value} (h : Sv w a xs) (hc : Ch F w w') (hF : 0 < xs.length → ∀ p, a = some p → p.block ∉ F) : Sv w' a xs :=
  ⟨fun i x hx => by
    obtain ⟨b, o, rfl, hcell⟩ := h.cells i x hx
    have hlt := (List.getElem?_eq_some_iff.1 hx).1
    exact ⟨b, o, rfl, (hc.cell (p := ⟨b, o + i, none⟩) (cell_lt hcell) (hF (by omega) ⟨b, o, none⟩ rfl)).trans hcell⟩, h.bd⟩
theorem u64s_len (l : List Nat) : (u64s l).length = l.length := by simp [u64s]
theorem set_mid (L : List Nat) (m v : Nat) (hm : 0 < m) : (u64s (L ++ List.replicate m 0)).set L.length (.int .u64 v) = u64s ((L ++ [v]) ++ List.replicate (m - 1) 0) := by
  obtain ⟨k, rfl⟩ : ∃ k, m = k + 1 := ⟨m - 1, by omega⟩
  unfold u64s
  rw [List.map_append, List.set_append_right _ _ (by simp)]
  simp [List.replicate_succ]
theorem set_zero (L : List Nat) (m : Nat) (hm : 0 < m) : u64s (L ++ List.replicate m 0) = u64s ((L ++ [0]) ++ List.replicate (m - 1) 0) := by
  obtain ⟨k, rfl⟩ : ∃ k, m = k + 1 := ⟨m - 1, by omega⟩
  simp [u64s, List.replicate_succ]
set_option maxRecDepth 100000 in
set_option maxHeartbeats 8000000 in
theorem simnodes_is {g : Nat} {G : Gra} {F : List Nat} (h : GIn w g G F) {xa : Option Addr} {ins : List Nat} (xc : Nat) (hS : Sv w xa (u64s ins)) (hi : (inputs G.nodes).length = ins.length) (hlt : ∀ v ∈ ins, v < 2 ^ 64) (hcap : ins.length ≤ xc) (hxc : xc ≤ 9223372036854775807) :
    Calls Tryz.prog 96 #[.pointer (some ⟨g, 0, none⟩), .slice xa ins.length xc] w fun e w' => e = .returned (.slice (some ⟨w.heap.size, 0, none⟩) G.nodes.length G.nodes.length) ∧ blk w' w.heap.size (u64s (wvF U64 ins G.nodes).1) ∧ Ch [] w w' := by
  have hok := h.ok
  have hroom := hok.room
  have hmost := hok.most
  obtain ⟨N, hN⟩ : ∃ N, N = G.nodes.length := ⟨_, rfl⟩
  have hN0 : N ≤ 65536 := by omega
  have hLen := Len_g h
  rw [← hN] at hLen ⊢
  have hE0 : wvF U64 ins (G.nodes.take 0) = ([], ins) := rfl
  have hEn : wvF U64 ins (G.nodes.take N) = wvF U64 ins G.nodes := by rw [List.take_of_length_le (by omega)]
  have hEs : ∀ (k : Nat) (x : Nd), G.nodes[k]? = some x → wvF U64 ins (G.nodes.take (k + 1)) = wvStep U64 (wvF U64 ins (G.nodes.take k)) x := fun k x hx => by
    rw [List.take_add_one, hx]; exact wvF_snoc _ _ _ _
  have hEl : ∀ k, k ≤ N → (wvF U64 ins (G.nodes.take k)).1.length = k := fun k hk => by rw [wvF_len, List.length_take]; omega
  have hEb := fun k => wvF_lt (N := 64) hlt (G.nodes.take k)
  rw [u64_pow] at hEb
  have hE2 : ∀ (k : Nat) (x : Nd), G.nodes[k]? = some x → x.k = 2 → 0 < (wvF U64 ins (G.nodes.take k)).2.length := fun k x hx hk2 => by
    have h1 := (wvF_bits (N := 64) (k := 0) (by omega) ins (G.nodes.take k)).2
    rw [u64_pow] at h1
    rw [h1, nv_count, List.length_drop]
    have hsp := split_at hx
    have h2 : (inputs (G.nodes.take (k + 1))).length = (inputs (G.nodes.take k)).length + 1 := by
      rw [List.take_add_one, hx]
      rw [show (some x).toList = [x] from rfl, inputs_input hk2, List.length_append]; rfl
    have h3 : (inputs (G.nodes.take (k + 1))).length ≤ (inputs G.nodes).length := by
      rw [← nv_count (fun _ => false), ← nv_count (fun _ => false)]
      have : ∀ (ms ns : List Nd), (nv (fun _ => false) ns).2 ≤ (nv (fun _ => false) (ns ++ ms)).2 := by
        intro ms
        induction ms with
        | nil => intro ns; simp
        | cons y ms ih =>
          intro ns
          rw [List.append_cons]
          refine Nat.le_trans ?_ (ih (ns ++ [y]))
          rw [nv_snoc]; unfold nvStep
          (repeat' split) <;> simp
      conv => rhs; rw [← List.take_append_drop (k + 1) G.nodes]
      exact this _ _
    omega
  obtain ⟨E, hE⟩ : ∃ E : Nat → List Nat × List Nat, E = fun k => wvF U64 ins (G.nodes.take k) := ⟨_, rfl⟩
  have hEk : ∀ k, wvF U64 ins (G.nodes.take k) = E k := fun k => by rw [hE]
  simp only [hEk] at hE0 hEn hEs hEl hEb hE2
  rw [← hEn]
  clear hE hEk hEn
  have hmk := run_make_u64s w N (by omega)
  have hnt : ∀ (k : Nat) (x : Nd), G.nodes[k]? = some x → kindOf G.nodes (2 * (k : Int)) = x.k ∧ lOf G.nodes (2 * (k : Int)) = x.l ∧ rOf G.nodes (2 * (k : Int)) = x.r ∧ isAndAt G.nodes (2 * (k : Int)) = (x.k == 3) ∧ x.k ≤ 3 := fun k x hx => by
    obtain ⟨a1, a2, a3, a4⟩ := node_tells hok hx
    have a5 := isAnd_at hok hx
    rw [show ((2 * k : Nat) : Int) = 2 * (k : Int) by omega] at a1 a2 a3 a5
    exact ⟨a1, a2, a3, a5, a4⟩
  have hwf := hok.wf
  have HWF := Lib.hid hwf; clear hwf
  have HNT := Lib.hid hnt; clear hnt
  have H := Lib.hid h; clear h
  have HS := Lib.hid hS; clear hS
  have HE0 := Lib.hid hE0; clear hE0
  have HES := Lib.hid hEs; clear hEs
  have HEL := Lib.hid hEl; clear hEl
  have HEB := Lib.hid hEb; clear hEb
  have HE2 := Lib.hid hE2; clear hE2
  have HN := Lib.hid hN; clear hN hi hlt
  have hcf : ∀ args w, (callFunc 107 args).run Tryz.prog w = .ok (.enter 107 args) w := fnvsimof1
  go_enter Tryz.func96, Tryz.ntmps96
  go_wp2_with fail
  refine hLen.mono ?_
  rintro e w' ⟨rfl, rfl⟩
  go_upto_region 2 with fail
  refine wp_alw ?_
  intro W1 hW1
  have hbo : blk W1 w.heap.size (u64s (List.replicate N 0)) := by rw [hW1]; exact blk.new' _ _ rfl
  have hc1 : Ch [] w W1 := by rw [hW1]; exact (Ch.refl _ _).alloc _
  have hz1 : W1.heap.size = w.heap.size + 1 := by rw [hW1]; simp
  clear hW1 hmk hLen
  have hOf := simof_is (w := W1) (some ⟨w.heap.size, 0, none⟩) N N
  have HOF := Lib.hid hOf; clear hOf
  have HBO := Lib.hid hbo; clear hbo
  have HC1 := Lib.hid hc1; clear hc1
  go_wp2_with fail
  refine HOF.out.mono ?_
  rintro e W2 ⟨rfl, hW2⟩
  have hbx := alw_blk (xs := [.slice (some ⟨w.heap.size, 0, none⟩) N N]) hW2
  have hc2 := HC1.out.trans (alw_ch hW2) (by simp)
  have hbo := HBO.out.ch (alw_ch hW2) (by simp)
  clear hW2 HBO HC1 HOF
  rw [hz1] at hbx
  simp only [hz1]
  clear hz1
  have HBX := Lib.hid hbx; clear hbx
  have HBO := Lib.hid hbo; clear hbo
  have HC2 := Lib.hid hc2; clear hc2
  go_wp2_with fail
  go_loopw [1, 19] (fun u i wr => ∃ (k : Nat) (xk : Option Addr) (ck : Nat), k ≤ N ∧ i = .int .i64 k ∧ u = .slice xk (E k).2.length ck ∧ (E k).2.length ≤ ck ∧ ck ≤ 9223372036854775807 ∧ Sv wr xk (u64s (E k).2) ∧ blk wr w.heap.size (u64s ((E k).1 ++ List.replicate (N - k) 0)) ∧ blk wr (w.heap.size + 1) [.slice (some ⟨w.heap.size, 0, none⟩) N N] ∧ Ch [] w wr ∧ (∀ p, xk = some p → 0 < (E k).2.length → p.block < w.heap.size)) (fun _ i _ => N - (intOf i).toNat)
  case atStart =>
    refine ⟨0, xa, xc, by omega, rfl, by rw [HE0.out], by rw [HE0.out]; exact hcap, hxc, by rw [HE0.out]; exact HS.out.ch HC2.out (by simp), by rw [HE0.out]; exact HBO.out, HBX.out, HC2.out, fun p hp h0 => ?_⟩
    rw [HE0.out] at h0
    obtain ⟨b, o, e, hc⟩ := HS.out.cells 0 _ (List.getElem?_eq_getElem (show 0 < (u64s ins).length by simpa [u64s] using h0))
    rw [hp] at e; cases e
    exact cell_lt hc
  case round =>
    clear HBX HBO HC2
    obtain ⟨k, xk, ck, hk, rfl, rfl, hck, hck2, hsv, hbo, hbx, hc, hlo⟩ := hrel
    by_cases hkn : k < N
    · obtain ⟨x, hx⟩ : ∃ x, G.nodes[k]? = some x := ⟨_, List.getElem?_eq_getElem (by rw [← HN.out]; exact hkn)⟩
      obtain ⟨t1, t2, t3, t4, t5⟩ := HNT.out k x hx
      have hes := HES.out k x hx
      have hel := HEL.out k hk
      have heb := HEB.out k
      have he2 := HE2.out k x hx
      have hsides : x.k = 3 → x.l < 2 * k ∧ x.r < 2 * k := fun e => by have := HWF.out.sides hx e; omega
      have hg := H.out.same hc (by simp)
      have hSd := Sides_g hg (2 * (k : Int)) (by omega)
      rw [t2, t3, t4] at hSd
      generalize hEE : E (k + 1) = EN at hes
      generalize E k = ES at hes hel heb he2 hck hsv hbo hlo ⊢
      obtain ⟨L, I⟩ := ES
      simp only at hel heb he2 hck hsv hbo hlo ⊢
      unfold wvStep at hes
      have HSD := Lib.hid hSd; clear hSd
      have HG := Lib.hid hg; clear hg
      have HSV := Lib.hid hsv; clear hsv
      have HLO := Lib.hid hlo; clear hlo
      have HBO := Lib.hid hbo; clear hbo
      have HBX := Lib.hid hbx; clear hbx
      have HEL' := Lib.hid hel; clear hel
      have HEB' := Lib.hid heb; clear heb
      have HC := Lib.hid hc; clear hc
      by_cases h3 : x.k = 3
      · rw [if_pos h3] at hes
        subst hes
        obtain ⟨hl, hr⟩ := hsides h3
        have h33 : (x.k == 3) = true := by rw [h3]; rfl
        rw [h33] at HSD
        have HEE := Lib.hid hEE; clear hEE
        clear t1 t2 t3 t4 t5 h3 h33 he2 hsides hx
        generalize x.l = a at *
        generalize x.r = b at *
        go_wp2_with fail
        refine HSD.out.mono ?_
        rintro e w3 ⟨rfl, hc3⟩
        have hbo := HBO.out.ch hc3 (by simp)
        have hbx := HBX.out.ch hc3 (by simp)
        have hlen : (L ++ List.replicate (N - k) 0).length = N := by rw [List.length_append, List.length_replicate, HEL'.out]; omega
        have hbd : ∀ v ∈ L ++ List.replicate (N - k) 0, v < 2 ^ 64 := fun v hv => by
          rcases List.mem_append.1 hv with hv | hv
          · exact HEB'.out.1 v hv
          · rw [(List.mem_replicate.1 hv).2]; omega
        have hA := simof1_is (hbx.cell (i := 0) rfl) hbo hlen hbd a (by omega) (by omega)
        have hB := simof1_is (hbx.cell (i := 0) rfl) hbo hlen hbd b (by omega) (by omega)
        rw [wref_ext (by rw [HEL'.out]; exact hl)] at hA
        rw [wref_ext (by rw [HEL'.out]; exact hr)] at hB
        have hwa := wref_lt (N := 64) HEB'.out.1 a
        have hwb := wref_lt (N := 64) HEB'.out.1 b
        rw [u64_pow] at hwa hwb
        have hand := bits_and_u64_nat (wref U64 L a) (wref U64 L b) hwa hwb
        generalize hva : wref U64 L a = va at *
        generalize hvb : wref U64 L b = vb at *
        have f0 := hbo.frozen (i := k)
        obtain ⟨old, c0⟩ : ∃ old, w3.cell? ⟨w.heap.size, k, none⟩ = some old := ⟨_, hbo.cell (List.getElem?_eq_getElem (show k < (u64s (L ++ List.replicate (N - k) 0)).length by rw [u64s_len, hlen]; exact hkn))⟩
        have hlt0 := hbo.lt
        have HA := Lib.hid hA; clear hA
        have HB := Lib.hid hB; clear hB
        have HBO3 := Lib.hid hbo; clear hbo HBO
        have HBX3 := Lib.hid hbx; clear hbx HBX
        have HC3 := Lib.hid (HC.out.trans hc3 (by simp)); clear HC HSD
        have HC13 := Lib.hid hc3; clear hc3
        clear hva hvb hwa hwb hlen hbd
        go_wp2_with fail
        refine HA.out.mono ?_
        rintro e w' ⟨rfl, rfl⟩
        go_wp2_with fail
        refine HB.out.mono ?_
        rintro e w' ⟨rfl, rfl⟩
        go_wp2_with fail
        go_roundw
        case rel =>
          have hcs : Ch [w.heap.size] w3 (w3.setCell ⟨w.heap.size, k, none⟩ (.int .u64 (va &&& vb : Nat))) := (Ch.refl _ _).setCell (.inl (by simp)) _
          have hset := HBO3.out.set (i := k) (.int .u64 (va &&& vb : Nat))
          rw [show k = L.length from HEL'.out.symm, set_mid L (N - L.length) _ (by rw [HEL'.out]; omega), HEL'.out] at hset
          exact ⟨k + 1, xk, ck, by omega, by go_num, by rw [HEE.out], by rw [HEE.out]; exact hck, hck2, by rw [HEE.out]; exact (HSV.out.ch HC13.out (by simp)).ch2 hcs (fun h0 p hp hin => by rw [u64s_len] at h0; have := HLO.out p hp h0; have := List.mem_singleton.1 hin; omega), by rw [HEE.out, show N - (k + 1) = N - k - 1 by omega]; exact hset, HBX3.out.ch hcs (by simp), HC3.out.trans hcs (fun q hq => .inr (by have := List.mem_singleton.1 hq; omega)), fun p hp h0 => HLO.out p hp (by rw [HEE.out] at h0; exact h0)⟩
        case measure => simp [intOf]; omega
      · rw [if_neg h3] at hes
        have h33 : (x.k == 3) = false := by rw [beq_eq_false_iff_ne]; exact h3
        rw [h33] at HSD
        have hKd := fun (W : World) (hW : Ch [] wr W) => Kind_g (HG.out.same hW (by simp)) (2 * (k : Int)) (by omega)
        rw [t1] at hKd
        have HKD := Lib.hid hKd; clear hKd
        by_cases h2 : x.k = 2
        · rw [if_pos h2] at hes
          subst hes
          have hI := he2 h2
          rw [h2] at HKD
          have HEE := Lib.hid hEE; clear hEE
          clear t1 t2 t3 t4 t5 h3 h33 he2 hsides hx h2
          obtain ⟨v0, I', rfl⟩ : ∃ v0 I', I = v0 :: I' := by
            cases I with
            | nil => simp at hI
            | cons a l => exact ⟨a, l, rfl⟩
          obtain ⟨xb, xo, rfl, hcx⟩ := HSV.out.cells 0 (.int .u64 v0) rfl
          have hv0 := HEB'.out.2 v0 (List.mem_cons_self ..)
          have hxlo := HLO.out _ rfl hI
          simp only [List.length_cons] at hck hI
          go_wp2_with fail
          refine HSD.out.mono ?_
          rintro e w3 ⟨rfl, hc3⟩
          have hKd := HKD.out w3 hc3
          have HC13 := Lib.hid hc3; clear hc3 HSD
          have HKD3 := Lib.hid hKd; clear hKd HKD
          go_wp2_with fail
          refine HKD3.out.mono ?_
          rintro e w' ⟨rfl, rfl⟩
          have hbo := HBO.out.ch HC13.out (by simp)
          have hbx := HBX.out.ch HC13.out (by simp)
          have hlen : (L ++ List.replicate (N - k) 0).length = N := by rw [List.length_append, List.length_replicate, HEL'.out]; omega
          have c0 := (HC13.out.cell (cell_lt hcx) (by simp)).trans hcx
          rw [Nat.add_zero] at c0
          have f0 := hbo.frozen (i := k)
          obtain ⟨old, d0⟩ : ∃ old, w3.cell? ⟨w.heap.size, k, none⟩ = some old := ⟨_, hbo.cell (List.getElem?_eq_getElem (show k < (u64s (L ++ List.replicate (N - k) 0)).length by rw [u64s_len, hlen]; exact hkn))⟩
          have hlt0 := hbo.lt
          have HBO3 := Lib.hid hbo; clear hbo HBO
          have HBX3 := Lib.hid hbx; clear hbx HBX
          have HC3 := Lib.hid (HC.out.trans HC13.out (by simp)); clear HC
          clear hlen hcx
          by_cases hc1 : ck = 1
          · subst hc1
            have hI0 : I'.length = 0 := by omega
            obtain rfl : I' = [] := List.eq_nil_of_length_eq_zero hI0
            clear hI0
            go_wp2_with fail
            refine Ord.St.door (fun _ => True) [.fl, .fl, .fl, .fl, .rd, .fl, .fl, .fl, .ef, .fl] [0, 0, 0, 4, 12, 0, 32, 31, 159, 511] [0, 1, 2, 3, 4, 5, 6, 7, 8, 9] mixed (by kernel_rfl) rfl ?_
            refine Ord.St.fl2 (T' := ?_) 0 [1, 2, 3, 4, 5, 6, 7, 8, 9] _ _ rfl (by kernel_rfl) rfl rfl rfl rfl (fun K w' hk => ?_) ?_
            rotate_left
            · go_step; exact hk
            refine Ord.St.fl2 (T' := ?_) 1 [2, 3, 4, 5, 6, 7, 8, 9] _ _ rfl (by kernel_rfl) rfl rfl rfl rfl (fun K w' hk => ?_) ?_
            rotate_left
            · go_step; exact hk
            refine Ord.St.fl2 (T' := ?_) 2 [3, 4, 5, 6, 7, 8, 9] _ _ rfl (by kernel_rfl) rfl rfl rfl rfl (fun K w' hk => ?_) ?_
            rotate_left
            · go_step; exact hk
            refine Ord.St.fl2 (T' := ?_) 3 [4, 5, 6, 7, 8, 9] _ _ rfl (by kernel_rfl) rfl rfl rfl rfl (fun K w' hk => ?_) ?_
            rotate_left
            · go_step; exact hk
            refine Ord.St.rd2 (T' := ?_) 4 [5, 6, 7, 8, 9] _ _ rfl (by kernel_rfl) rfl rfl rfl rfl (fun K hk => ?_) ?_
            rotate_left
            · go_step; exact hk
            refine Ord.St.fl2 (T' := ?_) 5 [6, 7, 8, 9] _ _ rfl (by kernel_rfl) rfl rfl rfl rfl (fun K w' hk => ?_) ?_
            rotate_left
            · go_step; exact hk
            refine Ord.St.fl2 (T' := ?_) 6 [7, 8, 9] _ _ rfl (by kernel_rfl) rfl rfl rfl rfl (fun K w' hk => ?_) ?_
            rotate_left
            · go_step; exact hk
            refine Ord.St.fl2 (T' := ?_) 7 [8, 9] _ _ rfl (by kernel_rfl) rfl rfl rfl rfl (fun K w' hk => ?_) ?_
            rotate_left
            · go_step; exact hk
            refine Ord.St.ef 8 [9] _ rfl (by kernel_rfl) (fun K hK => ?_)
            go_wp2_with fail
            refine ⟨rfl, hK _ _ ?_⟩; clear hK K
            refine Ord.St.fl2 (T' := ?_) 9 [] _ _ rfl (by kernel_rfl) rfl rfl rfl rfl (fun K w' hk => ?_) ?_
            rotate_left
            · go_step; exact hk
            refine Ord.St.nil ?_
            go_wp2_with fail
            go_roundw
            case rel =>
              have hcd : Ch [] w3 w3.drew := (Ch.refl [] w3).drew
              have hcs : Ch [w.heap.size] w3.drew (w3.drew.setCell ⟨w.heap.size, k, none⟩ (.int .u64 v0)) := (Ch.refl _ _).setCell (.inl (by simp)) _
              have hset := (HBO3.out.ch hcd (by simp)).set (i := k) (.int .u64 v0)
              rw [show k = L.length from HEL'.out.symm, set_mid L (N - L.length) _ (by rw [HEL'.out]; omega), HEL'.out] at hset
              have hsv := ((HSV.out.ch HC13.out (by simp)).ch hcd (by simp)).ch2 hcs (fun _ p hp hin => by cases hp; have := List.mem_singleton.1 hin; simp only at hxlo this; omega)
              have hsv2 : Sv (w3.drew.setCell ⟨w.heap.size, k, none⟩ (.int .u64 v0)) (some ⟨xb, xo, none⟩) (u64s []) := ⟨by simp [u64s], by simp [u64s]⟩
              exact ⟨k + 1, some ⟨xb, xo, none⟩, 0, by omega, by go_num, by rw [HEE.out]; rfl, by rw [HEE.out]; show ([] : List Nat).length ≤ 0; simp, by omega, by rw [HEE.out]; exact hsv2, by rw [HEE.out, show N - (k + 1) = N - k - 1 by omega]; exact hset, (HBX3.out.ch hcd (by simp)).ch hcs (by simp), (HC3.out.trans hcd (by simp)).trans hcs (fun q hq => .inr (by have := List.mem_singleton.1 hq; omega)), fun p hp h0 => by rw [HEE.out] at h0; simp at h0⟩
            case measure => simp [intOf]; omega
          · have hck1 : 1 < ck := by omega
            have hcki : (ck : Int) - 1 = ((ck - 1 : Nat) : Int) := by omega
            go_wp2_with fail
            refine Ord.St.door (fun _ => True) [.fl, .fl, .fl, .fl, .rd, .fl, .fl, .fl, .ef, .fl] [0, 0, 0, 4, 12, 0, 32, 31, 159, 511] [0, 1, 2, 3, 4, 5, 6, 7, 8, 9] mixed (by kernel_rfl) rfl ?_
            refine Ord.St.fl2 (T' := ?_) 0 [1, 2, 3, 4, 5, 6, 7, 8, 9] _ _ rfl (by kernel_rfl) rfl rfl rfl rfl (fun K w' hk => ?_) ?_
            rotate_left
            · go_step; exact hk
            refine Ord.St.fl2 (T' := ?_) 1 [2, 3, 4, 5, 6, 7, 8, 9] _ _ rfl (by kernel_rfl) rfl rfl rfl rfl (fun K w' hk => ?_) ?_
            rotate_left
            · go_step; exact hk
            refine Ord.St.fl2 (T' := ?_) 2 [3, 4, 5, 6, 7, 8, 9] _ _ rfl (by kernel_rfl) rfl rfl rfl rfl (fun K w' hk => ?_) ?_
            rotate_left
            · go_step; exact hk
            refine Ord.St.fl2 (T' := ?_) 3 [4, 5, 6, 7, 8, 9] _ _ rfl (by kernel_rfl) rfl rfl rfl rfl (fun K w' hk => ?_) ?_
            rotate_left
            · go_step; exact hk
            refine Ord.St.rd2 (T' := ?_) 4 [5, 6, 7, 8, 9] _ _ rfl (by kernel_rfl) rfl rfl rfl rfl (fun K hk => ?_) ?_
            rotate_left
            · go_step; exact hk
            refine Ord.St.fl2 (T' := ?_) 5 [6, 7, 8, 9] _ _ rfl (by kernel_rfl) rfl rfl rfl rfl (fun K w' hk => ?_) ?_
            rotate_left
            · go_step; exact hk
            refine Ord.St.fl2 (T' := ?_) 6 [7, 8, 9] _ _ rfl (by kernel_rfl) rfl rfl rfl rfl (fun K w' hk => ?_) ?_
            rotate_left
            · go_step; exact hk
            refine Ord.St.fl2 (T' := ?_) 7 [8, 9] _ _ rfl (by kernel_rfl) rfl rfl rfl rfl (fun K w' hk => ?_) ?_
            rotate_left
            · go_step; exact hk
            refine Ord.St.ef 8 [9] _ rfl (by kernel_rfl) (fun K hK => ?_)
            go_wp2_with fail
            refine ⟨rfl, hK _ _ ?_⟩; clear hK K
            refine Ord.St.fl2 (T' := ?_) 9 [] _ _ rfl (by kernel_rfl) rfl rfl rfl rfl (fun K w' hk => ?_) ?_
            rotate_left
            · go_step; exact hk
            refine Ord.St.nil ?_
            go_wp2_with fail
            go_roundw
            case rel =>
              have hcd : Ch [] w3 w3.drew := (Ch.refl [] w3).drew
              have hcs : Ch [w.heap.size] w3.drew (w3.drew.setCell ⟨w.heap.size, k, none⟩ (.int .u64 v0)) := (Ch.refl _ _).setCell (.inl (by simp)) _
              have hset := (HBO3.out.ch hcd (by simp)).set (i := k) (.int .u64 v0)
              rw [show k = L.length from HEL'.out.symm, set_mid L (N - L.length) _ (by rw [HEL'.out]; omega), HEL'.out] at hset
              have hsv := ((HSV.out.ch HC13.out (by simp)).ch hcd (by simp)).ch2 hcs (fun _ p hp hin => by cases hp; have := List.mem_singleton.1 hin; simp only at hxlo this; omega)
              have hsv2 : Sv (w3.drew.setCell ⟨w.heap.size, k, none⟩ (.int .u64 v0)) (some ⟨xb, xo + 1, none⟩) (u64s I') := ⟨fun i x hx => by
                obtain ⟨b9, o9, e9, hc9⟩ := hsv.cells (i + 1) x (by simpa [u64s] using hx)
                cases e9
                exact ⟨_, _, rfl, by rw [show xo + 1 + i = xo + (i + 1) by omega]; exact hc9⟩, by have := hsv.bd; simp [u64s] at this ⊢; omega⟩
              exact ⟨k + 1, some ⟨xb, xo + 1, none⟩, ck - 1, by omega, by go_num, by rw [HEE.out]; rfl, by rw [HEE.out]; show I'.length ≤ _; omega, by omega, by rw [HEE.out]; exact hsv2, by rw [HEE.out, show N - (k + 1) = N - k - 1 by omega]; exact hset, (HBX3.out.ch hcd (by simp)).ch hcs (by simp), (HC3.out.trans hcd (by simp)).trans hcs (fun q hq => .inr (by have := List.mem_singleton.1 hq; omega)), fun p hp h0 => by cases hp; exact hxlo⟩
            case measure => simp [intOf]; omega
        · rw [if_neg h2] at hes
          subst hes
          have h22 : ((x.k : Int) == 2) = false := by rw [beq_eq_false_iff_ne]; omega
          have HEE := Lib.hid hEE; clear hEE
          clear t1 t2 t3 t4 h3 h33 he2 hsides hx h2
          generalize x.k = xkk at *
          go_wp2_with fail
          refine HSD.out.mono ?_
          rintro e w3 ⟨rfl, hc3⟩
          have hKd := HKD.out w3 hc3
          have HC13 := Lib.hid hc3; clear hc3 HSD
          have HKD3 := Lib.hid hKd; clear hKd HKD
          go_wp2_with fail
          refine HKD3.out.mono ?_
          rintro e w' ⟨rfl, rfl⟩
          go_wp2_with fail
          go_roundw
          case rel =>
            have hset := HBO.out.ch HC13.out (by simp)
            rw [show N - k = N - L.length by rw [HEL'.out], set_zero L (N - L.length) (by rw [HEL'.out]; omega), HEL'.out] at hset
            exact ⟨k + 1, xk, ck, by omega, by go_num, by rw [HEE.out], by rw [HEE.out]; exact hck, hck2, by rw [HEE.out]; exact HSV.out.ch HC13.out (by simp), by rw [HEE.out, show N - (k + 1) = N - k - 1 by omega]; exact hset, HBX.out.ch HC13.out (by simp), HC.out.trans HC13.out (by simp), fun p hp h0 => HLO.out p hp (by rw [HEE.out] at h0; exact h0)⟩
          case measure => simp [intOf]; omega
    · have hkN : k = N := by omega
      have hbo2 : blk wr w.heap.size (u64s (E N).1) := by
        have := hbo
        rw [hkN, Nat.sub_self, List.replicate_zero, List.append_nil] at this
        exact this
      have HBO2 := Lib.hid hbo2; clear hbo2 hbo hbx hsv hlo
      have HC := Lib.hid hc; clear hc
      go_wp2_with fail
      go_ret
      exact ⟨rfl, HBO2.out, HC.out⟩
end
end Go.Proofs.YtkedpifopclipaaGreat
namespace Go.Aig
/-- what a word of references is, for words of the inputs -/
def wsOf (ins : List Nat) (ns : List Nd) (l : List Nat) : List Nat := l.map (wref 18446744073709551615 (wvF 18446744073709551615 ins ns).1)
/-- what a word of references is, for an assignment -/
def bsOf (ins : List Bool) (ns : List Nd) (l : List Nat) : List Bool := l.map (bv (fun i => ins.getD i false) ns)
def wOf (l : List Bool) : List Nat := l.map fun b => if b then 1 else 0
theorem wOf_bit (l : List Bool) : (fun i => ((wOf l).getD i 0).testBit 0) = fun i => l.getD i false := by
  funext i
  unfold wOf
  rw [List.getD_eq_getElem?_getD, List.getD_eq_getElem?_getD, List.getElem?_map]
  cases l[i]? with
  | none => rfl
  | some b => cases b <;> rfl
theorem wsOf_bits (ins : List Bool) (ns : List Nd) (l : List Nat) : (wsOf (wOf ins) ns l).map (fun v => v.testBit 0) = bsOf ins ns l := by
  unfold wsOf bsOf
  rw [List.map_map]
  apply List.map_congr_left
  intro r _
  have := wv_bv (N := 64) (k := 0) (by omega) (wOf ins) ns r
  rw [wOf_bit] at this
  exact this
theorem wOf_lt (l : List Bool) : ∀ v ∈ wOf l, v < 2 ^ 64 := fun v hv => by
  obtain ⟨b, _, rfl⟩ := List.mem_map.1 hv
  cases b <;> decide
theorem wsOf_lt {ins : List Nat} (h : ∀ v ∈ ins, v < 2 ^ 64) (ns : List Nd) (l : List Nat) : ∀ v ∈ wsOf ins ns l, v < 2 ^ 64 := fun v hv => by
  obtain ⟨r, _, rfl⟩ := List.mem_map.1 hv
  exact wref_lt (N := 64) (wvF_lt (N := 64) h ns).1 r
end Go.Aig
namespace Go.Proofs.YtkedpifopclipaaGreat
open Go.RowKit Go.Mem Go.Aig
section
variable {w : World} {g : Nat} {G : Gra} {F : List Nat}
theorem fnvsimcheck1 : Fnv 106 := fnv_of Tryz.func106 (by simp [Tryz.f106]) (by simp [Tryz.f106])
set_option maxRecDepth 100000 in
set_option maxHeartbeats 1000000 in
theorem simcheck1_is (h : GIn w g G F) {bx : Nat} (hb : w.cell? ⟨bx, 0, none⟩ = some (.pointer (some ⟨g, 0, none⟩))) (r : Int) (hr : r ≤ 9223372036854775807) :
    Calls Tryz.prog 106 (#[.int .i64 r] ++ #[.pointer (some ⟨bx, 0, none⟩)]) w fun e w' => e = .returned (.bool (!right G.nodes r)) ∧ w = w' := by
  show Calls Tryz.prog 106 #[.int .i64 r, .pointer (some ⟨bx, 0, none⟩)] w _
  have HR := Right_g h r hr
  clear h
  generalize right G.nodes r = q at *
  go_enter Tryz.func106, Tryz.ntmps106
  go_wp2_with fail
  refine HR.mono ?_
  rintro e w' ⟨rfl, rfl⟩
  go_wp2_with fail
  go_ret
  exact ⟨ret_bool rfl, rfl⟩
set_option maxRecDepth 100000 in
set_option maxHeartbeats 2000000 in
theorem simcheck_is (h : GIn w g G F) {a : Option Addr} {l : List Int} (n c : Nat) (hn : l.length = n) (hS : Sl w a l) (hbd : ∀ r ∈ l, r ≤ 9223372036854775807) :
    Calls Tryz.prog 93 #[.pointer (some ⟨g, 0, none⟩), .slice a n c] w fun e w' => e = .returned (.int .i64 (if badIn G l then 200 else 0 : Nat)) ∧ Ch [] w w' := by
  subst hn
  have hpos := h.ok.wf.pos
  have hp0 : ((G.nodes.length : Int) == 0) = false := beqN (by omega)
  have hC : ∀ W, W = w.alloc (.cells #[.pointer (some ⟨g, 0, none⟩)] 24) → Calls Tryz.prog 21 #[.slice a l.length c, .func (.func 106) #[] #[.pointer (some ⟨w.heap.size, 0, none⟩)]] W fun e w' => e = .returned (.bool (badIn G l)) ∧ W = w' := fun W hW => by
    have hc := alw_ch hW
    have hb := alw_blk (xs := [.pointer (some ⟨g, 0, none⟩)]) hW
    exact CFref_is c 106 #[.pointer (some ⟨w.heap.size, 0, none⟩)] (fun r => !right G.nodes r) (hS.ch hc (by simp)) (fun r hr => simcheck1_is (h.same hc (by simp)) (hb.cell (i := 0) rfl) r (hbd r hr)) fnvsimcheck1
  have hL : ∀ W, W = w.alloc (.cells #[.pointer (some ⟨g, 0, none⟩)] 24) → Calls Tryz.prog 20 #[.pointer (some ⟨g, 0, none⟩)] W fun e w' => e = .returned (.int .i64 G.nodes.length) ∧ W = w' := fun W hW => Len_g (h.same (alw_ch hW) (by simp))
  have hw : w.cell? ⟨w.heap.size, 0, none⟩ = none := by simp [World.cell?]
  have HC := Lib.hid hC; clear hC
  have HL := Lib.hid hL; clear hL hw
  clear h hS hbd
  cases hq : badIn G l
  · rw [hq] at HC
    have HQ := Lib.hid hq; clear hq
    go_enter Tryz.func93, Tryz.ntmps93
    go_wp2_with fail
    refine (HL.out _ rfl).mono ?_
    rintro e w' ⟨rfl, rfl⟩
    go_wp2_with fail
    refine (HC.out _ rfl).mono ?_
    rintro e w' ⟨rfl, rfl⟩
    go_wp2_with fail
    go_ret
    exact ⟨rfl, (Ch.refl _ _).alloc _⟩
  · rw [hq] at HC
    have HQ := Lib.hid hq; clear hq
    go_enter Tryz.func93, Tryz.ntmps93
    go_wp2_with fail
    refine (HL.out _ rfl).mono ?_
    rintro e w' ⟨rfl, rfl⟩
    go_wp2_with fail
    refine (HC.out _ rfl).mono ?_
    rintro e w' ⟨rfl, rfl⟩
    go_wp2_with fail
    go_ret
    exact ⟨rfl, (Ch.refl _ _).alloc _⟩
/-- what Words returns -/
def wordsR (G : Gra) (ins : List Nat) (l : List Int) : List Nat × Nat := if badIn G l then ([], 200) else if ins.length ≠ (inputs G.nodes).length then ([], 210) else (wsOf ins G.nodes (nats l), 0)
/-- a new slice of words -/
def UNew (w : World) (v : Value) (l : List Nat) (w' : World) : Prop := row w' 110 1 v l.length (u64s l) ∧ (∀ q ∈ v.ownBlock.toList, w.heap.size ≤ q) ∧ Ch [] w w'
set_option maxRecDepth 100000 in
set_option maxHeartbeats 8000000 in
theorem simWords_is (h : GIn w g G F) {xa : Option Addr} {ins : List Nat} (xc : Nat) (hS : Sv w xa (u64s ins)) (hlt : ∀ v ∈ ins, v < 2 ^ 64) (hcap : ins.length ≤ xc) (hxc : xc ≤ 9223372036854775807) {a : Option Addr} {l : List Int} (c : Nat) (hL : Sl w a l) (hbd : ∀ r ∈ l, -9223372036854775808 ≤ r ∧ r ≤ 9223372036854775807) (hll : l.length ≤ 100000) :
    Calls Tryz.prog 61 #[.pointer (some ⟨g, 0, none⟩), .slice xa ins.length xc, .slice a l.length c] w fun e w' => ∃ v, e = .returned (.tuple #[v, .int .i64 (wordsR G ins l).2]) ∧ UNew w v (wordsR G ins l).1 w' := by
  have hpos := h.ok.wf.pos
  have hroom := h.ok.room
  have hmost := h.ok.most
  have hCk := simcheck_is h l.length c rfl hL (fun r hr => (hbd r hr).2)
  have hIn := fun (W : World) (hW : Ch [] w W) => Inputs_g (h.same hW (by simp))
  by_cases hb : badIn G l = true
  · have hR : wordsR G ins l = ([], 200) := by unfold wordsR; rw [if_pos hb]
    rw [hR]
    rw [if_pos hb] at hCk
    have HCK := Lib.hid hCk; clear hCk h hS hlt hL hbd hIn hb hR
    go_enter Tryz.func61, Tryz.ntmps61
    go_wp2_with fail
    refine HCK.out.mono ?_
    rintro e w1 ⟨rfl, hc1⟩
    have HC1 := Lib.hid hc1; clear hc1
    go_wp2_with fail
    go_ret2
    exact ⟨_, rfl, ⟨rfl, .inl ⟨rfl, rfl⟩⟩, by simp, HC1.out⟩
  · have hb2 : badIn G l = false := by simpa using hb
    rw [if_neg hb] at hCk
    obtain ⟨hnat, hnlt⟩ := badIn_no hb2
    by_cases hi : ins.length = (inputs G.nodes).length
    · have hR : wordsR G ins l = (wsOf ins G.nodes (nats l), 0) := by unfold wordsR; rw [if_neg hb, if_neg (by simp [hi])]
      rw [hR]
      have hNd := fun (W : World) (hW : Ch [] w W) => simnodes_is (h.same hW (by simp)) xc (hS.ch hW (by simp)) hi.symm hlt hcap hxc
      have hvl := wvF_len U64 ins G.nodes
      have hvb := (wvF_lt (N := 64) hlt G.nodes).1
      rw [u64_pow] at hvb
      unfold wsOf
      generalize hV : (wvF U64 ins G.nodes).1 = V at *
      clear hV
      have hie : ((ins.length : Int) != (inputs G.nodes).length) = false := by simp [hi]
      have HCK := Lib.hid hCk; clear hCk
      have HIN := Lib.hid hIn; clear hIn
      have HND := Lib.hid hNd; clear hNd
      have HVL := Lib.hid hvl; clear hvl
      have HVB := Lib.hid hvb; clear hvb
      have HL := Lib.hid hL; clear hL
      have HNL := Lib.hid hnlt; clear hnlt
      have HNT := Lib.hid hnat; clear hnat
      clear h hS hlt hbd hb hb2 hR hi
      generalize (inputs G.nodes).length = ni at *
      have hcf : ∀ args w, (callFunc 107 args).run Tryz.prog w = .ok (.enter 107 args) w := fnvsimof1
      go_enter Tryz.func61, Tryz.ntmps61
      go_wp2_with fail
      refine HCK.out.mono ?_
      rintro e w1 ⟨rfl, hc1⟩
      have hI1 := HIN.out w1 hc1
      have HI1 := Lib.hid hI1; clear hI1 HIN
      have HC1 := Lib.hid hc1; clear hc1
      go_wp2_with fail
      refine HI1.out.mono ?_
      rintro e w2 ⟨v, rfl, hro, _, hc2⟩
      obtain ⟨ia, ic, rfl⟩ := row.shape hro
      have hc12 := HC1.out.trans hc2 (by simp)
      have hN2 := HND.out w2 hc12
      have HN2 := Lib.hid hN2; clear hN2 HND hro hc2
      have HC2 := Lib.hid hc12; clear hc12 HI1 HC1
      go_wp2_with fail
      refine HN2.out.mono ?_
      rintro e w3 ⟨rfl, hbo, hc3⟩
      have hc13 := HC2.out.trans hc3 (by simp)
      have hz23 := HC2.out.size
      clear HN2
      generalize w2.heap.size = ob at *
      have hOf := simof_is (w := w3) (some ⟨ob, 0, none⟩) G.nodes.length G.nodes.length
      have HOF := Lib.hid hOf; clear hOf
      have HBO := Lib.hid hbo; clear hbo
      have HC3 := Lib.hid hc13; clear hc13 hc3 HC2
      go_wp2_with fail
      refine HOF.out.mono ?_
      rintro e w4 ⟨rfl, hw4⟩
      have hbx := alw_blk (xs := [.slice (some ⟨ob, 0, none⟩) G.nodes.length G.nodes.length]) hw4
      have hbo := HBO.out.ch (alw_ch hw4) (by simp)
      have hc4 := HC3.out.trans (alw_ch hw4) (by simp)
      have hz34 := HC3.out.size
      clear hw4 HOF HBO HC3
      generalize w3.heap.size = bx at *
      have HBX := Lib.hid hbx; clear hbx
      have HBO := Lib.hid hbo; clear hbo
      have HC4 := Lib.hid hc4; clear hc4
      go_wp2_with fail
      go_loopw [10, 31] (fun o i wr => ∃ k : Nat, k ≤ l.length ∧ i = .int .i64 k ∧ Ch [] w4 wr ∧ row wr 110 1 o k (u64s (((nats l).take k).map (wref U64 V))) ∧ ∀ q ∈ o.ownBlock.toList, w4.heap.size ≤ q) (fun _ i _ => l.length - (intOf i).toNat)
      case atStart => exact ⟨0, by omega, rfl, Ch.refl _ _, ⟨rfl, .inl ⟨rfl, rfl⟩⟩, by simp⟩
      case round =>
        obtain ⟨k, hk, rfl, hc, hrow, hlo⟩ := hrel
        obtain ⟨oa, oc, rfl⟩ := row.shape hrow
        by_cases hlt : k < l.length
        · obtain ⟨x, hx⟩ : ∃ x, (nats l)[k]? = some x := ⟨_, List.getElem?_eq_getElem (by rw [nats_len]; exact hlt)⟩
          have hxl := HNL.out x (List.mem_of_getElem? hx)
          have hlx : l[k]? = some (x : Int) := by rw [← HNT.out, List.getElem?_map, hx]; rfl
          obtain ⟨xb, xo, rfl, hcl⟩ := HL.out.cells k x hlx
          have c0 := ((HC4.out.trans hc (by simp)).cell (cell_lt hcl) (by simp)).trans hcl
          have hW := simof1_is ((HBX.out.ch hc (by simp)).cell (i := 0) rfl) (HBO.out.ch hc (by simp)) HVL.out HVB.out x hxl (by omega)
          have hsu : u64s (((nats l).take (k + 1)).map (wref U64 V)) = u64s (((nats l).take k).map (wref U64 V)) ++ [.int .u64 (wref U64 V x)] := by rw [List.take_add_one, hx]; simp [u64s]
          generalize wref U64 V x = vx at hW hsu
          have hcA : Ch [] wr (wr.alloc (.cells #[.int .u64 vx] 110)) := (Ch.refl _ _).alloc _
          have hrA := hrow.ch hcA (by simp)
          have hbA : blk (wr.alloc (.cells #[.int .u64 vx] 110)) wr.heap.size [.int .u64 vx] := blk.new' _ _ rfl
          have HW := Lib.hid hW; clear hW
          have HSU := Lib.hid hsu; clear hsu
          have HRA := Lib.hid hrA; clear hrA hrow
          have HBA := Lib.hid hbA; clear hbA
          have HCA := Lib.hid hcA; clear hcA
          have HCP := Lib.hid hc; clear hc
          have HLO := Lib.hid hlo; clear hlo hcl hlx hx
          go_wp2_with fail
          refine HW.out.mono ?_
          rintro e w' ⟨rfl, rfl⟩
          go_wp2_with (at_builtin; go_loud (refine wpList_append_row slU64s rfl _ _ rfl (v := .slice oa k oc) (n := k) (xs := u64s (((nats l).take k).map (wref U64 V))) rfl HRA.out (ad := ⟨wr.heap.size, 0, none⟩) (m := 1) (c := 1) (news := [.int .u64 vx]) rfl rfl (news_blk HBA.out) (by simp [Value.oneCell']) (by omega) (by omega) ?_; intro v' w5 hown4 hC4 hf4; have HO4 := Lib.hid hown4; clear hown4; have HCC4 := Lib.hid hC4; clear hC4; have HF4 := Lib.hid hf4; clear hf4))
          go_roundw
          case rel =>
            obtain ⟨q1, q2⟩ := app_step HCP.out HCA.out HLO.out HCC4.out HF4.out
            refine ⟨k + 1, by omega, by go_num, q1, ?_, q2⟩
            rw [HSU.out]; exact HO4.out
          case measure => simp [intOf]; omega
        · have hkn : k = l.length := by omega
          have hall : (nats l).take k = nats l := List.take_of_length_le (by rw [nats_len]; omega)
          rw [hall] at hrow
          rw [hkn] at hrow hlo
          rw [hkn]
          have HROW := Lib.hid hrow; clear hrow
          have HLO := Lib.hid hlo; clear hlo
          have HCP := Lib.hid hc; clear hc hall hkn
          go_wp2_with fail
          go_ret2
          refine ⟨.slice oa l.length oc, rfl, ?_, fun q hq => Nat.le_trans HC4.out.size (HLO.out q hq), HC4.out.trans HCP.out (by simp)⟩
          have := HROW.out
          simpa using this
    · have hR : wordsR G ins l = ([], 210) := by unfold wordsR; rw [if_neg hb, if_pos hi]
      rw [hR]
      have hie : ((ins.length : Int) != (inputs G.nodes).length) = true := by simp; omega
      have HCK := Lib.hid hCk; clear hCk
      have HIN := Lib.hid hIn; clear hIn
      clear h hS hlt hL hbd hb hb2 hR hi hnat hnlt
      generalize (inputs G.nodes).length = ni at *
      go_enter Tryz.func61, Tryz.ntmps61
      go_wp2_with fail
      refine HCK.out.mono ?_
      rintro e w1 ⟨rfl, hc1⟩
      have hI1 := HIN.out w1 hc1
      have HI1 := Lib.hid hI1; clear hI1 HIN
      have HC1 := Lib.hid hc1; clear hc1
      go_wp2_with fail
      refine HI1.out.mono ?_
      rintro e w2 ⟨v, rfl, hro, _, hc2⟩
      obtain ⟨ia, ic, rfl⟩ := row.shape hro
      have HC2 := Lib.hid (HC1.out.trans hc2 (by simp)); clear hc2 HI1 HC1 hro
      go_wp2_with fail
      go_ret2
      exact ⟨_, rfl, ⟨rfl, .inl ⟨rfl, rfl⟩⟩, by simp, HC2.out⟩
end
end Go.Proofs.YtkedpifopclipaaGreat
namespace Go.Proofs.YtkedpifopclipaaGreat
open Go.RowKit Go.Mem Go.Aig
theorem row.capLe' {w : World} {e : TypeId} {size : Nat} {a : Option Addr} {n c m : Nat} {xs : List Value} (h : row w e size (.slice a n c) m xs) : m ≤ c ∧ c ≤ 9223372036854775807 := by
  rcases h.2 with ⟨e1, h0⟩ | ⟨g', cap', cur, e1, _, _, h1, h2, _⟩
  · cases e1; omega
  · cases e1; exact ⟨h1, by unfold maxLen at h2; exact h2⟩
/-- what Bits returns -/
def bitsR (G : Gra) (ins : List Bool) (l : List Int) : List Bool × Nat := if badIn G l then ([], 200) else if ins.length ≠ (inputs G.nodes).length then ([], 210) else (bsOf ins G.nodes (nats l), 0)
theorem wOf_len (l : List Bool) : (wOf l).length = l.length := by simp [wOf]
theorem bitsR_words (G : Gra) (ins : List Bool) (l : List Int) : bitsR G ins l = ((wordsR G (wOf ins) l).1.map (fun v => v.testBit 0), (wordsR G (wOf ins) l).2) := by
  unfold bitsR wordsR
  rw [wOf_len]
  split
  · rfl
  · split
    · rfl
    · rw [wsOf_bits]
/-- a new slice of truths -/
def BNew (w : World) (v : Value) (l : List Bool) (w' : World) : Prop := row w' 4 1 v l.length (bools l) ∧ (∀ q ∈ v.ownBlock.toList, w.heap.size ≤ q) ∧ Ch [] w w'
section
variable {w : World} {g : Nat} {G : Gra} {F : List Nat}
set_option maxRecDepth 100000 in
set_option maxHeartbeats 8000000 in
theorem simBits_is (h : GIn w g G F) {xa : Option Addr} {ins : List Bool} (n xc : Nat) (hn : ins.length = n) (hS : Sb w xa ins) (hnl : n ≤ 100000) {a : Option Addr} {l : List Int} (m c : Nat) (hm : l.length = m) (hL : Sl w a l) (hbd : ∀ r ∈ l, -9223372036854775808 ≤ r ∧ r ≤ 9223372036854775807) (hll : m ≤ 100000) :
    Calls Tryz.prog 33 #[.pointer (some ⟨g, 0, none⟩), .slice xa n xc, .slice a m c] w fun e w' => ∃ v, e = .returned (.tuple #[v, .int .i64 (bitsR G ins l).2]) ∧ BNew w v (bitsR G ins l).1 w' := by
  subst hn hm
  have hW := fun (W : World) (hW : Ch [] w W) (wa : Option Addr) (wc : Nat) (hwa : row W 110 1 (.slice wa ins.length wc) ins.length (u64s (wOf ins))) => simWords_is (h.same hW (by simp)) (ins := wOf ins) (xa := wa) wc (row.sv hwa rfl (by omega)) (wOf_lt ins) (by rw [wOf_len]; exact (row.capLe' hwa).1) (row.capLe' hwa).2 c (hL.ch hW (by simp)) hbd hll
  simp only [wOf_len] at hW
  rw [bitsR_words]
  have hwl : (wordsR G (wOf ins) l).1.length ≤ l.length := by
    unfold wordsR
    split
    · simp
    · split
      · simp
      · simp [wsOf]
  have hwb : ∀ v ∈ (wordsR G (wOf ins) l).1, v < 2 ^ 64 := by
    unfold wordsR
    split
    · simp
    · split
      · simp
      · exact wsOf_lt (wOf_lt ins) _ _
  generalize wordsR G (wOf ins) l = R at *
  obtain ⟨ws, e0⟩ := R
  simp only at hwl hwb hW ⊢
  have HW := Lib.hid hW; clear hW
  have HS := Lib.hid hS; clear hS h hL hbd
  have HWB := Lib.hid hwb; clear hwb
  go_enter Tryz.func33, Tryz.ntmps33
  go_wp2_with fail
  go_loopw [8, 19] (fun o i wr => ∃ k : Nat, k ≤ ins.length ∧ i = .int .i64 k ∧ Ch [] w wr ∧ row wr 110 1 o k (u64s (wOf (ins.take k))) ∧ ∀ q ∈ o.ownBlock.toList, w.heap.size ≤ q) (fun _ i _ => ins.length - (intOf i).toNat)
  case atStart => exact ⟨0, by omega, rfl, Ch.refl _ _, ⟨rfl, .inl ⟨rfl, rfl⟩⟩, by simp⟩
  case round =>
    obtain ⟨k, hk, rfl, hc, hrow, hlo⟩ := hrel
    obtain ⟨oa, oc, rfl⟩ := row.shape hrow
    by_cases hlt : k < ins.length
    · obtain ⟨x, hx⟩ : ∃ x, ins[k]? = some x := ⟨_, List.getElem?_eq_getElem hlt⟩
      obtain ⟨xb, xo, rfl, hcl⟩ := HS.out.cells k (.bool x) (by simp [hx])
      have c0 := (hc.cell (cell_lt hcl) (by simp)).trans hcl
      cases x
      · have hsu : u64s (wOf (ins.take (k + 1))) = u64s (wOf (ins.take k)) ++ [.int .u64 0] := by rw [List.take_add_one, hx]; simp [u64s, wOf]
        have hcA : Ch [] wr (wr.alloc (.cells #[.int .u64 0] 110)) := (Ch.refl _ _).alloc _
        have hrA := hrow.ch hcA (by simp)
        have hbA : blk (wr.alloc (.cells #[.int .u64 0] 110)) wr.heap.size [.int .u64 0] := blk.new' _ _ rfl
        have HSU := Lib.hid hsu; clear hsu
        have HRA := Lib.hid hrA; clear hrA hrow
        have HBA := Lib.hid hbA; clear hbA
        have HCA := Lib.hid hcA; clear hcA
        have HCP := Lib.hid hc; clear hc
        have HLO := Lib.hid hlo; clear hlo hcl hx
        go_wp2_with (at_builtin; go_loud (refine wpList_append_row slU64s rfl _ _ rfl (v := .slice oa k oc) (n := k) (xs := u64s (wOf (ins.take k))) rfl HRA.out (ad := ⟨wr.heap.size, 0, none⟩) (m := 1) (c := 1) (news := [.int .u64 0]) rfl rfl (news_blk HBA.out) (by simp [Value.oneCell']) (by omega) (by omega) ?_; intro v' w5 hown4 hC4 hf4; have HO4 := Lib.hid hown4; clear hown4; have HCC4 := Lib.hid hC4; clear hC4; have HF4 := Lib.hid hf4; clear hf4))
        go_roundw
        case rel =>
          obtain ⟨q1, q2⟩ := app_step HCP.out HCA.out HLO.out HCC4.out HF4.out
          refine ⟨k + 1, by omega, by go_num, q1, ?_, q2⟩
          rw [HSU.out]; exact HO4.out
        case measure => simp [intOf]; omega
      · have hsu : u64s (wOf (ins.take (k + 1))) = u64s (wOf (ins.take k)) ++ [.int .u64 1] := by rw [List.take_add_one, hx]; simp [u64s, wOf]
        have hcA : Ch [] wr (wr.alloc (.cells #[.int .u64 1] 110)) := (Ch.refl _ _).alloc _
        have hrA := hrow.ch hcA (by simp)
        have hbA : blk (wr.alloc (.cells #[.int .u64 1] 110)) wr.heap.size [.int .u64 1] := blk.new' _ _ rfl
        have HSU := Lib.hid hsu; clear hsu
        have HRA := Lib.hid hrA; clear hrA hrow
        have HBA := Lib.hid hbA; clear hbA
        have HCA := Lib.hid hcA; clear hcA
        have HCP := Lib.hid hc; clear hc
        have HLO := Lib.hid hlo; clear hlo hcl hx
        go_wp2_with (at_builtin; go_loud (refine wpList_append_row slU64s rfl _ _ rfl (v := .slice oa k oc) (n := k) (xs := u64s (wOf (ins.take k))) rfl HRA.out (ad := ⟨wr.heap.size, 0, none⟩) (m := 1) (c := 1) (news := [.int .u64 1]) rfl rfl (news_blk HBA.out) (by simp [Value.oneCell']) (by omega) (by omega) ?_; intro v' w5 hown4 hC4 hf4; have HO4 := Lib.hid hown4; clear hown4; have HCC4 := Lib.hid hC4; clear hC4; have HF4 := Lib.hid hf4; clear hf4))
        go_roundw
        case rel =>
          obtain ⟨q1, q2⟩ := app_step HCP.out HCA.out HLO.out HCC4.out HF4.out
          refine ⟨k + 1, by omega, by go_num, q1, ?_, q2⟩
          rw [HSU.out]; exact HO4.out
        case measure => simp [intOf]; omega
    · have hkn : k = ins.length := by omega
      rw [hkn, List.take_of_length_le (Nat.le_refl _)] at hrow
      rw [hkn] at hlo
      rw [hkn]
      have hW1 := HW.out wr hc oa oc hrow
      have HW1 := Lib.hid hW1; clear hW1 HW hrow hlo hkn
      have HC := Lib.hid hc; clear hc
      go_wp2_with fail
      refine HW1.out.mono ?_
      rintro e w3 ⟨v, rfl, hrv, _, hc3⟩
      obtain ⟨va, vc, rfl⟩ := row.shape hrv
      have hsv := row.sv hrv rfl (by omega)
      have HSV := Lib.hid hsv; clear hsv hrv
      have HC3 := Lib.hid (HC.out.trans hc3 (by simp)); clear hc3 HC HW1
      go_wp2_with fail
      go_loopw [14, 38] (fun o i wq => ∃ j : Nat, j ≤ ws.length ∧ i = .int .i64 j ∧ Ch [] w3 wq ∧ row wq 4 1 o j (bools ((ws.take j).map (fun v => v.testBit 0))) ∧ ∀ q ∈ o.ownBlock.toList, w3.heap.size ≤ q) (fun _ i _ => ws.length - (intOf i).toNat)
      case atStart => exact ⟨0, by omega, rfl, Ch.refl _ _, ⟨rfl, .inl ⟨rfl, rfl⟩⟩, by simp⟩
      case round =>
        obtain ⟨j, hj, rfl, hc, hrow, hlo⟩ := hrel
        obtain ⟨oa, oc, rfl⟩ := row.shape hrow
        by_cases hlt : j < ws.length
        · obtain ⟨x, hx⟩ : ∃ x, ws[j]? = some x := ⟨_, List.getElem?_eq_getElem hlt⟩
          have hxb := HWB.out x (List.mem_of_getElem? hx)
          obtain ⟨xb, xo, rfl, hcl⟩ := HSV.out.cells j (.int .u64 x) (u64s_get hx)
          have c0 := (hc.cell (cell_lt hcl) (by simp)).trans hcl
          have hand : bits .and .u64 (x : Int) 1 = ((x &&& 1 : Nat) : Int) := bits_and_u64_nat x 1 (by omega) (by omega)
          have hbe : (((x &&& 1 : Nat) : Int) == 1) = x.testBit 0 := by
            rw [Nat.testBit_zero, show x &&& 1 = x % 2 from Nat.and_one_is_mod x]
            rcases Nat.mod_two_eq_zero_or_one x with h | h <;> simp [h]
          have hsu : bools ((ws.take (j + 1)).map (fun v => v.testBit 0)) = bools ((ws.take j).map (fun v => v.testBit 0)) ++ [.bool (x.testBit 0)] := by rw [List.take_add_one, hx]; simp [bools]
          generalize x.testBit 0 = tb at hbe hsu
          generalize x &&& 1 = x1 at hand hbe
          have hcA : Ch [] wr (wr.alloc (.cells #[.bool tb] 4)) := (Ch.refl _ _).alloc _
          have hrA := hrow.ch hcA (by simp)
          have hbA : blk (wr.alloc (.cells #[.bool tb] 4)) wr.heap.size [.bool tb] := blk.new' _ _ rfl
          have HSU := Lib.hid hsu; clear hsu
          have HRA := Lib.hid hrA; clear hrA hrow
          have HBA := Lib.hid hbA; clear hbA
          have HCA := Lib.hid hcA; clear hcA
          have HCP := Lib.hid hc; clear hc
          have HLO := Lib.hid hlo; clear hlo hcl hx hxb
          go_wp2_with (at_builtin; go_loud (refine wpList_append_row slBools rfl _ _ rfl (v := .slice oa j oc) (n := j) (xs := bools ((ws.take j).map (fun v => v.testBit 0))) rfl HRA.out (ad := ⟨wr.heap.size, 0, none⟩) (m := 1) (c := 1) (news := [.bool tb]) rfl rfl (news_blk HBA.out) (by simp [Value.oneCell']) (by omega) (by omega) ?_; intro v' w5 hown4 hC4 hf4; have HO4 := Lib.hid hown4; clear hown4; have HCC4 := Lib.hid hC4; clear hC4; have HF4 := Lib.hid hf4; clear hf4))
          go_roundw
          case rel =>
            obtain ⟨q1, q2⟩ := app_step HCP.out HCA.out HLO.out HCC4.out HF4.out
            refine ⟨j + 1, by omega, by go_num, q1, ?_, q2⟩
            rw [HSU.out]; exact HO4.out
          case measure => simp [intOf]; omega
        · have hkn : j = ws.length := by omega
          rw [hkn, List.take_of_length_le (Nat.le_refl _)] at hrow
          rw [hkn] at hlo
          rw [hkn]
          have HROW := Lib.hid hrow; clear hrow
          have HLO := Lib.hid hlo; clear hlo
          have HCP := Lib.hid hc; clear hc hkn
          go_wp2_with fail
          go_ret2
          refine ⟨.slice oa ws.length oc, rfl, ?_, fun q hq => Nat.le_trans HC3.out.size (HLO.out q hq), HC3.out.trans HCP.out (by simp)⟩
          have := HROW.out
          simpa using this
end
end Go.Proofs.YtkedpifopclipaaGreat
namespace Go.Proofs.YtkedpifopclipaaGreat
open Go.RowKit Go.Mem Go.Aig
theorem Sb_nil (w : World) : Sb w none [] := ⟨fun i x hx => by simp at hx, by simp⟩
theorem bv_c (env : Nat → Bool) (n : Nat) (b : Bool) : bv env (newG n).nodes b.toNat = b := by
  cases b <;> rfl
theorem bits_c {n : Nat} (h1 : 1 ≤ n) (h2 : n ≤ 65536) (B : List Bool) : bitsR (newG n) [] (natInts (crs B)) = (B, 0) := by
  unfold bitsR
  rw [badIn_c (newG_ok h1 h2)]
  have hi : (inputs (newG n).nodes).length = 0 := rfl
  rw [hi, nats_crs]
  simp only [List.length_nil, ne_eq, not_true_eq_false, if_false, Bool.false_eq_true]
  unfold bsOf crs
  rw [List.map_map]
  congr 1
  rw [show (bv (fun i => ([] : List Bool).getD i false) (newG n).nodes ∘ Bool.toNat) = id from funext fun b => bv_c _ n b]
  simp
section
variable {w : World} {g : Nat} {G : Gra} {F : List Nat}
set_option maxRecDepth 100000 in
set_option maxHeartbeats 4000000 in
theorem Reads23_is (h : GIn w g G F) {a : Option Addr} {l : List Int} {m c : Nat} (hm : l.length = m) (hL : Sl w a l) (hbd : ∀ r ∈ l, -9223372036854775808 ≤ r ∧ r ≤ 9223372036854775807) {B : List Bool} (hR : bitsR G [] l = (B, 0)) (hB : B.length = m) (h1 : 1 ≤ m) (h16 : m ≤ 16) :
    Calls Tryz.prog 12 #[.pointer (some ⟨g, 0, none⟩), .slice a m c, .slice none 0 0] w fun e w' => e = .returned (.tuple #[.int .u32 (bitsVal B), .bool true]) ∧ Ch [] w w' := by
  have HB := simBits_is h (xa := none) (ins := []) 0 0 rfl (Sb_nil w) (by omega) m c hm hL hbd (by omega)
  rw [hR] at HB
  have HV := fun (W : World) (ba : Option Addr) (bc : Nat) (hS : Sb W ba B) => sValue_is (w := W) (x := ⟨a, l, c⟩) (by show l.length ≤ _; omega) bc (by omega) hS
  simp only [WV.val, hB, hm, h1, h16, and_self, if_true] at HV
  go_enter Tryz.func12, Tryz.ntmps12
  go_wp2_with fail
  refine HB.mono ?_
  rintro e w1 ⟨v, rfl, hrow, hown, hch⟩
  obtain ⟨ba, bc, rfl⟩ := hrow.parts (by show 0 < B.length; omega)
  have hS : Sb w1 (some ⟨ba, 0, none⟩) B := row.sv hrow rfl (by show B.length ≤ _; omega)
  simp only [hB]
  go_wp2_with fail
  refine (HV w1 _ bc hS).mono ?_
  rintro e w2 ⟨rfl, rfl⟩
  go_wp2_with fail
  go_ret2
  exact ⟨rfl, hch⟩
end
end Go.Proofs.YtkedpifopclipaaGreat
namespace Go.Proofs.YtkedpifopclipaaGreat
open Go.RowKit Go.Mem Go.Aig
def bitsOf (x n : Nat) : List Bool := (List.range n).map fun i => x.testBit i
theorem constL_c (x n : Nat) : constL x n = crs (bitsOf x n) := by unfold constL crs bitsOf; rw [List.map_map]; rfl
theorem bitsOf_len (x n : Nat) : (bitsOf x n).length = n := by simp [bitsOf]
theorem bitsOf_val (x n : Nat) : bitsVal (bitsOf x n) = x &&& (2 ^ n - 1) := by rw [mask_eq]; exact bits_val x n
end Go.Proofs.YtkedpifopclipaaGreat
namespace Go.Proofs.YtkedpifopclipaaGreat
open Go.RowKit Go.Mem Go.Aig
structure McF (a b n : Nat) (X Y P Q R : List Bool) : Prop where
  xc : constL a n = crs X
  yc : constL b n = crs Y
  xl : X.length = n
  yl : Y.length = n
  pl : P.length = n
  ql : Q.length = n
  rl : R.length = n
  p : mulG (newG 1) (natInts (crs X)) (natInts (crs Y)) = (newG 1, crs P, 0)
  t : timesG (newG 1) (natInts (crs X)) b = (newG 1, crs P, 0)
  q : bothG (newG 1) (natInts (crs X)) (natInts (crs Y)) = (newG 1, (crs Q, crs R), 0)
  pv : mulW (a &&& (2 ^ n - 1)) (b &&& (2 ^ n - 1)) (2 ^ n - 1) &&& (2 ^ n - 1) = bitsVal P
  qv : quoW (a &&& (2 ^ n - 1)) (b &&& (2 ^ n - 1)) (2 ^ n - 1) &&& (2 ^ n - 1) = bitsVal Q
  rv : remW (a &&& (2 ^ n - 1)) (b &&& (2 ^ n - 1)) (2 ^ n - 1) &&& (2 ^ n - 1) = bitsVal R
theorem mc_facts (a b : Nat) {n : Nat} (h1 : 1 ≤ n) (h16 : n ≤ 16) : ∃ X Y P Q R, McF a b n X Y P Q R := by
  have hG : Ok (newG 1) := newG_ok (by omega) (by omega)
  have hx : (bitsOf a n).length = n := bitsOf_len a n
  have hy : (bitsOf b n).length = n := bitsOf_len b n
  obtain ⟨P, hP, hPl, hPv⟩ := mul_c hG hx hy h1 h16
  obtain ⟨Q, R, hQ, hQl, hRl, hQv, hRv⟩ := both_c hG hx hy h1 h16
  rw [bitsOf_val, bitsOf_val] at hPv hQv hRv
  have hXm : a &&& (2 ^ n - 1) < 2 ^ n := by rw [mask_eq]; exact Nat.mod_lt _ (Nat.two_pow_pos n)
  obtain ⟨z, hz, _⟩ := pow32 h16
  have hp := Nat.two_pow_pos n
  refine ⟨bitsOf a n, bitsOf b n, P, Q, R, constL_c a n, constL_c b n, hx, hy, hPl, hQl, hRl, hP, ?_, hQ, ?_, ?_, ?_⟩
  · unfold timesG
    rw [if_neg (by rw [chk24_c1 hG hx h1 h16]; simp), natInts_crs_len, hx, constL_c]
    exact hP
  · rw [hPv, mask_eq]
    unfold mulW
    rw [hz, Nat.mod_mul_right_mod]
  · rw [hQv, mask_eq (quoW _ _ _)]
    unfold quoW
    split
    · rw [Nat.mod_eq_of_lt (by omega)]
    · exact Nat.mod_eq_of_lt (Nat.lt_of_le_of_lt (Nat.div_le_self _ _) hXm)
  · rw [hRv, mask_eq (remW _ _ _)]
    unfold remW
    split
    · exact Nat.mod_eq_of_lt hXm
    · exact Nat.mod_eq_of_lt (Nat.lt_of_le_of_lt (Nat.mod_le _ _) hXm)
section
variable {w : World}
set_option maxRecDepth 100000 in
theorem mdconsts1_is (b : Bool) : Calls Tryz.prog 22 #[.int .i64 b.toNat] w fun e w' => e = .returned (.bool false) ∧ w = w' := by
  cases b
  · go_enter Tryz.func22, Tryz.ntmps22
    go_wp2_with fail
    go_ret
    exact ⟨rfl, rfl⟩
  · go_enter Tryz.func22, Tryz.ntmps22
    go_wp2_with fail
    go_ret
    exact ⟨rfl, rfl⟩
theorem fnvmdconsts1 : Fnv 22 := fnv_of Tryz.func22 (by simp [Tryz.f22]) (by simp [Tryz.f22])
theorem small24_is {a : Option Addr} {m cap : Nat} (B : List Bool) (hB : B.length = m) (h : Sl w a (natInts (crs B))) : Calls Tryz.prog 21 #[.slice a m cap, .func (.func 22) #[] #[]] w fun e w' => e = .returned (.bool false) ∧ w = w' := by
  subst hB
  have hl : (natInts (crs B)).length = B.length := natInts_crs_len B
  have hC := CFref_is cap 22 #[] (fun _ => false) h (fun x hx => by
    unfold natInts crs at hx
    rw [List.map_map] at hx
    obtain ⟨b, _, rfl⟩ := List.mem_map.1 hx
    exact mdconsts1_is b) fnvmdconsts1
  rw [hl] at hC
  have he : ((natInts (crs B)).any fun _ => false) = false := by simp
  rw [he] at hC
  exact hC
end
end Go.Proofs.YtkedpifopclipaaGreat
namespace Go.Proofs.YtkedpifopclipaaGreat
open Go.RowKit Go.Mem Go.Aig
section
variable {w0 : Base} {w : World} {g : Nat} {G : Gra} {F : List Nat} {L : List (Value × List Int)}
theorem Hold.word2 {w' : World} {G' : Gra} {v1 v2 : Value} {l1 l2 : List Nat} (h : Hold w0 w g G F L) (ht : GVV w g G' F v1 l1 v2 l2 w') (hb1 : ∀ r ∈ l1, r ≤ 1000000) (hl1 : l1.length ≤ 1000000) (hb2 : ∀ r ∈ l2, r ≤ 1000000) (hl2 : l2.length ≤ 1000000) :
    ∃ a1 c1 a2 c2 F', v1 = .slice a1 l1.length c1 ∧ v2 = .slice a2 l2.length c2 ∧ Hold w0 w' g G' F' ((.slice a2 l2.length c2, natInts l2) :: (.slice a1 l1.length c1, natInts l1) :: L) := by
  obtain ⟨F', h1, h2, h3, h4, h5, h6, h7, h8⟩ := ht
  obtain ⟨a1, c1, rfl⟩ := row.shape h5
  obtain ⟨a2, c2, rfl⟩ := row.shape h6
  have hs := h.own.ch.size
  have mk : ∀ {v : Value} {l : List Nat}, row w' 53 1 v l.length (refsCells l) → (∀ r ∈ l, r ≤ 1000000) → l.length ≤ 1000000 → (∀ k, v.ownBlock = some k → w.heap.size ≤ k ∧ k ∉ F') → Held w0.w w' F' v (natInts l) := fun {v l} hr hb hl ho => by
    refine ⟨?_, by simpa using hl, fun r hr => ?_, fun k hk => ⟨Nat.le_trans hs (ho k hk).1, (ho k hk).2⟩⟩
    · simp only [natInts_len]
      rw [← refs_natInts]
      exact hr
    · obtain ⟨q, hq, rfl⟩ := List.mem_map.1 hr
      have := hb q hq
      omega
  refine ⟨a1, c1, a2, c2, F', rfl, rfl, ⟨⟨h1, fun k hk => (h3 k hk).elim (h.own.own k) (fun e => Nat.le_trans hs e), h.own.ch.trans h2 (fun k hk => .inr (h.own.own k hk))⟩, fun p hp => ?_, h.keptTo h2 h3⟩⟩
  rcases List.mem_cons.1 hp with rfl | hp
  · exact mk h6 hb2 hl2 h8
  rcases List.mem_cons.1 hp with rfl | hp
  · exact mk h5 hb1 hl1 (fun k hk => ⟨(h7 k hk).1, (h7 k hk).2.1⟩)
  · exact (h.held p hp).keep h2 h3
theorem mdMul_h (h : Hold w0 w g G F L) {xa ya : Option Addr} {xl yl : List Int} {n m xc yc : Nat} (hx : (.slice xa n xc, xl) ∈ L) (hxn : xl.length = n) (hy : (.slice ya m yc, yl) ∈ L) (hym : yl.length = m) {G' : Gra} {l : List Nat} {e k : Nat} (hR : mulG G xl yl = (G', l, e)) (hk : l.length = k) (hb : ∀ r ∈ l, r ≤ 1000000) (hl : k ≤ 1000000) :
    Calls Tryz.prog 7 #[.pointer (some ⟨g, 0, none⟩), .slice xa n xc, .slice ya m yc] w fun en w' => ∃ a c F', en = .returned (.tuple #[.slice a k c, .int .i64 e]) ∧ Hold w0 w' g G' F' ((.slice a k c, natInts l) :: L) := by
  have hc := mdMul_is h.own.gin (h.at hx hxn) (h.at hy hym) (by rw [hxn]; exact (h.held _ hx).cap)
  simp only [WV.val, hxn, hym] at hc
  exact Calls.word h hc hR hk hb hl
theorem mdDiv_h (h : Hold w0 w g G F L) {xa ya : Option Addr} {xl yl : List Int} {n m xc yc : Nat} (hx : (.slice xa n xc, xl) ∈ L) (hxn : xl.length = n) (hy : (.slice ya m yc, yl) ∈ L) (hym : yl.length = m) {G' : Gra} {l l2 : List Nat} {e k : Nat} (hR : bothG G xl yl = (G', (l, l2), e)) (hk : l.length = k) (hb : ∀ r ∈ l, r ≤ 1000000) (hl : k ≤ 1000000) :
    Calls Tryz.prog 17 #[.pointer (some ⟨g, 0, none⟩), .slice xa n xc, .slice ya m yc] w fun en w' => ∃ a c F', en = .returned (.tuple #[.slice a k c, .int .i64 e]) ∧ Hold w0 w' g G' F' ((.slice a k c, natInts l) :: L) := by
  have hc := mdDiv_is h.own.gin (h.at hx hxn) (h.at hy hym)
  simp only [WV.val, hxn, hym] at hc
  exact Calls.word (R := ((bothG G xl yl).1, (bothG G xl yl).2.1.1, (bothG G xl yl).2.2)) h hc (by rw [hR]) hk hb hl
theorem mdRem_h (h : Hold w0 w g G F L) {xa ya : Option Addr} {xl yl : List Int} {n m xc yc : Nat} (hx : (.slice xa n xc, xl) ∈ L) (hxn : xl.length = n) (hy : (.slice ya m yc, yl) ∈ L) (hym : yl.length = m) {G' : Gra} {l l2 : List Nat} {e k : Nat} (hR : bothG G xl yl = (G', (l2, l), e)) (hk : l.length = k) (hb : ∀ r ∈ l, r ≤ 1000000) (hl : k ≤ 1000000) :
    Calls Tryz.prog 18 #[.pointer (some ⟨g, 0, none⟩), .slice xa n xc, .slice ya m yc] w fun en w' => ∃ a c F', en = .returned (.tuple #[.slice a k c, .int .i64 e]) ∧ Hold w0 w' g G' F' ((.slice a k c, natInts l) :: L) := by
  have hc := mdRem_is h.own.gin (h.at hx hxn) (h.at hy hym)
  simp only [WV.val, hxn, hym] at hc
  exact Calls.word (R := ((bothG G xl yl).1, (bothG G xl yl).2.1.2, (bothG G xl yl).2.2)) h hc (by rw [hR]) hk hb hl
theorem mdTimes_h (h : Hold w0 w g G F L) {xa : Option Addr} {xl : List Int} {n xc : Nat} (hx : (.slice xa n xc, xl) ∈ L) (hxn : xl.length = n) (z : Nat) (hz : z < 4294967296) {G' : Gra} {l : List Nat} {e k : Nat} (hR : timesG G xl z = (G', l, e)) (hk : l.length = k) (hb : ∀ r ∈ l, r ≤ 1000000) (hl : k ≤ 1000000) :
    Calls Tryz.prog 16 #[.pointer (some ⟨g, 0, none⟩), .slice xa n xc, .int .u32 z] w fun en w' => ∃ a c F', en = .returned (.tuple #[.slice a k c, .int .i64 e]) ∧ Hold w0 w' g G' F' ((.slice a k c, natInts l) :: L) := by
  have hc := mdTimes_is h.own.gin (h.at hx hxn) (by rw [hxn]; exact (h.held _ hx).cap) z hz
  simp only [WV.val, hxn] at hc
  exact Calls.word h hc hR hk hb hl
theorem mdBoth_h (h : Hold w0 w g G F L) {xa ya : Option Addr} {xl yl : List Int} {n m xc yc : Nat} (hx : (.slice xa n xc, xl) ∈ L) (hxn : xl.length = n) (hy : (.slice ya m yc, yl) ∈ L) (hym : yl.length = m) {G' : Gra} {l1 l2 : List Nat} {e k1 k2 : Nat} (hR : bothG G xl yl = (G', (l1, l2), e)) (hk1 : l1.length = k1) (hk2 : l2.length = k2) (hb1 : ∀ r ∈ l1, r ≤ 1000000) (hb2 : ∀ r ∈ l2, r ≤ 1000000) (hl1 : k1 ≤ 1000000) (hl2 : k2 ≤ 1000000) :
    Calls Tryz.prog 8 #[.pointer (some ⟨g, 0, none⟩), .slice xa n xc, .slice ya m yc] w fun en w' => ∃ a1 c1 a2 c2 F', en = .returned (.tuple #[.slice a1 k1 c1, .slice a2 k2 c2, .int .i64 e]) ∧ Hold w0 w' g G' F' ((.slice a2 k2 c2, natInts l2) :: (.slice a1 k1 c1, natInts l1) :: L) := by
  have hc := mdBoth_is h.own.gin (h.at hx hxn) (h.at hy hym)
  simp only [WV.val, hxn, hym] at hc
  rw [hR] at hc
  subst hk1 hk2
  refine hc.mono ?_
  rintro en w' ⟨v1, v2, rfl, hg⟩
  obtain ⟨a1, c1, a2, c2, F', rfl, rfl, ho⟩ := h.word2 hg hb1 hl1 hb2 hl2
  exact ⟨a1, c1, a2, c2, F', rfl, ho⟩
end
end Go.Proofs.YtkedpifopclipaaGreat
namespace Go.Aig
/-- the values of the inputs for two numbers -/
def givenL (n m a b : Nat) : List Bool := (List.range n).map a.testBit ++ (List.range m).map b.testBit
theorem givenL_len (n m a b : Nat) : (givenL n m a b).length = n + m := by simp [givenL]
end Go.Aig
namespace Go.Aig
/-- how many bits of a word of 64 are 1 -/
def cnt (w : Nat) : Nat := ((List.range 64).filter fun k => w.testBit k).length
end Go.Aig
namespace Go.Proofs.YtkedpifopclipaaGreat
open Go.RowKit Go.Mem Go.Aig
theorem bits_and_i64_nat (a b : Nat) (ha : a < 9223372036854775808) (hb : b < 9223372036854775808) : bits .and .i64 (a : Int) (b : Int) = ((a &&& b : Nat) : Int) := by
  have hx : a &&& b ≤ a := Nat.and_le_left
  have h1 : (BitVec.ofInt 64 (a : Int)).toNat = a := by
    rw [BitVec.ofInt_natCast, BitVec.toNat_ofNat]; exact Nat.mod_eq_of_lt (by omega)
  have h2 : (BitVec.ofInt 64 (b : Int)).toNat = b := by
    rw [BitVec.ofInt_natCast, BitVec.toNat_ofNat]; exact Nat.mod_eq_of_lt (by omega)
  show IntKind.i64.wrap ((BitVec.ofInt 64 (a : Int) &&& BitVec.ofInt 64 (b : Int)).toNat : Int) = _
  rw [BitVec.toNat_and, h1, h2, IntKind.wrap_i64]
  omega
/-- a bit, as the code asks for it -/
theorem bit_i64 (x d : Nat) (hx : x < 9223372036854775808) : (bits .and .i64 ((x : Int) / 2 ^ d) 1 == 1) = decide (x / 2 ^ d % 2 = 1) := by
  have h1 : x / 2 ^ d < 9223372036854775808 := Nat.lt_of_le_of_lt (Nat.div_le_self _ _) hx
  have h2 := bits_and_i64_nat (x / 2 ^ d) 1 h1 (by omega)
  have h3 : ((x / 2 ^ d : Nat) : Int) = (x : Int) / 2 ^ d := by rw [Int.natCast_ediv]; simp
  rw [Nat.and_one_is_mod, h3] at h2
  rw [show (1 : Int) = ((1 : Nat) : Int) from rfl, h2]
  rcases Nat.mod_two_eq_zero_or_one (x / 2 ^ d) with h | h <;> rw [h] <;> rfl
section
variable {w : World}
end
end Go.Proofs.YtkedpifopclipaaGreat
namespace Go.Proofs.YtkedpifopclipaaGreat
open Go.RowKit Go.Mem Go.Aig
attribute [local go_sem] Oper.semAt_some
section
variable {w : World} {g : Nat} {G : Gra} {F : List Nat}
end
end Go.Proofs.YtkedpifopclipaaGreat
namespace Go.Aig
end Go.Aig
namespace Go.Proofs.YtkedpifopclipaaGreat
open Go.RowKit Go.Mem Go.Aig
attribute [local go_sem] Oper.semAt_some
section
variable {w : World} {g : Nat} {G : Gra} {F : List Nat}
end
end Go.Proofs.YtkedpifopclipaaGreat
namespace Go.Aig
end Go.Aig
namespace Go.Proofs.YtkedpifopclipaaGreat
open Go.RowKit Go.Mem Go.Aig
attribute [local go_sem] Oper.semAt_some
section
variable {w : World} {g : Nat} {G : Gra} {F : List Nat}
end
end Go.Proofs.YtkedpifopclipaaGreat
namespace Go.Aig
theorem xor_lt {a : Nat} (h : a < 65536) : a ^^^ 65535 < 65536 := Nat.xor_lt_two_pow (n := 16) h (by decide)
end Go.Aig
namespace Go.Proofs.YtkedpifopclipaaGreat
open Go.Aig
/-- the bits of the inputs, for the assignment j -/
def envOf (j k : Nat) : Bool := (inWords.getD k 0).testBit j
theorem nv_count (env : Nat → Bool) : ∀ (ms ns : List Nd), (nv env (ns ++ ms)).2 = (nv env ns).2 + (ms.filter fun x => x.k == 2).length
  | [], ns => by simp
  | x :: ms, ns => by
    rw [List.append_cons, nv_count env ms (ns ++ [x]), nv_snoc]
    unfold nvStep
    by_cases h3 : x.k = 3
    · simp [h3]
    · by_cases h2 : x.k = 2
      · simp [h2]; omega
      · simp [h3, h2]
end Go.Proofs.YtkedpifopclipaaGreat
namespace Go.Proofs.YtkedpifopclipaaGreat
open Go.Aig
def wvStep (s : List Nat × Nat) (x : Nd) : List Nat × Nat :=
  if x.k = 3 then (s.1 ++ [wv s.1 x.l &&& wv s.1 x.r], s.2) else if x.k = 2 then (s.1 ++ [inWords.getD s.2 0], s.2 + 1) else (s.1 ++ [0], s.2)
def wvs (ns : List Nd) : List Nat × Nat := ns.foldl wvStep ([], 0)
theorem wvs_snoc (ns : List Nd) (x : Nd) : wvs (ns ++ [x]) = wvStep (wvs ns) x := by unfold wvs; rw [List.foldl_append]; rfl
theorem inWords_lt (k : Nat) : inWords.getD k 0 < 65536 := by
  rcases k with _ | _ | _ | _ | k <;> simp [inWords]
theorem wv_lt {vs : List Nat} (h : ∀ x ∈ vs, x < 65536) (r : Nat) : wv vs r < 65536 := by
  have hd : vs.getD (r / 2) 0 < 65536 := by
    rw [List.getD_eq_getElem?_getD]
    cases hi : vs[r / 2]? with
    | none => simp
    | some x => exact h x (List.mem_of_getElem? hi)
  unfold wv; split
  · exact xor_lt hd
  · exact hd
/-- the words go with the bits -/
structure WB (ns : List Nd) : Prop where
  len : (wvs ns).1.length = ns.length
  cnt : ∀ env, (wvs ns).2 = (nv env ns).2
  lt : ∀ x ∈ (wvs ns).1, x < 65536
  bit : ∀ j, j < 16 → ∀ i, ((wvs ns).1.getD i 0).testBit j = (nv (envOf j) ns).1.getD i false
theorem wv_bit {ns : List Nd} (h : WB ns) {j : Nat} (hj : j < 16) (r : Nat) : (wv (wvs ns).1 r).testBit j = bv (envOf j) ns r := by
  unfold wv bv rv
  split
  · rename_i h1
    rw [Nat.testBit_xor, h.bit j hj, show (65535 : Nat) = 2 ^ 16 - 1 from rfl, Nat.testBit_two_pow_sub_one]
    simp [hj, h1]
  · rename_i h1
    rw [h.bit j hj]
    simp [h1]
theorem getD_snoc {α : Type} (l : List α) (x d : α) (i : Nat) : (l ++ [x]).getD i d = if i < l.length then l.getD i d else if i = l.length then x else d := by
  simp only [List.getD_eq_getElem?_getD]
  by_cases h : i < l.length
  · rw [if_pos h, List.getElem?_append_left h]
  · rw [if_neg h]
    by_cases h2 : i = l.length
    · subst h2; rw [if_pos rfl, List.getElem?_append_right (Nat.le_refl _)]; simp
    · rw [if_neg h2, List.getElem?_eq_none (by simp; omega)]; rfl
theorem wb_nil : WB [] := ⟨rfl, fun _ => rfl, by simp [wvs], by intro j _ i; simp [wvs, nv]⟩
theorem wb_snoc {ns : List Nd} (h : WB ns) (x : Nd) : WB (ns ++ [x]) := by
  have hl : ∀ env, (nv env ns).1.length = (wvs ns).1.length := fun env => by rw [nv_len, h.len]
  refine ⟨?_, fun env => ?_, fun y hy => ?_, fun j hj i => ?_⟩
  · rw [wvs_snoc]; unfold wvStep; (repeat' split) <;> simp [h.len]
  · rw [wvs_snoc, nv_snoc]; unfold wvStep nvStep; (repeat' split) <;> simp [h.cnt env]
  · rw [wvs_snoc] at hy
    unfold wvStep at hy
    (repeat' split at hy) <;> simp at hy <;> rcases hy with hy | rfl
    · exact h.lt y hy
    · exact Nat.and_lt_two_pow (n := 16) _ (wv_lt h.lt _)
    · exact h.lt y hy
    · have := inWords_lt (wvs ns).2; simpa using this
    · exact h.lt y hy
    · omega
  · rw [wvs_snoc, nv_snoc]
    have e := h.cnt (envOf j)
    unfold wvStep nvStep
    split
    · rw [getD_snoc, getD_snoc, hl]
      (repeat' split)
      · exact h.bit j hj i
      · rw [Nat.testBit_and, wv_bit h hj, wv_bit h hj]; rfl
      · simp
    · split
      · rw [getD_snoc, getD_snoc, hl]
        (repeat' split)
        · exact h.bit j hj i
        · rw [e]; rfl
        · simp
      · rw [getD_snoc, getD_snoc, hl]
        (repeat' split)
        · exact h.bit j hj i
        · simp
        · simp
theorem wb_all : ∀ (ms ns : List Nd), WB ns → WB (ns ++ ms)
  | [], ns, h => by simpa using h
  | x :: ms, ns, h => by
    rw [List.append_cons]
    exact wb_all ms (ns ++ [x]) (wb_snoc h x)
theorem wb (ns : List Nd) : WB ns := by simpa using wb_all ns [] wb_nil
end Go.Proofs.YtkedpifopclipaaGreat
namespace Go.Aig
end Go.Aig
namespace Go.Proofs.YtkedpifopclipaaGreat
open Go.RowKit Go.Mem Go.Aig
section
variable {w : World} {g : Nat} {G : Gra} {F : List Nat}
set_option maxRecDepth 100000 in
set_option maxHeartbeats 2000000 in
theorem ReadsW_is (h : GIn w g G F) {a : Option Addr} {l : List Int} {m c : Nat} (hm : l.length = m) (hL : Sl w a l) (hbd : ∀ r ∈ l, -9223372036854775808 ≤ r ∧ r ≤ 9223372036854775807) {xa : Option Addr} {ins : List Bool} {k xc : Nat} (hk : ins.length = k) (hI : Sb w xa ins) (hkl : k ≤ 1000) {B : List Bool} (hR : bitsR G ins l = (B, 0)) (hB : B.length = m) (h1 : 1 ≤ m) (h16 : m ≤ 16) :
    Calls Tryz.prog 12 #[.pointer (some ⟨g, 0, none⟩), .slice a m c, .slice xa k xc] w fun e w' => e = .returned (.tuple #[.int .u32 (bitsVal B), .bool true]) ∧ Ch [] w w' := by
  have HB := simBits_is h (xa := xa) (ins := ins) k xc hk hI (by omega) m c hm hL hbd (by omega)
  rw [hR] at HB
  have HV := fun (W : World) (ba : Option Addr) (bc : Nat) (hS : Sb W ba B) => sValue_is (w := W) (x := ⟨a, l, c⟩) (by show l.length ≤ _; omega) bc (by omega) hS
  simp only [WV.val, hB, hm, h1, h16, and_self, if_true] at HV
  clear hI hL
  go_enter Tryz.func12, Tryz.ntmps12
  go_wp2_with fail
  refine HB.mono ?_
  rintro e w1 ⟨v, rfl, hrow, hown, hch⟩
  obtain ⟨ba, bc, rfl⟩ := hrow.parts (by show 0 < B.length; omega)
  have hS : Sb w1 (some ⟨ba, 0, none⟩) B := row.sv hrow rfl (by show B.length ≤ _; omega)
  simp only [hB]
  go_wp2_with fail
  refine (HV w1 _ bc hS).mono ?_
  rintro e w2 ⟨rfl, rfl⟩
  go_wp2_with fail
  go_ret2
  exact ⟨rfl, hch⟩
end
theorem givenA_snoc (n m a b k : Nat) (hk : k < n) : (givenL n m a b).take (k + 1) = (givenL n m a b).take k ++ [a.testBit k] := by
  rw [List.take_add_one]
  congr 1
  unfold givenL
  rw [List.getElem?_append_left (by simpa using hk), List.getElem?_map, List.getElem?_range hk]
  rfl
theorem givenB_snoc (n m a b k : Nat) (hk : k < m) : (givenL n m a b).take (n + k + 1) = (givenL n m a b).take (n + k) ++ [b.testBit k] := by
  rw [List.take_add_one]
  congr 1
  unfold givenL
  rw [List.getElem?_append_right (by simp), List.getElem?_map]
  simp only [List.length_map, List.length_range, Nat.add_sub_cancel_left]
  rw [List.getElem?_range hk]
  rfl
set_option maxRecDepth 100000 in
set_option maxHeartbeats 4000000 in
theorem Given_is {w : World} (n a b : Nat) (hn : n ≤ 60) (ha : a ≤ 1000000) (hb : b ≤ 1000000) :
    Calls Tryz.prog 11 #[.int .i64 n, .int .i64 a, .int .i64 b] w fun e w' => ∃ v, e = .returned v ∧ row w' 4 1 v (n + n) (bools (givenL n n a b)) ∧ (∀ q ∈ v.ownBlock.toList, w.heap.size ≤ q) ∧ Ch [] w w' := by
  have HS1 := Lib.hid (givenA_snoc n n a b)
  have HS2 := Lib.hid (givenB_snoc n n a b)
  have hlen := givenL_len n n a b
  obtain ⟨GL, hGL⟩ : ∃ GL, GL = givenL n n a b := ⟨_, rfl⟩
  rw [← hGL] at HS1 HS2 hlen ⊢
  clear hGL
  go_enter Tryz.func11, Tryz.ntmps11
  go_wp2_with fail
  go_loopw [7, 11] (fun o i wr => ∃ s : Nat, s ≤ n ∧ i = .int .i64 s ∧ Ch [] w wr ∧ row wr 4 1 o s (bools (GL.take s)) ∧ ∀ q ∈ o.ownBlock.toList, w.heap.size ≤ q) (fun _ i _ => n - (intOf i).toNat)
  case atStart => exact ⟨0, by omega, rfl, Ch.refl _ _, ⟨rfl, .inl ⟨rfl, rfl⟩⟩, by simp⟩
  case round =>
    obtain ⟨s, hs, rfl, hc, hrow, hlo⟩ := hrel
    obtain ⟨oa, oc, rfl⟩ := row.shape hrow
    have HROW := Lib.hid hrow; clear hrow
    by_cases hlt2 : s < n
    · have hsn := HS1.out s hlt2
      have hbit := bit_i64 a s (by omega)
      rw [← Nat.testBit_eq_decide_div_mod_eq] at hbit
      have HC2 := Lib.hid hc; clear hc
      have HLO := Lib.hid hlo; clear hlo
      generalize a.testBit s = tb' at hsn hbit
      have hcA : Ch [] wr (wr.alloc (.cells #[.bool tb'] 4)) := (Ch.refl _ _).alloc _
      have hrA := HROW.out.ch hcA (by simp)
      have hbA : blk (wr.alloc (.cells #[.bool tb'] 4)) wr.heap.size [.bool tb'] := blk.new' _ _ rfl
      have HSU := Lib.hid hsn; clear hsn
      have HRA := Lib.hid hrA; clear hrA
      have HBA := Lib.hid hbA; clear hbA
      have HCA := Lib.hid hcA; clear hcA
      go_wp2_with (at_builtin; go_loud (refine wpList_append_row slBools rfl _ _ rfl (v := .slice oa s oc) (n := s) (xs := bools (GL.take s)) rfl HRA.out (ad := ⟨wr.heap.size, 0, none⟩) (m := 1) (c := 1) (news := [.bool tb']) rfl rfl (news_blk HBA.out) (by simp [Value.oneCell']) (by omega) (by omega) ?_; intro v' w5 hown4 hC4 hf4; have HO4 := Lib.hid hown4; clear hown4; have HCC4 := Lib.hid hC4; clear hC4; have HF4 := Lib.hid hf4; clear hf4))
      go_roundw
      case rel =>
        obtain ⟨q1, q2⟩ := app_step HC2.out HCA.out HLO.out HCC4.out HF4.out
        refine ⟨s + 1, by omega, by go_num, q1, ?_, q2⟩
        rw [HSU.out, show bools (GL.take s ++ [tb']) = bools (GL.take s) ++ [.bool tb'] by simp [bools]]
        exact HO4.out
      case measure => simp [intOf]; omega
    · have hsn : s = n := by omega
      subst hsn
      have HC1 := Lib.hid hc; clear hc
      have HLO1 := Lib.hid hlo; clear hlo
      obtain ⟨wo, hwo⟩ : ∃ wo, wo = wr := ⟨_, rfl⟩
      subst hwo
      go_wp2_with fail
      go_loopw [7, 24] (fun o i wr => ∃ t : Nat, t ≤ s ∧ i = .int .i64 t ∧ Ch [] w wr ∧ row wr 4 1 o (s + t) (bools (GL.take (s + t))) ∧ ∀ q ∈ o.ownBlock.toList, w.heap.size ≤ q) (fun _ i _ => s - (intOf i).toNat)
      case atStart => exact ⟨0, by omega, rfl, HC1.out, HROW.out, HLO1.out⟩
      case round =>
        clear HROW HC1 HLO1
        obtain ⟨t, ht, rfl, hc, hrow, hlo⟩ := hrel
        obtain ⟨oa, oc, rfl⟩ := row.shape hrow
        have HROW := Lib.hid hrow; clear hrow
        by_cases hlt3 : t < s
        · have hsn := HS2.out t hlt3
          have hbit := bit_i64 b t (by omega)
          rw [← Nat.testBit_eq_decide_div_mod_eq] at hbit
          have HC2 := Lib.hid hc; clear hc
          have HLO := Lib.hid hlo; clear hlo
          generalize b.testBit t = tb' at hsn hbit
          have hcA : Ch [] wr (wr.alloc (.cells #[.bool tb'] 4)) := (Ch.refl _ _).alloc _
          have hrA := HROW.out.ch hcA (by simp)
          have hbA : blk (wr.alloc (.cells #[.bool tb'] 4)) wr.heap.size [.bool tb'] := blk.new' _ _ rfl
          have HSU := Lib.hid hsn; clear hsn
          have HRA := Lib.hid hrA; clear hrA
          have HBA := Lib.hid hbA; clear hbA
          have HCA := Lib.hid hcA; clear hcA
          go_wp2_with (at_builtin; go_loud (refine wpList_append_row slBools rfl _ _ rfl (v := .slice oa (s + t) oc) (n := s + t) (xs := bools (GL.take (s + t))) rfl HRA.out (ad := ⟨wr.heap.size, 0, none⟩) (m := 1) (c := 1) (news := [.bool tb']) rfl rfl (news_blk HBA.out) (by simp [Value.oneCell']) (by omega) (by omega) ?_; intro v' w5 hown4 hC4 hf4; have HO4 := Lib.hid hown4; clear hown4; have HCC4 := Lib.hid hC4; clear hC4; have HF4 := Lib.hid hf4; clear hf4))
          go_roundw
          case rel =>
            obtain ⟨q1, q2⟩ := app_step HC2.out HCA.out HLO.out HCC4.out HF4.out
            refine ⟨t + 1, by omega, by go_num, q1, ?_, q2⟩
            rw [show s + (t + 1) = s + t + 1 by omega, HSU.out, show bools (GL.take (s + t) ++ [tb']) = bools (GL.take (s + t)) ++ [.bool tb'] by simp [bools]]
            exact HO4.out
          case measure => simp [intOf]; omega
        · have htm : t = s := by omega
          subst htm
          have hrow := HROW.out
          rw [List.take_of_length_le (by omega)] at hrow
          have HR := Lib.hid hrow; clear hrow HROW
          have HC2 := Lib.hid hc; clear hc
          have HLO := Lib.hid hlo; clear hlo
          go_wp2_with fail
          go_ret
          exact ⟨_, rfl, HR.out, HLO.out, HC2.out⟩
end Go.Proofs.YtkedpifopclipaaGreat
namespace Go.Proofs.YtkedpifopclipaaGreat
open Go.RowKit Go.Mem Go.Aig
def ma0 : Gra := ⟨4000, [⟨1, 0, 0, 0⟩, ⟨2, 0, 0, 0⟩, ⟨2, 0, 0, 0⟩, ⟨2, 0, 0, 0⟩, ⟨2, 0, 0, 0⟩]⟩
def ma1 : Gra := (mulG ma0 (natInts [2, 4]) (natInts [6, 8])).1
theorem zeros_new (w : World) (n : Nat) (hn : n ≤ 1000000) : WNew w (.slice (some ⟨w.heap.size, 0, none⟩) n n) (intCells (List.replicate n 0)) (w.alloc (.cells (refsCells (List.replicate n 0)).toArray 53)) := by
  have e : intCells (List.replicate n 0) = refsCells (List.replicate n 0) := by simp [intCells, refsCells]
  have h := row_fresh (w := w) (l := List.replicate n 0) (n := n) rfl (by simp) hn
  rw [e] at h
  rw [e]
  exact ⟨by simpa [refsCells] using h, by simp [Value.ownBlock], (Ch.refl _ _).alloc _⟩
theorem Hold.zeros {w0 : Base} {w : World} {g : Nat} {G : Gra} {F : List Nat} {L : List (Value × List Int)} (h : Hold w0 w g G F L) (n : Nat) (hn : n ≤ 1000000) : Hold w0 (w.alloc (.cells (refsCells (List.replicate n 0)).toArray 53)) g G F ((.slice (some ⟨w.heap.size, 0, none⟩) n n, List.replicate n 0) :: L) := by
  obtain ⟨a, c, e, ho⟩ := h.new (zeros_new w n hn) (fun r hr => by rw [(List.mem_replicate.1 hr).2]; omega) (by simpa using hn)
  rw [← e] at ho
  exact ho
/-- the words of the examples, read for the assignments -/
theorem reads24 : ∀ k, k < 4 → bitsR ma1 (givenL 2 2 k 0) (natInts [1, 1]) = ([true, true], 0) ∧ (bitsR ma1 (givenL 2 2 k 0) (natInts [2, 4])).2 = 0 ∧ (bitsR ma1 (givenL 2 2 k 0) (natInts [2, 4])).1.length = 2 ∧ bitsVal (bitsR ma1 (givenL 2 2 k 0) (natInts [2, 4])).1 = k := by
  intro k hk
  have : k = 0 ∨ k = 1 ∨ k = 2 ∨ k = 3 := by omega
  rcases this with rfl | rfl | rfl | rfl <;> decide +kernel
section
set_option maxRecDepth 100000 in
set_option maxHeartbeats 8000000 in
theorem awake24_is (w : World) : Calls Tryz.prog 5 #[] w fun e w' => e = .returned (.bool true) ∧ Ch [] w w' := by
  have hP := Pair_is w 1 (by omega)
  rw [show (1 : Nat) % 5 + 1 = 2 from rfl, show gIn 4000 (2 * 2) = ma0 from rfl, show rIn 2 2 = [6, 8] from rfl, show rIn 0 2 = [2, 4] from rfl] at hP
  have HP := Lib.hid hP; clear hP
  go_enter Tryz.func5, Tryz.ntmps5
  go_wp2_with fail
  refine HP.out.mono ?_
  rintro e w1 ⟨g, F1, a1, c1, a2, c2, rfl, ho⟩
  have HO := Lib.hid ho; clear ho HP
  go_wp2_with fail
  refine (mdMul_h HO.out (xa := a1) (xc := c1) (n := 2) (xl := natInts [2, 4]) (by simp) rfl (ya := a2) (yc := c2) (m := 2) (yl := natInts [6, 8]) (by simp) rfl (G' := ma1) (l := [10, 21]) (e := 0) (k := 2) (by kernel_rfl) rfl (by decide) (by decide)).mono ?_
  rintro e w2 ⟨a3, c3, F3, rfl, ho⟩
  clear HO; have HO := Lib.hid ho; clear ho
  have hx := HO.out.sl (a := a1) (c := c1) (n := 2) (l := natInts [2, 4]) (by simp) rfl
  have hy := HO.out.sl (a := a2) (c := c2) (n := 2) (l := natInts [6, 8]) (by simp) rfl
  obtain ⟨xb, xo, rfl, cx⟩ := hx.cells 0 2 rfl
  obtain ⟨yb, yo, rfl, cy⟩ := hy.cells 0 6 rfl
  rw [Nat.add_zero] at cx cy
  clear hx hy
  go_wp2_with fail
  refine Ord.St.door (fun _ => True) [.fl, .fl, .fl, .rd, .fl, .fl, .rd, .ef, .fl, .fl, .fl, .fl, .fl] [0, 0, 2, 6, 0, 16, 48, 127, 255, 511, 511, 1023, 4095] [0, 1, 2, 3, 4, 5, 6, 7, 8, 9, 10, 11, 12] mixed (by kernel_rfl) rfl ?_
  obtain ⟨Wc, hWc⟩ : ∃ Wc, Wc = w2.drew := ⟨_, rfl⟩
  rw [← hWc]
  have hcur : Ch [] w2 Wc := by rw [hWc]; exact (Ch.refl _ _).drew
  clear hWc
  have ho := HO.out.same hcur
  replace cx := (hcur.cell (cell_lt cx) (by simp)).trans cx
  replace cy := (hcur.cell (cell_lt cy) (by simp)).trans cy
  clear HO; have HO := Lib.hid ho; clear ho hcur
  refine Ord.St.fl2 (T' := ?_) 0 [1, 2, 3, 4, 5, 6, 7, 8, 9, 10, 11, 12] _ _ rfl (by kernel_rfl) rfl rfl rfl rfl (fun K w' hk => ?_) ?_
  rotate_left
  · go_step; exact hk
  refine Ord.St.fl2 (T' := ?_) 1 [2, 3, 4, 5, 6, 7, 8, 9, 10, 11, 12] _ _ rfl (by kernel_rfl) rfl rfl rfl rfl (fun K w' hk => ?_) ?_
  rotate_left
  · go_step; exact hk
  refine Ord.St.fl2 (T' := ?_) 2 [3, 4, 5, 6, 7, 8, 9, 10, 11, 12] _ _ rfl (by kernel_rfl) rfl rfl rfl rfl (fun K w' hk => ?_) ?_
  rotate_left
  · go_step; exact hk
  refine Ord.St.rd2 (T' := ?_) 3 [4, 5, 6, 7, 8, 9, 10, 11, 12] _ _ rfl (by kernel_rfl) rfl rfl rfl rfl (fun K hk => ?_) ?_
  rotate_left
  · go_step; exact hk
  refine Ord.St.fl2 (T' := ?_) 4 [5, 6, 7, 8, 9, 10, 11, 12] _ _ rfl (by kernel_rfl) rfl rfl rfl rfl (fun K w' hk => ?_) ?_
  rotate_left
  · go_step; exact hk
  refine Ord.St.fl2 (T' := ?_) 5 [6, 7, 8, 9, 10, 11, 12] _ _ rfl (by kernel_rfl) rfl rfl rfl rfl (fun K w' hk => ?_) ?_
  rotate_left
  · go_step; exact hk
  refine Ord.St.rd2 (T' := ?_) 6 [7, 8, 9, 10, 11, 12] _ _ rfl (by kernel_rfl) rfl rfl rfl rfl (fun K hk => ?_) ?_
  rotate_left
  · go_step; exact hk
  refine Ord.St.ef 7 [8, 9, 10, 11, 12] _ rfl (by kernel_rfl) (fun K hK => ?_)
  go_wp2_with fail
  refine (And_h HO.out 2 6 (by decide) (by decide) (G' := ma1) (r := 10) (e := 0) (by kernel_rfl)).mono ?_
  rintro e w9 ⟨F4, rfl, ho⟩
  clear HO cx cy; have HO := Lib.hid ho; clear ho
  go_wp2_with fail
  refine ⟨rfl, hK _ _ ?_⟩; clear hK K
  refine Ord.St.fl2 (T' := ?_) 8 [9, 10, 11, 12] _ _ rfl (by kernel_rfl) rfl rfl rfl rfl (fun K w' hk => ?_) ?_
  rotate_left
  · go_step; exact hk
  refine Ord.St.fl2 (T' := ?_) 9 [10, 11, 12] _ _ rfl (by kernel_rfl) rfl rfl rfl rfl (fun K w' hk => ?_) ?_
  rotate_left
  · go_step; exact hk
  refine Ord.St.fl2 (T' := ?_) 10 [11, 12] _ _ rfl (by kernel_rfl) rfl rfl rfl rfl (fun K w' hk => ?_) ?_
  rotate_left
  · go_step; exact hk
  refine Ord.St.fl2 (T' := ?_) 11 [12] _ _ rfl (by kernel_rfl) rfl rfl rfl rfl (fun K w' hk => ?_) ?_
  rotate_left
  · go_step; exact hk
  refine Ord.St.fl2 (T' := ?_) 12 [] _ _ rfl (by kernel_rfl) rfl rfl rfl rfl (fun K w' hk => ?_) ?_
  rotate_left
  · go_step; exact hk
  refine Ord.St.nil ?_
  go_wp2_with fail
  refine (Len_h HO.out (n := 11) (by kernel_rfl)).mono ?_
  rintro e w10 ⟨rfl, ho⟩
  clear HO; have HO := Lib.hid ho; clear ho
  go_wp2_with fail
  refine (mdTimes_h HO.out (xa := some ⟨xb, xo, none⟩) (xc := c1) (n := 2) (xl := natInts [2, 4]) (by simp) rfl 1 (by decide) (G' := ma1) (l := [2, 4]) (e := 0) (k := 2) (by kernel_rfl) rfl (by decide) (by decide)).mono ?_
  rintro e w11 ⟨a4, c4, F5, rfl, ho⟩
  clear HO; have HO := Lib.hid ho; clear ho
  go_wp2_with fail
  refine (mdTimes_h HO.out (xa := some ⟨xb, xo, none⟩) (xc := c1) (n := 2) (xl := natInts [2, 4]) (by simp) rfl 2 (by decide) (G' := ma1) (l := [0, 2]) (e := 0) (k := 2) (by kernel_rfl) rfl (by decide) (by decide)).mono ?_
  rintro e w12 ⟨a5, c5, F6, rfl, ho⟩
  clear HO; have HO := Lib.hid ho; clear ho
  have h3 := HO.out.sl (a := a3) (c := c3) (n := 2) (l := natInts [10, 21]) (by simp) rfl
  obtain ⟨pb, po, rfl, cp⟩ := h3.cells 0 10 rfl
  rw [Nat.add_zero] at cp
  clear h3
  go_wp2_with fail
  refine (Eqref_h HO.out (xa := a4) (xc := c4) (n := 2) (xl := natInts [2, 4]) (by simp) rfl (ya := some ⟨xb, xo, none⟩) (yc := c1) (m := 2) (yl := natInts [2, 4]) (by simp) rfl (q := true) (by decide)).mono ?_
  rintro e w13 ⟨rfl, ho⟩
  clear HO; have HO := Lib.hid ho; clear ho
  go_wp2_with fail
  have ho := HO.out.same ((Ch.refl [] w13).alloc (.cells #[.int .i64 0, .int .i64 2] 53))
  clear HO; have HO := Lib.hid ho; clear ho
  refine (Eqref_c HO.out (xa := a5) (xc := c5) (n := 2) (xl := natInts [0, 2]) (by simp) rfl (b := w13.heap.size) (m := 2) (ys := [0, 2]) (blk.new' _ _ rfl) rfl (by decide) (q := true) (by decide)).mono ?_
  rintro e w14 ⟨rfl, ho⟩
  clear HO; have HO := Lib.hid ho; clear ho
  go_wp2_with fail
  refine (Len_h HO.out (n := 11) (by kernel_rfl)).mono ?_
  rintro e w15 ⟨rfl, ho⟩
  clear HO; have HO := Lib.hid ho; clear ho
  go_wp2_with fail
  refine (sConst_h HO.out 0 (by decide) 2 rfl).mono ?_
  rintro e w16 ⟨a6, c6, rfl, ho⟩
  clear HO; have HO := Lib.hid ho; clear ho
  rw [show constL 0 2 = [0, 0] from rfl] at HO
  go_wp2_with fail
  refine (mdBoth_h HO.out (xa := some ⟨xb, xo, none⟩) (xc := c1) (n := 2) (xl := natInts [2, 4]) (by simp) rfl (ya := a6) (yc := c6) (m := 2) (yl := natInts [0, 0]) (by simp) rfl (G' := ma1) (l1 := [1, 1]) (l2 := [2, 4]) (e := 0) (k1 := 2) (k2 := 2) (by kernel_rfl) rfl rfl (by decide) (by decide) (by decide) (by decide)).mono ?_
  rintro e w17 ⟨a7, c7, a8, c8, F7, rfl, ho⟩
  clear HO; have HO := Lib.hid ho; clear ho
  go_wp2_with fail
  go_loopw [127] (fun i wr => ∃ k : Nat, k ≤ 4 ∧ i = .int .i64 k ∧ Ch [] w17 wr) (fun i _ => 4 - (intOf i).toNat)
  case atStart => exact ⟨0, by omega, rfl, Ch.refl _ _⟩
  case round =>
    obtain ⟨k, hk, rfl, hc⟩ := hrel
    by_cases hk4 : k < 4
    · obtain ⟨r1, r2, r3, r4⟩ := reads24 k hk4
      have r2' : bitsR ma1 (givenL 2 2 k 0) (natInts [2, 4]) = ((bitsR ma1 (givenL 2 2 k 0) (natInts [2, 4])).1, 0) := Prod.ext rfl r2
      have hg1 := Given_is (w := wr) 2 k 0 (by omega) (by omega) (by omega)
      have HG1 := Lib.hid hg1; clear hg1
      have HC := Lib.hid hc; clear hc
      go_wp2_with fail
      refine HG1.out.mono ?_
      rintro e v1 ⟨gv, rfl, hrow, _, hc1⟩
      obtain ⟨ga, gc, rfl⟩ := row.shape hrow
      have hgl := givenL_len 2 2 k 0
      have hsb : Sb v1 ga (givenL 2 2 k 0) := row.sv hrow rfl (by omega)
      have hcc := HC.out.trans hc1 (by simp)
      have ho1 := HO.out.same hcc
      have hR := ReadsW_is ho1.own.gin (a := a7) (l := natInts [1, 1]) (m := 2) (c := c7) rfl (ho1.sl (a := a7) (c := c7) (n := 2) (l := natInts [1, 1]) (by simp) rfl) (ho1.at (a := a7) (n := 2) (c := c7) (l := natInts [1, 1]) (by simp) rfl).ok.bd (xa := ga) (ins := givenL 2 2 k 0) (k := 2 + 2) (xc := gc) hgl hsb (by omega) r1 rfl (by omega) (by omega)
      have HCC := Lib.hid hcc; clear hcc hc1 ho1 hsb hrow
      have HR := Lib.hid hR; clear hR
      go_wp2_with fail
      refine HR.out.mono ?_
      rintro e v2 ⟨rfl, hc2⟩
      have HC2 := Lib.hid (HCC.out.trans hc2 (by simp)); clear hc2
      have hg2 := Given_is (w := v2) 2 k 0 (by omega) (by omega) (by omega)
      have HG2 := Lib.hid hg2; clear hg2
      go_wp2_with fail
      refine HG2.out.mono ?_
      rintro e v3 ⟨gv, rfl, hrow, _, hc3⟩
      obtain ⟨ga2, gc2, rfl⟩ := row.shape hrow
      have hsb : Sb v3 ga2 (givenL 2 2 k 0) := row.sv hrow rfl (by omega)
      have hcc := HC2.out.trans hc3 (by simp)
      have ho1 := HO.out.same hcc
      have hR := ReadsW_is ho1.own.gin (a := a8) (l := natInts [2, 4]) (m := 2) (c := c8) rfl (ho1.sl (a := a8) (c := c8) (n := 2) (l := natInts [2, 4]) (by simp) rfl) (ho1.at (a := a8) (n := 2) (c := c8) (l := natInts [2, 4]) (by simp) rfl).ok.bd (xa := ga2) (ins := givenL 2 2 k 0) (k := 2 + 2) (xc := gc2) hgl hsb (by omega) r2' r3 (by omega) (by omega)
      rw [r4] at hR
      have HC3 := Lib.hid hcc; clear hcc hc3 ho1 hsb hrow
      have HR2 := Lib.hid hR; clear hR
      go_wp2_with fail
      refine HR2.out.mono ?_
      rintro e v4 ⟨rfl, hc4⟩
      have HC4 := Lib.hid (HC3.out.trans hc4 (by simp)); clear hc4
      go_wp2_with fail
      go_roundw
      case rel => exact ⟨k + 1, by omega, by go_num, HC4.out⟩
      case measure => simp [intOf]; omega
    · have ho := HO.out.same hc
      clear HO; have HO := Lib.hid ho; clear ho hc
      go_wp2_with fail
      refine (sConst_h HO.out 7 (by decide) 4 rfl).mono ?_
      rintro e w41 ⟨a9, c9, rfl, ho⟩
      clear HO; have HO := Lib.hid ho; clear ho
      rw [show constL 7 4 = [1, 1, 1, 0] from rfl] at HO
      go_wp2_with fail
      refine (sConst_h HO.out 2 (by decide) 4 rfl).mono ?_
      rintro e w42 ⟨a10, c10, rfl, ho⟩
      clear HO; have HO := Lib.hid ho; clear ho
      rw [show constL 2 4 = [0, 1, 0, 0] from rfl] at HO
      go_wp2_with fail
      refine (mdBoth_h HO.out (xa := a9) (xc := c9) (n := 4) (xl := natInts [1, 1, 1, 0]) (by simp) rfl (ya := a10) (yc := c10) (m := 4) (yl := natInts [0, 1, 0, 0]) (by simp) rfl (G' := ma1) (l1 := [1, 1, 0, 0]) (l2 := [1, 0, 0, 0]) (e := 0) (k1 := 4) (k2 := 4) (by kernel_rfl) rfl rfl (by decide) (by decide) (by decide) (by decide)).mono ?_
      rintro e w43 ⟨a11, c11, a12, c12, F8, rfl, ho⟩
      clear HO; have HO := Lib.hid ho; clear ho
      have hmk : ∀ W : World, (Instr.makeSlice 25 (.int .i64 17) (.int .i64 17)).run Tryz.prog W = .ok (.slice (some ⟨W.heap.size, 0, none⟩) 17 17) (W.alloc (.cells (refsCells (List.replicate 17 0)).toArray 53)) := fun W => run_make_refs W 17 (by omega)
      go_wp2_with fail
      refine Ord.St.door (fun _ => True) [.fl, .ef, .ef, .ef, .fl, .fl, .fl, .fl] [0, 0, 0, 7, 15, 31, 31, 127] [0, 1, 2, 3, 4, 5, 6, 7] mixed (by kernel_rfl) rfl ?_
      obtain ⟨Wc, hWc⟩ : ∃ Wc, Wc = w43.drew := ⟨_, rfl⟩
      rw [← hWc]
      have hcur : Ch [] w43 Wc := by rw [hWc]; exact (Ch.refl _ _).drew
      clear hWc
      have ho := HO.out.same hcur
      clear HO; have HO := Lib.hid ho; clear ho hcur
      refine Ord.St.fl2 (T' := ?_) 0 [1, 2, 3, 4, 5, 6, 7] _ _ rfl (by kernel_rfl) rfl rfl rfl rfl (fun K w' hk => ?_) ?_
      rotate_left
      · go_step; exact hk
      refine Ord.St.two 1 2 [2, 3, 4, 5, 6, 7] [1, 3, 4, 5, 6, 7] _ _ (by kernel_rfl) rfl rfl (by kernel_rfl) (by kernel_rfl) (fun K hK => ?_) (fun K hK => ?_)
      · go_wp2_with fail
        refine ⟨rfl, hK _ _ ?_ ?_⟩
        · trivial
        clear hK K
        refine Ord.St.ef 2 [3, 4, 5, 6, 7] _ rfl (by kernel_rfl) (fun K hK => ?_)
        go_wp2_with fail
        refine ⟨rfl, hK _ _ ?_⟩; clear hK K
        refine Ord.St.ef 3 [4, 5, 6, 7] _ rfl (by kernel_rfl) (fun K hK => ?_)
        have ho := (HO.out.zeros 17 (by omega)).zeros 17 (by omega)
        simp only [World.size_alloc] at ho
        clear HO; have HO := Lib.hid ho; clear ho
        go_wp2_with fail
        refine (mdMul_h HO.out (xl := List.replicate 17 0) (yl := List.replicate 17 0) (by simp) (by simp) (by simp) (by simp) (G' := ma1) (l := []) (e := 240) (k := 0) (by kernel_rfl) rfl (by simp) (by omega)).mono ?_
        rintro e w60 ⟨a13, c13, F9, rfl, ho⟩
        clear HO; have HO := Lib.hid ho; clear ho
        go_wp2_with fail
        refine ⟨rfl, hK _ _ ?_⟩; clear hK K
        refine Ord.St.fl2 (T' := ?_) 4 [5, 6, 7] _ _ rfl (by kernel_rfl) rfl rfl rfl rfl (fun K w' hk => ?_) ?_
        rotate_left
        · go_step; exact hk
        refine Ord.St.fl2 (T' := ?_) 5 [6, 7] _ _ rfl (by kernel_rfl) rfl rfl rfl rfl (fun K w' hk => ?_) ?_
        rotate_left
        · go_step; exact hk
        refine Ord.St.fl2 (T' := ?_) 6 [7] _ _ rfl (by kernel_rfl) rfl rfl rfl rfl (fun K w' hk => ?_) ?_
        rotate_left
        · go_step; exact hk
        refine Ord.St.fl2 (T' := ?_) 7 [] _ _ rfl (by kernel_rfl) rfl rfl rfl rfl (fun K w' hk => ?_) ?_
        rotate_left
        · go_step; exact hk
        refine Ord.St.nil ?_
        go_wp2_with fail
        have ho := HO.out.same ((Ch.refl [] w60).alloc (.cells #[.int .i64 1, .int .i64 1, .int .i64 0, .int .i64 0] 53))
        clear HO; have HO := Lib.hid ho; clear ho
        refine (Eqref_c HO.out (xa := a11) (xc := c11) (n := 4) (xl := natInts [1, 1, 0, 0]) (by simp) rfl (b := w60.heap.size) (m := 4) (ys := [1, 1, 0, 0]) (blk.new' _ _ rfl) rfl (by decide) (q := true) (by decide)).mono ?_
        rintro e w61 ⟨rfl, ho⟩
        clear HO; have HO := Lib.hid ho; clear ho
        go_wp2_with fail
        have ho := HO.out.same ((Ch.refl [] w61).alloc (.cells #[.int .i64 1, .int .i64 0, .int .i64 0, .int .i64 0] 53))
        clear HO; have HO := Lib.hid ho; clear ho
        refine (Eqref_c HO.out (xa := a12) (xc := c12) (n := 4) (xl := natInts [1, 0, 0, 0]) (by simp) rfl (b := w61.heap.size) (m := 4) (ys := [1, 0, 0, 0]) (blk.new' _ _ rfl) rfl (by decide) (q := true) (by decide)).mono ?_
        rintro e w62 ⟨rfl, ho⟩
        clear HO; have HO := Lib.hid ho; clear ho
        go_wp2_with fail
        go_ret
        exact ⟨rfl, HO.out.ch⟩
      · go_wp2_with fail
        refine ⟨rfl, hK _ _ ?_ ?_⟩
        · trivial
        clear hK K
        refine Ord.St.ef 1 [3, 4, 5, 6, 7] _ rfl (by kernel_rfl) (fun K hK => ?_)
        go_wp2_with fail
        refine ⟨rfl, hK _ _ ?_⟩; clear hK K
        refine Ord.St.ef 3 [4, 5, 6, 7] _ rfl (by kernel_rfl) (fun K hK => ?_)
        have ho := (HO.out.zeros 17 (by omega)).zeros 17 (by omega)
        simp only [World.size_alloc] at ho
        clear HO; have HO := Lib.hid ho; clear ho
        go_wp2_with fail
        refine (mdMul_h HO.out (xl := List.replicate 17 0) (yl := List.replicate 17 0) (by simp) (by simp) (by simp) (by simp) (G' := ma1) (l := []) (e := 240) (k := 0) (by kernel_rfl) rfl (by simp) (by omega)).mono ?_
        rintro e w60 ⟨a13, c13, F9, rfl, ho⟩
        clear HO; have HO := Lib.hid ho; clear ho
        go_wp2_with fail
        refine ⟨rfl, hK _ _ ?_⟩; clear hK K
        refine Ord.St.fl2 (T' := ?_) 4 [5, 6, 7] _ _ rfl (by kernel_rfl) rfl rfl rfl rfl (fun K w' hk => ?_) ?_
        rotate_left
        · go_step; exact hk
        refine Ord.St.fl2 (T' := ?_) 5 [6, 7] _ _ rfl (by kernel_rfl) rfl rfl rfl rfl (fun K w' hk => ?_) ?_
        rotate_left
        · go_step; exact hk
        refine Ord.St.fl2 (T' := ?_) 6 [7] _ _ rfl (by kernel_rfl) rfl rfl rfl rfl (fun K w' hk => ?_) ?_
        rotate_left
        · go_step; exact hk
        refine Ord.St.fl2 (T' := ?_) 7 [] _ _ rfl (by kernel_rfl) rfl rfl rfl rfl (fun K w' hk => ?_) ?_
        rotate_left
        · go_step; exact hk
        refine Ord.St.nil ?_
        go_wp2_with fail
        have ho := HO.out.same ((Ch.refl [] w60).alloc (.cells #[.int .i64 1, .int .i64 1, .int .i64 0, .int .i64 0] 53))
        clear HO; have HO := Lib.hid ho; clear ho
        refine (Eqref_c HO.out (xa := a11) (xc := c11) (n := 4) (xl := natInts [1, 1, 0, 0]) (by simp) rfl (b := w60.heap.size) (m := 4) (ys := [1, 1, 0, 0]) (blk.new' _ _ rfl) rfl (by decide) (q := true) (by decide)).mono ?_
        rintro e w61 ⟨rfl, ho⟩
        clear HO; have HO := Lib.hid ho; clear ho
        go_wp2_with fail
        have ho := HO.out.same ((Ch.refl [] w61).alloc (.cells #[.int .i64 1, .int .i64 0, .int .i64 0, .int .i64 0] 53))
        clear HO; have HO := Lib.hid ho; clear ho
        refine (Eqref_c HO.out (xa := a12) (xc := c12) (n := 4) (xl := natInts [1, 0, 0, 0]) (by simp) rfl (b := w61.heap.size) (m := 4) (ys := [1, 0, 0, 0]) (blk.new' _ _ rfl) rfl (by decide) (q := true) (by decide)).mono ?_
        rintro e w62 ⟨rfl, ho⟩
        clear HO; have HO := Lib.hid ho; clear ho
        go_wp2_with fail
        go_ret
        exact ⟨rfl, HO.out.ch⟩
end
end Go.Proofs.YtkedpifopclipaaGreat
namespace Go.Proofs.YtkedpifopclipaaGreat
open Go.RowKit Go.Mem Go.Aig
set_option maxRecDepth 100000 in
set_option maxHeartbeats 8000000 in
theorem MuldivConsts_walk {w : World} {a b : Nat} (ha : a < 4294967296) (hb : b < 4294967296) (wd : Nat) (hw : wd ≤ 255) : Calls Tryz.prog 4 #[.int .u32 a, .int .u32 b, .int .u8 wd] w fun e w' => e = .returned (.bool true) ∧ Ch [] w w' := by
  obtain ⟨n, hn, hn16⟩ : ∃ n, wd % 16 + 1 = n ∧ n ≤ 16 := ⟨_, rfl, by omega⟩
  have hn1 : 1 ≤ n := by omega
  have hq : 1 + (wd : Int) % 16 = n := by omega
  have hrw : rightW (n : Int) = true := by unfold rightW; simp; omega
  obtain ⟨X, Y, P, Q, R, hF⟩ := mc_facts a b hn1 hn16
  have hAP := fun W => bApply5_is (w := W) a b n ha hb hn1 hn16
  have hAQ := fun W => bApply6_is (w := W) a b n ha hb hn1 hn16
  have hAR := fun W => bApply7_is (w := W) a b n ha hb hn1 hn16
  rw [hF.pv] at hAP
  rw [hF.qv] at hAQ
  rw [hF.rv] at hAR
  have HF := Lib.hid hF; clear hF
  have HAP := Lib.hid hAP; clear hAP
  have HAQ := Lib.hid hAQ; clear hAQ
  have HAR := Lib.hid hAR; clear hAR
  have HRW := Lib.hid hrw; clear hrw
  have HA := fun W => awake24_is W
  clear hn
  have len : ∀ (B : List Bool), B.length = n → (crs B).length = n := fun B h => by rw [crs_len]; exact h
  have leni : ∀ (B : List Bool), B.length = n → (natInts (crs B)).length = n := fun B h => by rw [natInts_crs_len]; exact h
  have bdc : ∀ (B : List Bool), ∀ r ∈ crs B, r ≤ 1000000 := fun B r hr => by
    obtain ⟨c, _, rfl⟩ := List.mem_map.1 hr
    have := b_le c
    omega
  have LEN := Lib.hid len; clear len
  have LENI := Lib.hid leni; clear leni
  have BDC := Lib.hid bdc; clear bdc
  go_enter Tryz.func4, Tryz.ntmps4
  go_wp2_with fail
  refine (HA _).mono ?_
  rintro e w1 ⟨rfl, hc1⟩
  have HC1 := Lib.hid hc1; clear hc1 HA
  go_wp2_with fail
  refine (New_h (w := w1) 1 (by omega) (by omega)).mono ?_
  rintro e w2 ⟨g, F2, rfl, ho⟩
  have HO := Lib.hid ho; clear ho
  go_wp2_with fail
  refine (sConst_h HO.out a ha n HRW.out).mono ?_
  rintro e w3 ⟨xa, xc, rfl, ho⟩
  rw [HF.out.xc] at ho
  clear HO; have HO := Lib.hid ho; clear ho
  go_wp2_with fail
  refine (sConst_h HO.out b hb n HRW.out).mono ?_
  rintro e w4 ⟨ya, yc, rfl, ho⟩
  rw [HF.out.yc] at ho
  clear HO; have HO := Lib.hid ho; clear ho
  go_wp2_with fail
  refine (mdMul_h HO.out (xa := xa) (xc := xc) (n := n) (xl := natInts (crs X)) (by simp) (LENI.out _ HF.out.xl) (ya := ya) (yc := yc) (m := n) (yl := natInts (crs Y)) (by simp) (LENI.out _ HF.out.yl) HF.out.p (LEN.out _ HF.out.pl) (BDC.out P) (by omega)).mono ?_
  rintro e w5 ⟨pa, pc, F5, rfl, ho⟩
  clear HO; have HO := Lib.hid ho; clear ho
  go_wp2_with fail
  refine (mdTimes_h HO.out (xa := xa) (xc := xc) (n := n) (xl := natInts (crs X)) (by simp) (LENI.out _ HF.out.xl) b hb HF.out.t (LEN.out _ HF.out.pl) (BDC.out P) (by omega)).mono ?_
  rintro e w6 ⟨ta, tc, F6, rfl, ho⟩
  clear HO; have HO := Lib.hid ho; clear ho
  go_wp2_with fail
  refine (mdBoth_h HO.out (xa := xa) (xc := xc) (n := n) (xl := natInts (crs X)) (by simp) (LENI.out _ HF.out.xl) (ya := ya) (yc := yc) (m := n) (yl := natInts (crs Y)) (by simp) (LENI.out _ HF.out.yl) HF.out.q (LEN.out _ HF.out.ql) (LEN.out _ HF.out.rl) (BDC.out Q) (BDC.out R) (by omega) (by omega)).mono ?_
  rintro e w7 ⟨qa, qc, ra, rc, F7, rfl, ho⟩
  clear HO; have HO := Lib.hid ho; clear ho
  go_wp2_with fail
  refine (mdDiv_h HO.out (xa := xa) (xc := xc) (n := n) (xl := natInts (crs X)) (by simp) (LENI.out _ HF.out.xl) (ya := ya) (yc := yc) (m := n) (yl := natInts (crs Y)) (by simp) (LENI.out _ HF.out.yl) HF.out.q (LEN.out _ HF.out.ql) (BDC.out Q) (by omega)).mono ?_
  rintro e w8 ⟨da, dc, F8, rfl, ho⟩
  clear HO; have HO := Lib.hid ho; clear ho
  go_wp2_with fail
  refine (mdRem_h HO.out (xa := xa) (xc := xc) (n := n) (xl := natInts (crs X)) (by simp) (LENI.out _ HF.out.xl) (ya := ya) (yc := yc) (m := n) (yl := natInts (crs Y)) (by simp) (LENI.out _ HF.out.yl) HF.out.q (LEN.out _ HF.out.rl) (BDC.out R) (by omega)).mono ?_
  rintro e w9 ⟨ma, mc, F9, rfl, ho⟩
  clear HO; have HO := Lib.hid ho; clear ho
  have hE1 := Eqref_is (w := w9) pc tc (xs := natInts (crs P)) (ys := natInts (crs P)) (HO.out.sl (a := pa) (c := pc) (n := n) (by simp) (LENI.out _ HF.out.pl)) (HO.out.sl (a := ta) (c := tc) (n := n) (by simp) (LENI.out _ HF.out.pl))
  simp only [LENI.out _ HF.out.pl, decide_true] at hE1
  have HE1 := Lib.hid hE1; clear hE1
  go_wp2_with fail
  refine HE1.out.mono ?_
  rintro e w10 ⟨rfl, hc⟩
  have ho := HO.out.same hc; clear HO hc HE1; have HO := Lib.hid ho; clear ho
  have hE1 := Eqref_is (w := w10) qc dc (xs := natInts (crs Q)) (ys := natInts (crs Q)) (HO.out.sl (a := qa) (c := qc) (n := n) (by simp) (LENI.out _ HF.out.ql)) (HO.out.sl (a := da) (c := dc) (n := n) (by simp) (LENI.out _ HF.out.ql))
  simp only [LENI.out _ HF.out.ql, decide_true] at hE1
  have HE1 := Lib.hid hE1; clear hE1
  go_wp2_with fail
  refine HE1.out.mono ?_
  rintro e w11 ⟨rfl, hc⟩
  have ho := HO.out.same hc; clear HO hc HE1; have HO := Lib.hid ho; clear ho
  have hE1 := Eqref_is (w := w11) rc mc (xs := natInts (crs R)) (ys := natInts (crs R)) (HO.out.sl (a := ra) (c := rc) (n := n) (by simp) (LENI.out _ HF.out.rl)) (HO.out.sl (a := ma) (c := mc) (n := n) (by simp) (LENI.out _ HF.out.rl))
  simp only [LENI.out _ HF.out.rl, decide_true] at hE1
  have HE1 := Lib.hid hE1; clear hE1
  go_wp2_with fail
  refine HE1.out.mono ?_
  rintro e w12 ⟨rfl, hc⟩
  have ho := HO.out.same hc; clear HO hc HE1; have HO := Lib.hid ho; clear ho
  have hL := Len_g HO.out.own.gin
  rw [show (newG 1).nodes.length = 1 from rfl] at hL
  have HL := Lib.hid hL; clear hL
  go_wp2_with fail
  refine HL.out.mono ?_
  rintro e w13 ⟨rfl, rfl⟩
  clear HL
  go_wp2_with fail
  have ho := HO.out.keepN ((Ch.refl [] w12).alloc (.cells #[.slice pa n pc, .slice qa n qc, .slice ra n rc] 25)) (blk.new w12 [.slice pa n pc, .slice qa n qc, .slice ra n rc] 25)
  generalize w12.alloc (.cells #[.slice pa n pc, .slice qa n qc, .slice ra n rc] 25) = w13 at ho ⊢
  generalize w12.heap.size = wb at ho ⊢
  clear HO; have HO := Lib.hid ho; clear ho
  go_loopw [135] (fun i wr => ∃ k : Nat, k ≤ 3 ∧ i = .int .i64 k ∧ Ch [] w13 wr) (fun i _ => 3 - (intOf i).toNat)
  case atStart => exact ⟨0, by omega, rfl, Ch.refl _ _⟩
  case round =>
    obtain ⟨k, hk, rfl, hc⟩ := hrel
    by_cases hlt : k < 3
    · have hh := HO.out.same hc
      obtain ⟨a1, c1, B, op, hv1, hm1, hop, hBl, hap⟩ : ∃ a1 c1 B op, [Value.slice pa n pc, .slice qa n qc, .slice ra n rc][k]? = some (.slice a1 n c1) ∧ WVin wr F9 ⟨a1, natInts (crs B), c1⟩ ∧ [Value.int .u8 5, .int .u8 6, .int .u8 7][k]? = some (.int .u8 op) ∧ B.length = n ∧
          ∀ W, Calls Tryz.prog 13 #[.int .u8 op, .int .i64 n, .int .u32 a, .int .u32 b] W fun e w' => e = .returned (.tuple #[.int .u32 (bitsVal B : Nat), .int .i64 0]) ∧ Ch [] W w' := by
        rcases k with _ | _ | _ | k
        · exact ⟨pa, pc, P, 5, rfl, hh.at (by simp) (LENI.out _ HF.out.pl), rfl, HF.out.pl, HAP.out⟩
        · exact ⟨qa, qc, Q, 6, rfl, hh.at (by simp) (LENI.out _ HF.out.ql), rfl, HF.out.ql, HAQ.out⟩
        · exact ⟨ra, rc, R, 7, rfl, hh.at (by simp) (LENI.out _ HF.out.rl), rfl, HF.out.rl, HAR.out⟩
        · omega
      have d1 := (hh.kept (wb, [.slice pa n pc, .slice qa n qc, .slice ra n rc]) (List.mem_cons_self ..)).1.cell (i := k) hv1
      have hR := Reads23_is (w := wr) hh.own.gin (m := n) (c := c1) (LENI.out B hBl) hm1.ok.sl hm1.ok.bd (bits_c (by omega) (by omega) B) hBl hn1 hn16
      have hS := fun W (hW : Ch [] wr W) => small24_is (w := W) (cap := c1) B hBl (hm1.ch hW).ok.sl
      have HC := Lib.hid hc; clear hc hv1 hm1 hh
      have HR := Lib.hid hR; clear hR
      have HS := Lib.hid hS; clear hS
      have HAK := Lib.hid hap; clear hap
      have HOP := Lib.hid hop; clear hop
      go_wp2_with fail
      refine HR.out.mono ?_
      rintro e w14 ⟨rfl, hc14⟩
      have HC14 := Lib.hid hc14; clear hc14 HR d1
      have d2 := (blk.new w14 [.int .u8 5, .int .u8 6, .int .u8 7] 39).cell (i := k) HOP.out
      go_wp2_with fail
      have hca : Ch [] w14 (w14.alloc (.cells #[.int .u8 5, .int .u8 6, .int .u8 7] 39)) := (Ch.refl _ _).alloc _
      generalize w14.alloc (.cells #[.int .u8 5, .int .u8 6, .int .u8 7] 39) = w15 at hca d2 ⊢
      clear d2
      refine (HAK.out w15).mono ?_
      rintro e w16 ⟨rfl, hc16⟩
      have hcb := (HC14.out.trans hca (by simp)).trans hc16 (by simp)
      have HCB := Lib.hid hcb; clear hcb hc16 hca HC14 HAK HOP
      go_wp2_with fail
      refine (HS.out w16 HCB.out).mono ?_
      rintro e w17 ⟨rfl, rfl⟩
      go_wp2_with fail
      go_roundw
      case rel => exact ⟨k + 1, by omega, by go_num, HC.out.trans HCB.out (by simp)⟩
      case measure => simp [intOf] <;> omega
    · have HC := Lib.hid hc; clear hc
      go_wp2_with fail
      go_ret
      exact ⟨rfl, (HC1.out.trans HO.out.own.ch (by simp)).trans HC.out (by simp)⟩
end Go.Proofs.YtkedpifopclipaaGreat
