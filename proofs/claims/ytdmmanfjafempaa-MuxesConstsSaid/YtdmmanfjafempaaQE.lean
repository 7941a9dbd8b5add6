/-
  Walk over Pick's closure of muxes. Conditions: a maker in memory, an array of words of its graph, guards.
  Walk over Pick of muxes. Conditions: a graph in memory, guards, an array of words of any integers.
  Walk over Equal's closure of muxes. Conditions: a maker in memory, two arrays of words of its graph.
  Walk over Equal of muxes. Conditions: a graph in memory, two arrays of words of any integers.
  What is known between two rounds of Write of muxes. Conditions: a maker in memory, an array that is made.
  Walk over Write's closure of muxes. Conditions: a maker in memory, an array of words of its graph, an index, a guard, a word.
  Walk over Write's closure of muxes. Conditions: a maker in memory, an array of words of its graph, an index, a guard, a word.
  Walk over Write of muxes. Conditions: a graph in memory, an array of words of any integers, an index, a guard, a word.
  The functions of muxes beside a graph and words that are held; EqualFunc of arrays of words. Conditions: none beyond the hypotheses.
  Walk over begin's closure of chapter 26's laws; what is known while an array of inputs is made. Conditions: a graph of inputs in memory.
  Walk over begin of chapter 26's laws: a graph with an array of new inputs, a word, an index and a guard. Conditions: any three bytes.
  Walk over Is of muxes. Conditions: a graph in memory, a word of any integers, any number.
  A map from small numbers (bytes) to values that are known, one after the other. Conditions: the two facts on the types of map and key.
  Walks over the small functions of shifts: right, moves. Conditions: none.
  Walks over shifted of shifts: a word shifted by a number up to its width. Conditions: a word that can be read.
  Walks over steps, Steps, Fixed of shifts. Conditions: a word that can be read.
  Walks over slices.Grow (of nothing), slices.Concat of two, and Turn of shifts. Conditions: words that can be read.
  Plain: one bit of a shift (a choice, bit by bit), shifts by a word; and append at a row inside a round of a range over a function. Conditions: none beyond the hypotheses.
  Walk over step of shifts: a word that is another one, if a bit is true. Conditions: a graph in memory, two words of it, a reference of it.
  What move and By of shifts make, plainly. No program in sight. Conditions: none beyond the hypotheses.
  Turns of a word, plainly: one after the other, and shifts by constants, by evaluation. No program in sight. Conditions: none beyond the hypotheses.
  Plain facts of MuxesConsts, by evaluation: by constants nothing is made. Conditions: the world's sizes.
  Walks over the reference's functions of shifts: Right, Power, Steps, Shifted, Turn, Check, Fixed. Conditions: numbers in range, words that can be read.
  Walks over fit of chapter 26's laws, and the reference's Array and Fits. Conditions: any numbers.
-/
import Derived.Test.YtdmmanfjafempaaQD
import Derived.Test.YtdmmanfjafempaaQA
import Derived.MapKept
import Derived.Lib.AppendZeros
import Derived.OwnWalkIn
namespace Go.Aig
def pickS (L : List (List Nat)) (q : Mk × List Nat) (p : Nat × Nat) : Mk × List Nat := chF p.2 q.1 ((L.getD p.1 []).zip q.2)
/-- a pick, the last guard first -/
def pickF (L : List (List Nat)) (s : Mk × List Nat) (l : List (Nat × Nat)) : Mk × List Nat := l.foldl (pickS L) s
theorem pickF_snoc (L : List (List Nat)) (s : Mk × List Nat) (l : List (Nat × Nat)) (p : Nat × Nat) : pickF L s (l ++ [p]) = pickS L (pickF L s l) p := by unfold pickF; rw [List.foldl_append]; rfl
end Go.Aig
namespace Go.Proofs.Ytdmmanfjafempaa
open Go.RowKit Go.Mem Go.Aig
attribute [local go_sem] Oper.semAt_some
theorem fnvmPick1 : Fnv 91 := fnv_of Try.func91 (by simp [Try.f91]) (by simp [Try.f91])
theorem CH.chs {W : World} {g m : Nat} {G : Gra} {P : Mk} {F' : List Nat} {S : Mk × List Nat} {n ob : Nat} {v u : Value} {w1 : World} (h : CH W g m G P F' S n v w1) : Ch (m :: ob :: F') W (w1.setCell ⟨ob, 0, none⟩ u) := by
  obtain ⟨_, _, _, _, _, _, _, F1, _, hc1, _⟩ := h
  have hcs : Ch [ob] w1 (w1.setCell ⟨ob, 0, none⟩ u) := (Ch.refl _ _).setCell (by simp) _
  exact (hc1.mono (F' := m :: ob :: F') (fun k hk => .inl (by simp only [List.nil_append, List.mem_cons] at hk ⊢; exact hk.imp id .inr))).trans hcs (fun k hk => .inl (by simp at hk; simp [hk]))
theorem CH.cong {W : World} {g m : Nat} {G : Gra} {P : Mk} {F' : List Nat} {S S' : Mk × List Nat} {n : Nat} {v : Value} {w1 : World} (h : CH W g m G P F' S n v w1) (e1 : S'.1 = S.1) (e2 : S.1.2 = 0 → S'.2 = S.2) : CH W g m G P F' S' n v w1 := by
  obtain ⟨P', l, h1, h2, h3⟩ := h
  exact ⟨P', l, by rw [e1]; exact h1, fun h0 => by rw [e1] at h0; rw [e2 h0]; exact h2 h0, h3⟩
/-- Pick's state between two rounds -/
def PInv (W0 : World) (lo g m : Nat) (G : Gra) (F : List Nat) (ob width : Nat) (Q : Mk × List Nat) (W : World) : Prop := ∃ va vc P l F', RI W0 lo g m G F ob width Q.1 Q.2 W (.slice va width vc) P l F'
theorem bwd_mem {l : List Nat} {p : Nat × Nat} (h : p ∈ bwd l) : p.1 < l.length ∧ p.2 ∈ l := by
  unfold bwd at h
  obtain ⟨i, hi, rfl⟩ := List.mem_map.1 h
  have h2 : i < l.length := by simpa using hi
  refine ⟨h2, ?_⟩
  show l.getD i 0 ∈ l
  rw [List.getD_eq_getElem?_getD, List.getElem?_eq_getElem h2]
  exact List.getElem_mem h2
section
variable {w : World} {g m : Nat} {G : Gra} {F : List Nat}
set_option maxRecDepth 100000 in
set_option maxHeartbeats 4000000 in
theorem mPick1_is (h : MIn w g m (G, 0) F) {Ls : List WV} {lb nl lc n gc width : Nat} {gs : List Nat} {ga : Option Addr} (hL : WL w (m :: F) lb nl Ls) (hW : ∀ x ∈ Ls, WOf G width x.l) (hnl : 1 ≤ nl ∧ nl ≤ 256) (hw : width ≤ 16)
    (hg : WVin w (m :: F) ⟨ga, natInts gs, gc⟩) (hgl : gs.length = n) (hn : n + 1 = nl) (hgr : ∀ r ∈ gs, r < 2 * G.nodes.length)
    {bl b2 : Nat} (hbl : w.cell? ⟨bl, 0, none⟩ = some (.slice (some ⟨lb, 0, none⟩) nl lc)) (hby : w.cell? ⟨b2, 0, none⟩ = some (.slice ga n gc)) (hblF : bl ∉ m :: F) (hbyF : b2 ∉ m :: F) :
    Calls Try.prog 91 (#[.pointer (some ⟨m, 0, none⟩)] ++ #[.pointer (some ⟨bl, 0, none⟩), .pointer (some ⟨b2, 0, none⟩)]) w fun e W' => ∃ v, e = .returned v ∧ RW w g m G F (pickF (Ls.map fun x => nats x.l) ((G, 0), (Ls.map fun x => nats x.l).getD n []) (bwd gs)) v W' := by
  show Calls Try.prog 91 #[.pointer (some ⟨m, 0, none⟩), .pointer (some ⟨bl, 0, none⟩), .pointer (some ⟨b2, 0, none⟩)] w _
  have hml := h.bk.lt
  have hFl := h.gin.lt
  have hok := h.gin.ok
  have hpos := hok.wf.pos
  obtain ⟨x0, hx0⟩ : ∃ x, Ls[n]? = some x := ⟨_, List.getElem?_eq_getElem (by rw [hL.len]; omega)⟩
  have hx0m := List.mem_of_getElem? hx0
  have hc00 := hL.cells n x0 hx0
  have hx0w := hW x0 hx0m
  have hx0v := hL.words x0 hx0m
  obtain ⟨LN, hLN⟩ : ∃ LN, LN = Ls.map fun x => nats x.l := ⟨_, rfl⟩
  rw [← hLN]
  have hLg : ∀ i x, Ls[i]? = some x → LN.getD i [] = nats x.l := fun i x hx => by rw [hLN, List.getD_eq_getElem?_getD, List.getElem?_map, hx]; rfl
  rw [hLg n x0 hx0]
  have hCl := fun (W : World) (hW : Ch [] w W) => Clref_w (hx0v.ch hW).ok width hx0w.len
  unfold WV.val at hc00
  rw [hx0w.len] at hc00
  have H := Lib.hid h; clear h
  have HL := Lib.hid hL; clear hL
  have HW := Lib.hid hW; clear hW
  have HGW := Lib.hid hg; clear hg
  have HLG := Lib.hid hLg; clear hLg
  have hbllt := cell_lt hbl
  have hbylt := cell_lt hby
  have hlblt := cell_lt hc00
  simp only at hbllt hbylt hlblt
  have HBL := Lib.hid hbl
  have HBY := Lib.hid hby
  have HOK := Lib.hid hok; clear hok
  have HX0 := Lib.hid hx0w; clear hx0w hx0v hx0m hx0
  have HCLN := Lib.hid hCl; clear hCl
  obtain ⟨x0a, x0l, x0c⟩ := x0
  simp only at hc00 HX0 HCLN
  obtain ⟨RQ, hRQ⟩ : ∃ RQ : List (Nat × Nat) → Mk × List Nat, ∀ l, RQ l = pickF LN ((G, 0), nats x0l) l := ⟨_, fun _ => rfl⟩
  have hR0 : RQ [] = ((G, 0), nats x0l) := by rw [hRQ]; rfl
  have hRS : ∀ l p, RQ (l ++ [p]) = pickS LN (RQ l) p := fun l p => by rw [hRQ, hRQ, pickF_snoc]
  rw [← hRQ]
  have HR0 := Lib.hid hR0; clear hR0
  have HRS := Lib.hid hRS; clear hRS
  clear hLN hRQ
  have en : (nl : Int) - 1 = (n : Int) := by omega
  refine (callsIn_wide (n := 4)).1 ?_
  refine callsIn_of_wp_marks Try.func91 rfl trivial ?_ rfl
  simp only [Try.ntmps91, List.size_toArray, List.length_cons, List.length_nil, Nat.reduceAdd, Nat.reduceSub, Array.replicate_succ, Array.replicate_zero, List.push_toArray, List.append_toArray, List.nil_append, List.cons_append]
  refine wpIn_wide.2 ?_
  go_wp2_with fail
  refine calls_named fun W1 hW1 => ?_
  have hc1 := alw_ch hW1
  have hbm := alw_blk (xs := [.pointer (some ⟨m, 0, none⟩)]) hW1
  clear hW1
  have hbl1 := (hc1.cell (cell_lt hbl) (by simp)).trans hbl
  have hby1 := (hc1.cell (cell_lt hby) (by simp)).trans hby
  clear hbl hby hc00
  refine (HCLN.out W1 hc1).mono ?_
  rintro e W2 ⟨v, rfl, hrow, hown, hc2⟩
  have e1 : (intCells x0l).length = width := by rw [show (intCells x0l).length = x0l.length by simp [intCells]]; exact HX0.out.len
  rw [e1] at hrow
  obtain ⟨va0, vc0, rfl⟩ := row.shape hrow
  have hbm2 := hbm.ch hc2 (by simp)
  have hbl2 := (hc2.cell (cell_lt hbl1) (by simp)).trans hbl1
  have hby2 := (hc2.cell (cell_lt hby1) (by simp)).trans hby1
  have hbml := hbm.lt
  clear hbm hbl1 hby1 e1
  have HROW := Lib.hid hrow; clear hrow
  have HOWN := Lib.hid hown; clear hown
  have HBM := Lib.hid hbm2; clear hbm2
  have HC1 := Lib.hid hc1; clear hc1
  have HC2 := Lib.hid hc2; clear hc2
  have HBL2 := Lib.hid hbl2; clear hbl2
  have HBY2 := Lib.hid hby2; clear hby2
  go_upto_region 2 with fail
  refine wp_named fun W3 hW3 => ?_
  have hc3 : Ch [] W2 W3 := by rw [hW3]; exact (Ch.refl _ _).alloc _
  have hbo : blk W3 W2.heap.size [.slice va0 width vc0] := by rw [hW3]; exact blk.new' _ _ (by simp)
  clear hW3
  have c_l := (hc3.cell (cell_lt HBL2.out) (by simp)).trans HBL2.out
  have c_y := (hc3.cell (cell_lt HBY2.out) (by simp)).trans HBY2.out
  generalize hob : W2.heap.size = ob at *
  have HOB0 := Lib.hid hob; clear hob
  have HC3 := Lib.hid hc3; clear hc3
  have HBO := Lib.hid hbo; clear hbo
  go_wp2_with fail
  refine (Bwref_is ga n gc).mono ?_
  rintro e W0 ⟨rfl, hW0⟩
  have hc0 : Ch [] W3 W0 := alw_ch hW0
  have hbw := alw_blk (xs := [.slice ga n gc]) hW0
  have hcw : Ch [] w W0 := ((HC1.out.trans HC2.out (by simp)).trans HC3.out (by simp)).trans hc0 (by simp)
  have hz3 := HC3.out.size
  have hz2 := HC2.out.size
  have hz1 := HC1.out.size
  have hbw1 := hbw.lt
  have hbo0 := HBO.out.ch hc0 (by simp)
  have hobl := HBO.out.lt
  have hr0 := ((HROW.out.ch HC3.out (by simp)).ch hc0 (by simp))
  have hbm0 := (HBM.out.ch HC3.out (by simp)).ch hc0 (by simp)
  have hobe := HOB0.out
  have hob1 : w.heap.size < ob := by omega
  have hob2 : ob < W0.heap.size := by have := hc0.size; omega
  have hbwn : W3.heap.size ≠ ob := by omega
  have hbwl : w.heap.size ≤ W3.heap.size := by omega
  clear hW0 c_l c_y hobe hz1 hz2 hz3
  go_wp2_with fail
  generalize W3.heap.size = bw at *
  have key : ∀ k, k < w.heap.size → k ∉ m :: F → k ∉ m :: ob :: F := fun k hk hn => by
    simp only [List.mem_cons, not_or] at hn ⊢
    exact ⟨hn.1, by omega, hn.2⟩
  have hFR : FR W0 m F ob := ⟨fun k hk => by
    have hz := hcw.size
    simp only [List.mem_cons] at hk
    rcases hk with rfl | hk
    · omega
    · have := hFl k hk; omega, hob2, by omega, fun hin => by have := hFl _ hin; omega⟩
  have hL0 : WL W0 (m :: ob :: F) lb nl Ls := by
    have h0 := HL.out.ch hcw
    exact ⟨h0.len, h0.cells, fun x hx => ⟨(h0.words x hx).ok, fun k hk => ⟨key k ((HL.out.words x hx).apart k hk).2 ((h0.words x hx).apart k hk).1, ((h0.words x hx).apart k hk).2⟩⟩, key _ HL.out.apart.2 h0.apart.1, h0.apart.2⟩
  have hG0 : WVin W0 (m :: ob :: F) ⟨ga, natInts gs, gc⟩ := ⟨(HGW.out.ch hcw).ok, fun k hk => ⟨key k (HGW.out.apart k hk).2 (HGW.out.apart k hk).1, ((HGW.out.ch hcw).apart k hk).2⟩⟩
  have hbl0 := (hcw.cell (cell_lt HBL.out) (by simp)).trans HBL.out
  have hblN : bl ∉ m :: ob :: F := key bl hbllt hblF
  have hnin : ∀ b, w.heap.size ≤ b → b ≠ ob → b ∉ m :: ob :: F := fun b hb hne => by
    simp only [List.mem_cons, not_or]
    exact ⟨by omega, hne, fun hin => by have := hFl _ hin; omega⟩
  have hRI0 : RI W0 w.heap.size g m G F ob width (RQ []).1 (RQ []).2 W0 (.slice va0 width vc0) (G, 0) (nats x0l) F := by
    rw [HR0.out]
    refine ⟨Sim.start HOK.out, fun _ => rfl, by rw [nats_len]; exact HX0.out.len, HX0.out.lt, H.out.same hcw (by simp), Ch.refl _ _, fun k hk => .inl hk, rfl, hbo0, ?_, fun k hk => ?_⟩
    · rw [refs_natInts, HX0.out.cast]; exact hr0
    · have h1 := HOWN.out k (by simpa using hk)
      have h2 := (HROW.out.lt k hk).2
      have h3 := HC1.out.size
      have h4 := HOB0.out
      have h5 := hcw.size
      refine ⟨by omega, ?_, by omega, by omega⟩
      simp only [List.mem_cons, not_or]
      exact ⟨by omega, by omega, fun hin => by have := hFl _ hin; omega⟩
  have hseq := Bw_seq W0 Fence.wide 3 trivial rfl (by omega) n gc hgl (hbw.cell (i := 0) rfl) hG0.ok.sl
  have hKn : ∀ k ∈ bw :: ablk ga, k ∉ m :: ob :: F ∧ k < W0.heap.size := fun k hk => by
    simp only [List.mem_cons] at hk
    rcases hk with rfl | hk
    · exact ⟨hnin _ hbwl hbwn, hbw1⟩
    · exact hG0.apart k hk
  have HKN := Lib.hid hKn; clear hKn
  have HFR := Lib.hid hFR; clear hFR
  have HL0 := Lib.hid hL0; clear hL0
  have HRI0 := Lib.hid hRI0; clear hRI0
  have HCW := Lib.hid hcw; clear hcw
  have HMB0 := Lib.hid hbm0; clear hbm0
  have HNIN := Lib.hid hnin; clear hnin
  have HBL0 := Lib.hid hbl0; clear hbl0
  clear hbo0 hr0 hbw hG0 key hc0
  refine (wpIn_wide (n := 4)).1 ?_
  refine wpIn_rangeFunc_P (n := 4) W0.heap.size rfl rfl (by omega) rfl trivial (fun args w => fnvBwref1 args w) hseq ?kb (fun _ => rfl)
    (fun pre W => PInv W0 w.heap.size g m G F ob width (RQ pre) W)
    (fun _ => False) ?hi (fun _ _ h _ => h) ⟨_, _, _, _, _, HRI0.out⟩ ?a1 ?assign ?body ?done (fun _ h _ _ => h.elim)
  case assign =>
    intro q x W K hK
    simp only [fitEnc]
    gi_wp2
    exact hK
  case kb => exact fun k hk => (HKN.out k hk).2
  case hi =>
    rintro pre A A' ⟨va, vc, P, l, F', h⟩ hc
    exact ⟨va, vc, P, l, F', h.same HFR.out hc⟩
  case body =>
    rintro q pre ⟨i, r⟩ W ⟨va, vc, P, l, F', hE⟩ hWl hpx
    have hpm := bwd_mem (List.IsPrefix.subset hpx (List.mem_append_right pre (List.mem_singleton.2 rfl)))
    simp only at hpm
    obtain ⟨hin, hrm⟩ := hpm
    rw [hgl] at hin
    have hrl : r < 2 * P.1.nodes.length := hE.sim.ext.lt (hgr r hrm)
    obtain ⟨x, hx⟩ : ∃ x, Ls[i]? = some x := ⟨_, List.getElem?_eq_getElem (by rw [HL0.out.len]; omega)⟩
    have hmem := List.mem_of_getElem? hx
    have hwo := HW.out x hmem
    have hlg := HLG.out i x hx
    have hlo := hE.out
    have hSe : RQ (pre ++ [(i, r)]) = chF r (RQ pre).1 ((nats x.l).zip (RQ pre).2) := by
      rw [HRS.out]; unfold pickS; rw [hlg]
    have hCHO : ∀ Wc, RI W0 w.heap.size g m G F ob width (RQ pre).1 (RQ pre).2 Wc (.slice va width vc) P l F' → Calls Try.prog 78 #[.pointer (some ⟨m, 0, none⟩), .int .i64 r, .slice x.a width x.c, .slice va width vc] Wc fun e w' => ∃ v, e = .returned v ∧ CH Wc g m G P F' (RQ (pre ++ [(i, r)])) width v w' := fun Wc h => by
      obtain ⟨k1, k2⟩ := h.word (HL0.out.words x hmem)
      have hz := h.ch.size
      refine (mchoose_is h.mem h.sim hrl (x := nats x.l) (y := l) width x.c vc (by rw [nats_len, hwo.len]) h.len (by omega) (by rw [show ((nats x.l).map fun (r : Nat) => (r : Int)) = x.l from hwo.cast]; exact k1.ok.sl) ?_ k2 ?_ (fun q hq => h.sim.ext.lt (hwo.lt q hq)) h.all).mono ?_
      · have := h.row
        rw [refs_natInts] at this
        exact Sl.of_ints this (by omega)
      · intro k hk
        cases va with
        | none => simp [ablk] at hk
        | some p =>
          simp only [ablk, List.mem_singleton] at hk
          subst hk
          have h3 := (h.fresh p.block rfl).2.1
          simp only [List.mem_cons, not_or] at h3 ⊢
          exact ⟨⟨h3.1, h3.2.2⟩, (h.row.lt p.block rfl).2⟩
      · rintro e w' ⟨v, rfl, hch⟩
        refine ⟨v, rfl, hch.cong ?_ ?_⟩
        · rw [hSe]
          by_cases h0 : (RQ pre).1.2 = 0
          · rw [← hlo h0]
          · rw [chF_bad0 h0, chF_bad0 h0]
        · intro h9
          rw [hSe]
          by_cases h0 : (RQ pre).1.2 = 0
          · rw [← hlo h0]
          · rw [chF_bad0 h0] at h9; exact absurd h9 h0
    have c_x := hE.cell (HL0.out.cells i x hx) HL0.out.apart.1
    unfold WV.val at c_x
    rw [hwo.len] at c_x
    have c_l := hE.cell HBL0.out hblN
    have c_m := hE.cell (HMB0.out.cell (i := 0) rfl) (HNIN.out _ (by omega) (by omega))
    have HCHO := Lib.hid hCHO; clear hCHO
    have HE := Lib.hid hE; clear hE
    clear hx hmem hwo hlg hlo hSe hrl hrm hpx
    obtain ⟨xa, xl, xc⟩ := x
    simp only at c_x HCHO
    have hil : i < nl := by omega
    clear hin
    gi_wp2
    refine Ord.St.doorR (fun _ => True) [.rd, .fl, .rd, .fl, .fl, .rd, .rd, .ef, .ef] [0, 0, 0, 0, 12, 28, 0, 127, 255] [0, 1, 2, 3, 4, 5, 6, 7, 8] mixed (by kernel_rfl) (by kernel_rfl) rfl ?_
    obtain ⟨Wc, hWc⟩ : ∃ Wc, Wc = W.drew := ⟨_, rfl⟩
    rw [← hWc]
    have hcur : Ch [] W Wc := by rw [hWc]; exact (Ch.refl _ _).drew
    clear hWc
    have hE := HE.out.same HFR.out (hcur.mono (by simp))
    replace c_x := (hcur.cell (cell_lt c_x) (by simp)).trans c_x
    replace c_l := (hcur.cell (cell_lt c_l) (by simp)).trans c_l
    replace c_m := (hcur.cell (cell_lt c_m) (by simp)).trans c_m
    have c_o := hE.bx.cell (i := 0) rfl
    have HCC := Lib.hid (HCHO.out Wc hE)
    have hWc : W0.heap.size + 2 ≤ Wc.heap.size := Nat.le_trans hWl hcur.size
    clear HE HCHO
    have HE := Lib.hid hE; clear hE
    have HCUR := Lib.hid hcur; clear hcur
    refine Ord.St.rd2 (T' := ?_) 0 [1, 2, 3, 4, 5, 6, 7, 8] _ _ rfl (by kernel_rfl) rfl rfl rfl rfl (fun K hk => ?_) ?_
    rotate_left
    · go_step; exact hk
    refine Ord.St.fl2 (T' := ?_) 1 [2, 3, 4, 5, 6, 7, 8] _ _ rfl (by kernel_rfl) rfl rfl rfl rfl (fun K w' hk => ?_) ?_
    rotate_left
    · go_step; exact hk
    refine Ord.St.rd2 (T' := ?_) 2 [3, 4, 5, 6, 7, 8] _ _ rfl (by kernel_rfl) rfl rfl rfl rfl (fun K hk => ?_) ?_
    rotate_left
    · go_step; exact hk
    refine Ord.St.fl2 (T' := ?_) 3 [4, 5, 6, 7, 8] _ _ rfl (by kernel_rfl) rfl rfl rfl rfl (fun K w' hk => ?_) ?_
    rotate_left
    · go_step; exact hk
    refine Ord.St.fl2 (T' := ?_) 4 [5, 6, 7, 8] _ _ rfl (by kernel_rfl) rfl rfl rfl rfl (fun K w' hk => ?_) ?_
    rotate_left
    · go_step; exact hk
    refine Ord.St.rd2 (T' := ?_) 5 [6, 7, 8] _ _ rfl (by kernel_rfl) rfl rfl rfl rfl (fun K hk => ?_) ?_
    rotate_left
    · go_step; exact hk
    refine Ord.St.rd2 (T' := ?_) 6 [7, 8] _ _ rfl (by kernel_rfl) rfl rfl rfl rfl (fun K hk => ?_) ?_
    rotate_left
    · go_step; exact hk
    refine Ord.St.ef 7 [8] _ rfl (by kernel_rfl) (fun K hK => ?_)
    go_wp2_with fail
    refine HCC.out.mono ?_
    rintro e w1 ⟨v, rfl, hch⟩
    obtain ⟨va1, vc1, rfl⟩ := hch.shape
    have hp := HE.out.put HFR.out hWc (by omega) hch
    have hob1' := HE.out.bx.ch hch.choose_spec.choose_spec.2.2.2.2.2.choose_spec.2.1 (by have h9 := HE.out.obF HFR.out; simpa using h9)
    have hchs := hch.chs (ob := ob) (u := .slice va1 width vc1)
    have HPUT := Lib.hid hp; clear hp hch HCC
    have HCHS := Lib.hid hchs; clear hchs
    clear c_o
    have c_o := hob1'.cell (i := 0) rfl
    have f_o := hob1'.frozen (i := 0)
    go_wp2_with fail
    refine ⟨rfl, hK _ _ ?_⟩; clear hK K
    refine Ord.St.ef 8 [] _ rfl (by kernel_rfl) (fun K hK => ?_)
    go_wp2_with fail
    refine ⟨rfl, hK _ _ ?_⟩; clear hK K
    refine Ord.St.nil ?_
    gi_wp2
    obtain ⟨P1, l1, F1, hr1, hb1⟩ := HPUT.out
    refine ⟨(Books.of_ch HCUR.out hWl (by simp)).trans hb1, ⟨va1, vc1, P1, l1, F1, hr1⟩, (Kept.of_ch HCUR.out (fun k hk => ⟨?_, by simp⟩)).trans (Kept.of_ch HCHS.out (fun k hk => ⟨?_, ?_⟩))⟩
    · have := (HKN.out k hk).2; omega
    · have := (HKN.out k hk).2; omega
    · obtain ⟨h5, h6⟩ := HKN.out k hk
      simp only [List.mem_cons, not_or] at h5 ⊢
      exact ⟨h5.1, h5.2.1, fun hin => (HE.out.own k hin).elim h5.2.2 (fun h7 => by omega)⟩
  case done =>
    rintro W ⟨va, vc, P, l, F', hE⟩ hK _
    have c_o := hE.bx.cell (i := 0) rfl
    have HE := Lib.hid hE; clear hE
    have HK := Lib.hid hK; clear hK
    clear hseq
    go_wp2
    refine ⟨by simp, .inl ⟨_, _, rfl, run_takeDeferred HK.out, ?_⟩⟩
    have hE2 := HE.out.same HFR.out (A' := W.putObj W0.heap.size (.deferred none)) (ch_put (by simp))
    have hz9 := HCW.out.size
    refine ⟨_, results_tmp rfl _ _ _, .slice va width vc, rfl, P, l, hE2.sim, hE2.out, F', hE2.mem, (HCW.out.mono (by simp)).trans hE2.ch (fun k hk => ?_), fun k hk => (hE2.own k hk).imp id (fun e => by omega), hE2.map, by rw [hE2.len]; exact hE2.row, fun k hk => ?_⟩
    · simp only [List.nil_append, List.mem_cons] at hk ⊢
      rcases hk with hk | hk | hk
      · exact .inl (.inl hk)
      · exact .inr (by omega)
      · exact .inl (.inr hk)
    · obtain ⟨f1, f2, _⟩ := hE2.fresh k hk
      simp only [List.mem_cons, not_or] at f2
      exact ⟨f1, f2.2.2, f2.1⟩
end
end Go.Proofs.Ytdmmanfjafempaa
namespace Go.Aig
def pickG (G : Gra) (gs : List Int) (L : List (List Int)) : Gra × List Nat × Nat :=
  if array26 L.length = false then (G, [], 261) else if gs.length + 1 ≠ L.length then (G, [], 261) else if chk26 G [] gs L ≠ 0 then (G, [], chk26 G [] gs L)
  else wres G (pickF (L.map nats) ((G, 0), (L.map nats).getD gs.length []) (bwd (nats gs)))
end Go.Aig
namespace Go.Proofs.Ytdmmanfjafempaa
open Go.RowKit Go.Mem Go.Aig
section
variable {w : World} {g : Nat} {G : Gra} {F : List Nat}
set_option maxRecDepth 100000 in
set_option maxHeartbeats 4000000 in
theorem mPick_is (h : GIn w g G F) {la : Option Addr} {nl lc : Nat} {Ls : List WV} (hA : WA w F la nl Ls) {y : WV} (hy : WVin w F y) (hyc : y.l.length ≤ y.c) :
    Calls Try.prog 29 #[.pointer (some ⟨g, 0, none⟩), y.val, .slice la nl lc] w fun e w' => ∃ v, e = .returned (.tuple #[v, .int .i64 (pickG G y.l (Ls.map WV.l)).2.2]) ∧ GVo w g (pickG G y.l (Ls.map WV.l)).1 [] F v (pickG G y.l (Ls.map WV.l)).2.1 w' := by
  have hpos := h.ok.wf.pos
  have hroom := h.ok.room
  have hmost := h.ok.most
  have hL := fun (W : World) (hW : Ch [] w W) => Len_g (h.same hW (by simp))
  have hAr := fun (W : World) => marray_is (w := W) nl
  have hok := chk26_ok (G := G) (idx := []) (refs := y.l) (ws := Ls.map WV.l)
  have hlt := chk26_lt G [] y.l (Ls.map WV.l)
  have hlen := hA.len
  have hll : (Ls.map WV.l).length = nl := by rw [List.length_map]; exact hlen
  unfold pickG
  rw [hll]
  obtain ⟨cc, hcc⟩ : ∃ cc, chk26 G [] y.l (Ls.map WV.l) = cc := ⟨_, rfl⟩
  rw [hcc] at hok hlt ⊢
  obtain ⟨S, hS⟩ : ∃ S, pickF ((Ls.map WV.l).map nats) ((G, 0), ((Ls.map WV.l).map nats).getD y.l.length []) (bwd (nats y.l)) = S := ⟨_, rfl⟩
  rw [hS]
  generalize hWW : (if array26 nl = false then (G, [], 261) else if y.l.length + 1 ≠ nl then (G, [], 261) else if cc ≠ 0 then (G, [], cc) else wres G S : Gra × List Nat × Nat) = WW
  have hylen := hy.ok.len
  cases ha : array26 nl
  · rw [ha, if_pos rfl] at hWW
    simp only [ha] at hAr
    subst hWW
    obtain ⟨ya, yl, yc⟩ := y
    simp only [WV.val] at *
    clear hok hcc hS hA
    have HL := Lib.hid hL; clear hL
    have HAR := Lib.hid hAr; clear hAr
    have H := Lib.hid h; clear h
    have hn0 : ((G.nodes.length : Int) == 0) = false := beqN (by omega)
    go_enter Try.func29, Try.ntmps29
    go_upto_region 1 with fail
    refine wp_named fun W0 hW0 => ?_
    have hc0 : Ch [] w W0 := by rw [hW0]; exact ((Ch.refl _ _).alloc _).alloc _
    have hb1 : blk W0 (w.heap.size + 1) [.slice la nl lc] := by rw [hW0]; exact blk.new' _ _ (by simp)
    have d0 := hb1.cell (i := 0) rfl
    clear hW0 hb1
    have hLL := HL.out W0 hc0
    have HC0 := Lib.hid hc0; clear hc0
    go_wp2_with fail
    refine hLL.mono ?_
    rintro e w' ⟨rfl, rfl⟩
    clear hLL
    go_wp2_with fail
    refine (HAR.out _).mono ?_
    rintro e w' ⟨rfl, rfl⟩
    go_wp2_with fail
    go_ret2
    exact ⟨_, rfl, GVo.none H.out HC0.out⟩
  · rw [ha, if_neg (by simp)] at hWW
    simp only [ha] at hAr
    have hnl : 1 ≤ nl ∧ nl ≤ 256 := by unfold array26 at ha; simp at ha; omega
    obtain ⟨lb, rfl, hWL⟩ := hA.at_ hnl.1
    by_cases hr : y.l.length + 1 ≠ nl
    · rw [if_pos hr] at hWW
      have hne : ((y.l.length : Int) != (nl : Int) - 1) = true := by simp; omega
      subst hWW
      obtain ⟨ya, yl, yc⟩ := y
      simp only [WV.val] at *
      clear hok hcc hS hA hWL
      have HL := Lib.hid hL; clear hL
      have HAR := Lib.hid hAr; clear hAr
      have H := Lib.hid h; clear h
      have hn0 : ((G.nodes.length : Int) == 0) = false := beqN (by omega)
      go_enter Try.func29, Try.ntmps29
      go_upto_region 1 with fail
      refine wp_named fun W0 hW0 => ?_
      have hc0 : Ch [] w W0 := by rw [hW0]; exact ((Ch.refl _ _).alloc _).alloc _
      have hb0 : blk W0 w.heap.size [.slice ya yl.length yc] := by rw [hW0]; exact (blk.new' _ _ (by simp)).alloc _
      have hb1 : blk W0 (w.heap.size + 1) [.slice (some ⟨lb, 0, none⟩) nl lc] := by rw [hW0]; exact blk.new' _ _ (by simp)
      have d0 := hb0.cell (i := 0) rfl
      have d1 := hb1.cell (i := 0) rfl
      clear hW0 hb0 hb1
      have hLL := HL.out W0 hc0
      have HC0 := Lib.hid hc0; clear hc0
      go_wp2_with fail
      refine hLL.mono ?_
      rintro e w' ⟨rfl, rfl⟩
      clear hLL
      go_wp2_with fail
      refine (HAR.out _).mono ?_
      rintro e w' ⟨rfl, rfl⟩
      go_wp2_with fail
      go_ret2
      exact ⟨_, rfl, GVo.none H.out HC0.out⟩
    · rw [if_neg hr] at hWW
      have hyl : y.l.length + 1 = nl := by omega
      have hne : ((y.l.length : Int) != (nl : Int) - 1) = false := by rw [bne_eq_false_iff_eq]; omega
      have hchk := fun (W : World) (q : Nat) (hW : Ch [] w W) (hq : blk W q [.slice (some ⟨lb, 0, none⟩) nl lc]) =>
        mcheck_is (h.same hW (by simp)) ((hWL.ch hW).ls (hq.cell (i := 0) rfl)) (n := 1) (c := 1) (by omega) (by rw [lsW_one]; omega) (by rw [lsW_one]; omega) (RS.nil W) (RS.wv (hy.ch hW) hyc) (by omega) (by omega) (by intro z hz; simp at hz; exact hy.ok.bd z hz)
      simp only [lsW_one, hcc] at hchk
      have hbuild : cc = 0 → ∀ (W1 : World), Ch [] w W1 → blk W1 w.heap.size [y.val] → blk W1 (w.heap.size + 1) [.slice (some ⟨lb, 0, none⟩) nl lc] →
          Calls Try.prog 75 #[.pointer (some ⟨g, 0, none⟩), .func (.func 91) #[] #[.pointer (some ⟨w.heap.size + 1, 0, none⟩), .pointer (some ⟨w.heap.size, 0, none⟩)]] W1 fun e w' => ∃ v, e = .returned (.tuple #[v, .int .i64 S.1.2]) ∧ MB W1 g G F S.1 (PostW W1 S.2) mzW v w' := fun h0 W1 hW1 k1 k2 => by
        obtain ⟨o1, o2, o3, _, o4⟩ := hok h0
        have hne : Ls.map WV.l ≠ [] := fun e => by rw [e] at hll; simp at hll; omega
        refine mbuildW_is (h.same hW1 (by simp)) 91 _ fnvmPick1 S.1 _ (fun W m hm hW hM => ?_)
        have hall := hW1.trans hW (by simp)
        have hm2 : w.heap.size ≤ m := Nat.le_trans hW1.size hm
        have hyw : WVin W (m :: F) ⟨y.a, natInts (nats y.l), y.c⟩ := by
          rw [o4.cast]
          exact ⟨(hy.ch hall).ok, hy.blks hall hm2⟩
        have hc1 := (k1.ch hW (by simp)).cell (i := 0) (v := y.val) rfl
        have hc2 := (k2.ch hW (by simp)).cell (i := 0) rfl
        unfold WV.val at hc1
        have l1 := k1.lt
        have l2 := k2.lt
        have hnF : ∀ b, w.heap.size ≤ b → b < W1.heap.size → b ∉ m :: F := fun b hb hb2 hin => by
          simp only [List.mem_cons] at hin
          rcases hin with e | hin
          · omega
          · have := h.lt b hin; omega
        have h1 := mPick1_is hM (Ls := Ls) (lc := lc) (width := ((Ls.map WV.l).headD []).length) (hWL.up hall hm2) (fun x hx => o1 x.l (List.mem_map.2 ⟨x, hx, rfl⟩)) hnl (o3 hne) hyw (by rw [nats_len]) hyl o4.lt hc2 hc1 (hnF _ (by omega) l2) (hnF _ (by omega) l1)
        rw [show (Ls.map fun x => nats x.l) = (Ls.map WV.l).map nats by rw [List.map_map]; rfl, hS] at h1
        refine h1.mono ?_
        rintro e W' ⟨v, rfl, hrw⟩
        obtain ⟨P, F', q1, q2, q3, q4, q5, q6⟩ := hrw.post hW
        exact ⟨v, P, F', rfl, q1, q2, q3, q4, q5, q6⟩
      obtain ⟨ya, yl, yc⟩ := y
      simp only [WV.val] at *
      clear hok hcc hS hA hWL
      have HL := Lib.hid hL; clear hL
      have HAR := Lib.hid hAr; clear hAr
      have HCHK := Lib.hid hchk; clear hchk
      have HBU := Lib.hid hbuild; clear hbuild
      have H := Lib.hid h; clear h
      have HWW := Lib.hid hWW; clear hWW
      have hn0 : ((G.nodes.length : Int) == 0) = false := beqN (by omega)
      clear hy
      go_enter Try.func29, Try.ntmps29
      go_upto_region 1 with fail
      refine wp_named fun W0 hW0 => ?_
      have hc0 : Ch [] w W0 := by rw [hW0]; exact ((Ch.refl _ _).alloc _).alloc _
      have hb0 : blk W0 w.heap.size [.slice ya yl.length yc] := by rw [hW0]; exact (blk.new' _ _ (by simp)).alloc _
      have hb1 : blk W0 (w.heap.size + 1) [.slice (some ⟨lb, 0, none⟩) nl lc] := by rw [hW0]; exact blk.new' _ _ (by simp)
      have d0 := hb0.cell (i := 0) rfl
      have d1 := hb1.cell (i := 0) rfl
      have l0 := hb0.lt
      have l1 := hb1.lt
      clear hW0
      have hLL := HL.out W0 hc0
      have HC0 := Lib.hid hc0; clear hc0
      have HB0 := Lib.hid hb0; clear hb0
      have HB1 := Lib.hid hb1; clear hb1
      go_wp2_with fail
      refine hLL.mono ?_
      rintro e w' ⟨rfl, rfl⟩
      clear hLL
      go_wp2_with fail
      refine (HAR.out _).mono ?_
      rintro e w' ⟨rfl, rfl⟩
      go_wp2_with fail
      refine calls_named fun W1 hW1 => ?_
      have hc1 := alw_ch hW1
      have e1 := alw_blk (xs := [.slice (some ⟨lb, 0, none⟩) nl lc]) hW1
      clear hW1
      refine (HCHK.out W1 _ (HC0.out.trans hc1 (by simp)) e1).mono ?_
      rintro e w2 ⟨rfl, hc2⟩
      have hc02 := hc1.trans hc2 (by simp)
      have HC2 := Lib.hid (HC0.out.trans hc02 (by simp))
      have HB0' := Lib.hid (HB0.out.ch hc02 (by simp))
      have HB1' := Lib.hid (HB1.out.ch hc02 (by simp))
      clear e1 hc1 hc2 hc02 d0 d1 HB0 HB1 HCHK
      by_cases hz : cc = 0
      · have hBB := HBU.out hz w2 HC2.out HB0'.out HB1'.out
        have hww := HWW.out
        rw [if_neg (by simp [hz])] at hww
        subst hz
        have HBB := Lib.hid hBB; clear hBB HBU
        have HW2 := Lib.hid hww; clear hww
        go_wp2_with fail
        refine HBB.out.mono ?_
        rintro e w3 ⟨v, rfl, hmb⟩
        have hgv := MB.gvo HC2.out hmb
        rw [HW2.out] at hgv
        have HGV := Lib.hid hgv; clear hgv hmb
        go_wp2_with fail
        go_ret2
        exact ⟨_, by rw [← HW2.out, wres_e]; rfl, HGV.out⟩
      · have hq : ((cc : Int) != 0) = true := by simp; omega
        have hww := HWW.out
        rw [if_pos hz] at hww
        have HW2 := Lib.hid hww; clear hww
        have HZ := Lib.hid hz; clear hz
        go_wp2_with fail
        go_ret2
        exact ⟨_, by rw [← HW2.out]; rfl, by rw [← HW2.out]; exact GVo.none H.out HC2.out⟩
end
end Go.Proofs.Ytdmmanfjafempaa
namespace Go.Aig
def eqS (q : Mk × List Nat) (p : List Nat × List Nat) : Mk × List Nat := ((rstep q.1 (eqW q.1.1 p.1 p.2)).1, q.2 ++ [(rstep q.1 (eqW q.1.1 p.1 p.2)).2])
def eqsF (G : Gra) (l : List (List Nat × List Nat)) : Mk × List Nat := l.foldl eqS ((G, 0), [])
theorem eqsF_snoc (G : Gra) (l : List (List Nat × List Nat)) (p : List Nat × List Nat) : eqsF G (l ++ [p]) = eqS (eqsF G l) p := by unfold eqsF; rw [List.foldl_append]; rfl
/-- whether two arrays are the same -/
def equalR (G : Gra) (l : List (List Nat × List Nat)) : Mk × Nat := rstep (eqsF G l).1 (rAll (eqsF G l).1.1 (eqsF G l).2)
end Go.Aig
namespace Go.Proofs.Ytdmmanfjafempaa
open Go.RowKit Go.Mem Go.Aig
attribute [local go_sem] Oper.semAt_some
theorem doAll_r' {G : Gra} {l : List Nat} (hl : ∀ r ∈ l, r < 2 * G.nodes.length) : doAll G (l.map fun (r : Nat) => (r : Int)) = rAll G l := by
  unfold doAll
  rw [toNats, whole_all (by
    intro x hx
    obtain ⟨r, hr, rfl⟩ := List.mem_map.1 hx
    have := hl r hr
    simp [right]; omega)]
theorem fnvmEqual1 : Fnv 88 := fnv_of Try.func88 (by simp [Try.f88]) (by simp [Try.f88])
/-- what a closure that makes a reference leaves -/
def RV (w : World) (g m : Nat) (G : Gra) (F : List Nat) (S : Mk × Nat) (v : Value) (w' : World) : Prop := ∃ (P : Mk) (r : Nat), v = .int .i64 r ∧ Sim G P S.1 ∧ (S.1.2 = 0 → r = S.2) ∧ MTo w g m P F w'
section
variable {w : World} {g m : Nat} {G : Gra} {F : List Nat}
set_option maxRecDepth 100000 in
set_option maxHeartbeats 4000000 in
theorem mEqual1_is (h : MIn w g m (G, 0) F) {As Bs : List WV} {la lb nl ac bc width : Nat} (hA : WL w (m :: F) la nl As) (hB : WL w (m :: F) lb nl Bs) (hWA : ∀ x ∈ As, WOf G width x.l) (hWB : ∀ x ∈ Bs, WOf G width x.l) (hnl : nl ≤ 256) (hw1 : 1 ≤ width) (hw : width ≤ 16)
    {b1 b2 b3 : Nat} (h1 : w.cell? ⟨b1, 0, none⟩ = some (.slice (some ⟨la, 0, none⟩) nl ac)) (h2 : w.cell? ⟨b2, 0, none⟩ = some (.pointer (some ⟨g, 0, none⟩))) (h3 : w.cell? ⟨b3, 0, none⟩ = some (.slice (some ⟨lb, 0, none⟩) nl bc)) (h2F : b2 ∉ m :: F) (h3F : b3 ∉ m :: F) :
    Calls Try.prog 88 (#[.pointer (some ⟨m, 0, none⟩)] ++ #[.pointer (some ⟨b1, 0, none⟩), .pointer (some ⟨b2, 0, none⟩), .pointer (some ⟨b3, 0, none⟩)]) w fun e W' => ∃ v, e = .returned v ∧ RV w g m G F (equalR G ((As.map fun x => nats x.l).zip (Bs.map fun x => nats x.l))) v W' := by
  show Calls Try.prog 88 #[.pointer (some ⟨m, 0, none⟩), .pointer (some ⟨b1, 0, none⟩), .pointer (some ⟨b2, 0, none⟩), .pointer (some ⟨b3, 0, none⟩)] w _
  have hml := h.bk.lt
  have hFl := h.gin.lt
  have hok := h.gin.ok
  obtain ⟨Z, hZ⟩ : ∃ Z, (As.map fun x => nats x.l).zip (Bs.map fun x => nats x.l) = Z := ⟨_, rfl⟩
  have hzl : Z.length = nl := by rw [← hZ, List.length_zip, List.length_map, List.length_map, hA.len, hB.len, Nat.min_self]
  have hzat : ∀ (k : Nat) (x y : WV), As[k]? = some x → Bs[k]? = some y → Z[k]? = some (nats x.l, nats y.l) := fun k x y hx hy => by
    rw [← hZ, List.getElem?_zip_eq_some]
    exact ⟨by rw [List.getElem?_map, hx]; rfl, by rw [List.getElem?_map, hy]; rfl⟩
  rw [hZ]
  clear hZ
  have H := Lib.hid h; clear h
  have HA := Lib.hid hA; clear hA
  have HB := Lib.hid hB; clear hB
  have HWA := Lib.hid hWA; clear hWA
  have HWB := Lib.hid hWB; clear hWB
  have HZL := Lib.hid hzl; clear hzl
  have HZAT := Lib.hid hzat; clear hzat
  have H1 := Lib.hid h1
  have H2 := Lib.hid h2; clear h2
  have H3 := Lib.hid h3; clear h3
  have HOK := Lib.hid hok; clear hok
  go_enter Try.func88, Try.ntmps88
  go_wp2_with fail
  clear h1
  go_loopw [6, 15] (fun lv i wr => ∃ (k : Nat) (P : Mk) (F' l : List Nat), k ≤ nl ∧ i = .int .i64 k ∧ l.length = k ∧ Sim G P (eqsF G (Z.take k)).1 ∧ ((eqsF G (Z.take k)).1.2 = 0 → l = (eqsF G (Z.take k)).2) ∧ (∀ r ∈ l, r < 2 * P.1.nodes.length) ∧ MIn wr g m P F' ∧ Ch (m :: F) w wr ∧ (∀ q ∈ F', q ∈ F ∨ w.heap.size ≤ q) ∧ F'[2]? = F[2]? ∧ row wr 39 1 lv k (refsCells l) ∧ (∀ q, lv.ownBlock = some q → w.heap.size ≤ q ∧ q ∉ F')) (fun _ i _ => nl - (intOf i).toNat)
  case atStart => exact ⟨0, (G, 0), F, [], Nat.zero_le _, rfl, rfl, Sim.start HOK.out, fun _ => rfl, by simp, H.out, Ch.refl _ _, fun q hq => .inl hq, rfl, ⟨rfl, .inl ⟨rfl, rfl⟩⟩, by simp [Value.ownBlock]⟩
  case round =>
    obtain ⟨k, P, F', l, hk, rfl, hll, hs, hout, hall, hm, hch, hown, hmap, hrow, hfr⟩ := hrel
    obtain ⟨va, vc, rfl⟩ := row.shape hrow
    have hcell : ∀ {b i : Nat} {v : Value}, w.cell? ⟨b, i, none⟩ = some v → b ∉ m :: F → wr.cell? ⟨b, i, none⟩ = some v := fun hx hb => (hch.cell (cell_lt hx) hb).trans hx
    have hword : ∀ {x : WV}, WVin w (m :: F) x → WVin wr F' x := fun hx => ⟨hx.ok.ch hch (fun p hp => (hx.apart p.block (ablk_of hp)).1), fun q hq => ⟨fun hin => by
      obtain ⟨k1, k2⟩ := hx.apart q hq
      simp only [List.mem_cons, not_or] at k1
      exact (hown q hin).elim k1.2 (fun e => by omega), Nat.lt_of_lt_of_le (hx.apart q hq).2 hch.size⟩⟩
    by_cases hlt : k < nl
    · obtain ⟨x, hx⟩ : ∃ x, As[k]? = some x := ⟨_, List.getElem?_eq_getElem (by rw [HA.out.len]; exact hlt)⟩
      obtain ⟨y, hy⟩ : ∃ y, Bs[k]? = some y := ⟨_, List.getElem?_eq_getElem (by rw [HB.out.len]; exact hlt)⟩
      have hxm := List.mem_of_getElem? hx
      have hym := List.mem_of_getElem? hy
      have hxw := HWA.out x hxm
      have hyw := HWB.out y hym
      have c_x := hcell (HA.out.cells k x hx) HA.out.apart.1
      have c_y := hcell (HB.out.cells k y hy) HB.out.apart.1
      have c_g := hcell H2.out h2F
      have c_b := hcell H3.out h3F
      have hsu : eqsF G (Z.take (k + 1)) = eqS (eqsF G (Z.take k)) (nats x.l, nats y.l) := by rw [List.take_add_one, HZAT.out k x y hx hy]; exact eqsF_snoc _ _ _
      have hxr : ∀ r ∈ nats x.l, r < 2 * P.1.nodes.length := fun r hr => hs.ext.lt (hxw.lt r hr)
      have hyr : ∀ r ∈ nats y.l, r < 2 * P.1.nodes.length := fun r hr => hs.ext.lt (hyw.lt r hr)
      have hfull := eqW_full hm.gin.ok (by rw [nats_len]; exact hxw.len) (by rw [nats_len]; exact hyw.len) hw1 (by omega) hxr hyr
      generalize eqsF G (Z.take k) = R at hs hout hsu
      have hst := hs.step hfull (Y := eqW R.1.1 (nats x.l) (nats y.l)) (fun _ e => by rw [e])
      have hEQ := fun (W : World) (hW : Ch [] wr W) => sEq_is (hm.gin.same hW (by simp)) ((hword (HA.out.words x hxm)).ch hW) ((hword (HB.out.words y hym)).ch hW)
      obtain ⟨X, hX⟩ : ∃ X, eqW P.1 (nats x.l) (nats y.l) = X := ⟨_, rfl⟩
      have hX2 := hX
      unfold eqW at hX2
      rw [hxw.cast, hyw.cast] at hX2
      simp only [hX2, WV.val] at hEQ
      rw [hX] at hst
      have hbk := hm.bk
      unfold WV.val at c_x c_y
      obtain ⟨xa, xl, xc⟩ := x
      obtain ⟨ya, yl, yc⟩ := y
      simp only at c_x c_y hEQ
      have HEQ := Lib.hid hEQ; clear hEQ
      have HST := Lib.hid hst; clear hst
      have HSU := Lib.hid hsu; clear hsu
      have HS := Lib.hid hs; clear hs
      have HM := Lib.hid hm; clear hm
      have HCH := Lib.hid hch; clear hch
      have HROW := Lib.hid hrow; clear hrow
      have HOUT := Lib.hid hout; clear hout
      have HBK := Lib.hid hbk; clear hbk
      have HFR := Lib.hid hfr; clear hfr
      have HALL := Lib.hid hall; clear hall
      clear hX hX2 hfull hxr hyr hxw hyw hxm hym hx hy hcell hword
      go_upto_region 5 with fail
      refine Ord.St.door (fun _ => True) [.rd, .fl, .rd, .fl, .fl, .rd, .ef, .fl, .fl, .fl, .fl, .fl] [0, 0, 0, 0, 12, 28, 63, 127, 255, 255, 511, 2047] [0, 1, 2, 3, 4, 5, 6, 7, 8, 9, 10, 11] mixed (by kernel_rfl) rfl ?_
      obtain ⟨Wc, hWc⟩ : ∃ Wc, Wc = wr.drew := ⟨_, rfl⟩
      rw [← hWc]
      have hcur : Ch [] wr Wc := by rw [hWc]; exact (Ch.refl _ _).drew
      have c_g2 : Wc.cell? ⟨b2, 0, none⟩ = some (.pointer (some ⟨g, 0, none⟩)) := by rw [hWc]; exact c_g
      have c_b2 : Wc.cell? ⟨b3, 0, none⟩ = some (.slice (some ⟨lb, 0, none⟩) nl bc) := by rw [hWc]; exact c_b
      have c_y2 : Wc.cell? ⟨lb, k, none⟩ = some (.slice ya yl.length yc) := by rw [hWc]; exact c_y
      clear hWc
      have han := HEQ.out Wc hcur
      have HAN1 := Lib.hid han; clear han HEQ
      have HCUR := Lib.hid hcur; clear hcur
      refine Ord.St.rd2 (T' := ?_) 0 [1, 2, 3, 4, 5, 6, 7, 8, 9, 10, 11] _ _ rfl (by kernel_rfl) rfl rfl rfl rfl (fun K hk => ?_) ?_
      rotate_left
      · go_step; exact hk
      refine Ord.St.fl2 (T' := ?_) 1 [2, 3, 4, 5, 6, 7, 8, 9, 10, 11] _ _ rfl (by kernel_rfl) rfl rfl rfl rfl (fun K w' hk => ?_) ?_
      rotate_left
      · go_step; exact hk
      refine Ord.St.rd2 (T' := ?_) 2 [3, 4, 5, 6, 7, 8, 9, 10, 11] _ _ rfl (by kernel_rfl) rfl rfl rfl rfl (fun K hk => ?_) ?_
      rotate_left
      · go_step; exact hk
      refine Ord.St.fl2 (T' := ?_) 3 [4, 5, 6, 7, 8, 9, 10, 11] _ _ rfl (by kernel_rfl) rfl rfl rfl rfl (fun K w' hk => ?_) ?_
      rotate_left
      · go_step; exact hk
      refine Ord.St.fl2 (T' := ?_) 4 [5, 6, 7, 8, 9, 10, 11] _ _ rfl (by kernel_rfl) rfl rfl rfl rfl (fun K w' hk => ?_) ?_
      rotate_left
      · go_step; exact hk
      refine Ord.St.rd2 (T' := ?_) 5 [6, 7, 8, 9, 10, 11] _ _ rfl (by kernel_rfl) rfl rfl rfl rfl (fun K hk => ?_) ?_
      rotate_left
      · go_step; exact hk
      refine Ord.St.ef 6 [7, 8, 9, 10, 11] _ rfl (by kernel_rfl) (fun K hK => ?_)
      go_wp2_with fail
      refine HAN1.out.mono ?_
      rintro e w5 ⟨rfl, hto⟩
      have hb5 := ((HBK.out.ch HCUR.out (by simp)).ch hto.choose_spec.2.1 HM.out.apart)
      have HTO := Lib.hid hto; clear hto
      have HNT := mnote_is hb5 X.2.1 X.2.2
      clear hb5
      go_wp2_with fail
      refine ⟨rfl, hK _ _ ?_⟩; clear hK K
      refine Ord.St.fl2 (T' := ?_) 7 [8, 9, 10, 11] _ _ rfl (by kernel_rfl) rfl rfl rfl rfl (fun K w' hk => ?_) ?_
      rotate_left
      · go_step; exact hk
      refine Ord.St.fl2 (T' := ?_) 8 [9, 10, 11] _ _ rfl (by kernel_rfl) rfl rfl rfl rfl (fun K w' hk => ?_) ?_
      rotate_left
      · go_step; exact hk
      refine Ord.St.fl2 (T' := ?_) 9 [10, 11] _ _ rfl (by kernel_rfl) rfl rfl rfl rfl (fun K w' hk => ?_) ?_
      rotate_left
      · go_step; exact hk
      refine Ord.St.fl2 (T' := ?_) 10 [11] _ _ rfl (by kernel_rfl) rfl rfl rfl rfl (fun K w' hk => ?_) ?_
      rotate_left
      · go_step; exact hk
      refine Ord.St.fl2 (T' := ?_) 11 [] _ _ rfl (by kernel_rfl) rfl rfl rfl rfl (fun K w' hk => ?_) ?_
      rotate_left
      · go_step; exact hk
      refine Ord.St.nil ?_
      go_wp2_with fail
      refine HNT.mono ?_
      rintro e w6 ⟨rfl, hb6, hc6⟩
      have hmc := HM.out.same HCUR.out (by simp)
      obtain ⟨F6, hm6, hc56, hown6, hmap6⟩ := MTo.of (P' := (mput P X).1) hmc HTO.out (fun _ => hb6) hc6
      have hc06 := (HCUR.out.mono (by simp)).trans hc56 (fun q hq => .inl hq)
      have hrl := HROW.out.lt
      have hrow6 := HROW.out.ch hc06 (by
        intro q hq hin
        simp only [List.mem_cons] at hin
        rcases hin with e | e
        · have := (HFR.out q hq).1; omega
        · exact (HFR.out q hq).2 e)
      have hch6 := HCH.out.trans hc06 (by
        intro q hq
        simp only [List.mem_cons] at hq ⊢
        rcases hq with e | hq
        · exact .inl (.inl e)
        · rcases hown q hq with e | e
          · exact .inl (.inr e)
          · exact .inr e)
      have hsz := HCUR.out.size
      have hsz0 := HCH.out.size
      have hfr6 : ∀ q, (Value.slice va k vc).ownBlock = some q → w.heap.size ≤ q ∧ q ∉ F6 := fun q hq => ⟨(HFR.out q hq).1, fun hin => (hown6 q hin).elim (HFR.out q hq).2 (fun e => by have := (hrl q hq).2; omega)⟩
      have hown6' : ∀ q ∈ F6, q ∈ F ∨ w.heap.size ≤ q := fun q hq => by
        rcases hown6 q hq with e | e
        · exact hown q e
        · exact .inr (by omega)
      have hF6l := hm6.gin.lt
      have hm6l := hm6.bk.lt
      clear hb6 hc6 hc56 hc06 hmc HTO hrl
      obtain ⟨W7, hW7⟩ : ∃ W7 : World, W7 = w6.alloc (.cells #[.int .i64 X.2.1] 39) := ⟨_, rfl⟩
      have hc7 : Ch [] w6 W7 := alw_ch hW7
      have hnb := alw_blk (xs := [.int .i64 X.2.1]) hW7
      have hrow7 := hrow6.ch hc7 (by simp)
      have hm7 := hm6.same hc7 (by simp)
      have HM7 := Lib.hid hm7; clear hm7 hm6
      have HROW7 := Lib.hid hrow7; clear hrow7 hrow6
      have HCH7 := Lib.hid (hch6.trans hc7 (by simp)); clear hch6
      have HNB := Lib.hid hnb; clear hnb
      have HW7 := Lib.hid hW7; clear hW7
      have HFR6 := Lib.hid hfr6; clear hfr6
      have hs7 := hc7.size
      clear hc7
      go_wp2_with (at_builtin; rw [← HW7.out]; go_loud (refine wpList_append_row slRefs rfl _ _ rfl (v := .slice va k vc) (n := k) (xs := refsCells l) rfl HROW7.out (ad := ⟨w6.heap.size, 0, none⟩) (m := 1) (c := 1) (news := [.int .i64 X.2.1]) rfl rfl (news_blk HNB.out) (by simp [Value.oneCell']) (by omega) (by omega) ?_; intro v' w8 hown8 hC8 hf8; have HO8 := Lib.hid hown8; clear hown8; have HC8 := Lib.hid hC8; clear hC8; have HF8 := Lib.hid hf8; clear hf8))
      go_roundw
      case rel =>
        obtain ⟨k1, k2, k3, k4, k5, k6, k7⟩ := HST.out
        have hcs : ∀ q ∈ (Value.slice va k vc).ownBlock.toList, w.heap.size ≤ q ∧ q ∉ F6 := fun q hq => HFR6.out q (by simpa using hq)
        refine ⟨k + 1, (mput P X).1, F6, l ++ [X.2.1], by omega, by go_num, by simp [hll], by rw [HSU.out]; exact k1, fun hz => ?_, fun r hr => ?_, HM7.out.same HC8.out (fun q hq hq2 => ?_), HCH7.out.trans HC8.out (fun q hq => .inr (hcs q hq).1), hown6', hmap6.trans hmap, ?_, fun q hq => ?_⟩
        · rw [HSU.out] at hz ⊢
          have hR0 : R.1.2 = 0 := by
            by_cases h0 : R.1.2 = 0
            · exact h0
            · exact absurd hz (k7 h0)
          rw [HOUT.out hR0]
          exact congrArg (fun z => R.2 ++ [z]) (k4 hz)
        · rcases List.mem_append.1 hr with hr | hr
          · exact k5.lt (HALL.out r hr)
          · rw [List.mem_singleton.1 hr]; exact k2
        · simp only [List.mem_cons] at hq
          rcases hq with e | hq
          · have := (hcs q hq2).1; omega
          · exact (hcs q hq2).2 hq
        · have := HO8.out
          simpa [refsCells] using this
        · rcases HF8.out q hq with e | e
          · exact HFR6.out q e
          · have h9 := HCH7.out.size
            exact ⟨by omega, fun hin => by have := hF6l q hin; omega⟩
      case measure => simp [intOf]; omega
    · have hkn : k = nl := by omega
      rw [hkn, List.take_of_length_le (by rw [HZL.out]; omega)] at hs hout
      have hAll := All_g hm.gin (a := va) (l := l.map fun (r : Nat) => (r : Int)) k vc (by rw [List.length_map]; exact hll) (by
        rw [refs_natInts] at hrow
        exact Sl.of_ints hrow (by omega)) (fun z hz => by
        obtain ⟨r, hr, rfl⟩ := List.mem_map.1 hz
        have := hall r hr
        have := hm.gin.ok.small
        omega) (fun p hp => by
        subst hp
        exact ⟨(hrow.lt p.block rfl).2, (hfr p.block rfl).2⟩)
      rw [doAll_r' hall] at hAll
      have hst := hs.step (rAll_full hm.gin.ok hall) (Y := rAll (eqsF G Z).1.1 (eqsF G Z).2) (fun e0 e1 => by rw [hout e0, e1])
      obtain ⟨X, hX⟩ : ∃ X, rAll P.1 l = X := ⟨_, rfl⟩
      rw [hX] at hAll hst
      have c_g := hcell H2.out h2F
      have hbk := hm.bk
      have HST := Lib.hid hst; clear hst
      have HAL := Lib.hid hAll; clear hAll
      have HM := Lib.hid hm; clear hm
      have HCH := Lib.hid hch; clear hch
      have HBK := Lib.hid hbk; clear hbk
      clear hs hout hrow hfr hall hX hcell hword hkn
      go_wp2_with fail
      refine HAL.out.mono ?_
      rintro e w5 ⟨rfl, hto⟩
      have hb5 := HBK.out.ch hto.choose_spec.2.1 HM.out.apart
      have HTO := Lib.hid hto; clear hto
      have HNT := mnote_is hb5 X.2.1 X.2.2
      clear hb5
      go_wp2_with fail
      refine HNT.mono ?_
      rintro e w6 ⟨rfl, hb6, hc6⟩
      have hmt := MTo.of (P' := (mput P X).1) HM.out HTO.out (fun _ => hb6) hc6
      have HMT := Lib.hid hmt; clear hmt hb6 hc6
      go_wp2_with fail
      go_ret
      obtain ⟨F6, q1, q2, q3, q4⟩ := HMT.out
      have hsz0 := HCH.out.size
      obtain ⟨k1, k2, k3, k4, k5, k6, k7⟩ := HST.out
      refine ⟨_, rfl, (mput P X).1, X.2.1, rfl, k1, k4, F6, q1, HCH.out.trans q2 (fun q hq => ?_), fun q hq => (q3 q hq).elim (hown q) (fun e => .inr (by omega)), q4.trans hmap⟩
      simp only [List.mem_cons] at hq ⊢
      rcases hq with e | hq
      · exact .inl (.inl e)
      · rcases hown q hq with e | e
        · exact .inl (.inr e)
        · exact .inr e
end
end Go.Proofs.Ytdmmanfjafempaa
namespace Go.Aig
def equalG (G : Gra) (A B : List (List Int)) : Res :=
  if array26 A.length = false then (G, 0, 261) else if A.length ≠ B.length then (G, 0, 261) else if chk26 G [] [] (A ++ B) ≠ 0 then (G, 0, chk26 G [] [] (A ++ B))
  else rres G (equalR G ((A.map nats).zip (B.map nats)))
theorem rres_e (G : Gra) (S : Mk × Nat) : (rres G S).2.2 = S.1.2 := by
  unfold rres
  by_cases h0 : S.1.2 = 0
  · rw [if_neg (by simp [h0])]; exact h0.symm
  · rw [if_pos h0]
end Go.Aig
namespace Go.Proofs.Ytdmmanfjafempaa
open Go.RowKit Go.Mem Go.Aig
def PostR (r : Nat) (v : Value) (_ : List Nat) (_ : World) : Prop := v = .int .i64 r
theorem RV.post {W : World} {g m : Nat} {G : Gra} {F : List Nat} {S : Mk × Nat} {v : Value} {W' : World} (h : RV W g m G F S v W') : ∃ P F', Sim G P S.1 ∧ MIn W' g m P F' ∧ Ch (m :: F) W W' ∧ (∀ k ∈ F', k ∈ F ∨ W.heap.size ≤ k) ∧ F'[2]? = F[2]? ∧ (S.1.2 = 0 → PostR S.2 v F' W') := by
  obtain ⟨P, r, rfl, hs, ho, F', k1, k2, k3, k4⟩ := h
  exact ⟨P, F', hs, k1, k2, k3, k4, fun h0 => by rw [ho h0]; rfl⟩
theorem MB.gto {w w1 w' : World} {g : Nat} {G : Gra} {F : List Nat} {S : Mk × Nat} {v : Value} (hc : Ch [] w w1) (h : MB w1 g G F S.1 (PostR S.2) mzR v w') : v = .int .i64 (rres G S).2.1 ∧ GTo w g (rres G S).1 F w' := by
  obtain ⟨F', k1, k2, k3, k4, k5, k6⟩ := h
  unfold rres
  by_cases h0 : S.1.2 = 0
  · rw [if_pos h0] at k1
    rw [if_neg (by simp [h0])]
    exact ⟨k5 h0, GTo.since hc (GTo.mk k1 k2 k3 k4)⟩
  · rw [if_neg h0] at k1
    rw [if_pos h0]
    exact ⟨k6 h0, GTo.since hc (GTo.mk k1 k2 k3 k4)⟩
theorem LS.two {w : World} {F : List Nat} {q la lb n ac bc : Nat} {As Bs : List WV} (hA : WL w F la n As) (hB : WL w F lb n Bs) (hq : blk w q [.slice (some ⟨la, 0, none⟩) n ac, .slice (some ⟨lb, 0, none⟩) n bc]) : LS w q 2 [(la, ac, As), (lb, bc, Bs)] := by
  have h1 := hA.len
  have h2 := hB.len
  subst h1
  refine ⟨rfl, fun j b' c' ws' hj => ?_, fun j b' c' ws' hj => ?_⟩ <;> rcases j with _ | _ | j
  · cases hj; exact hq.cell rfl
  · cases hj; rw [h2]; exact hq.cell rfl
  · simp at hj
  · cases hj; exact fun i x hx => ⟨hA.cells i x hx, (hA.words x (List.mem_of_getElem? hx)).ok⟩
  · cases hj; exact fun i x hx => ⟨hB.cells i x hx, (hB.words x (List.mem_of_getElem? hx)).ok⟩
  · simp at hj
theorem lsW_two (b c b' c' : Nat) (ws ws' : List WV) : lsW [(b, c, ws), (b', c', ws')] = ws ++ ws' := by simp [lsW]
section
variable {w : World} {g : Nat} {G : Gra} {F : List Nat}
set_option maxRecDepth 100000 in
set_option maxHeartbeats 4000000 in
theorem mEqual_is (h : GIn w g G F) {la lb : Option Addr} {nl ac n2 bc : Nat} {As Bs : List WV} (hA : WA w F la nl As) (hB : WA w F lb n2 Bs) (hn2 : n2 ≤ 1000000) :
    Calls Try.prog 28 #[.pointer (some ⟨g, 0, none⟩), .slice la nl ac, .slice lb n2 bc] w fun e w' => e = .returned (.tuple #[.int .i64 (equalG G (As.map WV.l) (Bs.map WV.l)).2.1, .int .i64 (equalG G (As.map WV.l) (Bs.map WV.l)).2.2]) ∧ GTo w g (equalG G (As.map WV.l) (Bs.map WV.l)).1 F w' := by
  have hpos := h.ok.wf.pos
  have hroom := h.ok.room
  have hmost := h.ok.most
  have hL := fun (W : World) (hW : Ch [] w W) => Len_g (h.same hW (by simp))
  have hAr := fun (W : World) => marray_is (w := W) nl
  have hok := chk26_ok (G := G) (idx := []) (refs := []) (ws := As.map WV.l ++ Bs.map WV.l)
  have hlt := chk26_lt G [] [] (As.map WV.l ++ Bs.map WV.l)
  have hla : (As.map WV.l).length = nl := by rw [List.length_map]; exact hA.len
  have hlb : (Bs.map WV.l).length = n2 := by rw [List.length_map]; exact hB.len
  unfold equalG
  rw [hla, hlb]
  obtain ⟨cc, hcc⟩ : ∃ cc, chk26 G [] [] (As.map WV.l ++ Bs.map WV.l) = cc := ⟨_, rfl⟩
  rw [hcc] at hok hlt ⊢
  obtain ⟨S, hS⟩ : ∃ S, equalR G (((As.map WV.l).map nats).zip ((Bs.map WV.l).map nats)) = S := ⟨_, rfl⟩
  rw [hS]
  generalize hWW : (if array26 nl = false then (G, 0, 261) else if nl ≠ n2 then (G, 0, 261) else if cc ≠ 0 then (G, 0, cc) else rres G S : Res) = WW
  cases ha : array26 nl
  · rw [ha, if_pos rfl] at hWW
    simp only [ha] at hAr
    subst hWW
    clear hok hcc hS hA hB
    have HL := Lib.hid hL; clear hL
    have HAR := Lib.hid hAr; clear hAr
    have H := Lib.hid h; clear h
    have hn0 : ((G.nodes.length : Int) == 0) = false := beqN (by omega)
    go_enter Try.func28, Try.ntmps28
    go_upto_region 1 with fail
    refine wp_named fun W0 hW0 => ?_
    have hc0 : Ch [] w W0 := by rw [hW0]; exact (((Ch.refl _ _).alloc _).alloc _).alloc _
    have hb0 : blk W0 w.heap.size [.pointer (some ⟨g, 0, none⟩)] := by rw [hW0]; exact ((blk.new' _ _ (by simp)).alloc _).alloc _
    have hb1 : blk W0 (w.heap.size + 1) [.slice la nl ac] := by rw [hW0]; exact (blk.new' _ _ (by simp)).alloc _
    have d0 := hb0.cell (i := 0) rfl
    have d1 := hb1.cell (i := 0) rfl
    clear hW0 hb0 hb1
    have hLL := HL.out W0 hc0
    have HC0 := Lib.hid hc0; clear hc0
    go_wp2_with fail
    refine hLL.mono ?_
    rintro e w' ⟨rfl, rfl⟩
    clear hLL
    go_wp2_with fail
    refine (HAR.out _).mono ?_
    rintro e w' ⟨rfl, rfl⟩
    go_wp2_with fail
    go_ret2
    exact ⟨rfl, GTo.same H.out HC0.out⟩
  · rw [ha, if_neg (by simp)] at hWW
    simp only [ha] at hAr
    have hnl : 1 ≤ nl ∧ nl ≤ 256 := by unfold array26 at ha; simp at ha; omega
    obtain ⟨la', rfl, hWA⟩ := hA.at_ hnl.1
    by_cases hr : nl ≠ n2
    · rw [if_pos hr] at hWW
      have hne : ((nl : Int) != (n2 : Int)) = true := by simp; omega
      subst hWW
      clear hok hcc hS hA hB hWA
      have HL := Lib.hid hL; clear hL
      have HAR := Lib.hid hAr; clear hAr
      have H := Lib.hid h; clear h
      have hn0 : ((G.nodes.length : Int) == 0) = false := beqN (by omega)
      go_enter Try.func28, Try.ntmps28
      go_upto_region 1 with fail
      refine wp_named fun W0 hW0 => ?_
      have hc0 : Ch [] w W0 := by rw [hW0]; exact (((Ch.refl _ _).alloc _).alloc _).alloc _
      have hb0 : blk W0 w.heap.size [.pointer (some ⟨g, 0, none⟩)] := by rw [hW0]; exact ((blk.new' _ _ (by simp)).alloc _).alloc _
      have hb1 : blk W0 (w.heap.size + 1) [.slice (some ⟨la', 0, none⟩) nl ac] := by rw [hW0]; exact (blk.new' _ _ (by simp)).alloc _
      have hb2 : blk W0 (w.heap.size + 2) [.slice lb n2 bc] := by rw [hW0]; exact blk.new' _ _ (by simp)
      have d0 := hb0.cell (i := 0) rfl
      have d1 := hb1.cell (i := 0) rfl
      have d2 := hb2.cell (i := 0) rfl
      clear hW0 hb0 hb1 hb2
      have hLL := HL.out W0 hc0
      have HC0 := Lib.hid hc0; clear hc0
      go_wp2_with fail
      refine hLL.mono ?_
      rintro e w' ⟨rfl, rfl⟩
      clear hLL
      go_wp2_with fail
      refine (HAR.out _).mono ?_
      rintro e w' ⟨rfl, rfl⟩
      go_wp2_with fail
      go_ret2
      exact ⟨rfl, GTo.same H.out HC0.out⟩
    · rw [if_neg hr] at hWW
      have hyl : nl = n2 := by omega
      have hne : ((nl : Int) != (n2 : Int)) = false := by rw [bne_eq_false_iff_eq]; omega
      subst hyl
      obtain ⟨lb', rfl, hWB⟩ := hB.at_ hnl.1
      have hchk := fun (W : World) (q : Nat) (hW : Ch [] w W) (hq : blk W q [.slice (some ⟨la', 0, none⟩) nl ac, .slice (some ⟨lb', 0, none⟩) nl bc]) =>
        mcheck_is (h.same hW (by simp)) (LS.two (hWA.ch hW) (hWB.ch hW) hq) (n := 2) (c := 2) (by omega) (by rw [lsW_two, List.length_append, hA.len]; omega) (by rw [lsW_two, List.length_append, hA.len, hB.len]; omega) (RS.nil W) (RS.nil W) (by omega) (by omega) (by intro z hz; simp at hz)
      simp only [lsW_two, List.map_append, hcc] at hchk
      have hbuild : cc = 0 → ∀ (W1 : World), Ch [] w W1 → blk W1 w.heap.size [.pointer (some ⟨g, 0, none⟩)] → blk W1 (w.heap.size + 1) [.slice (some ⟨la', 0, none⟩) nl ac] → blk W1 (w.heap.size + 2) [.slice (some ⟨lb', 0, none⟩) nl bc] →
          Calls Try.prog 83 #[.pointer (some ⟨g, 0, none⟩), .func (.func 88) #[] #[.pointer (some ⟨w.heap.size + 1, 0, none⟩), .pointer (some ⟨w.heap.size, 0, none⟩), .pointer (some ⟨w.heap.size + 2, 0, none⟩)]] W1 fun e w' => ∃ v, e = .returned (.tuple #[v, .int .i64 S.1.2]) ∧ MB W1 g G F S.1 (PostR S.2) mzR v w' := fun h0 W1 hW1 k0 k1 k2 => by
        obtain ⟨o1, o2, o3, _, _⟩ := hok h0
        have hne : As.map WV.l ++ Bs.map WV.l ≠ [] := fun e => by
          have := congrArg List.length e
          rw [List.length_append, hla] at this
          simp at this; omega
        refine mbuildR_is (h.same hW1 (by simp)) 88 _ fnvmEqual1 S.1 _ (fun W m hm hW hM => ?_)
        have hall := hW1.trans hW (by simp)
        have hm2 : w.heap.size ≤ m := Nat.le_trans hW1.size hm
        have hc0 := (k0.ch hW (by simp)).cell (i := 0) rfl
        have hc1 := (k1.ch hW (by simp)).cell (i := 0) rfl
        have hc2 := (k2.ch hW (by simp)).cell (i := 0) rfl
        have l0 := k0.lt
        have l1 := k1.lt
        have l2 := k2.lt
        have hnF : ∀ b, w.heap.size ≤ b → b < W1.heap.size → b ∉ m :: F := fun b hb hb2 hin => by
          simp only [List.mem_cons] at hin
          rcases hin with e | hin
          · omega
          · have := h.lt b hin; omega
        have h1 := mEqual1_is hM (As := As) (Bs := Bs) (ac := ac) (bc := bc) (hWA.up hall hm2) (hWB.up hall hm2) (fun x hx => o1 x.l (List.mem_append_left _ (List.mem_map.2 ⟨x, hx, rfl⟩))) (fun x hx => o1 x.l (List.mem_append_right _ (List.mem_map.2 ⟨x, hx, rfl⟩))) hnl.2 (o2 hne) (o3 hne) hc1 hc0 hc2 (hnF _ (by omega) l0) (hnF _ (by omega) l2)
        rw [show (As.map fun x => nats x.l) = (As.map WV.l).map nats by rw [List.map_map]; rfl, show (Bs.map fun x => nats x.l) = (Bs.map WV.l).map nats by rw [List.map_map]; rfl, hS] at h1
        refine h1.mono ?_
        rintro e W' ⟨v, rfl, hrw⟩
        obtain ⟨P, F', q1, q2, q3, q4, q5, q6⟩ := hrw.post
        exact ⟨v, P, F', rfl, q1, q2, q3, q4, q5, q6⟩
      clear hok hcc hS hA hB hWA hWB
      have HL := Lib.hid hL; clear hL
      have HAR := Lib.hid hAr; clear hAr
      have HCHK := Lib.hid hchk; clear hchk
      have HBU := Lib.hid hbuild; clear hbuild
      have H := Lib.hid h; clear h
      have HWW := Lib.hid hWW; clear hWW
      have hn0 : ((G.nodes.length : Int) == 0) = false := beqN (by omega)
      go_enter Try.func28, Try.ntmps28
      go_upto_region 1 with fail
      refine wp_named fun W0 hW0 => ?_
      have hc0 : Ch [] w W0 := by rw [hW0]; exact (((Ch.refl _ _).alloc _).alloc _).alloc _
      have hb0 : blk W0 w.heap.size [.pointer (some ⟨g, 0, none⟩)] := by rw [hW0]; exact ((blk.new' _ _ (by simp)).alloc _).alloc _
      have hb1 : blk W0 (w.heap.size + 1) [.slice (some ⟨la', 0, none⟩) nl ac] := by rw [hW0]; exact (blk.new' _ _ (by simp)).alloc _
      have hb2 : blk W0 (w.heap.size + 2) [.slice (some ⟨lb', 0, none⟩) nl bc] := by rw [hW0]; exact blk.new' _ _ (by simp)
      have d0 := hb0.cell (i := 0) rfl
      have d1 := hb1.cell (i := 0) rfl
      have d2 := hb2.cell (i := 0) rfl
      have l0 := hb0.lt
      have l1 := hb1.lt
      have l2 := hb2.lt
      clear hW0
      have hLL := HL.out W0 hc0
      have HC0 := Lib.hid hc0; clear hc0
      have HB0 := Lib.hid hb0; clear hb0
      have HB1 := Lib.hid hb1; clear hb1
      have HB2 := Lib.hid hb2; clear hb2
      go_wp2_with fail
      refine hLL.mono ?_
      rintro e w' ⟨rfl, rfl⟩
      clear hLL
      go_wp2_with fail
      refine (HAR.out _).mono ?_
      rintro e w' ⟨rfl, rfl⟩
      go_wp2_with fail
      refine calls_named fun W1 hW1 => ?_
      have hc1 := alw_ch hW1
      have e1 := alw_blk (xs := [.slice (some ⟨la', 0, none⟩) nl ac, .slice (some ⟨lb', 0, none⟩) nl bc]) hW1
      clear hW1
      refine (HCHK.out W1 _ (HC0.out.trans hc1 (by simp)) e1).mono ?_
      rintro e w2 ⟨rfl, hc2⟩
      have hc02 := hc1.trans hc2 (by simp)
      have HC2 := Lib.hid (HC0.out.trans hc02 (by simp))
      have hb0' := HB0.out.ch hc02 (by simp)
      have d0' := hb0'.cell (i := 0) rfl
      have HB0' := Lib.hid hb0'; clear hb0'
      have HB1' := Lib.hid (HB1.out.ch hc02 (by simp))
      have HB2' := Lib.hid (HB2.out.ch hc02 (by simp))
      clear e1 hc1 hc2 hc02 d0 d1 d2 HB0 HB1 HB2 HCHK
      by_cases hz : cc = 0
      · have hBB := HBU.out hz w2 HC2.out HB0'.out HB1'.out HB2'.out
        have hww := HWW.out
        rw [if_neg (by simp [hz])] at hww
        subst hz
        have HBB := Lib.hid hBB; clear hBB HBU
        have HW2 := Lib.hid hww; clear hww
        go_wp2_with fail
        refine HBB.out.mono ?_
        rintro e w3 ⟨v, rfl, hmb⟩
        obtain ⟨rfl, hgt⟩ := MB.gto HC2.out hmb
        rw [HW2.out] at hgt ⊢
        have HGT := Lib.hid hgt; clear hgt hmb
        go_wp2_with fail
        go_ret2
        exact ⟨by rw [← HW2.out, rres_e]; rfl, HGT.out⟩
      · have hq : ((cc : Int) != 0) = true := by simp; omega
        have hww := HWW.out
        rw [if_pos hz] at hww
        have HW2 := Lib.hid hww; clear hww
        have HZ := Lib.hid hz; clear hz
        go_wp2_with fail
        go_ret2
        exact ⟨by rw [← HW2.out]; rfl, by rw [← HW2.out]; exact GTo.same H.out HC2.out⟩
end
end Go.Proofs.Ytdmmanfjafempaa
namespace Go.Aig
/-- a write at one index: the choice of the one or the other word -/
def writeS (c : Nat) (x : List Nat) (L : List (List Nat)) (y : List Nat) (n : Nat) (q : Mk × List (List Nat)) (i : Nat) : Mk × List (List Nat) :=
  let a := rstep (isR q.1 y n i).1 (and (isR q.1 y n i).1.1 c (isR q.1 y n i).2)
  let z := chF a.2 a.1 (x.zip (L.getD i []))
  (z.1, q.2.set i z.2)
def writeF (G : Gra) (c : Nat) (x : List Nat) (L : List (List Nat)) (y : List Nat) (n k : Nat) : Mk × List (List Nat) := (List.range k).foldl (writeS c x L y n) ((G, 0), L)
theorem writeF_succ (G : Gra) (c : Nat) (x : List Nat) (L : List (List Nat)) (y : List Nat) (n k : Nat) : writeF G c x L y n (k + 1) = writeS c x L y n (writeF G c x L y n k) k := by
  unfold writeF; rw [List.range_succ, List.foldl_append]; rfl
theorem writeS_bad {c : Nat} {x : List Nat} {L : List (List Nat)} {y : List Nat} {n : Nat} {q : Mk × List (List Nat)} {i : Nat} (h : (isR q.1 y n i).1.2 ≠ 0) : (writeS c x L y n q i).1 = (isR q.1 y n i).1 := by
  have e : (rstep (isR q.1 y n i).1 (and (isR q.1 y n i).1.1 c (isR q.1 y n i).2)).1 = (isR q.1 y n i).1 := by rw [rstep_bad h]
  show (chF _ (rstep (isR q.1 y n i).1 (and (isR q.1 y n i).1.1 c (isR q.1 y n i).2)).1 _).1 = _
  rw [chF_bad0 (by rw [e]; exact h), e]
theorem writeF_bad {G : Gra} {c : Nat} {x : List Nat} {L : List (List Nat)} {y : List Nat} {n k : Nat} (h : (isR (writeF G c x L y n k).1 y n k).1.2 ≠ 0) : ∀ j, k < j → (writeF G c x L y n j).1 = (isR (writeF G c x L y n k).1 y n k).1 := by
  intro j hj
  induction j with
  | zero => omega
  | succ j ih =>
    rw [writeF_succ]
    by_cases e : j = k
    · subst e; exact writeS_bad h
    · have h1 := ih (by omega)
      have h2 : (isR (writeF G c x L y n j).1 y n j).1 = (isR (writeF G c x L y n k).1 y n k).1 := by rw [h1, isR_bad h]
      rw [writeS_bad (by rw [h2]; exact h), h2]
end Go.Aig
namespace Go.Proofs.Ytdmmanfjafempaa
open Go.RowKit Go.Mem Go.Aig
/-- what is known between two rounds: W0 is the world at the loop's start, ab the array that is made -/
structure WI (W0 : World) (lo g m : Nat) (G : Gra) (F : List Nat) (ab nl cap width : Nat) (R : Mk) (outs : List (List Nat)) (W : World) (vs : List Value) (P : Mk) (ls : List (List Nat)) (F' : List Nat) : Prop where
  sim : Sim G P R
  out : R.2 = 0 → ls = outs
  mem : MIn W g m P F'
  ch : Ch (m :: ab :: F) W0 W
  own : ∀ k ∈ F', k ∈ F ∨ W0.heap.size + 2 ≤ k
  map : F'[2]? = F[2]?
  arr : row W 38 1 (.slice (some ⟨ab, 0, none⟩) nl cap) nl vs
  len : ls.length = nl
  words : ∀ (i : Nat) (v : Value), vs[i]? = some v → ∃ l, ls[i]? = some l ∧ l.length = width ∧ (∀ r ∈ l, r < 2 * P.1.nodes.length) ∧ row W 39 1 v width (refsCells l) ∧ ∀ k, v.ownBlock = some k → lo ≤ k ∧ k ∉ m :: ab :: F' ∧ k ≠ W0.heap.size ∧ k ≠ W0.heap.size + 1
section
variable {W0 : World} {lo g m : Nat} {G : Gra} {F : List Nat} {ab nl cap width : Nat} {R : Mk} {outs : List (List Nat)} {W A A' : World} {vs : List Value} {P : Mk} {ls : List (List Nat)} {F' : List Nat}
theorem WI.abF (h : WI W0 lo g m G F ab nl cap width R outs W vs P ls F') (e : FR W0 m F ab) : ab ∉ m :: F' := fun hin => by
  have := e.lt
  simp only [List.mem_cons] at hin
  rcases hin with hin | hin
  · exact e.obm hin
  · rcases h.own _ hin with h1 | h1
    · exact e.obF h1
    · omega
theorem WI.noB (h : WI W0 lo g m G F ab nl cap width R outs W vs P ls F') (e : FR W0 m F ab) : ∀ q ∈ m :: F', q ≠ W0.heap.size ∧ q ≠ W0.heap.size + 1 := fun q hq => by
  simp only [List.mem_cons] at hq
  rcases hq with rfl | hq
  · have := e.low q (by simp); omega
  · rcases h.own _ hq with h1 | h1
    · have := e.low q (by simp [h1]); omega
    · omega
theorem WI.same (h : WI W0 lo g m G F ab nl cap width R outs A vs P ls F') (e : FR W0 m F ab) (hc : Ch [W0.heap.size, W0.heap.size + 1] A A') : WI W0 lo g m G F ab nl cap width R outs A' vs P ls F' := by
  have ho := e.lt
  have hs := h.noB e
  refine ⟨h.sim, h.out, h.mem.same hc (fun k hk => by have := hs k hk; simp; omega), h.ch.trans hc (by intro k hk; simp at hk; omega), h.own, h.map, h.arr.ch hc (fun k hk => by cases hk; show ab ∉ _; simp; omega), h.len, fun i v hv => ?_⟩
  obtain ⟨l, h1, h2, h3, h4, h5⟩ := h.words i v hv
  exact ⟨l, h1, h2, h3, h4.ch hc (fun k hk => by have := (h5 k hk).2.2; simp; omega), h5⟩
theorem WI.cell (h : WI W0 lo g m G F ab nl cap width R outs W vs P ls F') {b i : Nat} {x : Value} (hx : W0.cell? ⟨b, i, none⟩ = some x) (hb : b ∉ m :: ab :: F) : W.cell? ⟨b, i, none⟩ = some x := (h.ch.cell (cell_lt hx) hb).trans hx
theorem WI.word (h : WI W0 lo g m G F ab nl cap width R outs W vs P ls F') {x : WV} (hx : WVin W0 (m :: ab :: F) x) : WVin W F' x ∧ ∀ k ∈ ablk x.a, k ∉ m :: F' ∧ k < W.heap.size := by
  have hz := h.ch.size
  have key : ∀ k ∈ ablk x.a, k ∉ m :: F' ∧ k < W.heap.size := fun k hk => by
    obtain ⟨h1, h2⟩ := hx.apart k hk
    simp only [List.mem_cons, not_or] at h1
    refine ⟨?_, by omega⟩
    simp only [List.mem_cons, not_or]
    exact ⟨h1.1, fun hin => (h.own k hin).elim h1.2.2 (fun e => by omega)⟩
  exact ⟨⟨hx.ok.ch h.ch (fun p hp => (hx.apart p.block (ablk_of hp)).1), fun k hk => ⟨fun hin => (key k hk).1 (by simp [hin]), (key k hk).2⟩⟩, key⟩
/-- the maker works -/
theorem WI.to (h : WI W0 lo g m G F ab nl cap width R outs W vs P ls F') (e : FR W0 m F ab) (hB : W0.heap.size + 2 ≤ W.heap.size) {P' R' : Mk} {W' : World} (ht : MTo W g m P' F' W') (hs : Sim G P' R') (hx : Ext P.1 P'.1) (hb : R.2 ≠ 0 → R'.2 ≠ 0) : ∃ F1, WI W0 lo g m G F ab nl cap width R' outs W' vs P' ls F1 := by
  obtain ⟨F1, h1, h2, h3, h4⟩ := ht
  have ho := e.lt
  have hz := h.ch.size
  refine ⟨F1, hs, fun h0 => h.out (by by_cases h9 : R.2 = 0; exact h9; exact absurd h0 (hb h9)), h1, h.ch.trans h2 (fun k hk => ?_), fun k hk => ?_, h4.trans h.map, h.arr.ch h2 (fun k hk => by cases hk; exact h.abF e), h.len, fun i v hv => ?_⟩
  · simp only [List.mem_cons] at hk ⊢
    rcases hk with hk | hk
    · exact .inl (.inl hk)
    · rcases h.own k hk with h5 | h5
      · exact .inl (.inr (.inr h5))
      · exact .inr (by omega)
  · rcases h3 k hk with h5 | h5
    · exact h.own k h5
    · exact .inr (by omega)
  · obtain ⟨l, w1, w2, w3, w4, w5⟩ := h.words i v hv
    refine ⟨l, w1, w2, fun r hr => hx.lt (w3 r hr), w4.ch h2 (fun k hk => ?_), fun k hk => ?_⟩
    · have := (w5 k hk).2.1
      simp only [List.mem_cons, not_or] at this ⊢
      exact ⟨this.1, this.2.2⟩
    · obtain ⟨f1, f2, f3⟩ := w5 k hk
      refine ⟨f1, ?_, f3⟩
      simp only [List.mem_cons, not_or] at f2 ⊢
      refine ⟨f2.1, f2.2.1, fun hin => (h3 k hin).elim f2.2.2 (fun h5 => ?_)⟩
      have := (w4.lt k hk).2
      omega
/-- a word is made, and put into the array -/
theorem WI.put (h : WI W0 lo g m G F ab nl cap width R outs W vs P ls F') (e : FR W0 m F ab) (hB : W0.heap.size + 2 ≤ W.heap.size) (hlo : lo ≤ W0.heap.size) {S : Mk × List Nat} {va : Option Addr} {vc : Nat} {w1 : World} (hc : CH W g m G P F' S width (.slice va width vc) w1) {i : Nat} (hi : i < nl) (hR : S.1.2 = 0 → R.2 = 0) :
    ∃ P1 ls1 F1, WI W0 lo g m G F ab nl cap width S.1 (outs.set i S.2) (w1.setCell ⟨ab, i, none⟩ (.slice va width vc)) (vs.set i (.slice va width vc)) P1 ls1 F1 ∧ Books W0.heap.size W (w1.setCell ⟨ab, i, none⟩ (.slice va width vc)) := by
  obtain ⟨P1, l1, hs, ho1, hl, hall, hx, F1, hm, hc1, hF1, hmap, hrow, hfr⟩ := hc
  have hob := e.lt
  have hz := h.ch.size
  have hnB := h.noB e
  rw [hl] at hrow
  have hcs : Ch [ab] w1 (w1.setCell ⟨ab, i, none⟩ (.slice va width vc)) := (Ch.refl _ _).setCell (by simp) _
  have hoF1 : ab ∉ m :: F1 := fun hin => by
    have h9 := h.abF e
    simp only [List.mem_cons, not_or] at hin h9
    rcases hin with hin | hin
    · exact h9.1 hin
    · rcases hF1 _ hin with h5 | h5
      · exact h9.2 h5
      · omega
  have harr := h.arr.ch hc1 (fun k hk => by cases hk; have h9 := h.abF e; simpa using h9)
  refine ⟨P1, ls.set i l1, F1, ⟨hs, fun h0 => by rw [ho1 h0, h.out (hR h0)], hm.same hcs (fun k hk => ?_), (h.ch.trans hc1 (fun k hk => ?_)).trans hcs (by simp), fun k hk => ?_, hmap.trans h.map, row.set harr _, by rw [List.length_set]; exact h.len, fun j v hv => ?_⟩, (Books.of_ch hc1 hB (fun k hk => hnB k (by simpa using hk))).trans (Books.of_ch hcs (by have := hc1.size; omega) (by simp; omega))⟩
  · intro hk2
    rw [List.mem_singleton.1 hk2] at hk
    exact hoF1 hk
  · simp only [List.nil_append, List.mem_cons] at hk ⊢
    rcases hk with hk | hk
    · exact .inl (.inl hk)
    · rcases h.own k hk with h5 | h5
      · exact .inl (.inr (.inr h5))
      · exact .inr (by omega)
  · rcases hF1 k hk with h5 | h5
    · exact h.own k h5
    · exact .inr (by omega)
  · by_cases hji : j = i
    · subst hji
      have hvl : vs.length = nl := by have := h.arr.1; omega
      rw [List.getElem?_set_self (by omega)] at hv
      cases hv
      refine ⟨l1, List.getElem?_set_self (by rw [h.len]; exact hi), hl, hall, hrow.ch hcs (fun k hk => ?_), fun k hk => ?_⟩
      · have := hfr k hk; simp; omega
      · obtain ⟨f1, f2, f3⟩ := hfr k hk
        refine ⟨by omega, ?_, by omega, by omega⟩
        simp only [List.mem_cons, not_or]
        exact ⟨f3, by omega, f2⟩
    · rw [List.getElem?_set_ne (fun e => hji e.symm)] at hv
      obtain ⟨l, w1', w2, w3, w4, w5⟩ := h.words j v hv
      refine ⟨l, by rw [List.getElem?_set_ne (fun e => hji e.symm)]; exact w1', w2, fun r hr => hx.lt (w3 r hr), (w4.ch hc1 (fun k hk => ?_)).ch hcs (fun k hk => ?_), fun k hk => ?_⟩
      · have := (w5 k hk).2.1
        simp only [List.mem_cons, not_or, List.nil_append] at this ⊢
        exact ⟨this.1, this.2.2⟩
      · have := (w5 k hk).2.1
        simp only [List.mem_cons, not_or] at this ⊢
        exact ⟨this.2.1, by simp⟩
      · obtain ⟨f1, f2, f3⟩ := w5 k hk
        refine ⟨f1, ?_, f3⟩
        simp only [List.mem_cons, not_or] at f2 ⊢
        refine ⟨f2.1, f2.2.1, fun hin => (hF1 k hin).elim f2.2.2 (fun h5 => ?_)⟩
        have := (w4.lt k hk).2
        omega
/-- Write's state between two rounds -/
def WT (W0 : World) (lo g m : Nat) (G : Gra) (F : List Nat) (ab nl cap width : Nat) (O : Nat → List (List Nat)) (i : Nat) (R : Mk) (W : World) (P : Mk) (F' : List Nat) : Prop := ∃ vs ls, WI W0 lo g m G F ab nl cap width R (O i) W vs P ls F'
theorem WT.ft {O : Nat → List (List Nat)} {bn b2 bm nn n yc : Nat} {ya : Option Addr} {y : List Nat} (e : FR W0 m F ab) (hy : WVin W0 (m :: ab :: F) ⟨ya, natInts y, yc⟩) (cn : W0.cell? ⟨bn, 0, none⟩ = some (.int .i64 nn)) (cy : W0.cell? ⟨b2, 0, none⟩ = some (.slice ya n yc)) (cm : W0.cell? ⟨bm, 0, none⟩ = some (.pointer (some ⟨m, 0, none⟩)))
    (hn : bn ∉ m :: ab :: F) (h2 : b2 ∉ m :: ab :: F) (hm : bm ∉ m :: ab :: F) : FT g m G (WT W0 lo g m G F ab nl cap width O) bn b2 bm nn n yc W0.heap.size ya y where
  mem := by
    rintro i R W P F' ⟨vs, ls, h⟩
    refine ⟨h.mem, h.sim, (h.word hy).1, h.cell cn hn, h.cell cy h2, h.cell cm hm, fun hin => ?_, h.noB e⟩
    have h9 := cell_lt cm
    simp only at h9
    simp only [List.mem_cons, not_or] at hin hm
    rcases hin with hin | hin
    · exact hm.1 hin
    · rcases h.own _ hin with h5 | h5
      · exact hm.2.2 h5
      · omega
  to := by
    rintro i R W P F' P' R' W' ⟨vs, ls, h⟩ hB ht hs hx hb
    obtain ⟨F1, h1⟩ := h.to e hB ht hs hx hb
    exact ⟨F1, vs, ls, h1⟩
  same := by
    rintro i R A A' P F' ⟨vs, ls, h⟩ hc
    exact ⟨vs, ls, h.same e hc⟩
end
end Go.Proofs.Ytdmmanfjafempaa
namespace Go.Proofs.Ytdmmanfjafempaa
open Go.RowKit Go.Mem Go.Aig
attribute [local go_sem] Oper.semAt_some
theorem fnvmWrite1 : Fnv 80 := fnv_of Try.func80 (by simp [Try.f80]) (by simp [Try.f80])
/-- what a closure that makes an array leaves -/
def WA1 (w : World) (g m : Nat) (G : Gra) (F : List Nat) (width : Nat) (S : Mk × List (List Nat)) (v : Value) (w' : World) : Prop :=
  ∃ P vs ls F', Sim G P S.1 ∧ (S.1.2 = 0 → ls = S.2) ∧ MIn w' g m P F' ∧ Ch (m :: F) w w' ∧ (∀ k ∈ F', k ∈ F ∨ w.heap.size ≤ k) ∧ F'[2]? = F[2]? ∧ row w' 38 1 v ls.length vs ∧ (∀ k, v.ownBlock = some k → w.heap.size ≤ k ∧ k ∉ F') ∧
    ∀ (i : Nat) (u : Value), vs[i]? = some u → ∃ l, ls[i]? = some l ∧ l.length = width ∧ (∀ r ∈ l, r < 2 * P.1.nodes.length) ∧ row w' 39 1 u width (refsCells l) ∧ ∀ k, u.ownBlock = some k → w.heap.size ≤ k ∧ k ∉ F' ∧ v.ownBlock ≠ some k
/-- the copies of the words, one after the other -/
structure CpI (w : World) (m mb ob width : Nat) (Ls : List WV) (wr : World) (v : Value) (k : Nat) (vs : List Value) : Prop where
  ch : Ch [] w wr
  bx : blk wr ob [v]
  mbx : blk wr mb [.pointer (some ⟨m, 0, none⟩)]
  arr : row wr 38 1 v k vs
  own : ∀ q, v.ownBlock = some q → w.heap.size ≤ q ∧ q ≠ ob ∧ q ≠ mb
  words : ∀ (i : Nat) (u : Value), vs[i]? = some u → ∃ x, Ls[i]? = some x ∧ row wr 39 1 u width (intCells x.l) ∧ ∀ q, u.ownBlock = some q → w.heap.size ≤ q ∧ q ≠ ob ∧ q ≠ mb ∧ v.ownBlock ≠ some q
theorem CpI.ch0 {w : World} {m mb ob width : Nat} {Ls : List WV} {wr wr' : World} {v : Value} {k : Nat} {vs : List Value} (h : CpI w m mb ob width Ls wr v k vs) (hc : Ch [] wr wr') : CpI w m mb ob width Ls wr' v k vs :=
  ⟨h.ch.trans hc (by simp), h.bx.ch hc (by simp), h.mbx.ch hc (by simp), h.arr.ch hc (by simp), h.own, fun i u hu => by
    obtain ⟨x, h1, h2, h3⟩ := h.words i u hu
    exact ⟨x, h1, h2.ch hc (by simp), h3⟩⟩
/-- a copy is appended, and the box is set -/
theorem CpI.snoc {w : World} {m mb ob width : Nat} {Ls : List WV} {wr w1 w2 : World} {v : Value} {k : Nat} {vs : List Value} (h : CpI w m mb ob width Ls wr v k vs) (hob : w.heap.size ≤ ob) (hne : ob ≠ mb) {x : WV} (hx : Ls[k]? = some x) {u : Value} {v' : Value} (hr : Ch [] wr w1)
    (hu : row w1 39 1 u width (intCells x.l)) (hown : ∀ q, u.ownBlock = some q → wr.heap.size ≤ q) (h4 : row w2 38 1 v' (k + 1) (vs ++ [u])) (hC : Ch v.ownBlock.toList w1 w2) (hf : ∀ q, v'.ownBlock = some q → v.ownBlock = some q ∨ w1.heap.size ≤ q) :
    CpI w m mb ob width Ls (w2.setCell ⟨ob, 0, none⟩ v') v' (k + 1) (vs ++ [u]) := by
  have hcs : Ch [ob] w2 (w2.setCell ⟨ob, 0, none⟩ v') := (Ch.refl _ _).setCell (by simp) _
  have hobl := h.bx.lt
  have hmbl := h.mbx.lt
  have hz := h.ch.size
  have hz1 := hr.size
  have hvk : vs.length = k := by have := h.arr.1; omega
  have hcv : ∀ q ∈ v.ownBlock.toList, w.heap.size ≤ q ∧ q ≠ ob ∧ q ≠ mb := fun q hq => h.own q (by simpa using hq)
  have hown' : ∀ q, v'.ownBlock = some q → w.heap.size ≤ q ∧ q ≠ ob ∧ q ≠ mb := fun q hq => by
    rcases hf q hq with e | e
    · exact h.own q e
    · exact ⟨by omega, by omega, by omega⟩
  refine ⟨((h.ch.trans hr (by simp)).trans hC (fun q hq => .inr (hcv q hq).1)).trans hcs (by simp; omega), ?_, ?_, h4.ch hcs (fun q hq => by have := (hown' q hq).2.1; simp; omega), hown', fun i z hz' => ?_⟩
  · have := ((h.bx.ch hr (by simp)).ch hC (fun hin => (hcv _ hin).2.1 rfl)).set (i := 0) v'
    exact this
  · exact ((h.mbx.ch hr (by simp)).ch hC (fun hin => (hcv _ hin).2.2 rfl)).ch hcs (by simp; omega)
  · by_cases hi : i < k
    · rw [List.getElem?_append_left (by omega)] at hz'
      obtain ⟨y, k1, k2, k3⟩ := h.words i z hz'
      refine ⟨y, k1, ((k2.ch hr (by simp)).ch hC (fun q hq hin => (k3 q hq).2.2.2 (by simpa using hin))).ch hcs (fun q hq => by have := (k3 q hq).2.1; simp; omega), fun q hq => ?_⟩
      obtain ⟨f1, f2, f3, f4⟩ := k3 q hq
      refine ⟨f1, f2, f3, fun e => ?_⟩
      rcases hf q e with e2 | e2
      · exact f4 e2
      · have := (k2.lt q hq).2; omega
    · have hik : i = k := by
        have := (List.getElem?_eq_some_iff.1 hz').1
        rw [List.length_append] at this
        simp at this; omega
      subst hik
      rw [List.getElem?_append_right (by omega), hvk, Nat.sub_self] at hz'
      cases hz'
      refine ⟨x, hx, (hu.ch hC (fun q hq hin => ?_)).ch hcs (fun q hq => ?_), fun q hq => ?_⟩
      · have h1 := hown q hq
        have h2 := (h.arr.lt q (by simpa using hin)).2
        omega
      · have h1 := hown q hq
        simp; omega
      · have h1 := hown q hq
        refine ⟨by omega, by omega, by omega, fun e => ?_⟩
        rcases hf q e with e2 | e2
        · have h2 := (h.arr.lt q e2).2; omega
        · have := (hu.lt q hq).2; omega
end Go.Proofs.Ytdmmanfjafempaa
namespace Go.Proofs.Ytdmmanfjafempaa
open Go.RowKit Go.Mem Go.Aig
attribute [local go_sem] Oper.semAt_some
section
variable {w : World} {g m : Nat} {G : Gra} {F : List Nat}
set_option maxRecDepth 100000 in
set_option maxHeartbeats 4000000 in
theorem mWrite1_is [Nonempty Unit] (h : MIn w g m (G, 0) F) {Ls : List WV} {lb nl lc n yc width fitv cr : Nat} {y : List Nat} {ya : Option Addr} {x : WV} (hL : WL w (m :: F) lb nl Ls) (hW : ∀ x ∈ Ls, WOf G width x.l) (hnl : 1 ≤ nl ∧ nl ≤ 256) (hw : width ≤ 16)
    (hx : WVin w (m :: F) x) (hxw : WOf G width x.l) (hcr : cr < 2 * G.nodes.length)
    (hy : WVin w (m :: F) ⟨ya, natInts y, yc⟩) (hyl : y.length = n) (h1 : 1 ≤ n) (h16 : n ≤ 16) (hyr : ∀ r ∈ y, r < 2 * G.nodes.length) (hfit : fitN nl n = fitv)
    {bl b2 bg bc bx : Nat} (hbl : w.cell? ⟨bl, 0, none⟩ = some (.slice (some ⟨lb, 0, none⟩) nl lc)) (hby : w.cell? ⟨b2, 0, none⟩ = some (.slice ya n yc)) (hbg : w.cell? ⟨bg, 0, none⟩ = some (.pointer (some ⟨g, 0, none⟩))) (hbc : w.cell? ⟨bc, 0, none⟩ = some (.int .i64 cr)) (hbx : w.cell? ⟨bx, 0, none⟩ = some (.slice x.a width x.c))
    (hblF : bl ∉ m :: F) (hbyF : b2 ∉ m :: F) (hbgF : bg ∉ m :: F) (hbcF : bc ∉ m :: F) (hbxF : bx ∉ m :: F) :
    Calls Try.prog 80 (#[.pointer (some ⟨m, 0, none⟩)] ++ #[.pointer (some ⟨bl, 0, none⟩), .pointer (some ⟨b2, 0, none⟩), .pointer (some ⟨bg, 0, none⟩), .pointer (some ⟨bc, 0, none⟩), .pointer (some ⟨bx, 0, none⟩)]) w fun e W' => ∃ v, e = .returned v ∧ WA1 w g m G F width (writeF G cr (nats x.l) (Ls.map fun x => nats x.l) y n fitv) v W' := by
  show Calls Try.prog 80 #[.pointer (some ⟨m, 0, none⟩), .pointer (some ⟨bl, 0, none⟩), .pointer (some ⟨b2, 0, none⟩), .pointer (some ⟨bg, 0, none⟩), .pointer (some ⟨bc, 0, none⟩), .pointer (some ⟨bx, 0, none⟩)] w _
  have hml := h.bk.lt
  have hFl := h.gin.lt
  have hok := h.gin.ok
  have hpos := hok.wf.pos
  have hfl : fitv ≤ nl := by rw [← hfit]; exact Nat.min_le_left _ _
  obtain ⟨LN, hLN⟩ : ∃ LN, LN = Ls.map fun x => nats x.l := ⟨_, rfl⟩
  rw [← hLN]
  have hLg : ∀ (i : Nat) (x : WV), Ls[i]? = some x → LN[i]? = some (nats x.l) := fun i x hx => by rw [hLN, List.getElem?_map, hx]; rfl
  have hLl : LN.length = nl := by rw [hLN, List.length_map]; exact hL.len
  have H := Lib.hid h; clear h
  have HL := Lib.hid hL; clear hL
  have HW := Lib.hid hW; clear hW
  have HXW := Lib.hid hxw; clear hxw
  have HXV := Lib.hid hx; clear hx
  have HYW := Lib.hid hy; clear hy
  have HLG := Lib.hid hLg; clear hLg
  have HLL := Lib.hid hLl; clear hLl
  have hbllt := cell_lt hbl
  have hbylt := cell_lt hby
  have hbglt := cell_lt hbg
  have hbclt := cell_lt hbc
  have hbxlt := cell_lt hbx
  simp only at hbllt hbylt hbglt hbclt hbxlt
  have HBL := Lib.hid hbl
  have HBY := Lib.hid hby
  have HBG := Lib.hid hbg
  have HBC := Lib.hid hbc
  have HBX := Lib.hid hbx
  have HOK := Lib.hid hok; clear hok
  obtain ⟨RQ, hRQ⟩ : ∃ RQ : Nat → Mk × List (List Nat), ∀ k, RQ k = writeF G cr (nats x.l) LN y n k := ⟨_, fun _ => rfl⟩
  have hR0 : RQ 0 = ((G, 0), LN) := by rw [hRQ]; rfl
  have hRS : ∀ k, RQ (k + 1) = writeS cr (nats x.l) LN y n (RQ k) k := fun k => by rw [hRQ, hRQ, writeF_succ]
  have hRB : ∀ k, (isR (RQ k).1 y n k).1.2 ≠ 0 → ∀ j, k < j → (RQ j).1 = (isR (RQ k).1 y n k).1 := fun k hk j hj => by
    rw [hRQ] at hk
    rw [hRQ, hRQ]; exact writeF_bad hk j hj
  rw [← hRQ]
  have HR0 := Lib.hid hR0; clear hR0
  have HRS := Lib.hid hRS; clear hRS
  have HRB := Lib.hid hRB; clear hRB
  clear hLN hRQ
  refine (callsIn_wide (n := 4)).1 ?_
  refine callsIn_of_wp_marks Try.func80 rfl trivial ?_ rfl
  simp only [Try.ntmps80, List.size_toArray, List.length_cons, List.length_nil, Nat.reduceAdd, Nat.reduceSub, Array.replicate_succ, Array.replicate_zero, List.push_toArray, List.append_toArray, List.nil_append, List.cons_append]
  refine wpIn_wide.2 ?_
  go_upto_region 2 with fail
  refine wp_named fun W1 hW1 => ?_
  have hc1 : Ch [] w W1 := by rw [hW1]; exact ((Ch.refl _ _).alloc _).alloc _
  have hbm : blk W1 w.heap.size [.pointer (some ⟨m, 0, none⟩)] := by rw [hW1]; exact (blk.new' _ _ (by simp)).alloc _
  have hbo : blk W1 (w.heap.size + 1) [.slice none 0 0] := by rw [hW1]; exact blk.new' _ _ (by simp)
  clear hW1
  have c_l := (hc1.cell (cell_lt hbl) (by simp)).trans hbl
  have hcp : CpI w m w.heap.size (w.heap.size + 1) width Ls W1 (.slice none 0 0) 0 [] := ⟨hc1, hbo, hbm, ⟨rfl, .inl ⟨rfl, rfl⟩⟩, by simp [Value.ownBlock], by simp⟩
  generalize hob : w.heap.size + 1 = ob at *
  have hob1 : w.heap.size < ob := by omega
  clear hob hbo hbm hbl hby hbg hbc hbx
  have HC1 := Lib.hid hc1; clear hc1
  have HCP := Lib.hid hcp; clear hcp
  go_wp2_with fail
  clear c_l
  go_loopw [17] (fun i wr => ∃ (k : Nat) (v : Value) (vs : List Value), k ≤ nl ∧ i = .int .i64 k ∧ CpI w m w.heap.size ob width Ls wr v k vs) (fun i _ => nl - (intOf i).toNat)
  case atStart => exact ⟨0, _, [], Nat.zero_le _, rfl, HCP.out⟩
  case round =>
    clear HCP
    obtain ⟨k, v, vs, hk, rfl, hcp⟩ := hrel
    obtain ⟨oa, oc, rfl⟩ := row.shape hcp.arr
    by_cases hlt : k < nl
    · obtain ⟨z, hz⟩ : ∃ z, Ls[k]? = some z := ⟨_, List.getElem?_eq_getElem (by rw [HL.out.len]; exact hlt)⟩
      have hzm := List.mem_of_getElem? hz
      have hzw := HW.out z hzm
      have c_z := (hcp.ch.cell (cell_lt (HL.out.cells k z hz)) (by simp)).trans (HL.out.cells k z hz)
      have hcl := fun (W : World) (hW : Ch [] wr W) => Clref_w ((HL.out.words z hzm).ok.ch (hcp.ch.trans hW (by simp)) (by simp)) width hzw.len
      have hil : (intCells z.l).length = width := by rw [show (intCells z.l).length = z.l.length by simp [intCells]]; exact hzw.len
      unfold WV.val at c_z
      rw [hzw.len] at c_z
      have hbo := hcp.bx
      have hobl := hbo.lt
      have HCL := Lib.hid hcl; clear hcl
      have HCP := Lib.hid hcp; clear hcp
      have HZ := Lib.hid hz; clear hz
      clear hzm hzw
      obtain ⟨za, zl, zc⟩ := z
      simp only at c_z hil HZ HCL
      have HIL := Lib.hid hil; clear hil
      go_wp2_with fail
      refine Ord.St.door (fun w' => w'.cell? ⟨ob, 0, none⟩ = some (.slice oa k oc)) [.ho, .fl, .ef, .ef, .ef, .ef] [0, 0, 2, 6, 15, 31] [0, 1, 2, 3, 4, 5] mixed (by kernel_rfl) rfl ?_
      obtain ⟨Wc, hWc⟩ : ∃ Wc, Wc = wr.drew := ⟨_, rfl⟩
      rw [← hWc]
      have hcur : Ch [] wr Wc := by rw [hWc]; exact (Ch.refl _ _).drew
      clear hWc
      replace hbo := hbo.ch hcur (by simp)
      have HCC := Lib.hid (HCL.out Wc hcur)
      have HCUR := Lib.hid hcur; clear hcur HCL
      refine Ord.St.ho2 (T' := ?_) 0 [1, 2, 3, 4, 5] _ _ rfl (by kernel_rfl) rfl rfl rfl rfl ?_ (fun K w' hw' hk => ?_) ?_
      rotate_left
      · exact hbo.cell rfl
      · have q1 := hw'; go_step; exact hk
      refine Ord.St.fl2 (T' := ?_) 1 [2, 3, 4, 5] _ _ rfl (by kernel_rfl) rfl rfl rfl rfl (fun K w' hk => ?_) ?_
      rotate_left
      · go_step; exact hk
      refine Ord.St.efC 2 [3, 4, 5] _ rfl (by kernel_rfl) (fun K hK => ?_)
      go_wp2_with fail
      refine HCC.out.mono ?_
      rintro e w1 ⟨u, rfl, hru, hou, hcu⟩
      rw [HIL.out] at hru
      obtain ⟨ua, uc, rfl⟩ := row.shape hru
      replace hbo := hbo.ch hcu (by simp)
      have hnb : blk (w1.alloc (.cells #[.slice ua width uc] 38)) w1.heap.size [.slice ua width uc] := blk.new' _ _ rfl
      have hcA : Ch [] wr (w1.alloc (.cells #[.slice ua width uc] 38)) := (HCUR.out.trans hcu (by simp)).alloc _
      have harrA := HCP.out.arr.ch hcA (by simp)
      have hruA := hru.ch ((Ch.refl [] w1).alloc (.cells #[.slice ua width uc] 38)) (by simp)
      have HNB := Lib.hid hnb; clear hnb
      have HARR := Lib.hid harrA; clear harrA
      have HRUA := Lib.hid hruA; clear hruA hru
      have HCA := Lib.hid hcA; clear hcA
      have HOU := Lib.hid hou; clear hou
      have HCU := Lib.hid hcu; clear hcu HCC
      go_wp2_with fail
      refine ⟨rfl, hK _ _ ?_ ?_⟩
      · exact hbo.cell rfl
      clear hK K
      refine Ord.St.efC 3 [4, 5] _ rfl (by kernel_rfl) (fun K hK => ?_)
      go_wp2_with fail
      replace hbo := hbo.alloc (.cells #[.slice ua width uc] 38)
      refine ⟨rfl, hK _ _ ?_ ?_⟩
      · exact hbo.cell rfl
      clear hK K
      refine Ord.St.ef 4 [5] _ rfl (by kernel_rfl) (fun K hK => ?_)
      go_wp2_with (at_builtin; go_loud (refine wpList_append_row slRows rfl _ _ rfl (v := .slice oa k oc) (n := k) (xs := vs) rfl HARR.out (ad := ⟨w1.heap.size, 0, none⟩) (m := 1) (c := 1) (news := [.slice ua width uc]) rfl rfl (news_blk HNB.out) (by simp [Value.oneCell']) (by omega) (by omega) ?_; intro v' w4 hown4 hC4 hf4; obtain ⟨gb, gc, rfl⟩ := row.parts hown4 (by omega); have HO4 := Lib.hid hown4; clear hown4; have HC4 := Lib.hid hC4; clear hC4; have HF4 := Lib.hid hf4; clear hf4))
      replace hbo := hbo.ch HC4.out (fun hk => (HCP.out.own _ (by simpa using hk)).2.1 rfl)
      have k1 := hbo.cell (i := 0) rfl
      have k2 := hbo.frozen (i := 0)
      refine ⟨rfl, hK _ _ ?_⟩; clear hK K
      refine Ord.St.ef 5 [] _ rfl (by kernel_rfl) (fun K hK => ?_)
      go_wp2_with fail
      refine ⟨rfl, hK _ _ ?_⟩; clear hK K
      refine Ord.St.nil ?_
      go_wp2_with fail
      go_roundw
      case rel =>
        have hsn := HCP.out.snoc (by omega) (by omega) HZ.out HCA.out HRUA.out (fun q hq => Nat.le_trans HCUR.out.size (HOU.out q (by simpa using hq))) HO4.out HC4.out HF4.out
        exact ⟨k + 1, _, _, by omega, by go_num, hsn⟩
      case measure => simp [intOf]; omega
    · have hkn : k = nl := by omega
      obtain ⟨ab, acap, e⟩ := hcp.arr.parts (by omega)
      cases e
      rw [hkn] at hcp ⊢
      clear hkn hk
      have c_l := (hcp.ch.cell (cell_lt HBL.out) (by simp)).trans HBL.out
      have c_y := (hcp.ch.cell (cell_lt HBY.out) (by simp)).trans HBY.out
      have c_m := hcp.mbx.cell (i := 0) rfl
      have HCP := Lib.hid hcp; clear hcp
      go_wp2_with fail
      refine (mfitting_is (m := m) nl ya n yc).mono ?_
      rintro e W0 ⟨rfl, hW0⟩
      have hc0 : Ch [] wr W0 := by rw [hW0]; exact (((Ch.refl _ _).alloc _).alloc _).alloc _
      have hbm0 : blk W0 wr.heap.size [.pointer (some ⟨m, 0, none⟩)] := by rw [hW0]; exact ((blk.new' _ _ (by simp)).alloc _).alloc _
      have hbn0 : blk W0 (wr.heap.size + 1) [.int .i64 nl] := by rw [hW0]; exact (blk.new' _ _ (by simp)).alloc _
      have hby0 : blk W0 (wr.heap.size + 2) [.slice ya n yc] := by rw [hW0]; exact blk.new' _ _ (by simp)
      clear hW0 c_l c_y c_m
      go_wp2_with fail
      have hcw : Ch [] w W0 := HCP.out.ch.trans hc0 (by simp)
      have habo := HCP.out.own ab rfl
      have habl := (HCP.out.arr.lt ab rfl).2
      have hobl := HCP.out.bx.lt
      have hz0 := hc0.size
      have hbml := HCP.out.mbx.lt
      have key : ∀ k, k < w.heap.size → k ∉ m :: F → k ∉ m :: ab :: F := fun k hk hn => by
        simp only [List.mem_cons, not_or] at hn ⊢
        exact ⟨hn.1, by omega, hn.2⟩
      have hFR : FR W0 m F ab := ⟨fun k hk => by
        have hz := hcw.size
        simp only [List.mem_cons] at hk
        rcases hk with rfl | hk
        · omega
        · have := hFl k hk; omega, by omega, by omega, fun hin => by have := hFl _ hin; omega⟩
      have hL0 : WL W0 (m :: ab :: F) lb nl Ls := by
        have h0 := HL.out.ch hcw
        exact ⟨h0.len, h0.cells, fun x hx => ⟨(h0.words x hx).ok, fun k hk => ⟨key k ((HL.out.words x hx).apart k hk).2 ((h0.words x hx).apart k hk).1, ((h0.words x hx).apart k hk).2⟩⟩, key _ HL.out.apart.2 h0.apart.1, h0.apart.2⟩
      have hvin : ∀ {z : WV}, WVin w (m :: F) z → WVin W0 (m :: ab :: F) z := fun hz => ⟨(hz.ch hcw).ok, fun k hk => ⟨key k (hz.apart k hk).2 (hz.apart k hk).1, ((hz.ch hcw).apart k hk).2⟩⟩
      have hY0 := hvin HYW.out
      have hX0 := hvin HXV.out
      have hbl0 := (hcw.cell (cell_lt HBL.out) (by simp)).trans HBL.out
      have hbg0 := (hcw.cell (cell_lt HBG.out) (by simp)).trans HBG.out
      have hbc0 := (hcw.cell (cell_lt HBC.out) (by simp)).trans HBC.out
      have hbx0 := (hcw.cell (cell_lt HBX.out) (by simp)).trans HBX.out
      have hnin : ∀ b, w.heap.size ≤ b → b ≠ ab → b ∉ m :: ab :: F := fun b hb hne => by
        simp only [List.mem_cons, not_or]
        exact ⟨by omega, hne, fun hin => by have := hFl _ hin; omega⟩
      have hbo0 := (HCP.out.bx.ch hc0 (by simp)).cell (i := 0) rfl
      have hmb0 := (HCP.out.mbx.ch hc0 (by simp)).cell (i := 0) rfl
      have hRI0 : WT W0 w.heap.size g m G F ab nl oc width (fun i => (RQ i).2) 0 (RQ 0).1 W0 (G, 0) F := by
        rw [HR0.out]
        refine ⟨vs, LN, Sim.start HOK.out, fun _ => by show _ = (RQ 0).2; rw [HR0.out], H.out.same hcw (by simp), Ch.refl _ _, fun k hk => .inl hk, rfl, HCP.out.arr.ch hc0 (by simp), HLL.out, fun i u hu => ?_⟩
        obtain ⟨z, k1, k2, k3⟩ := HCP.out.words i u hu
        have hzw := HW.out z (List.mem_of_getElem? k1)
        refine ⟨nats z.l, HLG.out i z k1, by rw [nats_len]; exact hzw.len, hzw.lt, by rw [refs_natInts, hzw.cast]; exact k2.ch hc0 (by simp), fun k hk => ?_⟩
        obtain ⟨f1, f2, f3, f4⟩ := k3 k hk
        have f5 := (k2.lt k hk).2
        refine ⟨f1, ?_, by omega, by omega⟩
        simp only [List.mem_cons, not_or]
        exact ⟨by omega, fun e => f4 (by rw [e]; rfl), fun hin => by have := hFl _ hin; omega⟩
      have hFT := WT.ft (lo := w.heap.size) (g := g) (G := G) (nl := nl) (cap := oc) (width := width) (O := fun i => (RQ i).2) hFR hY0 (hbn0.cell (i := 0) rfl) (hby0.cell (i := 0) rfl) (hbm0.cell (i := 0) rfl) (hnin _ (by omega) (by omega)) (hnin _ (by omega) (by omega)) (hnin _ (by omega) (by omega))
      have HFR := Lib.hid hFR; clear hFR
      have HFT := Lib.hid hFT; clear hFT
      have HL0 := Lib.hid hL0; clear hL0
      have HX0 := Lib.hid hX0; clear hX0
      have HRI0 := Lib.hid hRI0; clear hRI0
      have HCW := Lib.hid hcw; clear hcw
      have HBL0 := Lib.hid hbl0; clear hbl0
      have HBG0 := Lib.hid hbg0; clear hbg0
      have HBC0 := Lib.hid hbc0; clear hbc0
      have HBX0 := Lib.hid hbx0; clear hbx0
      have HBO0 := Lib.hid hbo0; clear hbo0
      have HMB0 := Lib.hid hmb0; clear hmb0
      have hblN := key bl hbllt hblF
      have hbgN := key bg hbglt hbgF
      have hbcN := key bc hbclt hbcF
      have hbxN := key bx hbxlt hbxF
      have hobN := hnin ob (by omega) (fun e => habo.2.1 e.symm)
      have hmbN := hnin w.heap.size (Nat.le_refl _) (fun e => habo.2.2 e.symm)
      have HBLN := Lib.hid hblN; clear hblN hblF
      have HBGN := Lib.hid hbgN; clear hbgN hbgF
      have HBCN := Lib.hid hbcN; clear hbcN hbcF
      have HBXN := Lib.hid hbxN; clear hbxN hbxF
      have HOBN := Lib.hid hobN; clear hobN
      have HMBN := Lib.hid hmbN; clear hmbN
      clear hbm0 hbn0 hby0 hY0 key hvin hnin hbyF hc0
      refine (wpIn_wide (n := 4)).1 ?_
      refine wpIn_rangeFunc_Q (n := 4) W0.heap.size rfl rfl (by omega) rfl trivial (fun args w => fnvmfitting1 args w) (encs := fitEnc) (fun _ => rfl)
        (FInv (WT W0 w.heap.size g m G F ab nl oc width (fun i => (RQ i).2)) (fun i => (RQ i).1) 0)
        (FKx (WT W0 w.heap.size g m G F ab nl oc width (fun i => (RQ i).2)) (fun i => isR (RQ i).1 y n i) fitv)
        (fun x => FInv (WT W0 w.heap.size g m G F ab nl oc width (fun i => (RQ i).2)) (fun i => (RQ i).1) (x.1 + 1))
        (FInv (WT W0 w.heap.size g m G F ab nl oc width (fun i => (RQ i).2)) (fun i => (RQ i).1) fitv)
        ?seq ?j0 ?k ?j ?d ⟨_, _, HRI0.out⟩ ?a1 ?assign ?body ?done
      case assign =>
        intro q x W K hK
        simp only [fitEnc]
        gi_wp2
        exact hK
      case j0 =>
        rintro A A' ⟨P, F', h⟩ hc
        exact ⟨P, F', HFT.out.same h hc⟩
      case k =>
        rintro x A A' ⟨hx, P, F', hp, h, h2⟩ hc
        exact ⟨hx, P, F', hp, HFT.out.same h hc, h2⟩
      case j =>
        rintro x A A' ⟨P, F', h⟩ hc
        exact ⟨P, F', HFT.out.same h hc⟩
      case d =>
        rintro A A' ⟨P, F', h⟩ hc
        exact ⟨P, F', HFT.out.same h hc⟩
      case seq =>
        intro lp X hX hXB hY W hI hXW
        refine fit_seq (T := WT W0 w.heap.size g m G F ab nl oc width (fun i => (RQ i).2)) (RF := fun i => (RQ i).1) (IS := fun i => isR (RQ i).1 y n i) 3 (by omega) HFT.out hyl h1 h16 (by omega) hyr hfit (fun _ => rfl) ?_ lp X hX hXB hY W hI hXW
        rintro i hi hb W P F' ⟨vs, ls, h⟩
        have e := HRB.out i hb fitv hi
        refine ⟨vs, ls, ?_⟩
        rw [e]
        exact ⟨h.sim, fun h9 => absurd h9 hb, h.mem, h.ch, h.own, h.map, h.arr, h.len, h.words⟩
      case body =>
        rintro q ⟨i, r⟩ W ⟨hxf, P, F', hP, ⟨vs2, ls, hE⟩, hr, hrl⟩ hWl
        simp only at hxf hE hr hrl
        obtain ⟨z, hz⟩ : ∃ z, Ls[i]? = some z := ⟨_, List.getElem?_eq_getElem (by rw [HL0.out.len]; omega)⟩
        have hmem := List.mem_of_getElem? hz
        have hzo := HW.out z hmem
        have hlg := HLG.out i z hz
        have hzc0 := HL0.out.cells i z hz
        have hzv := HL0.out.words z hmem
        have hcrl : cr < 2 * P.1.nodes.length := hE.sim.ext.lt hcr
        have hst := hE.sim.step (and_full hE.mem.gin.ok hcrl hrl) (Y := and (isR (RQ i).1 y n i).1.1 cr r) (fun _ e => by rw [e])
        have hAND := And_g hE.mem.gin cr r (by have := hE.mem.gin.ok.small; omega) (by have := hE.mem.gin.ok.small; omega)
        rw [doAnd_r hcrl hrl] at hAND
        obtain ⟨X, hX⟩ : ∃ X, and P.1 cr r = X := ⟨_, rfl⟩
        rw [hX] at hst hAND
        have hSQ : RQ (i + 1) = ((chF (rstep (isR (RQ i).1 y n i).1 (and (isR (RQ i).1 y n i).1.1 cr r)).2 (rstep (isR (RQ i).1 y n i).1 (and (isR (RQ i).1 y n i).1.1 cr r)).1 ((nats x.l).zip (nats z.l))).1, (RQ i).2.set i (chF (rstep (isR (RQ i).1 y n i).1 (and (isR (RQ i).1 y n i).1.1 cr r)).2 (rstep (isR (RQ i).1 y n i).1 (and (isR (RQ i).1 y n i).1.1 cr r)).1 ((nats x.l).zip (nats z.l))).2) := by
          rw [HRS.out]
          unfold writeS
          rw [← hr, show LN.getD i [] = nats z.l by rw [List.getD_eq_getElem?_getD, hlg]; rfl]
        obtain ⟨R2, hR2⟩ : ∃ R2, rstep (isR (RQ i).1 y n i).1 (and (isR (RQ i).1 y n i).1.1 cr r) = R2 := ⟨_, rfl⟩
        rw [hR2] at hst hSQ
        have hil : i < nl := by omega
        have hkeep : ∀ {b j : Nat} {v : Value}, W0.cell? ⟨b, j, none⟩ = some v → b ∉ m :: ab :: F → ∀ W', Ch (m :: F') W W' → W'.cell? ⟨b, j, none⟩ = some v := fun {b j v} hv hb W' hW' => by
          have h8 := hE.cell hv hb
          refine (hW'.cell (cell_lt h8) ?_).trans h8
          simp only [List.mem_cons, not_or] at hb ⊢
          refine ⟨hb.1, fun hin => (hE.own _ hin).elim hb.2.2 (fun e => ?_)⟩
          have := cell_lt hv
          simp only at this
          omega
        have hb0 := hE.mem.bk
        have hchoose : ∀ (W6 : World) (P6 : Mk) (F6 : List Nat), WI W0 w.heap.size g m G F ab nl oc width R2.1 (RQ i).2 W6 vs2 P6 ls F6 → P6 = (mput P X).1 → Calls Try.prog 78 #[.pointer (some ⟨m, 0, none⟩), .int .i64 X.2.1, .slice x.a width x.c, .slice z.a width z.c] W6 fun e w' => ∃ v, e = .returned v ∧ CH W6 g m G P6 F6 (chF R2.2 R2.1 ((nats x.l).zip (nats z.l))) width v w' := fun W6 P6 F6 hE6 hP6 => by
          obtain ⟨a1, a2⟩ := hE6.word HX0.out
          obtain ⟨b1, b2⟩ := hE6.word hzv
          have hcl : X.2.1 < 2 * P6.1.nodes.length := by rw [hP6]; exact hst.2.1
          refine (mchoose_is hE6.mem hE6.sim hcl (x := nats x.l) (y := nats z.l) width x.c z.c (by rw [nats_len]; exact HXW.out.len) (by rw [nats_len]; exact hzo.len) (by omega) (by rw [show ((nats x.l).map fun (r : Nat) => (r : Int)) = x.l from HXW.out.cast]; exact a1.ok.sl) (by rw [show ((nats z.l).map fun (r : Nat) => (r : Int)) = z.l from hzo.cast]; exact b1.ok.sl) a2 b2 (fun q hq => hE6.sim.ext.lt (HXW.out.lt q hq)) (fun q hq => hE6.sim.ext.lt (hzo.lt q hq))).mono ?_
          rintro e w' ⟨v, rfl, hch⟩
          refine ⟨v, rfl, hch.cong ?_ ?_⟩
          · by_cases h0 : R2.1.2 = 0
            · rw [show X.2.1 = R2.2 from hst.2.2.2.1 h0]
            · rw [chF_bad0 h0, chF_bad0 h0]
          · intro h9
            by_cases h0 : R2.1.2 = 0
            · rw [show X.2.1 = R2.2 from hst.2.2.2.1 h0]
            · rw [chF_bad0 h0] at h9; exact absurd h9 h0
        have hSR : (chF R2.2 R2.1 ((nats x.l).zip (nats z.l))).1.2 = 0 → R2.1.2 = 0 := fun h9 => by
          by_cases h0 : R2.1.2 = 0
          · exact h0
          · rw [chF_bad0 h0] at h9; exact absurd h9 h0
        obtain ⟨S, hS⟩ : ∃ S, chF R2.2 R2.1 ((nats x.l).zip (nats z.l)) = S := ⟨_, rfl⟩
        rw [hS] at hSQ hSR
        simp only [hS] at hchoose
        have c_g := hE.cell HBG0.out HBGN.out
        have c_c := hE.cell HBC0.out HBCN.out
        unfold WV.val at hzc0
        rw [hzo.len] at hzc0
        have hlbN := HL0.out.apart.1
        have hvl : vs2.length = nl := by have := hE.arr.1; omega
        have HE := Lib.hid hE; clear hE
        have HST := Lib.hid hst; clear hst
        have HAND := Lib.hid hAND; clear hAND
        have HSQ := Lib.hid hSQ; clear hSQ
        have HKEEP := Lib.hid (fun b j v => @hkeep b j v); clear hkeep
        have HCHO := Lib.hid hchoose; clear hchoose
        have HSR := Lib.hid hSR; clear hSR
        have HZC := Lib.hid hzc0; clear hzc0
        have HLBN := Lib.hid hlbN; clear hlbN
        have HB0 := Lib.hid hb0; clear hb0
        clear hz hmem hzo hlg hzv hX hR2 hS hr hP hcrl hrl
        obtain ⟨za, zl, zc⟩ := z
        obtain ⟨xa, xl, xc⟩ := x
        simp only at HZC HCHO
        gi_wp2
        refine ⟨trivial, (CallsIn.inRound q ((callsIn_wide (n := _)).2 HAND.out)).mono ?_⟩
        rintro e w1 ⟨rfl, hto⟩
        have hc1 := hto.choose_spec.2.1
        have hc1m : Ch (m :: F') W w1 := hc1.mono (fun k hk => .inl (by simp [hk]))
        have HTO := Lib.hid hto; clear hto
        have hb1 := HB0.out.ch hc1 HE.out.mem.apart
        have HC1M := Lib.hid hc1m; clear hc1m hc1 HAND c_g c_c
        have HB1 := Lib.hid hb1; clear hb1
        gi_wp2
        refine Ord.St.doorR (fun w' => w'.cell? ⟨ob, 0, none⟩ = some (.slice (some ⟨ab, 0, none⟩) nl oc) ∧ w'.cell? ⟨w.heap.size, 0, none⟩ = some (.pointer (some ⟨m, 0, none⟩)) ∧ w'.cell? ⟨bx, 0, none⟩ = some (.slice xa width xc) ∧ w'.cell? ⟨bl, 0, none⟩ = some (.slice (some ⟨lb, 0, none⟩) nl lc) ∧ w'.cell? ⟨lb, i, none⟩ = some (.slice za width zc)) [.ho, .fl, .ho, .rd, .fl, .fl, .ef, .ho, .ho, .fl, .fl, .ho, .ef, .fl, .ef] [0, 0, 0, 0, 0, 0, 56, 0, 0, 0, 768, 1792, 4092, 8191, 16383] [0, 1, 2, 3, 4, 5, 6, 7, 8, 9, 10, 11, 12, 13, 14] mixed (by kernel_rfl) (by kernel_rfl) rfl ?_
        obtain ⟨Wc, hWc⟩ : ∃ Wc, Wc = w1.drew := ⟨_, rfl⟩
        rw [← hWc]
        have hcur : Ch [] w1 Wc := by rw [hWc]; exact (Ch.refl _ _).drew
        clear hWc
        have hcc : Ch (m :: F') W Wc := HC1M.out.trans hcur (by simp)
        have c_h := HKEEP.out _ _ _ HBO0.out HOBN.out Wc hcc
        have c_m := HKEEP.out _ _ _ HMB0.out HMBN.out Wc hcc
        have c_x := HKEEP.out _ _ _ HBX0.out HBXN.out Wc hcc
        have c_l := HKEEP.out _ _ _ HBL0.out HBLN.out Wc hcc
        have c_z := HKEEP.out _ _ _ HZC.out HLBN.out Wc hcc
        have HNT := Lib.hid (mnote_is (HB1.out.ch hcur (by simp)) X.2.1 X.2.2)
        have HCUR := Lib.hid hcur; clear hcur hcc HB1
        refine Ord.St.ho2 (T' := ?_) 0 [1, 2, 3, 4, 5, 6, 7, 8, 9, 10, 11, 12, 13, 14] _ _ rfl (by kernel_rfl) rfl rfl rfl rfl ?_ (fun K w' hw' hk => ?_) ?_
        rotate_left
        · exact ⟨c_h, c_m, c_x, c_l, c_z⟩
        · obtain ⟨q1, q2, q3, q4, q5⟩ := hw'; go_step; exact hk
        refine Ord.St.fl2 (T' := ?_) 1 [2, 3, 4, 5, 6, 7, 8, 9, 10, 11, 12, 13, 14] _ _ rfl (by kernel_rfl) rfl rfl rfl rfl (fun K w' hk => ?_) ?_
        rotate_left
        · go_step; exact hk
        refine Ord.St.ho2 (T' := ?_) 2 [3, 4, 5, 6, 7, 8, 9, 10, 11, 12, 13, 14] _ _ rfl (by kernel_rfl) rfl rfl rfl rfl ?_ (fun K w' hw' hk => ?_) ?_
        rotate_left
        · exact ⟨c_h, c_m, c_x, c_l, c_z⟩
        · obtain ⟨q1, q2, q3, q4, q5⟩ := hw'; go_step; exact hk
        refine Ord.St.rd2 (T' := ?_) 3 [4, 5, 6, 7, 8, 9, 10, 11, 12, 13, 14] _ _ rfl (by kernel_rfl) rfl rfl rfl rfl (fun K hk => ?_) ?_
        rotate_left
        · go_step; exact hk
        refine Ord.St.fl2 (T' := ?_) 4 [5, 6, 7, 8, 9, 10, 11, 12, 13, 14] _ _ rfl (by kernel_rfl) rfl rfl rfl rfl (fun K w' hk => ?_) ?_
        rotate_left
        · go_step; exact hk
        refine Ord.St.fl2 (T' := ?_) 5 [6, 7, 8, 9, 10, 11, 12, 13, 14] _ _ rfl (by kernel_rfl) rfl rfl rfl rfl (fun K w' hk => ?_) ?_
        rotate_left
        · go_step; exact hk
        refine Ord.St.ho2 (T' := ?_) 7 [6, 8, 9, 10, 11, 12, 13, 14] _ _ rfl (by kernel_rfl) rfl rfl rfl rfl ?_ (fun K w' hw' hk => ?_) ?_
        rotate_left
        · exact ⟨c_h, c_m, c_x, c_l, c_z⟩
        · obtain ⟨q1, q2, q3, q4, q5⟩ := hw'; go_step; exact hk
        refine Ord.St.ho2 (T' := ?_) 8 [6, 9, 10, 11, 12, 13, 14] _ _ rfl (by kernel_rfl) rfl rfl rfl rfl ?_ (fun K w' hw' hk => ?_) ?_
        rotate_left
        · exact ⟨c_h, c_m, c_x, c_l, c_z⟩
        · obtain ⟨q1, q2, q3, q4, q5⟩ := hw'; go_step; exact hk
        refine Ord.St.fl2 (T' := ?_) 9 [6, 10, 11, 12, 13, 14] _ _ rfl (by kernel_rfl) rfl rfl rfl rfl (fun K w' hk => ?_) ?_
        rotate_left
        · go_step; exact hk
        refine Ord.St.fl2 (T' := ?_) 10 [6, 11, 12, 13, 14] _ _ rfl (by kernel_rfl) rfl rfl rfl rfl (fun K w' hk => ?_) ?_
        rotate_left
        · go_step; exact hk
        refine Ord.St.ho2 (T' := ?_) 11 [6, 12, 13, 14] _ _ rfl (by kernel_rfl) rfl rfl rfl rfl ?_ (fun K w' hw' hk => ?_) ?_
        rotate_left
        · exact ⟨c_h, c_m, c_x, c_l, c_z⟩
        · obtain ⟨q1, q2, q3, q4, q5⟩ := hw'; go_step; exact hk
        refine Ord.St.efC 6 [12, 13, 14] _ rfl (by kernel_rfl) (fun K hK => ?_)
        go_wp2_with fail
        refine HNT.out.mono ?_
        rintro e w6 ⟨rfl, hb6, hc6⟩
        have hmt := MTo.of (P' := (mput P X).1) HE.out.mem HTO.out (fun _ => hb6) ((HCUR.out.mono (by simp)).trans hc6 (fun k hk => .inl hk))
        have hch6 : Ch (m :: F') W w6 := hmt.choose_spec.2.1
        obtain ⟨F6, hE6⟩ := HE.out.to HFR.out hWl hmt HST.out.1 HST.out.2.2.2.2.1 HST.out.2.2.2.2.2.2
        clear c_h c_m c_x c_l c_z hb6 hc6 hmt
        have c_h := HKEEP.out _ _ _ HBO0.out HOBN.out w6 hch6
        have c_m := HKEEP.out _ _ _ HMB0.out HMBN.out w6 hch6
        have c_x := HKEEP.out _ _ _ HBX0.out HBXN.out w6 hch6
        have c_l := HKEEP.out _ _ _ HBL0.out HBLN.out w6 hch6
        have c_z := HKEEP.out _ _ _ HZC.out HLBN.out w6 hch6
        have HCC := Lib.hid (HCHO.out w6 _ F6 hE6 rfl)
        have HBK6 := Lib.hid (Books.of_ch (B := W0.heap.size) hch6 hWl (fun k hk => HE.out.noB HFR.out k hk))
        have hW6 : W0.heap.size + 2 ≤ w6.heap.size := Nat.le_trans hWl hch6.size
        have HE6 := Lib.hid hE6; clear hE6 HCHO HNT
        have HCH6 := Lib.hid hch6; clear hch6
        go_wp2_with fail
        refine ⟨rfl, hK _ _ ?_ ?_⟩
        · exact ⟨c_h, c_m, c_x, c_l, c_z⟩
        clear hK K
        refine Ord.St.efC 12 [13, 14] _ rfl (by kernel_rfl) (fun K hK => ?_)
        go_wp2_with fail
        refine HCC.out.mono ?_
        rintro e w7 ⟨v, rfl, hch⟩
        obtain ⟨va1, vc1, rfl⟩ := hch.shape
        have hp := HE6.out.put HFR.out hW6 (by omega) hch hil HSR.out
        have harr7 := HE6.out.arr.ch hch.choose_spec.choose_spec.2.2.2.2.2.choose_spec.2.1 (fun k hk => by cases hk; have h9 := HE6.out.abF HFR.out; simpa using h9)
        have HPUT := Lib.hid hp; clear hp
        have hc7 := hch.choose_spec.choose_spec.2.2.2.2.2.choose_spec.2.1
        have hk7 : ∀ {b j : Nat} {v : Value}, W0.cell? ⟨b, j, none⟩ = some v → b ∉ m :: ab :: F → w7.cell? ⟨b, j, none⟩ = some v := fun {b j v} hv hb => by
          have h8 := HE6.out.cell hv hb
          refine (hc7.cell (cell_lt h8) ?_).trans h8
          simp only [List.nil_append, List.mem_cons, not_or] at hb ⊢
          refine ⟨hb.1, fun hin => (HE6.out.own _ hin).elim hb.2.2 (fun e => ?_)⟩
          have := cell_lt hv
          simp only at this
          omega
        clear c_h c_m c_x c_l c_z hch HCC hc7
        have c_h := hk7 HBO0.out HOBN.out
        have c_m := hk7 HMB0.out HMBN.out
        have c_x := hk7 HBX0.out HBXN.out
        have c_l := hk7 HBL0.out HBLN.out
        have c_z := hk7 HZC.out HLBN.out
        clear hk7
        obtain ⟨ov, hov⟩ : ∃ ov, vs2[i]? = some ov := ⟨_, List.getElem?_eq_getElem (by omega)⟩
        have k1 := row_at2 harr7 hov
        have k2 := row_fz harr7 (by omega) i
        clear harr7 hov
        go_wp2_with fail
        refine ⟨rfl, hK _ _ ?_ ?_⟩
        · exact ⟨c_h, c_m, c_x, c_l, c_z⟩
        clear hK K
        refine Ord.St.fl2 (T' := ?_) 13 [14] _ _ rfl (by kernel_rfl) rfl rfl rfl rfl (fun K w' hk => ?_) ?_
        rotate_left
        · go_step; exact hk
        refine Ord.St.ef 14 [] _ rfl (by kernel_rfl) (fun K hK => ?_)
        go_wp2_with fail
        refine ⟨rfl, hK _ _ ?_⟩; clear hK K
        refine Ord.St.nil ?_
        gi_wp2
        obtain ⟨P1, ls1, F1, hr1, hb1⟩ := HPUT.out
        refine ⟨HBK6.out.trans hb1, P1, F1, vs2.set i (.slice va1 width vc1), ls1, ?_⟩
        show WI W0 w.heap.size g m G F ab nl oc width (RQ (i + 1)).1 (RQ (i + 1)).2 _ _ _ _ _
        rw [HSQ.out]
        exact hr1
      case done =>
        rintro W ⟨P, F', vs2, ls, hE⟩ hK _
        have c_o := hE.cell HBO0.out HOBN.out
        have HE := Lib.hid hE; clear hE
        have HK := Lib.hid hK; clear hK
        go_wp2
        refine ⟨by simp, .inl ⟨_, _, rfl, run_takeDeferred HK.out, ?_⟩⟩
        have hE2 := HE.out.same HFR.out (A' := W.putObj W0.heap.size (.deferred none)) (ch_put (by simp))
        have hz9 := HCW.out.size
        refine ⟨_, results_tmp rfl _ _ _, _, rfl, P, vs2, ls, F', hE2.sim, hE2.out, hE2.mem, (HCW.out.mono (by simp)).trans hE2.ch (fun k hk => ?_), fun k hk => (hE2.own k hk).imp id (fun e => by omega), hE2.map, by rw [hE2.len]; exact hE2.arr, fun k hk => ?_, fun i u hu => ?_⟩
        · simp only [List.mem_cons] at hk ⊢
          rcases hk with hk | hk | hk
          · exact .inl (.inl hk)
          · exact .inr (by omega)
          · exact .inl (.inr hk)
        · cases hk
          refine ⟨habo.1, fun hin => (hE2.abF HFR.out) (by simp only [List.mem_cons]; exact .inr hin)⟩
        · obtain ⟨l, k1, k2, k3, k4, k5⟩ := hE2.words i u hu
          refine ⟨l, k1, k2, k3, k4, fun k hk => ?_⟩
          obtain ⟨f1, f2, _⟩ := k5 k hk
          simp only [List.mem_cons, not_or] at f2
          exact ⟨f1, f2.2.2, fun e => f2.2.1 (by cases e; rfl)⟩
end
end Go.Proofs.Ytdmmanfjafempaa
namespace Go.Aig
def lres (G : Gra) (S : Mk × List (List Nat)) : Gra × List (List Nat) × Nat := if S.1.2 ≠ 0 then (G, [], S.1.2) else (S.1.1, S.2, 0)
theorem lres_e (G : Gra) (S : Mk × List (List Nat)) : (lres G S).2.2 = S.1.2 := by
  unfold lres
  by_cases h0 : S.1.2 = 0
  · rw [if_neg (by simp [h0])]; exact h0.symm
  · rw [if_pos h0]
def writeG (G : Gra) (L : List (List Int)) (c : Int) (y x : List Int) : Gra × List (List Nat) × Nat :=
  if array26 L.length = false then (G, [], 261) else if right26 y.length = false then (G, [], 260) else if chk26 G y [c] (L ++ [x]) ≠ 0 then (G, [], chk26 G y [c] (L ++ [x]))
  else lres G (writeF G c.toNat (nats x) (L.map nats) (nats y) y.length (fitN L.length y.length))
end Go.Aig
namespace Go.Proofs.Ytdmmanfjafempaa
open Go.RowKit Go.Mem Go.Aig
/-- an array of words of its own -/
def PostL (w : World) (G : Gra) (ls : List (List Nat)) (v : Value) (F' : List Nat) (w' : World) : Prop :=
  ∃ vs, row w' 38 1 v ls.length vs ∧ (∀ k, v.ownBlock = some k → w.heap.size ≤ k ∧ k ∉ F') ∧
    ∀ (i : Nat) (u : Value), vs[i]? = some u → ∃ l, ls[i]? = some l ∧ (∀ r ∈ l, r < 2 * G.nodes.length) ∧ row w' 39 1 u l.length (refsCells l) ∧ ∀ k, u.ownBlock = some k → w.heap.size ≤ k ∧ k ∉ F' ∧ v.ownBlock ≠ some k
/-- what a function leaves of a graph, with an array of words of its own -/
def GLo (w : World) (g : Nat) (G : Gra) (F : List Nat) (v : Value) (ls : List (List Nat)) (w' : World) : Prop :=
  ∃ F', GIn w' g G F' ∧ Ch F w w' ∧ (∀ k ∈ F', k ∈ F ∨ w.heap.size ≤ k) ∧ F'[2]? = F[2]? ∧ PostL w G ls v F' w'
theorem PostL.nil {w w' : World} {G : Gra} {F' : List Nat} : PostL w G [] (.slice none 0 0) F' w' := ⟨[], ⟨rfl, .inl ⟨rfl, rfl⟩⟩, by simp [Value.ownBlock], by simp⟩
theorem GLo.none {w w' : World} {g : Nat} {G : Gra} {F : List Nat} (h : GIn w g G F) (hc : Ch [] w w') : GLo w g G F (.slice none 0 0) [] w' :=
  ⟨F, h.same hc (by simp), hc.mono (by simp), fun _ hk => .inl hk, rfl, PostL.nil⟩
theorem WA1.post {w W : World} {g m width : Nat} {G : Gra} {F : List Nat} {S : Mk × List (List Nat)} {v : Value} {W' : World} (h : WA1 W g m G F width S v W') (hc : Ch [] w W) : ∃ P F', Sim G P S.1 ∧ MIn W' g m P F' ∧ Ch (m :: F) W W' ∧ (∀ k ∈ F', k ∈ F ∨ W.heap.size ≤ k) ∧ F'[2]? = F[2]? ∧ (S.1.2 = 0 → PostL w S.1.1 S.2 v F' W') := by
  obtain ⟨P, vs, ls, F', hs, ho, k1, k2, k3, k4, k5, k6, k7⟩ := h
  refine ⟨P, F', hs, k1, k2, k3, k4, fun h0 => ?_⟩
  have e := ho h0
  subst e
  have eP : P = S.1 := by
    rcases hs.rel with ⟨_, e⟩ | ⟨e, _⟩
    · exact e
    · omega
  refine ⟨vs, k5, fun k hk => ⟨Nat.le_trans hc.size (k6 k hk).1, (k6 k hk).2⟩, fun i u hu => ?_⟩
  obtain ⟨l, q1, q2, q3, q4, q5⟩ := k7 i u hu
  exact ⟨l, q1, by rw [← eP]; exact q3, by rw [q2]; exact q4, fun k hk => ⟨Nat.le_trans hc.size (q5 k hk).1, (q5 k hk).2⟩⟩
theorem MB.glo {w w1 w' : World} {g : Nat} {G : Gra} {F : List Nat} {S : Mk × List (List Nat)} {v : Value} (hc : Ch [] w w1) (h : MB w1 g G F S.1 (PostL w S.1.1 S.2) mzL v w') : GLo w g (lres G S).1 F v (lres G S).2.1 w' := by
  obtain ⟨F', k1, k2, k3, k4, k5, k6⟩ := h
  have hch : Ch F w w' := (hc.mono (by simp)).trans k2 (fun k hk => .inl hk)
  have hown : ∀ k ∈ F', k ∈ F ∨ w.heap.size ≤ k := fun k hk => (k3 k hk).imp id (fun e => Nat.le_trans hc.size e)
  unfold lres
  by_cases h0 : S.1.2 = 0
  · rw [if_pos h0] at k1
    rw [if_neg (by simp [h0])]
    exact ⟨F', k1, hch, hown, k4, k5 h0⟩
  · rw [if_neg h0] at k1
    rw [if_pos h0, k6 h0]
    exact ⟨F', k1, hch, hown, k4, PostL.nil⟩
theorem LS.two' {w : World} {F : List Nat} {q la lb n k ac bc : Nat} {As Bs : List WV} (hA : WL w F la n As) (hk : Bs.length = k) (hB : ∀ (i : Nat) (x : WV), Bs[i]? = some x → w.cell? ⟨lb, i, none⟩ = some x.val ∧ WVok w x) (hq : blk w q [.slice (some ⟨la, 0, none⟩) n ac, .slice (some ⟨lb, 0, none⟩) k bc]) : LS w q 2 [(la, ac, As), (lb, bc, Bs)] := by
  have h1 := hA.len
  subst h1
  subst hk
  refine ⟨rfl, fun j b' c' ws' hj => ?_, fun j b' c' ws' hj => ?_⟩ <;> rcases j with _ | _ | j
  · cases hj; exact hq.cell rfl
  · cases hj; exact hq.cell rfl
  · simp at hj
  · cases hj; exact fun i x hx => ⟨hA.cells i x hx, (hA.words x (List.mem_of_getElem? hx)).ok⟩
  · cases hj; exact hB
  · simp at hj
section
variable {w : World} {g : Nat} {G : Gra} {F : List Nat}
set_option maxRecDepth 100000 in
set_option maxHeartbeats 4000000 in
theorem mWrite_is [Nonempty Unit] (h : GIn w g G F) {la : Option Addr} {nl lc : Nat} {Ls : List WV} (hA : WA w F la nl Ls) (c : Int) (hc : I64' c) {y x : WV} (hy : WVin w F y) (hyc : y.l.length ≤ y.c) (hx : WVin w F x) :
    Calls Try.prog 21 #[.pointer (some ⟨g, 0, none⟩), .slice la nl lc, .int .i64 c, y.val, x.val] w fun e w' => ∃ v, e = .returned (.tuple #[v, .int .i64 (writeG G (Ls.map WV.l) c y.l x.l).2.2]) ∧ GLo w g (writeG G (Ls.map WV.l) c y.l x.l).1 F v (writeG G (Ls.map WV.l) c y.l x.l).2.1 w' := by
  have hpos := h.ok.wf.pos
  have hroom := h.ok.room
  have hmost := h.ok.most
  have hL := fun (W : World) (hW : Ch [] w W) => Len_g (h.same hW (by simp))
  have hAr := fun (W : World) => marray_is (w := W) nl
  have hRr := fun (W : World) => mright_is (w := W) y.l.length
  have hok := chk26_ok (G := G) (idx := y.l) (refs := [c]) (ws := Ls.map WV.l ++ [x.l])
  have hlt := chk26_lt G y.l [c] (Ls.map WV.l ++ [x.l])
  have hlen := hA.len
  have hll : (Ls.map WV.l).length = nl := by rw [List.length_map]; exact hlen
  unfold writeG
  rw [hll]
  obtain ⟨cc, hcc⟩ : ∃ cc, chk26 G y.l [c] (Ls.map WV.l ++ [x.l]) = cc := ⟨_, rfl⟩
  rw [hcc] at hok hlt ⊢
  obtain ⟨S, hS⟩ : ∃ S, writeF G c.toNat (nats x.l) ((Ls.map WV.l).map nats) (nats y.l) y.l.length (fitN nl y.l.length) = S := ⟨_, rfl⟩
  rw [hS]
  generalize hWW : (if array26 nl = false then (G, [], 261) else if right26 y.l.length = false then (G, [], 260) else if cc ≠ 0 then (G, [], cc) else lres G S : Gra × List (List Nat) × Nat) = WW
  have hylen := hy.ok.len
  have hxlen := hx.ok.len
  cases ha : array26 nl
  · rw [ha, if_pos rfl] at hWW
    simp only [ha] at hAr
    subst hWW
    obtain ⟨ya, yl, yc⟩ := y
    obtain ⟨xa, xl, xc⟩ := x
    simp only [WV.val] at *
    clear hok hcc hS hRr hA hy hx
    have HL := Lib.hid hL; clear hL
    have HAR := Lib.hid hAr; clear hAr
    have H := Lib.hid h; clear h
    have hn0 : ((G.nodes.length : Int) == 0) = false := beqN (by omega)
    go_enter Try.func21, Try.ntmps21
    go_upto_region 1 with fail
    refine wp_named fun W0 hW0 => ?_
    have hc0 : Ch [] w W0 := by rw [hW0]; exact (((((Ch.refl _ _).alloc _).alloc _).alloc _).alloc _).alloc _
    have hb0 : blk W0 w.heap.size [.pointer (some ⟨g, 0, none⟩)] := by rw [hW0]; exact ((((blk.new' _ _ (by simp)).alloc _).alloc _).alloc _).alloc _
    have hb1 : blk W0 (w.heap.size + 1) [.slice la nl lc] := by rw [hW0]; exact (((blk.new' _ _ (by simp)).alloc _).alloc _).alloc _
    have hb2 : blk W0 (w.heap.size + 2) [.int .i64 c] := by rw [hW0]; exact ((blk.new' _ _ (by simp)).alloc _).alloc _
    have hb3 : blk W0 (w.heap.size + 3) [.slice ya yl.length yc] := by rw [hW0]; exact (blk.new' _ _ (by simp)).alloc _
    have hb4 : blk W0 (w.heap.size + 4) [.slice xa xl.length xc] := by rw [hW0]; exact blk.new' _ _ (by simp)
    have d0 := hb0.cell (i := 0) rfl
    have d1 := hb1.cell (i := 0) rfl
    have d2 := hb2.cell (i := 0) rfl
    have d3 := hb3.cell (i := 0) rfl
    have d4 := hb4.cell (i := 0) rfl
    have l0 := hb0.lt
    have l1 := hb1.lt
    have l2 := hb2.lt
    have l3 := hb3.lt
    have l4 := hb4.lt
    clear hW0
    have hLL := HL.out W0 hc0
    have HC0 := Lib.hid hc0; clear hc0
    have HB0 := Lib.hid hb0; clear hb0
    have HB1 := Lib.hid hb1; clear hb1
    have HB2 := Lib.hid hb2; clear hb2
    have HB3 := Lib.hid hb3; clear hb3
    have HB4 := Lib.hid hb4; clear hb4
    go_wp2_with fail
    refine hLL.mono ?_
    rintro e w' ⟨rfl, rfl⟩
    clear hLL
    go_wp2_with fail
    refine (HAR.out _).mono ?_
    rintro e w' ⟨rfl, rfl⟩
    go_wp2_with fail
    go_ret2
    exact ⟨_, rfl, GLo.none H.out HC0.out⟩
  · rw [ha, if_neg (by simp)] at hWW
    simp only [ha] at hAr
    have hnl : 1 ≤ nl ∧ nl ≤ 256 := by unfold array26 at ha; simp at ha; omega
    obtain ⟨lb, rfl, hWL⟩ := hA.at_ hnl.1
    cases hr : right26 y.l.length
    · rw [hr, if_pos rfl] at hWW
      simp only [hr] at hRr
      subst hWW
      obtain ⟨ya, yl, yc⟩ := y
      obtain ⟨xa, xl, xc⟩ := x
      simp only [WV.val] at *
      clear hok hcc hS hA hWL hy hx
      have HL := Lib.hid hL; clear hL
      have HAR := Lib.hid hAr; clear hAr
      have HRR := Lib.hid hRr; clear hRr
      have H := Lib.hid h; clear h
      have hn0 : ((G.nodes.length : Int) == 0) = false := beqN (by omega)
      go_enter Try.func21, Try.ntmps21
      go_upto_region 1 with fail
      refine wp_named fun W0 hW0 => ?_
      have hc0 : Ch [] w W0 := by rw [hW0]; exact (((((Ch.refl _ _).alloc _).alloc _).alloc _).alloc _).alloc _
      have hb0 : blk W0 w.heap.size [.pointer (some ⟨g, 0, none⟩)] := by rw [hW0]; exact ((((blk.new' _ _ (by simp)).alloc _).alloc _).alloc _).alloc _
      have hb1 : blk W0 (w.heap.size + 1) [.slice (some ⟨lb, 0, none⟩) nl lc] := by rw [hW0]; exact (((blk.new' _ _ (by simp)).alloc _).alloc _).alloc _
      have hb2 : blk W0 (w.heap.size + 2) [.int .i64 c] := by rw [hW0]; exact ((blk.new' _ _ (by simp)).alloc _).alloc _
      have hb3 : blk W0 (w.heap.size + 3) [.slice ya yl.length yc] := by rw [hW0]; exact (blk.new' _ _ (by simp)).alloc _
      have hb4 : blk W0 (w.heap.size + 4) [.slice xa xl.length xc] := by rw [hW0]; exact blk.new' _ _ (by simp)
      have d0 := hb0.cell (i := 0) rfl
      have d1 := hb1.cell (i := 0) rfl
      have d2 := hb2.cell (i := 0) rfl
      have d3 := hb3.cell (i := 0) rfl
      have d4 := hb4.cell (i := 0) rfl
      have l0 := hb0.lt
      have l1 := hb1.lt
      have l2 := hb2.lt
      have l3 := hb3.lt
      have l4 := hb4.lt
      clear hW0
      have hLL := HL.out W0 hc0
      have HC0 := Lib.hid hc0; clear hc0
      have HB0 := Lib.hid hb0; clear hb0
      have HB1 := Lib.hid hb1; clear hb1
      have HB2 := Lib.hid hb2; clear hb2
      have HB3 := Lib.hid hb3; clear hb3
      have HB4 := Lib.hid hb4; clear hb4
      go_wp2_with fail
      refine hLL.mono ?_
      rintro e w' ⟨rfl, rfl⟩
      clear hLL
      go_wp2_with fail
      refine (HAR.out _).mono ?_
      rintro e w' ⟨rfl, rfl⟩
      go_wp2_with fail
      refine (HRR.out _).mono ?_
      rintro e w' ⟨rfl, rfl⟩
      go_wp2_with fail
      go_ret2
      exact ⟨_, rfl, GLo.none H.out HC0.out⟩
    · rw [hr, if_neg (by simp)] at hWW
      simp only [hr] at hRr
      have hyb : 1 ≤ y.l.length ∧ y.l.length ≤ 16 := by unfold right26 at hr; simp at hr; omega
      have hchk := fun (W : World) (q xb rb : Nat) (hW : Ch [] w W) (hq : blk W q [.slice (some ⟨lb, 0, none⟩) nl lc, .slice (some ⟨xb, 0, none⟩) 1 1]) (hxb : blk W xb [x.val]) (hrb : blk W rb [.int .i64 c]) =>
        mcheck_is (h.same hW (by simp)) (LS.two' (hWL.ch hW) (Bs := [x]) rfl (at1 hxb (hx.ch hW).ok) hq) (n := 2) (c := 2) (by omega) (by rw [lsW_two, List.length_append, hlen]; omega) (by rw [lsW_two, List.length_append, hlen]; simp; omega) (RS.wv (hy.ch hW) hyc) (RS.blk (n := 1) (R := [c]) hrb rfl (by omega)) (by omega) (by omega) (by
          intro z hz
          rcases List.mem_append.1 hz with hz | hz
          · exact hy.ok.bd z hz
          · rw [List.mem_singleton.1 hz]; exact hc)
      simp only [lsW_two, List.map_append, List.map_cons, List.map_nil, hcc] at hchk
      have hbuild : cc = 0 → ∀ (W1 : World), Ch [] w W1 → blk W1 w.heap.size [.pointer (some ⟨g, 0, none⟩)] → blk W1 (w.heap.size + 1) [.slice (some ⟨lb, 0, none⟩) nl lc] → blk W1 (w.heap.size + 2) [.int .i64 c] → blk W1 (w.heap.size + 3) [y.val] → blk W1 (w.heap.size + 4) [x.val] →
          Calls Try.prog 79 #[.pointer (some ⟨g, 0, none⟩), .func (.func 80) #[] #[.pointer (some ⟨w.heap.size + 1, 0, none⟩), .pointer (some ⟨w.heap.size + 3, 0, none⟩), .pointer (some ⟨w.heap.size, 0, none⟩), .pointer (some ⟨w.heap.size + 2, 0, none⟩), .pointer (some ⟨w.heap.size + 4, 0, none⟩)]] W1 fun e w' => ∃ v, e = .returned (.tuple #[v, .int .i64 S.1.2]) ∧ MB W1 g G F S.1 (PostL w S.1.1 S.2) mzL v w' := fun h0 W1 hW1 k0 k1 k2 k3 k4 => by
        obtain ⟨o1, o2, o3, o4, o5⟩ := hok h0
        have hne : Ls.map WV.l ++ [x.l] ≠ [] := by simp
        have hc0 : ((c.toNat : Nat) : Int) = c := by have := o5.cast; simpa [natInts, nats] using this
        have hcl : c.toNat < 2 * G.nodes.length := o5.lt c.toNat (by simp [nats])
        refine mbuildL_is (h.same hW1 (by simp)) 80 _ fnvmWrite1 S.1 _ (fun W m hm hW hM => ?_)
        have hall := hW1.trans hW (by simp)
        have hm2 : w.heap.size ≤ m := Nat.le_trans hW1.size hm
        have hyw : WVin W (m :: F) ⟨y.a, natInts (nats y.l), y.c⟩ := by
          rw [o4.cast]
          exact ⟨(hy.ch hall).ok, hy.blks hall hm2⟩
        have hxw : WVin W (m :: F) x := ⟨(hx.ch hall).ok, hx.blks hall hm2⟩
        have hxo := o1 x.l (by simp)
        have c0 := (k0.ch hW (by simp)).cell (i := 0) rfl
        have c1 := (k1.ch hW (by simp)).cell (i := 0) rfl
        have c2 := (k2.ch hW (by simp)).cell (i := 0) rfl
        have c3 := (k3.ch hW (by simp)).cell (i := 0) (v := y.val) rfl
        have c4 := (k4.ch hW (by simp)).cell (i := 0) (v := x.val) rfl
        unfold WV.val at c3 c4
        rw [hxo.len] at c4
        rw [← hc0] at c2
        have l0 := k0.lt
        have l1 := k1.lt
        have l2 := k2.lt
        have l3 := k3.lt
        have l4 := k4.lt
        have hnF : ∀ b, w.heap.size ≤ b → b < W1.heap.size → b ∉ m :: F := fun b hb hb2 hin => by
          simp only [List.mem_cons] at hin
          rcases hin with e | hin
          · omega
          · have := h.lt b hin; omega
        have h1 := mWrite1_is hM (Ls := Ls) (lc := lc) (width := ((Ls.map WV.l ++ [x.l]).headD []).length) (x := x) (hWL.up hall hm2) (fun z hz => o1 z.l (List.mem_append_left _ (List.mem_map.2 ⟨z, hz, rfl⟩))) hnl (o3 hne) hxw hxo hcl hyw (by rw [nats_len]) hyb.1 hyb.2 o4.lt rfl c1 c3 c0 c2 c4 (hnF _ (by omega) l1) (hnF _ (by omega) l3) (hnF _ (by omega) l0) (hnF _ (by omega) l2) (hnF _ (by omega) l4)
        rw [show (Ls.map fun x => nats x.l) = (Ls.map WV.l).map nats by rw [List.map_map]; rfl, hS] at h1
        refine h1.mono ?_
        rintro e W' ⟨v, rfl, hrw⟩
        obtain ⟨P, F', q1, q2, q3, q4, q5, q6⟩ := hrw.post hall
        exact ⟨v, P, F', rfl, q1, q2, q3, q4, q5, q6⟩
      obtain ⟨ya, yl, yc⟩ := y
      obtain ⟨xa, xl, xc⟩ := x
      simp only [WV.val] at *
      clear hok hcc hS hA hWL
      have HL := Lib.hid hL; clear hL
      have HAR := Lib.hid hAr; clear hAr
      have HRR := Lib.hid hRr; clear hRr
      have HCHK := Lib.hid hchk; clear hchk
      have HBU := Lib.hid hbuild; clear hbuild
      have H := Lib.hid h; clear h
      have HWW := Lib.hid hWW; clear hWW
      have hn0 : ((G.nodes.length : Int) == 0) = false := beqN (by omega)
      clear hy hx hc
      go_enter Try.func21, Try.ntmps21
      go_upto_region 1 with fail
      refine wp_named fun W0 hW0 => ?_
      have hc0 : Ch [] w W0 := by rw [hW0]; exact (((((Ch.refl _ _).alloc _).alloc _).alloc _).alloc _).alloc _
      have hb0 : blk W0 w.heap.size [.pointer (some ⟨g, 0, none⟩)] := by rw [hW0]; exact ((((blk.new' _ _ (by simp)).alloc _).alloc _).alloc _).alloc _
      have hb1 : blk W0 (w.heap.size + 1) [.slice (some ⟨lb, 0, none⟩) nl lc] := by rw [hW0]; exact (((blk.new' _ _ (by simp)).alloc _).alloc _).alloc _
      have hb2 : blk W0 (w.heap.size + 2) [.int .i64 c] := by rw [hW0]; exact ((blk.new' _ _ (by simp)).alloc _).alloc _
      have hb3 : blk W0 (w.heap.size + 3) [.slice ya yl.length yc] := by rw [hW0]; exact (blk.new' _ _ (by simp)).alloc _
      have hb4 : blk W0 (w.heap.size + 4) [.slice xa xl.length xc] := by rw [hW0]; exact blk.new' _ _ (by simp)
      have d0 := hb0.cell (i := 0) rfl
      have d1 := hb1.cell (i := 0) rfl
      have d2 := hb2.cell (i := 0) rfl
      have d3 := hb3.cell (i := 0) rfl
      have d4 := hb4.cell (i := 0) rfl
      have l0 := hb0.lt
      have l1 := hb1.lt
      have l2 := hb2.lt
      have l3 := hb3.lt
      have l4 := hb4.lt
      clear hW0
      have hLL := HL.out W0 hc0
      have HC0 := Lib.hid hc0; clear hc0
      have HB0 := Lib.hid hb0; clear hb0
      have HB1 := Lib.hid hb1; clear hb1
      have HB2 := Lib.hid hb2; clear hb2
      have HB3 := Lib.hid hb3; clear hb3
      have HB4 := Lib.hid hb4; clear hb4
      go_wp2_with fail
      refine hLL.mono ?_
      rintro e w' ⟨rfl, rfl⟩
      clear hLL
      go_wp2_with fail
      refine (HAR.out _).mono ?_
      rintro e w' ⟨rfl, rfl⟩
      go_wp2_with fail
      refine (HRR.out _).mono ?_
      rintro e w' ⟨rfl, rfl⟩
      go_wp2_with fail
      refine calls_named fun W1 hW1 => ?_
      have hc1 : Ch [] W0 W1 := by rw [hW1]; exact (((Ch.refl _ _).alloc _).alloc _).alloc _
      have e0 : blk W1 W0.heap.size [.int .i64 c] := by rw [hW1]; exact ((blk.new' _ _ (by simp)).alloc _).alloc _
      have e1 : blk W1 (W0.heap.size + 1) [.slice xa xl.length xc] := by rw [hW1]; exact (blk.new' _ _ (by simp)).alloc _
      have e2 : blk W1 (W0.heap.size + 1 + 1) [.slice (some ⟨lb, 0, none⟩) nl lc, .slice (some ⟨W0.heap.size + 1, 0, none⟩) 1 1] := by rw [hW1]; exact blk.new' _ _ (by simp)
      clear hW1
      refine (HCHK.out W1 _ _ _ (HC0.out.trans hc1 (by simp)) e2 e1 e0).mono ?_
      rintro e w2 ⟨rfl, hc2⟩
      have hc02 := hc1.trans hc2 (by simp)
      have HC2 := Lib.hid (HC0.out.trans hc02 (by simp))
      have hb0' := HB0.out.ch hc02 (by simp)
      have d0' := hb0'.cell (i := 0) rfl
      have HB0' := Lib.hid hb0'; clear hb0'
      have HB1' := Lib.hid (HB1.out.ch hc02 (by simp))
      have HB2' := Lib.hid (HB2.out.ch hc02 (by simp))
      have HB3' := Lib.hid (HB3.out.ch hc02 (by simp))
      have HB4' := Lib.hid (HB4.out.ch hc02 (by simp))
      clear e0 e1 e2 hc1 hc2 hc02 d0 d1 d2 d3 d4 HB0 HB1 HB2 HB3 HB4 HCHK
      by_cases hz : cc = 0
      · have hBB := HBU.out hz w2 HC2.out HB0'.out HB1'.out HB2'.out HB3'.out HB4'.out
        have hww := HWW.out
        rw [if_neg (by simp [hz])] at hww
        subst hz
        have HBB := Lib.hid hBB; clear hBB HBU
        have HW2 := Lib.hid hww; clear hww
        go_wp2_with fail
        refine HBB.out.mono ?_
        rintro e w3 ⟨v, rfl, hmb⟩
        have hgv := MB.glo HC2.out hmb
        rw [HW2.out] at hgv
        have HGV := Lib.hid hgv; clear hgv hmb
        go_wp2_with fail
        go_ret2
        exact ⟨_, by rw [← HW2.out, lres_e]; rfl, HGV.out⟩
      · have hq : ((cc : Int) != 0) = true := by simp; omega
        have hww := HWW.out
        rw [if_pos hz] at hww
        have HW2 := Lib.hid hww; clear hww
        have HZ := Lib.hid hz; clear hz
        go_wp2_with fail
        go_ret2
        exact ⟨_, by rw [← HW2.out]; rfl, by rw [← HW2.out]; exact GLo.none H.out HC2.out⟩
end
end Go.Proofs.Ytdmmanfjafempaa
namespace Go.Proofs.Ytdmmanfjafempaa
open Go.RowKit Go.Mem Go.Aig
section
variable {w0 : Base} {w : World} {g : Nat} {G : Gra} {F : List Nat} {L : List (Value × List Int)}
theorem Hold.wa (h : Hold w0 w g G F L) {b n : Nat} {Ls : List WV} (hb : (b, Ls.map WV.val) ∈ w0.K) (hL : ∀ x ∈ Ls, (x.val, x.l) ∈ L) (hn : Ls.length = n) : WA w F (some ⟨b, 0, none⟩) n Ls := by
  obtain ⟨k1, k2, k3⟩ := h.kept _ hb
  exact ⟨hn, fun _ => ⟨b, rfl, hn, fun i x hx => k1.cell (by rw [List.getElem?_map, hx]; rfl), fun x hx => by
    have := h.at (hL x hx) rfl
    exact this, k3, k1.lt⟩⟩
theorem mChoose_h (h : Hold w0 w g G F L) (c : Int) (hc : I64' c) {xa ya : Option Addr} {xl yl : List Int} {n m xc yc : Nat} (hx : (.slice xa n xc, xl) ∈ L) (hxn : xl.length = n) (hy : (.slice ya m yc, yl) ∈ L) (hym : yl.length = m) {G' : Gra} {l : List Nat} {e k : Nat} (hR : chooseG G c xl yl = (G', l, e)) (hk : l.length = k) (hb : ∀ r ∈ l, r ≤ 1000000) (hl : k ≤ 1000000) :
    Calls Try.prog 30 #[.pointer (some ⟨g, 0, none⟩), .int .i64 c, .slice xa n xc, .slice ya m yc] w fun en w' => ∃ a c F', en = .returned (.tuple #[.slice a k c, .int .i64 e]) ∧ Hold w0 w' g G' F' ((.slice a k c, natInts l) :: L) := by
  have hcc := mChoose_is h.own.gin c hc (h.at hx hxn) (h.at hy hym)
  simp only [WV.val, hxn, hym] at hcc
  exact Calls.word h hcc hR hk hb hl
theorem mRead_h [Nonempty Unit] (h : Hold w0 w g G F L) {la : Option Addr} {nl lc : Nat} {Ls : List WV} (hA : WA w F la nl Ls) {ya : Option Addr} {yl : List Int} {m yc : Nat} (hy : (.slice ya m yc, yl) ∈ L) (hym : yl.length = m) {G' : Gra} {l : List Nat} {e k : Nat} (hR : readG G (Ls.map WV.l) yl = (G', l, e)) (hk : l.length = k) (hb : ∀ r ∈ l, r ≤ 1000000) (hl : k ≤ 1000000) :
    Calls Try.prog 20 #[.pointer (some ⟨g, 0, none⟩), .slice la nl lc, .slice ya m yc] w fun en w' => ∃ a c F', en = .returned (.tuple #[.slice a k c, .int .i64 e]) ∧ Hold w0 w' g G' F' ((.slice a k c, natInts l) :: L) := by
  have hcc := mRead_is h.own.gin (lc := lc) hA (h.at hy hym) (by have := (h.held _ hy).cap; rw [hym]; exact this)
  simp only [WV.val, hym] at hcc
  exact Calls.word h hcc hR hk hb hl
theorem mPick_h (h : Hold w0 w g G F L) {la : Option Addr} {nl lc : Nat} {Ls : List WV} (hA : WA w F la nl Ls) {y : WV} (hy : WVin w F y) (hyc : y.l.length ≤ y.c) {G' : Gra} {l : List Nat} {e k : Nat} (hR : pickG G y.l (Ls.map WV.l) = (G', l, e)) (hk : l.length = k) (hb : ∀ r ∈ l, r ≤ 1000000) (hl : k ≤ 1000000) :
    Calls Try.prog 29 #[.pointer (some ⟨g, 0, none⟩), y.val, .slice la nl lc] w fun en w' => ∃ a c F', en = .returned (.tuple #[.slice a k c, .int .i64 e]) ∧ Hold w0 w' g G' F' ((.slice a k c, natInts l) :: L) := by
  exact Calls.word h (mPick_is h.own.gin (lc := lc) hA hy hyc) hR hk hb hl
theorem mEqual_h (h : Hold w0 w g G F L) {la lb : Option Addr} {nl ac n2 bc : Nat} {As Bs : List WV} (hA : WA w F la nl As) (hB : WA w F lb n2 Bs) (hn2 : n2 ≤ 1000000) {G' : Gra} {r e : Nat} (hR : equalG G (As.map WV.l) (Bs.map WV.l) = (G', r, e)) :
    Calls Try.prog 28 #[.pointer (some ⟨g, 0, none⟩), .slice la nl ac, .slice lb n2 bc] w fun en w' => ∃ F', en = .returned (.tuple #[.int .i64 r, .int .i64 e]) ∧ Hold w0 w' g G' F' L :=
  Calls.ref h (mEqual_is h.own.gin hA hB hn2) hR
theorem harr_ws {Pr : Value → List Int → Prop} : ∀ {vs : List Value} {ls : List (List Nat)}, vs.length = ls.length → (∀ (i : Nat) (u : Value), vs[i]? = some u → ∃ l, ls[i]? = some l ∧ Pr u (natInts l) ∧ ∃ ua uc, u = .slice ua l.length uc) → ∃ ws : List WV, ws.map WV.val = vs ∧ ws.map WV.l = ls.map natInts ∧ ∀ x ∈ ws, Pr x.val x.l
  | [], [], _, _ => ⟨[], rfl, rfl, by simp⟩
  | [], _ :: _, h, _ => by simp at h
  | _ :: _, [], h, _ => by simp at h
  | v :: vs, l :: ls, h, hf => by
    obtain ⟨ws, h1, h2, h3⟩ := harr_ws (vs := vs) (ls := ls) (by simpa using h) (fun i u hu => hf (i + 1) u hu)
    obtain ⟨l', e, hp, ua, uc, rfl⟩ := hf 0 v rfl
    cases e
    refine ⟨⟨ua, natInts l, uc⟩ :: ws, by rw [List.map_cons, h1]; simp [WV.val], by rw [List.map_cons, List.map_cons, h2], fun x hx => ?_⟩
    rcases List.mem_cons.1 hx with rfl | hx
    · simpa [WV.val] using hp
    · exact h3 x hx
theorem mWrite_h [Nonempty Unit] (h : Hold w0 w g G F L) {la : Option Addr} {nl lc : Nat} {Ls : List WV} (hA : WA w F la nl Ls) (c : Int) (hc : I64' c) {xa ya : Option Addr} {xl yl : List Int} {n m xc yc : Nat} (hy : (.slice ya m yc, yl) ∈ L) (hym : yl.length = m) (hx : (.slice xa n xc, xl) ∈ L) (hxn : xl.length = n) {G' : Gra} {ls : List (List Nat)} {e k : Nat} (hR : writeG G (Ls.map WV.l) c yl xl = (G', ls, e)) (hk : ls.length = k) (hk0 : 0 < k) (hl : ∀ l ∈ ls, l.length ≤ 1000000) :
    Calls Try.prog 21 #[.pointer (some ⟨g, 0, none⟩), .slice la nl lc, .int .i64 c, .slice ya m yc, .slice xa n xc] w fun en w' => ∃ (b c : Nat) (F' : List Nat) (cs : List Value) (ws : List WV), en = .returned (.tuple #[.slice (some ⟨b, 0, none⟩) k c, .int .i64 e]) ∧ Hold (w0.add b cs) w' g G' F' ((ws.map fun x => (WV.val x, WV.l x)) ++ L) ∧ (∀ (i : Nat) (x : WV), ws[i]? = some x → cs[i]? = some x.val) ∧ ws.map WV.l = ls.map natInts := by
  have hcc := mWrite_is h.own.gin (lc := lc) hA c hc (h.at hy hym) (by have := (h.held _ hy).cap; rw [hym]; exact this) (h.at hx hxn)
  simp only [WV.val, hxn, hym, hR] at hcc
  subst hk
  refine hcc.mono ?_
  rintro en w' ⟨v, rfl, F', k1, k2, k3, k4, vs, k5, k6, k7⟩
  obtain ⟨b, c, rfl⟩ := k5.parts hk0
  have hsm := k1.ok.small
  have hz := h.own.ch.size
  obtain ⟨ws, q1, q2, q3⟩ := harr_ws (vs := vs) (ls := ls) (Pr := fun u l => Held w0.w w' F' u l) (by have h9 : vs.length = ls.length * 1 := k5.1; omega) (fun i u hu => by
    obtain ⟨l, r1, r2, r3, r4⟩ := k7 i u hu
    obtain ⟨ua, uc, rfl⟩ := row.shape r3
    refine ⟨l, r1, ⟨by rw [natInts_len, ← refs_natInts]; exact r3, by rw [natInts_len]; exact hl l (List.mem_of_getElem? r1), fun r hr => ?_, fun k hk => ⟨Nat.le_trans hz (r4 k hk).1, (r4 k hk).2.1⟩⟩, ua, uc, rfl⟩
    obtain ⟨z, hzz, rfl⟩ := List.mem_map.1 hr
    have := r2 z hzz
    omega)
  have k5' := k5
  rcases k5'.2 with ⟨e, _⟩ | ⟨b', cap, cur, e, _, hb, _, _, _, ht⟩
  · cases e
  · cases e
    have hown := k6 b rfl
    have hH : Hold w0 w' g G' F' ((ws.map fun x => (WV.val x, WV.l x)) ++ L) := ⟨⟨k1, fun k hk => (k3 k hk).elim (h.own.own k) (fun e => Nat.le_trans hz e), h.own.ch.trans k2 (fun k hk => .inr (h.own.own k hk))⟩, fun p hp => by
      rcases List.mem_append.1 hp with hp | hp
      · obtain ⟨x, hx, rfl⟩ := List.mem_map.1 hp
        exact q3 x hx
      · exact (h.held p hp).keep k2 k3, h.keptTo k2 k3⟩
    refine ⟨b, c, F', cur.toList, ws, rfl, hH.keepB (b := b) (xs := cur.toList) ?_ (Nat.le_trans hz hown.1) hown.2, fun i x hx => ?_, q2⟩
    · exact ⟨_, by rw [Array.toArray_toList]; exact hb⟩
    · have h1 : vs[i]? = some x.val := by rw [← q1, List.getElem?_map, hx]; rfl
      rw [← ht] at h1
      have h2 := (List.getElem?_eq_some_iff.1 h1).1
      rw [List.length_take] at h2
      rw [List.getElem?_take_of_lt (by omega)] at h1
      exact h1
end
/-- an array of words that can be read -/
structure AR (w : World) (a : Option Addr) (L : List WV) : Prop where
  cells : ∀ (i : Nat) (x : WV), L[i]? = some x → ∃ b, a = some ⟨b, 0, none⟩ ∧ w.cell? ⟨b, i, none⟩ = some x.val ∧ WVok w x
theorem Hold.ar {w0 : Base} {w : World} {g : Nat} {G : Gra} {F : List Nat} {L : List (Value × List Int)} (h : Hold w0 w g G F L) {b : Nat} {cs : List Value} {ws : List WV} (hb : (b, cs) ∈ w0.K) (hc : ∀ (i : Nat) (x : WV), ws[i]? = some x → cs[i]? = some x.val) (hL : ∀ x ∈ ws, (x.val, x.l) ∈ L) : AR w (some ⟨b, 0, none⟩) ws :=
  ⟨fun i x hx => ⟨b, rfl, (h.kept _ hb).1.cell (hc i x hx), (h.at (hL x (List.mem_of_getElem? hx)) rfl).ok⟩⟩
theorem AR.ch {w w' : World} {a : Option Addr} {L : List WV} (h : AR w a L) (hc : Ch [] w w') : AR w' a L :=
  ⟨fun i x hx => by
    obtain ⟨b, e, h1, h2⟩ := h.cells i x hx
    exact ⟨b, e, (hc.cell (cell_lt h1) (by simp)).trans h1, h2.ch hc (by simp)⟩⟩
theorem fnvEqref : Fnv 24 := fnv_of Try.func24 (by simp [Try.f24]) (by simp [Try.f24])
set_option maxRecDepth 100000 in
set_option maxHeartbeats 2000000 in
theorem EFlst_yes {w : World} {a b : Option Addr} {As Bs : List WV} (n ca cb : Nat) (hn : n ≤ 1000000) (hA : AR w a As) (hB : AR w b Bs) (ha : As.length = n) (hb : Bs.length = n) (heq : ∀ (i : Nat) (x y : WV), As[i]? = some x → Bs[i]? = some y → x.l = y.l) :
    Calls Try.prog 66 #[.slice a n ca, .slice b n cb, .func (.func 24) #[] #[]] w fun e w' => e = .returned (.bool true) ∧ Ch [] w w' := by
  have hcf : ∀ args w, (callFunc 24 args).run Try.prog w = .ok (.enter 24 args) w := fnvEqref
  have HA := Lib.hid hA; clear hA
  have HB := Lib.hid hB; clear hB
  have HEQ := Lib.hid heq; clear heq
  go_enter Try.func66, Try.ntmps66
  go_wp2_with fail
  go_loopw [17] (fun i wr => ∃ k : Nat, k ≤ n ∧ i = .int .i64 k ∧ Ch [] w wr) (fun i _ => n - (intOf i).toNat)
  case atStart => exact ⟨0, Nat.zero_le _, rfl, Ch.refl _ _⟩
  case round =>
    obtain ⟨k, hk, rfl, hc⟩ := hrel
    by_cases hlt : k < n
    · obtain ⟨x, hx⟩ : ∃ x, As[k]? = some x := ⟨_, List.getElem?_eq_getElem (by omega)⟩
      obtain ⟨y, hy⟩ : ∃ y, Bs[k]? = some y := ⟨_, List.getElem?_eq_getElem (by omega)⟩
      have he := HEQ.out k x y hx hy
      obtain ⟨ab, rfl, c0, hxo⟩ := (HA.out.ch hc).cells k x hx
      obtain ⟨bb, rfl, c1, hyo⟩ := (HB.out.ch hc).cells k y hy
      have hE := Eqref_is (w := wr) x.c y.c hxo.sl hyo.sl
      rw [decide_eq_true he] at hE
      unfold WV.val at c0 c1
      obtain ⟨xa, xl, xc⟩ := x
      obtain ⟨ya, yl, yc⟩ := y
      simp only at c0 c1 hE
      have HE := Lib.hid hE; clear hE
      have HC := Lib.hid hc; clear hc
      clear hx hy he hxo hyo
      go_wp2_with fail
      refine HE.out.mono ?_
      rintro e w1 ⟨rfl, hc1⟩
      have HC1 := Lib.hid hc1; clear hc1 HE
      go_wp2_with fail
      go_roundw
      case rel => exact ⟨k + 1, by omega, by go_num, HC.out.trans HC1.out (by simp)⟩
      case measure => simp [intOf]; omega
    · have HC := Lib.hid hc; clear hc
      go_wp2_with fail
      go_ret
      exact ⟨rfl, HC.out⟩
end Go.Proofs.Ytdmmanfjafempaa
namespace Go.Proofs.Ytdmmanfjafempaa
open Go.RowKit Go.Mem Go.Aig
theorem fnvbegin261 : Fnv 67 := fnv_of Try.func67 (by simp [Try.f67]) (by simp [Try.f67])
section
variable {w : World} {g : Nat} {F : List Nat}
set_option maxRecDepth 100000 in
set_option maxHeartbeats 2000000 in
theorem begin261_is {s k b8 b9 : Nat} (h : GIn w g (gIn 8000 s) F) (hk : 1 ≤ k) (hk3 : k ≤ 3) (hs : s + k < 8000) (c8 : w.cell? ⟨b8, 0, none⟩ = some (.pointer (some ⟨g, 0, none⟩))) :
    Calls Try.prog 67 (#[.int .i64 k] ++ #[.pointer (some ⟨b8, 0, none⟩), .pointer (some ⟨b9, 0, none⟩)]) w fun e w' => ∃ v, e = .returned v ∧ GVo w g (gIn 8000 (s + k)) [] F v (rIn s k) w' := by
  show Calls Try.prog 67 #[.int .i64 k, .pointer (some ⟨b8, 0, none⟩), .pointer (some ⟨b9, 0, none⟩)] w _
  have hI := sInput_is h k
  rw [inG_gIn hk (by omega) hs] at hI
  have hl : (rIn s k).length = k := by simp [rIn]
  have HL := Lib.hid hl; clear hl
  clear h
  go_enter Try.func67, Try.ntmps67
  go_wp2_with fail
  refine hI.mono ?_
  rintro e w1 ⟨v, rfl, hg⟩
  obtain ⟨F', k1, k2, k3, k4, k5, k6⟩ := hg
  rw [HL.out] at k5
  obtain ⟨a, c, rfl⟩ := row.shape k5
  have HG := Lib.hid (show GVo w g (gIn 8000 (s + k)) [] F (.slice a k c) (rIn s k) w1 from ⟨F', k1, k2, k3, k4, by rw [HL.out]; exact k5, k6⟩)
  clear k1 k2 k3 k4 k5 k6
  go_wp2_with fail
  go_ret
  exact ⟨_, rfl, HG.out⟩
end
/-- what is known while the array of inputs is made -/
structure XB (w : World) (g s : Nat) (F : List Nat) (b8 b9 bx W : Nat) (wr : World) (v : Value) (k : Nat) (vs xs : List Value) : Prop where
  gin : GIn wr g (gIn 8000 s) F
  own : ∀ q ∈ F, w.heap.size ≤ q
  ch : Ch [] w wr
  k8 : blk wr b8 [.pointer (some ⟨g, 0, none⟩)]
  k9 : blk wr b9 [.int .i64 0]
  kx : blk wr bx xs
  nF : b8 ∉ F ∧ b9 ∉ F ∧ bx ∉ F
  arr : row wr 38 1 v k vs
  ownv : ∀ q, v.ownBlock = some q → w.heap.size ≤ q ∧ q ∉ F ∧ q ≠ b8 ∧ q ≠ b9 ∧ q ≠ bx
  words : ∀ (i : Nat) (u : Value), vs[i]? = some u → row wr 39 1 u W (refsCells (rIn (i * W) W)) ∧ ∀ q, u.ownBlock = some q → w.heap.size ≤ q ∧ q ∉ F ∧ q ≠ b8 ∧ q ≠ b9 ∧ q ≠ bx ∧ v.ownBlock ≠ some q
theorem XB.ch0 {w : World} {g s : Nat} {F : List Nat} {b8 b9 bx W : Nat} {wr wr' : World} {v : Value} {k : Nat} {vs xs : List Value} (h : XB w g s F b8 b9 bx W wr v k vs xs) (hc : Ch [] wr wr') : XB w g s F b8 b9 bx W wr' v k vs xs :=
  ⟨h.gin.same hc (by simp), h.own, h.ch.trans hc (by simp), h.k8.ch hc (by simp), h.k9.ch hc (by simp), h.kx.ch hc (by simp), h.nF, h.arr.ch hc (by simp), h.ownv, fun i u hu => ⟨(h.words i u hu).1.ch hc (by simp), (h.words i u hu).2⟩⟩
/-- inputs are made -/
theorem XB.to {w : World} {g s s' : Nat} {F F' : List Nat} {b8 b9 bx W : Nat} {wr wr' : World} {v : Value} {k : Nat} {vs xs : List Value} (h : XB w g s F b8 b9 bx W wr v k vs xs) (hg : GIn wr' g (gIn 8000 s') F') (hc : Ch F wr wr') (hF : ∀ q ∈ F', q ∈ F ∨ wr.heap.size ≤ q) : XB w g s' F' b8 b9 bx W wr' v k vs xs := by
  have l8 := h.k8.lt
  have l9 := h.k9.lt
  have lx := h.kx.lt
  have hz := h.ch.size
  obtain ⟨n8, n9, nx⟩ := h.nF
  have hn : ∀ b, b < wr.heap.size → b ∉ F → b ∉ F' := fun b hb hn hin => (hF b hin).elim hn (fun e => by omega)
  refine ⟨hg, fun q hq => (hF q hq).elim (h.own q) (fun e => by omega), h.ch.trans hc (fun q hq => .inr (h.own q hq)), h.k8.ch hc n8, h.k9.ch hc n9, h.kx.ch hc nx, ⟨hn _ l8 n8, hn _ l9 n9, hn _ lx nx⟩, h.arr.ch hc (fun q hq => (h.ownv q hq).2.1), fun q hq => ?_, fun i u hu => ?_⟩
  · obtain ⟨f1, f2, f3⟩ := h.ownv q hq
    exact ⟨f1, hn q (h.arr.lt q hq).2 f2, f3⟩
  · obtain ⟨k1, k2⟩ := h.words i u hu
    refine ⟨k1.ch hc (fun q hq => (k2 q hq).2.1), fun q hq => ?_⟩
    obtain ⟨f1, f2, f3⟩ := k2 q hq
    exact ⟨f1, hn q (k1.lt q hq).2 f2, f3⟩
/-- a word is appended, and the array's field is set -/
theorem XB.snoc {w : World} {g s : Nat} {F : List Nat} {b8 b9 bx W : Nat} {wr w2 : World} {v : Value} {k : Nat} {vs xs : List Value} (h : XB w g s F b8 b9 bx W wr v k vs xs) (hne : b8 ≠ bx ∧ b9 ≠ bx) (hbx : w.heap.size ≤ bx) {u v' : Value}
    (hu : row wr 39 1 u W (refsCells (rIn (k * W) W))) (hown : ∀ q, u.ownBlock = some q → w.heap.size ≤ q ∧ q ∉ F ∧ q ≠ b8 ∧ q ≠ b9 ∧ q ≠ bx ∧ v.ownBlock ≠ some q) (h4 : row w2 38 1 v' (k + 1) (vs ++ [u])) (hC : Ch v.ownBlock.toList wr w2) (hf : ∀ q, v'.ownBlock = some q → v.ownBlock = some q ∨ wr.heap.size ≤ q) :
    XB w g s F b8 b9 bx W (w2.setCell ⟨bx, 1, none⟩ v') v' (k + 1) (vs ++ [u]) (xs.set 1 v') := by
  have hcs : Ch [bx] w2 (w2.setCell ⟨bx, 1, none⟩ v') := (Ch.refl _ _).setCell (by simp) _
  have l8 := h.k8.lt
  have l9 := h.k9.lt
  have lx := h.kx.lt
  have hz := h.ch.size
  obtain ⟨n8, n9, nx⟩ := h.nF
  have hFl := h.gin.lt
  have hvk : vs.length = k := by have := h.arr.1; omega
  have hcv : ∀ q ∈ v.ownBlock.toList, w.heap.size ≤ q ∧ q ∉ F ∧ q ≠ b8 ∧ q ≠ b9 ∧ q ≠ bx := fun q hq => h.ownv q (by simpa using hq)
  have hown' : ∀ q, v'.ownBlock = some q → w.heap.size ≤ q ∧ q ∉ F ∧ q ≠ b8 ∧ q ≠ b9 ∧ q ≠ bx := fun q hq => by
    rcases hf q hq with e | e
    · exact h.ownv q e
    · exact ⟨by omega, fun hin => by have := hFl q hin; omega, by omega, by omega, by omega⟩
  refine ⟨(h.gin.same hC (fun q hq hin => (hcv q hin).2.1 hq)).same hcs (fun q hq hin => nx (by rw [List.mem_singleton.1 hin] at hq; exact hq)), h.own, (h.ch.trans hC (fun q hq => .inr (hcv q hq).1)).trans hcs (by simp; omega), (h.k8.ch hC (fun hin => (hcv _ hin).2.2.1 rfl)).ch hcs (by simpa using hne.1), (h.k9.ch hC (fun hin => (hcv _ hin).2.2.2.1 rfl)).ch hcs (by simpa using hne.2), ?_, h.nF, h4.ch hcs (fun q hq => by have := (hown' q hq).2.2.2.2; simpa using this), hown', fun i z hz' => ?_⟩
  · have := (h.kx.ch hC (fun hin => (hcv _ hin).2.2.2.2 rfl)).set (i := 1) v'
    exact this
  · by_cases hi : i < k
    · rw [List.getElem?_append_left (by omega)] at hz'
      obtain ⟨k2, k3⟩ := h.words i z hz'
      refine ⟨(k2.ch hC (fun q hq hin => (k3 q hq).2.2.2.2.2 (by simpa using hin))).ch hcs (fun q hq => by have := (k3 q hq).2.2.2.2.1; simpa using this), fun q hq => ?_⟩
      obtain ⟨f1, f2, f3, f4, f5, f6⟩ := k3 q hq
      refine ⟨f1, f2, f3, f4, f5, fun e => ?_⟩
      rcases hf q e with e2 | e2
      · exact f6 e2
      · have := (k2.lt q hq).2; omega
    · have hik : i = k := by
        have := (List.getElem?_eq_some_iff.1 hz').1
        rw [List.length_append] at this
        simp at this; omega
      subst hik
      rw [List.getElem?_append_right (by omega), hvk, Nat.sub_self] at hz'
      cases hz'
      refine ⟨(hu.ch hC (fun q hq hin => (hown q hq).2.2.2.2.2 (by simpa using hin))).ch hcs (fun q hq => by have := (hown q hq).2.2.2.2.1; simpa using this), fun q hq => ?_⟩
      obtain ⟨f1, f2, f3, f4, f5, f6⟩ := hown q hq
      refine ⟨f1, f2, f3, f4, f5, fun e => ?_⟩
      rcases hf q e with e2 | e2
      · exact f6 e2
      · have := (hu.lt q hq).2; omega
/-- a field of the world is set -/
theorem XB.setx {w : World} {g s : Nat} {F : List Nat} {b8 b9 bx W : Nat} {wr : World} {v : Value} {k : Nat} {vs xs : List Value} (h : XB w g s F b8 b9 bx W wr v k vs xs) (hne : b8 ≠ bx ∧ b9 ≠ bx) (hbx : w.heap.size ≤ bx) (i : Nat) (u : Value) : XB w g s F b8 b9 bx W (wr.setCell ⟨bx, i, none⟩ u) v k vs (xs.set i u) := by
  have hcs : Ch [bx] wr (wr.setCell ⟨bx, i, none⟩ u) := (Ch.refl _ _).setCell (by simp) _
  obtain ⟨n8, n9, nx⟩ := h.nF
  exact ⟨h.gin.same hcs (fun q hq hin => nx (by rw [List.mem_singleton.1 hin] at hq; exact hq)), h.own, h.ch.trans hcs (by simp; omega), h.k8.ch hcs (by simpa using hne.1), h.k9.ch hcs (by simpa using hne.2), h.kx.set (i := i) u, h.nF, h.arr.ch hcs (fun q hq => by have := (h.ownv q hq).2.2.2.2; simpa using this), h.ownv, fun i u hu => ⟨(h.words i u hu).1.ch hcs (fun q hq => by have := ((h.words i u hu).2 q hq).2.2.2.2.1; simpa using this), (h.words i u hu).2⟩⟩
/-- a world of chapter 26's laws: array, word and index are new inputs -/
def BG (w w' : World) (g N W V : Nat) (F : List Nat) (ab : Nat) (cs : List Value) (ws : List WV) (wa ia : Option Addr) (wc ic : Nat) : Prop :=
  Hold ((w : Base).add ab cs) w' g (gIn 8000 (N * W + W + V + 1)) F ((ws.map fun x => (WV.val x, WV.l x)) ++ [(.slice wa W wc, natInts (rIn (N * W) W)), (.slice ia V ic, natInts (rIn (N * W + W) V))]) ∧
    (∀ (i : Nat) (x : WV), ws[i]? = some x → cs[i]? = some x.val) ∧ ws.map WV.l = (List.range N).map fun i => natInts (rIn (i * W) W)
theorem rIn_held {s k : Nat} (hs : s + k ≤ 1000) : (natInts (rIn s k)).length ≤ 1000000 ∧ ∀ r ∈ natInts (rIn s k), -9223372036854775808 ≤ r ∧ r ≤ 9223372036854775807 := by
  refine ⟨by rw [natInts_len, rIn_len]; omega, fun r hr => ?_⟩
  obtain ⟨z, hz, rfl⟩ := List.mem_map.1 hr
  have := rIn_le hz
  omega
theorem XB.world {w : World} {g N W V : Nat} {F : List Nat} {b8 b9 bx : Nat} {wr : World} {v : Value} {vs xs : List Value} (h : XB w g (N * W + W + V + 1) F b8 b9 bx W wr v N vs xs) (hN : 1 ≤ N ∧ N ≤ 4) (hW : W ≤ 3) (_hV : V ≤ 3) {wa ia : Option Addr} {wc ic : Nat}
    (h1 : Held w wr F (.slice wa W wc) (natInts (rIn (N * W) W))) (h2 : Held w wr F (.slice ia V ic) (natInts (rIn (N * W + W) V))) :
    ∃ ab ac cs ws, v = .slice (some ⟨ab, 0, none⟩) N ac ∧ BG w wr g N W V F ab cs ws wa ia wc ic := by
  have hNW : N * W ≤ 12 := Nat.mul_le_mul hN.2 hW
  obtain ⟨ab, ac, rfl⟩ := h.arr.parts (by omega)
  have hlen : vs.length = N := by have := h.arr.1; omega
  obtain ⟨ws, q1, q2, q3⟩ := harr_ws (vs := vs) (ls := (List.range N).map fun i => rIn (i * W) W) (Pr := fun u l => Held w wr F u l) (by rw [hlen]; simp) (fun i u hu => by
    obtain ⟨k1, k2⟩ := h.words i u hu
    have hi : i < N := by have := (List.getElem?_eq_some_iff.1 hu).1; omega
    have hiW : i * W ≤ 12 := Nat.le_trans (Nat.mul_le_mul_right W (by omega : i ≤ N)) hNW
    obtain ⟨ua, uc, rfl⟩ := row.shape k1
    obtain ⟨b1, b2⟩ := rIn_held (s := i * W) (k := W) (by omega)
    refine ⟨rIn (i * W) W, by rw [List.getElem?_map, List.getElem?_range hi]; rfl, ⟨by rw [natInts_len, rIn_len, ← refs_natInts]; exact k1, b1, b2, fun k hk => ⟨(k2 k hk).1, (k2 k hk).2.1⟩⟩, ua, uc, by rw [rIn_len]⟩)
  have harr := h.arr
  rcases harr.2 with ⟨e, _⟩ | ⟨b', cap, cur, e, _, hb, _, _, _, ht⟩
  · cases e
  · cases e
    have hown := h.ownv ab rfl
    have hH : Hold (w : Base) wr g (gIn 8000 (N * W + W + V + 1)) F ((ws.map fun x => (WV.val x, WV.l x)) ++ [(.slice wa W wc, natInts (rIn (N * W) W)), (.slice ia V ic, natInts (rIn (N * W + W) V))]) := ⟨⟨h.gin, h.own, h.ch⟩, fun p hp => by
      rcases List.mem_append.1 hp with hp | hp
      · obtain ⟨x, hx, rfl⟩ := List.mem_map.1 hp
        exact q3 x hx
      · simp only [List.mem_cons, List.not_mem_nil, or_false] at hp
        rcases hp with rfl | rfl
        · exact h1
        · exact h2, fun p hp => by cases hp⟩
    refine ⟨ab, ac, cur.toList, ws, rfl, hH.keepB (b := ab) (xs := cur.toList) ?_ hown.1 hown.2.1, fun i x hx => ?_, by rw [q2, List.map_map]; rfl⟩
    · exact ⟨_, by rw [Array.toArray_toList]; exact hb⟩
    · have h1 : vs[i]? = some x.val := by rw [← q1, List.getElem?_map, hx]; rfl
      rw [← ht] at h1
      have h2 := (List.getElem?_eq_some_iff.1 h1).1
      rw [List.length_take] at h2
      rw [List.getElem?_take_of_lt (by omega)] at h1
      exact h1
/-- the result's cells are set -/
theorem BG.fin {w W1 wp w' : World} {g N W V : Nat} {F : List Nat} {ab : Nat} {cs : List Value} {ws : List WV} {wa ia : Option Addr} {wc ic b6 : Nat} (h : BG W1 wp g N W V F ab cs ws wa ia wc ic) (hc1 : Ch [] w W1) (hb1 : w.heap.size ≤ b6) (hb2 : b6 < W1.heap.size) (hc : Ch [b6] wp w') : BG w w' g N W V F ab cs ws wa ia wc ic := by
  obtain ⟨hH, h2, h3⟩ := h
  have hz := hc1.size
  have hown := hH.own.own
  refine ⟨⟨⟨hH.own.gin.same hc (fun q hq hin => ?_), fun q hq => Nat.le_trans hz (hown q hq), (hc1.trans hH.own.ch (by simp)).trans hc (fun q hq => .inr (by rw [List.mem_singleton.1 hq]; exact hb1))⟩, fun p hp => ?_, fun p hp => ?_⟩, h2, h3⟩
  · have := hown q hq
    rw [List.mem_singleton.1 hin] at this
    exact absurd this (by show ¬ W1.heap.size ≤ b6; omega)
  · have h9 := hH.held p hp
    exact ⟨h9.row.ch hc (fun q hq hin => by
      have := (h9.own q hq).1
      rw [List.mem_singleton.1 hin] at this
      exact absurd this (by show ¬ W1.heap.size ≤ b6; omega)), h9.len, h9.bd, fun q hq => ⟨Nat.le_trans hz (h9.own q hq).1, (h9.own q hq).2⟩⟩
  · have h9 := hH.kept p hp
    exact ⟨h9.1.ch hc (fun hin => by
      have := h9.2.1
      rw [List.mem_singleton.1 hin] at this
      exact absurd this (by show ¬ W1.heap.size ≤ b6; omega)), Nat.le_trans hz h9.2.1, h9.2.2⟩
end Go.Proofs.Ytdmmanfjafempaa
namespace Go.Proofs.Ytdmmanfjafempaa
open Go.RowKit Go.Mem Go.Aig
attribute [local go_sem] Oper.semAt_some
section
set_option maxRecDepth 100000 in
set_option maxHeartbeats 4000000 in
theorem begin26_is (w : World) (n wd v N W V : Nat) (hN : n % 4 + 1 = N) (hW : wd % 3 + 1 = W) (hV : v % 3 + 1 = V) :
    Calls Try.prog 16 #[.int .u8 n, .int .u8 wd, .int .u8 v] w fun e w' => ∃ g F ab ac cs ws wa wc ia ic, e = .returned (.tuple #[.agg #[.pointer (some ⟨g, 0, none⟩), .slice (some ⟨ab, 0, none⟩) N ac, .slice wa W wc, .slice ia V ic, .int .i64 (2 * (N * W + W + V + 1) : Nat)], .bool true]) ∧ BG w w' g N W V F ab cs ws wa ia wc ic := by
  have hN4 : 1 ≤ N ∧ N ≤ 4 := by omega
  have hW3 : 1 ≤ W ∧ W ≤ 3 := by omega
  have hV3 : 1 ≤ V ∧ V ≤ 3 := by omega
  have qN : 1 + (n : Int) % 4 = (N : Int) := by omega
  have qW : 1 + (wd : Int) % 3 = (W : Int) := by omega
  have qV : 1 + (v : Int) % 3 = (V : Int) := by omega
  have hcf : ∀ args w, (callFunc 67 args).run Try.prog w = .ok (.enter 67 args) w := fnvbegin261
  have hNew := fun W => New_yes (w := W) 8000 (by decide) (by decide)
  have HNEW := Lib.hid hNew; clear hNew
  have QN := Lib.hid qN; clear qN
  have QW := Lib.hid qW; clear qW
  have QV := Lib.hid qV; clear qV
  clear hN hW hV
  go_enter Try.func16, Try.ntmps16
  go_wp2_with fail
  refine calls_named fun W1 hW1 => ?_
  have hc1 := alw_ch hW1
  have hb6 := alw_blk (xs := [.pointer none, .slice none 0 0, .slice none 0 0, .slice none 0 0, .int .i64 0]) hW1
  clear hW1
  have h6W := hb6.lt
  refine (HNEW.out W1).mono ?_
  rintro e w2 ⟨g, F1, rfl, hg1, hF1, hc2⟩
  have hb6 := hb6.ch hc2 (by simp)
  have hg0 : GIn w2 g (gIn 8000 0) F1 := hg1
  have hz1 := hc1.size
  have HB6 := Lib.hid hb6; clear hb6
  have HG := Lib.hid hg0; clear hg0 hg1
  have HF1 := Lib.hid (fun k (hk : k ∈ F1) => hF1 k hk); clear hF1
  have H6W := Lib.hid h6W; clear h6W
  have HC01 := Lib.hid hc1
  have HC2 := Lib.hid hc2; clear hc1 hc2
  go_upto_region 6 with fail
  refine wp_named fun W3 hW3' => ?_
  have hc3 : Ch [] w2 W3 := by rw [hW3']; exact (((Ch.refl _ _).alloc _).alloc _).alloc _
  have k8 : blk W3 w2.heap.size [.pointer (some ⟨g, 0, none⟩)] := by rw [hW3']; exact ((blk.new' _ _ (by simp)).alloc _).alloc _
  have k9 : blk W3 (w2.heap.size + 1) [.int .i64 0] := by rw [hW3']; exact (blk.new' _ _ (by simp)).alloc _
  have kx : blk W3 (w2.heap.size + 1 + 1) [.pointer (some ⟨g, 0, none⟩), .slice none 0 0, .slice none 0 0, .slice none 0 0, .int .i64 0] := by rw [hW3']; exact blk.new' _ _ (by simp)
  clear hW3'
  have hFl := HG.out.lt
  have hzw := HC2.out.size
  have h6l := HB6.out.lt
  have hxb : XB W1 g 0 F1 w2.heap.size (w2.heap.size + 1) (w2.heap.size + 1 + 1) W W3 (.slice none 0 0) 0 [] [.pointer (some ⟨g, 0, none⟩), .slice none 0 0, .slice none 0 0, .slice none 0 0, .int .i64 0] :=
    ⟨HG.out.same hc3 (by simp), fun q hq => HF1.out q hq, HC2.out.trans hc3 (by simp), k8, k9, kx, ⟨fun hin => by have := hFl _ hin; omega, fun hin => by have := hFl _ hin; omega, fun hin => by have := hFl _ hin; omega⟩, ⟨rfl, .inl ⟨rfl, rfl⟩⟩, by simp [Value.ownBlock], by simp⟩
  have hne : w2.heap.size ≠ w2.heap.size + 1 + 1 ∧ w2.heap.size + 1 ≠ w2.heap.size + 1 + 1 := ⟨by omega, by omega⟩
  have hlx : W1.heap.size ≤ w2.heap.size + 1 + 1 := by omega
  have h6W := H6W.out
  have h6n : w.heap.size ∉ F1 ∧ w.heap.size ≠ w2.heap.size ∧ w.heap.size ≠ w2.heap.size + 1 ∧ w.heap.size ≠ w2.heap.size + 1 + 1 := ⟨fun hin => by have := HF1.out _ hin; omega, by omega, by omega, by omega⟩
  clear h6W
  have hb6 := HB6.out.ch hc3 (by simp)
  generalize w2.heap.size + 1 + 1 = bx at *
  generalize w2.heap.size + 1 = b9 at *
  generalize w2.heap.size = b8 at *
  clear k8 k9 kx hFl hzw h6l hc3 HG HF1 HC2 HB6
  have HXB := Lib.hid hxb; clear hxb
  have HB6 := Lib.hid hb6; clear hb6
  have HNE := Lib.hid hne; clear hne
  have HLX := Lib.hid hlx; clear hlx
  have H6N := Lib.hid h6n; clear h6n
  go_wp2_with fail
  rw [QN.out]
  go_loopw [30] (fun i wr => ∃ (k : Nat) (F : List Nat) (vv : Value) (vs : List Value), k ≤ N ∧ i = .int .u8 k ∧ XB W1 g (k * W) F b8 b9 bx W wr vv k vs [.pointer (some ⟨g, 0, none⟩), vv, .slice none 0 0, .slice none 0 0, .int .i64 0] ∧ blk wr w.heap.size [.pointer none, .slice none 0 0, .slice none 0 0, .slice none 0 0, .int .i64 0] ∧ w.heap.size ∉ F ∧ vv.ownBlock ≠ some w.heap.size) (fun i _ => N - (intOf i).toNat)
  case atStart => exact ⟨0, F1, _, [], Nat.zero_le _, rfl, by rw [Nat.zero_mul]; exact HXB.out, HB6.out, H6N.out.1, by simp [Value.ownBlock]⟩
  case round =>
    clear HXB HB6
    obtain ⟨k, F, vv, vs, hk, rfl, hxb, hb6, h6F, h6v⟩ := hrel
    obtain ⟨oa, oc, rfl⟩ := row.shape hxb.arr
    by_cases hlt : k < N
    · have hkx := hxb.kx
      have HXB := Lib.hid hxb; clear hxb
      have HB6 := Lib.hid hb6; clear hb6
      have H6F := Lib.hid h6F; clear h6F
      have H6V := Lib.hid h6v; clear h6v
      have hs8 : k * W + W < 8000 := by
        have : k * W ≤ 4 * W := Nat.mul_le_mul_right W (by omega)
        omega
      go_wp2_with fail
      refine Ord.St.door (fun w' => w'.cell? ⟨bx, 1, none⟩ = some (.slice oa k oc)) [.fl, .ho, .fl, .fl, .fl, .fl, .fl, .ef, .ef, .ef, .fl, .ef] [0, 1, 0, 0, 8, 24, 56, 124, 252, 511, 1023, 2047] [0, 1, 2, 3, 4, 5, 6, 7, 8, 9, 10, 11] mixed (by kernel_rfl) rfl ?_
      obtain ⟨Wc, hWc⟩ : ∃ Wc, Wc = wr.drew := ⟨_, rfl⟩
      rw [← hWc]
      have hcur : Ch [] wr Wc := by rw [hWc]; exact (Ch.refl _ _).drew
      clear hWc
      have hxb := HXB.out.ch0 hcur
      replace hkx := hxb.kx
      have hbg := begin261_is (b9 := b9) hxb.gin hW3.1 hW3.2 hs8 (hxb.k8.cell (i := 0) rfl)
      rw [← QW.out] at hbg
      have HBG := Lib.hid hbg; clear hbg
      have hb6c := HB6.out.ch hcur (by simp)
      have HB6c := Lib.hid hb6c; clear hb6c HB6
      have HXBc := Lib.hid hxb; clear hxb HXB hcur
      refine Ord.St.fl2 (T' := ?_) 0 [1, 2, 3, 4, 5, 6, 7, 8, 9, 10, 11] _ _ rfl (by kernel_rfl) rfl rfl rfl rfl (fun K w' hk => ?_) ?_
      rotate_left
      · go_step; exact hk
      refine Ord.St.ho2 (T' := ?_) 1 [2, 3, 4, 5, 6, 7, 8, 9, 10, 11] _ _ rfl (by kernel_rfl) rfl rfl rfl rfl ?_ (fun K w' hw' hk => ?_) ?_
      rotate_left
      · exact hkx.cell (i := 1) rfl
      · have q1 := hw'; go_step; exact hk
      refine Ord.St.fl2 (T' := ?_) 2 [3, 4, 5, 6, 7, 8, 9, 10, 11] _ _ rfl (by kernel_rfl) rfl rfl rfl rfl (fun K w' hk => ?_) ?_
      rotate_left
      · go_step; exact hk
      refine Ord.St.fl2 (T' := ?_) 3 [4, 5, 6, 7, 8, 9, 10, 11] _ _ rfl (by kernel_rfl) rfl rfl rfl rfl (fun K w' hk => ?_) ?_
      rotate_left
      · go_step; exact hk
      refine Ord.St.fl2 (T' := ?_) 4 [5, 6, 7, 8, 9, 10, 11] _ _ rfl (by kernel_rfl) rfl rfl rfl rfl (fun K w' hk => ?_) ?_
      rotate_left
      · go_step; exact hk
      refine Ord.St.fl2 (T' := ?_) 5 [6, 7, 8, 9, 10, 11] _ _ rfl (by kernel_rfl) rfl rfl rfl rfl (fun K w' hk => ?_) ?_
      rotate_left
      · go_step; exact hk
      refine Ord.St.fl2 (T' := ?_) 6 [7, 8, 9, 10, 11] _ _ rfl (by kernel_rfl) rfl rfl rfl rfl (fun K w' hk => ?_) ?_
      rotate_left
      · go_step; exact hk
      refine Ord.St.efC 7 [8, 9, 10, 11] _ rfl (by kernel_rfl) (fun K hK => ?_)
      go_wp2_with fail
      refine HBG.out.mono ?_
      rintro e w1 ⟨u, rfl, F2, g1, g2, g3, g4, g5, g6⟩
      rw [rIn_len] at g5
      obtain ⟨ua, uc, rfl⟩ := row.shape g5
      have g2' : Ch F Wc w1 := by simpa using g2
      have hx1 := HXBc.out.to g1 g2' g3
      have hb61 := HB6c.out.ch g2' H6F.out
      have h6F2 : w.heap.size ∉ F2 := fun hin => (g3 _ hin).elim H6F.out (fun e => by have := HB6c.out.lt; omega)
      have hc8 : Ch [] w1 (w1.alloc (.cells #[.slice ua W uc] 38)) := (Ch.refl _ _).alloc _
      have hx2 := hx1.ch0 hc8
      have hrw2 := g5.ch hc8 (by simp)
      have hnb : blk (w1.alloc (.cells #[.slice ua W uc] 38)) w1.heap.size [.slice ua W uc] := blk.new' _ _ rfl
      have hul : ∀ q, (Value.slice ua W uc).ownBlock = some q → W1.heap.size ≤ q ∧ q ∉ F2 ∧ q ≠ b8 ∧ q ≠ b9 ∧ q ≠ bx ∧ (Value.slice oa k oc).ownBlock ≠ some q := fun q hq => by
        obtain ⟨f1, f2⟩ := g6 q hq
        have := HXBc.out.k8.lt
        have := HXBc.out.k9.lt
        have := HXBc.out.kx.lt
        have := HXBc.out.ch.size
        refine ⟨by omega, f2, by omega, by omega, by omega, fun e => ?_⟩
        have := (HXBc.out.arr.lt q e).2
        omega
      replace hkx := hx1.kx
      have HX2 := Lib.hid hx2; clear hx2 hx1
      have HRW2 := Lib.hid hrw2; clear hrw2
      have HNB := Lib.hid hnb; clear hnb
      have HUL := Lib.hid hul; clear hul
      have HB61 := Lib.hid (hb61.ch hc8 (by simp)); clear hb61
      have H6F2 := Lib.hid h6F2; clear h6F2
      have hz6 := HB6c.out.lt
      have hzz := g2'.size
      clear g1 g2 g2' g3 g4 g5 g6 HBG HXBc HB6c hc8
      go_wp2_with fail
      refine ⟨rfl, hK _ _ ?_ ?_⟩
      · exact hkx.cell (i := 1) rfl
      clear hK K
      refine Ord.St.efC 8 [9, 10, 11] _ rfl (by kernel_rfl) (fun K hK => ?_)
      go_wp2_with fail
      replace hkx := hkx.alloc (.cells #[.slice ua W uc] 38)
      refine ⟨rfl, hK _ _ ?_ ?_⟩
      · exact hkx.cell (i := 1) rfl
      clear hK K
      refine Ord.St.ef 9 [10, 11] _ rfl (by kernel_rfl) (fun K hK => ?_)
      go_wp2_with (at_builtin; go_loud (refine wpList_append_row slRows rfl _ _ rfl (v := .slice oa k oc) (n := k) (xs := vs) rfl HX2.out.arr (ad := ⟨w1.heap.size, 0, none⟩) (m := 1) (c := 1) (news := [.slice ua W uc]) rfl rfl (news_blk HNB.out) (by simp [Value.oneCell']) (by omega) (by omega) ?_; intro v' w4 hown4 hC4 hf4; obtain ⟨gb, gc, rfl⟩ := row.parts hown4 (by omega); have HO4 := Lib.hid hown4; clear hown4; have HC4 := Lib.hid hC4; clear hC4; have HF4 := Lib.hid hf4; clear hf4))
      replace hkx := hkx.ch HC4.out (fun hk => (HX2.out.ownv _ (by simpa using hk)).2.2.2.2 rfl)
      have k1 := hkx.cell (i := 1) rfl
      have k2 := hkx.frozen (i := 1)
      refine ⟨rfl, hK _ _ ?_⟩; clear hK K
      refine Ord.St.fl2 (T' := ?_) 10 [11] _ _ rfl (by kernel_rfl) rfl rfl rfl rfl (fun K w' hk => ?_) ?_
      rotate_left
      · go_step; exact hk
      refine Ord.St.ef 11 [] _ rfl (by kernel_rfl) (fun K hK => ?_)
      go_wp2_with fail
      refine ⟨rfl, hK _ _ ?_⟩; clear hK K
      refine Ord.St.nil ?_
      go_wp2_with fail
      go_roundw
      case rel =>
        have hsn := HX2.out.snoc HNE.out HLX.out HRW2.out HUL.out HO4.out HC4.out HF4.out
        have hcs : Ch [bx] w4 (w4.setCell ⟨bx, 1, none⟩ (.slice (some ⟨gb, 0, none⟩) (k + 1) gc)) := (Ch.refl _ _).setCell (by simp) _
        refine ⟨k + 1, F2, .slice (some ⟨gb, 0, none⟩) (k + 1) gc, vs ++ [.slice ua W uc], by omega, by go_num, ?_, (HB61.out.ch HC4.out (fun hin => H6V.out (by simpa using hin))).ch hcs (by have := H6N.out.2.2.2; simpa using this), H6F2.out, fun e => ?_⟩
        · rw [Nat.succ_mul]; exact hsn
        · rcases HF4.out _ e with e2 | e2
          · exact H6V.out e2
          · simp at e2; omega
      case measure => simp [intOf]; omega
    · have hkN : k = N := by omega
      rw [hkN] at hxb ⊢
      clear hkN hk
      have hNW : N * W ≤ 12 := Nat.mul_le_mul hN4.2 hW3.2
      have hB1 := begin261_is (b9 := b9) hxb.gin hW3.1 hW3.2 (by omega) (hxb.k8.cell (i := 0) rfl)
      rw [← QW.out] at hB1
      have HB1 := Lib.hid hB1; clear hB1
      have HXB := Lib.hid hxb; clear hxb
      have HB6 := Lib.hid hb6; clear hb6
      have H6F := Lib.hid h6F; clear h6F
      clear h6v
      go_wp2_with fail
      refine HB1.out.mono ?_
      rintro e w3 ⟨u1, rfl, F3, g1, g2, g3, g4, g5, g6⟩
      have g2' : Ch F wr w3 := by simpa using g2
      have hx3 := HXB.out.to g1 g2' g3
      have hz3 := HXB.out.ch.size
      have hlx := HXB.out.kx.lt
      rw [rIn_len] at g5
      obtain ⟨wa, wc, rfl⟩ := row.shape g5
      obtain ⟨p1, p2⟩ := rIn_held (s := N * W) (k := W) (by omega)
      have hu1 : Held W1 w3 F3 (.slice wa W wc) (natInts (rIn (N * W) W)) := ⟨by rw [natInts_len, rIn_len, ← refs_natInts]; exact g5, p1, p2, fun q hq => ⟨by have := (g6 q hq).1; omega, (g6 q hq).2⟩⟩
      have hu1x : ∀ q, (Value.slice wa W wc).ownBlock = some q → q ≠ bx := fun q hq => by have := (g6 q hq).1; omega
      have hB2 := begin261_is (b9 := b9) g1 hV3.1 hV3.2 (by omega) (hx3.k8.cell (i := 0) rfl)
      rw [← QV.out] at hB2
      have HB2 := Lib.hid hB2; clear hB2
      have hb63 := HB6.out.ch g2' H6F.out
      have h6F3 : w.heap.size ∉ F3 := fun hin => (g3 _ hin).elim H6F.out (fun e => by have := HB6.out.lt; omega)
      have HX3 := Lib.hid hx3; clear hx3
      have HU1 := Lib.hid hu1; clear hu1
      have HU1X := Lib.hid hu1x; clear hu1x
      have HB63 := Lib.hid hb63; clear hb63
      have H6F3 := Lib.hid h6F3; clear h6F3
      clear g1 g2 g2' g3 g4 g5 g6 p1 p2 HXB HB6 H6F hlx hz3
      go_wp2_with fail
      refine HB2.out.mono ?_
      rintro e w4 ⟨u2, rfl, F4, g1, g2, g3, g4, g5, g6⟩
      have g2' : Ch F3 w3 w4 := by simpa using g2
      have hx4 := HX3.out.to g1 g2' g3
      have hz3 := HX3.out.ch.size
      have hlx := HX3.out.kx.lt
      rw [rIn_len] at g5
      obtain ⟨ia, ic, rfl⟩ := row.shape g5
      obtain ⟨p1, p2⟩ := rIn_held (s := N * W + W) (k := V) (by omega)
      have hu2 : Held W1 w4 F4 (.slice ia V ic) (natInts (rIn (N * W + W) V)) := ⟨by rw [natInts_len, rIn_len, ← refs_natInts]; exact g5, p1, p2, fun q hq => ⟨by have := (g6 q hq).1; omega, (g6 q hq).2⟩⟩
      have hu2x : ∀ q, (Value.slice ia V ic).ownBlock = some q → q ≠ bx := fun q hq => by have := (g6 q hq).1; omega
      have hu1 := HU1.out.keep g2' g3
      have hb64 := HB63.out.ch g2' H6F3.out
      have h6F4 : w.heap.size ∉ F4 := fun hin => (g3 _ hin).elim H6F3.out (fun e => by have := HB63.out.lt; omega)
      have kx := hx4.kx
      have x2 := kx.cell (i := 2) rfl
      have x3 := kx.cell (i := 3) rfl
      have f2 := kx.frozen (i := 2)
      have f3 := kx.frozen (i := 3)
      have HX4 := Lib.hid hx4; clear hx4
      have HU1b := Lib.hid hu1; clear hu1
      have HU2 := Lib.hid hu2; clear hu2
      have HU2X := Lib.hid hu2x; clear hu2x
      have HB64 := Lib.hid hb64; clear hb64
      have H6F4 := Lib.hid h6F4; clear h6F4
      clear g1 g2 g2' g3 g4 g5 g6 p1 p2 HX3 HB63 H6F3 hlx hz3 HU1 kx
      go_upto_region 11 with fail
      refine wp_named fun W5 hW5 => ?_
      have hx5 : XB W1 g (N * W + W + V) F4 b8 b9 bx W W5 (.slice oa N oc) N vs [.pointer (some ⟨g, 0, none⟩), .slice oa N oc, .slice wa W wc, .slice ia V ic, .int .i64 0] := by rw [hW5]; exact (HX4.out.setx HNE.out HLX.out 2 _).setx HNE.out HLX.out 3 _
      have hcs : Ch [bx] w4 W5 := by rw [hW5]; exact ((Ch.refl _ _).setCell (by simp) _).setCell (by simp) _
      clear hW5
      have hh := fun (z : Value) (l : List Int) (h : Held W1 w4 F4 z l) (hz : ∀ q, z.ownBlock = some q → q ≠ bx) => (⟨h.row.ch hcs (fun q hq => by have := hz q hq; simpa using this), h.len, h.bd, h.own⟩ : Held W1 W5 F4 z l)
      have hu1 := hh _ _ HU1b.out HU1X.out
      have hu2 := hh _ _ HU2.out HU2X.out
      have hb65 := HB64.out.ch hcs (by have := H6N.out.2.2.2; simpa using this)
      have hB3 := begin261_is (b9 := b9) (k := 1) hx5.gin (by omega) (by omega) (by omega) (hx5.k8.cell (i := 0) rfl)
      have HB3 := Lib.hid hB3; clear hB3
      have HX5 := Lib.hid hx5; clear hx5
      have HU1c := Lib.hid hu1; clear hu1 HU1b
      have HU2c := Lib.hid hu2; clear hu2 HU2
      have HB65 := Lib.hid hb65; clear hb65 HB64
      clear hcs hh x2 x3 f2 f3 HX4
      go_wp2_with fail
      refine HB3.out.mono ?_
      rintro e w6 ⟨u3, rfl, F6, g1, g2, g3, g4, g5, g6⟩
      have g2' : Ch F4 W5 w6 := by simpa using g2
      have hx6 := HX5.out.to g1 g2' g3
      have hu1 := HU1c.out.keep g2' g3
      have hu2 := HU2c.out.keep g2' g3
      have hb66 := HB65.out.ch g2' H6F4.out
      rw [rIn_len] at g5
      obtain ⟨ub, uc, rfl⟩ := g5.parts (by omega)
      have c_u := row_at2 g5 (k := 0) (v := .int .i64 (2 * (N * W + W + V + 1) : Nat)) rfl
      have c_e := hx6.k9.cell (i := 0) rfl
      have kx := hx6.kx
      have x0 := kx.cell (i := 0) rfl
      have x1 := kx.cell (i := 1) rfl
      have x2 := kx.cell (i := 2) rfl
      have x3 := kx.cell (i := 3) rfl
      have x4 := kx.cell (i := 4) rfl
      have f4 := kx.frozen (i := 4)
      have HX6 := Lib.hid hx6; clear hx6
      have HU1d := Lib.hid hu1; clear hu1 HU1c
      have HU2d := Lib.hid hu2; clear hu2 HU2c
      have HB66 := Lib.hid hb66; clear hb66 HB65
      clear g1 g2 g2' g3 g4 g5 g6 kx HX5
      go_upto_region 15 with fail
      refine wp_named fun W7 hW7 => ?_
      have hx7 : XB W1 g (N * W + W + V + 1) F6 b8 b9 bx W W7 (.slice oa N oc) N vs [.pointer (some ⟨g, 0, none⟩), .slice oa N oc, .slice wa W wc, .slice ia V ic, .int .i64 (2 * ((N : Int) * W + W + V + 1))] := by rw [hW7]; exact HX6.out.setx HNE.out HLX.out 4 _
      have hcs : Ch [bx] w6 W7 := by rw [hW7]; exact (Ch.refl _ _).setCell (by simp) _
      clear hW7
      have hh := fun (z : Value) (l : List Int) (h : Held W1 w6 F6 z l) (hz : ∀ q, z.ownBlock = some q → q ≠ bx) => (⟨h.row.ch hcs (fun q hq => by have := hz q hq; simpa using this), h.len, h.bd, h.own⟩ : Held W1 W7 F6 z l)
      have hu1 := hh _ _ HU1d.out HU1X.out
      have hu2 := hh _ _ HU2d.out HU2X.out
      have hb67 := HB66.out.ch hcs (by have := H6N.out.2.2.2; simpa using this)
      obtain ⟨ab, ac, cs, ws, e1, hbg⟩ := hx7.world hN4 hW3.2 hV3.2 hu1 hu2
      cases e1
      have kx := hx7.kx
      clear x0 x1 x2 x3 x4 f4 c_u c_e hh hcs hu1 hu2
      have x0 := kx.cell (i := 0) rfl
      have x1 := kx.cell (i := 1) rfl
      have x2 := kx.cell (i := 2) rfl
      have x3 := kx.cell (i := 3) rfl
      have x4 := kx.cell (i := 4) rfl
      have z0 := hb67.cell (i := 0) rfl
      have z1 := hb67.cell (i := 1) rfl
      have z2 := hb67.cell (i := 2) rfl
      have z3 := hb67.cell (i := 3) rfl
      have z4 := hb67.cell (i := 4) rfl
      have f0 := hb67.frozen (i := 0)
      have f1 := hb67.frozen (i := 1)
      have f2 := hb67.frozen (i := 2)
      have f3 := hb67.frozen (i := 3)
      have f4 := hb67.frozen (i := 4)
      have HBG := Lib.hid hbg; clear hbg
      clear kx hb67 hx7 HX6 HU1d HU2d HB66
      go_wp2_with fail
      refine bodyPost_ret (v := .tuple #[.agg #[.pointer (some ⟨g, 0, none⟩), .slice (some ⟨ab, 0, none⟩) N oc, .slice wa W wc, .slice ia V ic, .int .i64 (2 * ((N : Int) * W + W + V + 1))], .bool true]) (by simp [results, Try.results16, go_sem, z0, z1, z2, z3, z4]) rfl ?_
      have hcs : Ch [w.heap.size] W7 (((((W7.setCell ⟨w.heap.size, 0, none⟩ (.pointer (some ⟨g, 0, none⟩))).setCell ⟨w.heap.size, 1, none⟩ (.slice (some ⟨ab, 0, none⟩) N oc)).setCell ⟨w.heap.size, 2, none⟩ (.slice wa W wc)).setCell ⟨w.heap.size, 3, none⟩ (.slice ia V ic)).setCell ⟨w.heap.size, 4, none⟩ (.int .i64 (2 * ((N : Int) * W + W + V + 1)))) := (((((Ch.refl _ _).setCell (by simp) _).setCell (by simp) _).setCell (by simp) _).setCell (by simp) _).setCell (by simp) _
      refine ⟨g, F6, ab, oc, cs, ws, wa, wc, ia, ic, ?_, BG.fin HBG.out HC01.out (Nat.le_refl _) H6W.out hcs⟩
      rw [show ((2 * (N * W + W + V + 1) : Nat) : Int) = 2 * ((N : Int) * W + W + V + 1) by push_cast; rfl]
end
end Go.Proofs.Ytdmmanfjafempaa
namespace Go.Proofs.Ytdmmanfjafempaa
open Go.RowKit Go.Mem Go.Aig
theorem fnvmIs1 : Fnv 84 := fnv_of Try.func84 (by simp [Try.f84]) (by simp [Try.f84])
section
variable {w : World} {g m : Nat} {G : Gra} {F : List Nat}
set_option maxRecDepth 100000 in
set_option maxHeartbeats 2000000 in
theorem mIs1_is {by' bn i n yc : Nat} {ya : Option Addr} {r : Nat} {Rs : World → Prop} (hI : Calls Try.prog 85 #[.pointer (some ⟨m, 0, none⟩), .slice ya n yc, .int .u32 i] w fun e w' => e = .returned (.int .i64 r) ∧ Rs w')
    (c1 : w.cell? ⟨by', 0, none⟩ = some (.slice ya n yc)) (c2 : w.cell? ⟨bn, 0, none⟩ = some (.int .u32 i)) :
    Calls Try.prog 84 (#[.pointer (some ⟨m, 0, none⟩)] ++ #[.pointer (some ⟨by', 0, none⟩), .pointer (some ⟨bn, 0, none⟩)]) w fun e w' => e = .returned (.int .i64 r) ∧ Rs w' := by
  show Calls Try.prog 84 #[.pointer (some ⟨m, 0, none⟩), .pointer (some ⟨by', 0, none⟩), .pointer (some ⟨bn, 0, none⟩)] w _
  go_enter Try.func84, Try.ntmps84
  go_wp2_with fail
  refine hI.mono ?_
  rintro e w1 ⟨rfl, h⟩
  go_wp2_with fail
  go_ret
  exact ⟨rfl, h⟩
set_option maxRecDepth 100000 in
set_option maxHeartbeats 4000000 in
theorem mIs_is (h : GIn w g G F) {y : WV} (hy : WVin w F y) (i : Nat) (hi : i < 4294967296) :
    Calls Try.prog 22 #[.pointer (some ⟨g, 0, none⟩), y.val, .int .u32 i] w fun e w' => e = .returned (.tuple #[.int .i64 (isG G y.l i).2.1, .int .i64 (isG G y.l i).2.2]) ∧ GTo w g (isG G y.l i).1 F w' := by
  have hpos := h.ok.wf.pos
  have hroom := h.ok.room
  have hmost := h.ok.most
  have hL := fun (W : World) (hW : Ch [] w W) => Len_g (h.same hW (by simp))
  have hok := chk26_ok (G := G) (idx := []) (refs := []) (ws := [y.l])
  have hlt := chk26_lt G [] [] [y.l]
  unfold isG
  obtain ⟨cc, hcc⟩ : ∃ cc, chk26 G [] [] [y.l] = cc := ⟨_, rfl⟩
  rw [hcc] at hok hlt ⊢
  obtain ⟨S, hS⟩ : ∃ S, isR (G, 0) (nats y.l) y.l.length i = S := ⟨_, rfl⟩
  rw [hS]
  generalize hWW : (if cc ≠ 0 then (G, 0, cc) else rres G S : Res) = WW
  have hylen := hy.ok.len
  have hchk := fun (W : World) (q lb : Nat) (hW : Ch [] w W) (hq : blk W q [.slice (some ⟨lb, 0, none⟩) 1 1]) (hl : blk W lb [y.val]) =>
    mcheck_is (h.same hW (by simp)) (LS.one (c := 1) (hq.cell (i := 0) rfl) rfl (at1 hl (hy.ch hW).ok)) (n := 1) (c := 1) (by omega) (by rw [lsW_one]; simp) (by rw [lsW_one]; simp) (RS.nil W) (RS.nil W) (by omega) (by omega) (by intro z hz; simp at hz)
  simp only [lsW_one, List.map_cons, List.map_nil, hcc] at hchk
  have hbuild : cc = 0 → ∀ (W1 : World), Ch [] w W1 → blk W1 w.heap.size [y.val] → blk W1 (w.heap.size + 1) [.int .u32 i] →
      Calls Try.prog 83 #[.pointer (some ⟨g, 0, none⟩), .func (.func 84) #[] #[.pointer (some ⟨w.heap.size, 0, none⟩), .pointer (some ⟨w.heap.size + 1, 0, none⟩)]] W1 fun e w' => ∃ v, e = .returned (.tuple #[v, .int .i64 S.1.2]) ∧ MB W1 g G F S.1 (PostR S.2) mzR v w' := fun h0 W1 hW1 k1 k2 => by
    obtain ⟨o1, o2, o3, _, _⟩ := hok h0
    have hyw := o1 y.l (by simp)
    have hn1 : 1 ≤ y.l.length := o2 (by simp)
    have hn16 : y.l.length ≤ 16 := o3 (by simp)
    refine mbuildR_is (h.same hW1 (by simp)) 84 _ fnvmIs1 S.1 _ (fun W m hm hW hM => ?_)
    have hall := hW1.trans hW (by simp)
    have hyW : WVin W F ⟨y.a, natInts (nats y.l), y.c⟩ := by rw [hyw.cast]; exact hy.ch hall
    have hyr : ∀ r ∈ nats y.l, r < 2 * G.nodes.length := hyw.lt
    have hI := mis_is hM y.l.length y.c i (by rw [nats_len]) hn1 (by omega) hi hyW hyr
    have hfull := eqW_full hM.gin.ok (n := y.l.length) (by rw [nats_len]) (constL_len i _) hn1 (by omega) hyr (fun r hr => by have := constL_le i _ r hr; show r < 2 * G.nodes.length; omega)
    have hst := (Sim.start hM.gin.ok).step hfull (Y := eqW G (nats y.l) (constL i y.l.length)) (fun _ _ => rfl)
    have e0 : rstep (G, 0) (eqW G (nats y.l) (constL i y.l.length)) = S := hS
    rw [e0] at hst
    have c1 := (k1.ch hW (by simp)).cell (i := 0) (v := y.val) rfl
    have c2 := (k2.ch hW (by simp)).cell (i := 0) rfl
    unfold WV.val at c1
    have h1 := mIs1_is hI c1 c2
    refine h1.mono ?_
    rintro e W' ⟨rfl, F', q1, q2, q3, q4⟩
    exact ⟨_, _, F', rfl, hst.1, q1, q2, q3, q4, fun hz => by show _ = _; rw [hst.2.2.2.1 hz]⟩
  obtain ⟨ya, yl, yc⟩ := y
  simp only [WV.val] at *
  clear hok hcc hS hy
  have HL := Lib.hid hL; clear hL
  have HCHK := Lib.hid hchk; clear hchk
  have HBU := Lib.hid hbuild; clear hbuild
  have H := Lib.hid h; clear h
  have HWW := Lib.hid hWW; clear hWW
  have hn0 : ((G.nodes.length : Int) == 0) = false := beqN (by omega)
  go_enter Try.func22, Try.ntmps22
  go_upto_region 1 with fail
  refine wp_named fun W0 hW0 => ?_
  have hc0 : Ch [] w W0 := by rw [hW0]; exact ((Ch.refl _ _).alloc _).alloc _
  have hb0 : blk W0 w.heap.size [.slice ya yl.length yc] := by rw [hW0]; exact (blk.new' _ _ (by simp)).alloc _
  have hb1 : blk W0 (w.heap.size + 1) [.int .u32 i] := by rw [hW0]; exact blk.new' _ _ (by simp)
  have d0 := hb0.cell (i := 0) rfl
  have l0 := hb0.lt
  have l1 := hb1.lt
  clear hW0
  have hLL := HL.out W0 hc0
  have HC0 := Lib.hid hc0; clear hc0
  have HB0 := Lib.hid hb0; clear hb0
  have HB1 := Lib.hid hb1; clear hb1
  go_wp2_with fail
  refine hLL.mono ?_
  rintro e w' ⟨rfl, rfl⟩
  clear hLL
  go_wp2_with fail
  refine calls_named fun W1 hW1 => ?_
  have hc1 : Ch [] W0 W1 := by rw [hW1]; exact ((Ch.refl _ _).alloc _).alloc _
  have e1 : blk W1 W0.heap.size [.slice ya yl.length yc] := by rw [hW1]; exact (blk.new' _ _ (by simp)).alloc _
  have e2 : blk W1 (W0.heap.size + 1) [.slice (some ⟨W0.heap.size, 0, none⟩) 1 1] := by rw [hW1]; exact blk.new' _ _ (by simp)
  clear hW1
  refine (HCHK.out W1 _ _ (HC0.out.trans hc1 (by simp)) e2 e1).mono ?_
  rintro e w2 ⟨rfl, hc2⟩
  have hc02 := hc1.trans hc2 (by simp)
  have HC2 := Lib.hid (HC0.out.trans hc02 (by simp))
  have HB0' := Lib.hid (HB0.out.ch hc02 (by simp))
  have HB1' := Lib.hid (HB1.out.ch hc02 (by simp))
  clear e1 e2 hc1 hc2 hc02 d0 HB0 HB1 HCHK
  by_cases hz : cc = 0
  · have hBB := HBU.out hz w2 HC2.out HB0'.out HB1'.out
    have hww := HWW.out
    rw [if_neg (by simp [hz])] at hww
    subst hz
    have HBB := Lib.hid hBB; clear hBB HBU
    have HW2 := Lib.hid hww; clear hww
    go_wp2_with fail
    refine HBB.out.mono ?_
    rintro e w3 ⟨v, rfl, hmb⟩
    obtain ⟨rfl, hgt⟩ := MB.gto HC2.out hmb
    rw [HW2.out] at hgt ⊢
    have HGT := Lib.hid hgt; clear hgt hmb
    go_wp2_with fail
    go_ret2
    exact ⟨by rw [← HW2.out, rres_e]; rfl, HGT.out⟩
  · have hq : ((cc : Int) != 0) = true := by simp; omega
    have hww := HWW.out
    rw [if_pos hz] at hww
    have HW2 := Lib.hid hww; clear hww
    have HZ := Lib.hid hz; clear hz
    go_wp2_with fail
    go_ret2
    exact ⟨by rw [← HW2.out]; rfl, by rw [← HW2.out]; exact GTo.same H.out HC2.out⟩
end
section
variable {w0 : Base} {w : World} {g : Nat} {G : Gra} {F : List Nat} {L : List (Value × List Int)}
theorem mIs_h (h : Hold w0 w g G F L) {ya : Option Addr} {yl : List Int} {m yc : Nat} (hy : (.slice ya m yc, yl) ∈ L) (hym : yl.length = m) (i : Nat) (hi : i < 4294967296) {G' : Gra} {r e : Nat} (hR : isG G yl i = (G', r, e)) :
    Calls Try.prog 22 #[.pointer (some ⟨g, 0, none⟩), .slice ya m yc, .int .u32 i] w fun en w' => ∃ F', en = .returned (.tuple #[.int .i64 r, .int .i64 e]) ∧ Hold w0 w' g G' F' L := by
  have hc := mIs_is h.own.gin (h.at hy hym) i hi
  simp only [WV.val, hym] at hc
  exact Calls.ref h hc hR
end
end Go.Proofs.Ytdmmanfjafempaa
namespace Go.Mem
open Go.MapKept
/-- the map holds just these keys and values -/
def UMap (w : World) (mb : Nat) (L : List (Nat × Value)) : Prop := ∃ es clock, w.heap[mb]? = some (.map es clock) ∧ (es.toList.map fun e => (e.key, e.val)) = L.map fun p => (Value.int .u8 p.1, p.2)
theorem UMap.of_heap {w w' : World} {mb : Nat} {L : List (Nat × Value)} (h : UMap w mb L) (e : w'.heap[mb]? = w.heap[mb]?) : UMap w' mb L := by
  obtain ⟨es, clock, h1, h2⟩ := h
  exact ⟨es, clock, e.trans h1, h2⟩
theorem UMap.lt {w : World} {mb : Nat} {L : List (Nat × Value)} (h : UMap w mb L) : mb < w.heap.size := by
  obtain ⟨es, clock, h1, _⟩ := h
  exact (Array.getElem?_eq_some_iff.1 h1).1
theorem UMap.ch {F : List Nat} {w w' : World} {mb : Nat} {L : List (Nat × Value)} (h : UMap w mb L) (hc : Ch F w w') (hF : mb ∉ F) : UMap w' mb L := h.of_heap (hc.block mb h.lt hF)
section
variable {P : Program} {w : World} {T K E : TypeId} {mb : Nat} {L : List (Nat × Value)}
theorem UMap.find (h : UMap w mb L) (n : Nat) : ∃ es clock, w.heap[mb]? = some (.map es clock) ∧ (es.toList.map fun e => (e.key, e.val)) = (L.map fun p => (Value.int .u8 p.1, p.2)) ∧
    ((Instr.findNow (.int .u8) (.int .u8 n) es.toList 0 = some none ∧ n ∉ L.map Prod.fst) ∨ (∃ j v, Instr.findNow (.int .u8) (.int .u8 n) es.toList 0 = some (some (j, v)) ∧ L[j]? = some (n, v))) := by
  obtain ⟨es, clock, h1, h2⟩ := h
  have hk : IsKey (.int .u8) (.int .u8 (n : Int)) := by simp [IsKey]
  have hat : ∀ (j : Nat) (e : MapEntry), es.toList[j]? = some e → ∃ m v, L[j]? = some (m, v) ∧ e.key = .int .u8 (m : Nat) ∧ e.val = v := fun j e he => by
    have := congrArg (fun l => l[j]?) h2
    simp only [List.getElem?_map, he, Option.map_some] at this
    cases hL : L[j]? with
    | none => rw [hL] at this; cases this
    | some m => rw [hL] at this; simp at this; exact ⟨m.1, m.2, rfl, this.1, this.2⟩
  have hks : ∀ x ∈ es.toList, IsKey (.int .u8) x.key := fun x hx => by
    obtain ⟨j, hj⟩ := List.mem_iff_getElem?.1 hx
    obtain ⟨m, v, _, hm, _⟩ := hat j x hj
    rw [hm]; simp [IsKey]
  refine ⟨es, clock, h1, h2, ?_⟩
  rcases findNow_spec hk es.toList 0 hks with ⟨q1, q2⟩ | ⟨j, e, q1, q2, q3⟩
  · refine .inl ⟨q1, fun hn => ?_⟩
    obtain ⟨⟨n', v⟩, hp, rfl⟩ := List.mem_map.1 hn
    obtain ⟨j, hj⟩ := List.mem_iff_getElem?.1 hp
    have hlt := (List.getElem?_eq_some_iff.1 hj).1
    have hsz : es.toList.length = L.length := by have := congrArg List.length h2; simpa using this
    obtain ⟨m, v', hm, hkm, _⟩ := hat j _ (List.getElem?_eq_getElem (by rw [hsz]; exact hlt))
    rw [hj] at hm; cases hm
    exact q2 _ (List.getElem_mem _) hkm
  · obtain ⟨m, v, hm, hkm, hv⟩ := hat j e q2
    rw [q3] at hkm
    simp at hkm
    obtain rfl : n = m := by omega
    rw [hv, Nat.zero_add] at q1
    exact .inr ⟨j, v, q1, hm⟩
theorem UMap.lookup_yes (hT : P.underlying T = some (.map K E)) (hK : P.underlying K = some (.int .u8)) (h : UMap w mb L) {n : Nat} {v : Value} (hm : (n, v) ∈ L) (hu : ∀ v', (n, v') ∈ L → v' = v) :
    (Instr.lookup T (.map (some mb)) (.int .u8 n) false).run P w = .ok v w ∧ (Instr.lookup T (.map (some mb)) (.int .u8 n) true).run P w = .ok (.tuple #[v, .bool true]) w := by
  have hk : IsKey (.int .u8) (.int .u8 (n : Int)) := by simp [IsKey]
  obtain ⟨es, clock, h1, _, ⟨q, hn⟩ | ⟨j, v', q, hn⟩⟩ := h.find n
  · exact absurd (List.mem_map.2 ⟨_, hm, rfl⟩) hn
  · rw [hu v' (List.mem_of_getElem? hn)] at q
    unfold Instr.lookup
    constructor <;> simp [run_underlying hT, run_getMap h1, run_checkKey hK hk, run_findKey hK q]
theorem UMap.lookup_no (hT : P.underlying T = some (.map K E)) (hK : P.underlying K = some (.int .u8)) {z : Value} (hz : ∀ w, (zeroValue E).run P w = .ok z w) (h : UMap w mb L) {n : Nat} (hm : n ∉ L.map Prod.fst) :
    (Instr.lookup T (.map (some mb)) (.int .u8 n) false).run P w = .ok z w ∧ (Instr.lookup T (.map (some mb)) (.int .u8 n) true).run P w = .ok (.tuple #[z, .bool false]) w := by
  have hk : IsKey (.int .u8) (.int .u8 (n : Int)) := by simp [IsKey]
  obtain ⟨es, clock, h1, _, ⟨q, hn⟩ | ⟨j, v', q, hn⟩⟩ := h.find n
  · unfold Instr.lookup
    constructor <;> simp [run_underlying hT, run_getMap h1, run_checkKey hK hk, run_findKey hK q, hz]
  · exact absurd (List.mem_map.2 ⟨_, List.mem_of_getElem? hn, rfl⟩) hm
theorem UMap.set (hT : P.underlying T = some (.map K E)) (hK : P.underlying K = some (.int .u8)) (h : UMap w mb L) {n : Nat} (hn : n ∉ L.map Prod.fst) (v : Value) :
    ∃ w', (Instr.mapUpdate T (.map (some mb)) (.int .u8 n) v).run P w = .ok () w' ∧ Ch [mb] w w' ∧ UMap w' mb (L ++ [(n, v)]) := by
  have hk : IsKey (.int .u8) (.int .u8 (n : Int)) := by simp [IsKey]
  have hch : ∀ (o : Obj), Ch [mb] w { w with heap := w.heap.setIfInBounds mb o } := fun o => ⟨rfl, rfl, rfl, by simp, fun j _ hj => Array.getElem?_setIfInBounds_ne (by simp at hj; omega)⟩
  obtain ⟨es, clock, h1, h2, ⟨q, _⟩ | ⟨j, v', q, hn2⟩⟩ := h.find n
  · have hlt := (Array.getElem?_eq_some_iff.1 h1).1
    refine ⟨_, by simp [Instr.mapUpdate, run_underlying hT, run_getMap h1, run_checkKey hK hk, run_findKey hK q, run_setMap h1, Result.andThen]; rfl, hch _, ⟨_, _, Array.getElem?_setIfInBounds_self_of_lt hlt, ?_⟩⟩
    rw [Array.toList_push, List.map_append, h2]; simp
  · exact absurd (List.mem_map.2 ⟨_, List.mem_of_getElem? hn2, rfl⟩) hn
end
end Go.Mem
namespace Go.Aig
def rightB (n : Int) : Bool := decide (1 ≤ n) && decide (n ≤ 16)
end Go.Aig
namespace Go.Proofs.Ytdmmanfjafempaa
open Go.RowKit Go.Mem Go.Aig
theorem mZ25 (w : World) : (zeroValue 119).run Try.prog w = .ok .nilFunc w := by kernel_rfl
section
variable {w : World}
end
end Go.Proofs.Ytdmmanfjafempaa
namespace Go.Aig
/-- a word shifted: to the left (1), or to the right -/
def shL (side : Nat) (x : List Int) (n : Nat) : List Int := (List.range x.length).map fun i => if side = 1 then (if n ≤ i then x.getD (i - n) 0 else 0) else x.getD (i + n) 0
@[simp] theorem shL_len (side : Nat) (x : List Int) (n : Nat) : (shL side x n).length = x.length := by simp [shL]
theorem shL_at {side : Nat} {x : List Int} {n i : Nat} (h : i < x.length) : (shL side x n)[i]? = some (if side = 1 then (if n ≤ i then x.getD (i - n) 0 else 0) else x.getD (i + n) 0) := by
  unfold shL
  rw [List.getElem?_map, List.getElem?_range h]
  rfl
theorem shL_bd {side : Nat} {x : List Int} {n : Nat} (h : ∀ r ∈ x, -9223372036854775808 ≤ r ∧ r ≤ 9223372036854775807) : ∀ r ∈ shL side x n, -9223372036854775808 ≤ r ∧ r ≤ 9223372036854775807 := fun r hr => by
  have hd : ∀ j, -9223372036854775808 ≤ x.getD j 0 ∧ x.getD j 0 ≤ 9223372036854775807 := fun j => by
    rw [List.getD_eq_getElem?_getD]
    cases hj : x[j]? with
    | none => simp
    | some r => exact h r (List.mem_of_getElem? hj)
  obtain ⟨i, _, rfl⟩ := List.mem_map.1 hr
  split
  · split
    · exact hd _
    · omega
  · exact hd _
/-- k bits are done -/
def shP (S : List Int) (k : Nat) : List Int := S.take k ++ List.replicate (S.length - k) 0
theorem shP_len {S : List Int} {k : Nat} (h : k ≤ S.length) : (shP S k).length = S.length := by unfold shP; rw [List.length_append, List.length_take, List.length_replicate]; omega
theorem shP_zero (S : List Int) : shP S 0 = List.replicate S.length 0 := by simp [shP]
theorem shP_all (S : List Int) : shP S S.length = S := by simp [shP]
theorem shP_set {S : List Int} {k : Nat} {r : Int} (h : S[k]? = some r) : (shP S k).set k r = shP S (k + 1) := by
  have hlt := (List.getElem?_eq_some_iff.1 h).1
  unfold shP
  rw [List.set_append_right _ _ (by rw [List.length_take]; omega), List.length_take, show k - min k S.length = 0 by omega, show S.length - k = (S.length - (k + 1)) + 1 by omega, List.replicate_succ, List.set_cons_zero, List.take_add_one, h]
  simp
theorem shP_same {S : List Int} {k : Nat} (h : S[k]? = some 0) : shP S k = shP S (k + 1) := by
  have hlt := (List.getElem?_eq_some_iff.1 h).1
  unfold shP
  rw [show S.length - k = (S.length - (k + 1)) + 1 by omega, List.replicate_succ, List.take_add_one, h]
  simp
end Go.Aig
namespace Go.Proofs.Ytdmmanfjafempaa
open Go.RowKit Go.Mem Go.Aig
theorem row_fresh {w W : World} {l : List Int} {n : Nat} (hW : W = w.alloc (.cells (intCells l).toArray 39)) (hn : l.length = n) (hl : n ≤ 1000000) : row W 39 1 (.slice (some ⟨w.heap.size, 0, none⟩) n n) n (intCells l) := by
  subst hn hW
  have hx : (w.alloc (.cells (intCells l).toArray 39)).heap[w.heap.size]? = some (.cells (intCells l).toArray 39 (0, 0)) := heap_alloc_new w _
  exact ⟨by simp [intCells], .inr ⟨w.heap.size, l.length, (intCells l).toArray, rfl, by simp, hx, Nat.le_refl _, by unfold maxLen; omega, by simp [intCells], by rw [Nat.mul_one]; exact List.take_of_length_le (by simp [intCells])⟩⟩
theorem intCells_set (l : List Int) (i : Nat) (r : Int) : intCells (l.set i r) = (intCells l).set i (.int .i64 r) := by unfold intCells; rw [List.map_set]
section
variable {w : World}
end
end Go.Proofs.Ytdmmanfjafempaa
namespace Go.Aig
/-- how many bits of a word move a word of a width by less than it -/
def stepsN (w bits : Nat) : Nat := (List.range bits).countP fun k => decide (2 ^ k < w)
theorem stepsN_at {w bits k : Nat} (h : ∀ j, j < k → 2 ^ j < w) (hk : k ≤ bits) (he : k = bits ∨ w ≤ 2 ^ k) : stepsN w bits = k := by
  obtain ⟨m, rfl⟩ : ∃ m, bits = k + m := ⟨bits - k, by omega⟩
  unfold stepsN
  rw [List.range_add, List.countP_append]
  have h1 : (List.range k).countP (fun k => decide (2 ^ k < w)) = k := by
    rw [List.countP_eq_length.2 (fun a ha => decide_eq_true (h a (List.mem_range.1 ha))), List.length_range]
  have h2 : ((List.range m).map (k + ·)).countP (fun k => decide (2 ^ k < w)) = 0 := by
    rw [List.countP_eq_zero]
    intro a ha
    obtain ⟨j, hj, rfl⟩ := List.mem_map.1 ha
    rcases he with e | e
    · have := List.mem_range.1 hj; omega
    · have : 2 ^ k ≤ 2 ^ (k + j) := Nat.pow_le_pow_right (by omega) (by omega)
      simp; omega
  rw [h1, h2]
  rfl
/-- the error of Fixed -/
def fixE (side : Nat) (x : List Int) (n : Int) : Nat := if side ≠ 1 ∧ side ≠ 2 then 251 else if rightB x.length = false then 250 else if n < 0 then 2 else 0
/-- a word turned -/
def turnL (x : List Int) (n : Int) : List Int := let k := (n.emod x.length).toNat; x.drop k ++ x.take k
end Go.Aig
namespace Go.Proofs.Ytdmmanfjafempaa
open Go.RowKit Go.Mem Go.Aig
theorem WNew.since {w w1 w2 : World} {v : Value} {xs : List Value} (h : WNew w1 v xs w2) (hc : Ch [] w w1) : WNew w v xs w2 := ⟨h.1, fun q hq => Nat.le_trans hc.size (h.2.1 q hq), hc.trans h.2.2 (by simp)⟩
section
variable {w : World}
end
end Go.Proofs.Ytdmmanfjafempaa
namespace Go.Proofs.Ytdmmanfjafempaa
open Go.RowKit Go.Mem Go.Aig
section
variable {w : World}
theorem run_app_zeros (w : World) (ty : TypeId) (n : Nat) (h0 : 0 < n) (hn : n ≤ 1000000) : ∃ c W, (Builtin.append_ #[38, 3] ty #[.slice none 0 0, .int .i64 n]).run Try.prog w = .ok (.slice (some ⟨w.heap.size, 0, none⟩) n c) W ∧ row W 39 1 (.slice (some ⟨w.heap.size, 0, none⟩) 0 c) 0 [] ∧ Ch [] w W ∧ n ≤ c ∧ c ≤ maxLen := by
  obtain ⟨i, hi, hz, hs, hb⟩ := info_parts infoRef
  have hr := Go.Lib.run_append_nil_zeros (P := Try.prog) w 38 3 ty 39 i (.int .i64 0) .i64 .i64 Try.underlying38 Try.underlying3 hi hz n h0 (by rw [hs]; omega) (by omega) (by rw [hb]; omega)
  have h1 := grownCap_ge w n 0 39
  have h2 := grownCap_le_maxLen w n 0 39 (by unfold maxLen; omega)
  refine ⟨_, _, hr, ⟨rfl, .inr ⟨_, _, _, rfl, Nat.zero_le _, heap_alloc_new w.drew _, Nat.zero_le _, h2, ?_, by simp⟩⟩, ((Ch.refl [] w).drew).alloc _, h1, h2⟩
  simp [Value.cells, Builtin.zeroCells]
  omega
set_option maxRecDepth 100000 in
set_option maxHeartbeats 2000000 in
theorem Grow_nil (n : Nat) (h0 : 0 < n) (hn : n ≤ 1000000) : Calls Try.prog 162 #[.slice none 0 0, .int .i64 n] w fun e w' => ∃ v, e = .returned v ∧ row w' 39 1 v 0 [] ∧ (∀ q ∈ v.ownBlock.toList, w.heap.size ≤ q) ∧ Ch [] w w' := by
  obtain ⟨c, W, hr, hrow, hch, h1, h2⟩ := run_app_zeros w 38 n h0 hn
  have HROW := Lib.hid hrow; clear hrow
  have HCH := Lib.hid hch; clear hch
  go_enter Try.func162, Try.ntmps162
  have HR := Lib.hid hr; clear hr
  go_wp2_with (at_builtin; go_loud (refine Go.Lib.wpList_append_run w rfl _ _ _ _ rfl (.slice none 0 0) (.int .i64 n) rfl rfl _ _ HR.out ?_))
  go_ret
  exact ⟨_, rfl, HROW.out, by simp, HCH.out⟩
/-- pieces that lie in memory, side by side as the slice's elements -/
structure Pcs (w : World) (q : Nat) (ps : List (Addr × List Int × Nat)) : Prop where
  hd : ∀ (k : Nat) (p : Addr) (l : List Int) (c : Nat), ps[k]? = some (p, l, c) → w.cell? ⟨q, k, none⟩ = some (.slice (some p) l.length c)
  cl : ∀ (k : Nat) (p : Addr) (l : List Int) (c : Nat), ps[k]? = some (p, l, c) → ∀ j u, (intCells l)[j]? = some u → w.cell? (p.add j) = some u
  cp : ∀ (k : Nat) (p : Addr) (l : List Int) (c : Nat), ps[k]? = some (p, l, c) → l.length ≤ c
  qlt : q < w.heap.size
def pcsL (ps : List (Addr × List Int × Nat)) : List Int := ps.flatMap fun x => x.2.1
theorem pcsL_succ {ps : List (Addr × List Int × Nat)} {k : Nat} {p : Addr} {l : List Int} {c : Nat} (h : ps[k]? = some (p, l, c)) : pcsL (ps.take (k + 1)) = pcsL (ps.take k) ++ l := by
  unfold pcsL
  rw [List.take_add_one, h]
  simp
theorem pcsL_le (ps : List (Addr × List Int × Nat)) (k : Nat) : (pcsL (ps.take k)).length ≤ (pcsL ps).length := by
  have e : pcsL ps = pcsL (ps.take k) ++ pcsL (ps.drop k) := by
    unfold pcsL; rw [← List.flatMap_append, List.take_append_drop]
  rw [e, List.length_append]; omega
theorem Pcs.ch {w W : World} {q : Nat} {ps : List (Addr × List Int × Nat)} (h : Pcs w q ps) (hc : Ch [] w W) : Pcs W q ps :=
  ⟨fun k p l c hk => (hc.cell (p := ⟨q, k, none⟩) h.qlt (by simp)).trans (h.hd k p l c hk), fun k p l c hk j u hu => (hc.cell (cell_lt (h.cl k p l c hk j u hu)) (by simp)).trans (h.cl k p l c hk j u hu), h.cp, Nat.lt_of_lt_of_le h.qlt hc.size⟩
set_option maxRecDepth 100000 in
set_option maxHeartbeats 4000000 in
theorem Ccref_is {q : Nat} {ps : List (Addr × List Int × Nat)} (n c : Nat) (h : Pcs w q ps) (hn : ps.length = n) (hnc : n ≤ 1000) (h1 : 0 < (pcsL ps).length) (h2 : (pcsL ps).length ≤ 1000000) :
    Calls Try.prog 132 #[.slice (some ⟨q, 0, none⟩) n c] w fun e w' => ∃ v, e = .returned v ∧ WNew w v (intCells (pcsL ps)) w' := by
  have HN := fun W => Grow_nil (w := W) (pcsL ps).length h1 h2
  have H := Lib.hid h; clear h
  go_enter Try.func132, Try.ntmps132
  go_wp2_with fail
  go_loopw [3, 11] (fun s i wr => ∃ k : Nat, k ≤ n ∧ i = .int .i64 k ∧ s = .int .i64 (pcsL (ps.take k)).length ∧ wr = w) (fun _ i _ => n - (intOf i).toNat)
  case atStart => exact ⟨0, by omega, rfl, by simp [pcsL], rfl⟩
  case round =>
    obtain ⟨k, hk, rfl, rfl, hww⟩ := hrel
    subst wr
    have hle := pcsL_le ps k
    by_cases hlt : k < n
    · obtain ⟨⟨p, l, lc⟩, hp⟩ : ∃ x, ps[k]? = some x := ⟨_, List.getElem?_eq_getElem (by omega)⟩
      have c0 := H.out.hd k p l lc hp
      have hsu := pcsL_succ hp
      have hle2 := pcsL_le ps (k + 1)
      rw [hsu, List.length_append] at hle2
      have HSU := Lib.hid hsu; clear hsu
      generalize hA : (pcsL (ps.take k)).length = A at *
      have hnn : decide ((A : Int) + l.length < 0) = false := decide_eq_false (by omega)
      go_wp2_with fail
      go_roundw
      case rel => exact ⟨k + 1, by omega, by go_num, by rw [HSU.out, List.length_append, hA]; push_cast; rfl, by trivial⟩
      case measure => simp [intOf]; omega
    · have hkn : k = n := by omega
      have hall : ps.take k = ps := List.take_of_length_le (by omega)
      rw [hall] at hle ⊢
      clear hall hkn
      have HNN := Lib.hid HN; clear HN
      go_wp2_with fail
      refine (HNN.out _).mono ?_
      rintro e w1 ⟨v, rfl, hrow, hlo, hch⟩
      have HROW := Lib.hid hrow; clear hrow
      have HLO := Lib.hid hlo; clear hlo
      have HCH := Lib.hid hch; clear hch hle
      clear hlt
      go_wp2_with fail
      go_loopw [6, 27] (fun o i wr => ∃ k : Nat, k ≤ n ∧ i = .int .i64 k ∧ Ch [] w wr ∧ row wr 39 1 o (pcsL (ps.take k)).length (intCells (pcsL (ps.take k))) ∧ ∀ q ∈ o.ownBlock.toList, w.heap.size ≤ q) (fun _ i _ => n - (intOf i).toNat)
      case atStart => exact ⟨0, by omega, rfl, HCH.out, by simpa [pcsL, intCells] using HROW.out, HLO.out⟩
      case round =>
        obtain ⟨k, hk, rfl, hc, hrow, hlo⟩ := hrel
        obtain ⟨oa, oc, rfl⟩ := row.shape hrow
        by_cases hlt : k < n
        · obtain ⟨⟨p, l, lc⟩, hp⟩ : ∃ x, ps[k]? = some x := ⟨_, List.getElem?_eq_getElem (by omega)⟩
          have hP := H.out.ch hc
          have c0 := hP.hd k p l lc hp
          have hcl := hP.cl k p l lc hp
          have hcp := hP.cp k p l lc hp
          have hsu := pcsL_succ hp
          have hle2 := pcsL_le ps (k + 1)
          rw [hsu, List.length_append] at hle2
          have HSU := Lib.hid hsu; clear hsu
          have h1o : ∀ u ∈ intCells l, u.oneCell' = true := fun u hu => by
            obtain ⟨r, _, rfl⟩ := List.mem_map.1 hu
            rfl
          have HCL := Lib.hid hcl; clear hcl hp hP
          have H1O := Lib.hid h1o; clear h1o
          generalize hA : pcsL (ps.take k) = A at *
          have HA := Lib.hid hA; clear hA
          have HRA := Lib.hid hrow; clear hrow
          have HC := Lib.hid hc; clear hc
          have HLO2 := Lib.hid hlo; clear hlo
          go_wp2_with (at_builtin; go_loud (refine wpList_append_row slRefs rfl _ _ rfl (v := .slice oa A.length oc) (n := A.length) (xs := intCells A) rfl HRA.out (ad := p) (m := l.length) (c := lc) (news := intCells l) rfl (by simp [intCells]) HCL.out H1O.out (by omega) (by omega) ?_; intro v' w4 hown4 hC4 hf4; have HO4 := Lib.hid hown4; clear hown4; have HC4 := Lib.hid hC4; clear hC4; have HF4 := Lib.hid hf4; clear hf4))
          go_roundw
          case rel =>
            obtain ⟨q1, q2⟩ := app_step HC.out (Ch.refl [] wr) HLO2.out HC4.out HF4.out
            refine ⟨k + 1, by omega, by go_num, q1, ?_, q2⟩
            rw [HSU.out, List.length_append]
            have := HO4.out
            simpa [intCells] using this
          case measure => simp [intOf]; omega
        · have hkn : k = n := by omega
          have hall : ps.take k = ps := List.take_of_length_le (by omega)
          rw [hall] at hrow hlo ⊢
          have HRA := Lib.hid hrow; clear hrow hall hkn
          have HC := Lib.hid hc; clear hc
          have HLO2 := Lib.hid hlo; clear hlo
          go_wp2_with fail
          go_ret
          exact ⟨_, rfl, by simpa [intCells] using HRA.out, HLO2.out, HC.out⟩
theorem pcs_two {w : World} {q : Nat} {p1 p2 : Addr} {l1 l2 : List Int} {n1 n2 c1 c2 : Nat} (hb : blk w q [.slice (some p1) n1 c1, .slice (some p2) n2 c2]) (h1 : l1.length = n1) (h2 : l2.length = n2) (k1 : n1 ≤ c1) (k2 : n2 ≤ c2)
    (e1 : ∀ j u, (intCells l1)[j]? = some u → w.cell? (p1.add j) = some u) (e2 : ∀ j u, (intCells l2)[j]? = some u → w.cell? (p2.add j) = some u) : Pcs w q [(p1, l1, c1), (p2, l2, c2)] := by
  subst h1 h2
  refine ⟨fun k p l c hk => ?_, fun k p l c hk => ?_, fun k p l c hk => ?_, hb.lt⟩ <;> rcases k with _ | _ | k
  · cases hk; exact hb.cell rfl
  · cases hk; exact hb.cell rfl
  · simp at hk
  · cases hk; exact e1
  · cases hk; exact e2
  · simp at hk
  · cases hk; exact k1
  · cases hk; exact k2
  · simp at hk
end
end Go.Proofs.Ytdmmanfjafempaa
namespace Go.Aig
/-- a choice by a bit that is known: a if it is false, b if it is true -/
def muxOf (c : Nat) (G : Gra) (a b : Nat) : Res := if c < 2 * G.nodes.length then rMux G c b a else (G, 0, 201)
theorem full_mux (c : Nat) : Full2 (muxOf c) := fun G h a b ha hb => by
  unfold muxOf
  split
  · rename_i hc; exact rMux_full h hc hb ha
  · exact ⟨⟨h, .refl _, by have := h.wf.pos; show 0 < 2 * G.nodes.length; omega, .inr rfl⟩, fun _ => rfl⟩
theorem eachF_app (op : Mk → Nat → Nat → Mk × Nat) (s : Mk) (l m : List (Nat × Nat)) : eachF op s (l ++ m) = m.foldl (eachS op) (eachF op s l) := by unfold eachF; rw [List.foldl_append]
theorem eachS_bad (f : Gra → Nat → Nat → Res) : ∀ (m : List (Nat × Nat)) (q : Mk × List Nat), q.1.2 ≠ 0 → (m.foldl (eachS (rop f)) q).1 = q.1
  | [], _, _ => rfl
  | p :: m, q, h => by
    rw [List.foldl_cons]
    have e : (eachS (rop f) q p).1 = q.1 := by unfold eachS rop; rw [rstep_bad h]
    rw [eachS_bad f m _ (by rw [e]; exact h), e]
theorem eachF_bad (f : Gra → Nat → Nat → Res) (s : Mk) (l m : List (Nat × Nat)) (h : (eachF (rop f) s l).1.2 ≠ 0) : (eachF (rop f) s (l ++ m)).1 = (eachF (rop f) s l).1 := by
  rw [eachF_app, eachS_bad f m _ h]
theorem eachF_lenT (op : Mk → Nat → Nat → Mk × Nat) (s : Mk) (l : List (Nat × Nat)) : (eachF op s l).2.length = l.length := by
  have : ∀ (l : List (Nat × Nat)) (q : Mk × List Nat), (l.foldl (eachS op) q).2.length = q.2.length + l.length := by
    intro l
    induction l with
    | nil => intro q; rfl
    | cons p l ih => intro q; rw [List.foldl_cons, ih]; simp [eachS]; omega
  rw [eachF, this]; simp
/-- what is left of a step: the word, or an error and a graph that has grown -/
structure Step5 (G : Gra) (R : Mk × List Nat) (G1 : Gra) (l : List Nat) (e : Nat) : Prop where
  yes : R.1.2 = 0 → G1 = R.1.1 ∧ l = R.2 ∧ e = 0
  no : R.1.2 ≠ 0 → l = [] ∧ e = R.1.2
  err : R.1.2 = 0 ∨ R.1.2 = 201
  ext : Ext G G1
  ok : Ok G1
end Go.Aig
namespace Go.Mem
theorem wpListIn_append_row {F : Fence} {nF : Nat} {P : Program} {w : World} {ops : Array Oper} {rest : List Oper} {o : Oper} {a : Act} {Q : Exit → Act → World → Prop} {t e : TypeId} {size bytes : Nat} {z : Value} (S : SliceTy P t e size bytes z) (hgd : o.guard = none) (s x : Operand)
    (ho : o.op = .call { callee := .builtin .append, args := #[s, x], argTypes := #[t, t] })
    {v : Value} {n : Nat} {xs : List Value} (hs : a.eval s = v) (hown : row w e size v n xs) {ad : Addr} {m c : Nat} {news : List Value} (hx : a.eval x = .slice (some ad) m c) (hl : news.length = m * size) (hnews : ∀ j u, news[j]? = some u → w.cell? (ad.add j) = some u) (h1 : ∀ u ∈ news, u.oneCell' = true)
    (hbytes : (n + m) * bytes ≤ 140737488355328) (h63 : n + m ≤ 9223372036854775807)
    (h : ∀ v' w', row w' e size v' (n + m) (xs ++ news) → Ch v.ownBlock.toList w w' → (∀ k, v'.ownBlock = some k → v.ownBlock = some k ∨ w.heap.size ≤ k) → wpListIn F nF P ops Q rest (a.put o.dst v') w') : wpListIn F nF P ops Q (o :: rest) a w := by
  refine wpListIn_plain hgd fun K hK => ?_
  obtain ⟨v', w', hr, h2, h3, h4⟩ := run_append_row (P := P) w S o.type v n xs hown ad m c news hl hnews h1 hbytes (by unfold maxLen; omega)
  unfold Oper.wpIn
  refine ⟨by simp [Oper.about, ho, resolve, Target.leads, Sem.run_pure], ?_⟩
  rw [Oper.semAt_plain F _ _ (by rw [ho]; intro c hc'; cases hc')]
  simp [execOp, ho, resolve, invoke, builtin, hs, hx, hr, Result.andThen]
  exact hK _ _ (h v' w' h2 h3 h4)
end Go.Mem
namespace Go.Proofs.Ytdmmanfjafempaa
open Go.RowKit Go.Mem Go.Aig
attribute [local go_sem] Oper.semAt_some
/-- what is known between two rounds of step -/
structure E5 (w : World) (g : Nat) (F : List Nat) (c : Nat) (W : World) (v : Value) (Gp : Gra) (l : List Nat) (F' : List Nat) : Prop where
  gin : GIn W g Gp F'
  ch : Ch F w W
  own : ∀ k ∈ F', k ∈ F ∨ w.heap.size + 7 + 2 ≤ k
  map : F'[2]? = F[2]?
  b4 : blk W w.heap.size [.pointer (some ⟨g, 0, none⟩)]
  b5 : blk W (w.heap.size + 1) [.int .i64 c]
  b8 : blk W (w.heap.size + 2) [.slice none 0 0]
  b9 : blk W (w.heap.size + 3) [.int .i64 0]
  b10 : blk W (w.heap.size + 4) [v]
  row : Go.Mem.row W 39 1 v l.length (refsCells l)
  fresh : ∀ k, v.ownBlock = some k → w.heap.size + 7 + 2 ≤ k ∧ k ∉ F'
theorem res2 {fn : Func} {t u : Tmp} {et eu : TypeId} (h : fn.results = #[.cell t et, .cell u eu]) {tmps : Array Value} {P : Program} {w : World} {p q : Addr} {a b : Value} (he : ∀ w, (isAgg et).run P w = .ok false w) (hu : ∀ w, (isAgg eu).run P w = .ok false w) (h1 : tmps.getD t undef = .pointer (some p)) (h2 : tmps.getD u undef = .pointer (some q)) (h3 : w.cell? p = some a) (h4 : w.cell? q = some b) :
    (results fn tmps).run P w = .ok (.tuple #[a, b]) w := by
  rw [Array.getD_eq_getD_getElem?] at h1 h2
  simp [results, h, go_sem, h1, h2, h3, h4, he, hu]
structure I5 (w : World) (g : Nat) (G : Gra) (F : List Nat) (c : Nat) (pre : List (Nat × Nat)) (W : World) : Prop where
  ex : ∃ v Gp l F', eachF (rop (muxOf c)) (G, 0) pre = ((Gp, 0), l) ∧ Ok Gp ∧ Ext G Gp ∧ E5 w g F c W v Gp l F'
structure X5 (w : World) (g : Nat) (G : Gra) (F : List Nat) (c : Nat) (all : List (Nat × Nat)) (W : World) : Prop where
  ex : ∃ Gp F', (eachF (rop (muxOf c)) (G, 0) all).1.2 = 201 ∧ Ok Gp ∧ Ext G Gp ∧ GIn W g Gp F' ∧ Ch F w W ∧ (∀ k ∈ F', k ∈ F ∨ w.heap.size + 7 + 2 ≤ k) ∧ F'[2]? = F[2]? ∧ blk W (w.heap.size + 2) [.slice none 0 0] ∧ blk W (w.heap.size + 3) [.int .i64 (201 : Nat)]
section
variable {w A A' : World} {g c : Nat} {G Gp : Gra} {F F' : List Nat} {v : Value} {l : List Nat}
theorem E5.sep (h : E5 w g F c A v Gp l F') (hl : ∀ k ∈ F, k < w.heap.size) : ∀ k ∈ F', k < w.heap.size ∨ w.heap.size + 7 + 2 ≤ k := fun k hk => (h.own k hk).imp (hl k) id
theorem E5.same (h : E5 w g F c A v Gp l F') (hl : ∀ k ∈ F, k < w.heap.size) (hc : Ch [w.heap.size + 7, w.heap.size + 7 + 1] A A') : E5 w g F c A' v Gp l F' := by
  have hs := h.sep hl
  have hn : ∀ k ∈ F', k ∉ [w.heap.size + 7, w.heap.size + 7 + 1] := fun k hk hm => by have := hs k hk; simp at hm; omega
  refine ⟨h.gin.same hc hn, h.ch.trans hc (fun k hk => .inr (by simp at hk; omega)), h.own, h.map, h.b4.ch hc (by simp; omega), h.b5.ch hc (by simp), h.b8.ch hc (by simp), h.b9.ch hc (by simp), h.b10.ch hc (by simp), h.row.ch hc (fun k hk hm => by have := (h.fresh k hk).1; simp at hm; omega), h.fresh⟩
theorem E5.ch0 (h : E5 w g F c A v Gp l F') (hl : ∀ k ∈ F, k < w.heap.size) (hc : Ch [] A A') : E5 w g F c A' v Gp l F' := h.same hl (hc.mono (by simp))
theorem E5.more (h : E5 w g F c A v Gp l F') (hl : ∀ k ∈ F, k < w.heap.size) (hz : w.heap.size + 7 + 2 ≤ A.heap.size) {G' : Gra} (ht : GTo A g G' F' A') :
    (∃ F1, E5 w g F c A' v G' l F1) ∧ Books (w.heap.size + 7) A A' ∧ ∀ K : List Nat, (∀ k ∈ K, k < w.heap.size ∧ k ∉ F ∨ w.heap.size ≤ k ∧ k < w.heap.size + 7) → Kept K A A' := by
  obtain ⟨F1, h1, h2, h3, h4⟩ := ht
  have hs := h.sep hl
  have hm : ∀ q, w.heap.size ≤ q → q < w.heap.size + 7 + 2 → q ∉ F' := fun q h1 h2 hk => by have := hs q hk; omega
  refine ⟨⟨F1, h1, h.ch.trans h2 (fun k hk => (h.own k hk).imp id (by omega)), fun k hk => ?_, h4.trans h.map, h.b4.ch h2 (hm _ (by omega) (by omega)), h.b5.ch h2 (hm _ (by omega) (by omega)), h.b8.ch h2 (hm _ (by omega) (by omega)), h.b9.ch h2 (hm _ (by omega) (by omega)), h.b10.ch h2 (hm _ (by omega) (by omega)), h.row.ch h2 (fun k hk => (h.fresh k hk).2), fun k hk => ⟨(h.fresh k hk).1, fun hm2 => ?_⟩⟩, Books.of_ch h2 hz (fun k hk => ?_), fun K hK => Kept.of_ch h2 (fun k hk => ?_)⟩
  · exact (h3 k hk).elim (h.own k) (fun e => .inr (by omega))
  · exact (h3 k hm2).elim (h.fresh k hk).2 (fun e => by have := (h.row.lt k hk).2; omega)
  · have := hs k hk; omega
  · rcases hK k hk with e | e
    · refine ⟨by omega, fun hm2 => ?_⟩
      exact (h.own k hm2).elim e.2 (by omega)
    · exact ⟨by omega, hm k e.1 (by omega)⟩
theorem E5.app {va : Option Addr} {vc : Nat} (h : E5 w g F c A (.slice va l.length vc) Gp l F') (hl : ∀ k ∈ F, k < w.heap.size) (hz : w.heap.size + 7 + 2 ≤ A.heap.size) {r : Nat} {o : Obj} {w4 : World} {gb gc : Nat}
    (hrow : Go.Mem.row w4 39 1 (.slice (some ⟨gb, 0, none⟩) (l.length + 1) gc) (l.length + 1) (refsCells l ++ [.int .i64 r])) (hc : Ch (Value.slice va l.length vc).ownBlock.toList (A.alloc o) w4)
    (hf : ∀ k, (Value.slice (some ⟨gb, 0, none⟩) (l.length + 1) gc).ownBlock = some k → (Value.slice va l.length vc).ownBlock = some k ∨ (A.alloc o).heap.size ≤ k) :
    E5 w g F c (w4.setCell ⟨w.heap.size + 4, 0, none⟩ (.slice (some ⟨gb, 0, none⟩) (l.length + 1) gc)) (.slice (some ⟨gb, 0, none⟩) (l.length + 1) gc) Gp (l ++ [r]) F' ∧ Books (w.heap.size + 7) A (w4.setCell ⟨w.heap.size + 4, 0, none⟩ (.slice (some ⟨gb, 0, none⟩) (l.length + 1) gc)) ∧
      ∀ K : List Nat, (∀ k ∈ K, k < w.heap.size ∧ k ∉ F ∨ w.heap.size ≤ k ∧ k < w.heap.size + 7 ∧ k ≠ w.heap.size + 4) → Kept K A (w4.setCell ⟨w.heap.size + 4, 0, none⟩ (.slice (some ⟨gb, 0, none⟩) (l.length + 1) gc)) := by
  have hs := h.sep hl
  have hfresh := h.fresh
  have hA : Ch (Value.slice va l.length vc).ownBlock.toList A w4 := ((Ch.refl _ A).alloc o).trans hc (fun k hk => .inl hk)
  have hA5 : Ch ((Value.slice va l.length vc).ownBlock.toList ++ [w.heap.size + 4]) A (w4.setCell ⟨w.heap.size + 4, 0, none⟩ (.slice (some ⟨gb, 0, none⟩) (l.length + 1) gc)) := (hA.mono (fun k hk => .inl (List.mem_append_left _ hk))).setCell (.inl (by simp)) _
  have hL : ∀ k ∈ (Value.slice va l.length vc).ownBlock.toList ++ [w.heap.size + 4], (w.heap.size + 7 + 2 ≤ k ∧ k ∉ F') ∨ k = w.heap.size + 4 := fun k hk => by
    simp only [List.mem_append, Option.mem_toList, List.mem_singleton] at hk
    exact hk.imp (fun e => hfresh k e) id
  have hgb : (w.heap.size + 7 + 2 ≤ gb ∧ gb ∉ F') := by
    rcases hf gb rfl with h1 | h1
    · exact hfresh gb h1
    · rw [World.size_alloc] at h1
      exact ⟨by omega, fun hk => by have := GIn.lt h.gin gb hk; omega⟩
  have hnot : ∀ k ∈ F', k ∉ (Value.slice va l.length vc).ownBlock.toList ++ [w.heap.size + 4] := fun k hk hk2 => by
    rcases hL k hk2 with h2 | h2
    · exact h2.2 hk
    · have := hs k hk; omega
  have hlow : ∀ q, w.heap.size ≤ q → q < w.heap.size + 7 → q ≠ w.heap.size + 4 → q ∉ (Value.slice va l.length vc).ownBlock.toList ++ [w.heap.size + 4] := fun q h1 h2 h3 hk => by
    rcases hL q hk with e | e <;> omega
  have h4 := h.ch.size
  refine ⟨⟨h.gin.same hA5 hnot, h.ch.trans hA5 (fun k hk => ?_), h.own, h.map, h.b4.ch hA5 (hlow _ (by omega) (by omega) (by omega)), h.b5.ch hA5 (hlow _ (by omega) (by omega) (by omega)), h.b8.ch hA5 (hlow _ (by omega) (by omega) (by omega)), h.b9.ch hA5 (hlow _ (by omega) (by omega) (by omega)), ?_, ?_, fun k hk => ?_⟩, Books.of_ch hA5 hz (fun k hk => by have := hL k hk; omega), fun K hK => Kept.of_ch hA5 fun k hk => ?_⟩
  · have := hL k hk; exact .inr (by omega)
  · refine (h.b10.ch hA (fun hk => ?_)).set (i := 0) _
    have := (hfresh _ (by simpa using hk)).1
    omega
  · rw [show refsCells (l ++ [r]) = refsCells l ++ [.int .i64 r] from by simp [refsCells], List.length_append]
    refine hrow.ch (F := [w.heap.size + 4]) ((Ch.refl _ _).setCell (by simp) _) (fun k hk => ?_)
    cases hk
    simp; omega
  · cases hk
    exact hgb
  · rcases hK k hk with ⟨h1, h2⟩ | ⟨h1, h2, h3⟩
    · refine ⟨by omega, fun hk2 => ?_⟩
      have := hL k hk2; omega
    · exact ⟨by omega, hlow k h1 h2 h3⟩
end
end Go.Proofs.Ytdmmanfjafempaa
namespace Go.Aig
/-- a word of references shifted -/
def shN (side : Nat) (x : List Nat) (n : Nat) : List Nat := (List.range x.length).map fun i => if side = 1 then (if n ≤ i then x.getD (i - n) 0 else 0) else x.getD (i + n) 0
@[simp] theorem shN_len (side : Nat) (x : List Nat) (n : Nat) : (shN side x n).length = x.length := by simp [shN]
theorem natInts_getD (x : List Nat) (i : Nat) : (natInts x).getD i 0 = ((x.getD i 0 : Nat) : Int) := by
  unfold natInts
  rw [List.getD_eq_getElem?_getD, List.getD_eq_getElem?_getD, List.getElem?_map]
  cases x[i]? <;> rfl
theorem shL_nat (side : Nat) (x : List Nat) (n : Nat) : shL side (natInts x) n = natInts (shN side x n) := by
  unfold shL shN
  simp only [natInts_getD, natInts_len]
  conv => rhs; unfold natInts
  rw [List.map_map]
  refine List.map_congr_left fun i _ => ?_
  simp only [Function.comp]
  split
  · split <;> rfl
  · rfl
theorem shN_lt {side : Nat} {x : List Nat} {n b : Nat} (h : ∀ r ∈ x, r < b) (hb : 0 < b) : ∀ r ∈ shN side x n, r < b := fun r hr => by
  have hd : ∀ j, x.getD j 0 < b := fun j => by
    rw [List.getD_eq_getElem?_getD]
    cases hj : x[j]? with
    | none => exact hb
    | some r => exact h r (List.mem_of_getElem? hj)
  obtain ⟨i, _, rfl⟩ := List.mem_map.1 hr
  split
  · split
    · exact hd _
    · exact hb
  · exact hd _
/-- one step of a shift by a word: by the bit c, that counts 2 ^ i -/
def movS (side : Nat) (q : Mk × List Nat) (p : Nat × Nat) : Mk × List Nat := eachF (rop (muxOf p.1)) q.1 (q.2.zip (shN side q.2 (2 ^ p.2)))
def movF (side : Nat) (s : Mk) (x cs : List Nat) : Mk × List Nat := cs.zipIdx.foldl (movS side) (s, x)
theorem movF_nil (side : Nat) (s : Mk) (x : List Nat) : movF side s x [] = (s, x) := rfl
theorem movF_snoc (side : Nat) (s : Mk) (x cs : List Nat) (c : Nat) : movF side s x (cs ++ [c]) = movS side (movF side s x cs) (c, cs.length) := by
  unfold movF
  rw [List.zipIdx_append, List.foldl_append]
  simp
theorem eachF_bad' (f : Gra → Nat → Nat → Res) {s : Mk} (h : s.2 ≠ 0) (l : List (Nat × Nat)) : (eachF (rop f) s l).1 = s := eachS_bad f l _ h
theorem movS_bad (side : Nat) : ∀ (l : List (Nat × Nat)) (q : Mk × List Nat), q.1.2 ≠ 0 → (l.foldl (movS side) q).1 = q.1
  | [], _, _ => rfl
  | p :: l, q, h => by
    rw [List.foldl_cons]
    have e : (movS side q p).1 = q.1 := eachF_bad' _ h _
    rw [movS_bad side l _ (by rw [e]; exact h), e]
theorem movF_bad (side : Nat) (s : Mk) (x cs ds : List Nat) (h : (movF side s x cs).1.2 ≠ 0) : (movF side s x (cs ++ ds)).1 = (movF side s x cs).1 := by
  unfold movF at h ⊢
  rw [List.zipIdx_append, List.foldl_append, movS_bad _ _ _ h]
/-- a shift by a word -/
def moveF (side : Nat) (s : Mk) (x y : List Nat) : Mk × List Nat :=
  let q := movF side s x (y.take (stepsN x.length y.length))
  if stepsN x.length y.length = y.length then q
  else
    let a := rstep q.1 (rAny q.1.1 (y.drop (stepsN x.length y.length)))
    eachF (rop and) a.1 (q.2.map fun r => (r, neg a.2))
theorem moveF_bad {side : Nat} {s : Mk} {x y : List Nat} (h : (movF side s x (y.take (stepsN x.length y.length))).1.2 ≠ 0) : (moveF side s x y).1 = (movF side s x (y.take (stepsN x.length y.length))).1 := by
  unfold moveF
  dsimp only
  split
  · rfl
  · rw [rstep_bad h, eachF_bad' _ h]
theorem moveF_full {side : Nat} {s : Mk} {x y : List Nat} (h : stepsN x.length y.length = y.length) : moveF side s x y = movF side s x (y.take (stepsN x.length y.length)) := by
  unfold moveF
  dsimp only
  rw [if_pos h]
theorem moveF_high {side : Nat} {s : Mk} {x y : List Nat} (h : stepsN x.length y.length ≠ y.length) {q : Mk × List Nat} (hq : movF side s x (y.take (stepsN x.length y.length)) = q) :
    moveF side s x y = eachF (rop and) (rstep q.1 (rAny q.1.1 (y.drop (stepsN x.length y.length)))).1 (q.2.map fun r => (r, neg (rstep q.1 (rAny q.1.1 (y.drop (stepsN x.length y.length)))).2)) := by
  unfold moveF
  dsimp only
  rw [if_neg h, hq]
theorem stepsN_le (w bits : Nat) : stepsN w bits ≤ bits := by
  unfold stepsN
  exact Nat.le_trans List.countP_le_length (by simp)
theorem zip_sh_lt {side : Nat} {x : List Nat} {n b : Nat} (h : ∀ r ∈ x, r < b) (hb : 0 < b) : ∀ p ∈ x.zip (shN side x n), p.1 < b ∧ p.2 < b := zip_lt h (shN_lt h hb)
theorem full_and2 : Full2 and := fun _ h _ _ ha hb => and_full h ha hb
theorem movS_lok {G : Gra} (hG : Ok G) {side c i : Nat} {x : List Nat} (hx : ∀ r ∈ x, r < 2 * G.nodes.length) : LOk G (movS side ((G, 0), x) (c, i)) :=
  eachF_lok hG (full_mux c) _ (zip_sh_lt hx (by have := hG.wf.pos; omega))
theorem movS_len (side : Nat) (q : Mk × List Nat) (p : Nat × Nat) : (movS side q p).2.length = q.2.length := by
  unfold movS
  rw [eachF_lenT, List.length_zip, shN_len]
  omega
theorem movF_len (side : Nat) (s : Mk) (x cs : List Nat) : (movF side s x cs).2.length = x.length := by
  have : ∀ (l : List (Nat × Nat)) (q : Mk × List Nat), (l.foldl (movS side) q).2.length = q.2.length := by
    intro l
    induction l with
    | nil => intro q; rfl
    | cons p l ih => intro q; rw [List.foldl_cons, ih, movS_len]
  exact this _ _
/-- all of a shift by a word is right -/
theorem movF_lok {G : Gra} (hG : Ok G) {side : Nat} {x cs : List Nat} (hx : ∀ r ∈ x, r < 2 * G.nodes.length) : LOk G (movF side (G, 0) x cs) := by
  have : ∀ (l : List (Nat × Nat)) (q : Mk × List Nat), LOk G q → LOk G (l.foldl (movS side) q) := by
    intro l
    induction l with
    | nil => intro q h; exact h
    | cons p l ih =>
      intro q h
      refine ih _ ?_
      by_cases h0 : q.1.2 = 0
      · obtain ⟨⟨G1, e1⟩, l1⟩ := q
        cases h0
        have h1 := movS_lok h.s.ok (side := side) (c := p.1) (i := p.2) h.lt
        exact ⟨⟨h1.s.ok, h.s.ext.trans h1.s.ext, h1.s.err⟩, h1.lt⟩
      · have e : (movS side q p).1 = q.1 := eachF_bad' _ h0 _
        refine ⟨by rw [e]; exact h.s, fun r hr => ?_⟩
        rw [e]
        have hz : ∀ (l : List (Nat × Nat)) (q : Mk × List Nat), q.1.2 ≠ 0 → (∀ r ∈ q.2, r < 2 * q.1.1.nodes.length) → 0 < q.1.1.nodes.length → ∀ r ∈ (l.foldl (eachS (rop (muxOf p.1))) q).2, r < 2 * q.1.1.nodes.length := by
          intro l
          induction l with
          | nil => intro q _ h2 _; exact h2
          | cons p l ih =>
            intro q h1 h2 h3 r hr
            rw [List.foldl_cons] at hr
            have e2 : ∀ c, (eachS (rop (muxOf c)) q p).1 = q.1 := fun c => by unfold eachS rop; rw [rstep_bad h1]
            have e3 : ∀ c, (eachS (rop (muxOf c)) q p).2 = q.2 ++ [0] := fun c => by unfold eachS rop; rw [rstep_bad h1]
            have := ih _ (by rw [e2]; exact h1) (by rw [e2, e3]; intro r hr; rcases List.mem_append.1 hr with hr | hr; exact h2 r hr; rw [List.mem_singleton.1 hr]; omega) (by rw [e2]; exact h3) r hr
            rw [e2] at this
            exact this
        exact hz _ (q.1, []) h0 (by simp) h.s.ok.wf.pos r hr
  exact this _ _ ⟨.start hG, hx⟩
theorem moveF_lok {G : Gra} (hG : Ok G) {side : Nat} {x y : List Nat} (hx : ∀ r ∈ x, r < 2 * G.nodes.length) (hy : ∀ r ∈ y, r < 2 * G.nodes.length) (h0 : (moveF side (G, 0) x y).1.2 = 0) : LOk G (moveF side (G, 0) x y) := by
  have h1 := movF_lok hG (side := side) (cs := y.take (stepsN x.length y.length)) hx
  by_cases hk : stepsN x.length y.length = y.length
  · rw [moveF_full hk]; exact h1
  · have hb : (movF side (G, 0) x (y.take (stepsN x.length y.length))).1.2 = 0 := by
      by_cases hz : (movF side (G, 0) x (y.take (stepsN x.length y.length))).1.2 = 0
      · exact hz
      · rw [moveF_bad hz] at h0; exact h0
    rw [moveF_high hk rfl] at h0 ⊢
    obtain ⟨a1, a2, a3⟩ := rstep_sok h1.s (Y := rAny (movF side (G, 0) x (y.take (stepsN x.length y.length))).1.1 (y.drop (stepsN x.length y.length))) (fun _ => rAny_full h1.s.ok (fun r hr => h1.s.ext.lt (hy r (List.mem_of_mem_drop hr))))
    generalize rstep (movF side (G, 0) x (y.take (stepsN x.length y.length))).1 (rAny (movF side (G, 0) x (y.take (stepsN x.length y.length))).1.1 (y.drop (stepsN x.length y.length))) = a at *
    obtain ⟨⟨G1, e1⟩, z⟩ := a
    by_cases he : e1 = 0
    · subst he
      have h2 := eachF_lok a1.ok full_and2 ((movF side (G, 0) x (y.take (stepsN x.length y.length))).2.map fun r => (r, neg z)) (fun p hp => by
        obtain ⟨r, hr, rfl⟩ := List.mem_map.1 hp
        exact ⟨a3.lt (h1.lt r hr), neg_lt a2⟩)
      exact ⟨⟨h2.s.ok, a1.ext.trans h2.s.ext, h2.s.err⟩, h2.lt⟩
    · rw [eachF_bad' _ he] at h0
      exact absurd h0 he
/-- what By finds wrong -/
def chkBy (G : Gra) (side : Nat) (x y : List Int) : Nat :=
  if side ≠ 1 ∧ side ≠ 2 then 251 else if rightB x.length = false ∨ rightB y.length = false then 250 else if badIn G x ∨ badIn G y then 200 else 0
/-- By -/
def byG (G : Gra) (side : Nat) (x y : List Int) : Gra × List Nat × Nat := if chkBy G side x y ≠ 0 then (G, [], chkBy G side x y) else wres G (moveF side (G, 0) (nats x) (nats y))
end Go.Aig
namespace Go.Aig
theorem turnL_k {x : List Int} (hx : 0 < x.length) (n : Int) : ∃ k : Nat, k < x.length ∧ (k : Int) = n % x.length ∧ turnL x n = x.drop k ++ x.take k := by
  have h1 := Int.emod_nonneg n (show (x.length : Int) ≠ 0 by omega)
  have h2 := Int.emod_lt_of_pos n (show (0 : Int) < x.length by omega)
  refine ⟨(n % x.length).toNat, by omega, by omega, ?_⟩
  unfold turnL
  rfl
@[simp] theorem turnL_len (x : List Int) (n : Int) : (turnL x n).length = x.length := by
  unfold turnL
  dsimp only
  by_cases hx : 0 < x.length
  · have h1 := Int.emod_nonneg n (show (x.length : Int) ≠ 0 by omega)
    have h2 := Int.emod_lt_of_pos n (show (0 : Int) < x.length by omega)
    have e : n.emod x.length = n % x.length := rfl
    rw [List.length_append, List.length_drop, List.length_take]
    omega
  · have : x = [] := List.eq_nil_of_length_eq_zero (by omega)
    subst this
    simp
theorem turnL_at {x : List Int} {n : Int} {i : Nat} (hi : i < x.length) : (turnL x n)[i]? = x[((i + n) % x.length).toNat]? := by
  obtain ⟨k, hk, he, ht⟩ := turnL_k (Nat.lt_of_le_of_lt (Nat.zero_le _) hi) n
  rw [ht]
  have hx : (0 : Int) < x.length := by omega
  by_cases hik : i < x.length - k
  · rw [List.getElem?_append_left (by rw [List.length_drop]; omega), List.getElem?_drop]
    congr 1
    have : ((i : Int) + n) % x.length = i + k := by
      rw [← Int.add_emod_emod, ← he]
      exact Int.emod_eq_of_lt (by omega) (by omega)
    omega
  · rw [List.getElem?_append_right (by rw [List.length_drop]; omega), List.length_drop, List.getElem?_take_of_lt (by omega)]
    congr 1
    have : ((i : Int) + n) % x.length = i + k - x.length := by
      rw [← Int.add_emod_emod, ← he, ← Int.sub_emod_right]
      exact Int.emod_eq_of_lt (by omega) (by omega)
    omega
theorem turnL_congr {x : List Int} {n m : Int} (h : n % x.length = m % x.length) : turnL x n = turnL x m := by
  have e : ∀ q : Int, q.emod x.length = q % x.length := fun _ => rfl
  unfold turnL
  rw [e, e, h]
theorem turnL_turnL (x : List Int) (n m : Int) : turnL (turnL x n) m = turnL x (n + m) := by
  refine List.ext_getElem? fun i => ?_
  by_cases hi : i < x.length
  · have hx : (0 : Int) < x.length := by omega
    have h1 := Int.emod_nonneg ((i : Int) + m) (show (x.length : Int) ≠ 0 by omega)
    have h2 := Int.emod_lt_of_pos ((i : Int) + m) hx
    rw [turnL_at (by simpa using hi), turnL_at hi]
    simp only [turnL_len]
    rw [turnL_at (by omega)]
    congr 2
    rw [Int.toNat_of_nonneg h1, Int.emod_add_emod]
    congr 1
    omega
  · rw [List.getElem?_eq_none (by simp; omega), List.getElem?_eq_none (by simp; omega)]
theorem turnL_zero (x : List Int) : turnL x 0 = x := by
  unfold turnL
  have e : (0 : Int).emod x.length = 0 := Int.zero_emod _
  dsimp only
  rw [e]
  simp
theorem turnL_perm (x : List Int) (n : Int) : (turnL x n).Perm x := by
  unfold turnL
  dsimp only
  exact (List.perm_append_comm).trans (by rw [List.take_append_drop])
/-! ### shifts by constants -/
instance : DecidableEq Gra := fun a b => decidable_of_iff (a.most = b.most ∧ a.nodes = b.nodes) ⟨fun h => by cases a; cases b; simp_all, fun h => by subst h; exact ⟨rfl, rfl⟩⟩
def fixedB (n k side : Nat) : Bool := decide (byG (gIn 4000 (n + 1)) side (natInts (rIn 0 n)) (natInts (constL k 6)) = (gIn 4000 (n + 1), shN side (rIn 0 n) (min k n), 0))
set_option maxRecDepth 100000 in
theorem fixed_all : (List.range 9).all (fun n => (List.range 21).all fun k => fixedB (n + 1) k 1 && fixedB (n + 1) k 2) = true := by decide +kernel
theorem fixed_facts {n k side : Nat} (h1 : 1 ≤ n) (h9 : n ≤ 9) (hk : k ≤ 20) (hs : side = 1 ∨ side = 2) : byG (gIn 4000 (n + 1)) side (natInts (rIn 0 n)) (natInts (constL k 6)) = (gIn 4000 (n + 1), shN side (rIn 0 n) (min k n), 0) := by
  have h := List.all_eq_true.1 fixed_all (n - 1) (List.mem_range.2 (by omega))
  have h := List.all_eq_true.1 h k (List.mem_range.2 (by omega))
  rw [show n - 1 + 1 = n by omega, Bool.and_eq_true] at h
  rcases hs with rfl | rfl
  · exact of_decide_eq_true h.1
  · exact of_decide_eq_true h.2
/-- shifted twice to one side -/
theorem shL_shL {side : Nat} (x : List Int) (n m : Nat) : shL side (shL side x (min n x.length)) (min m x.length) = shL side x (min (n + m) x.length) := by
  refine List.ext_getElem? fun i => ?_
  by_cases hi : i < x.length
  · have g : ∀ (y : List Int) (j k : Nat), (shL side y k).getD j 0 = if j < y.length then (if side = 1 then (if k ≤ j then y.getD (j - k) 0 else 0) else y.getD (j + k) 0) else 0 := fun y j k => by
      rw [List.getD_eq_getElem?_getD]
      split
      · rename_i h; rw [shL_at h]; rfl
      · rename_i h; rw [List.getElem?_eq_none (by simp; omega)]; rfl
    have z : ∀ j, x.length ≤ j → x.getD j 0 = 0 := fun j hj => by rw [List.getD_eq_getElem?_getD, List.getElem?_eq_none hj]; rfl
    rw [shL_at (by simpa using hi), shL_at hi]
    congr 1
    rw [g, g]
    split
    · by_cases h1 : min (n + m) x.length ≤ i
      · rw [if_pos h1, if_pos (by omega), if_pos (by omega), if_pos (by omega)]
        congr 1; omega
      · rw [if_neg h1]
        split
        · rw [if_pos (by omega), if_neg (by omega)]
        · rfl
    · by_cases h1 : i + (n + m) < x.length
      · rw [if_pos (by omega)]
        congr 1; omega
      · rw [z (i + min (n + m) x.length) (by omega)]
        split
        · exact z _ (by omega)
        · rfl
  · rw [List.getElem?_eq_none (by simp; omega), List.getElem?_eq_none (by simp; omega)]
end Go.Aig
namespace Go.Aig
/-- the words of a world's array -/
def wldL (N W : Nat) : List (List Int) := (List.range N).map fun i => natInts (rIn (i * W) W)
def wldG (N W V : Nat) : Gra := gIn 8000 (N * W + W + V + 1)
theorem consts_facts : ∀ N ∈ [1, 2, 3, 4], ∀ W ∈ [1, 2, 3], ∀ V ∈ [1, 2, 3], ∀ a ∈ List.range (2 ^ V),
    readG (wldG N W V) (wldL N W) (natInts (constL a V)) = (wldG N W V, if a < N then rIn (a * W) W else List.replicate W 0, 0) ∧
    writeG (wldG N W V) (wldL N W) 1 (natInts (constL a V)) (natInts (rIn (N * W) W)) = (wldG N W V, (List.range N).map (fun i => if i = a then rIn (N * W) W else rIn (i * W) W), 0) ∧
    isG (wldG N W V) (natInts (constL a V)) a = (wldG N W V, 1, 0) := by decide +kernel
end Go.Aig
namespace Go.Proofs.Ytdmmanfjafempaa
open Go.RowKit Go.Mem Go.Aig
/-- an array that is kept as a block, for a function of muxes -/
theorem Hold.wa2 {w0 : Base} {w : World} {g : Nat} {G : Gra} {F : List Nat} {L : List (Value × List Int)} (h : Hold w0 w g G F L) {b n : Nat} {cs : List Value} {ws : List WV} (hb : (b, cs) ∈ w0.K) (hc : ∀ (i : Nat) (x : WV), ws[i]? = some x → cs[i]? = some x.val) (hL : ∀ x ∈ ws, (x.val, x.l) ∈ L) (hn : ws.length = n) : WA w F (some ⟨b, 0, none⟩) n ws := by
  obtain ⟨k1, k2, k3⟩ := h.kept _ hb
  exact ⟨hn, fun _ => ⟨b, rfl, hn, fun i x hx => k1.cell (hc i x hx), fun x hx => h.at (hL x hx) rfl, k3, k1.lt⟩⟩
theorem wld_len {N W : Nat} {ws : List WV} (h : ws.map WV.l = (List.range N).map fun i => natInts (rIn (i * W) W)) : ws.length = N := by
  have := congrArg List.length h
  simpa using this
theorem wld_eq {N W : Nat} {ws : List WV} (h : ws.map WV.l = (List.range N).map fun i => natInts (rIn (i * W) W)) : ws.map WV.l = wldL N W := h
end Go.Proofs.Ytdmmanfjafempaa
namespace Go.Proofs.Ytdmmanfjafempaa
open Go.RowKit Go.Mem Go.Aig
/-- a new slice of ints -/
def INew (w : World) (v : Value) (l : List Int) (w' : World) : Prop := row w' 3 1 v l.length (intCells l) ∧ (∀ q ∈ v.ownBlock.toList, w.heap.size ≤ q) ∧ Ch [] w w'
theorem INew.since {w w1 w2 : World} {v : Value} {l : List Int} (h : INew w1 v l w2) (hc : Ch [] w w1) : INew w v l w2 := ⟨h.1, fun q hq => Nat.le_trans hc.size (h.2.1 q hq), hc.trans h.2.2 (by simp)⟩
theorem INew.nil {w w' : World} (hc : Ch [] w w') : INew w (.slice none 0 0) [] w' := ⟨⟨rfl, .inl ⟨rfl, rfl⟩⟩, by simp, hc⟩
theorem INew.parts {w w' : World} {v : Value} {l : List Int} {n : Nat} (h : INew w v l w') (hn : l.length = n) : ∃ a c, v = .slice a n c ∧ row w' 3 1 (.slice a n c) n (intCells l) ∧ (∀ q ∈ (Value.slice a n c).ownBlock.toList, w.heap.size ≤ q) ∧ Ch [] w w' := by
  subst hn
  obtain ⟨h1, h2, h3⟩ := h
  obtain ⟨a, c, rfl⟩ := row.shape h1
  exact ⟨a, c, rfl, h1, h2, h3⟩
section
variable {w : World}
set_option maxRecDepth 100000 in
set_option maxHeartbeats 1000000 in
theorem r25Right_is (n : Int) : Calls Try.prog 63 #[.int .i64 n] w fun e w' => e = .returned (.bool (rightB n)) ∧ w = w' := by
  have e : rightB n = (decide (0 < n) && decide (n < 17)) := by
    unfold rightB
    rw [show decide (1 ≤ n) = decide (0 < n) from by congr 1, show decide (n ≤ 16) = decide (n < 17) from by congr 1; exact propext ⟨fun h => by omega, fun h => by omega⟩]
  rw [e]
  clear e
  by_cases h : 0 < n
  · have h1 : decide (0 < n) = true := decide_eq_true h
    go_enter Try.func63, Try.ntmps63
    go_wp2_with fail
    go_ret
    exact ⟨by rw [h1]; rfl, rfl⟩
  · have h1 : decide (0 < n) = false := decide_eq_false h
    go_enter Try.func63, Try.ntmps63
    go_wp2_with fail
    go_ret
    exact ⟨rfl, rfl⟩
set_option maxRecDepth 100000 in
set_option maxHeartbeats 1000000 in
theorem r25Power_is (n : Nat) (hn : n ≤ 30) : Calls Try.prog 129 #[.int .i64 n] w fun e w' => e = .returned (.int .i64 ((2 ^ n : Nat) : Int)) ∧ w = w' := by
  go_enter Try.func129, Try.ntmps129
  go_wp2_with fail
  go_loopw [3, 4] (fun o i wr => ∃ k : Nat, k ≤ n ∧ i = .int .i64 k ∧ o = .int .i64 ((2 ^ k : Nat) : Int) ∧ wr = w) (fun _ i _ => n - (intOf i).toNat)
  case atStart => exact ⟨0, by omega, rfl, rfl, rfl⟩
  case round =>
    obtain ⟨k, hk, rfl, rfl, hww⟩ := hrel
    subst wr
    have hp : 2 ^ k ≤ 2 ^ 30 := Nat.pow_le_pow_right (by omega) (by omega)
    have hs : 2 ^ (k + 1) = 2 * 2 ^ k := by rw [Nat.pow_succ, Nat.mul_comm]
    by_cases hlt : k < n
    · have HS := Lib.hid hs; clear hs
      generalize hP : 2 ^ k = P at *
      clear hP
      go_wp2_with fail
      go_roundw
      case rel => exact ⟨k + 1, by omega, by go_num, by rw [HS.out]; go_num, by trivial⟩
      case measure => simp [intOf]; omega
    · have hkn : k = n := by omega
      subst hkn
      clear hs hp
      go_wp2_with fail
      go_ret
      exact ⟨rfl, rfl⟩
theorem intCells_snoc {l : List Int} {k : Nat} {x : Int} (h : l[k]? = some x) : intCells (l.take (k + 1)) = intCells (l.take k) ++ [.int .i64 x] := by unfold intCells; rw [List.take_add_one, h]; simp
end
end Go.Proofs.Ytdmmanfjafempaa
namespace Go.Proofs.Ytdmmanfjafempaa
open Go.RowKit Go.Mem Go.Aig
section
variable {w : World}
set_option maxRecDepth 100000 in
set_option maxHeartbeats 1000000 in
theorem r26Array_is (n : Int) : Calls Try.prog 62 #[.int .i64 n] w fun e w' => e = .returned (.bool (array26 n)) ∧ w = w' := by
  unfold array26
  by_cases h : 1 ≤ n
  · have h1 : decide (n > 0) = true := decide_eq_true (by omega)
    have h2 : decide ((1 : Int) ≤ n) = true := decide_eq_true h
    have h3 : decide (n < 257) = decide (n ≤ 256) := decide_eq_decide.2 (by omega)
    go_enter Try.func62, Try.ntmps62
    go_wp2_with fail
    go_ret
    exact ⟨by first | rfl | (rw [h3]; rfl) | (rw [← h3]; rfl) | (rw [h2, ← h3]; rfl), rfl⟩
  · have h1 : decide (n > 0) = false := decide_eq_false (by omega)
    have h2 : decide ((1 : Int) ≤ n) = false := decide_eq_false h
    go_enter Try.func62, Try.ntmps62
    go_wp2_with fail
    go_ret
    exact ⟨by first | rfl | (rw [h2]; rfl), rfl⟩
set_option maxRecDepth 100000 in
set_option maxHeartbeats 1000000 in
theorem r26Fits_is [Nonempty Unit] (n bits : Nat) (hb : bits ≤ 16) : Calls Try.prog 64 #[.int .i64 n, .int .i64 bits] w fun e w' => e = .returned (.int .i64 (fitN n bits : Nat)) ∧ w = w' := by
  have HP := r25Power_is (w := w) bits (by omega)
  unfold fitN
  generalize 2 ^ bits = D at *
  by_cases h : D < n
  · have h1 : decide (D < n) = true := decide_eq_true h
    rw [Nat.min_eq_right (by omega)]
    clear h
    go_enter Try.func64, Try.ntmps64
    go_wp2_with fail
    refine HP.mono ?_
    rintro e w' ⟨rfl, rfl⟩
    go_wp2_with fail
    go_ret
    exact ⟨rfl, rfl⟩
  · have h1 : decide (D < n) = false := decide_eq_false h
    rw [Nat.min_eq_left (by omega)]
    clear h
    go_enter Try.func64, Try.ntmps64
    go_wp2_with fail
    refine HP.mono ?_
    rintro e w' ⟨rfl, rfl⟩
    go_wp2_with fail
    go_ret
    exact ⟨rfl, rfl⟩
theorem rightB_26 (n : Int) : rightB n = right26 n := rfl
set_option maxRecDepth 100000 in
set_option maxHeartbeats 2000000 in
theorem fit26_is [Nonempty Unit] (n bits : Int) : Calls Try.prog 14 #[.int .i64 n, .int .i64 bits] w fun e w' => e = .returned (.bool true) ∧ w = w' := by
  have HF := mFit_is (w := w) n bits
  have HA := r26Array_is (w := w) n
  have HR := r25Right_is (w := w) bits
  rw [rightB_26] at HR
  unfold fitG at HF
  cases ha : array26 n
  · rw [ha] at HA
    simp only [ha, if_true] at HF
    clear HR
    go_enter Try.func14, Try.ntmps14
    go_wp2_with fail
    refine HF.mono ?_
    rintro e w' ⟨rfl, rfl⟩
    go_wp2_with fail
    refine HA.mono ?_
    rintro e w' ⟨rfl, rfl⟩
    go_wp2_with fail
    go_ret
    exact ⟨rfl, rfl⟩
  · rw [ha] at HA
    cases hr : right26 bits
    · rw [hr] at HR
      simp only [ha, hr, Bool.true_eq_false, if_false, if_true] at HF
      go_enter Try.func14, Try.ntmps14
      go_wp2_with fail
      refine HF.mono ?_
      rintro e w' ⟨rfl, rfl⟩
      go_wp2_with fail
      refine HA.mono ?_
      rintro e w' ⟨rfl, rfl⟩
      go_wp2_with fail
      refine HR.mono ?_
      rintro e w' ⟨rfl, rfl⟩
      go_wp2_with fail
      go_ret
      exact ⟨rfl, rfl⟩
    · rw [hr] at HR
      obtain ⟨n', rfl, hn⟩ : ∃ n' : Nat, n = n' ∧ n' ≤ 256 := by
        unfold array26 at ha; simp at ha; exact ⟨n.toNat, by omega, by omega⟩
      obtain ⟨b', rfl, hb⟩ : ∃ b' : Nat, bits = b' ∧ b' ≤ 16 := by
        unfold right26 at hr; simp at hr; exact ⟨bits.toNat, by omega, by omega⟩
      simp only [ha, hr, Bool.true_eq_false, if_false, Int.toNat_natCast] at HF
      have HFT := r26Fits_is (w := w) n' b' hb
      generalize fitN n' b' = k at *
      clear ha hr
      go_enter Try.func14, Try.ntmps14
      go_wp2_with fail
      refine HF.mono ?_
      rintro e w' ⟨rfl, rfl⟩
      go_wp2_with fail
      refine HA.mono ?_
      rintro e w' ⟨rfl, rfl⟩
      go_wp2_with fail
      refine HR.mono ?_
      rintro e w' ⟨rfl, rfl⟩
      go_wp2_with fail
      refine HFT.mono ?_
      rintro e w' ⟨rfl, rfl⟩
      go_wp2_with fail
      go_ret
      exact ⟨rfl, rfl⟩
end
end Go.Proofs.Ytdmmanfjafempaa
