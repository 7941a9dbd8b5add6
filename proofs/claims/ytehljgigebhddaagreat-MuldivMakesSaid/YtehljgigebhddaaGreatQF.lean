/-
  Walk over the reference's quotient and rest of chapter 24. Conditions: a graph that can be read, words of its references.
  What the acts of muldiv are, by the program and by the reference; walk over the laws' program. Conditions: a graph in memory, words of any integers.
  Walk over the laws' reference of chapter 24: what it makes, act by act. Conditions: a graph that can be read, words of its references.
  Walk over the reference's Check of chapter 24. Conditions: a graph that can be read, words of any integers.
  Walk over the laws' act of chapter 24: the program and the reference do the same. Conditions: both graphs the same, an act that can be read.
  Walks over makes of chapter 24's laws. Conditions: numbers in range, acts that can be read.
  From a law's argument to what the walks say: acts of muldiv. Conditions: those of the given row.
  The functions of muldiv as steps of a law's walk: the graph and the words that are held. Conditions: none beyond the hypotheses.
  Walks over small functions of the laws: words, value, pick. Conditions: slices that are read.
-/
import Derived.Test.YtehljgigebhddaaGreatQE
import Derived.Deep.DeepCutAuto
import Derived.Deep.CutBlock
import Derived.Lib.SmallJoins
import Derived.Laws.Bits64b
namespace Go.Aig
/-- the bits of a quotient that there are: the lower ones are not yet known -/
def qBits (n : Nat) (qs : List Nat) : List Nat := List.replicate (n - qs.length) 0 ++ qs.reverse
theorem qBits_len {n : Nat} {qs : List Nat} (h : qs.length ≤ n) : (qBits n qs).length = n := by unfold qBits; simp; omega
theorem qBits_set {n k j f : Nat} {qs : List Nat} (hq : qs.length = k) (hj : j + k + 1 = n) : (qBits n qs).set j f = qBits n (qs ++ [f]) := by
  unfold qBits
  have e1 : n - qs.length = j + 1 := by omega
  have e2 : n - (qs ++ [f]).length = j := by simp; omega
  rw [e1, e2, List.replicate_succ', List.append_assoc, List.set_append_right _ _ (by simp)]
  simp
theorem qBits_all {n : Nat} {qs : List Nat} (h : qs.length = n) : qBits n qs = qs.reverse := by unfold qBits; rw [h, Nat.sub_self]; rfl
theorem rev_at {X : List Nat} {n k j b : Nat} (hn : X.length = n) (hj : j + k + 1 = n) (hb : X[j]? = some b) : X.reverse[k]? = some b := by
  rw [List.getElem?_reverse (by omega), ← hb]
  congr 1
  omega
end Go.Aig
namespace Go.Proofs.YtehljgigebhddaaGreat
open Go.RowKit Go.Mem Go.Aig
/-- what a function of the reference's states leaves: a state, and two words of its own -/
def B2To (w : World) (rb : Nat) (R : Mk × List Nat × List Nat) (e : Ending) (w' : World) : Prop := ∃ rb' cap' a c a2 c2, e = .returned (.tuple #[.agg #[.int .i64 R.1.1.most, .slice (some ⟨rb', 0, none⟩) R.1.1.nodes.length cap', .int .i64 R.1.2], .slice a R.2.1.length c, .slice a2 R.2.2.length c2]) ∧ RG w' rb' cap' R.1.1 ∧ Ch [] w w' ∧ (rb' = rb ∨ w.heap.size ≤ rb') ∧ Sl w' a (natInts R.2.1) ∧ Sl w' a2 (natInts R.2.2) ∧ (∀ p, a = some p → w.heap.size ≤ p.block ∧ p.block ≠ rb') ∧ (∀ p, a2 = some p → w.heap.size ≤ p.block ∧ p.block ≠ rb')
theorem B2To.same {w W W' : World} {rb : Nat} {R : Mk × List Nat × List Nat} {e : Ending} (h : B2To w rb R e W) (hc : Ch [] W W') : B2To w rb R e W' := by
  obtain ⟨rb', cap', a, c, a2, c2, h0, h1, h2, h3, h4, h5, h6, h7⟩ := h
  exact ⟨rb', cap', a, c, a2, c2, h0, h1.ch hc (by simp), h2.trans hc (by simp), h3, h4.ch hc (by simp), h5.ch hc (by simp), h6, h7⟩
theorem row.fresh9 {w : World} {n : Nat} (xs : List Value) (T : TypeId) (hn : xs.length = n) (hm : n ≤ 1000000) : row (w.alloc (.cells xs.toArray T)) T 1 (.slice (some ⟨w.heap.size, 0, none⟩) n n) n xs :=
  ⟨by simp [hn], .inr ⟨w.heap.size, n, xs.toArray, rfl, Nat.zero_le _, heap_alloc_new w _, Nat.le_refl _, by unfold maxLen; omega, by simp [hn], by subst hn; simp⟩⟩
theorem row.at9 {w : World} {e : TypeId} {g n m c j : Nat} {xs : List Value} {u : Value} (h : row w e 1 (.slice (some ⟨g, 0, none⟩) n c) m xs) (hu : xs[j]? = some u) : w.cell? ⟨g, j, none⟩ = some u := by
  have := h.cells (g := g) rfl j u hu
  rw [Addr.add_lit, Nat.zero_add] at this
  exact this
theorem intCells_at {l : List Nat} {j u : Nat} (h : l[j]? = some u) : (intCells (natInts l))[j]? = some (.int .i64 u) := by simp [intCells, natInts, h]
theorem intCells_len (l : List Nat) : (intCells (natInts l)).length = l.length := by simp [intCells, natInts]
theorem intCells_one (l : List Nat) : ∀ u ∈ intCells (natInts l), u.oneCell' = true := fun u hu => by
  unfold intCells at hu
  obtain ⟨z, _, rfl⟩ := List.mem_map.1 hu
  rfl
theorem Sl.blk9 {w : World} {b : Nat} {c : List Int} (h : blk w b (intCells c)) (hn : c.length ≤ 1000000) : Sl w (some ⟨b, 0, none⟩) c :=
  ⟨fun i x hx => ⟨b, 0, rfl, by rw [Nat.zero_add]; exact h.cell (by simp [intCells, hx])⟩, by omega⟩
theorem metCells_ints (n : Nat) : metCells (List.replicate n false) = intCells (natInts (List.replicate n 0)) := by
  simp [metCells, intCells, natInts]
section
variable {w W W' : World} {rb0 rb cap qb : Nat} {s : Mk} {l Q : List Nat} {K : List (Value × List Nat)}
theorem RSK.fin2 {n g c m : Nat} (h : RSK w W rb0 rb cap s (.slice (some ⟨g, 0, none⟩) m c) l K qb Q) (hQ : Q.length = n) (hl : l.length = n + 1) (hn : n ≤ 1000)
    (hW : W' = ((W.setCell ⟨w.heap.size + 1, 0, none⟩ (.int .i64 s.1.most)).setCell ⟨w.heap.size + 1, 1, none⟩ (.slice (some ⟨rb, 0, none⟩) s.1.nodes.length cap)).setCell ⟨w.heap.size + 1, 2, none⟩ (.int .i64 s.2)) :
    B2To w rb0 (s, Q, l.take n) (.returned (.tuple #[.agg #[.int .i64 s.1.most, .slice (some ⟨rb, 0, none⟩) s.1.nodes.length cap, .int .i64 s.2], .slice (some ⟨qb, 0, none⟩) n n, .slice (some ⟨g, 0, none⟩) n c])) W' := by
  have hcs := set3_ch hW
  have hfr := h.st.fr
  have hl0 := h.st.low
  have hqo := h.qo
  have hgo := h.st.own g rfl
  have hrw := h.st.rw.ch hcs (fun k hk => by have := (h.st.own k hk).1; simp; omega)
  refine ⟨rb, cap, some ⟨qb, 0, none⟩, n, some ⟨g, 0, none⟩, c, by simp only [hQ]; rw [show (l.take n).length = n by rw [List.length_take]; omega], h.st.rg.ch hcs (by simp; omega), h.st.ch.trans hcs (fun k hk => .inr (by simp at hk; omega)), by omega, ?_, ?_, ?_, ?_⟩
  · exact Sl.blk9 (h.qw.ch hcs (by simp; omega)) (by simp [natInts, hQ]; omega)
  · refine ⟨fun i x hx => ⟨g, 0, rfl, ?_⟩, by simp [natInts]; omega⟩
    rw [Nat.zero_add]
    refine row.at9 hrw ?_
    unfold natInts at hx ⊢
    rw [List.getElem?_map] at hx
    obtain ⟨z, hz, rfl⟩ := Option.map_eq_some_iff.1 hx
    have hz2 : l[i]? = some z := by rw [List.getElem?_take] at hz; split at hz; exact hz; cases hz
    exact intCells_at hz2
  · intro p hp; cases hp; exact ⟨by show w.heap.size ≤ qb; omega, hqo.2.1⟩
  · intro p hp; cases hp; exact ⟨by show w.heap.size ≤ g; omega, hgo.2⟩
end
set_option maxRecDepth 100000 in
set_option maxHeartbeats 16000000 in
theorem r24Both_is {w : World} {rb cap : Nat} {G : Gra} (h : RG w rb cap G) {xa ya : Option Addr} {X Y : List Nat} (n xc yc : Nat) (hX : Sl w xa (natInts X)) (hY : Sl w ya (natInts Y)) (hn : X.length = n) (hm : Y.length = n) (h1 : 1 ≤ n) (hn0 : n ≤ 900) (hxr : ∀ r ∈ X, r < 2 * G.nodes.length) (hyr : ∀ r ∈ Y, r < 2 * G.nodes.length) :
    Calls Tryz.prog 301 #[.agg #[.int .i64 G.most, .slice (some ⟨rb, 0, none⟩) G.nodes.length cap, .int .i64 0], .slice xa n xc, .slice ya n yc] w (B2To w rb ((rdF (Y ++ [0]) (G, 0) X.reverse).1, (rdF (Y ++ [0]) (G, 0) X.reverse).2.1.reverse, (rdF (Y ++ [0]) (G, 0) X.reverse).2.2.take n)) := by
  have hok := h.ok
  have hDr : ∀ r ∈ Y ++ [0], r < 2 * G.nodes.length := fun r hr => by
    rcases List.mem_append.1 hr with hr | hr
    · exact hyr r hr
    · rw [List.mem_singleton.1 hr]; have := hok.wf.pos; omega
  have hDl : (Y ++ [0]).length = n + 1 := by simp [hm]
  have hFok := fun k => rdF_ok hok (D := Y ++ [0]) (by omega) hDr (X.reverse.take k) (fun r hr => hxr r (List.mem_reverse.1 (List.mem_of_mem_take hr)))
  have hFsn := fun k b (hb : X.reverse[k]? = some b) => show rdF (Y ++ [0]) (G, 0) (X.reverse.take (k + 1)) = rdS (Y ++ [0]) (rdF (Y ++ [0]) (G, 0) (X.reverse.take k)) b by
    rw [List.take_add_one, hb, Option.toList_some, rdF_snoc]
  have hRv := fun j k b (hj : j + k + 1 = n) (hb : X[j]? = some b) => rev_at hn hj hb
  have hall : X.reverse.take n = X.reverse := List.take_of_length_le (by simp [hn])
  have hXRl : ∀ k, k ≤ n → (X.reverse.take k).length = k := fun k hk => by rw [List.length_take, List.length_reverse, hn]; omega
  obtain ⟨y9, hy9⟩ : ∃ y9, (natInts Y)[0]? = some y9 := ⟨_, List.getElem?_eq_getElem (by simp [natInts]; omega)⟩
  obtain ⟨yb, yo, rfl, hyc9⟩ := hY.cells 0 _ hy9
  clear hyc9 hy9 y9
  have hnw : ∀ (W : World), Ch [] w W → ∀ j u, (intCells (natInts Y))[j]? = some u → W.cell? ((⟨yb, yo, none⟩ : Addr).add j) = some u := fun W hW j u hu => by
    unfold intCells at hu
    rw [List.getElem?_map] at hu
    obtain ⟨z, hz, rfl⟩ := Option.map_eq_some_iff.1 hu
    obtain ⟨b', o', e, hc⟩ := hY.cells j z hz
    cases e
    rw [Addr.add_lit]
    exact (hW.cell (cell_lt hc) (by simp)).trans hc
  generalize hXR : X.reverse = XR at *
  have hDm : intCells (natInts (Y ++ [0])) = intCells (natInts Y) ++ [.int .i64 0] := natInts_snoc' Y 0
  have hyl : (intCells (natInts Y)).length = n := by simp [intCells, natInts, hm]
  obtain ⟨YC, hYC⟩ : ∃ YC, YC = intCells (natInts Y) := ⟨_, rfl⟩
  rw [← hYC] at hDm hnw hyl
  have hone : ∀ u ∈ YC, u.oneCell' = true := fun u hu => by
    rw [hYC] at hu
    unfold intCells at hu
    obtain ⟨z, _, rfl⟩ := List.mem_map.1 hu
    rfl
  obtain ⟨D, hD⟩ : ∃ D, D = Y ++ [0] := ⟨_, rfl⟩
  rw [← hD] at hDr hDl hFok hFsn hDm ⊢
  clear hY hYC hD hm hyr
  have HX := Lib.hid hX; clear hX
  have H := Lib.hid h; clear h
  have HFOK := Lib.hid hFok; clear hFok
  have HFSN := Lib.hid hFsn; clear hFsn
  have HRV := Lib.hid hRv; clear hRv
  have HALL := Lib.hid hall; clear hall
  have HXRL := Lib.hid hXRl; clear hXRl
  have HNW := Lib.hid hnw; clear hnw
  have HN := Lib.hid hn; clear hn
  have HDM := Lib.hid hDm; clear hDm
  have HYL := Lib.hid hyl; clear hyl
  have HDR := Lib.hid hDr; clear hDr
  have HDL := Lib.hid hDl; clear hDl
  have HONE := Lib.hid hone; clear hone
  have HXR := Lib.hid hxr; clear hxr hXR hok
  go_enter Tryz.func301, Tryz.ntmps301
  go_upto_region 1 with fail
  refine wp_alw ?_
  intro W0 hW0
  have hst := RSt.start H.out hW0 rfl
  clear hW0
  have HST := Lib.hid hst; clear hst
  have he0 : row (W0.alloc (.cells #[] 3)) 3 1 (.slice (some ⟨W0.heap.size, 0, none⟩) 0 0) 0 [] := row.fresh9 [] _ rfl (by omega)
  have hnA := HNW.out (W0.alloc (.cells #[] 3)) (HST.out.ch.alloc _)
  have HE0 := Lib.hid he0; clear he0
  have HNA := Lib.hid hnA; clear hnA
  have hmk := fun (W : World) => run_make_ints W n (by omega)
  have hmk1 := fun (W : World) => run_make_ints W (n + 1) (by omega)
  rw [show ((n + 1 : Nat) : Int) = (n : Int) + 1 from rfl] at hmk1
  go_wp2_with (at_builtin; first | (go_loud (refine wpList_append_row slInts rfl _ _ rfl (v := .slice (some ⟨W0.heap.size, 0, none⟩) 0 0) (n := 0) (xs := []) rfl HE0.out (ad := ⟨yb, yo, none⟩) (m := n) (c := yc) (news := YC) rfl (by rw [HYL.out, Nat.mul_one]) HNA.out HONE.out (by omega) (by omega) ?_; intro v1 wA hr1 hcA hf1; rw [Nat.zero_add, List.nil_append] at hr1; obtain ⟨da, dc, rfl⟩ := row.shape hr1; have hbA : blk (wA.alloc (.cells #[.int .i64 0] 3)) wA.heap.size [.int .i64 0] := blk.new' _ _ rfl; have hrA := hr1.ch ((Ch.refl [] wA).alloc (.cells #[.int .i64 0] 3)) (by simp); have HR1 := Lib.hid hrA; clear hr1 hrA; have HBA := Lib.hid hbA; clear hbA; have HCA := Lib.hid hcA; clear hcA; have HF1 := Lib.hid hf1; clear hf1)) | (go_loud (refine wpList_append_row slInts rfl _ _ rfl (v := .slice da n dc) (n := n) (xs := YC) rfl HR1.out (ad := ⟨wA.heap.size, 0, none⟩) (m := 1) (c := 1) (news := [.int .i64 0]) rfl rfl (news_blk HBA.out) (by simp [Value.oneCell']) (by omega) (by omega) ?_; intro v2 wB hr2 hcB hf2; obtain ⟨ea, ec, rfl⟩ := row.shape hr2; have HR2 := Lib.hid hr2; clear hr2; have HCB := Lib.hid hcB; clear hcB; have HF2 := Lib.hid hf2; clear hf2)))
  clear hmk hmk1
  refine wp_alw ?_
  intro W1 hW1
  have h0A : Ch [] W0 wA := (((Ch.refl [] W0).alloc (.cells #[] 3)).mono (by simp)).trans HCA.out (fun k hk => .inr (by simp [Value.ownBlock] at hk; omega))
  have hd1 : ∀ k, (Value.slice da n dc).ownBlock = some k → W0.heap.size ≤ k := fun k hk => by
    rcases HF1.out k hk with e | e
    · simp at e; omega
    · have := ((Ch.refl [] W0).alloc (.cells #[] 3)).size; omega
  have h0B : Ch [] W0 wB := ((h0A.alloc (.cells #[.int .i64 0] 3))).trans HCB.out (fun k hk => .inr (hd1 k (by simpa using hk)))
  have hd2 : ∀ k, (Value.slice ea (n + 1) ec).ownBlock = some k → W0.heap.size ≤ k := fun k hk => by
    rcases HF2.out k hk with e | e
    · exact hd1 k e
    · have := (h0A.alloc (.cells #[.int .i64 0] 3)).size; omega
  have hBr : row (wB.alloc (.cells (metCells (List.replicate (n + 1) false)).toArray 3)) 3 1 (.slice (some ⟨wB.heap.size, 0, none⟩) (n + 1) (n + 1)) (n + 1) (metCells (List.replicate (n + 1) false)) := row.fresh9 _ _ (by simp [metCells]) (by omega)
  have hcl : Ch [] (wB.alloc (.cells (metCells (List.replicate (n + 1) false)).toArray 3)) W1 := by rw [hW1]; exact (Ch.refl _ _).alloc _
  have hB1 : Ch [] wB W1 := ((Ch.refl [] wB).alloc (.cells (metCells (List.replicate (n + 1) false)).toArray 3)).trans hcl (by simp)
  have hqb : blk W1 (wB.heap.size + 1) (metCells (List.replicate n false)) := by rw [hW1]; exact blk.new' _ _ (by simp)
  have hr1 := hBr.ch hcl (by simp)
  rw [metCells_ints] at hr1 hqb
  have hd := HR2.out.ch hB1 (by simp)
  have hdlt : ∀ k, (Value.slice ea (n + 1) ec).ownBlock = some k → k < wB.heap.size := fun k hk => (HR2.out.lt k hk).2
  rw [← HDM.out] at hd
  have h01 := h0B.trans hB1 (by simp)
  have hlow := HST.out.low
  have hW0l := HST.out.lt
  have hBs := h0B.size
  have hstA := (HST.out.same h01).word (v' := .slice (some ⟨wB.heap.size, 0, none⟩) (n + 1) (n + 1)) (l' := List.replicate (n + 1) 0) (by rw [List.length_replicate]; exact hr1) (fun q hq => by simp at hq; omega)
  have hsk : RSK w W1 rb rb cap (G, 0) (.slice (some ⟨wB.heap.size, 0, none⟩) (n + 1) (n + 1)) (List.replicate (n + 1) 0) [(.slice ea (n + 1) ec, D)] (wB.heap.size + 1) (qBits n []) := by
    refine ⟨hstA, fun p hp => ?_, fun p hp q hq => ?_, by rw [show qBits n [] = List.replicate n 0 by simp [qBits]]; exact hqb, by omega, by omega, by simp⟩
    · rw [List.mem_singleton.1 hp]
      simp only
      rw [HDL.out]
      exact hd
    · rw [List.mem_singleton.1 hp] at hq
      have h1 := hd2 q hq
      have h2 := hdlt q hq
      exact ⟨by omega, by omega, by simp; omega, by omega⟩
  have h00 : rdF D (G, 0) (XR.take 0) = ((G, 0), [], List.replicate (n + 1) 0) := by rw [List.take_zero]; unfold rdF; rw [HDL.out]; rfl
  have HSK := Lib.hid hsk; clear hsk hstA hdlt hd hr1 hqb hB1 hcl hBr hd2 h0B hd1 h0A hW1
  clear HR1 HR2 HCA HCB HF1 HF2 HBA HST HE0 HNA h01
  have H00 := Lib.hid h00; clear h00
  go_loopw [11, 13] (fun r i wr => ∃ (k rbk capk : Nat), k ≤ n ∧ i = .int .i64 ((n : Int) - 1 - k) ∧ RSK w wr rb rbk capk (rdF D (G, 0) (XR.take k)).1 r (rdF D (G, 0) (XR.take k)).2.2 [(.slice ea (n + 1) ec, D)] (wB.heap.size + 1) (qBits n (rdF D (G, 0) (XR.take k)).2.1)) (fun _ i _ => (intOf i + 1).toNat)
  case atStart => exact ⟨0, rb, cap, by omega, by simp, by rw [H00.out]; exact HSK.out⟩
  case round =>
    clear HSK H00
    obtain ⟨k, rbk, capk, hk, hi, hst⟩ := hrel
    by_cases hkn : k < n
    · obtain ⟨j, hj⟩ : ∃ j : Nat, j + k + 1 = n := ⟨n - 1 - k, by omega⟩
      have hij : (n : Int) - 1 - k = (j : Int) := by omega
      rw [hij] at hi
      subst hi
      clear hij
      obtain ⟨b, hb⟩ : ∃ b, X[j]? = some b := ⟨_, List.getElem?_eq_getElem (by rw [HN.out]; omega)⟩
      have hbr := HXR.out b (List.mem_of_getElem? hb)
      have hes := HFSN.out k b (HRV.out j k b hj hb)
      have hlk := (HFOK.out k).2.2
      rw [HXRL.out k hk] at hlk
      have hrl := (HFOK.out k).2.1
      have hok := (HFOK.out k).1
      generalize hEE : rdF D (G, 0) (XR.take (k + 1)) = EN at hes
      generalize rdF D (G, 0) (XR.take k) = ES at hes hst hlk hrl hok
      obtain ⟨⟨G2, q2⟩, qs, R⟩ := ES
      simp only at hst hes hlk hrl hok
      rw [HDL.out] at hrl
      have hDr2 : ∀ r ∈ D, r < 2 * G2.nodes.length := fun r hr => hok.s.ext.lt (HDR.out r hr)
      have hop := rdOk (qs := qs) hok.s (D := D) (b := b) (R := R) hDr2 (hok.s.ext.lt hbr) hok.lt
      have hdl := rdD_len D qs R (G2, q2) b (by rw [hrl, HDL.out]) (by rw [HDL.out]; omega)
      rw [HDL.out] at hdl
      unfold rdS at hes
      rw [rdM_take D qs R (G2, q2) b (n + 1) hrl HDL.out (by omega)] at hes
      obtain ⟨R2, hR2⟩ : ∃ R2, R2 = b :: R.dropLast := ⟨_, rfl⟩
      have hR2l : R2.length = n + 1 := by rw [hR2, List.length_cons, List.length_dropLast, hrl]; omega
      have hR2r : ∀ r ∈ R2, r < 2 * G2.nodes.length := fun r hr => by
        rw [hR2] at hr
        rcases List.mem_cons.1 hr with e | hr
        · rw [e]; exact hok.s.ext.lt hbr
        · exact hok.lt r ((List.dropLast_sublist _).subset hr)
      have eL : rdL D ((G2, q2), qs, R) b = negS (ltF (G2, q2) (R2.zip D)) := by rw [hR2]; rfl
      have eD : rdD D ((G2, q2), qs, R) b = subW (n + 1) (rdL D ((G2, q2), qs, R) b).1 R2 D := by rw [← hR2l, hR2]; rfl
      have hRc : intCells (natInts R2) = [.int .i64 b] ++ intCells (natInts (R.take n)) := by rw [hR2, List.dropLast_eq_take, hrl, Nat.add_sub_cancel]; simp [intCells, natInts]
      rw [← hR2] at hes
      simp only [← hR2] at hop
      have hv := ltF_preQ hok.s.ok hok.s.err (Z := R2.zip D) (fun p hp => ⟨hR2r _ (List.of_mem_zip hp).1, hDr2 _ (List.of_mem_zip hp).2⟩) _ (fun p hp => hp)
      have hp : (ltF (G2, q2) (R2.zip D)).2 ≤ 1000000 := by have h1 := hv.lt; have h2 := hv.s.ok.small; exact Nat.le_trans (Nat.le_of_lt h1) (by omega)
      have hLe := fun (W : World) (hW : RG W rbk capk G2) (a1 : Option Addr) (c1 : Nat) (s1 : Sl W a1 (natInts D)) (a2 : Option Addr) (c2 : Nat) (s2 : Sl W a2 (natInts R2)) => r23LeQ_is hW hok.s.err (n + 1) c1 c2 s1 s2 HDL.out hR2l (by omega) hDr2 hR2r hp
      rw [← eL] at hLe
      generalize rdL D ((G2, q2), qs, R) b = L at *
      generalize rdD D ((G2, q2), qs, R) b = E at *
      obtain ⟨⟨G3, q3⟩, f⟩ := L
      have hSub := fun (W : World) (rbx capx : Nat) (hW : RG W rbx capx G3) (a1 : Option Addr) (c1 : Nat) (s1 : Sl W a1 (natInts R2)) (a2 : Option Addr) (c2 : Nat) (s2 : Sl W a2 (natInts D)) => r23SubQ_is hW hop.l.s.err (n + 1) c1 c2 s1 s2 hR2l HDL.out (by omega) (fun r hr => hop.le.lt (hR2r r hr)) (fun r hr => hop.le.lt (hDr2 r hr))
      simp only at hSub hLe eD
      rw [← eD] at hSub
      obtain ⟨⟨G5, q5⟩, EL⟩ := E
      simp only at hes hdl hop
      have hf5 : f < 2 * G5.nodes.length := hop.de.lt hop.l.lt
      have hR5 : ∀ r ∈ R2, r < 2 * G5.nodes.length := fun r hr => hop.de.lt (hop.le.lt (hR2r r hr))
      have hE5 : ∀ r ∈ EL, r < 2 * G5.nodes.length := hop.e.lt
      have hcm := hop.m
      clear eL eD hv hp hop hDr2 hR2r hok
      -- the row of the rest
      have hrw := hst.st.rw
      obtain ⟨rg, rc, hrg⟩ := hrw.parts (by omega)
      subst hrg
      have hrcap := row_cap hrw
      obtain ⟨ab, ao, ae, ac⟩ := HX.out.cells j (b : Int) (by simp [natInts, hb])
      have ac2 := (hst.st.ch.cell (cell_lt ac) (by simp)).trans ac
      have abl := cell_lt ac
      subst ae
      have hrl2 : (intCells (natInts (R.take n))).length = n := by rw [intCells_len, List.length_take]; omega
      have hnews : ∀ (W : World), Ch [] wr W → ∀ i u, (intCells (natInts (R.take n)))[i]? = some u → W.cell? ((⟨rg, 0, none⟩ : Addr).add i) = some u := fun W hW i u hu => by
        have hu2 : (intCells (natInts R))[i]? = some u := by
          unfold intCells natInts at hu ⊢
          rw [List.map_take, List.map_take, List.getElem?_take] at hu
          split at hu
          · exact hu
          · cases hu
        have := hrw.cells (g := rg) rfl i u hu2
        have h2 := (hrw.lt rg rfl).2
        rw [Addr.add_lit] at this ⊢
        exact (hW.cell (p := ⟨rg, 0 + i, none⟩) h2 (by simp)).trans this
      have hoc := intCells_one (R.take n)
      obtain ⟨RC, hRC⟩ : ∃ RC, RC = intCells (natInts (R.take n)) := ⟨_, rfl⟩
      rw [← hRC] at hnews hoc hrl2 hRc
      rw [hrl] at hrcap
      clear hrw hRC ac
      have hjn : j < n := by omega
      have HJ := Lib.hid hj; clear hj
      have HST := Lib.hid hst; clear hst
      have HEE := Lib.hid hEE; clear hEE
      have HES := Lib.hid hes; clear hes
      have HLE := Lib.hid hLe; clear hLe
      have HSUB := Lib.hid hSub; clear hSub
      have HCM := Lib.hid hcm; clear hcm
      have HR5 := Lib.hid hR5; clear hR5
      have HE5 := Lib.hid hE5; clear hE5
      have HF5 := Lib.hid hf5; clear hf5
      have HNEWS := Lib.hid hnews; clear hnews
      have HOC := Lib.hid hoc; clear hoc
      have HRL2 := Lib.hid hrl2; clear hrl2
      have HRL := Lib.hid hrl; clear hrl
      have HRC := Lib.hid hRc; clear hRc
      have HLK := Lib.hid hlk; clear hlk
      have HDLL := Lib.hid hdl; clear hdl
      have HR2L := Lib.hid hR2l; clear hR2l hR2 hb hbr
      have hkk := hkn
      clear hkn hk
      obtain ⟨rl, hrleq⟩ : ∃ rl, rl = R.length := ⟨_, rfl⟩
      rw [HRL.out]
      clear hrleq rl
      go_upto_region 8 with fail
      go_cut [11] (fun r wd => ∃ (ra rc2 : Nat), r = .slice (some ⟨ra, 0, none⟩) (n + 1) rc2 ∧ Ch [] wr wd ∧ row wd 3 1 r (n + 1) (intCells (natInts R2)) ∧ wr.heap.size ≤ ra)
      case first =>
        refine Ord.St.door (fun _ => True) [.fl, .fl, .fl, .rd, .ef, .fl, .fl, .fl, .ef, .fl] [0, 0, 3, 7, 15, 0, 0, 96, 255, 511] [0, 1, 2, 3, 4, 5, 6, 7, 8, 9] mixed (by kernel_rfl) rfl ?_
        refine Ord.St.fl2 (T' := ?_) 0 [1, 2, 3, 4, 5, 6, 7, 8, 9] _ _ rfl (by kernel_rfl) rfl rfl rfl rfl (fun K w' hk => ?_) ?_
        rotate_left
        · go_step; exact hk
        refine Ord.St.fl2 (T' := ?_) 1 [2, 3, 4, 5, 6, 7, 8, 9] _ _ rfl (by kernel_rfl) rfl rfl rfl rfl (fun K w' hk => ?_) ?_
        rotate_left
        · go_step; exact hk
        refine Ord.St.fl2 (T' := ?_) 2 [3, 4, 5, 6, 7, 8, 9] _ _ rfl (by kernel_rfl) rfl rfl rfl rfl (fun K w' hk => ?_) ?_
        rotate_left
        · go_step; exact hk
        obtain ⟨Wc, hWc⟩ : ∃ Wc, Wc = wr.drew := ⟨_, rfl⟩
        try rw [← hWc]
        have hcur : Ch [] wr Wc := by rw [hWc]; exact (Ch.refl _ _).drew
        clear hWc
        have a0 := (hcur.cell (cell_lt ac2) (by simp)).trans ac2
        refine Ord.St.rd2 (T' := ?_) 3 [4, 5, 6, 7, 8, 9] _ _ rfl (by kernel_rfl) rfl rfl rfl rfl (fun K hk => ?_) ?_
        rotate_left
        · go_step; exact hk
        refine Ord.St.fl2 (T' := ?_) 5 [4, 6, 7, 8, 9] _ _ rfl (by kernel_rfl) rfl rfl rfl rfl (fun K w' hk => ?_) ?_
        rotate_left
        · go_step; exact hk
        refine Ord.St.fl2 (T' := ?_) 6 [4, 7, 8, 9] _ _ rfl (by kernel_rfl) rfl rfl rfl rfl (fun K w' hk => ?_) ?_
        rotate_left
        · go_step; exact hk
        refine Ord.St.fl2 (T' := ?_) 7 [4, 8, 9] _ _ rfl (by kernel_rfl) rfl rfl rfl rfl (fun K w' hk => ?_) ?_
        rotate_left
        · go_step; exact hk
        refine Ord.St.ef 4 [8, 9] _ rfl (by kernel_rfl) (fun K hK => ?_)
        go_wp2_with fail
        refine ⟨rfl, hK _ _ ?_⟩; clear hK K
        refine Ord.St.ef 8 [9] _ rfl (by kernel_rfl) (fun K hK => ?_)
        have hra : row (Wc.alloc (.cells #[.int .i64 b] 3)) 3 1 (.slice (some ⟨Wc.heap.size, 0, none⟩) 1 1) 1 [.int .i64 b] := row.fresh9 _ _ rfl (by omega)
        have hnw := HNEWS.out (Wc.alloc (.cells #[.int .i64 b] 3)) (hcur.alloc _)
        have HRA := Lib.hid hra; clear hra
        have HNW2 := Lib.hid hnw; clear hnw a0
        go_wp2_with (at_builtin; go_loud (refine wpList_append_row slInts rfl _ _ rfl (v := .slice (some ⟨Wc.heap.size, 0, none⟩) 1 1) (n := 1) (xs := [.int .i64 b]) rfl HRA.out (ad := ⟨rg, 0, none⟩) (m := n) (c := rc) (news := RC) rfl (by rw [HRL2.out, Nat.mul_one]) HNW2.out HOC.out (by omega) (by omega) ?_; intro v' w4 hown4 hC4 hf4; rw [Nat.add_comm 1 n, ← HRC.out] at hown4; obtain ⟨ga, gc, rfl⟩ := hown4.parts (by omega); have HO4 := Lib.hid hown4; clear hown4; have HC4 := Lib.hid hC4; clear hC4; have HF4 := Lib.hid hf4; clear hf4))
        refine ⟨rfl, hK _ _ ?_⟩; clear hK K
        refine Ord.St.fl2 (T' := ?_) 9 [] _ _ rfl (by kernel_rfl) rfl rfl rfl rfl (fun K w' hk => ?_) ?_
        rotate_left
        · go_step; exact hk
        refine Ord.St.nil ?_
        go_wp2_with fail
        go_meet
        case rel =>
          refine ⟨ga, gc, rfl, (hcur.alloc (.cells #[.int .i64 b] 3)).trans HC4.out (fun k hk => .inr (by simp at hk; have := hcur.size; omega)), HO4.out, ?_⟩
          have h1 := hcur.size
          have h2 := (hcur.alloc (.cells #[.int .i64 b] 3)).size
          rcases HF4.out ga rfl with e | e
          · simp at e; omega
          · omega
      case rest =>
        obtain ⟨ra, rc2, rfl, hcA, hrowA, hralo⟩ := hcut
        have hdk := HST.out.kw (.slice ea (n + 1) ec, D) (by simp)
        simp only at hdk
        rw [HDL.out] at hdk
        have hdlt : ∀ q, (Value.slice ea (n + 1) ec).ownBlock = some q → q < wr.heap.size := fun q hq => (hdk.lt q hq).2
        have hrbk := HST.out.st.rg.lt
        have hqbl := HST.out.qw.lt
        have hwl := HST.out.st.lt
        have hdA := hdk.ch hcA (by simp)
        have hRS := HST.out.same hcA
        have hra1 := (hrowA.lt ra rfl).2
        have hwc := hcA.size
        have hA := HLE.out wc hRS.st.rg ea ec (Sl.of_ints hdA (by omega)) (some ⟨ra, 0, none⟩) rc2 (Sl.of_ints hrowA (by omega))
        have y0 := hRS.st.b4.cell (i := 0) rfl
        have y1 := hRS.st.b4.cell (i := 1) rfl
        have y2 := hRS.st.b4.cell (i := 2) rfl
        have HA := Lib.hid hA; clear hA
        have HRS := Lib.hid hRS; clear hRS
        have HD := Lib.hid hdA; clear hdA hdk
        have HDLT := Lib.hid hdlt; clear hdlt
        have HRW := Lib.hid hrowA; clear hrowA hcA
        go_wp2_with fail
        refine HA.out.mono ?_
        rintro e w7 ⟨rb2, cap2, rfl, hrg2, hch, hfr3⟩
        have HRG2 := Lib.hid hrg2; clear hrg2
        have HCH := Lib.hid hch; clear hch y0 y1 y2 HA
        go_upto_region 10 with fail
        refine wp_alw ?_
        intro W8 hW8
        have hb8 : blk W8 w7.heap.size [.int .i64 G3.most, .slice (some ⟨rb2, 0, none⟩) G3.nodes.length cap2, .int .i64 q3] := by rw [hW8]; exact blk.new' _ _ rfl
        have hc8 : Ch [] w7 W8 := by rw [hW8]; exact (Ch.refl _ _).alloc _
        clear hW8
        have hc18 := HCH.out.trans hc8 (by simp)
        have x0 := hb8.cell (i := 0) rfl
        have x1 := hb8.cell (i := 1) rfl
        have x2 := hb8.cell (i := 2) rfl
        have hA := HSUB.out W8 rb2 cap2 (HRG2.out.ch hc8 (by simp)) (some ⟨ra, 0, none⟩) rc2 (Sl.of_ints (HRW.out.ch hc18 (by simp)) (by omega)) ea ec (Sl.of_ints (HD.out.ch hc18 (by simp)) (by omega))
        have HA2 := Lib.hid hA; clear hA hb8
        have hz8 := hc18.size
        have HC18 := Lib.hid hc18; clear hc18
        have HRX2 := Lib.hid (HRG2.out.ch hc8 (by simp)); clear HRG2 hc8
        go_wp2_with fail
        refine HA2.out.mono ?_
        rintro e w9 ⟨rb3, cap3, la, lc, rfl, hrg3, hch3, hfr4, hrow3, hown3⟩
        have hdl := HDLL.out
        simp only at hrow3 hown3 hrg3
        rw [hdl] at hrow3 hown3
        rw [hdl]
        obtain ⟨lb, lc2, hla⟩ := hrow3.parts (by omega)
        injection hla with hla1 hla2 hla3
        subst hla1
        clear hla2 hla3 hdl lc2
        have hlb := hown3 lb rfl
        have HRG3 := Lib.hid hrg3; clear hrg3
        have HROW3 := Lib.hid hrow3; clear hrow3 hown3
        have HCH3 := Lib.hid hch3; clear hch3 x0 x1 x2 HA2
        go_upto_region 11 with fail
        refine wp_alw ?_
        intro W10 hW10
        have hb10 : blk W10 w9.heap.size [.int .i64 G5.most, .slice (some ⟨rb3, 0, none⟩) G5.nodes.length cap3, .int .i64 q5] := by rw [hW10]; exact blk.new' _ _ rfl
        have hc10 : Ch [] w9 W10 := by rw [hW10]; exact (Ch.refl _ _).alloc _
        clear hW10
        have hcW := (HC18.out.trans HCH3.out (by simp)).trans hc10 (by simp)
        have x0 := hb10.cell (i := 0) rfl
        have x1 := hb10.cell (i := 1) rfl
        have x2 := hb10.cell (i := 2) rfl
        have hbp := (HRS.out.same hcW).st.b4
        have f0 := hbp.frozen (i := 0)
        have f1 := hbp.frozen (i := 1)
        have f2 := hbp.frozen (i := 2)
        have y0 := hbp.cell (i := 0) rfl
        have y1 := hbp.cell (i := 1) rfl
        have y2 := hbp.cell (i := 2) rfl
        have hrx3 := HRG3.out.ch hc10 (by simp)
        have hrl3 := HROW3.out.ch hc10 (by simp)
        have HCW := Lib.hid hcW; clear hcW hbp hb10
        have HRX3 := Lib.hid hrx3; clear hrx3 HRG3
        have HRL3 := Lib.hid hrl3; clear hrl3 HROW3 hc10
        go_upto_region 12 with fail
        refine wp_alw ?_
        intro W11 hW11
        have hsp := HRS.out.put HCW.out HRX3.out (by rcases hfr3 with e | e <;> rcases hfr4 with e2 | e2 <;> omega) hW11
        have hcs := set3_ch hW11
        have hrk := (HRW.out.ch HCW.out (by simp)).ch hcs (fun q hq => by simp at hq; simp; omega)
        have hlk3 := HRL3.out.ch hcs (fun q hq => by simp at hq; simp; omega)
        have hlw := (hlk3.lt lb rfl).2
        have hs0 := ((hsp.word (v' := .slice (some ⟨ra, 0, none⟩) (n + 1) rc2) (l' := R2) (by rw [HR2L.out]; exact hrk) (fun q hq => by
          simp at hq
          subst hq
          refine ⟨by omega, by rcases hfr3 with e | e <;> rcases hfr4 with e2 | e2 <;> omega, by omega, fun p hp e => ?_⟩
          rw [List.mem_singleton.1 hp] at e
          have := HDLT.out _ e
          omega)).keep).more (u := .slice (some ⟨lb, 0, none⟩) (n + 1) lc) (m := EL) (by rw [HDLL.out]; exact hlk3) (fun q hq => by
          simp at hq
          subst hq
          exact ⟨by omega, hlb.2, by simp [Value.ownBlock], by omega⟩)
        clear hW11 hcs x0 x1 x2 y0 y1 y2 f0 f1 f2 hsp hrk hlk3 hlb hfr3 hfr4
        have HS0 := Lib.hid hs0; clear hs0
        clear HRS HRX2 HC18 HCH3 HCW HRX3 HRL3 HRW HD HST HLE HSUB HNEWS HCH ac2
        go_wp2_with fail
        go_loopw [18, 19] (fun nx i wq => ∃ (m rbj capj : Nat), m ≤ n + 1 ∧ i = .int .i64 m ∧ RSK w wq rb rbj capj (chF f (G5, q5) ((EL.zip R2).take m)).1 nx (chF f (G5, q5) ((EL.zip R2).take m)).2 [(.slice (some ⟨lb, 0, none⟩) (n + 1) lc, EL), (.slice (some ⟨ra, 0, none⟩) (n + 1) rc2, R2), (.slice ea (n + 1) ec, D)] (wB.heap.size + 1) (qBits n qs)) (fun _ i _ => n + 1 - (intOf i).toNat)
        case atStart => exact ⟨0, rb3, cap3, by omega, rfl, by rw [List.take_zero]; exact HS0.out⟩
        case round =>
          clear HS0
          obtain ⟨m, rbj, capj, hm, rfl, hs⟩ := hrel
          have hlen := chF_len f (G5, q5) ((EL.zip R2).take m)
          rw [List.length_take, List.length_zip, HDLL.out, HR2L.out] at hlen
          by_cases hmn : m < n + 1
          · obtain ⟨u, hu⟩ : ∃ u, EL[m]? = some u := ⟨_, List.getElem?_eq_getElem (by rw [HDLL.out]; exact hmn)⟩
            obtain ⟨v, hv⟩ : ∃ v, R2[m]? = some v := ⟨_, List.getElem?_eq_getElem (by rw [HR2L.out]; exact hmn)⟩
            have hzz : (EL.zip R2)[m]? = some (u, v) := List.getElem?_zip_eq_some.2 ⟨hu, hv⟩
            have hrw := chF_snoc f (G5, q5) ((EL.zip R2).take m) (u, v)
            have htk : (EL.zip R2).take (m + 1) = (EL.zip R2).take m ++ [(u, v)] := by rw [List.take_add_one, hzz]; rfl
            rw [← htk] at hrw
            have hcm := HCM.out m
            have hu5 := HE5.out u (List.mem_of_getElem? hu)
            have hv5 := HR5.out v (List.mem_of_getElem? hv)
            generalize hAA : chF f (G5, q5) ((EL.zip R2).take (m + 1)) = AN at hrw
            generalize chF f (G5, q5) ((EL.zip R2).take m) = AS at hrw hcm hs hlen
            obtain ⟨⟨G6, q6⟩, lp⟩ := AS
            unfold eachS sMux at hrw
            simp only at hs hrw hlen
            have hlp : lp.length = m := by omega
            have hM := fun (W : World) (hW : Ch [] wr W) => r23Mux_is (q := q6) (hs.st.rg.ch hW (by simp)) (hcm.s.ext.lt HF5.out) (hcm.s.ext.lt hu5) (hcm.s.ext.lt hv5)
            obtain ⟨⟨⟨G7, q7⟩, p7⟩, hR⟩ : ∃ T : Mk × Nat, T = rstep (G6, q6) (rMux G6 f u v) := ⟨_, rfl⟩
            simp only [← hR] at hrw hM
            subst hrw
            have hkl := hs.kw (.slice (some ⟨lb, 0, none⟩) (n + 1) lc, EL) (by simp)
            have hkr := hs.kw (.slice (some ⟨ra, 0, none⟩) (n + 1) rc2, R2) (by simp)
            have ha1 : wr.cell? ⟨lb, m, none⟩ = some (.int .i64 u) := row.at9 hkl (intCells_at hu)
            have hb1 : wr.cell? ⟨ra, m, none⟩ = some (.int .i64 v) := row.at9 hkr (intCells_at hv)
            have hrlj := hs.st.rg.lt
            have q1 : decide ((m : Int) ≤ (n : Int)) = true := decide_eq_true (by omega)
            clear hR hcm hu hv hzz htk hu5 hv5 hkl hkr hlen
            have HA1 := Lib.hid ha1; clear ha1
            have HB1 := Lib.hid hb1; clear hb1
            have HAA := Lib.hid hAA; clear hAA
            have HM := Lib.hid hM; clear hM
            have HLEN := Lib.hid hlp; clear hlp
            have HS := Lib.hid hs; clear hs
            go_upto_region 16 with fail
            go_cut [20, 21] (fun p q wd => TS wr wd rbj ((G7, q7), p7) p q)
            case first =>
              refine Ord.St.door (fun w' => Ch [] wr w') [.ho, .fl, .fl, .fl, .fl, .ho, .fl, .fl, .fl, .ho, .ef, .fl, .fl, .fl, .ef, .ef, .fl] [0, 0, 0, 0, 12, 28, 0, 0, 192, 448, 1023, 2047, 4095, 4095, 0, 24575, 65535] [0, 1, 2, 3, 4, 5, 6, 7, 8, 9, 10, 11, 12, 13, 14, 15, 16] mixed (by kernel_rfl) rfl ?_
              obtain ⟨Wc, hWc⟩ : ∃ Wc, Wc = wr.drew := ⟨_, rfl⟩
              rw [← hWc]
              have hcur : Ch [] wr Wc := by rw [hWc]; exact (Ch.refl _ _).drew
              clear hWc
              refine Ord.St.ho2 (T' := ?_) 0 [1, 2, 3, 4, 5, 6, 7, 8, 9, 10, 11, 12, 13, 14, 15, 16] _ _ rfl (by kernel_rfl) rfl rfl rfl rfl ?_ (fun K w' hw' hk => ?_) ?_
              rotate_left
              · trivial
              · have hb4 := (HS.out.same hw').st.b4; have y0 := hb4.cell (i := 0) rfl; have y1 := hb4.cell (i := 1) rfl; have y2 := hb4.cell (i := 2) rfl; have a0 := (hw'.cell (cell_lt HA1.out) (by simp)).trans HA1.out; have b0 := (hw'.cell (cell_lt HB1.out) (by simp)).trans HB1.out; clear hb4; go_step; exact hk
              refine Ord.St.fl2 (T' := ?_) 1 [2, 3, 4, 5, 6, 7, 8, 9, 10, 11, 12, 13, 14, 15, 16] _ _ rfl (by kernel_rfl) rfl rfl rfl rfl (fun K w' hk => ?_) ?_
              rotate_left
              · go_step; exact hk
              refine Ord.St.fl2 (T' := ?_) 2 [3, 4, 5, 6, 7, 8, 9, 10, 11, 12, 13, 14, 15, 16] _ _ rfl (by kernel_rfl) rfl rfl rfl rfl (fun K w' hk => ?_) ?_
              rotate_left
              · go_step; exact hk
              refine Ord.St.fl2 (T' := ?_) 3 [4, 5, 6, 7, 8, 9, 10, 11, 12, 13, 14, 15, 16] _ _ rfl (by kernel_rfl) rfl rfl rfl rfl (fun K w' hk => ?_) ?_
              rotate_left
              · go_step; exact hk
              refine Ord.St.fl2 (T' := ?_) 4 [5, 6, 7, 8, 9, 10, 11, 12, 13, 14, 15, 16] _ _ rfl (by kernel_rfl) rfl rfl rfl rfl (fun K w' hk => ?_) ?_
              rotate_left
              · go_step; exact hk
              refine Ord.St.ho2 (T' := ?_) 5 [6, 7, 8, 9, 10, 11, 12, 13, 14, 15, 16] _ _ rfl (by kernel_rfl) rfl rfl rfl rfl ?_ (fun K w' hw' hk => ?_) ?_
              rotate_left
              · trivial
              · have hb4 := (HS.out.same hw').st.b4; have y0 := hb4.cell (i := 0) rfl; have y1 := hb4.cell (i := 1) rfl; have y2 := hb4.cell (i := 2) rfl; have a0 := (hw'.cell (cell_lt HA1.out) (by simp)).trans HA1.out; have b0 := (hw'.cell (cell_lt HB1.out) (by simp)).trans HB1.out; clear hb4; go_step; exact hk
              refine Ord.St.fl2 (T' := ?_) 6 [7, 8, 9, 10, 11, 12, 13, 14, 15, 16] _ _ rfl (by kernel_rfl) rfl rfl rfl rfl (fun K w' hk => ?_) ?_
              rotate_left
              · go_step; exact hk
              refine Ord.St.fl2 (T' := ?_) 7 [8, 9, 10, 11, 12, 13, 14, 15, 16] _ _ rfl (by kernel_rfl) rfl rfl rfl rfl (fun K w' hk => ?_) ?_
              rotate_left
              · go_step; exact hk
              refine Ord.St.fl2 (T' := ?_) 8 [9, 10, 11, 12, 13, 14, 15, 16] _ _ rfl (by kernel_rfl) rfl rfl rfl rfl (fun K w' hk => ?_) ?_
              rotate_left
              · go_step; exact hk
              refine Ord.St.ho2 (T' := ?_) 9 [10, 11, 12, 13, 14, 15, 16] _ _ rfl (by kernel_rfl) rfl rfl rfl rfl ?_ (fun K w' hw' hk => ?_) ?_
              rotate_left
              · trivial
              · have hb4 := (HS.out.same hw').st.b4; have y0 := hb4.cell (i := 0) rfl; have y1 := hb4.cell (i := 1) rfl; have y2 := hb4.cell (i := 2) rfl; have a0 := (hw'.cell (cell_lt HA1.out) (by simp)).trans HA1.out; have b0 := (hw'.cell (cell_lt HB1.out) (by simp)).trans HB1.out; clear hb4; go_step; exact hk
              refine Ord.St.two 10 14 [11, 12, 13, 14, 15, 16] [10, 11, 12, 13, 15, 16] _ _ (by kernel_rfl) rfl rfl (by kernel_rfl) (by kernel_rfl) (fun K hK => ?_) (fun K hK => ?_)
              · have HA := Lib.hid (HM.out _ hcur)
                go_wp2_with fail
                refine HA.out.mono ?_
                rintro e w7 ⟨rb2, cap2, rfl, hrg2, hch, hfr3⟩
                go_wp2_with fail
                refine ⟨rfl, hK _ _ ?_ ?_⟩
                · exact hcur.trans hch (by simp)
                clear hK K
                try have hne := rto_ne hb9 (by omega) hfr3
                try replace hb9 := hb9.ch hch (by simp)
                have hfr5 : rb2 = rbj ∨ wr.heap.size ≤ rb2 := by have := hcur.size; rcases hfr3 with e | e <;> omega
                replace hcur := hcur.trans hch (by simp)
                clear hch hfr3 HA
                refine Ord.St.fl2 (T' := ?_) 11 [12, 13, 14, 15, 16] _ _ rfl (by kernel_rfl) rfl rfl rfl rfl (fun K w' hk => ?_) ?_
                rotate_left
                · go_step; exact hk
                refine Ord.St.fl2 (T' := ?_) 12 [13, 14, 15, 16] _ _ rfl (by kernel_rfl) rfl rfl rfl rfl (fun K w' hk => ?_) ?_
                rotate_left
                · go_step; exact hk
                refine Ord.St.fl2 (T' := ?_) 13 [14, 15, 16] _ _ rfl (by kernel_rfl) rfl rfl rfl rfl (fun K w' hk => ?_) ?_
                rotate_left
                · go_step; exact hk
                refine Ord.St.efC 14 [15, 16] _ rfl (by kernel_rfl) (fun K hK => ?_)
                go_wp2_with fail
                refine ⟨rfl, hK _ _ ?_ ?_⟩
                · exact hcur.alloc _
                clear hK K
                refine Ord.St.alw ?_; intro Wn hWn
                have hb9 := alw_blk (xs := [.int .i64 0, .slice none 0 0, .int .i64 0]) hWn
                have hs9 := hcur.size
                try have hne := rg_ne hrg2
                try replace hrg2 := hrg2.ch (alw_ch hWn) (by simp)
                replace hcur := hcur.trans (alw_ch hWn) (by simp)
                clear hWn
                first | (have _t := hrg2; clear _t; generalize w7.heap.size = b9 at *) | generalize Wc.heap.size = b9 at *
                refine Ord.St.ef 15 [16] _ rfl (by kernel_rfl) (fun K hK => ?_)
                have z0 := hb9.cell (i := 0) rfl
                have z1 := hb9.cell (i := 1) rfl
                have z2 := hb9.cell (i := 2) rfl
                have g0 := hb9.frozen (i := 0)
                have g1 := hb9.frozen (i := 1)
                have g2 := hb9.frozen (i := 2)
                have HRG2 := Lib.hid hrg2; clear hrg2
                have HB9 := Lib.hid hb9; clear hb9
                have HCUR := Lib.hid hcur; clear hcur
                go_wp2_with fail
                refine ⟨rfl, hK _ _ ?_⟩; clear hK K
                refine Ord.St.fl2 (T' := ?_) 16 [] _ _ rfl (by kernel_rfl) rfl rfl rfl rfl (fun K w' hk => ?_) ?_
                rotate_left
                · go_step; exact hk
                refine Ord.St.nil ?_
                go_wp2_with fail
                go_meet
                case rel => exact TS.mk HCUR.out HRG2.out hfr5 HB9.out hs9 hne rfl
              · go_wp2_with fail
                refine ⟨rfl, hK _ _ ?_ ?_⟩
                · exact hcur.alloc _
                clear hK K
                refine Ord.St.alw ?_; intro Wn hWn
                have hb9 := alw_blk (xs := [.int .i64 0, .slice none 0 0, .int .i64 0]) hWn
                have hs9 := hcur.size
                try have hne := rg_ne hrg2
                try replace hrg2 := hrg2.ch (alw_ch hWn) (by simp)
                replace hcur := hcur.trans (alw_ch hWn) (by simp)
                clear hWn
                first | (have _t := hrg2; clear _t; generalize w7.heap.size = b9 at *) | generalize Wc.heap.size = b9 at *
                refine Ord.St.ef 10 [11, 12, 13, 15, 16] _ rfl (by kernel_rfl) (fun K hK => ?_)
                have HA := Lib.hid (HM.out _ hcur)
                go_wp2_with fail
                refine HA.out.mono ?_
                rintro e w7 ⟨rb2, cap2, rfl, hrg2, hch, hfr3⟩
                go_wp2_with fail
                refine ⟨rfl, hK _ _ ?_⟩; clear hK K
                try have hne := rto_ne hb9 (by omega) hfr3
                try replace hb9 := hb9.ch hch (by simp)
                have hfr5 : rb2 = rbj ∨ wr.heap.size ≤ rb2 := by have := hcur.size; rcases hfr3 with e | e <;> omega
                replace hcur := hcur.trans hch (by simp)
                clear hch hfr3 HA
                refine Ord.St.fl2 (T' := ?_) 11 [12, 13, 15, 16] _ _ rfl (by kernel_rfl) rfl rfl rfl rfl (fun K w' hk => ?_) ?_
                rotate_left
                · go_step; exact hk
                refine Ord.St.fl2 (T' := ?_) 12 [13, 15, 16] _ _ rfl (by kernel_rfl) rfl rfl rfl rfl (fun K w' hk => ?_) ?_
                rotate_left
                · go_step; exact hk
                refine Ord.St.fl2 (T' := ?_) 13 [15, 16] _ _ rfl (by kernel_rfl) rfl rfl rfl rfl (fun K w' hk => ?_) ?_
                rotate_left
                · go_step; exact hk
                refine Ord.St.ef 15 [16] _ rfl (by kernel_rfl) (fun K hK => ?_)
                have z0 := hb9.cell (i := 0) rfl
                have z1 := hb9.cell (i := 1) rfl
                have z2 := hb9.cell (i := 2) rfl
                have g0 := hb9.frozen (i := 0)
                have g1 := hb9.frozen (i := 1)
                have g2 := hb9.frozen (i := 2)
                have HRG2 := Lib.hid hrg2; clear hrg2
                have HB9 := Lib.hid hb9; clear hb9
                have HCUR := Lib.hid hcur; clear hcur
                go_wp2_with fail
                refine ⟨rfl, hK _ _ ?_⟩; clear hK K
                refine Ord.St.fl2 (T' := ?_) 16 [] _ _ rfl (by kernel_rfl) rfl rfl rfl rfl (fun K w' hk => ?_) ?_
                rotate_left
                · go_step; exact hk
                refine Ord.St.nil ?_
                go_wp2_with fail
                go_meet
                case rel => exact TS.mk HCUR.out HRG2.out hfr5 HB9.out hs9 hne rfl
            case rest =>
              obtain ⟨rb5, cap5, b5, rfl, rfl, hc5, hrg5, hfr5, hb5, hlo5⟩ := hcut
              have x0 := hb5.cell (i := 0) rfl
              have x1 := hb5.cell (i := 1) rfl
              have x2 := hb5.cell (i := 2) rfl
              have hbp := (HS.out.same hc5).st.b4
              have f0 := hbp.frozen (i := 0)
              have f1 := hbp.frozen (i := 1)
              have f2 := hbp.frozen (i := 2)
              have y0 := hbp.cell (i := 0) rfl
              have y1 := hbp.cell (i := 1) rfl
              have y2 := hbp.cell (i := 2) rfl
              clear hbp
              have HCX := Lib.hid hc5; clear hc5
              have HRX := Lib.hid hrg5; clear hrg5
              have HBX := Lib.hid hb5; clear hb5
              go_upto_region 18 with fail
              refine wp_alw ?_
              intro W9 hW9
              have hs := HS.out.put HCX.out HRX.out hfr5 hW9
              clear hW9 x0 x1 x2 y0 y1 y2 f0 f1 f2 HRX HBX
              have hlen9 := HLEN.out
              obtain ⟨na, nc, rfl⟩ := row.shape hs.st.rw
              have hrA := (hs.same (W' := W9.alloc (.cells #[.int .i64 p7] 3)) ((Ch.refl _ _).alloc _)).st.rw
              have hbA : blk (W9.alloc (.cells #[.int .i64 p7] 3)) W9.heap.size [.int .i64 p7] := blk.new' _ _ rfl
              have HRA := Lib.hid hrA; clear hrA
              have HBA := Lib.hid hbA; clear hbA
              have HS9 := Lib.hid hs; clear hs
              go_wp2_with (at_builtin; go_loud (refine wpList_append_row slInts rfl _ _ rfl (v := .slice na lp.length nc) (n := lp.length) (xs := intCells (natInts lp)) rfl HRA.out (ad := ⟨W9.heap.size, 0, none⟩) (m := 1) (c := 1) (news := [.int .i64 p7]) rfl rfl (news_blk HBA.out) (by simp [Value.oneCell']) (by omega) (by omega) ?_; intro v' w10 hown4 hC4 hf4; have HO4 := Lib.hid hown4; clear hown4; have HC4 := Lib.hid hC4; clear hC4; have HF4 := Lib.hid hf4; clear hf4))
              go_roundw
              case rel => exact ⟨m + 1, rb5, cap5, by omega, by go_num, by rw [HAA.out]; exact HS9.out.app HO4.out HC4.out HF4.out⟩
              case measure => simp [intOf]; omega
          · have hmn2 : m = n + 1 := by omega
            have hes := HES.out
            rw [← hmn2] at hes
            generalize chF f (G5, q5) ((EL.zip R2).take m) = AS at hes hs hlen
            obtain ⟨⟨G6, q6⟩, lp⟩ := AS
            simp only at hs hes hlen
            subst hes
            obtain ⟨na, nc, hna⟩ := row.shape hs.st.rw
            subst hna
            have hql : j < (qBits n qs).length := by rw [qBits_len (by rw [HLK.out]; omega)]; omega
            obtain ⟨old, hold⟩ : ∃ old, (intCells (natInts (qBits n qs)))[j]? = some old := ⟨_, List.getElem?_eq_getElem (by rw [intCells_len]; exact hql)⟩
            have c0 := hs.qw.cell hold
            have f0 := hs.qw.frozen (i := j)
            have hqlt := hs.qw.lt
            have HSF := Lib.hid hs; clear hs
            have q1 : decide ((m : Int) ≤ (n : Int)) = false := decide_eq_false (by omega)
            clear hql hold hlen hmn2
            go_wp2_with fail
            go_roundw
            case rel =>
              refine ⟨k + 1, rbj, capj, by omega, by congr 1; have := HJ.out; omega, ?_⟩
              rw [HEE.out]
              show RSK w _ rb rbj capj (G6, q6) _ lp _ _ (qBits n (qs ++ [f]))
              rw [← qBits_set HLK.out HJ.out]
              exact (HSF.out.less (K' := [(.slice ea (n + 1) ec, D)]) (by simp)).set j f rfl
            case measure => simp [intOf]
    · have hkn2 : k = n := by omega
      have hi2 : (n : Int) - 1 - k = -1 := by omega
      rw [hi2] at hi
      subst hi
      have hf := HFOK.out n
      rw [HXRL.out n (Nat.le_refl n), HALL.out] at hf
      rw [hkn2, HALL.out] at hst
      obtain ⟨_, hl1, hl2⟩ := hf
      rw [HDL.out] at hl1
      obtain ⟨⟨⟨G2, q2⟩, qs, R⟩, hES⟩ : ∃ ES, ES = rdF D (G, 0) XR := ⟨_, rfl⟩
      rw [← hES] at hst hl1 hl2
      simp only at hst hl1 hl2
      rw [qBits_all hl2] at hst
      have HES := Lib.hid hES; clear hES hi2 hkn2
      have hrw := hst.st.rw
      obtain ⟨rg, rc, hrg⟩ := hrw.parts (by omega)
      subst hrg
      have hrcap := row_cap hrw
      rw [hl1] at hrcap
      rw [hl1] at hst
      rw [hl1]
      have hgl := (hrw.lt rg rfl).2
      have y0 := hst.st.b4.cell (i := 0) rfl
      have y1 := hst.st.b4.cell (i := 1) rfl
      have y2 := hst.st.b4.cell (i := 2) rfl
      have v0 := hst.st.b8.cell (i := 0) rfl
      have v1 := hst.st.b8.cell (i := 1) rfl
      have v2 := hst.st.b8.cell (i := 2) rfl
      have g0 := hst.st.b8.frozen (i := 0)
      have g1 := hst.st.b8.frozen (i := 1)
      have g2 := hst.st.b8.frozen (i := 2)
      have hl8 := hst.st.b8.lt
      have HST := Lib.hid hst; clear hst hrw
      have HL1 := Lib.hid hl1; clear hl1
      have HL2 := Lib.hid hl2; clear hl2
      go_wp2_with fail
      refine Ord.St.door (fun _ => True) [.rd, .fl, .fl, .fl, .fl, .ef, .fl, .fl] [0, 0, 0, 0, 12, 1, 35, 127] [0, 1, 2, 3, 4, 5, 6, 7] mixed (by kernel_rfl) rfl ?_
      refine Ord.St.rd2 (T' := ?_) 0 [1, 2, 3, 4, 5, 6, 7] _ _ rfl (by kernel_rfl) rfl rfl rfl rfl (fun K hk => ?_) ?_
      rotate_left
      · go_step; exact hk
      refine Ord.St.fl2 (T' := ?_) 1 [2, 3, 4, 5, 6, 7] _ _ rfl (by kernel_rfl) rfl rfl rfl rfl (fun K w' hk => ?_) ?_
      rotate_left
      · go_step; exact hk
      refine Ord.St.fl2 (T' := ?_) 2 [3, 4, 5, 6, 7] _ _ rfl (by kernel_rfl) rfl rfl rfl rfl (fun K w' hk => ?_) ?_
      rotate_left
      · go_step; exact hk
      refine Ord.St.fl2 (T' := ?_) 3 [4, 5, 6, 7] _ _ rfl (by kernel_rfl) rfl rfl rfl rfl (fun K w' hk => ?_) ?_
      rotate_left
      · go_step; exact hk
      refine Ord.St.fl2 (T' := ?_) 4 [5, 6, 7] _ _ rfl (by kernel_rfl) rfl rfl rfl rfl (fun K w' hk => ?_) ?_
      rotate_left
      · go_step; exact hk
      refine Ord.St.ef 5 [6, 7] _ rfl (by kernel_rfl) (fun K hK => ?_)
      go_wp2_with fail
      refine ⟨rfl, hK _ _ ?_⟩; clear hK K
      refine Ord.St.fl2 (T' := ?_) 6 [7] _ _ rfl (by kernel_rfl) rfl rfl rfl rfl (fun K w' hk => ?_) ?_
      rotate_left
      · go_step; exact hk
      refine Ord.St.fl2 (T' := ?_) 7 [] _ _ rfl (by kernel_rfl) rfl rfl rfl rfl (fun K w' hk => ?_) ?_
      rotate_left
      · go_step; exact hk
      refine Ord.St.nil ?_
      go_wp2_with fail
      refine bodyPost_ret (v := .tuple #[.agg #[.int .i64 G2.most, .slice (some ⟨rbk, 0, none⟩) G2.nodes.length capk, .int .i64 q2], .slice (some ⟨wB.heap.size + 1, 0, none⟩) n n, .slice (some ⟨rg, 0, none⟩) n rc]) (by simp [results, Tryz.results301, go_sem, v0, v1, v2]) rfl ?_
      show B2To w rb ((rdF D (G, 0) XR).1, (rdF D (G, 0) XR).2.1.reverse, (rdF D (G, 0) XR).2.2.take n) _ _
      rw [← HES.out]
      refine B2To.same (HST.out.fin2 (by rw [List.length_reverse]; exact HL2.out) HL1.out (by omega) rfl) ?_
      exact (Ch.refl _ _).drew
end Go.Proofs.YtehljgigebhddaaGreat
namespace Go.Aig
/-- what the reference makes, of words that are right: a state, and two words -/
def RF24 (k : Nat) (G : Gra) (X Y : List Nat) (N : Nat) : Mk × List Nat × List Nat :=
  match k with
  | 0 => ((rmF X (G, 0) Y).1, (rmF X (G, 0) Y).2, [])
  | 1 => ((rdF (Y ++ [0]) (G, 0) X.reverse).1, (rdF (Y ++ [0]) (G, 0) X.reverse).2.1.reverse, [])
  | 2 => ((rdF (Y ++ [0]) (G, 0) X.reverse).1, (rdF (Y ++ [0]) (G, 0) X.reverse).2.2.take X.length, [])
  | 3 => ((rdF (Y ++ [0]) (G, 0) X.reverse).1, (rdF (Y ++ [0]) (G, 0) X.reverse).2.1.reverse, (rdF (Y ++ [0]) (G, 0) X.reverse).2.2.take X.length)
  | 4 => ((rmF X (G, 0) X).1, (rmF X (G, 0) X).2, [])
  | _ => ((rmF X (G, 0) (constL N X.length)).1, (rmF X (G, 0) (constL N X.length)).2, [])
/-- what is wrong with an act -/
def f24 (k : Nat) (G : Gra) (X Y : List Int) : Nat := chk24 G (if 3 < k then [X] else [X, Y])
def fin24 (G : Gra) (R : Mk × List Nat × List Nat) : Gra × List Nat × List Nat × Nat := if R.1.2 ≠ 0 then (G, [], [], R.1.2) else (R.1.1, R.2.1, R.2.2, 0)
/-- what an act leaves: a graph, two words, an error -/
def P24 (k : Nat) (G : Gra) (X Y : List Int) (N : Nat) : Gra × List Nat × List Nat × Nat := if f24 k G X Y ≠ 0 then (G, [], [], f24 k G X Y) else fin24 G (RF24 k G (nats X) (nats Y) N)
/-- one word, and none -/
def one24 (R : Gra × List Nat × Nat) : Gra × List Nat × List Nat × Nat := (R.1, R.2.1, [], R.2.2)
theorem sameE_wres {a b : Mk × List Nat} (h : SameE a b) (G : Gra) : one24 (wres G a) = fin24 G (b.1, b.2, []) := by
  unfold wres fin24 one24
  by_cases h0 : a.1.2 = 0
  · rw [h.2 h0, ← h.2 h0]
    by_cases h1 : a.1.2 = 0
    · simp [h1]
    · exact absurd h0 h1
  · have h1 : b.1.2 ≠ 0 := by rw [← h.1]; exact h0
    rw [if_pos h0, if_pos h1, h.1]
theorem sameE_bres {a b : Mk × List Nat × List Nat} (h : SameE a b) (G : Gra) (n : Nat) : bres G n a = bres G n b := by
  by_cases h0 : a.1.2 = 0
  · rw [h.2 h0]
  · have h1 : b.1.2 ≠ 0 := by rw [← h.1]; exact h0
    unfold bres
    rw [if_pos h0, if_pos h1, h.1]
theorem nats_len9 (l : List Int) : (nats l).length = l.length := by simp [nats]
theorem mulG_eq {G : Gra} {X Y : List Int} (h : chk24 G [X, Y] = 0) : one24 (mulG G X Y) = fin24 G ((rmF (nats X) (G, 0) (nats Y)).1, (rmF (nats X) (G, 0) (nats Y)).2, []) := by
  have hc := chk24_ok h
  unfold mulG
  rw [if_neg (by simp [h])]
  exact sameE_wres (rm_same (nats X) (nats Y) (by rw [nats_len9, nats_len9]; have := hc.len; omega)) G
theorem bothG_eq {G : Gra} {X Y : List Int} (h : chk24 G [X, Y] = 0) : bothG G X Y = bres G X.length (rdF (nats Y ++ [0]) (G, 0) (nats X).reverse) := by
  unfold bothG
  rw [if_neg (by simp [h])]
  exact sameE_bres (rd_same _ _) G _
theorem chk24_self {G : Gra} (X : List Int) : chk24 G [X, X] = chk24 G [X] := by
  unfold chk24
  simp only [List.any_cons, List.any_nil, Bool.or_false, List.headD_cons, Bool.or_self]
theorem constL_len9 (n k : Nat) : (constL n k).length = k := by simp [constL]
theorem constL_bit9 (n k : Nat) : ∀ r ∈ constL n k, r < 2 := fun r hr => by
  unfold constL at hr
  obtain ⟨i, _, rfl⟩ := List.mem_map.1 hr
  cases n.testBit i <;> simp
theorem nats_back (l : List Nat) : nats (natInts l) = l := by
  unfold nats natInts
  rw [List.map_map, show (Int.toNat ∘ fun (r : Nat) => (r : Int)) = id from rfl, List.map_id]
theorem chk24_times {G : Gra} (hG : Ok G) {X : List Int} (n : Nat) (h : chk24 G [X] = 0) : chk24 G [X, natInts (constL n X.length)] = 0 := by
  obtain ⟨h1, h16, hn, hlt⟩ := chk24_one h
  have hb : badIn G (natInts (constL n X.length)) = false := by
    unfold badIn
    rw [List.any_eq_false]
    intro r hr
    obtain ⟨z, hz, rfl⟩ := List.mem_map.1 hr
    have := constL_bit9 _ _ z hz
    have := hG.wf.pos
    simp [right]; omega
  have hx : badIn G X = false := by
    unfold chk24 at h
    split at h
    · cases h
    · split at h
      · cases h
      · rename_i h2; simpa using h2
  unfold chk24
  have e1 : ∀ m, m = X.length → bad24 m X = false := fun m hm => by unfold bad24; rw [decide_eq_false (by omega), decide_eq_false (by omega), decide_eq_false (by omega)]; rfl
  have e2 : ∀ m, m = X.length → bad24 m (natInts (constL n X.length)) = false := fun m hm => by
    have hl : (natInts (constL n X.length)).length = X.length := by simp [natInts, constL]
    unfold bad24; rw [hl, decide_eq_false (by omega), decide_eq_false (by omega), decide_eq_false (by omega)]; rfl
  simp only [List.any_cons, List.any_nil, List.headD_cons, e1 _ rfl, e2 _ rfl, hb, hx, Bool.or_self, Bool.false_eq_true, if_false]
theorem P24_one {k : Nat} {G : Gra} {X Y : List Int} {N : Nat} {R : Gra × List Nat × Nat} (hbad : f24 k G X Y ≠ 0 → R = (G, [], f24 k G X Y)) (hok : f24 k G X Y = 0 → one24 R = fin24 G (RF24 k G (nats X) (nats Y) N)) : P24 k G X Y N = (R.1, R.2.1, [], R.2.2) := by
  unfold P24
  by_cases h : f24 k G X Y = 0
  · rw [if_neg (by simp [h]), ← hok h]; rfl
  · rw [if_pos h, hbad h]
theorem P24_0 {G : Gra} (_hG : Ok G) (X Y : List Int) (N : Nat) : P24 0 G X Y N = ((mulG G X Y).1, (mulG G X Y).2.1, [], (mulG G X Y).2.2) :=
  P24_one (fun h => by unfold mulG; rw [if_pos (by exact h)]; rfl) (fun h => mulG_eq h)
theorem P24_3 {G : Gra} (_hG : Ok G) (X Y : List Int) (N : Nat) : P24 3 G X Y N = ((bothG G X Y).1, (bothG G X Y).2.1.1, (bothG G X Y).2.1.2, (bothG G X Y).2.2) := by
  unfold P24
  by_cases h : f24 3 G X Y = 0
  · rw [if_neg (by simp [h]), bothG_eq h]
    unfold fin24 bres RF24
    simp only [nats_len9]
    split <;> rfl
  · rw [if_pos h]; unfold bothG; rw [if_pos (by exact h)]; rfl
theorem P24_1 {G : Gra} (_hG : Ok G) (X Y : List Int) (N : Nat) : P24 1 G X Y N = ((bothG G X Y).1, (bothG G X Y).2.1.1, [], (bothG G X Y).2.2) := by
  unfold P24
  by_cases h : f24 1 G X Y = 0
  · rw [if_neg (by simp [h]), bothG_eq h]
    unfold fin24 bres RF24
    simp only
    split <;> rfl
  · rw [if_pos h]; unfold bothG; rw [if_pos (by exact h)]; rfl
theorem P24_2 {G : Gra} (_hG : Ok G) (X Y : List Int) (N : Nat) : P24 2 G X Y N = ((bothG G X Y).1, (bothG G X Y).2.1.2, [], (bothG G X Y).2.2) := by
  unfold P24
  by_cases h : f24 2 G X Y = 0
  · rw [if_neg (by simp [h]), bothG_eq h]
    unfold fin24 bres RF24
    simp only [nats_len9]
    split <;> rfl
  · rw [if_pos h]; unfold bothG; rw [if_pos (by exact h)]; rfl
theorem P24_4 {G : Gra} (_hG : Ok G) (X Y : List Int) (N : Nat) : P24 4 G X Y N = ((mulG G X X).1, (mulG G X X).2.1, [], (mulG G X X).2.2) :=
  P24_one (fun h => by
    have e : f24 4 G X Y = chk24 G [X, X] := (chk24_self X).symm
    unfold mulG; rw [e] at h ⊢; rw [if_pos h]) (fun h => mulG_eq (by rw [chk24_self]; exact h))
theorem P24_5 {G : Gra} (hG : Ok G) (X Y : List Int) (N : Nat) : P24 5 G X Y N = ((timesG G X N).1, (timesG G X N).2.1, [], (timesG G X N).2.2) :=
  P24_one (fun h => by unfold timesG; rw [if_pos (by exact h)]; rfl) (fun h => by
    have h : chk24 G [X] = 0 := h
    unfold timesG
    rw [if_neg (by simp [h]), mulG_eq (chk24_times hG N h), nats_back]
    unfold RF24
    simp only [nats_len9])
theorem rmF_len0 {x : List Nat} (s : Mk) {y : List Nat} (h : y.length ≤ x.length) : (rmF x s y).2.length ≤ x.length := by
  by_cases h1 : 1 ≤ y.length
  · rw [rmF_len s y h1 h]; exact Nat.le_refl _
  · rw [List.length_eq_zero_iff.1 (by omega : y.length = 0)]; simp [rmF]
theorem f24_one {k : Nat} {G : Gra} {X Y : List Int} (h : f24 k G X Y = 0) : 1 ≤ X.length ∧ X.length ≤ 16 ∧ natInts (nats X) = X ∧ ∀ r ∈ nats X, r < 2 * G.nodes.length := by
  unfold f24 at h
  split at h
  · exact chk24_one h
  · have := chk24_ok h; exact ⟨this.lo, this.hi, this.ex, this.rx⟩
theorem f24_two {k : Nat} {G : Gra} {X Y : List Int} (h3 : k ≤ 3) (h : f24 k G X Y = 0) : Y.length = X.length ∧ natInts (nats Y) = Y ∧ ∀ r ∈ nats Y, r < 2 * G.nodes.length := by
  unfold f24 at h
  rw [if_neg (by omega)] at h
  have := chk24_ok h; exact ⟨this.len, this.ey, this.ry⟩
theorem RF24_len {k : Nat} {G : Gra} (hG : Ok G) {X Y : List Nat} {N n : Nat} (hn : X.length = n) (hm : k ≤ 3 → Y.length = n) (hx : ∀ r ∈ X, r < 2 * G.nodes.length) (hy : k ≤ 3 → ∀ r ∈ Y, r < 2 * G.nodes.length) : (RF24 k G X Y N).2.1.length ≤ n ∧ (RF24 k G X Y N).2.2.length ≤ n := by
  have hd := fun (h : k ≤ 3) => rdF_ok hG (D := Y ++ [0]) (by simp) (fun r hr => by
    rcases List.mem_append.1 hr with hr | hr
    · exact hy h r hr
    · rw [List.mem_singleton.1 hr]; have := hG.wf.pos; omega) X.reverse (fun r hr => hx r (List.mem_reverse.1 hr))
  match k, hm, hd with
  | 0, hm, _ => exact ⟨by have := rmF_len0 (x := X) (G, 0) (y := Y) (by rw [hm (by omega)]; omega); show (rmF X (G, 0) Y).2.length ≤ n; omega, by show 0 ≤ n; omega⟩
  | 1, hm, hd => exact ⟨by have := (hd (by omega)).2.2; show ((rdF (Y ++ [0]) (G, 0) X.reverse).2.1.reverse).length ≤ n; rw [List.length_reverse, this, List.length_reverse]; omega, by show 0 ≤ n; omega⟩
  | 2, hm, hd => exact ⟨by show ((rdF (Y ++ [0]) (G, 0) X.reverse).2.2.take X.length).length ≤ n; rw [List.length_take]; omega, by show 0 ≤ n; omega⟩
  | 3, hm, hd => exact ⟨by have := (hd (by omega)).2.2; show ((rdF (Y ++ [0]) (G, 0) X.reverse).2.1.reverse).length ≤ n; rw [List.length_reverse, this, List.length_reverse]; omega, by show ((rdF (Y ++ [0]) (G, 0) X.reverse).2.2.take X.length).length ≤ n; rw [List.length_take]; omega⟩
  | 4, _, _ => exact ⟨by have := rmF_len0 (x := X) (G, 0) (y := X) (by omega); show (rmF X (G, 0) X).2.length ≤ n; omega, by show 0 ≤ n; omega⟩
  | k + 5, _, _ => exact ⟨by have := rmF_len0 (x := X) (G, 0) (y := constL N X.length) (by rw [constL_len9]; omega); show (rmF X (G, 0) (constL N X.length)).2.length ≤ n; omega, by show 0 ≤ n; omega⟩
theorem P24_len {k : Nat} {G : Gra} (hG : Ok G) {X Y : List Int} {N : Nat} : (P24 k G X Y N).2.1.length ≤ 16 ∧ (P24 k G X Y N).2.2.1.length ≤ 16 := by
  unfold P24
  split
  · exact ⟨by simp, by simp⟩
  · rename_i hf
    have hf0 : f24 k G X Y = 0 := by omega
    obtain ⟨_, h16, _, hx⟩ := f24_one hf0
    have := RF24_len hG (k := k) (X := nats X) (Y := nats Y) (N := N) (nats_len9 X) (fun h3 => by rw [nats_len9]; exact (f24_two h3 hf0).1) hx (fun h3 => (f24_two h3 hf0).2.2)
    unfold fin24
    split
    · exact ⟨by simp, by simp⟩
    · exact ⟨Nat.le_trans this.1 h16, Nat.le_trans this.2 h16⟩
theorem f24_small (k : Nat) (G : Gra) (X Y : List Int) : f24 k G X Y ≤ 240 := chk24_small _ _
end Go.Aig
namespace Go.Proofs.YtehljgigebhddaaGreat
open Go.RowKit Go.Mem Go.Aig
theorem GVV.since {w w1 w' : World} {g : Nat} {G : Gra} {F : List Nat} {v1 v2 : Value} {l1 l2 : List Nat} (hc : Ch [] w w1) (h : GVV w1 g G F v1 l1 v2 l2 w') : GVV w g G F v1 l1 v2 l2 w' := by
  obtain ⟨F', h1, h2, h3, h4, h5, h6, h7, h8⟩ := h
  exact ⟨F', h1, (hc.mono (by simp)).trans h2 (fun k hk => .inl hk), fun k hk => (h3 k hk).imp id (fun e => Nat.le_trans hc.size e), h4, h5, h6, fun k hk => ⟨Nat.le_trans hc.size (h7 k hk).1, (h7 k hk).2⟩, fun k hk => ⟨Nat.le_trans hc.size (h8 k hk).1, (h8 k hk).2⟩⟩
theorem gvv_one {w w' : World} {g : Nat} {G : Gra} {F : List Nat} {v : Value} {l : List Nat} (h : GVo w g G [] F v l w') : GVV w g G F v l (.slice none 0 0) [] w' := by
  obtain ⟨F', h1, h2, h3, h4, h5, h6⟩ := h
  exact ⟨F', h1, by simpa using h2, h3, h4, h5, ⟨rfl, .inl ⟨rfl, rfl⟩⟩, fun k hk => ⟨(h6 k hk).1, (h6 k hk).2, by simp [Value.ownBlock]⟩, by simp [Value.ownBlock]⟩
/-- what an act of the program leaves -/
def PTo24 (w : World) (g : Nat) (F : List Nat) (R : Gra × List Nat × List Nat × Nat) (e : Ending) (w' : World) : Prop := ∃ v u, e = .returned (.tuple #[v, u, .int .i64 R.2.2.2]) ∧ GVV w g R.1 F v R.2.1 u R.2.2.1 w'
section
variable {w : World} {g : Nat} {G : Gra} {F : List Nat}
set_option maxRecDepth 100000 in
set_option maxHeartbeats 2000000 in
theorem program24_0 (h : GIn w g G F) {x y : WV} (hx : WVin w F x) (hy : WVin w F y) (hxc : x.l.length ≤ x.c) (kind : Nat) (hk : (kind : Int) % 6 = 0) (a1 : Option Addr) (n1 c1 : Nat) (a2 : Option Addr) (n2 c2 : Nat) (N : Nat) :
    Calls Tryz.prog 22 #[.pointer (some ⟨g, 0, none⟩), .agg #[.int .u8 kind, .slice a1 n1 c1, .slice a2 n2 c2, .int .u32 N], x.val, y.val] w (PTo24 w g F (P24 0 G x.l y.l N)) := by
  rw [P24_0 h.ok]
  have hC := fun (W : World) (hW : Ch [] w W) => mdMul_is (h.same hW (by simp)) (hx.ch hW) (hy.ch hW) hxc
  obtain ⟨xa, xl, xc⟩ := x
  obtain ⟨ya, yl, yc⟩ := y
  simp only [WV.val] at hC ⊢
  generalize mulG G xl yl = R at *
  obtain ⟨G1, l1, e1⟩ := R
  have HK := Lib.hid hC; clear hC h hx hy
  go_enter Tryz.func22, Tryz.ntmps22
  go_wp2_with fail
  refine calls_named fun W hW => ?_
  have hc : Ch [] w W := by rw [hW]; exact (Ch.refl _ _).alloc _
  clear hW
  have HC := Lib.hid hc; clear hc
  refine (HK.out W HC.out).mono ?_
  rintro e w1 ⟨v, rfl, hv⟩
  obtain ⟨va, vc, rfl⟩ : ∃ a c, v = .slice a l1.length c := by obtain ⟨_, _, _, _, _, h5, _⟩ := hv; exact row.shape h5
  have HV := Lib.hid hv; clear hv
  go_wp2_with fail
  go_ret3
  exact ⟨_, _, rfl, GVV.since HC.out (gvv_one HV.out)⟩
set_option maxRecDepth 100000 in
set_option maxHeartbeats 2000000 in
theorem program24_1 (h : GIn w g G F) {x y : WV} (hx : WVin w F x) (hy : WVin w F y) (kind : Nat) (hk : (kind : Int) % 6 = 1) (a1 : Option Addr) (n1 c1 : Nat) (a2 : Option Addr) (n2 c2 : Nat) (N : Nat) :
    Calls Tryz.prog 22 #[.pointer (some ⟨g, 0, none⟩), .agg #[.int .u8 kind, .slice a1 n1 c1, .slice a2 n2 c2, .int .u32 N], x.val, y.val] w (PTo24 w g F (P24 1 G x.l y.l N)) := by
  rw [P24_1 h.ok]
  have hC := fun (W : World) (hW : Ch [] w W) => mdDiv_is (h.same hW (by simp)) (hx.ch hW) (hy.ch hW)
  obtain ⟨xa, xl, xc⟩ := x
  obtain ⟨ya, yl, yc⟩ := y
  simp only [WV.val] at hC ⊢
  generalize bothG G xl yl = R at *
  obtain ⟨G1, ⟨l1, l2⟩, e1⟩ := R
  have HK := Lib.hid hC; clear hC h hx hy
  go_enter Tryz.func22, Tryz.ntmps22
  go_wp2_with fail
  refine calls_named fun W hW => ?_
  have hc : Ch [] w W := by rw [hW]; exact (Ch.refl _ _).alloc _
  clear hW
  have HC := Lib.hid hc; clear hc
  refine (HK.out W HC.out).mono ?_
  rintro e w1 ⟨v, rfl, hv⟩
  obtain ⟨va, vc, rfl⟩ : ∃ a c, v = .slice a l1.length c := by obtain ⟨_, _, _, _, _, h5, _⟩ := hv; exact row.shape h5
  have HV := Lib.hid hv; clear hv
  go_wp2_with fail
  go_ret3
  exact ⟨_, _, rfl, GVV.since HC.out (gvv_one HV.out)⟩
set_option maxRecDepth 100000 in
set_option maxHeartbeats 2000000 in
theorem program24_2 (h : GIn w g G F) {x y : WV} (hx : WVin w F x) (hy : WVin w F y) (kind : Nat) (hk : (kind : Int) % 6 = 2) (a1 : Option Addr) (n1 c1 : Nat) (a2 : Option Addr) (n2 c2 : Nat) (N : Nat) :
    Calls Tryz.prog 22 #[.pointer (some ⟨g, 0, none⟩), .agg #[.int .u8 kind, .slice a1 n1 c1, .slice a2 n2 c2, .int .u32 N], x.val, y.val] w (PTo24 w g F (P24 2 G x.l y.l N)) := by
  rw [P24_2 h.ok]
  have hC := fun (W : World) (hW : Ch [] w W) => mdRem_is (h.same hW (by simp)) (hx.ch hW) (hy.ch hW)
  obtain ⟨xa, xl, xc⟩ := x
  obtain ⟨ya, yl, yc⟩ := y
  simp only [WV.val] at hC ⊢
  generalize bothG G xl yl = R at *
  obtain ⟨G1, ⟨l2, l1⟩, e1⟩ := R
  have HK := Lib.hid hC; clear hC h hx hy
  go_enter Tryz.func22, Tryz.ntmps22
  go_wp2_with fail
  refine calls_named fun W hW => ?_
  have hc : Ch [] w W := by rw [hW]; exact (Ch.refl _ _).alloc _
  clear hW
  have HC := Lib.hid hc; clear hc
  refine (HK.out W HC.out).mono ?_
  rintro e w1 ⟨v, rfl, hv⟩
  obtain ⟨va, vc, rfl⟩ : ∃ a c, v = .slice a l1.length c := by obtain ⟨_, _, _, _, _, h5, _⟩ := hv; exact row.shape h5
  have HV := Lib.hid hv; clear hv
  go_wp2_with fail
  go_ret3
  exact ⟨_, _, rfl, GVV.since HC.out (gvv_one HV.out)⟩
set_option maxRecDepth 100000 in
set_option maxHeartbeats 2000000 in
theorem program24_3 (h : GIn w g G F) {x y : WV} (hx : WVin w F x) (hy : WVin w F y) (kind : Nat) (hk : (kind : Int) % 6 = 3) (a1 : Option Addr) (n1 c1 : Nat) (a2 : Option Addr) (n2 c2 : Nat) (N : Nat) :
    Calls Tryz.prog 22 #[.pointer (some ⟨g, 0, none⟩), .agg #[.int .u8 kind, .slice a1 n1 c1, .slice a2 n2 c2, .int .u32 N], x.val, y.val] w (PTo24 w g F (P24 3 G x.l y.l N)) := by
  rw [P24_3 h.ok]
  have hC := fun (W : World) (hW : Ch [] w W) => mdBoth_is (h.same hW (by simp)) (hx.ch hW) (hy.ch hW)
  obtain ⟨xa, xl, xc⟩ := x
  obtain ⟨ya, yl, yc⟩ := y
  simp only [WV.val] at hC ⊢
  generalize bothG G xl yl = R at *
  obtain ⟨G1, ⟨l1, l2⟩, e1⟩ := R
  have HK := Lib.hid hC; clear hC h hx hy
  go_enter Tryz.func22, Tryz.ntmps22
  go_wp2_with fail
  refine calls_named fun W hW => ?_
  have hc : Ch [] w W := by rw [hW]; exact (Ch.refl _ _).alloc _
  clear hW
  have HC := Lib.hid hc; clear hc
  refine (HK.out W HC.out).mono ?_
  rintro e w1 ⟨v, u, rfl, hv⟩
  obtain ⟨va, vc, rfl⟩ : ∃ a c, v = .slice a l1.length c := by obtain ⟨_, _, _, _, _, h5, h6, _⟩ := hv; exact row.shape h5
  obtain ⟨ua, uc, rfl⟩ : ∃ a c, u = .slice a l2.length c := by obtain ⟨_, _, _, _, _, h5, h6, _⟩ := hv; exact row.shape h6
  have HV := Lib.hid hv; clear hv
  go_wp2_with fail
  go_ret3
  exact ⟨_, _, rfl, GVV.since HC.out HV.out⟩
set_option maxRecDepth 100000 in
set_option maxHeartbeats 2000000 in
theorem program24_4 (h : GIn w g G F) {x y : WV} (hx : WVin w F x) (hy : WVin w F y) (hxc : x.l.length ≤ x.c) (kind : Nat) (hk : (kind : Int) % 6 = 4) (a1 : Option Addr) (n1 c1 : Nat) (a2 : Option Addr) (n2 c2 : Nat) (N : Nat) :
    Calls Tryz.prog 22 #[.pointer (some ⟨g, 0, none⟩), .agg #[.int .u8 kind, .slice a1 n1 c1, .slice a2 n2 c2, .int .u32 N], x.val, y.val] w (PTo24 w g F (P24 4 G x.l y.l N)) := by
  rw [P24_4 h.ok]
  have hC := fun (W : World) (hW : Ch [] w W) => mdSquare_is (h.same hW (by simp)) (hx.ch hW) hxc
  obtain ⟨xa, xl, xc⟩ := x
  obtain ⟨ya, yl, yc⟩ := y
  simp only [WV.val] at hC ⊢
  generalize mulG G xl xl = R at *
  obtain ⟨G1, l1, e1⟩ := R
  have HK := Lib.hid hC; clear hC h hx hy
  go_enter Tryz.func22, Tryz.ntmps22
  go_wp2_with fail
  refine calls_named fun W hW => ?_
  have hc : Ch [] w W := by rw [hW]; exact (Ch.refl _ _).alloc _
  clear hW
  have HC := Lib.hid hc; clear hc
  refine (HK.out W HC.out).mono ?_
  rintro e w1 ⟨v, rfl, hv⟩
  obtain ⟨va, vc, rfl⟩ : ∃ a c, v = .slice a l1.length c := by obtain ⟨_, _, _, _, _, h5, _⟩ := hv; exact row.shape h5
  have HV := Lib.hid hv; clear hv
  go_wp2_with fail
  go_ret3
  exact ⟨_, _, rfl, GVV.since HC.out (gvv_one HV.out)⟩
set_option maxRecDepth 100000 in
set_option maxHeartbeats 2000000 in
theorem program24_5 (h : GIn w g G F) {x y : WV} (hx : WVin w F x) (hy : WVin w F y) (hxc : x.l.length ≤ x.c) (kind : Nat) (hk : (kind : Int) % 6 = 5) (a1 : Option Addr) (n1 c1 : Nat) (a2 : Option Addr) (n2 c2 : Nat) (N : Nat) (hN : N < 4294967296) :
    Calls Tryz.prog 22 #[.pointer (some ⟨g, 0, none⟩), .agg #[.int .u8 kind, .slice a1 n1 c1, .slice a2 n2 c2, .int .u32 N], x.val, y.val] w (PTo24 w g F (P24 5 G x.l y.l N)) := by
  rw [P24_5 h.ok]
  have hC := fun (W : World) (hW : Ch [] w W) => mdTimes_is (h.same hW (by simp)) (hx.ch hW) hxc N hN
  obtain ⟨xa, xl, xc⟩ := x
  obtain ⟨ya, yl, yc⟩ := y
  simp only [WV.val] at hC ⊢
  generalize timesG G xl N = R at *
  obtain ⟨G1, l1, e1⟩ := R
  have HK := Lib.hid hC; clear hC h hx hy
  go_enter Tryz.func22, Tryz.ntmps22
  go_wp2_with fail
  refine calls_named fun W hW => ?_
  have hc : Ch [] w W := by rw [hW]; exact (Ch.refl _ _).alloc _
  clear hW
  have HC := Lib.hid hc; clear hc
  refine (HK.out W HC.out).mono ?_
  rintro e w1 ⟨v, rfl, hv⟩
  obtain ⟨va, vc, rfl⟩ : ∃ a c, v = .slice a l1.length c := by obtain ⟨_, _, _, _, _, h5, _⟩ := hv; exact row.shape h5
  have HV := Lib.hid hv; clear hv
  go_wp2_with fail
  go_ret3
  exact ⟨_, _, rfl, GVV.since HC.out (gvv_one HV.out)⟩
theorem program24_is (h : GIn w g G F) {x y : WV} (hx : WVin w F x) (hy : WVin w F y) (hxc : x.l.length ≤ x.c) (kind : Nat) (a1 : Option Addr) (n1 c1 : Nat) (a2 : Option Addr) (n2 c2 : Nat) (N : Nat) (hN : N < 4294967296) :
    Calls Tryz.prog 22 #[.pointer (some ⟨g, 0, none⟩), .agg #[.int .u8 kind, .slice a1 n1 c1, .slice a2 n2 c2, .int .u32 N], x.val, y.val] w (PTo24 w g F (P24 (kind % 6) G x.l y.l N)) := by
  have hlt : kind % 6 < 6 := Nat.mod_lt _ (by omega)
  obtain ⟨k, hk⟩ : ∃ k, kind % 6 = k := ⟨_, rfl⟩
  rw [hk] at hlt ⊢
  have hki : (kind : Int) % 6 = k := by omega
  match k, hlt, hki with
  | 0, _, hki => exact program24_0 h hx hy hxc kind hki a1 n1 c1 a2 n2 c2 N
  | 1, _, hki => exact program24_1 h hx hy kind hki a1 n1 c1 a2 n2 c2 N
  | 2, _, hki => exact program24_2 h hx hy kind hki a1 n1 c1 a2 n2 c2 N
  | 3, _, hki => exact program24_3 h hx hy kind hki a1 n1 c1 a2 n2 c2 N
  | 4, _, hki => exact program24_4 h hx hy hxc kind hki a1 n1 c1 a2 n2 c2 N
  | 5, _, hki => exact program24_5 h hx hy hxc kind hki a1 n1 c1 a2 n2 c2 N hN
end
end Go.Proofs.YtehljgigebhddaaGreat
namespace Go.Proofs.YtehljgigebhddaaGreat
open Go.RowKit Go.Mem Go.Aig
theorem B2To.one {w W W2 W3 : World} {rb rb' cap' b : Nat} {s : Mk} {l : List Nat} {a : Option Addr} {c : Nat} (hc0 : Ch [] w W) (hc2 : Ch [] W W2) (hr : RG W2 rb' cap' s.1) (hf : rb' = rb ∨ W.heap.size ≤ rb') (hl : rb < w.heap.size) (hl2 : l.length ≤ 1000) (hrow : row W2 3 1 (.slice a l.length c) l.length (intCells (natInts l))) (hown : ∀ q, (Value.slice a l.length c).ownBlock = some q → W.heap.size ≤ q ∧ q ≠ rb')
    (hb : w.heap.size ≤ b) (hb2 : b < W.heap.size) (hcs : Ch [b] W2 W3) : B2To w rb (s, l, []) (.returned (.tuple #[.agg #[.int .i64 s.1.most, .slice (some ⟨rb', 0, none⟩) s.1.nodes.length cap', .int .i64 s.2], .slice a l.length c, .slice none 0 0])) W3 := by
  have hz := hc0.size
  have hrow3 := hrow.ch hcs (fun k hk => by have := hown k hk; simp; omega)
  exact ⟨rb', cap', a, c, none, 0, rfl, hr.ch hcs (by simp; omega), (hc0.trans hc2 (by simp)).trans hcs (fun k hk => .inr (by simp at hk; omega)), by omega, Sl.of_ints hrow3 (by omega), ⟨fun i x hx => by simp [natInts] at hx, by simp [natInts]⟩, fun p hp => by subst hp; have := hown p.block rfl; omega, fun p hp => by cases hp⟩
theorem B2To.two {w W W2 W3 : World} {rb rb' cap' b : Nat} {s : Mk} {l l2 : List Nat} {a a2 : Option Addr} {c c2 : Nat} (hc0 : Ch [] w W) (hc2 : Ch [] W W2) (hr : RG W2 rb' cap' s.1) (hf : rb' = rb ∨ W.heap.size ≤ rb') (hl : rb < w.heap.size) (h1 : Sl W2 a (natInts l)) (h2 : Sl W2 a2 (natInts l2)) (ho1 : ∀ p, a = some p → W.heap.size ≤ p.block ∧ p.block ≠ rb') (ho2 : ∀ p, a2 = some p → W.heap.size ≤ p.block ∧ p.block ≠ rb')
    (hb : w.heap.size ≤ b) (hb2 : b < W.heap.size) (hcs : Ch [b] W2 W3) : B2To w rb (s, l, l2) (.returned (.tuple #[.agg #[.int .i64 s.1.most, .slice (some ⟨rb', 0, none⟩) s.1.nodes.length cap', .int .i64 s.2], .slice a l.length c, .slice a2 l2.length c2])) W3 := by
  have hz := hc0.size
  exact ⟨rb', cap', a, c, a2, c2, rfl, hr.ch hcs (by simp; omega), (hc0.trans hc2 (by simp)).trans hcs (fun k hk => .inr (by simp at hk; omega)), by omega, h1.ch hcs (fun p hp => by have := ho1 p hp; simp; omega), h2.ch hcs (fun p hp => by have := ho2 p hp; simp; omega), fun p hp => by have := ho1 p hp; omega, fun p hp => by have := ho2 p hp; omega⟩
section
variable {w : World} {rb cap : Nat} {G : Gra}
set_option maxRecDepth 100000 in
set_option maxHeartbeats 4000000 in
theorem reference24_0 (h : RG w rb cap G) (kind : Nat) (hk : (kind : Int) % 6 = 0) (a1 : Option Addr) (n1 c1 : Nat) (a2 : Option Addr) (c2 : Nat) (N : Nat) {X Y : List Nat} (hn : X.length = n1) (hn0 : 1 ≤ n1 ∧ n1 ≤ 17) (hX : Sl w a1 (natInts X)) (hxr : ∀ r ∈ X, r < 2 * G.nodes.length) (hm : Y.length = n1) (hY : Sl w a2 (natInts Y)) (hyr : ∀ r ∈ Y, r < 2 * G.nodes.length) :
    Calls Tryz.prog 219 #[.agg #[.int .i64 G.most, .slice (some ⟨rb, 0, none⟩) G.nodes.length cap, .int .i64 0], .agg #[.int .u8 kind, .slice a1 n1 c1, .slice a2 n1 c2, .int .u32 N]] w (B2To w rb ((rmF X (G, 0) Y).1, (rmF X (G, 0) Y).2, ([] : List Nat))) := by
  have hlt := h.lt
  have hlen := rmF_len0 (x := X) (G, 0) (y := Y) (by omega)
  rw [hn] at hlen
  have hC := fun (W : World) (hW : Ch [] w W) => r24Mul_is (h.ch hW (by simp)) n1 c1 c2 (hX.ch hW (by simp)) (hY.ch hW (by simp)) hn hm (by omega) hxr hyr
  generalize rmF X (G, 0) Y = R at *
  obtain ⟨⟨G1, q1⟩, l1⟩ := R
  have HCC := Lib.hid hC; clear hC
  clear h
  go_enter Tryz.func219, Tryz.ntmps219
  go_wp2_with fail
  refine calls_named fun W hW => ?_
  have b4 : blk W (w.heap.size + 2) [.int .i64 0, .slice none 0 0, .int .i64 0] := by rw [hW]; exact blk.new' _ _ (by simp)
  have hc : Ch [] w W := by rw [hW]; exact (((Ch.refl _ _).alloc _).alloc _).alloc _
  clear hW
  have HC := Lib.hid hc; clear hc
  refine (HCC.out W HC.out).mono ?_
  rintro e w1 ⟨rb', cap', a, c, rfl, hrg, hch, hfr, hrow, hown⟩
  have hl2 := b4.lt
  have hz := hch.size
  have hzc := HC.out.size
  have B4 := b4.ch hch (by simp)
  have HRG := Lib.hid hrg; clear hrg
  have HCH := Lib.hid hch; clear hch
  have HROW := Lib.hid hrow; clear hrow
  have HOWN := Lib.hid hown; clear hown
  have BB4 := Lib.hid B4; clear B4 b4
  go_upto_region 4 with fail
  refine wp_alw ?_
  intro W2 hW2
  have hb9 : blk W2 w1.heap.size [.int .i64 G1.most, .slice (some ⟨rb', 0, none⟩) G1.nodes.length cap', .int .i64 q1] := by rw [hW2]; exact blk.new' _ _ rfl
  have hcA : Ch [] w1 W2 := by rw [hW2]; exact (Ch.refl _ _).alloc _
  clear hW2
  have B4 := BB4.out.ch hcA (by simp)
  have y0 := hb9.cell (i := 0) rfl
  have y1 := hb9.cell (i := 1) rfl
  have y2 := hb9.cell (i := 2) rfl
  have HCA := Lib.hid hcA; clear hcA hb9
  have z0 := B4.cell (i := 0) rfl
  have z1 := B4.cell (i := 1) rfl
  have z2 := B4.cell (i := 2) rfl
  have g0 := B4.frozen (i := 0)
  have g1 := B4.frozen (i := 1)
  have g2 := B4.frozen (i := 2)
  have hzz := B4.lt
  clear B4
  go_wp2_with fail
  refine bodyPost_ret (v := .tuple #[.agg #[.int .i64 G1.most, .slice (some ⟨rb', 0, none⟩) G1.nodes.length cap', .int .i64 q1], .slice a l1.length c, .slice none 0 0]) (by simp [results, Tryz.results219, go_sem, z0, z1, z2]) rfl ?_
  exact B2To.one HC.out (HCH.out.trans HCA.out (by simp)) (HRG.out.ch HCA.out (by simp)) hfr hlt (show l1.length ≤ 1000 by omega) (HROW.out.ch HCA.out (by simp)) HOWN.out (by omega) hl2 (set3_ch rfl)
set_option maxRecDepth 100000 in
set_option maxHeartbeats 4000000 in
theorem reference24_1 (h : RG w rb cap G) (kind : Nat) (hk : (kind : Int) % 6 = 1) (a1 : Option Addr) (n1 c1 : Nat) (a2 : Option Addr) (c2 : Nat) (N : Nat) {X Y : List Nat} (hn : X.length = n1) (hn0 : 1 ≤ n1 ∧ n1 ≤ 17) (hX : Sl w a1 (natInts X)) (hxr : ∀ r ∈ X, r < 2 * G.nodes.length) (hm : Y.length = n1) (hY : Sl w a2 (natInts Y)) (hyr : ∀ r ∈ Y, r < 2 * G.nodes.length) :
    Calls Tryz.prog 219 #[.agg #[.int .i64 G.most, .slice (some ⟨rb, 0, none⟩) G.nodes.length cap, .int .i64 0], .agg #[.int .u8 kind, .slice a1 n1 c1, .slice a2 n1 c2, .int .u32 N]] w (B2To w rb ((rdF (Y ++ [0]) (G, 0) X.reverse).1, (rdF (Y ++ [0]) (G, 0) X.reverse).2.1.reverse, ([] : List Nat))) := by
  have hlt := h.lt
  have hC := fun (W : World) (hW : Ch [] w W) => r24Both_is (h.ch hW (by simp)) n1 c1 c2 (hX.ch hW (by simp)) (hY.ch hW (by simp)) hn hm (by omega) (by omega) hxr hyr
  generalize rdF (Y ++ [0]) (G, 0) X.reverse = R at *
  obtain ⟨⟨G1, q1⟩, l8, l9⟩ := R
  simp only at hC ⊢
  generalize l8.reverse = l1 at *
  generalize l9.take n1 = l2 at *
  have HCC := Lib.hid hC; clear hC
  clear h
  go_enter Tryz.func219, Tryz.ntmps219
  go_wp2_with fail
  refine calls_named fun W hW => ?_
  have b4 : blk W (w.heap.size + 2) [.int .i64 0, .slice none 0 0, .int .i64 0] := by rw [hW]; exact blk.new' _ _ (by simp)
  have hc : Ch [] w W := by rw [hW]; exact (((Ch.refl _ _).alloc _).alloc _).alloc _
  clear hW
  have HC := Lib.hid hc; clear hc
  refine (HCC.out W HC.out).mono ?_
  rintro e w1 ⟨rb', cap', a, c, d, dc, rfl, hrg, hch, hfr, hs1, hs2, ho1, ho2⟩
  have hl2 := b4.lt
  have hz := hch.size
  have hzc := HC.out.size
  have B4 := b4.ch hch (by simp)
  have HRG := Lib.hid hrg; clear hrg
  have HCH := Lib.hid hch; clear hch
  have HS1 := Lib.hid hs1; clear hs1
  have HS2 := Lib.hid hs2; clear hs2
  have HO1 := Lib.hid ho1; clear ho1
  have HO2 := Lib.hid ho2; clear ho2
  have BB4 := Lib.hid B4; clear B4 b4
  go_upto_region 7 with fail
  refine wp_alw ?_
  intro W2 hW2
  have hb9 : blk W2 w1.heap.size [.int .i64 G1.most, .slice (some ⟨rb', 0, none⟩) G1.nodes.length cap', .int .i64 q1] := by rw [hW2]; exact blk.new' _ _ rfl
  have hcA : Ch [] w1 W2 := by rw [hW2]; exact (Ch.refl _ _).alloc _
  clear hW2
  have B4 := BB4.out.ch hcA (by simp)
  have y0 := hb9.cell (i := 0) rfl
  have y1 := hb9.cell (i := 1) rfl
  have y2 := hb9.cell (i := 2) rfl
  have HCA := Lib.hid hcA; clear hcA hb9
  have z0 := B4.cell (i := 0) rfl
  have z1 := B4.cell (i := 1) rfl
  have z2 := B4.cell (i := 2) rfl
  have g0 := B4.frozen (i := 0)
  have g1 := B4.frozen (i := 1)
  have g2 := B4.frozen (i := 2)
  have hzz := B4.lt
  clear B4
  go_wp2_with fail
  refine bodyPost_ret (v := .tuple #[.agg #[.int .i64 G1.most, .slice (some ⟨rb', 0, none⟩) G1.nodes.length cap', .int .i64 q1], .slice a l1.length c, .slice none 0 0]) (by simp [results, Tryz.results219, go_sem, z0, z1, z2]) rfl ?_
  exact B2To.two (l2 := []) (a2 := none) (c2 := 0) HC.out (HCH.out.trans HCA.out (by simp)) (HRG.out.ch HCA.out (by simp)) hfr hlt (HS1.out.ch HCA.out (by simp)) ⟨fun i x hx => by simp [natInts] at hx, by simp [natInts]⟩ HO1.out (fun p hp => by cases hp) (by omega) hl2 (set3_ch rfl)
set_option maxRecDepth 100000 in
set_option maxHeartbeats 4000000 in
theorem reference24_2 (h : RG w rb cap G) (kind : Nat) (hk : (kind : Int) % 6 = 2) (a1 : Option Addr) (n1 c1 : Nat) (a2 : Option Addr) (c2 : Nat) (N : Nat) {X Y : List Nat} (hn : X.length = n1) (hn0 : 1 ≤ n1 ∧ n1 ≤ 17) (hX : Sl w a1 (natInts X)) (hxr : ∀ r ∈ X, r < 2 * G.nodes.length) (hm : Y.length = n1) (hY : Sl w a2 (natInts Y)) (hyr : ∀ r ∈ Y, r < 2 * G.nodes.length) :
    Calls Tryz.prog 219 #[.agg #[.int .i64 G.most, .slice (some ⟨rb, 0, none⟩) G.nodes.length cap, .int .i64 0], .agg #[.int .u8 kind, .slice a1 n1 c1, .slice a2 n1 c2, .int .u32 N]] w (B2To w rb ((rdF (Y ++ [0]) (G, 0) X.reverse).1, (rdF (Y ++ [0]) (G, 0) X.reverse).2.2.take n1, ([] : List Nat))) := by
  have hlt := h.lt
  have hC := fun (W : World) (hW : Ch [] w W) => r24Both_is (h.ch hW (by simp)) n1 c1 c2 (hX.ch hW (by simp)) (hY.ch hW (by simp)) hn hm (by omega) (by omega) hxr hyr
  generalize rdF (Y ++ [0]) (G, 0) X.reverse = R at *
  obtain ⟨⟨G1, q1⟩, l8, l9⟩ := R
  simp only at hC ⊢
  generalize l8.reverse = l1 at *
  generalize l9.take n1 = l2 at *
  have HCC := Lib.hid hC; clear hC
  clear h
  go_enter Tryz.func219, Tryz.ntmps219
  go_wp2_with fail
  refine calls_named fun W hW => ?_
  have b4 : blk W (w.heap.size + 2) [.int .i64 0, .slice none 0 0, .int .i64 0] := by rw [hW]; exact blk.new' _ _ (by simp)
  have hc : Ch [] w W := by rw [hW]; exact (((Ch.refl _ _).alloc _).alloc _).alloc _
  clear hW
  have HC := Lib.hid hc; clear hc
  refine (HCC.out W HC.out).mono ?_
  rintro e w1 ⟨rb', cap', a, c, d, dc, rfl, hrg, hch, hfr, hs1, hs2, ho1, ho2⟩
  have hl2 := b4.lt
  have hz := hch.size
  have hzc := HC.out.size
  have B4 := b4.ch hch (by simp)
  have HRG := Lib.hid hrg; clear hrg
  have HCH := Lib.hid hch; clear hch
  have HS1 := Lib.hid hs1; clear hs1
  have HS2 := Lib.hid hs2; clear hs2
  have HO1 := Lib.hid ho1; clear ho1
  have HO2 := Lib.hid ho2; clear ho2
  have BB4 := Lib.hid B4; clear B4 b4
  go_upto_region 10 with fail
  refine wp_alw ?_
  intro W2 hW2
  have hb9 : blk W2 w1.heap.size [.int .i64 G1.most, .slice (some ⟨rb', 0, none⟩) G1.nodes.length cap', .int .i64 q1] := by rw [hW2]; exact blk.new' _ _ rfl
  have hcA : Ch [] w1 W2 := by rw [hW2]; exact (Ch.refl _ _).alloc _
  clear hW2
  have B4 := BB4.out.ch hcA (by simp)
  have y0 := hb9.cell (i := 0) rfl
  have y1 := hb9.cell (i := 1) rfl
  have y2 := hb9.cell (i := 2) rfl
  have HCA := Lib.hid hcA; clear hcA hb9
  have z0 := B4.cell (i := 0) rfl
  have z1 := B4.cell (i := 1) rfl
  have z2 := B4.cell (i := 2) rfl
  have g0 := B4.frozen (i := 0)
  have g1 := B4.frozen (i := 1)
  have g2 := B4.frozen (i := 2)
  have hzz := B4.lt
  clear B4
  go_wp2_with fail
  refine bodyPost_ret (v := .tuple #[.agg #[.int .i64 G1.most, .slice (some ⟨rb', 0, none⟩) G1.nodes.length cap', .int .i64 q1], .slice d l2.length dc, .slice none 0 0]) (by simp [results, Tryz.results219, go_sem, z0, z1, z2]) rfl ?_
  exact B2To.two (l2 := []) (a2 := none) (c2 := 0) HC.out (HCH.out.trans HCA.out (by simp)) (HRG.out.ch HCA.out (by simp)) hfr hlt (HS2.out.ch HCA.out (by simp)) ⟨fun i x hx => by simp [natInts] at hx, by simp [natInts]⟩ HO2.out (fun p hp => by cases hp) (by omega) hl2 (set3_ch rfl)
set_option maxRecDepth 100000 in
set_option maxHeartbeats 4000000 in
theorem reference24_3 (h : RG w rb cap G) (kind : Nat) (hk : (kind : Int) % 6 = 3) (a1 : Option Addr) (n1 c1 : Nat) (a2 : Option Addr) (c2 : Nat) (N : Nat) {X Y : List Nat} (hn : X.length = n1) (hn0 : 1 ≤ n1 ∧ n1 ≤ 17) (hX : Sl w a1 (natInts X)) (hxr : ∀ r ∈ X, r < 2 * G.nodes.length) (hm : Y.length = n1) (hY : Sl w a2 (natInts Y)) (hyr : ∀ r ∈ Y, r < 2 * G.nodes.length) :
    Calls Tryz.prog 219 #[.agg #[.int .i64 G.most, .slice (some ⟨rb, 0, none⟩) G.nodes.length cap, .int .i64 0], .agg #[.int .u8 kind, .slice a1 n1 c1, .slice a2 n1 c2, .int .u32 N]] w (B2To w rb ((rdF (Y ++ [0]) (G, 0) X.reverse).1, (rdF (Y ++ [0]) (G, 0) X.reverse).2.1.reverse, (rdF (Y ++ [0]) (G, 0) X.reverse).2.2.take n1)) := by
  have hlt := h.lt
  have hC := fun (W : World) (hW : Ch [] w W) => r24Both_is (h.ch hW (by simp)) n1 c1 c2 (hX.ch hW (by simp)) (hY.ch hW (by simp)) hn hm (by omega) (by omega) hxr hyr
  generalize rdF (Y ++ [0]) (G, 0) X.reverse = R at *
  obtain ⟨⟨G1, q1⟩, l8, l9⟩ := R
  simp only at hC ⊢
  generalize l8.reverse = l1 at *
  generalize l9.take n1 = l2 at *
  have HCC := Lib.hid hC; clear hC
  clear h
  go_enter Tryz.func219, Tryz.ntmps219
  go_wp2_with fail
  refine calls_named fun W hW => ?_
  have b4 : blk W (w.heap.size + 2) [.int .i64 0, .slice none 0 0, .int .i64 0] := by rw [hW]; exact blk.new' _ _ (by simp)
  have hc : Ch [] w W := by rw [hW]; exact (((Ch.refl _ _).alloc _).alloc _).alloc _
  clear hW
  have HC := Lib.hid hc; clear hc
  refine (HCC.out W HC.out).mono ?_
  rintro e w1 ⟨rb', cap', a, c, d, dc, rfl, hrg, hch, hfr, hs1, hs2, ho1, ho2⟩
  have hl2 := b4.lt
  have hz := hch.size
  have hzc := HC.out.size
  have B4 := b4.ch hch (by simp)
  have HRG := Lib.hid hrg; clear hrg
  have HCH := Lib.hid hch; clear hch
  have HS1 := Lib.hid hs1; clear hs1
  have HS2 := Lib.hid hs2; clear hs2
  have HO1 := Lib.hid ho1; clear ho1
  have HO2 := Lib.hid ho2; clear ho2
  have z0 := B4.cell (i := 0) rfl
  have z1 := B4.cell (i := 1) rfl
  have z2 := B4.cell (i := 2) rfl
  have g0 := B4.frozen (i := 0)
  have g1 := B4.frozen (i := 1)
  have g2 := B4.frozen (i := 2)
  have hzz := B4.lt
  clear B4
  go_wp2_with fail
  refine bodyPost_ret (v := .tuple #[.agg #[.int .i64 G1.most, .slice (some ⟨rb', 0, none⟩) G1.nodes.length cap', .int .i64 q1], .slice a l1.length c, .slice d l2.length dc]) (by simp [results, Tryz.results219, go_sem, z0, z1, z2]) rfl ?_
  exact B2To.two (l2 := l2) HC.out HCH.out HRG.out hfr hlt HS1.out HS2.out HO1.out HO2.out (by omega) hl2 (set3_ch rfl)
set_option maxRecDepth 100000 in
set_option maxHeartbeats 4000000 in
theorem reference24_4 (h : RG w rb cap G) (kind : Nat) (hk : (kind : Int) % 6 = 4) (a1 : Option Addr) (n1 c1 : Nat) (a2 : Option Addr) (n2 c2 : Nat) (N : Nat) {X Y : List Nat} (hn : X.length = n1) (hn0 : 1 ≤ n1 ∧ n1 ≤ 17) (hX : Sl w a1 (natInts X)) (hxr : ∀ r ∈ X, r < 2 * G.nodes.length) :
    Calls Tryz.prog 219 #[.agg #[.int .i64 G.most, .slice (some ⟨rb, 0, none⟩) G.nodes.length cap, .int .i64 0], .agg #[.int .u8 kind, .slice a1 n1 c1, .slice a2 n2 c2, .int .u32 N]] w (B2To w rb ((rmF X (G, 0) X).1, (rmF X (G, 0) X).2, ([] : List Nat))) := by
  have hlt := h.lt
  have hlen := rmF_len0 (x := X) (G, 0) (y := X) (by omega)
  rw [hn] at hlen
  have hC := fun (W : World) (hW : Ch [] w W) => r24Mul_is (h.ch hW (by simp)) n1 c1 c1 (hX.ch hW (by simp)) (hX.ch hW (by simp)) hn hn (by omega) hxr hxr
  generalize rmF X (G, 0) X = R at *
  obtain ⟨⟨G1, q1⟩, l1⟩ := R
  have HCC := Lib.hid hC; clear hC
  clear h
  go_enter Tryz.func219, Tryz.ntmps219
  go_wp2_with fail
  refine calls_named fun W hW => ?_
  have b4 : blk W (w.heap.size + 2) [.int .i64 0, .slice none 0 0, .int .i64 0] := by rw [hW]; exact blk.new' _ _ (by simp)
  have hc : Ch [] w W := by rw [hW]; exact (((Ch.refl _ _).alloc _).alloc _).alloc _
  clear hW
  have HC := Lib.hid hc; clear hc
  refine (HCC.out W HC.out).mono ?_
  rintro e w1 ⟨rb', cap', a, c, rfl, hrg, hch, hfr, hrow, hown⟩
  have hl2 := b4.lt
  have hz := hch.size
  have hzc := HC.out.size
  have B4 := b4.ch hch (by simp)
  have HRG := Lib.hid hrg; clear hrg
  have HCH := Lib.hid hch; clear hch
  have HROW := Lib.hid hrow; clear hrow
  have HOWN := Lib.hid hown; clear hown
  have BB4 := Lib.hid B4; clear B4 b4
  go_upto_region 15 with fail
  refine wp_alw ?_
  intro W2 hW2
  have hb9 : blk W2 w1.heap.size [.int .i64 G1.most, .slice (some ⟨rb', 0, none⟩) G1.nodes.length cap', .int .i64 q1] := by rw [hW2]; exact blk.new' _ _ rfl
  have hcA : Ch [] w1 W2 := by rw [hW2]; exact (Ch.refl _ _).alloc _
  clear hW2
  have B4 := BB4.out.ch hcA (by simp)
  have y0 := hb9.cell (i := 0) rfl
  have y1 := hb9.cell (i := 1) rfl
  have y2 := hb9.cell (i := 2) rfl
  have HCA := Lib.hid hcA; clear hcA hb9
  have z0 := B4.cell (i := 0) rfl
  have z1 := B4.cell (i := 1) rfl
  have z2 := B4.cell (i := 2) rfl
  have g0 := B4.frozen (i := 0)
  have g1 := B4.frozen (i := 1)
  have g2 := B4.frozen (i := 2)
  have hzz := B4.lt
  clear B4
  go_wp2_with fail
  refine bodyPost_ret (v := .tuple #[.agg #[.int .i64 G1.most, .slice (some ⟨rb', 0, none⟩) G1.nodes.length cap', .int .i64 q1], .slice a l1.length c, .slice none 0 0]) (by simp [results, Tryz.results219, go_sem, z0, z1, z2]) rfl ?_
  exact B2To.one HC.out (HCH.out.trans HCA.out (by simp)) (HRG.out.ch HCA.out (by simp)) hfr hlt (show l1.length ≤ 1000 by omega) (HROW.out.ch HCA.out (by simp)) HOWN.out (by omega) hl2 (set3_ch rfl)
set_option maxRecDepth 100000 in
set_option maxHeartbeats 4000000 in
theorem reference24_5 (h : RG w rb cap G) (kind : Nat) (hk : (kind : Int) % 6 = 5) (a1 : Option Addr) (n1 c1 : Nat) (a2 : Option Addr) (n2 c2 : Nat) (N : Nat) {X Y : List Nat} (hn : X.length = n1) (hn0 : 1 ≤ n1 ∧ n1 ≤ 17) (hX : Sl w a1 (natInts X)) (hxr : ∀ r ∈ X, r < 2 * G.nodes.length) (hN : N < 4294967296) :
    Calls Tryz.prog 219 #[.agg #[.int .i64 G.most, .slice (some ⟨rb, 0, none⟩) G.nodes.length cap, .int .i64 0], .agg #[.int .u8 kind, .slice a1 n1 c1, .slice a2 n2 c2, .int .u32 N]] w (B2To w rb ((rmF X (G, 0) (constL N n1)).1, (rmF X (G, 0) (constL N n1)).2, ([] : List Nat))) := by
  have hlt := h.lt
  have hpos := h.ok.wf.pos
  have hlen := rmF_len0 (x := X) (G, 0) (y := constL N n1) (by rw [constL_len9]; omega)
  rw [hn] at hlen
  have hcl : (constL N n1).length = n1 := constL_len9 N n1
  have hC := fun (W : World) (hW : Ch [] w W) (a9 : Option Addr) (c9 : Nat) (hY : Sl W a9 (natInts (constL N n1))) => r24Mul_is (h.ch hW (by simp)) n1 c1 c9 (hX.ch hW (by simp)) hY hn hcl (by omega) hxr (fun r hr => by have := constL_bit9 _ _ r hr; omega)
  have hK := fun (W : World) => r23Const_is (w := W) N hN n1 (by omega)
  rw [rConstN_eq] at hK
  generalize rmF X (G, 0) (constL N n1) = R at *
  obtain ⟨⟨G1, q1⟩, l1⟩ := R
  generalize constL N n1 = CL at *
  have HCC := Lib.hid hC; clear hC
  have HK := Lib.hid hK; clear hK
  clear h
  go_enter Tryz.func219, Tryz.ntmps219
  go_upto_region 1 with fail
  refine wp_alw ?_
  intro W hW
  have b2 : blk W w.heap.size [.int .i64 G.most, .slice (some ⟨rb, 0, none⟩) G.nodes.length cap, .int .i64 0] := by rw [hW]; exact ((blk.new' _ _ rfl).alloc _).alloc _
  have b3 : blk W (w.heap.size + 1) [.int .u8 kind, .slice a1 n1 c1, .slice a2 n2 c2, .int .u32 N] := by rw [hW]; exact (blk.new' _ _ (by simp)).alloc _
  have b4 : blk W (w.heap.size + 2) [.int .i64 0, .slice none 0 0, .int .i64 0] := by rw [hW]; exact blk.new' _ _ (by simp)
  have hc : Ch [] w W := by rw [hW]; exact (((Ch.refl _ _).alloc _).alloc _).alloc _
  clear hW
  have HC := Lib.hid hc; clear hc
  have k0 := b3.cell (i := 0) rfl
  have k1 := b3.cell (i := 1) rfl
  have k3 := b3.cell (i := 3) rfl
  have hl2 := b4.lt
  have B2 := Lib.hid b2; clear b2
  have B3 := Lib.hid b3; clear b3
  have B4 := Lib.hid b4; clear b4
  have hN2 : (N : Int) < 4294967296 := by omega
  go_upto_region 16 with fail
  clear k0 hk
  go_cut [17] (fun v wd => ∃ (rb' cap' : Nat) (a : Option Addr) (c : Nat), v = .slice a l1.length c ∧ RG wd rb' cap' G1 ∧ Ch [w.heap.size] W wd ∧ (rb' = rb ∨ W.heap.size ≤ rb') ∧ blk wd w.heap.size [.int .i64 G1.most, .slice (some ⟨rb', 0, none⟩) G1.nodes.length cap', .int .i64 q1] ∧ row wd 3 1 (.slice a l1.length c) l1.length (intCells (natInts l1)) ∧ ∀ q, (Value.slice a l1.length c).ownBlock = some q → W.heap.size ≤ q ∧ q ≠ rb')
  case first =>
    have hcur0 := (Ch.refl [] W).drew
    refine Ord.St.door (fun w' => Ch [] W w') [.ho, .fl, .ho, .fl, .rd, .fl, .fl, .rd, .rd, .ef, .ef, .fl, .fl, .fl, .ef, .fl] [0, 0, 2, 0, 8, 24, 0, 64, 192, 504, 1023, 2047, 4095, 4095, 8191, 32767] [0, 1, 2, 3, 4, 5, 6, 7, 8, 9, 10, 11, 12, 13, 14, 15] mixed (by kernel_rfl) rfl ?_
    refine Ord.St.ho2 (T' := ?_) 0 [1, 2, 3, 4, 5, 6, 7, 8, 9, 10, 11, 12, 13, 14, 15] _ _ rfl (by kernel_rfl) rfl rfl rfl rfl ?_ (fun K w' hw' hk => ?_) ?_
    rotate_left
    · exact hcur0
    · have hb2 := B2.out.ch hw' (by simp); have y0 := hb2.cell (i := 0) rfl; have y1 := hb2.cell (i := 1) rfl; have y2 := hb2.cell (i := 2) rfl; have k1' := (hw'.cell (cell_lt k1) (by simp)).trans k1; clear hb2; go_step; exact hk
    refine Ord.St.fl2 (T' := ?_) 1 [2, 3, 4, 5, 6, 7, 8, 9, 10, 11, 12, 13, 14, 15] _ _ rfl (by kernel_rfl) rfl rfl rfl rfl (fun K w' hk => ?_) ?_
    rotate_left
    · go_step; exact hk
    refine Ord.St.ho2 (T' := ?_) 2 [3, 4, 5, 6, 7, 8, 9, 10, 11, 12, 13, 14, 15] _ _ rfl (by kernel_rfl) rfl rfl rfl rfl ?_ (fun K w' hw' hk => ?_) ?_
    rotate_left
    · exact hcur0
    · have hb2 := B2.out.ch hw' (by simp); have y0 := hb2.cell (i := 0) rfl; have y1 := hb2.cell (i := 1) rfl; have y2 := hb2.cell (i := 2) rfl; have k1' := (hw'.cell (cell_lt k1) (by simp)).trans k1; clear hb2; go_step; exact hk
    refine Ord.St.fl2 (T' := ?_) 3 [4, 5, 6, 7, 8, 9, 10, 11, 12, 13, 14, 15] _ _ rfl (by kernel_rfl) rfl rfl rfl rfl (fun K w' hk => ?_) ?_
    rotate_left
    · go_step; exact hk
    refine Ord.St.rd2 (T' := ?_) 4 [5, 6, 7, 8, 9, 10, 11, 12, 13, 14, 15] _ _ rfl (by kernel_rfl) rfl rfl rfl rfl (fun K hk => ?_) ?_
    rotate_left
    · go_step; exact hk
    refine Ord.St.fl2 (T' := ?_) 5 [6, 7, 8, 9, 10, 11, 12, 13, 14, 15] _ _ rfl (by kernel_rfl) rfl rfl rfl rfl (fun K w' hk => ?_) ?_
    rotate_left
    · go_step; exact hk
    refine Ord.St.fl2 (T' := ?_) 6 [7, 8, 9, 10, 11, 12, 13, 14, 15] _ _ rfl (by kernel_rfl) rfl rfl rfl rfl (fun K w' hk => ?_) ?_
    rotate_left
    · go_step; exact hk
    refine Ord.St.rd2 (T' := ?_) 7 [8, 9, 10, 11, 12, 13, 14, 15] _ _ rfl (by kernel_rfl) rfl rfl rfl rfl (fun K hk => ?_) ?_
    rotate_left
    · go_step; exact hk
    refine Ord.St.rd2 (T' := ?_) 8 [9, 10, 11, 12, 13, 14, 15] _ _ rfl (by kernel_rfl) rfl rfl rfl rfl (fun K hk => ?_) ?_
    rotate_left
    · go_step; exact hk
    refine Ord.St.efC 9 [10, 11, 12, 13, 14, 15] _ rfl (by kernel_rfl) (fun K hK => ?_)
    go_wp2_with fail
    refine (HK.out _).mono ?_
    rintro e w2 ⟨v, rfl, hro, hlo, hc2⟩
    have hcur : Ch [] W w2 := hcur0.trans hc2 (by simp)
    obtain ⟨na, nc, rfl⟩ := row.shape hro
    have hsl : Sl w2 na (natInts CL) := Sl.of_row' hro hcl (by omega)
    have HSL := Lib.hid hsl; clear hsl hro hlo hc2
    go_wp2_with fail
    refine ⟨rfl, hK _ _ ?_ ?_⟩
    · exact hcur
    clear hK K
    refine Ord.St.ef 10 [11, 12, 13, 14, 15] _ rfl (by kernel_rfl) (fun K hK => ?_)
    go_wp2_with fail
    refine (HCC.out _ (HC.out.trans hcur (by simp)) na nc HSL.out).mono ?_
    rintro e w3 ⟨rb', cap', a, c, rfl, hrg, hch, hfr, hrow, hown⟩
    have hcur3 := hcur.trans hch (by simp)
    have b2' := B2.out.ch hcur3 (by simp)
    have y0 := b2'.cell (i := 0) rfl
    have y1 := b2'.cell (i := 1) rfl
    have y2 := b2'.cell (i := 2) rfl
    have f0 := b2'.frozen (i := 0)
    have f1 := b2'.frozen (i := 1)
    have f2 := b2'.frozen (i := 2)
    have hz2 := hcur.size
    have hz3 := HC.out.size
    have hz4 := hch.size
    have BB2 := Lib.hid b2'; clear b2'
    have HRG := Lib.hid hrg; clear hrg
    have HCU := Lib.hid hcur3; clear hcur3 hch
    have HROW := Lib.hid hrow; clear hrow
    have HOWN := Lib.hid hown; clear hown
    go_wp2_with fail
    refine ⟨rfl, hK _ _ ?_⟩; clear hK K
    refine Ord.St.fl2 (T' := ?_) 11 [12, 13, 14, 15] _ _ rfl (by kernel_rfl) rfl rfl rfl rfl (fun K w' hk => ?_) ?_
    rotate_left
    · go_step; exact hk
    refine Ord.St.fl2 (T' := ?_) 12 [13, 14, 15] _ _ rfl (by kernel_rfl) rfl rfl rfl rfl (fun K w' hk => ?_) ?_
    rotate_left
    · go_step; exact hk
    refine Ord.St.fl2 (T' := ?_) 13 [14, 15] _ _ rfl (by kernel_rfl) rfl rfl rfl rfl (fun K w' hk => ?_) ?_
    rotate_left
    · go_step; exact hk
    refine Ord.St.ef 14 [15] _ rfl (by kernel_rfl) (fun K hK => ?_)
    go_wp2_with fail
    refine ⟨rfl, hK _ _ ?_⟩; clear hK K
    refine Ord.St.fl2 (T' := ?_) 15 [] _ _ rfl (by kernel_rfl) rfl rfl rfl rfl (fun K w' hk => ?_) ?_
    rotate_left
    · go_step; exact hk
    refine Ord.St.nil ?_
    go_wp2_with fail
    go_meet
    case rel =>
      have hcs : Ch [w.heap.size] w3 (((w3.setCell ⟨w.heap.size, 0, none⟩ (.int .i64 G1.most)).setCell ⟨w.heap.size, 1, none⟩ (.slice (some ⟨rb', 0, none⟩) G1.nodes.length cap')).setCell ⟨w.heap.size, 2, none⟩ (.int .i64 q1)) := set3_ch rfl
      exact ⟨rb', cap', a, c, rfl, HRG.out.ch hcs (by simp; omega), (HCU.out.mono (by simp)).trans hcs (fun k hk => .inl hk), by omega, set3_blk BB2.out rfl, HROW.out.ch hcs (fun k hk => by have := HOWN.out k hk; simp; omega), fun q hq => by have := HOWN.out q hq; omega⟩
  case rest =>
    obtain ⟨rb', cap', a, c, rfl, hrg, hch, hfr, b2', hrow, hown⟩ := hcut
    have hz := hch.size
    have hzc := HC.out.size
    have b4' := B4.out.ch hch (by simp)
    have y0 := b2'.cell (i := 0) rfl
    have y1 := b2'.cell (i := 1) rfl
    have y2 := b2'.cell (i := 2) rfl
    have z0 := b4'.cell (i := 0) rfl
    have z1 := b4'.cell (i := 1) rfl
    have z2 := b4'.cell (i := 2) rfl
    have g0 := b4'.frozen (i := 0)
    have g1 := b4'.frozen (i := 1)
    have g2 := b4'.frozen (i := 2)
    have hzz := b4'.lt
    have HRG := Lib.hid hrg; clear hrg b2' b4'
    have HCH := Lib.hid hch; clear hch
    have HROW := Lib.hid hrow; clear hrow
    have HOWN := Lib.hid hown; clear hown
    go_wp2_with fail
    refine bodyPost_ret (v := .tuple #[.agg #[.int .i64 G1.most, .slice (some ⟨rb', 0, none⟩) G1.nodes.length cap', .int .i64 q1], .slice a l1.length c, .slice none 0 0]) (by simp [results, Tryz.results219, go_sem, z0, z1, z2]) rfl ?_
    have hcs := set3_ch (w := wc) (b := w.heap.size + 2) (u := .int .i64 G1.most) (v := .slice (some ⟨rb', 0, none⟩) G1.nodes.length cap') (x := .int .i64 q1) rfl
    have hrow3 := HROW.out.ch hcs (fun k hk => by have := HOWN.out k hk; simp; omega)
    exact ⟨rb', cap', a, c, none, 0, rfl, HRG.out.ch hcs (by simp; omega), (HC.out.trans HCH.out (fun k hk => .inr (by simp at hk; omega))).trans hcs (fun k hk => .inr (by simp at hk; omega)), by omega, Sl.of_ints hrow3 (by omega), ⟨fun i x hx => by simp [natInts] at hx, by simp [natInts]⟩, fun p hp => by subst hp; have := HOWN.out p.block rfl; omega, fun p hp => by cases hp⟩
theorem reference24_is (h : RG w rb cap G) (kind : Nat) (a1 : Option Addr) (n1 c1 : Nat) (a2 : Option Addr) (n2 c2 : Nat) (N : Nat) (hN : N < 4294967296) {X Y : List Int} (hn : X.length = n1) (hm : Y.length = n2) (hX : Sl w a1 X) (hY : Sl w a2 Y) (hf : f24 (kind % 6) G X Y = 0) :
    Calls Tryz.prog 219 #[.agg #[.int .i64 G.most, .slice (some ⟨rb, 0, none⟩) G.nodes.length cap, .int .i64 0], .agg #[.int .u8 kind, .slice a1 n1 c1, .slice a2 n2 c2, .int .u32 N]] w (B2To w rb (RF24 (kind % 6) G (nats X) (nats Y) N)) := by
  have hlt : kind % 6 < 6 := Nat.mod_lt _ (by omega)
  obtain ⟨k, hk⟩ : ∃ k, kind % 6 = k := ⟨_, rfl⟩
  rw [hk] at hlt hf ⊢
  have hki : (kind : Int) % 6 = k := by omega
  obtain ⟨h1, h16, hxi, hxr⟩ := f24_one hf
  have hnx : (nats X).length = n1 := by rw [nats_len9]; exact hn
  have hX' : Sl w a1 (natInts (nats X)) := by rw [hxi]; exact hX
  rw [hn] at h1 h16
  by_cases h3 : k ≤ 3
  · obtain ⟨hyl, hyi, hyr⟩ := f24_two h3 hf
    have hny : (nats Y).length = n1 := by rw [nats_len9, hyl]; exact hn
    have hY' : Sl w a2 (natInts (nats Y)) := by rw [hyi]; exact hY
    have hn12 : n2 = n1 := by omega
    subst hn12
    match k, hlt, hki, h3 with
    | 0, _, hki, _ => exact reference24_0 h kind hki a1 n2 c1 a2 c2 N hnx ⟨h1, by omega⟩ hX' hxr hny hY' hyr
    | 1, _, hki, _ => exact reference24_1 h kind hki a1 n2 c1 a2 c2 N hnx ⟨h1, by omega⟩ hX' hxr hny hY' hyr
    | 2, _, hki, _ =>
      have := reference24_2 h kind hki a1 n2 c1 a2 c2 N hnx ⟨h1, by omega⟩ hX' hxr hny hY' hyr
      rw [← hnx] at this
      unfold RF24
      rw [hnx] at this ⊢
      exact this
    | 3, _, hki, _ =>
      have := reference24_3 h kind hki a1 n2 c1 a2 c2 N hnx ⟨h1, by omega⟩ hX' hxr hny hY' hyr
      unfold RF24
      rw [hnx]
      exact this
  · match k, hlt, hki, h3 with
    | 4, _, hki, _ => exact reference24_4 (Y := []) h kind hki a1 n1 c1 a2 n2 c2 N hnx ⟨h1, by omega⟩ hX' hxr
    | 5, _, hki, _ =>
      have := reference24_5 (Y := []) h kind hki a1 n1 c1 a2 n2 c2 N hnx ⟨h1, by omega⟩ hX' hxr hN
      unfold RF24
      rw [hnx]
      exact this
    | 0, _, _, h3 => exact absurd (by omega) h3
    | 1, _, _, h3 => exact absurd (by omega) h3
    | 2, _, _, h3 => exact absurd (by omega) h3
    | 3, _, _, h3 => exact absurd (by omega) h3
end
end Go.Proofs.YtehljgigebhddaaGreat
namespace Go.Proofs.YtehljgigebhddaaGreat
open Go.RowKit Go.Mem Go.Aig
section
variable {w : World}
set_option maxRecDepth 100000 in
set_option maxHeartbeats 4000000 in
theorem r24Check_is {rb rcap : Nat} {G : Gra} (hr : RG w rb rcap G) {b n cap : Nat} {ws : List WV} (hn : ws.length = n) (hn1 : 1 ≤ n) (hn2 : n ≤ 1000) (hb : ∀ (i : Nat) x, ws[i]? = some x → w.cell? ⟨b, i, none⟩ = some x.val) (hsl : ∀ x ∈ ws, Sl w x.a x.l) (hsz : ∀ x ∈ ws, x.l.length ≤ 1000000) :
    Calls Tryz.prog 218 #[.agg #[.int .i64 G.most, .slice (some ⟨rb, 0, none⟩) G.nodes.length rcap], .slice (some ⟨b, 0, none⟩) n cap] w fun e w' => e = .returned (.int .i64 (chk24 G (ws.map WV.l))) ∧ Ch [] w w' := by
  obtain ⟨y, hy⟩ : ∃ y, ws[0]? = some y := ⟨_, List.getElem?_eq_getElem (by omega)⟩
  have hhd : ((ws.map WV.l).headD []).length = y.l.length := by
    cases ws with
    | nil => simp at hy
    | cons z zs => simp at hy; subst hy; rfl
  have hcy := hb 0 y hy
  obtain ⟨ya, yl, yc⟩ := y
  simp only [WV.val] at hcy hhd
  obtain ⟨m0, hm0⟩ : ∃ m0, m0 = yl.length := ⟨_, rfl⟩
  rw [← hm0] at hcy hhd
  obtain ⟨RES, hRES⟩ : ∃ RES, RES = chk24 G (ws.map WV.l) := ⟨_, rfl⟩
  rw [← hRES]
  unfold chk24 at hRES
  rw [hhd] at hRES
  clear hhd hm0 hy
  have HRES := Lib.hid hRES; clear hRES
  have HB := Lib.hid hb; clear hb
  have HSL := Lib.hid hsl; clear hsl
  have HSZ := Lib.hid hsz; clear hsz
  have HN := Lib.hid hn; clear hn
  have HR := Lib.hid hr; clear hr
  have HCY := Lib.hid hcy; clear hcy
  go_enter Tryz.func218, Tryz.ntmps218
  go_wp2_with fail
  refine wp_alw ?_
  intro W0 hW0
  have b2 := alw_blk (xs := [.int .i64 G.most, .slice (some ⟨rb, 0, none⟩) G.nodes.length rcap]) hW0
  have hc0 := alw_ch hW0
  clear hW0
  have B2 := Lib.hid b2; clear b2
  have HC0 := Lib.hid hc0; clear hc0
  go_loopw [5] (fun i wr => ∃ k : Nat, k ≤ n ∧ i = .int .i64 k ∧ Ch [] W0 wr ∧ ∀ x ∈ ws.take k, bad24 m0 x.l = false) (fun i _ => n - (intOf i).toNat)
  case atStart => exact ⟨0, by omega, rfl, Ch.refl _ _, by simp⟩
  case round =>
    obtain ⟨k, hk, rfl, hc, hall⟩ := hrel
    by_cases hlt : k < n
    · obtain ⟨x, hx⟩ : ∃ x, ws[k]? = some x := ⟨_, List.getElem?_eq_getElem (by rw [HN.out]; exact hlt)⟩
      have hcx := HB.out k x hx
      have hsz := HSZ.out x (List.mem_of_getElem? hx)
      have hcw := HC0.out.trans hc (by simp)
      have d0 := (hcw.cell (cell_lt hcx) (by simp)).trans hcx
      have d1 := (hcw.cell (cell_lt HCY.out) (by simp)).trans HCY.out
      have hsn : ws.take (k + 1) = ws.take k ++ [x] := by rw [List.take_add_one, hx]; rfl
      have hbad : bad24 m0 x.l = true → (ws.map WV.l).any (bad24 m0) = true := fun e => List.any_eq_true.2 ⟨x.l, List.mem_map.2 ⟨x, List.mem_of_getElem? hx, rfl⟩, e⟩
      have hbe : bad24 m0 x.l = (decide (x.l.length < 1) || (decide (16 < x.l.length) || decide (x.l.length ≠ m0))) := rfl
      obtain ⟨xa, xl, xc⟩ := x
      simp only [WV.val] at d0
      obtain ⟨m, hm⟩ : ∃ m, m = xl.length := ⟨_, rfl⟩
      simp only [← hm] at d0 hbe hsz
      clear hm hcx hx
      have HC := Lib.hid hcw; clear hcw
      have HCW := Lib.hid hc; clear hc
      have HALL := Lib.hid hall; clear hall
      have HSN := Lib.hid hsn; clear hsn
      have HBAD := Lib.hid hbad; clear hbad
      have HBE := Lib.hid hbe; clear hbe
      by_cases g1 : m < 1
      · have q1 : decide ((m : Int) < 1) = true := decide_eq_true (by omega)
        go_wp2_with fail
        refine Ord.St.door (fun _ => True) [.fl, .fl, .fl, .rd, .rd, .fl, .fl, .fl, .fl, .fl, .rd, .rd, .fl, .fl, .fl, .fl, .fl, .fl, .rd, .rd, .fl, .fl, .rd, .rd, .fl, .fl] [0, 0, 3, 7, 15, 31, 63, 127, 127, 511, 1023, 2047, 4095, 8191, 16383, 32767, 32767, 131071, 262143, 524287, 32767, 1081343, 3178495, 7372799, 16777215, 33554431] [0, 1, 2, 3, 4, 5, 6, 7, 8, 9, 10, 11, 12, 13, 14, 15, 16, 17, 18, 19, 20, 21, 22, 23, 24, 25] mixed (by kernel_rfl) rfl ?_
        refine Ord.St.fl2 (T' := ?_) 0 [1, 2, 3, 4, 5, 6, 7, 8, 9, 10, 11, 12, 13, 14, 15, 16, 17, 18, 19, 20, 21, 22, 23, 24, 25] _ _ rfl (by kernel_rfl) rfl rfl rfl rfl (fun K w' hk => ?_) ?_
        rotate_left
        · go_step; exact hk
        refine Ord.St.fl2 (T' := ?_) 1 [2, 3, 4, 5, 6, 7, 8, 9, 10, 11, 12, 13, 14, 15, 16, 17, 18, 19, 20, 21, 22, 23, 24, 25] _ _ rfl (by kernel_rfl) rfl rfl rfl rfl (fun K w' hk => ?_) ?_
        rotate_left
        · go_step; exact hk
        refine Ord.St.fl2 (T' := ?_) 2 [3, 4, 5, 6, 7, 8, 9, 10, 11, 12, 13, 14, 15, 16, 17, 18, 19, 20, 21, 22, 23, 24, 25] _ _ rfl (by kernel_rfl) rfl rfl rfl rfl (fun K w' hk => ?_) ?_
        rotate_left
        · go_step; exact hk
        refine Ord.St.rd2 (T' := ?_) 3 [4, 5, 6, 7, 8, 9, 10, 11, 12, 13, 14, 15, 16, 17, 18, 19, 20, 21, 22, 23, 24, 25] _ _ rfl (by kernel_rfl) rfl rfl rfl rfl (fun K hk => ?_) ?_
        rotate_left
        · go_step; exact hk
        refine Ord.St.rd2 (T' := ?_) 4 [5, 6, 7, 8, 9, 10, 11, 12, 13, 14, 15, 16, 17, 18, 19, 20, 21, 22, 23, 24, 25] _ _ rfl (by kernel_rfl) rfl rfl rfl rfl (fun K hk => ?_) ?_
        rotate_left
        · go_step; exact hk
        refine Ord.St.fl2 (T' := ?_) 5 [6, 7, 8, 9, 10, 11, 12, 13, 14, 15, 16, 17, 18, 19, 20, 21, 22, 23, 24, 25] _ _ rfl (by kernel_rfl) rfl rfl rfl rfl (fun K w' hk => ?_) ?_
        rotate_left
        · go_step; exact hk
        refine Ord.St.fl2 (T' := ?_) 6 [7, 8, 9, 10, 11, 12, 13, 14, 15, 16, 17, 18, 19, 20, 21, 22, 23, 24, 25] _ _ rfl (by kernel_rfl) rfl rfl rfl rfl (fun K w' hk => ?_) ?_
        rotate_left
        · go_step; exact hk
        first | (refine Ord.St.fl2 (T' := ?_) 7 [8, 9, 10, 11, 12, 13, 14, 15, 16, 17, 18, 19, 20, 21, 22, 23, 24, 25] _ _ rfl (by kernel_rfl) ?_ rfl rfl rfl (fun K w' hk => ?_) ?_; rotate_left; (first | rfl | (simp [Region.wanted, yielded, *]; done)); focus (go_step; exact hk)) | (refine Ord.St.skip 7 [8, 9, 10, 11, 12, 13, 14, 15, 16, 17, 18, 19, 20, 21, 22, 23, 24, 25] _ rfl (by kernel_rfl) ?_ (fun K hK => ?_); (first | rfl | (simp [Region.wanted, yielded, *]; done)); go_simp; refine hK _ ?_; clear hK K)
        first | (refine Ord.St.fl2 (T' := ?_) 8 [9, 10, 11, 12, 13, 14, 15, 16, 17, 18, 19, 20, 21, 22, 23, 24, 25] _ _ rfl (by kernel_rfl) ?_ rfl rfl rfl (fun K w' hk => ?_) ?_; rotate_left; (first | rfl | (simp [Region.wanted, yielded, *]; done)); focus (go_step; exact hk)) | (refine Ord.St.skip 8 [9, 10, 11, 12, 13, 14, 15, 16, 17, 18, 19, 20, 21, 22, 23, 24, 25] _ rfl (by kernel_rfl) ?_ (fun K hK => ?_); (first | rfl | (simp [Region.wanted, yielded, *]; done)); go_simp; refine hK _ ?_; clear hK K)
        first | (refine Ord.St.fl2 (T' := ?_) 9 [10, 11, 12, 13, 14, 15, 16, 17, 18, 19, 20, 21, 22, 23, 24, 25] _ _ rfl (by kernel_rfl) ?_ rfl rfl rfl (fun K w' hk => ?_) ?_; rotate_left; (first | rfl | (simp [Region.wanted, yielded, *]; done)); focus (go_step; exact hk)) | (refine Ord.St.skip 9 [10, 11, 12, 13, 14, 15, 16, 17, 18, 19, 20, 21, 22, 23, 24, 25] _ rfl (by kernel_rfl) ?_ (fun K hK => ?_); (first | rfl | (simp [Region.wanted, yielded, *]; done)); go_simp; refine hK _ ?_; clear hK K)
        first | (refine Ord.St.rd2 (T' := ?_) 10 [11, 12, 13, 14, 15, 16, 17, 18, 19, 20, 21, 22, 23, 24, 25] _ _ rfl (by kernel_rfl) ?_ rfl rfl rfl (fun K hk => ?_) ?_; rotate_left; (first | rfl | (simp [Region.wanted, yielded, *]; done)); focus (go_step; exact hk)) | (refine Ord.St.skipr 10 [11, 12, 13, 14, 15, 16, 17, 18, 19, 20, 21, 22, 23, 24, 25] _ rfl (by kernel_rfl) ?_ (fun K hK => ?_); (first | rfl | (simp [Region.wanted, yielded, *]; done)); go_simp; refine hK _ ?_; clear hK K)
        first | (refine Ord.St.rd2 (T' := ?_) 11 [12, 13, 14, 15, 16, 17, 18, 19, 20, 21, 22, 23, 24, 25] _ _ rfl (by kernel_rfl) ?_ rfl rfl rfl (fun K hk => ?_) ?_; rotate_left; (first | rfl | (simp [Region.wanted, yielded, *]; done)); focus (go_step; exact hk)) | (refine Ord.St.skipr 11 [12, 13, 14, 15, 16, 17, 18, 19, 20, 21, 22, 23, 24, 25] _ rfl (by kernel_rfl) ?_ (fun K hK => ?_); (first | rfl | (simp [Region.wanted, yielded, *]; done)); go_simp; refine hK _ ?_; clear hK K)
        first | (refine Ord.St.fl2 (T' := ?_) 12 [13, 14, 15, 16, 17, 18, 19, 20, 21, 22, 23, 24, 25] _ _ rfl (by kernel_rfl) ?_ rfl rfl rfl (fun K w' hk => ?_) ?_; rotate_left; (first | rfl | (simp [Region.wanted, yielded, *]; done)); focus (go_step; exact hk)) | (refine Ord.St.skip 12 [13, 14, 15, 16, 17, 18, 19, 20, 21, 22, 23, 24, 25] _ rfl (by kernel_rfl) ?_ (fun K hK => ?_); (first | rfl | (simp [Region.wanted, yielded, *]; done)); go_simp; refine hK _ ?_; clear hK K)
        refine Ord.St.fl2 (T' := ?_) 13 [14, 15, 16, 17, 18, 19, 20, 21, 22, 23, 24, 25] _ _ rfl (by kernel_rfl) rfl rfl rfl rfl (fun K w' hk => ?_) ?_
        rotate_left
        · go_step; exact hk
        refine Ord.St.fl2 (T' := ?_) 14 [15, 16, 17, 18, 19, 20, 21, 22, 23, 24, 25] _ _ rfl (by kernel_rfl) rfl rfl rfl rfl (fun K w' hk => ?_) ?_
        rotate_left
        · go_step; exact hk
        first | (refine Ord.St.fl2 (T' := ?_) 15 [16, 17, 18, 19, 20, 21, 22, 23, 24, 25] _ _ rfl (by kernel_rfl) ?_ rfl rfl rfl (fun K w' hk => ?_) ?_; rotate_left; (first | rfl | (simp [Region.wanted, yielded, *]; done)); focus (go_step; exact hk)) | (refine Ord.St.skip 15 [16, 17, 18, 19, 20, 21, 22, 23, 24, 25] _ rfl (by kernel_rfl) ?_ (fun K hK => ?_); (first | rfl | (simp [Region.wanted, yielded, *]; done)); go_simp; refine hK _ ?_; clear hK K)
        first | (refine Ord.St.fl2 (T' := ?_) 16 [17, 18, 19, 20, 21, 22, 23, 24, 25] _ _ rfl (by kernel_rfl) ?_ rfl rfl rfl (fun K w' hk => ?_) ?_; rotate_left; (first | rfl | (simp [Region.wanted, yielded, *]; done)); focus (go_step; exact hk)) | (refine Ord.St.skip 16 [17, 18, 19, 20, 21, 22, 23, 24, 25] _ rfl (by kernel_rfl) ?_ (fun K hK => ?_); (first | rfl | (simp [Region.wanted, yielded, *]; done)); go_simp; refine hK _ ?_; clear hK K)
        first | (refine Ord.St.fl2 (T' := ?_) 17 [18, 19, 20, 21, 22, 23, 24, 25] _ _ rfl (by kernel_rfl) ?_ rfl rfl rfl (fun K w' hk => ?_) ?_; rotate_left; (first | rfl | (simp [Region.wanted, yielded, *]; done)); focus (go_step; exact hk)) | (refine Ord.St.skip 17 [18, 19, 20, 21, 22, 23, 24, 25] _ rfl (by kernel_rfl) ?_ (fun K hK => ?_); (first | rfl | (simp [Region.wanted, yielded, *]; done)); go_simp; refine hK _ ?_; clear hK K)
        first | (refine Ord.St.rd2 (T' := ?_) 18 [19, 20, 21, 22, 23, 24, 25] _ _ rfl (by kernel_rfl) ?_ rfl rfl rfl (fun K hk => ?_) ?_; rotate_left; (first | rfl | (simp [Region.wanted, yielded, *]; done)); focus (go_step; exact hk)) | (refine Ord.St.skipr 18 [19, 20, 21, 22, 23, 24, 25] _ rfl (by kernel_rfl) ?_ (fun K hK => ?_); (first | rfl | (simp [Region.wanted, yielded, *]; done)); go_simp; refine hK _ ?_; clear hK K)
        first | (refine Ord.St.rd2 (T' := ?_) 19 [20, 21, 22, 23, 24, 25] _ _ rfl (by kernel_rfl) ?_ rfl rfl rfl (fun K hk => ?_) ?_; rotate_left; (first | rfl | (simp [Region.wanted, yielded, *]; done)); focus (go_step; exact hk)) | (refine Ord.St.skipr 19 [20, 21, 22, 23, 24, 25] _ rfl (by kernel_rfl) ?_ (fun K hK => ?_); (first | rfl | (simp [Region.wanted, yielded, *]; done)); go_simp; refine hK _ ?_; clear hK K)
        first | (refine Ord.St.fl2 (T' := ?_) 20 [21, 22, 23, 24, 25] _ _ rfl (by kernel_rfl) ?_ rfl rfl rfl (fun K w' hk => ?_) ?_; rotate_left; (first | rfl | (simp [Region.wanted, yielded, *]; done)); focus (go_step; exact hk)) | (refine Ord.St.skip 20 [21, 22, 23, 24, 25] _ rfl (by kernel_rfl) ?_ (fun K hK => ?_); (first | rfl | (simp [Region.wanted, yielded, *]; done)); go_simp; refine hK _ ?_; clear hK K)
        first | (refine Ord.St.fl2 (T' := ?_) 21 [22, 23, 24, 25] _ _ rfl (by kernel_rfl) ?_ rfl rfl rfl (fun K w' hk => ?_) ?_; rotate_left; (first | rfl | (simp [Region.wanted, yielded, *]; done)); focus (go_step; exact hk)) | (refine Ord.St.skip 21 [22, 23, 24, 25] _ rfl (by kernel_rfl) ?_ (fun K hK => ?_); (first | rfl | (simp [Region.wanted, yielded, *]; done)); go_simp; refine hK _ ?_; clear hK K)
        first | (refine Ord.St.rd2 (T' := ?_) 22 [23, 24, 25] _ _ rfl (by kernel_rfl) ?_ rfl rfl rfl (fun K hk => ?_) ?_; rotate_left; (first | rfl | (simp [Region.wanted, yielded, *]; done)); focus (go_step; exact hk)) | (refine Ord.St.skipr 22 [23, 24, 25] _ rfl (by kernel_rfl) ?_ (fun K hK => ?_); (first | rfl | (simp [Region.wanted, yielded, *]; done)); go_simp; refine hK _ ?_; clear hK K)
        first | (refine Ord.St.rd2 (T' := ?_) 23 [24, 25] _ _ rfl (by kernel_rfl) ?_ rfl rfl rfl (fun K hk => ?_) ?_; rotate_left; (first | rfl | (simp [Region.wanted, yielded, *]; done)); focus (go_step; exact hk)) | (refine Ord.St.skipr 23 [24, 25] _ rfl (by kernel_rfl) ?_ (fun K hK => ?_); (first | rfl | (simp [Region.wanted, yielded, *]; done)); go_simp; refine hK _ ?_; clear hK K)
        first | (refine Ord.St.fl2 (T' := ?_) 24 [25] _ _ rfl (by kernel_rfl) ?_ rfl rfl rfl (fun K w' hk => ?_) ?_; rotate_left; (first | rfl | (simp [Region.wanted, yielded, *]; done)); focus (go_step; exact hk)) | (refine Ord.St.skip 24 [25] _ rfl (by kernel_rfl) ?_ (fun K hK => ?_); (first | rfl | (simp [Region.wanted, yielded, *]; done)); go_simp; refine hK _ ?_; clear hK K)
        refine Ord.St.fl2 (T' := ?_) 25 [] _ _ rfl (by kernel_rfl) rfl rfl rfl rfl (fun K w' hk => ?_) ?_
        rotate_left
        · go_step; exact hk
        refine Ord.St.nil ?_
        go_wp2_with fail
        go_ret
        exact ⟨by rw [HRES.out, HBAD.out (by rw [HBE.out, decide_eq_true g1]; rfl)]; rfl, HC.out.drew⟩
      · have q1 : decide ((m : Int) < 1) = false := decide_eq_false (by omega)
        by_cases g2 : 16 < m
        · have q2 : decide ((16 : Int) < m) = true := decide_eq_true (by omega)
          go_wp2_with fail
          refine Ord.St.door (fun _ => True) [.fl, .fl, .fl, .rd, .rd, .fl, .fl, .fl, .fl, .fl, .rd, .rd, .fl, .fl, .fl, .fl, .fl, .fl, .rd, .rd, .fl, .fl, .rd, .rd, .fl, .fl] [0, 0, 3, 7, 15, 31, 63, 127, 127, 511, 1023, 2047, 4095, 8191, 16383, 32767, 32767, 131071, 262143, 524287, 32767, 1081343, 3178495, 7372799, 16777215, 33554431] [0, 1, 2, 3, 4, 5, 6, 7, 8, 9, 10, 11, 12, 13, 14, 15, 16, 17, 18, 19, 20, 21, 22, 23, 24, 25] mixed (by kernel_rfl) rfl ?_
          refine Ord.St.fl2 (T' := ?_) 0 [1, 2, 3, 4, 5, 6, 7, 8, 9, 10, 11, 12, 13, 14, 15, 16, 17, 18, 19, 20, 21, 22, 23, 24, 25] _ _ rfl (by kernel_rfl) rfl rfl rfl rfl (fun K w' hk => ?_) ?_
          rotate_left
          · go_step; exact hk
          refine Ord.St.fl2 (T' := ?_) 1 [2, 3, 4, 5, 6, 7, 8, 9, 10, 11, 12, 13, 14, 15, 16, 17, 18, 19, 20, 21, 22, 23, 24, 25] _ _ rfl (by kernel_rfl) rfl rfl rfl rfl (fun K w' hk => ?_) ?_
          rotate_left
          · go_step; exact hk
          refine Ord.St.fl2 (T' := ?_) 2 [3, 4, 5, 6, 7, 8, 9, 10, 11, 12, 13, 14, 15, 16, 17, 18, 19, 20, 21, 22, 23, 24, 25] _ _ rfl (by kernel_rfl) rfl rfl rfl rfl (fun K w' hk => ?_) ?_
          rotate_left
          · go_step; exact hk
          refine Ord.St.rd2 (T' := ?_) 3 [4, 5, 6, 7, 8, 9, 10, 11, 12, 13, 14, 15, 16, 17, 18, 19, 20, 21, 22, 23, 24, 25] _ _ rfl (by kernel_rfl) rfl rfl rfl rfl (fun K hk => ?_) ?_
          rotate_left
          · go_step; exact hk
          refine Ord.St.rd2 (T' := ?_) 4 [5, 6, 7, 8, 9, 10, 11, 12, 13, 14, 15, 16, 17, 18, 19, 20, 21, 22, 23, 24, 25] _ _ rfl (by kernel_rfl) rfl rfl rfl rfl (fun K hk => ?_) ?_
          rotate_left
          · go_step; exact hk
          refine Ord.St.fl2 (T' := ?_) 5 [6, 7, 8, 9, 10, 11, 12, 13, 14, 15, 16, 17, 18, 19, 20, 21, 22, 23, 24, 25] _ _ rfl (by kernel_rfl) rfl rfl rfl rfl (fun K w' hk => ?_) ?_
          rotate_left
          · go_step; exact hk
          refine Ord.St.fl2 (T' := ?_) 6 [7, 8, 9, 10, 11, 12, 13, 14, 15, 16, 17, 18, 19, 20, 21, 22, 23, 24, 25] _ _ rfl (by kernel_rfl) rfl rfl rfl rfl (fun K w' hk => ?_) ?_
          rotate_left
          · go_step; exact hk
          first | (refine Ord.St.fl2 (T' := ?_) 7 [8, 9, 10, 11, 12, 13, 14, 15, 16, 17, 18, 19, 20, 21, 22, 23, 24, 25] _ _ rfl (by kernel_rfl) ?_ rfl rfl rfl (fun K w' hk => ?_) ?_; rotate_left; (first | rfl | (simp [Region.wanted, yielded, *]; done)); focus (go_step; exact hk)) | (refine Ord.St.skip 7 [8, 9, 10, 11, 12, 13, 14, 15, 16, 17, 18, 19, 20, 21, 22, 23, 24, 25] _ rfl (by kernel_rfl) ?_ (fun K hK => ?_); (first | rfl | (simp [Region.wanted, yielded, *]; done)); go_simp; refine hK _ ?_; clear hK K)
          first | (refine Ord.St.fl2 (T' := ?_) 8 [9, 10, 11, 12, 13, 14, 15, 16, 17, 18, 19, 20, 21, 22, 23, 24, 25] _ _ rfl (by kernel_rfl) ?_ rfl rfl rfl (fun K w' hk => ?_) ?_; rotate_left; (first | rfl | (simp [Region.wanted, yielded, *]; done)); focus (go_step; exact hk)) | (refine Ord.St.skip 8 [9, 10, 11, 12, 13, 14, 15, 16, 17, 18, 19, 20, 21, 22, 23, 24, 25] _ rfl (by kernel_rfl) ?_ (fun K hK => ?_); (first | rfl | (simp [Region.wanted, yielded, *]; done)); go_simp; refine hK _ ?_; clear hK K)
          first | (refine Ord.St.fl2 (T' := ?_) 9 [10, 11, 12, 13, 14, 15, 16, 17, 18, 19, 20, 21, 22, 23, 24, 25] _ _ rfl (by kernel_rfl) ?_ rfl rfl rfl (fun K w' hk => ?_) ?_; rotate_left; (first | rfl | (simp [Region.wanted, yielded, *]; done)); focus (go_step; exact hk)) | (refine Ord.St.skip 9 [10, 11, 12, 13, 14, 15, 16, 17, 18, 19, 20, 21, 22, 23, 24, 25] _ rfl (by kernel_rfl) ?_ (fun K hK => ?_); (first | rfl | (simp [Region.wanted, yielded, *]; done)); go_simp; refine hK _ ?_; clear hK K)
          first | (refine Ord.St.rd2 (T' := ?_) 10 [11, 12, 13, 14, 15, 16, 17, 18, 19, 20, 21, 22, 23, 24, 25] _ _ rfl (by kernel_rfl) ?_ rfl rfl rfl (fun K hk => ?_) ?_; rotate_left; (first | rfl | (simp [Region.wanted, yielded, *]; done)); focus (go_step; exact hk)) | (refine Ord.St.skipr 10 [11, 12, 13, 14, 15, 16, 17, 18, 19, 20, 21, 22, 23, 24, 25] _ rfl (by kernel_rfl) ?_ (fun K hK => ?_); (first | rfl | (simp [Region.wanted, yielded, *]; done)); go_simp; refine hK _ ?_; clear hK K)
          first | (refine Ord.St.rd2 (T' := ?_) 11 [12, 13, 14, 15, 16, 17, 18, 19, 20, 21, 22, 23, 24, 25] _ _ rfl (by kernel_rfl) ?_ rfl rfl rfl (fun K hk => ?_) ?_; rotate_left; (first | rfl | (simp [Region.wanted, yielded, *]; done)); focus (go_step; exact hk)) | (refine Ord.St.skipr 11 [12, 13, 14, 15, 16, 17, 18, 19, 20, 21, 22, 23, 24, 25] _ rfl (by kernel_rfl) ?_ (fun K hK => ?_); (first | rfl | (simp [Region.wanted, yielded, *]; done)); go_simp; refine hK _ ?_; clear hK K)
          first | (refine Ord.St.fl2 (T' := ?_) 12 [13, 14, 15, 16, 17, 18, 19, 20, 21, 22, 23, 24, 25] _ _ rfl (by kernel_rfl) ?_ rfl rfl rfl (fun K w' hk => ?_) ?_; rotate_left; (first | rfl | (simp [Region.wanted, yielded, *]; done)); focus (go_step; exact hk)) | (refine Ord.St.skip 12 [13, 14, 15, 16, 17, 18, 19, 20, 21, 22, 23, 24, 25] _ rfl (by kernel_rfl) ?_ (fun K hK => ?_); (first | rfl | (simp [Region.wanted, yielded, *]; done)); go_simp; refine hK _ ?_; clear hK K)
          refine Ord.St.fl2 (T' := ?_) 13 [14, 15, 16, 17, 18, 19, 20, 21, 22, 23, 24, 25] _ _ rfl (by kernel_rfl) rfl rfl rfl rfl (fun K w' hk => ?_) ?_
          rotate_left
          · go_step; exact hk
          refine Ord.St.fl2 (T' := ?_) 14 [15, 16, 17, 18, 19, 20, 21, 22, 23, 24, 25] _ _ rfl (by kernel_rfl) rfl rfl rfl rfl (fun K w' hk => ?_) ?_
          rotate_left
          · go_step; exact hk
          first | (refine Ord.St.fl2 (T' := ?_) 15 [16, 17, 18, 19, 20, 21, 22, 23, 24, 25] _ _ rfl (by kernel_rfl) ?_ rfl rfl rfl (fun K w' hk => ?_) ?_; rotate_left; (first | rfl | (simp [Region.wanted, yielded, *]; done)); focus (go_step; exact hk)) | (refine Ord.St.skip 15 [16, 17, 18, 19, 20, 21, 22, 23, 24, 25] _ rfl (by kernel_rfl) ?_ (fun K hK => ?_); (first | rfl | (simp [Region.wanted, yielded, *]; done)); go_simp; refine hK _ ?_; clear hK K)
          first | (refine Ord.St.fl2 (T' := ?_) 16 [17, 18, 19, 20, 21, 22, 23, 24, 25] _ _ rfl (by kernel_rfl) ?_ rfl rfl rfl (fun K w' hk => ?_) ?_; rotate_left; (first | rfl | (simp [Region.wanted, yielded, *]; done)); focus (go_step; exact hk)) | (refine Ord.St.skip 16 [17, 18, 19, 20, 21, 22, 23, 24, 25] _ rfl (by kernel_rfl) ?_ (fun K hK => ?_); (first | rfl | (simp [Region.wanted, yielded, *]; done)); go_simp; refine hK _ ?_; clear hK K)
          first | (refine Ord.St.fl2 (T' := ?_) 17 [18, 19, 20, 21, 22, 23, 24, 25] _ _ rfl (by kernel_rfl) ?_ rfl rfl rfl (fun K w' hk => ?_) ?_; rotate_left; (first | rfl | (simp [Region.wanted, yielded, *]; done)); focus (go_step; exact hk)) | (refine Ord.St.skip 17 [18, 19, 20, 21, 22, 23, 24, 25] _ rfl (by kernel_rfl) ?_ (fun K hK => ?_); (first | rfl | (simp [Region.wanted, yielded, *]; done)); go_simp; refine hK _ ?_; clear hK K)
          first | (refine Ord.St.rd2 (T' := ?_) 18 [19, 20, 21, 22, 23, 24, 25] _ _ rfl (by kernel_rfl) ?_ rfl rfl rfl (fun K hk => ?_) ?_; rotate_left; (first | rfl | (simp [Region.wanted, yielded, *]; done)); focus (go_step; exact hk)) | (refine Ord.St.skipr 18 [19, 20, 21, 22, 23, 24, 25] _ rfl (by kernel_rfl) ?_ (fun K hK => ?_); (first | rfl | (simp [Region.wanted, yielded, *]; done)); go_simp; refine hK _ ?_; clear hK K)
          first | (refine Ord.St.rd2 (T' := ?_) 19 [20, 21, 22, 23, 24, 25] _ _ rfl (by kernel_rfl) ?_ rfl rfl rfl (fun K hk => ?_) ?_; rotate_left; (first | rfl | (simp [Region.wanted, yielded, *]; done)); focus (go_step; exact hk)) | (refine Ord.St.skipr 19 [20, 21, 22, 23, 24, 25] _ rfl (by kernel_rfl) ?_ (fun K hK => ?_); (first | rfl | (simp [Region.wanted, yielded, *]; done)); go_simp; refine hK _ ?_; clear hK K)
          first | (refine Ord.St.fl2 (T' := ?_) 20 [21, 22, 23, 24, 25] _ _ rfl (by kernel_rfl) ?_ rfl rfl rfl (fun K w' hk => ?_) ?_; rotate_left; (first | rfl | (simp [Region.wanted, yielded, *]; done)); focus (go_step; exact hk)) | (refine Ord.St.skip 20 [21, 22, 23, 24, 25] _ rfl (by kernel_rfl) ?_ (fun K hK => ?_); (first | rfl | (simp [Region.wanted, yielded, *]; done)); go_simp; refine hK _ ?_; clear hK K)
          first | (refine Ord.St.fl2 (T' := ?_) 21 [22, 23, 24, 25] _ _ rfl (by kernel_rfl) ?_ rfl rfl rfl (fun K w' hk => ?_) ?_; rotate_left; (first | rfl | (simp [Region.wanted, yielded, *]; done)); focus (go_step; exact hk)) | (refine Ord.St.skip 21 [22, 23, 24, 25] _ rfl (by kernel_rfl) ?_ (fun K hK => ?_); (first | rfl | (simp [Region.wanted, yielded, *]; done)); go_simp; refine hK _ ?_; clear hK K)
          first | (refine Ord.St.rd2 (T' := ?_) 22 [23, 24, 25] _ _ rfl (by kernel_rfl) ?_ rfl rfl rfl (fun K hk => ?_) ?_; rotate_left; (first | rfl | (simp [Region.wanted, yielded, *]; done)); focus (go_step; exact hk)) | (refine Ord.St.skipr 22 [23, 24, 25] _ rfl (by kernel_rfl) ?_ (fun K hK => ?_); (first | rfl | (simp [Region.wanted, yielded, *]; done)); go_simp; refine hK _ ?_; clear hK K)
          first | (refine Ord.St.rd2 (T' := ?_) 23 [24, 25] _ _ rfl (by kernel_rfl) ?_ rfl rfl rfl (fun K hk => ?_) ?_; rotate_left; (first | rfl | (simp [Region.wanted, yielded, *]; done)); focus (go_step; exact hk)) | (refine Ord.St.skipr 23 [24, 25] _ rfl (by kernel_rfl) ?_ (fun K hK => ?_); (first | rfl | (simp [Region.wanted, yielded, *]; done)); go_simp; refine hK _ ?_; clear hK K)
          first | (refine Ord.St.fl2 (T' := ?_) 24 [25] _ _ rfl (by kernel_rfl) ?_ rfl rfl rfl (fun K w' hk => ?_) ?_; rotate_left; (first | rfl | (simp [Region.wanted, yielded, *]; done)); focus (go_step; exact hk)) | (refine Ord.St.skip 24 [25] _ rfl (by kernel_rfl) ?_ (fun K hK => ?_); (first | rfl | (simp [Region.wanted, yielded, *]; done)); go_simp; refine hK _ ?_; clear hK K)
          refine Ord.St.fl2 (T' := ?_) 25 [] _ _ rfl (by kernel_rfl) rfl rfl rfl rfl (fun K w' hk => ?_) ?_
          rotate_left
          · go_step; exact hk
          refine Ord.St.nil ?_
          go_wp2_with fail
          go_ret
          exact ⟨by rw [HRES.out, HBAD.out (by rw [HBE.out, decide_eq_true g2]; simp)]; rfl, HC.out.drew⟩
        · have q2 : decide ((16 : Int) < m) = false := decide_eq_false (by omega)
          by_cases g3 : m = m0
          · have q3 : ((m : Int) != m0) = false := by rw [g3]; simp
            have HG := Lib.hid g3; clear g3
            go_wp2_with fail
            refine Ord.St.door (fun _ => True) [.fl, .fl, .fl, .rd, .rd, .fl, .fl, .fl, .fl, .fl, .rd, .rd, .fl, .fl, .fl, .fl, .fl, .fl, .rd, .rd, .fl, .fl, .rd, .rd, .fl, .fl] [0, 0, 3, 7, 15, 31, 63, 127, 127, 511, 1023, 2047, 4095, 8191, 16383, 32767, 32767, 131071, 262143, 524287, 32767, 1081343, 3178495, 7372799, 16777215, 33554431] [0, 1, 2, 3, 4, 5, 6, 7, 8, 9, 10, 11, 12, 13, 14, 15, 16, 17, 18, 19, 20, 21, 22, 23, 24, 25] mixed (by kernel_rfl) rfl ?_
            refine Ord.St.fl2 (T' := ?_) 0 [1, 2, 3, 4, 5, 6, 7, 8, 9, 10, 11, 12, 13, 14, 15, 16, 17, 18, 19, 20, 21, 22, 23, 24, 25] _ _ rfl (by kernel_rfl) rfl rfl rfl rfl (fun K w' hk => ?_) ?_
            rotate_left
            · go_step; exact hk
            refine Ord.St.fl2 (T' := ?_) 1 [2, 3, 4, 5, 6, 7, 8, 9, 10, 11, 12, 13, 14, 15, 16, 17, 18, 19, 20, 21, 22, 23, 24, 25] _ _ rfl (by kernel_rfl) rfl rfl rfl rfl (fun K w' hk => ?_) ?_
            rotate_left
            · go_step; exact hk
            refine Ord.St.fl2 (T' := ?_) 2 [3, 4, 5, 6, 7, 8, 9, 10, 11, 12, 13, 14, 15, 16, 17, 18, 19, 20, 21, 22, 23, 24, 25] _ _ rfl (by kernel_rfl) rfl rfl rfl rfl (fun K w' hk => ?_) ?_
            rotate_left
            · go_step; exact hk
            refine Ord.St.rd2 (T' := ?_) 3 [4, 5, 6, 7, 8, 9, 10, 11, 12, 13, 14, 15, 16, 17, 18, 19, 20, 21, 22, 23, 24, 25] _ _ rfl (by kernel_rfl) rfl rfl rfl rfl (fun K hk => ?_) ?_
            rotate_left
            · go_step; exact hk
            refine Ord.St.rd2 (T' := ?_) 4 [5, 6, 7, 8, 9, 10, 11, 12, 13, 14, 15, 16, 17, 18, 19, 20, 21, 22, 23, 24, 25] _ _ rfl (by kernel_rfl) rfl rfl rfl rfl (fun K hk => ?_) ?_
            rotate_left
            · go_step; exact hk
            refine Ord.St.fl2 (T' := ?_) 5 [6, 7, 8, 9, 10, 11, 12, 13, 14, 15, 16, 17, 18, 19, 20, 21, 22, 23, 24, 25] _ _ rfl (by kernel_rfl) rfl rfl rfl rfl (fun K w' hk => ?_) ?_
            rotate_left
            · go_step; exact hk
            refine Ord.St.fl2 (T' := ?_) 6 [7, 8, 9, 10, 11, 12, 13, 14, 15, 16, 17, 18, 19, 20, 21, 22, 23, 24, 25] _ _ rfl (by kernel_rfl) rfl rfl rfl rfl (fun K w' hk => ?_) ?_
            rotate_left
            · go_step; exact hk
            first | (refine Ord.St.fl2 (T' := ?_) 7 [8, 9, 10, 11, 12, 13, 14, 15, 16, 17, 18, 19, 20, 21, 22, 23, 24, 25] _ _ rfl (by kernel_rfl) ?_ rfl rfl rfl (fun K w' hk => ?_) ?_; rotate_left; (first | rfl | (simp [Region.wanted, yielded, *]; done)); focus (go_step; exact hk)) | (refine Ord.St.skip 7 [8, 9, 10, 11, 12, 13, 14, 15, 16, 17, 18, 19, 20, 21, 22, 23, 24, 25] _ rfl (by kernel_rfl) ?_ (fun K hK => ?_); (first | rfl | (simp [Region.wanted, yielded, *]; done)); go_simp; refine hK _ ?_; clear hK K)
            first | (refine Ord.St.fl2 (T' := ?_) 8 [9, 10, 11, 12, 13, 14, 15, 16, 17, 18, 19, 20, 21, 22, 23, 24, 25] _ _ rfl (by kernel_rfl) ?_ rfl rfl rfl (fun K w' hk => ?_) ?_; rotate_left; (first | rfl | (simp [Region.wanted, yielded, *]; done)); focus (go_step; exact hk)) | (refine Ord.St.skip 8 [9, 10, 11, 12, 13, 14, 15, 16, 17, 18, 19, 20, 21, 22, 23, 24, 25] _ rfl (by kernel_rfl) ?_ (fun K hK => ?_); (first | rfl | (simp [Region.wanted, yielded, *]; done)); go_simp; refine hK _ ?_; clear hK K)
            first | (refine Ord.St.fl2 (T' := ?_) 9 [10, 11, 12, 13, 14, 15, 16, 17, 18, 19, 20, 21, 22, 23, 24, 25] _ _ rfl (by kernel_rfl) ?_ rfl rfl rfl (fun K w' hk => ?_) ?_; rotate_left; (first | rfl | (simp [Region.wanted, yielded, *]; done)); focus (go_step; exact hk)) | (refine Ord.St.skip 9 [10, 11, 12, 13, 14, 15, 16, 17, 18, 19, 20, 21, 22, 23, 24, 25] _ rfl (by kernel_rfl) ?_ (fun K hK => ?_); (first | rfl | (simp [Region.wanted, yielded, *]; done)); go_simp; refine hK _ ?_; clear hK K)
            first | (refine Ord.St.rd2 (T' := ?_) 10 [11, 12, 13, 14, 15, 16, 17, 18, 19, 20, 21, 22, 23, 24, 25] _ _ rfl (by kernel_rfl) ?_ rfl rfl rfl (fun K hk => ?_) ?_; rotate_left; (first | rfl | (simp [Region.wanted, yielded, *]; done)); focus (go_step; exact hk)) | (refine Ord.St.skipr 10 [11, 12, 13, 14, 15, 16, 17, 18, 19, 20, 21, 22, 23, 24, 25] _ rfl (by kernel_rfl) ?_ (fun K hK => ?_); (first | rfl | (simp [Region.wanted, yielded, *]; done)); go_simp; refine hK _ ?_; clear hK K)
            first | (refine Ord.St.rd2 (T' := ?_) 11 [12, 13, 14, 15, 16, 17, 18, 19, 20, 21, 22, 23, 24, 25] _ _ rfl (by kernel_rfl) ?_ rfl rfl rfl (fun K hk => ?_) ?_; rotate_left; (first | rfl | (simp [Region.wanted, yielded, *]; done)); focus (go_step; exact hk)) | (refine Ord.St.skipr 11 [12, 13, 14, 15, 16, 17, 18, 19, 20, 21, 22, 23, 24, 25] _ rfl (by kernel_rfl) ?_ (fun K hK => ?_); (first | rfl | (simp [Region.wanted, yielded, *]; done)); go_simp; refine hK _ ?_; clear hK K)
            first | (refine Ord.St.fl2 (T' := ?_) 12 [13, 14, 15, 16, 17, 18, 19, 20, 21, 22, 23, 24, 25] _ _ rfl (by kernel_rfl) ?_ rfl rfl rfl (fun K w' hk => ?_) ?_; rotate_left; (first | rfl | (simp [Region.wanted, yielded, *]; done)); focus (go_step; exact hk)) | (refine Ord.St.skip 12 [13, 14, 15, 16, 17, 18, 19, 20, 21, 22, 23, 24, 25] _ rfl (by kernel_rfl) ?_ (fun K hK => ?_); (first | rfl | (simp [Region.wanted, yielded, *]; done)); go_simp; refine hK _ ?_; clear hK K)
            refine Ord.St.fl2 (T' := ?_) 13 [14, 15, 16, 17, 18, 19, 20, 21, 22, 23, 24, 25] _ _ rfl (by kernel_rfl) rfl rfl rfl rfl (fun K w' hk => ?_) ?_
            rotate_left
            · go_step; exact hk
            refine Ord.St.fl2 (T' := ?_) 14 [15, 16, 17, 18, 19, 20, 21, 22, 23, 24, 25] _ _ rfl (by kernel_rfl) rfl rfl rfl rfl (fun K w' hk => ?_) ?_
            rotate_left
            · go_step; exact hk
            first | (refine Ord.St.fl2 (T' := ?_) 15 [16, 17, 18, 19, 20, 21, 22, 23, 24, 25] _ _ rfl (by kernel_rfl) ?_ rfl rfl rfl (fun K w' hk => ?_) ?_; rotate_left; (first | rfl | (simp [Region.wanted, yielded, *]; done)); focus (go_step; exact hk)) | (refine Ord.St.skip 15 [16, 17, 18, 19, 20, 21, 22, 23, 24, 25] _ rfl (by kernel_rfl) ?_ (fun K hK => ?_); (first | rfl | (simp [Region.wanted, yielded, *]; done)); go_simp; refine hK _ ?_; clear hK K)
            first | (refine Ord.St.fl2 (T' := ?_) 16 [17, 18, 19, 20, 21, 22, 23, 24, 25] _ _ rfl (by kernel_rfl) ?_ rfl rfl rfl (fun K w' hk => ?_) ?_; rotate_left; (first | rfl | (simp [Region.wanted, yielded, *]; done)); focus (go_step; exact hk)) | (refine Ord.St.skip 16 [17, 18, 19, 20, 21, 22, 23, 24, 25] _ rfl (by kernel_rfl) ?_ (fun K hK => ?_); (first | rfl | (simp [Region.wanted, yielded, *]; done)); go_simp; refine hK _ ?_; clear hK K)
            first | (refine Ord.St.fl2 (T' := ?_) 17 [18, 19, 20, 21, 22, 23, 24, 25] _ _ rfl (by kernel_rfl) ?_ rfl rfl rfl (fun K w' hk => ?_) ?_; rotate_left; (first | rfl | (simp [Region.wanted, yielded, *]; done)); focus (go_step; exact hk)) | (refine Ord.St.skip 17 [18, 19, 20, 21, 22, 23, 24, 25] _ rfl (by kernel_rfl) ?_ (fun K hK => ?_); (first | rfl | (simp [Region.wanted, yielded, *]; done)); go_simp; refine hK _ ?_; clear hK K)
            first | (refine Ord.St.rd2 (T' := ?_) 18 [19, 20, 21, 22, 23, 24, 25] _ _ rfl (by kernel_rfl) ?_ rfl rfl rfl (fun K hk => ?_) ?_; rotate_left; (first | rfl | (simp [Region.wanted, yielded, *]; done)); focus (go_step; exact hk)) | (refine Ord.St.skipr 18 [19, 20, 21, 22, 23, 24, 25] _ rfl (by kernel_rfl) ?_ (fun K hK => ?_); (first | rfl | (simp [Region.wanted, yielded, *]; done)); go_simp; refine hK _ ?_; clear hK K)
            first | (refine Ord.St.rd2 (T' := ?_) 19 [20, 21, 22, 23, 24, 25] _ _ rfl (by kernel_rfl) ?_ rfl rfl rfl (fun K hk => ?_) ?_; rotate_left; (first | rfl | (simp [Region.wanted, yielded, *]; done)); focus (go_step; exact hk)) | (refine Ord.St.skipr 19 [20, 21, 22, 23, 24, 25] _ rfl (by kernel_rfl) ?_ (fun K hK => ?_); (first | rfl | (simp [Region.wanted, yielded, *]; done)); go_simp; refine hK _ ?_; clear hK K)
            first | (refine Ord.St.fl2 (T' := ?_) 20 [21, 22, 23, 24, 25] _ _ rfl (by kernel_rfl) ?_ rfl rfl rfl (fun K w' hk => ?_) ?_; rotate_left; (first | rfl | (simp [Region.wanted, yielded, *]; done)); focus (go_step; exact hk)) | (refine Ord.St.skip 20 [21, 22, 23, 24, 25] _ rfl (by kernel_rfl) ?_ (fun K hK => ?_); (first | rfl | (simp [Region.wanted, yielded, *]; done)); go_simp; refine hK _ ?_; clear hK K)
            first | (refine Ord.St.fl2 (T' := ?_) 21 [22, 23, 24, 25] _ _ rfl (by kernel_rfl) ?_ rfl rfl rfl (fun K w' hk => ?_) ?_; rotate_left; (first | rfl | (simp [Region.wanted, yielded, *]; done)); focus (go_step; exact hk)) | (refine Ord.St.skip 21 [22, 23, 24, 25] _ rfl (by kernel_rfl) ?_ (fun K hK => ?_); (first | rfl | (simp [Region.wanted, yielded, *]; done)); go_simp; refine hK _ ?_; clear hK K)
            first | (refine Ord.St.rd2 (T' := ?_) 22 [23, 24, 25] _ _ rfl (by kernel_rfl) ?_ rfl rfl rfl (fun K hk => ?_) ?_; rotate_left; (first | rfl | (simp [Region.wanted, yielded, *]; done)); focus (go_step; exact hk)) | (refine Ord.St.skipr 22 [23, 24, 25] _ rfl (by kernel_rfl) ?_ (fun K hK => ?_); (first | rfl | (simp [Region.wanted, yielded, *]; done)); go_simp; refine hK _ ?_; clear hK K)
            first | (refine Ord.St.rd2 (T' := ?_) 23 [24, 25] _ _ rfl (by kernel_rfl) ?_ rfl rfl rfl (fun K hk => ?_) ?_; rotate_left; (first | rfl | (simp [Region.wanted, yielded, *]; done)); focus (go_step; exact hk)) | (refine Ord.St.skipr 23 [24, 25] _ rfl (by kernel_rfl) ?_ (fun K hK => ?_); (first | rfl | (simp [Region.wanted, yielded, *]; done)); go_simp; refine hK _ ?_; clear hK K)
            first | (refine Ord.St.fl2 (T' := ?_) 24 [25] _ _ rfl (by kernel_rfl) ?_ rfl rfl rfl (fun K w' hk => ?_) ?_; rotate_left; (first | rfl | (simp [Region.wanted, yielded, *]; done)); focus (go_step; exact hk)) | (refine Ord.St.skip 24 [25] _ rfl (by kernel_rfl) ?_ (fun K hK => ?_); (first | rfl | (simp [Region.wanted, yielded, *]; done)); go_simp; refine hK _ ?_; clear hK K)
            refine Ord.St.fl2 (T' := ?_) 25 [] _ _ rfl (by kernel_rfl) rfl rfl rfl rfl (fun K w' hk => ?_) ?_
            rotate_left
            · go_step; exact hk
            refine Ord.St.nil ?_
            go_wp2_with fail
            go_roundw
            case rel => exact ⟨k + 1, by omega, by go_num, HCW.out.drew, fun z hz => by
              rw [HSN.out] at hz
              rcases List.mem_append.1 hz with hz | hz
              · exact HALL.out z hz
              · rw [List.mem_singleton.1 hz]; show bad24 m0 xl = false; rw [HBE.out, decide_eq_false g1, decide_eq_false g2]; simp [HG.out]⟩
            case measure => simp [intOf]; omega
          · have q3 : ((m : Int) != m0) = true := bne_iff_ne.2 (by omega)
            go_wp2_with fail
            refine Ord.St.door (fun _ => True) [.fl, .fl, .fl, .rd, .rd, .fl, .fl, .fl, .fl, .fl, .rd, .rd, .fl, .fl, .fl, .fl, .fl, .fl, .rd, .rd, .fl, .fl, .rd, .rd, .fl, .fl] [0, 0, 3, 7, 15, 31, 63, 127, 127, 511, 1023, 2047, 4095, 8191, 16383, 32767, 32767, 131071, 262143, 524287, 32767, 1081343, 3178495, 7372799, 16777215, 33554431] [0, 1, 2, 3, 4, 5, 6, 7, 8, 9, 10, 11, 12, 13, 14, 15, 16, 17, 18, 19, 20, 21, 22, 23, 24, 25] mixed (by kernel_rfl) rfl ?_
            refine Ord.St.fl2 (T' := ?_) 0 [1, 2, 3, 4, 5, 6, 7, 8, 9, 10, 11, 12, 13, 14, 15, 16, 17, 18, 19, 20, 21, 22, 23, 24, 25] _ _ rfl (by kernel_rfl) rfl rfl rfl rfl (fun K w' hk => ?_) ?_
            rotate_left
            · go_step; exact hk
            refine Ord.St.fl2 (T' := ?_) 1 [2, 3, 4, 5, 6, 7, 8, 9, 10, 11, 12, 13, 14, 15, 16, 17, 18, 19, 20, 21, 22, 23, 24, 25] _ _ rfl (by kernel_rfl) rfl rfl rfl rfl (fun K w' hk => ?_) ?_
            rotate_left
            · go_step; exact hk
            refine Ord.St.fl2 (T' := ?_) 2 [3, 4, 5, 6, 7, 8, 9, 10, 11, 12, 13, 14, 15, 16, 17, 18, 19, 20, 21, 22, 23, 24, 25] _ _ rfl (by kernel_rfl) rfl rfl rfl rfl (fun K w' hk => ?_) ?_
            rotate_left
            · go_step; exact hk
            refine Ord.St.rd2 (T' := ?_) 3 [4, 5, 6, 7, 8, 9, 10, 11, 12, 13, 14, 15, 16, 17, 18, 19, 20, 21, 22, 23, 24, 25] _ _ rfl (by kernel_rfl) rfl rfl rfl rfl (fun K hk => ?_) ?_
            rotate_left
            · go_step; exact hk
            refine Ord.St.rd2 (T' := ?_) 4 [5, 6, 7, 8, 9, 10, 11, 12, 13, 14, 15, 16, 17, 18, 19, 20, 21, 22, 23, 24, 25] _ _ rfl (by kernel_rfl) rfl rfl rfl rfl (fun K hk => ?_) ?_
            rotate_left
            · go_step; exact hk
            refine Ord.St.fl2 (T' := ?_) 5 [6, 7, 8, 9, 10, 11, 12, 13, 14, 15, 16, 17, 18, 19, 20, 21, 22, 23, 24, 25] _ _ rfl (by kernel_rfl) rfl rfl rfl rfl (fun K w' hk => ?_) ?_
            rotate_left
            · go_step; exact hk
            refine Ord.St.fl2 (T' := ?_) 6 [7, 8, 9, 10, 11, 12, 13, 14, 15, 16, 17, 18, 19, 20, 21, 22, 23, 24, 25] _ _ rfl (by kernel_rfl) rfl rfl rfl rfl (fun K w' hk => ?_) ?_
            rotate_left
            · go_step; exact hk
            first | (refine Ord.St.fl2 (T' := ?_) 7 [8, 9, 10, 11, 12, 13, 14, 15, 16, 17, 18, 19, 20, 21, 22, 23, 24, 25] _ _ rfl (by kernel_rfl) ?_ rfl rfl rfl (fun K w' hk => ?_) ?_; rotate_left; (first | rfl | (simp [Region.wanted, yielded, *]; done)); focus (go_step; exact hk)) | (refine Ord.St.skip 7 [8, 9, 10, 11, 12, 13, 14, 15, 16, 17, 18, 19, 20, 21, 22, 23, 24, 25] _ rfl (by kernel_rfl) ?_ (fun K hK => ?_); (first | rfl | (simp [Region.wanted, yielded, *]; done)); go_simp; refine hK _ ?_; clear hK K)
            first | (refine Ord.St.fl2 (T' := ?_) 8 [9, 10, 11, 12, 13, 14, 15, 16, 17, 18, 19, 20, 21, 22, 23, 24, 25] _ _ rfl (by kernel_rfl) ?_ rfl rfl rfl (fun K w' hk => ?_) ?_; rotate_left; (first | rfl | (simp [Region.wanted, yielded, *]; done)); focus (go_step; exact hk)) | (refine Ord.St.skip 8 [9, 10, 11, 12, 13, 14, 15, 16, 17, 18, 19, 20, 21, 22, 23, 24, 25] _ rfl (by kernel_rfl) ?_ (fun K hK => ?_); (first | rfl | (simp [Region.wanted, yielded, *]; done)); go_simp; refine hK _ ?_; clear hK K)
            first | (refine Ord.St.fl2 (T' := ?_) 9 [10, 11, 12, 13, 14, 15, 16, 17, 18, 19, 20, 21, 22, 23, 24, 25] _ _ rfl (by kernel_rfl) ?_ rfl rfl rfl (fun K w' hk => ?_) ?_; rotate_left; (first | rfl | (simp [Region.wanted, yielded, *]; done)); focus (go_step; exact hk)) | (refine Ord.St.skip 9 [10, 11, 12, 13, 14, 15, 16, 17, 18, 19, 20, 21, 22, 23, 24, 25] _ rfl (by kernel_rfl) ?_ (fun K hK => ?_); (first | rfl | (simp [Region.wanted, yielded, *]; done)); go_simp; refine hK _ ?_; clear hK K)
            first | (refine Ord.St.rd2 (T' := ?_) 10 [11, 12, 13, 14, 15, 16, 17, 18, 19, 20, 21, 22, 23, 24, 25] _ _ rfl (by kernel_rfl) ?_ rfl rfl rfl (fun K hk => ?_) ?_; rotate_left; (first | rfl | (simp [Region.wanted, yielded, *]; done)); focus (go_step; exact hk)) | (refine Ord.St.skipr 10 [11, 12, 13, 14, 15, 16, 17, 18, 19, 20, 21, 22, 23, 24, 25] _ rfl (by kernel_rfl) ?_ (fun K hK => ?_); (first | rfl | (simp [Region.wanted, yielded, *]; done)); go_simp; refine hK _ ?_; clear hK K)
            first | (refine Ord.St.rd2 (T' := ?_) 11 [12, 13, 14, 15, 16, 17, 18, 19, 20, 21, 22, 23, 24, 25] _ _ rfl (by kernel_rfl) ?_ rfl rfl rfl (fun K hk => ?_) ?_; rotate_left; (first | rfl | (simp [Region.wanted, yielded, *]; done)); focus (go_step; exact hk)) | (refine Ord.St.skipr 11 [12, 13, 14, 15, 16, 17, 18, 19, 20, 21, 22, 23, 24, 25] _ rfl (by kernel_rfl) ?_ (fun K hK => ?_); (first | rfl | (simp [Region.wanted, yielded, *]; done)); go_simp; refine hK _ ?_; clear hK K)
            first | (refine Ord.St.fl2 (T' := ?_) 12 [13, 14, 15, 16, 17, 18, 19, 20, 21, 22, 23, 24, 25] _ _ rfl (by kernel_rfl) ?_ rfl rfl rfl (fun K w' hk => ?_) ?_; rotate_left; (first | rfl | (simp [Region.wanted, yielded, *]; done)); focus (go_step; exact hk)) | (refine Ord.St.skip 12 [13, 14, 15, 16, 17, 18, 19, 20, 21, 22, 23, 24, 25] _ rfl (by kernel_rfl) ?_ (fun K hK => ?_); (first | rfl | (simp [Region.wanted, yielded, *]; done)); go_simp; refine hK _ ?_; clear hK K)
            refine Ord.St.fl2 (T' := ?_) 13 [14, 15, 16, 17, 18, 19, 20, 21, 22, 23, 24, 25] _ _ rfl (by kernel_rfl) rfl rfl rfl rfl (fun K w' hk => ?_) ?_
            rotate_left
            · go_step; exact hk
            refine Ord.St.fl2 (T' := ?_) 14 [15, 16, 17, 18, 19, 20, 21, 22, 23, 24, 25] _ _ rfl (by kernel_rfl) rfl rfl rfl rfl (fun K w' hk => ?_) ?_
            rotate_left
            · go_step; exact hk
            first | (refine Ord.St.fl2 (T' := ?_) 15 [16, 17, 18, 19, 20, 21, 22, 23, 24, 25] _ _ rfl (by kernel_rfl) ?_ rfl rfl rfl (fun K w' hk => ?_) ?_; rotate_left; (first | rfl | (simp [Region.wanted, yielded, *]; done)); focus (go_step; exact hk)) | (refine Ord.St.skip 15 [16, 17, 18, 19, 20, 21, 22, 23, 24, 25] _ rfl (by kernel_rfl) ?_ (fun K hK => ?_); (first | rfl | (simp [Region.wanted, yielded, *]; done)); go_simp; refine hK _ ?_; clear hK K)
            first | (refine Ord.St.fl2 (T' := ?_) 16 [17, 18, 19, 20, 21, 22, 23, 24, 25] _ _ rfl (by kernel_rfl) ?_ rfl rfl rfl (fun K w' hk => ?_) ?_; rotate_left; (first | rfl | (simp [Region.wanted, yielded, *]; done)); focus (go_step; exact hk)) | (refine Ord.St.skip 16 [17, 18, 19, 20, 21, 22, 23, 24, 25] _ rfl (by kernel_rfl) ?_ (fun K hK => ?_); (first | rfl | (simp [Region.wanted, yielded, *]; done)); go_simp; refine hK _ ?_; clear hK K)
            first | (refine Ord.St.fl2 (T' := ?_) 17 [18, 19, 20, 21, 22, 23, 24, 25] _ _ rfl (by kernel_rfl) ?_ rfl rfl rfl (fun K w' hk => ?_) ?_; rotate_left; (first | rfl | (simp [Region.wanted, yielded, *]; done)); focus (go_step; exact hk)) | (refine Ord.St.skip 17 [18, 19, 20, 21, 22, 23, 24, 25] _ rfl (by kernel_rfl) ?_ (fun K hK => ?_); (first | rfl | (simp [Region.wanted, yielded, *]; done)); go_simp; refine hK _ ?_; clear hK K)
            first | (refine Ord.St.rd2 (T' := ?_) 18 [19, 20, 21, 22, 23, 24, 25] _ _ rfl (by kernel_rfl) ?_ rfl rfl rfl (fun K hk => ?_) ?_; rotate_left; (first | rfl | (simp [Region.wanted, yielded, *]; done)); focus (go_step; exact hk)) | (refine Ord.St.skipr 18 [19, 20, 21, 22, 23, 24, 25] _ rfl (by kernel_rfl) ?_ (fun K hK => ?_); (first | rfl | (simp [Region.wanted, yielded, *]; done)); go_simp; refine hK _ ?_; clear hK K)
            first | (refine Ord.St.rd2 (T' := ?_) 19 [20, 21, 22, 23, 24, 25] _ _ rfl (by kernel_rfl) ?_ rfl rfl rfl (fun K hk => ?_) ?_; rotate_left; (first | rfl | (simp [Region.wanted, yielded, *]; done)); focus (go_step; exact hk)) | (refine Ord.St.skipr 19 [20, 21, 22, 23, 24, 25] _ rfl (by kernel_rfl) ?_ (fun K hK => ?_); (first | rfl | (simp [Region.wanted, yielded, *]; done)); go_simp; refine hK _ ?_; clear hK K)
            first | (refine Ord.St.fl2 (T' := ?_) 20 [21, 22, 23, 24, 25] _ _ rfl (by kernel_rfl) ?_ rfl rfl rfl (fun K w' hk => ?_) ?_; rotate_left; (first | rfl | (simp [Region.wanted, yielded, *]; done)); focus (go_step; exact hk)) | (refine Ord.St.skip 20 [21, 22, 23, 24, 25] _ rfl (by kernel_rfl) ?_ (fun K hK => ?_); (first | rfl | (simp [Region.wanted, yielded, *]; done)); go_simp; refine hK _ ?_; clear hK K)
            first | (refine Ord.St.fl2 (T' := ?_) 21 [22, 23, 24, 25] _ _ rfl (by kernel_rfl) ?_ rfl rfl rfl (fun K w' hk => ?_) ?_; rotate_left; (first | rfl | (simp [Region.wanted, yielded, *]; done)); focus (go_step; exact hk)) | (refine Ord.St.skip 21 [22, 23, 24, 25] _ rfl (by kernel_rfl) ?_ (fun K hK => ?_); (first | rfl | (simp [Region.wanted, yielded, *]; done)); go_simp; refine hK _ ?_; clear hK K)
            first | (refine Ord.St.rd2 (T' := ?_) 22 [23, 24, 25] _ _ rfl (by kernel_rfl) ?_ rfl rfl rfl (fun K hk => ?_) ?_; rotate_left; (first | rfl | (simp [Region.wanted, yielded, *]; done)); focus (go_step; exact hk)) | (refine Ord.St.skipr 22 [23, 24, 25] _ rfl (by kernel_rfl) ?_ (fun K hK => ?_); (first | rfl | (simp [Region.wanted, yielded, *]; done)); go_simp; refine hK _ ?_; clear hK K)
            first | (refine Ord.St.rd2 (T' := ?_) 23 [24, 25] _ _ rfl (by kernel_rfl) ?_ rfl rfl rfl (fun K hk => ?_) ?_; rotate_left; (first | rfl | (simp [Region.wanted, yielded, *]; done)); focus (go_step; exact hk)) | (refine Ord.St.skipr 23 [24, 25] _ rfl (by kernel_rfl) ?_ (fun K hK => ?_); (first | rfl | (simp [Region.wanted, yielded, *]; done)); go_simp; refine hK _ ?_; clear hK K)
            first | (refine Ord.St.fl2 (T' := ?_) 24 [25] _ _ rfl (by kernel_rfl) ?_ rfl rfl rfl (fun K w' hk => ?_) ?_; rotate_left; (first | rfl | (simp [Region.wanted, yielded, *]; done)); focus (go_step; exact hk)) | (refine Ord.St.skip 24 [25] _ rfl (by kernel_rfl) ?_ (fun K hK => ?_); (first | rfl | (simp [Region.wanted, yielded, *]; done)); go_simp; refine hK _ ?_; clear hK K)
            refine Ord.St.fl2 (T' := ?_) 25 [] _ _ rfl (by kernel_rfl) rfl rfl rfl rfl (fun K w' hk => ?_) ?_
            rotate_left
            · go_step; exact hk
            refine Ord.St.nil ?_
            go_wp2_with fail
            go_ret
            exact ⟨by rw [HRES.out, HBAD.out (by rw [HBE.out, decide_eq_true (p := m ≠ m0) g3]; simp)]; rfl, HC.out.drew⟩
    · have hno : (ws.map WV.l).any (bad24 m0) = false := by
        rw [List.take_of_length_le (by rw [HN.out]; omega)] at hall
        rw [List.any_eq_false]
        intro l hl
        obtain ⟨x, hx, rfl⟩ := List.mem_map.1 hl
        rw [hall x hx]; simp
      have hres2 : RES = if (ws.map WV.l).any (badIn G) then 200 else 0 := by rw [HRES.out, hno]; rfl
      have HRES2 := Lib.hid hres2; clear hres2 hno hall
      have HC := Lib.hid hc; clear hc
      go_wp2_with fail
      go_loopw [6] (fun i wq => ∃ k : Nat, k ≤ n ∧ i = .int .i64 k ∧ Ch [] W0 wq ∧ ∀ x ∈ ws.take k, badIn G x.l = false) (fun i _ => n - (intOf i).toNat)
      case atStart => exact ⟨0, by omega, rfl, HC.out, by simp⟩
      case round =>
        obtain ⟨k2, hk2, rfl, hc, hall⟩ := hrel
        by_cases hlt2 : k2 < n
        · obtain ⟨x, hx⟩ : ∃ x, ws[k2]? = some x := ⟨_, List.getElem?_eq_getElem (by rw [HN.out]; exact hlt2)⟩
          have hcx := HB.out k2 x hx
          have hsz := HSZ.out x (List.mem_of_getElem? hx)
          have hslx := HSL.out x (List.mem_of_getElem? hx)
          have hsn : ws.take (k2 + 1) = ws.take k2 ++ [x] := by rw [List.take_add_one, hx]; rfl
          have hbad : badIn G x.l = true → (ws.map WV.l).any (badIn G) = true := fun e => List.any_eq_true.2 ⟨x.l, List.mem_map.2 ⟨x, List.mem_of_getElem? hx, rfl⟩, e⟩
          obtain ⟨xa, xl, xc⟩ := x
          simp only [WV.val] at hcx hsz hslx hbad
          obtain ⟨m, hm⟩ : ∃ m, xl.length = m := ⟨_, rfl⟩
          rw [hm] at hcx hsz
          have HM := Lib.hid hm; clear hm hx
          have HCX := Lib.hid hcx; clear hcx
          have HSLX := Lib.hid hslx; clear hslx
          have HALL := Lib.hid hall; clear hall
          have HSN := Lib.hid hsn; clear hsn
          have HBAD := Lib.hid hbad; clear hbad
          have HC := Lib.hid hc; clear hc
          go_wp2_with fail
          go_loopw [7] (fun i wq => ∃ j : Nat, j ≤ m ∧ i = .int .i64 j ∧ Ch [] W0 wq ∧ ∀ r ∈ xl.take j, right G.nodes r = true) (fun i _ => m - (intOf i).toNat)
          case atStart => exact ⟨0, by omega, rfl, HC.out, by simp⟩
          case round =>
            obtain ⟨j, hj, rfl, hc, hin⟩ := hrel
            have hcw := HC0.out.trans hc (by simp)
            have d0 := (hcw.cell (cell_lt HCX.out) (by simp)).trans HCX.out
            by_cases hjm : j < m
            · obtain ⟨r, hr⟩ : ∃ r, xl[j]? = some r := ⟨_, List.getElem?_eq_getElem (by rw [HM.out]; exact hjm)⟩
              obtain ⟨rb9, ro9, rfl, hcl⟩ := HSLX.out.cells j r hr
              have e0 := (hcw.cell (cell_lt hcl) (by simp)).trans hcl
              have hb2 := B2.out.ch hc (by simp)
              have y0 := hb2.cell (i := 0) rfl
              have y1 := hb2.cell (i := 1) rfl
              have hRr := rRight_is ((HR.out.ch hcw (by simp)).ch (Ch.refl [] wr).drew (by simp)) r
              have hsn2 : xl.take (j + 1) = xl.take j ++ [r] := by rw [List.take_add_one, hr]; rfl
              have hbr : right G.nodes r = false → badIn G xl = true := fun e => List.any_eq_true.2 ⟨r, List.mem_of_getElem? hr, by rw [e]; rfl⟩
              have HIN := Lib.hid hin; clear hin
              have HSN2 := Lib.hid hsn2; clear hsn2
              have HBR := Lib.hid hbr; clear hbr hr hcl hb2
              have HCC := Lib.hid hc; clear hc
              have HCW := Lib.hid hcw; clear hcw
              cases hrr : right G.nodes r
              · rw [hrr] at hRr
                have HRR := Lib.hid hRr; clear hRr
                have HQ := Lib.hid hrr; clear hrr
                go_wp2_with fail
                refine Ord.St.door (fun _ => True) [.rd, .fl, .fl, .fl, .rd, .fl, .fl, .rd, .ef, .fl] [0, 0, 0, 6, 14, 0, 62, 126, 255, 511] [0, 1, 2, 3, 4, 5, 6, 7, 8, 9] mixed (by kernel_rfl) rfl ?_
                refine Ord.St.rd2 (T' := ?_) 0 [1, 2, 3, 4, 5, 6, 7, 8, 9] _ _ rfl (by kernel_rfl) rfl rfl rfl rfl (fun K hk => ?_) ?_
                rotate_left
                · go_step; exact hk
                refine Ord.St.fl2 (T' := ?_) 1 [2, 3, 4, 5, 6, 7, 8, 9] _ _ rfl (by kernel_rfl) rfl rfl rfl rfl (fun K w' hk => ?_) ?_
                rotate_left
                · go_step; exact hk
                refine Ord.St.fl2 (T' := ?_) 2 [3, 4, 5, 6, 7, 8, 9] _ _ rfl (by kernel_rfl) rfl rfl rfl rfl (fun K w' hk => ?_) ?_
                rotate_left
                · go_step; exact hk
                refine Ord.St.fl2 (T' := ?_) 3 [4, 5, 6, 7, 8, 9] _ _ rfl (by kernel_rfl) rfl rfl rfl rfl (fun K w' hk => ?_) ?_
                rotate_left
                · go_step; exact hk
                refine Ord.St.rd2 (T' := ?_) 4 [5, 6, 7, 8, 9] _ _ rfl (by kernel_rfl) rfl rfl rfl rfl (fun K hk => ?_) ?_
                rotate_left
                · go_step; exact hk
                refine Ord.St.fl2 (T' := ?_) 5 [6, 7, 8, 9] _ _ rfl (by kernel_rfl) rfl rfl rfl rfl (fun K w' hk => ?_) ?_
                rotate_left
                · go_step; exact hk
                refine Ord.St.fl2 (T' := ?_) 6 [7, 8, 9] _ _ rfl (by kernel_rfl) rfl rfl rfl rfl (fun K w' hk => ?_) ?_
                rotate_left
                · go_step; exact hk
                refine Ord.St.rd2 (T' := ?_) 7 [8, 9] _ _ rfl (by kernel_rfl) rfl rfl rfl rfl (fun K hk => ?_) ?_
                rotate_left
                · go_step; exact hk
                refine Ord.St.ef 8 [9] _ rfl (by kernel_rfl) (fun K hK => ?_)
                go_wp2_with fail
                refine HRR.out.mono ?_
                rintro e w5 ⟨rfl, hc5⟩
                have HC5 := Lib.hid hc5; clear hc5
                go_wp2_with fail
                refine ⟨rfl, hK _ _ ?_⟩; clear hK K
                refine Ord.St.fl2 (T' := ?_) 9 [] _ _ rfl (by kernel_rfl) rfl rfl rfl rfl (fun K w' hk => ?_) ?_
                rotate_left
                · go_step; exact hk
                refine Ord.St.nil ?_
                go_wp2_with fail
                go_ret
                exact ⟨by rw [HRES2.out, HBAD.out (HBR.out HQ.out)]; rfl, HCW.out.trans ((Ch.refl [] wr).drew.trans HC5.out (by simp)) (by simp)⟩
              · rw [hrr] at hRr
                have HRR := Lib.hid hRr; clear hRr
                have HQ := Lib.hid hrr; clear hrr
                go_wp2_with fail
                refine Ord.St.door (fun _ => True) [.rd, .fl, .fl, .fl, .rd, .fl, .fl, .rd, .ef, .fl] [0, 0, 0, 6, 14, 0, 62, 126, 255, 511] [0, 1, 2, 3, 4, 5, 6, 7, 8, 9] mixed (by kernel_rfl) rfl ?_
                refine Ord.St.rd2 (T' := ?_) 0 [1, 2, 3, 4, 5, 6, 7, 8, 9] _ _ rfl (by kernel_rfl) rfl rfl rfl rfl (fun K hk => ?_) ?_
                rotate_left
                · go_step; exact hk
                refine Ord.St.fl2 (T' := ?_) 1 [2, 3, 4, 5, 6, 7, 8, 9] _ _ rfl (by kernel_rfl) rfl rfl rfl rfl (fun K w' hk => ?_) ?_
                rotate_left
                · go_step; exact hk
                refine Ord.St.fl2 (T' := ?_) 2 [3, 4, 5, 6, 7, 8, 9] _ _ rfl (by kernel_rfl) rfl rfl rfl rfl (fun K w' hk => ?_) ?_
                rotate_left
                · go_step; exact hk
                refine Ord.St.fl2 (T' := ?_) 3 [4, 5, 6, 7, 8, 9] _ _ rfl (by kernel_rfl) rfl rfl rfl rfl (fun K w' hk => ?_) ?_
                rotate_left
                · go_step; exact hk
                refine Ord.St.rd2 (T' := ?_) 4 [5, 6, 7, 8, 9] _ _ rfl (by kernel_rfl) rfl rfl rfl rfl (fun K hk => ?_) ?_
                rotate_left
                · go_step; exact hk
                refine Ord.St.fl2 (T' := ?_) 5 [6, 7, 8, 9] _ _ rfl (by kernel_rfl) rfl rfl rfl rfl (fun K w' hk => ?_) ?_
                rotate_left
                · go_step; exact hk
                refine Ord.St.fl2 (T' := ?_) 6 [7, 8, 9] _ _ rfl (by kernel_rfl) rfl rfl rfl rfl (fun K w' hk => ?_) ?_
                rotate_left
                · go_step; exact hk
                refine Ord.St.rd2 (T' := ?_) 7 [8, 9] _ _ rfl (by kernel_rfl) rfl rfl rfl rfl (fun K hk => ?_) ?_
                rotate_left
                · go_step; exact hk
                refine Ord.St.ef 8 [9] _ rfl (by kernel_rfl) (fun K hK => ?_)
                go_wp2_with fail
                refine HRR.out.mono ?_
                rintro e w5 ⟨rfl, hc5⟩
                have HC5 := Lib.hid hc5; clear hc5
                go_wp2_with fail
                refine ⟨rfl, hK _ _ ?_⟩; clear hK K
                refine Ord.St.fl2 (T' := ?_) 9 [] _ _ rfl (by kernel_rfl) rfl rfl rfl rfl (fun K w' hk => ?_) ?_
                rotate_left
                · go_step; exact hk
                refine Ord.St.nil ?_
                go_wp2_with fail
                go_roundw
                case rel => exact ⟨j + 1, by omega, by go_num, HCC.out.trans ((Ch.refl [] wr).drew.trans HC5.out (by simp)) (by simp), fun z hz => by
                  rw [HSN2.out] at hz
                  rcases List.mem_append.1 hz with hz | hz
                  · exact HIN.out z hz
                  · rw [List.mem_singleton.1 hz]; exact HQ.out⟩
                case measure => simp [intOf]; omega
            · have hno : badIn G xl = false := by
                rw [List.take_of_length_le (by rw [HM.out]; omega)] at hin
                unfold badIn
                rw [List.any_eq_false]
                intro r hr
                rw [hin r hr]; simp
              have HNO := Lib.hid hno; clear hno hin
              have HCC := Lib.hid hc; clear hc hcw
              go_wp2_with fail
              go_roundw
              case rel => exact ⟨k2 + 1, by omega, by go_num, HCC.out, fun z hz => by
                rw [HSN.out] at hz
                rcases List.mem_append.1 hz with hz | hz
                · exact HALL.out z hz
                · rw [List.mem_singleton.1 hz]; exact HNO.out⟩
              case measure => simp [intOf]; omega
        · have hno : (ws.map WV.l).any (badIn G) = false := by
            rw [List.take_of_length_le (by rw [HN.out]; omega)] at hall
            rw [List.any_eq_false]
            intro l hl
            obtain ⟨x, hx, rfl⟩ := List.mem_map.1 hl
            rw [hall x hx]; simp
          have HNO := Lib.hid hno; clear hno hall
          have HCC := Lib.hid hc; clear hc
          go_wp2_with fail
          go_ret
          exact ⟨by rw [HRES2.out, HNO.out]; rfl, HC0.out.trans HCC.out (by simp)⟩
end
end Go.Proofs.YtehljgigebhddaaGreat
namespace Go.Proofs.YtehljgigebhddaaGreat
open Go.RowKit Go.Mem Go.Aig
section
set_option maxRecDepth 100000 in
set_option maxHeartbeats 8000000 in
theorem act24_is {W w : World} {g rb cap : Nat} {G : Gra} {F : List Nat} (hbt : Both W w g rb cap G F) (kind : Nat) {xa ya : Option Addr} {X Y : List Int} (xc yc : Nat) (N : Nat) (hN : N < 4294967296) (hsx : Sl w xa X) (hsy : Sl w ya Y)
    (hxb : ∀ z ∈ X, -9223372036854775808 ≤ z ∧ z ≤ 9223372036854775807) (hyb : ∀ z ∈ Y, -9223372036854775808 ≤ z ∧ z ≤ 9223372036854775807) (hxf : X.length ≤ 1000) (hyf : Y.length ≤ 1000)
    (hxo : 0 < X.length → ∀ p, xa = some p → p.block < W.heap.size) (hyo : 0 < Y.length → ∀ p, ya = some p → p.block < W.heap.size) :
    Calls Tryz.prog 108 #[.pointer (some ⟨g, 0, none⟩), .agg #[.int .i64 G.most, .slice (some ⟨rb, 0, none⟩) G.nodes.length cap], .agg #[.int .u8 kind, .slice xa X.length xc, .slice ya Y.length yc, .int .u32 N]] w (ATo W w g rb F) := by
  obtain ⟨K, hK⟩ : ∃ K, kind % 6 = K := ⟨_, rfl⟩
  have hK5 : K ≤ 5 := by omega
  have hKi : (kind : Int) % 6 = K := by omega
  have hFw : ∀ q ∈ F, q < w.heap.size := hbt.gin.lt
  have hWw := hbt.ch.size
  have hrbw := hbt.rg.lt
  have HSX := Lib.hid hsx; clear hsx
  have HSY := Lib.hid hsy; clear hsy
  have HXB := Lib.hid hxb; clear hxb
  have HYB := Lib.hid hyb; clear hyb
  have HBT0 := Lib.hid hbt
  have HBT := Lib.hid hbt; clear hbt
  have HXO := Lib.hid hxo; clear hxo
  have HYO := Lib.hid hyo; clear hyo
  have HFW := Lib.hid hFw; clear hFw
  have HKI := Lib.hid hKi; clear hKi
  go_enter Tryz.func108, Tryz.ntmps108
  go_upto_region 1 with fail
  refine wp_alw ?_
  intro W1 hW1
  have hb4 : blk W1 w.heap.size [.int .i64 G.most, .slice (some ⟨rb, 0, none⟩) G.nodes.length cap] := by rw [hW1]; exact ((blk.new' _ _ rfl).alloc _).alloc _
  have hb5 : blk W1 (w.heap.size + 1) [.int .u8 kind, .slice xa X.length xc, .slice ya Y.length yc, .int .u32 N] := by rw [hW1]; exact (blk.new' _ _ (by simp)).alloc _
  have hb6 : blk W1 (w.heap.size + 2) [.int .i64 0, .slice none 0 0] := by rw [hW1]; exact blk.new' _ _ (by simp)
  have hc01 : Ch [] w W1 := by rw [hW1]; exact (((Ch.refl _ _).alloc _).alloc _).alloc _
  clear hW1
  have hbt := HBT.out.same hc01
  have hsx := HSX.out.ch hc01 (by simp)
  have hsy := HSY.out.ch hc01 (by simp)
  clear HBT HSX HSY
  have y1 := hb5.cell (i := 1) rfl
  have hh0 : Hold (W : Base) W1.drew g G F [] := (Hold.start ⟨hbt.gin, hbt.own, hbt.ch⟩).same (Ch.refl [] W1).drew
  have hR1 := Refs23_is (w := W1.drew) X.length xc rfl (hsx.ch (Ch.refl [] W1).drew (by simp)) (by omega)
  have HR1 := Lib.hid hR1; clear hR1
  have HH0 := Lib.hid hh0; clear hh0
  have HSX := Lib.hid hsx; clear hsx
  have HSY := Lib.hid hsy; clear hsy
  have HBT := Lib.hid hbt; clear hbt
  have B4 := Lib.hid hb4; clear hb4
  have B5 := Lib.hid hb5; clear hb5
  have B6 := Lib.hid hb6; clear hb6
  have HC01 := Lib.hid hc01; clear hc01
  have hcur : Ch [] W1 W1.drew := (Ch.refl [] W1).drew
  refine Ord.St.door (fun w' => Ch [] W1 w') [.fl, .rd, .ef, .fl, .ho, .ef, .fl, .fl] [0, 1, 3, 0, 8, 31, 63, 127] [0, 1, 2, 3, 4, 5, 6, 7] mixed (by kernel_rfl) rfl ?_
  refine Ord.St.fl2 (T' := ?_) 0 [1, 2, 3, 4, 5, 6, 7] _ _ rfl (by kernel_rfl) rfl rfl rfl rfl (fun K w' hk => ?_) ?_
  rotate_left
  · go_step; exact hk
  refine Ord.St.rd2 (T' := ?_) 1 [2, 3, 4, 5, 6, 7] _ _ rfl (by kernel_rfl) rfl rfl rfl rfl (fun K hk => ?_) ?_
  rotate_left
  · go_step; exact hk
  refine Ord.St.fl2 (T' := ?_) 3 [2, 4, 5, 6, 7] _ _ rfl (by kernel_rfl) rfl rfl rfl rfl (fun K w' hk => ?_) ?_
  rotate_left
  · go_step; exact hk
  refine Ord.St.ho2 (T' := ?_) 4 [2, 5, 6, 7] _ _ rfl (by kernel_rfl) rfl rfl rfl rfl ?_ (fun K w' hw' hk => ?_) ?_
  rotate_left
  · trivial
  · have z2 := (B5.out.ch hw' (by simp)).cell (i := 2) rfl; go_step; exact hk
  refine Ord.St.efC 2 [5, 6, 7] _ rfl (by kernel_rfl) (fun K hK => ?_)
  go_wp2_with fail
  refine HR1.out.mono ?_
  rintro e w2 ⟨v, rfl, hro, hlo, hc2⟩
  have hcur : Ch [] W1 w2 := (Ch.refl [] W1).drew.trans hc2 (by simp)
  obtain ⟨pa, pc, rfl, hh⟩ := HH0.out.new (l := X) ⟨by rw [show (intCells X).length = X.length from by simp [intCells]]; exact hro, hlo, hc2⟩ HXB.out (by omega)
  have hplo : ∀ q, (Value.slice pa X.length pc).ownBlock = some q → W1.heap.size ≤ q := fun q hq => by have := hlo q (by simpa using hq); simpa using this
  have HPLO := Lib.hid hplo; clear hplo
  have hR2 := Refs23_is (w := w2) Y.length yc rfl (HSY.out.ch hcur (by simp)) (by omega)
  have HR2 := Lib.hid hR2; clear hR2
  have HH1 := Lib.hid hh; clear hh HH0 HR1 hro hlo hc2 y1
  go_wp2_with fail
  refine ⟨rfl, hK _ _ ?_ ?_⟩
  · exact hcur
  clear hK K
  refine Ord.St.ef 5 [6, 7] _ rfl (by kernel_rfl) (fun K hK => ?_)
  go_wp2_with fail
  refine HR2.out.mono ?_
  rintro e w3 ⟨v, rfl, hro, hlo, hc3⟩
  have hcur3 : Ch [] W1 w3 := hcur.trans hc3 (by simp)
  obtain ⟨qa, qc, rfl, hh⟩ := HH1.out.new (l := Y) ⟨by rw [show (intCells Y).length = Y.length from by simp [intCells]]; exact hro, hlo, hc3⟩ HYB.out (by omega)
  have hqlo : ∀ q, (Value.slice qa Y.length qc).ownBlock = some q → W1.heap.size ≤ q := fun q hq => by have := hlo q (by simpa using hq); have := hcur.size; omega
  have HQLO := Lib.hid hqlo; clear hqlo
  have HH := Lib.hid hh; clear hh HH1 HR2 hro hlo hc3 hcur
  go_wp2_with fail
  refine ⟨rfl, hK _ _ ?_⟩; clear hK K
  refine Ord.St.fl2 (T' := ?_) 6 [7] _ _ rfl (by kernel_rfl) rfl rfl rfl rfl (fun K w' hk => ?_) ?_
  rotate_left
  · go_step; exact hk
  refine Ord.St.fl2 (T' := ?_) 7 [] _ _ rfl (by kernel_rfl) rfl rfl rfl rfl (fun K w' hk => ?_) ?_
  rotate_left
  · go_step; exact hk
  refine Ord.St.nil ?_
  have hP := HH.out.at (a := pa) (c := pc) (n := X.length) (l := X) (by simp) rfl
  have hQ := HH.out.at (a := qa) (c := qc) (n := Y.length) (l := Y) (by simp) rfl
  have hhp := HH.out.held (.slice pa X.length pc, X) (by simp)
  have hhq := HH.out.held (.slice qa Y.length qc, Y) (by simp)
  have hpcap := (row_cap hhp.row).1
  have hPr := program24_is HH.out.own.gin hP hQ hpcap kind xa X.length xc ya Y.length yc N hN
  rw [hK] at hPr
  simp only [WV.val] at hPr
  have hlen := P24_len (k := K) HH.out.own.gin.ok (X := X) (Y := Y) (N := N)
  have hf := f24_small K G X Y
  have hPE : P24 K G X Y N = if f24 K G X Y ≠ 0 then (G, [], [], f24 K G X Y) else fin24 G (RF24 K G (nats X) (nats Y) N) := rfl
  have hRef := fun (w9 : World) (rb9 cap9 : Nat) (hr : RG w9 rb9 cap9 G) (hx9 : Sl w9 xa X) (hy9 : Sl w9 ya Y) (h0 : f24 K G X Y = 0) => reference24_is hr kind xa X.length xc ya Y.length yc N hN rfl rfl hx9 hy9 (by rw [hK]; exact h0)
  rw [hK] at hRef
  obtain ⟨⟨G1, l1, m1, e1⟩, hPeq⟩ : ∃ B, B = P24 K G X Y N := ⟨_, rfl⟩
  rw [← hPeq] at hPr hlen hPE
  obtain ⟨fv, hfv⟩ : ∃ fv, fv = f24 K G X Y := ⟨_, rfl⟩
  rw [← hfv] at hPE hf hRef
  simp only at hlen
  obtain ⟨hlen, hlenm⟩ := hlen
  clear hPeq hpcap
  have hrp := hhp.row
  have hrq := hhq.row
  have hpF : ∀ q, (Value.slice pa X.length pc).ownBlock = some q → q ∉ F := fun q hq => (hhp.own q hq).2
  have hqF : ∀ q, (Value.slice qa Y.length qc).ownBlock = some q → q ∉ F := fun q hq => (hhq.own q hq).2
  have hphi : ∀ q, (Value.slice pa X.length pc).ownBlock = some q → q < w3.heap.size := fun q hq => (hrp.lt q hq).2
  have hqhi : ∀ q, (Value.slice qa Y.length qc).ownBlock = some q → q < w3.heap.size := fun q hq => (hrq.lt q hq).2
  have hbt3 := HBT.out.same hcur3
  have hb4 := B4.out.ch hcur3 (by simp)
  have hb5 := B5.out.ch hcur3 (by simp)
  have hb6 := B6.out.ch hcur3 (by simp)
  have hsx := HSX.out.ch hcur3 (by simp)
  have hsy := HSY.out.ch hcur3 (by simp)
  have hc03 := HC01.out.trans hcur3 (by simp)
  have hz31 := hcur3.size
  have h61 := B6.out.lt
  clear B4 B5 B6 HBT HSX HSY HC01 HH hP hQ hhp hhq hcur3
  have x0 := hb5.cell (i := 0) rfl
  have x1 := hb5.cell (i := 1) rfl
  have x2 := hb5.cell (i := 2) rfl
  have x3 := hb5.cell (i := 3) rfl
  have B4 := Lib.hid hb4; clear hb4
  have B5 := Lib.hid hb5; clear hb5
  have B6 := Lib.hid hb6; clear hb6
  have HSX := Lib.hid hsx; clear hsx
  have HSY := Lib.hid hsy; clear hsy
  have HBT := Lib.hid hbt3; clear hbt3
  have HC03 := Lib.hid hc03; clear hc03
  have HRP := Lib.hid hrp; clear hrp
  have HRQ := Lib.hid hrq; clear hrq
  have HPF := Lib.hid hpF; clear hpF
  have HQF := Lib.hid hqF; clear hqF
  have HPHI := Lib.hid hphi; clear hphi
  have HQHI := Lib.hid hqhi; clear hqhi
  have HPR := Lib.hid hPr; clear hPr
  have HPE := Lib.hid hPE; clear hPE
  have HFV := Lib.hid hfv; clear hfv
  have HREF := Lib.hid hRef; clear hRef
  have HLM := Lib.hid hlenm; clear hlenm
  have HKK := Lib.hid hK; clear hK
  go_wp2_with fail
  refine HPR.out.mono ?_
  rintro e w4 ⟨v, u, rfl, F', hg', hc', hF', hF2, hrv, hru, hov, hou⟩
  obtain ⟨va, vc, rfl⟩ := row.shape hrv
  obtain ⟨ua, uc, rfl⟩ := row.shape hru
  have hc' : Ch F w3 w4 := hc'
  simp only at hg' hrv hru hov hou
  have hFlo : ∀ q ∈ F, W.heap.size ≤ q := HBT.out.own
  have hrg := HBT.out.rg.ch hc' HBT.out.ap
  have hsx := HSX.out.ch2 hc' (fun h0 p hp hin => by have := HXO.out h0 p hp; have := hFlo _ hin; omega)
  have hsy := HSY.out.ch2 hc' (fun h0 p hp hin => by have := HYO.out h0 p hp; have := hFlo _ hin; omega)
  have hb4 := B4.out.ch hc' (fun hin => by have := HFW.out _ hin; omega)
  have hb5 := B5.out.ch hc' (fun hin => by have := HFW.out _ hin; omega)
  have hb6 := B6.out.ch hc' (fun hin => by have := HFW.out _ hin; omega)
  have hrp := HRP.out.ch hc' HPF.out
  have hrq := HRQ.out.ch hc' HQF.out
  have hz34 := hc'.size
  have hzw3 := HC03.out.size
  have hc04 : Ch F w w4 := (HC03.out.mono (by simp)).trans hc' (fun q hq => .inl hq)
  have hFn : ∀ q ∈ F', q ∈ F ∨ w3.heap.size ≤ q := hF'
  have hF4 : ∀ q ∈ F', q < w4.heap.size := hg'.lt
  have hap : rb ∉ F' := fun hin => by rcases hFn _ hin with e | e; exact HBT.out.ap e; omega
  have hvp : ∀ q, (Value.slice va l1.length vc).ownBlock = some q → w3.heap.size ≤ q ∧ q < w4.heap.size ∧ q ∉ F' := fun q hq => ⟨(hov q hq).1, (hrv.lt q hq).2, (hov q hq).2.1⟩
  have hup : ∀ q, (Value.slice ua m1.length uc).ownBlock = some q → w3.heap.size ≤ q ∧ q < w4.heap.size ∧ (Value.slice va l1.length vc).ownBlock ≠ some q := fun q hq => ⟨(hou q hq).1, (hru.lt q hq).2, fun e => (hov q e).2.2 hq⟩
  have hrlo := HBT.out.rlo
  clear x0 x1 x2 x3
  have x0 := hb5.cell (i := 0) rfl
  have x1 := hb5.cell (i := 1) rfl
  have x2 := hb5.cell (i := 2) rfl
  clear B4 B5 B6 HSX HSY HBT HRP HRQ HPF HQF HPR hov hou hF' hF2 hc' hFlo
  have HG := Lib.hid hg'; clear hg'
  have HRG := Lib.hid hrg; clear hrg
  have B4 := Lib.hid hb4; clear hb4
  have B5 := Lib.hid hb5; clear hb5
  have B6 := Lib.hid hb6; clear hb6
  have HSX := Lib.hid hsx; clear hsx
  have HSY := Lib.hid hsy; clear hsy
  have HRP := Lib.hid hrp; clear hrp
  have HRQ := Lib.hid hrq; clear hrq
  have HRV := Lib.hid hrv; clear hrv
  have HRU := Lib.hid hru; clear hru
  have HVP := Lib.hid hvp; clear hvp
  have HUP := Lib.hid hup; clear hup
  have HC04 := Lib.hid hc04; clear hc04
  have HFN := Lib.hid hFn; clear hFn
  have HF4 := Lib.hid hF4; clear hF4
  go_upto_region 4 with fail
  refine wp_alw ?_
  intro W5 hW5
  have hb7 : blk W5 w4.heap.size [.slice xa X.length xc, .slice ya Y.length yc] := by rw [hW5]; exact blk.new' _ _ rfl
  have hc45 : Ch [] w4 W5 := by rw [hW5]; exact (Ch.refl _ _).alloc _
  have hb5 := B5.out.ch hc45 (by simp)
  clear hW5 x0 x1 x2
  have x0 := hb5.cell (i := 0) rfl
  have B7 := Lib.hid hb7; clear hb7 hb5
  have HC45 := Lib.hid hc45; clear hc45
  obtain ⟨one, hone⟩ : ∃ one : Bool, one = decide (3 < (kind : Int) % 6) := ⟨_, rfl⟩
  obtain ⟨nw, hnw⟩ : ∃ nw : Nat, nw = if one then 1 else 2 := ⟨_, rfl⟩
  have HNW := Lib.hid hnw; clear hnw
  go_upto_if 42 with fail
  rw [← hone]
  have HONE := Lib.hid hone; clear hone x0
  go_cut [13] (fun ws wd => wd = W5 ∧ ws = .slice (some ⟨w4.heap.size, 0, none⟩) nw 2)
  case first =>
    cases one
    · go_wp2_with fail
      go_meet
      case rel => exact ⟨rfl, by rw [HNW.out]; rfl⟩
    · go_wp2_with fail
      go_meet
      case rel => exact ⟨rfl, by rw [HNW.out]; rfl⟩
  case rest =>
    obtain ⟨hwd, rfl⟩ := hcut
    have hwd := hwd.symm
    subst hwd
    have hrg5 := HRG.out.ch HC45.out (by simp)
    have hsx5 := HSX.out.ch HC45.out (by simp)
    have hsy5 := HSY.out.ch HC45.out (by simp)
    have hC : Calls Tryz.prog 218 #[.agg #[.int .i64 G.most, .slice (some ⟨rb, 0, none⟩) G.nodes.length cap], .slice (some ⟨w4.heap.size, 0, none⟩) nw 2] W5 fun e w' => e = .returned (.int .i64 fv) ∧ Ch [] W5 w' := by
      have hd0 := B7.out.cell (i := 0) rfl
      have hd1 := B7.out.cell (i := 1) rfl
      have ho := HONE.out
      have hki := HKI.out
      have hfe : fv = chk24 G (if 3 < K then [X] else [X, Y]) := HFV.out
      by_cases h3 : 3 < K
      · have e1 : one = true := by rw [ho]; exact decide_eq_true (by omega)
        have e2 : nw = 1 := by rw [HNW.out, e1]; rfl
        rw [if_pos h3] at hfe
        rw [e2, hfe]
        exact r24Check_is hrg5 (b := w4.heap.size) (n := 1) (cap := 2) (ws := [⟨xa, X, xc⟩]) rfl (by omega) (by omega) (fun i x hx => by
          match i, hx with
          | 0, hx => cases hx; exact hd0) (fun x hx => by
          simp only [List.mem_cons, List.not_mem_nil, or_false] at hx
          subst hx; exact hsx5) (fun x hx => by
          simp only [List.mem_cons, List.not_mem_nil, or_false] at hx
          subst hx; (show X.length ≤ 1000000; omega))
      · have e1 : one = false := by rw [ho]; exact decide_eq_false (by omega)
        have e2 : nw = 2 := by rw [HNW.out, e1]; rfl
        rw [if_neg h3] at hfe
        rw [e2, hfe]
        exact r24Check_is hrg5 (b := w4.heap.size) (n := 2) (cap := 2) (ws := [⟨xa, X, xc⟩, ⟨ya, Y, yc⟩]) rfl (by omega) (by omega) (fun i x hx => by
          match i, hx with
          | 0, hx => cases hx; exact hd0
          | 1, hx => cases hx; exact hd1) (fun x hx => by
          simp only [List.mem_cons, List.not_mem_nil, or_false] at hx
          rcases hx with rfl | rfl; exact hsx5; exact hsy5) (fun x hx => by
          simp only [List.mem_cons, List.not_mem_nil, or_false] at hx
          rcases hx with rfl | rfl; (show X.length ≤ 1000000; omega); (show Y.length ≤ 1000000; omega))
    have hb4 := B4.out.ch HC45.out (by simp)
    have x0 := hb4.cell (i := 0) rfl
    have x1 := hb4.cell (i := 1) rfl
    have HC := Lib.hid hC; clear hC hrg5 hsx5 hsy5 hb4
    go_wp2_with fail
    refine HC.out.mono ?_
    rintro e wc ⟨rfl, hcd⟩
    have hc4c := HC45.out.trans hcd (by simp)
    have hg := HG.out.same hc4c (by simp)
    have hrg := HRG.out.ch hc4c (by simp)
    have hb4 := B4.out.ch hc4c (by simp)
    have hb5 := B5.out.ch hc4c (by simp)
    have hb6 := B6.out.ch hc4c (by simp)
    have hsx := HSX.out.ch hc4c (by simp)
    have hsy := HSY.out.ch hc4c (by simp)
    have hrp := HRP.out.ch hc4c (by simp)
    have hrq := HRQ.out.ch hc4c (by simp)
    have hrv := HRV.out.ch hc4c (by simp)
    have hru := HRU.out.ch hc4c (by simp)
    have hc0c := HC04.out.trans hc4c (by simp)
    have hz4c := hc4c.size
    have h6lt := B6.out.lt
    have h4F : w.heap.size ∉ F' := fun hin => by rcases HFN.out _ hin with e | e; (have := HFW.out _ e; omega); omega
    have h6F : w.heap.size + 2 ∉ F' := fun hin => by rcases HFN.out _ hin with e | e; (have := HFW.out _ e; omega); omega
    clear HG HRG B4 B5 B6 HSX HSY HRP HRQ HRV HRU HC04 hcd hc4c HC45 B7 HC x0 x1 HONE HNW HKK
    have HG := Lib.hid hg; clear hg
    have HRG := Lib.hid hrg; clear hrg
    have B4 := Lib.hid hb4; clear hb4
    have B5 := Lib.hid hb5; clear hb5
    have B6 := Lib.hid hb6; clear hb6
    have HSX := Lib.hid hsx; clear hsx
    have HSY := Lib.hid hsy; clear hsy
    have HRP := Lib.hid hrp; clear hrp
    have HRQ := Lib.hid hrq; clear hrq
    have HRV := Lib.hid hrv; clear hrv
    have HRU := Lib.hid hru; clear hru
    have HC0 := Lib.hid hc0c; clear hc0c
    by_cases hfz : fv = 0
    · have h9 := HPE.out
      rw [if_neg (by omega)] at h9
      subst hfz
      have hR := HREF.out wc rb cap HRG.out HSX.out HSY.out rfl
      obtain ⟨R, hRR⟩ : ∃ R, R = RF24 K G (nats X) (nats Y) N := ⟨_, rfl⟩
      rw [← hRR] at hR h9
      obtain ⟨⟨G2, q2⟩, l2, m2⟩ := R
      have HR := Lib.hid hR; clear hR hRR
      have H9 := Lib.hid h9; clear h9
      have hq4 := B4.out
      have y0 := hq4.cell (i := 0) rfl
      have y1 := hq4.cell (i := 1) rfl
      have hq5 := B5.out
      have z0 := hq5.cell (i := 0) rfl
      have z1 := hq5.cell (i := 1) rfl
      have z2 := hq5.cell (i := 2) rfl
      have z3 := hq5.cell (i := 3) rfl
      have hwc := B6.out.lt
      clear hq4 hq5 HREF
      go_wp2_with fail
      refine HR.out.mono ?_
      rintro e w5 ⟨rb2, cap2, a2, c2, a3, c3, rfl, hrg2, hch, hfr, hs1, hs2, ho1, ho2⟩
      simp only at hrg2 hs1 hs2
      have HRG2 := Lib.hid hrg2; clear hrg2
      have HCH := Lib.hid hch; clear hch
      have HS1 := Lib.hid hs1; clear hs1
      have HS2 := Lib.hid hs2; clear hs2
      have HO1 := Lib.hid ho1; clear ho1
      have HO2 := Lib.hid ho2; clear ho2
      clear y0 y1 z0 z1 z2 z3
      go_upto_region 10 with fail
      refine wp_alw ?_
      intro W6 hW6
      have hb16 : blk W6 w5.heap.size [.int .i64 G2.most, .slice (some ⟨rb2, 0, none⟩) G2.nodes.length cap2, .int .i64 q2] := by rw [hW6]; exact blk.new' _ _ rfl
      have hcA : Ch [] w5 W6 := by rw [hW6]; exact (Ch.refl _ _).alloc _
      clear hW6
      have hcc6 := HCH.out.trans hcA (by simp)
      have hg := HG.out.same hcc6 (by simp)
      have hrg := HRG.out.ch hcc6 (by simp)
      have hrg2 := HRG2.out.ch hcA (by simp)
      have hs1 := HS1.out.ch hcA (by simp)
      have hs2 := HS2.out.ch hcA (by simp)
      have hb4 := B4.out.ch hcc6 (by simp)
      have hb5 := B5.out.ch hcc6 (by simp)
      have hb6 := B6.out.ch hcc6 (by simp)
      have hsx := HSX.out.ch hcc6 (by simp)
      have hsy := HSY.out.ch hcc6 (by simp)
      have hrp := HRP.out.ch hcc6 (by simp)
      have hrq := HRQ.out.ch hcc6 (by simp)
      have hrv := HRV.out.ch hcc6 (by simp)
      have hru := HRU.out.ch hcc6 (by simp)
      have hc0 := HC0.out.trans hcc6 (by simp)
      have hzc6 := HCH.out.size
      have x2 := hb16.cell (i := 2) rfl
      have hap2 : rb2 ∉ F' := fun hin => by rcases hfr with e | e; (rw [e] at hin; exact hap hin); (have := HF4.out _ hin; omega)
      have hfr2 : rb2 = rb ∨ w.heap.size ≤ rb2 := by rcases hfr with e | e; exact .inl e; (right; omega)
      have h62 : rb2 ≠ w.heap.size + 2 := by rcases hfr with e | e <;> omega
      clear HG HRG HRG2 HS1 HS2 B4 B5 B6 HSX HSY HRP HRQ HRV HRU HC0 hcA hcc6 HCH HR
      have HG := Lib.hid hg; clear hg
      have HRG := Lib.hid hrg; clear hrg
      have HRG2 := Lib.hid hrg2; clear hrg2
      have HS1 := Lib.hid hs1; clear hs1
      have HS2 := Lib.hid hs2; clear hs2
      have B4 := Lib.hid hb4; clear hb4
      have B5 := Lib.hid hb5; clear hb5
      have B6 := Lib.hid hb6; clear hb6
      have B16 := Lib.hid hb16; clear hb16
      have HSX := Lib.hid hsx; clear hsx
      have HSY := Lib.hid hsy; clear hsy
      have HRP := Lib.hid hrp; clear hrp
      have HRQ := Lib.hid hrq; clear hrq
      have HRV := Lib.hid hrv; clear hrv
      have HRU := Lib.hid hru; clear hru
      have HC0 := Lib.hid hc0; clear hc0
      by_cases hq : q2 = 0
      · have h9 := H9.out
        unfold fin24 at h9
        rw [if_neg (by simp [hq])] at h9
        simp only [Prod.mk.injEq] at h9
        obtain ⟨a1, a2', a3', a4⟩ := h9
        subst a1 a2' a3' a4
        subst hq
        clear H9
        have hrvi := HRV.out
        rw [refs_natInts] at hrvi
        have hslv := Sl.of_ints hrvi (by omega)
        have hI := Ints23_is (w := W6) (a := va) (l := natInts l1) l1.length vc (natInts_len' _) hslv (by omega)
        have HI := Lib.hid hI; clear hI hslv hrvi
        go_wp2_with fail
        refine HI.out.mono ?_
        rintro e w7 ⟨v, rfl, hri, _, hc7⟩
        obtain ⟨ia, ic, rfl⟩ := row.shape hri
        have hE := Eqint_same (w := w7) ic c2 (natInts_len' l1) (Sl.of_ints hri (by omega)) (HS1.out.ch hc7 (by simp))
        have HE := Lib.hid hE; clear hE hri
        have HC7 := Lib.hid hc7; clear hc7 HI
        clear x2
        go_wp2_with fail
        refine HE.out.mono ?_
        rintro e w8 ⟨rfl, hc8⟩
        have hc68 := HC7.out.trans hc8 (by simp)
        have hrvu := HRU.out.ch hc68 (by simp)
        rw [refs_natInts] at hrvu
        have hm16 := HLM.out
        have hslv := Sl.of_ints hrvu (by omega)
        have hI := Ints23_is (w := w8) (a := ua) (l := natInts m1) m1.length uc (natInts_len' _) hslv (by omega)
        have HI := Lib.hid hI; clear hI hslv hrvu
        have HC68 := Lib.hid hc68; clear hc68 hc8 HC7 HE
        go_wp2_with fail
        refine HI.out.mono ?_
        rintro e wa ⟨v, rfl, hri, _, hc7⟩
        have hc6a := HC68.out.trans hc7 (by simp)
        obtain ⟨ja, jc, rfl⟩ := row.shape hri
        have hE := Eqint_same (w := wa) jc c3 (natInts_len' m1) (Sl.of_ints hri (by omega)) (HS2.out.ch hc6a (by simp))
        have HE := Lib.hid hE; clear hE hri
        have HC6A := Lib.hid hc6a; clear hc6a hc7 HI HC68
        go_wp2_with fail
        refine HE.out.mono ?_
        rintro e wg ⟨rfl, hcg⟩
        have hc6g := HC6A.out.trans hcg (by simp)
        have hrvg := HRV.out.ch hc6g (by simp)
        have HRVG := Lib.hid hrvg; clear hrvg
        have HCG := Lib.hid hc6g; clear hc6g hcg HC6A HE
        go_wp2_with fail
        go_loopw [115] (fun i wq => ∃ j : Nat, j ≤ l1.length ∧ i = .int .i64 j ∧ Ch (Value.slice va l1.length vc).ownBlock.toList wg wq ∧ ShqB wg wq) (fun i _ => l1.length - (intOf i).toNat)
        case atStart => exact ⟨0, by omega, rfl, Ch.refl _ _, ShqB.refl _⟩
        case round =>
          obtain ⟨j, hj, rfl, hcv, hsh⟩ := hrel
          by_cases hjn : j < l1.length
          · obtain ⟨b, old, rfl, hcl, hfz⟩ := hsh.cell HRVG.out hjn
            have HCV := Lib.hid hcv; clear hcv
            have HSH := Lib.hid hsh; clear hsh
            go_wp2_with fail
            go_roundw
            case rel => exact ⟨j + 1, by omega, by go_num, HCV.out.setCell (.inl (by simp)) _, HSH.out.set _ _ _⟩
            case measure => simp [intOf]; omega
          · have hvq : ∀ q ∈ (Value.slice va l1.length vc).ownBlock.toList, w3.heap.size ≤ q ∧ q < w4.heap.size ∧ q ∉ F' := fun q hq => HVP.out q (by simpa using hq)
            have hc6r : Ch (Value.slice va l1.length vc).ownBlock.toList W6 wr := (HCG.out.mono (by simp)).trans hcv (fun q hq => .inl hq)
            have hzr := hc6r.size
            have h6l := B6.out.lt
            have hg := HG.out.same hc6r (fun q hq hq2 => (hvq q hq2).2.2 hq)
            have hrg2 := HRG2.out.ch hc6r (fun hin => by have := hvq _ hin; rcases hfr with e | e <;> omega)
            have hrp := HRP.out.ch hc6r (fun q hq hq2 => by have := hvq _ hq2; have := HPHI.out q hq; omega)
            have hrq := HRQ.out.ch hc6r (fun q hq hq2 => by have := hvq _ hq2; have := HQHI.out q hq; omega)
            have hru := HRU.out.ch hc6r (fun q hq hq2 => (HUP.out q hq).2.2 (by simpa using hq2))
            have hs2 := HS2.out.ch hc6r (fun p hp hq2 => by have := hvq _ hq2; have := HO2.out p hp; omega)
            have hsx := HSX.out.ch2 hc6r (fun h0 p hp hq2 => by have := hvq _ hq2; have := HXO.out h0 p hp; omega)
            have hsy := HSY.out.ch2 hc6r (fun h0 p hp hq2 => by have := hvq _ hq2; have := HYO.out h0 p hp; omega)
            have hb5 := B5.out.ch hc6r (fun hin => by have := hvq _ hin; omega)
            have hb6 := B6.out.ch hc6r (fun hin => by have := hvq _ hin; omega)
            have hb16 := B16.out.ch hc6r (fun hin => by have := hvq _ hin; omega)
            have hc0 := HC0.out.trans hc6r (fun q hq => .inr (by have := hvq q hq; omega))
            have hrvu := hru
            rw [refs_natInts] at hrvu
            have hI := Ints23_is (w := wr) (a := ua) (l := natInts m1) m1.length uc (natInts_len' _) (Sl.of_ints hrvu (by omega)) (by omega)
            have HI := Lib.hid hI; clear hI hrvu
            clear HG HRG HRG2 HRP HRQ HRU HSX HSY B5 B6 B16 HC0 hcv hsh hc6r hvq HRVG HCG B4 HRV HS1 HS2 hru
            have HG := Lib.hid hg; clear hg
            have HRG2 := Lib.hid hrg2; clear hrg2
            have HRP := Lib.hid hrp; clear hrp
            have HRQ := Lib.hid hrq; clear hrq
            have HS2 := Lib.hid hs2; clear hs2
            have HSX := Lib.hid hsx; clear hsx
            have HSY := Lib.hid hsy; clear hsy
            have B5 := Lib.hid hb5; clear hb5
            have B6 := Lib.hid hb6; clear hb6
            have B16 := Lib.hid hb16; clear hb16
            have HC0 := Lib.hid hc0; clear hc0
            go_wp2_with fail
            refine HI.out.mono ?_
            rintro e w8 ⟨v, rfl, hri, _, hc8⟩
            obtain ⟨ia, ic, rfl⟩ := row.shape hri
            have hE := Eqint_same (w := w8) ic c3 (natInts_len' m1) (Sl.of_ints hri (by omega)) (HS2.out.ch hc8 (by simp))
            have HE := Lib.hid hE; clear hE hri
            have HC8 := Lib.hid hc8; clear hc8 HI
            go_wp2_with fail
            refine HE.out.mono ?_
            rintro e wa ⟨rfl, hca⟩
            have hc6a := HC8.out.trans hca (by simp)
            have z1 := (B5.out.ch hc6a (by simp)).cell (i := 1) rfl
            have hR1 := Refs23_is (w := wa) X.length xc rfl (HSX.out.ch hc6a (by simp)) (by omega)
            have HR1 := Lib.hid hR1; clear hR1
            have HC68 := Lib.hid hc6a; clear hc6a hca HC8 HE
            go_wp2_with fail
            refine HR1.out.mono ?_
            rintro e wd ⟨v, rfl, hr1, _, hcd⟩
            obtain ⟨ma, mc, rfl⟩ := row.shape hr1
            have hcd6 := HC68.out.trans hcd (by simp)
            have hE := Eqref_same (w := wd) pc mc rfl (Sl.of_ints (HRP.out.ch hcd6 (by simp)) (by omega)) (Sl.of_ints hr1 (by omega))
            have HE := Lib.hid hE; clear hE hr1 z1
            have HCD := Lib.hid hcd6; clear hcd6 hcd HR1 HC68
            go_wp2_with fail
            refine HE.out.mono ?_
            rintro e we ⟨rfl, hce⟩
            have hcde := HCD.out.trans hce (by simp)
            have z2 := (B5.out.ch hcde (by simp)).cell (i := 2) rfl
            have hR2 := Refs23_is (w := we) Y.length yc rfl (HSY.out.ch hcde (by simp)) (by omega)
            have HR2 := Lib.hid hR2; clear hR2
            have HCDE := Lib.hid hcde; clear hcde hce HCD HE
            go_wp2_with fail
            refine HR2.out.mono ?_
            rintro e wf ⟨v, rfl, hr1, _, hcf⟩
            obtain ⟨na, nc, rfl⟩ := row.shape hr1
            have hcf6 := HCDE.out.trans hcf (by simp)
            have hE := Eqref_same (w := wf) qc nc rfl (Sl.of_ints (HRQ.out.ch hcf6 (by simp)) (by omega)) (Sl.of_ints hr1 (by omega))
            have HE := Lib.hid hE; clear hE hr1 z2
            have HCF := Lib.hid hcf6; clear hcf6 hcf HR2 HCDE
            go_wp2_with fail
            refine HE.out.mono ?_
            rintro e wh ⟨rfl, hch⟩
            have hcH := HCF.out.trans hch (by simp)
            have hg := HG.out.same hcH (by simp)
            have hrg2 := HRG2.out.ch hcH (by simp)
            have hb6 := B6.out.ch hcH (by simp)
            have hb16 := B16.out.ch hcH (by simp)
            have hc0 := HC0.out.trans hcH (by simp)
            have hSm := Same23_is (hg.same (Ch.refl [] wh).drew (by simp)) (hrg2.ch (Ch.refl [] wh).drew (by simp))
            have hcur : Ch [] wh wh.drew := (Ch.refl [] wh).drew
            have hb16d := hb16.ch hcur (by simp)
            have t0 := hb16d.cell (i := 0) rfl
            have t1 := hb16d.cell (i := 1) rfl
            have HSM := Lib.hid hSm; clear hSm hcH hch HCF HE hb16d
            clear HG HRG2 B6 B16 HC0 HRP HRQ B5 HSX HSY HS2
            have HG := Lib.hid hg; clear hg
            have HRG2 := Lib.hid hrg2; clear hrg2
            have B6 := Lib.hid hb6; clear hb6
            have B16 := Lib.hid hb16; clear hb16
            have HC0 := Lib.hid hc0; clear hc0
            go_wp2_with fail
            refine Ord.St.door (fun w' => Ch [] wh w') [.fl, .ho, .fl, .fl, .rd, .ef, .ef, .fl] [0, 1, 0, 0, 8, 28, 63, 127] [0, 1, 2, 3, 4, 5, 6, 7] mixed (by kernel_rfl) rfl ?_
            refine Ord.St.fl2 (T' := ?_) 0 [1, 2, 3, 4, 5, 6, 7] _ _ rfl (by kernel_rfl) rfl rfl rfl rfl (fun K w' hk => ?_) ?_
            rotate_left
            · go_step; exact hk
            refine Ord.St.ho2 (T' := ?_) 1 [2, 3, 4, 5, 6, 7] _ _ rfl (by kernel_rfl) rfl rfl rfl rfl ?_ (fun K w' hw' hk => ?_) ?_
            rotate_left
            · trivial
            · have hq16 := B16.out.ch hw' (by simp); have u0 := hq16.cell (i := 0) rfl; have u1 := hq16.cell (i := 1) rfl; go_step; exact hk
            refine Ord.St.fl2 (T' := ?_) 2 [3, 4, 5, 6, 7] _ _ rfl (by kernel_rfl) rfl rfl rfl rfl (fun K w' hk => ?_) ?_
            rotate_left
            · go_step; exact hk
            refine Ord.St.fl2 (T' := ?_) 3 [4, 5, 6, 7] _ _ rfl (by kernel_rfl) rfl rfl rfl rfl (fun K w' hk => ?_) ?_
            rotate_left
            · go_step; exact hk
            refine Ord.St.rd2 (T' := ?_) 4 [5, 6, 7] _ _ rfl (by kernel_rfl) rfl rfl rfl rfl (fun K hk => ?_) ?_
            rotate_left
            · go_step; exact hk
            refine Ord.St.efC 5 [6, 7] _ rfl (by kernel_rfl) (fun K hK => ?_)
            go_wp2_with fail
            refine HSM.out.mono ?_
            rintro e w9 ⟨rfl, hc9⟩
            go_wp2_with fail
            refine ⟨rfl, hK _ _ ?_ ?_⟩
            · exact hcur.trans hc9 (by simp)
            clear hK K
            have hcw := hcur.trans hc9 (by simp)
            have hb6 := B6.out.ch hcw (by simp)
            have v0 := hb6.cell (i := 0) rfl
            have v1 := hb6.cell (i := 1) rfl
            have f0 := hb6.frozen (i := 0)
            have f1 := hb6.frozen (i := 1)
            have h6l9 := hb6.lt
            have HCW := Lib.hid hcw; clear hcw hc9 hb6 t0 t1
            refine Ord.St.ef 6 [7] _ rfl (by kernel_rfl) (fun K hK => ?_)
            go_wp2_with fail
            refine ⟨rfl, hK _ _ ?_⟩; clear hK K
            refine Ord.St.fl2 (T' := ?_) 7 [] _ _ rfl (by kernel_rfl) rfl rfl rfl rfl (fun K w' hk => ?_) ?_
            rotate_left
            · go_step; exact hk
            refine Ord.St.nil ?_
            go_wp2_with fail
            refine bodyPost_ret (v := .tuple #[.agg #[.int .i64 G1.most, .slice (some ⟨rb2, 0, none⟩) G1.nodes.length cap2], .bool true]) (by simp [results, Tryz.results108, go_sem, v0, v1]) rfl ?_
            have hcs := set2_ch (w := w9) (b := w.heap.size + 2) (u := .int .i64 G1.most) (v := .slice (some ⟨rb2, 0, none⟩) G1.nodes.length cap2) rfl
            exact ATo.of HBT0.out ((HG.out.same HCW.out (by simp)).same hcs (fun q hq hq2 => h6F (by rw [List.mem_singleton.1 hq2] at hq; exact hq))) ((HRG2.out.ch HCW.out (by simp)).ch hcs (by simpa using h62)) hap2 (fun q hq => (HFN.out q hq).imp id (fun e => by omega)) hfr2 ((HC0.out.trans HCW.out (by simp)).trans hcs (fun q hq => .inr (by simp at hq; omega)))
      · have h9 := H9.out
        unfold fin24 at h9
        rw [if_pos hq] at h9
        simp only [Prod.mk.injEq] at h9
        obtain ⟨a1, a2', a3', a4⟩ := h9
        subst a1 a2' a3' a4
        simp only [List.length_nil] at *
        have hSm := Same23_is (HG.out.same (Ch.refl [] W6).drew (by simp)) (HRG.out.ch (Ch.refl [] W6).drew (by simp))
        have e4 : ((e1 : Int) != 0) = true := by simp [hq]
        have HSM := Lib.hid hSm; clear hSm hq H9
        have hb4 := B4.out.ch (Ch.refl [] W6).drew (by simp)
        have y0 := hb4.cell (i := 0) rfl
        have y1 := hb4.cell (i := 1) rfl
        clear hb4
        go_wp2_with fail
        have hcur : Ch [] W6 W6.drew := (Ch.refl [] W6).drew
        refine Ord.St.door (fun w' => Ch [] W6 w') [.ho, .fl, .fl, .rd, .fl, .fl, .fl, .rd, .fl, .rd, .fl, .fl, .fl, .fl, .fl, .rd, .ef, .fl, .ef, .fl] [0, 0, 0, 4, 14, 30, 62, 126, 62, 318, 1022, 2046, 4094, 8190, 16382, 16382, 65534, 131070, 131071, 524287] [0, 1, 2, 3, 4, 5, 6, 7, 8, 9, 10, 11, 12, 13, 14, 15, 16, 17, 18, 19] mixed (by kernel_rfl) rfl ?_
        refine Ord.St.ho2 (T' := ?_) 0 [1, 2, 3, 4, 5, 6, 7, 8, 9, 10, 11, 12, 13, 14, 15, 16, 17, 18, 19] _ _ rfl (by kernel_rfl) rfl rfl rfl rfl ?_ (fun K w' hw' hk => ?_) ?_
        rotate_left
        · trivial
        · have hq4 := B4.out.ch hw' (by simp); have u0 := hq4.cell (i := 0) rfl; have u1 := hq4.cell (i := 1) rfl; go_step; exact hk
        refine Ord.St.fl2 (T' := ?_) 1 [2, 3, 4, 5, 6, 7, 8, 9, 10, 11, 12, 13, 14, 15, 16, 17, 18, 19] _ _ rfl (by kernel_rfl) rfl rfl rfl rfl (fun K w' hk => ?_) ?_
        rotate_left
        · go_step; exact hk
        refine Ord.St.fl2 (T' := ?_) 2 [3, 4, 5, 6, 7, 8, 9, 10, 11, 12, 13, 14, 15, 16, 17, 18, 19] _ _ rfl (by kernel_rfl) rfl rfl rfl rfl (fun K w' hk => ?_) ?_
        rotate_left
        · go_step; exact hk
        refine Ord.St.rd2 (T' := ?_) 3 [4, 5, 6, 7, 8, 9, 10, 11, 12, 13, 14, 15, 16, 17, 18, 19] _ _ rfl (by kernel_rfl) rfl rfl rfl rfl (fun K hk => ?_) ?_
        rotate_left
        · go_step; exact hk
        refine Ord.St.fl2 (T' := ?_) 4 [5, 6, 7, 8, 9, 10, 11, 12, 13, 14, 15, 16, 17, 18, 19] _ _ rfl (by kernel_rfl) rfl rfl rfl rfl (fun K w' hk => ?_) ?_
        rotate_left
        · go_step; exact hk
        refine Ord.St.fl2 (T' := ?_) 5 [6, 7, 8, 9, 10, 11, 12, 13, 14, 15, 16, 17, 18, 19] _ _ rfl (by kernel_rfl) rfl rfl rfl rfl (fun K w' hk => ?_) ?_
        rotate_left
        · go_step; exact hk
        first | (refine Ord.St.fl2 (T' := ?_) 6 [7, 8, 9, 10, 11, 12, 13, 14, 15, 16, 17, 18, 19] _ _ rfl (by kernel_rfl) ?_ rfl rfl rfl (fun K w' hk => ?_) ?_; rotate_left; (first | rfl | (simp [Region.wanted, yielded, *]; done)); focus (go_step; exact hk)) | (refine Ord.St.skip 6 [7, 8, 9, 10, 11, 12, 13, 14, 15, 16, 17, 18, 19] _ rfl (by kernel_rfl) ?_ (fun K hK => ?_); (first | rfl | (simp [Region.wanted, yielded, *]; done)); go_simp; refine hK _ ?_; clear hK K)
        first | (refine Ord.St.rd2 (T' := ?_) 7 [8, 9, 10, 11, 12, 13, 14, 15, 16, 17, 18, 19] _ _ rfl (by kernel_rfl) ?_ rfl rfl rfl (fun K hk => ?_) ?_; rotate_left; (first | rfl | (simp [Region.wanted, yielded, *]; done)); focus (go_step; exact hk)) | (refine Ord.St.skipr 7 [8, 9, 10, 11, 12, 13, 14, 15, 16, 17, 18, 19] _ rfl (by kernel_rfl) ?_ (fun K hK => ?_); (first | rfl | (simp [Region.wanted, yielded, *]; done)); go_simp; refine hK _ ?_; clear hK K)
        first | (refine Ord.St.fl2 (T' := ?_) 8 [9, 10, 11, 12, 13, 14, 15, 16, 17, 18, 19] _ _ rfl (by kernel_rfl) ?_ rfl rfl rfl (fun K w' hk => ?_) ?_; rotate_left; (first | rfl | (simp [Region.wanted, yielded, *]; done)); focus (go_step; exact hk)) | (refine Ord.St.skip 8 [9, 10, 11, 12, 13, 14, 15, 16, 17, 18, 19] _ rfl (by kernel_rfl) ?_ (fun K hK => ?_); (first | rfl | (simp [Region.wanted, yielded, *]; done)); go_simp; refine hK _ ?_; clear hK K)
        first | (refine Ord.St.rd2 (T' := ?_) 9 [10, 11, 12, 13, 14, 15, 16, 17, 18, 19] _ _ rfl (by kernel_rfl) ?_ rfl rfl rfl (fun K hk => ?_) ?_; rotate_left; (first | rfl | (simp [Region.wanted, yielded, *]; done)); focus (go_step; exact hk)) | (refine Ord.St.skipr 9 [10, 11, 12, 13, 14, 15, 16, 17, 18, 19] _ rfl (by kernel_rfl) ?_ (fun K hK => ?_); (first | rfl | (simp [Region.wanted, yielded, *]; done)); go_simp; refine hK _ ?_; clear hK K)
        first | (refine Ord.St.fl2 (T' := ?_) 10 [11, 12, 13, 14, 15, 16, 17, 18, 19] _ _ rfl (by kernel_rfl) ?_ rfl rfl rfl (fun K w' hk => ?_) ?_; rotate_left; (first | rfl | (simp [Region.wanted, yielded, *]; done)); focus (go_step; exact hk)) | (refine Ord.St.skip 10 [11, 12, 13, 14, 15, 16, 17, 18, 19] _ rfl (by kernel_rfl) ?_ (fun K hK => ?_); (first | rfl | (simp [Region.wanted, yielded, *]; done)); go_simp; refine hK _ ?_; clear hK K)
        first | (refine Ord.St.fl2 (T' := ?_) 11 [12, 13, 14, 15, 16, 17, 18, 19] _ _ rfl (by kernel_rfl) ?_ rfl rfl rfl (fun K w' hk => ?_) ?_; rotate_left; (first | rfl | (simp [Region.wanted, yielded, *]; done)); focus (go_step; exact hk)) | (refine Ord.St.skip 11 [12, 13, 14, 15, 16, 17, 18, 19] _ rfl (by kernel_rfl) ?_ (fun K hK => ?_); (first | rfl | (simp [Region.wanted, yielded, *]; done)); go_simp; refine hK _ ?_; clear hK K)
        refine Ord.St.fl2 (T' := ?_) 12 [13, 14, 15, 16, 17, 18, 19] _ _ rfl (by kernel_rfl) rfl rfl rfl rfl (fun K w' hk => ?_) ?_
        rotate_left
        · go_step; exact hk
        refine Ord.St.fl2 (T' := ?_) 13 [14, 15, 16, 17, 18, 19] _ _ rfl (by kernel_rfl) rfl rfl rfl rfl (fun K w' hk => ?_) ?_
        rotate_left
        · go_step; exact hk
        first | (refine Ord.St.fl2 (T' := ?_) 14 [15, 16, 17, 18, 19] _ _ rfl (by kernel_rfl) ?_ rfl rfl rfl (fun K w' hk => ?_) ?_; rotate_left; (first | rfl | (simp [Region.wanted, yielded, *]; done)); focus (go_step; exact hk)) | (refine Ord.St.skip 14 [15, 16, 17, 18, 19] _ rfl (by kernel_rfl) ?_ (fun K hK => ?_); (first | rfl | (simp [Region.wanted, yielded, *]; done)); go_simp; refine hK _ ?_; clear hK K)
        first | (refine Ord.St.rd2 (T' := ?_) 15 [16, 17, 18, 19] _ _ rfl (by kernel_rfl) ?_ rfl rfl rfl (fun K hk => ?_) ?_; rotate_left; (first | rfl | (simp [Region.wanted, yielded, *]; done)); focus (go_step; exact hk)) | (refine Ord.St.skipr 15 [16, 17, 18, 19] _ rfl (by kernel_rfl) ?_ (fun K hK => ?_); (first | rfl | (simp [Region.wanted, yielded, *]; done)); go_simp; refine hK _ ?_; clear hK K)
        refine Ord.St.efC 16 [17, 18, 19] _ rfl (by kernel_rfl) (fun K hK => ?_)
        go_wp2_with fail
        refine HSM.out.mono ?_
        rintro e w9 ⟨rfl, hc9⟩
        go_wp2_with fail
        refine ⟨rfl, hK _ _ ?_ ?_⟩
        · exact hcur.trans hc9 (by simp)
        clear hK K
        have hcw := hcur.trans hc9 (by simp)
        have hb6 := B6.out.ch hcw (by simp)
        have v0 := hb6.cell (i := 0) rfl
        have v1 := hb6.cell (i := 1) rfl
        have f0 := hb6.frozen (i := 0)
        have f1 := hb6.frozen (i := 1)
        have h6l := hb6.lt
        have HCW := Lib.hid hcw; clear hcw hc9 hb6 y0 y1
        refine Ord.St.fl2 (T' := ?_) 17 [18, 19] _ _ rfl (by kernel_rfl) rfl rfl rfl rfl (fun K w' hk => ?_) ?_
        rotate_left
        · go_step; exact hk
        refine Ord.St.ef 18 [19] _ rfl (by kernel_rfl) (fun K hK => ?_)
        go_wp2_with fail
        refine ⟨rfl, hK _ _ ?_⟩; clear hK K
        refine Ord.St.fl2 (T' := ?_) 19 [] _ _ rfl (by kernel_rfl) rfl rfl rfl rfl (fun K w' hk => ?_) ?_
        rotate_left
        · go_step; exact hk
        refine Ord.St.nil ?_
        go_wp2_with fail
        refine bodyPost_ret (v := .tuple #[.agg #[.int .i64 G1.most, .slice (some ⟨rb, 0, none⟩) G1.nodes.length cap], .bool true]) (by simp [results, Tryz.results108, go_sem, v0, v1]) rfl ?_
        have hcs := set2_ch (w := w9) (b := w.heap.size + 2) (u := .int .i64 G1.most) (v := .slice (some ⟨rb, 0, none⟩) G1.nodes.length cap) rfl
        exact ATo.of HBT0.out ((HG.out.same HCW.out (by simp)).same hcs (fun q hq hq2 => h6F (by rw [List.mem_singleton.1 hq2] at hq; exact hq))) ((HRG.out.ch HCW.out (by simp)).ch hcs (by simp; omega)) hap (fun q hq => (HFN.out q hq).imp id (fun e => by omega)) (.inl rfl) ((HC0.out.trans HCW.out (by simp)).trans hcs (fun q hq => .inr (by simp at hq; omega)))
    · have h9 := HPE.out
      rw [if_pos hfz] at h9
      simp only [Prod.mk.injEq] at h9
      obtain ⟨a1, a2, a3, a4⟩ := h9
      subst a1 a2 a3 a4
      simp only [List.length_nil] at *
      have e4 : ((e1 : Int) != 0) = true := by simp [hfz]
      have hSm := Same23_is (HG.out.same (Ch.refl [] wc).drew (by simp)) (HRG.out.ch (Ch.refl [] wc).drew (by simp))
      have HSM := Lib.hid hSm; clear hSm hfz
      have hb4 := B4.out.ch (Ch.refl [] wc).drew (by simp)
      have y0 := hb4.cell (i := 0) rfl
      have y1 := hb4.cell (i := 1) rfl
      clear hb4
      go_wp2_with fail
      have hcur : Ch [] wc wc.drew := (Ch.refl [] wc).drew
      refine Ord.St.door (fun w' => Ch [] wc w') [.ho, .fl, .fl, .fl, .fl, .fl, .rd, .fl, .rd, .fl, .fl, .fl, .fl, .fl, .rd, .ef, .fl, .ef, .fl] [0, 0, 0, 6, 14, 30, 62, 30, 158, 510, 1022, 2046, 4094, 8190, 8190, 32766, 65534, 65535, 262143] [0, 1, 2, 3, 4, 5, 6, 7, 8, 9, 10, 11, 12, 13, 14, 15, 16, 17, 18] mixed (by kernel_rfl) rfl ?_
      refine Ord.St.ho2 (T' := ?_) 0 [1, 2, 3, 4, 5, 6, 7, 8, 9, 10, 11, 12, 13, 14, 15, 16, 17, 18] _ _ rfl (by kernel_rfl) rfl rfl rfl rfl ?_ (fun K w' hw' hk => ?_) ?_
      rotate_left
      · trivial
      · have hq4 := B4.out.ch hw' (by simp); have u0 := hq4.cell (i := 0) rfl; have u1 := hq4.cell (i := 1) rfl; go_step; exact hk
      refine Ord.St.fl2 (T' := ?_) 1 [2, 3, 4, 5, 6, 7, 8, 9, 10, 11, 12, 13, 14, 15, 16, 17, 18] _ _ rfl (by kernel_rfl) rfl rfl rfl rfl (fun K w' hk => ?_) ?_
      rotate_left
      · go_step; exact hk
      refine Ord.St.fl2 (T' := ?_) 2 [3, 4, 5, 6, 7, 8, 9, 10, 11, 12, 13, 14, 15, 16, 17, 18] _ _ rfl (by kernel_rfl) rfl rfl rfl rfl (fun K w' hk => ?_) ?_
      rotate_left
      · go_step; exact hk
      refine Ord.St.fl2 (T' := ?_) 3 [4, 5, 6, 7, 8, 9, 10, 11, 12, 13, 14, 15, 16, 17, 18] _ _ rfl (by kernel_rfl) rfl rfl rfl rfl (fun K w' hk => ?_) ?_
      rotate_left
      · go_step; exact hk
      refine Ord.St.fl2 (T' := ?_) 4 [5, 6, 7, 8, 9, 10, 11, 12, 13, 14, 15, 16, 17, 18] _ _ rfl (by kernel_rfl) rfl rfl rfl rfl (fun K w' hk => ?_) ?_
      rotate_left
      · go_step; exact hk
      first | (refine Ord.St.fl2 (T' := ?_) 5 [6, 7, 8, 9, 10, 11, 12, 13, 14, 15, 16, 17, 18] _ _ rfl (by kernel_rfl) ?_ rfl rfl rfl (fun K w' hk => ?_) ?_; rotate_left; (first | rfl | (simp [Region.wanted, yielded, *]; done)); focus (go_step; exact hk)) | (refine Ord.St.skip 5 [6, 7, 8, 9, 10, 11, 12, 13, 14, 15, 16, 17, 18] _ rfl (by kernel_rfl) ?_ (fun K hK => ?_); (first | rfl | (simp [Region.wanted, yielded, *]; done)); go_simp; refine hK _ ?_; clear hK K)
      first | (refine Ord.St.rd2 (T' := ?_) 6 [7, 8, 9, 10, 11, 12, 13, 14, 15, 16, 17, 18] _ _ rfl (by kernel_rfl) ?_ rfl rfl rfl (fun K hk => ?_) ?_; rotate_left; (first | rfl | (simp [Region.wanted, yielded, *]; done)); focus (go_step; exact hk)) | (refine Ord.St.skipr 6 [7, 8, 9, 10, 11, 12, 13, 14, 15, 16, 17, 18] _ rfl (by kernel_rfl) ?_ (fun K hK => ?_); (first | rfl | (simp [Region.wanted, yielded, *]; done)); go_simp; refine hK _ ?_; clear hK K)
      first | (refine Ord.St.fl2 (T' := ?_) 7 [8, 9, 10, 11, 12, 13, 14, 15, 16, 17, 18] _ _ rfl (by kernel_rfl) ?_ rfl rfl rfl (fun K w' hk => ?_) ?_; rotate_left; (first | rfl | (simp [Region.wanted, yielded, *]; done)); focus (go_step; exact hk)) | (refine Ord.St.skip 7 [8, 9, 10, 11, 12, 13, 14, 15, 16, 17, 18] _ rfl (by kernel_rfl) ?_ (fun K hK => ?_); (first | rfl | (simp [Region.wanted, yielded, *]; done)); go_simp; refine hK _ ?_; clear hK K)
      first | (refine Ord.St.rd2 (T' := ?_) 8 [9, 10, 11, 12, 13, 14, 15, 16, 17, 18] _ _ rfl (by kernel_rfl) ?_ rfl rfl rfl (fun K hk => ?_) ?_; rotate_left; (first | rfl | (simp [Region.wanted, yielded, *]; done)); focus (go_step; exact hk)) | (refine Ord.St.skipr 8 [9, 10, 11, 12, 13, 14, 15, 16, 17, 18] _ rfl (by kernel_rfl) ?_ (fun K hK => ?_); (first | rfl | (simp [Region.wanted, yielded, *]; done)); go_simp; refine hK _ ?_; clear hK K)
      first | (refine Ord.St.fl2 (T' := ?_) 9 [10, 11, 12, 13, 14, 15, 16, 17, 18] _ _ rfl (by kernel_rfl) ?_ rfl rfl rfl (fun K w' hk => ?_) ?_; rotate_left; (first | rfl | (simp [Region.wanted, yielded, *]; done)); focus (go_step; exact hk)) | (refine Ord.St.skip 9 [10, 11, 12, 13, 14, 15, 16, 17, 18] _ rfl (by kernel_rfl) ?_ (fun K hK => ?_); (first | rfl | (simp [Region.wanted, yielded, *]; done)); go_simp; refine hK _ ?_; clear hK K)
      first | (refine Ord.St.fl2 (T' := ?_) 10 [11, 12, 13, 14, 15, 16, 17, 18] _ _ rfl (by kernel_rfl) ?_ rfl rfl rfl (fun K w' hk => ?_) ?_; rotate_left; (first | rfl | (simp [Region.wanted, yielded, *]; done)); focus (go_step; exact hk)) | (refine Ord.St.skip 10 [11, 12, 13, 14, 15, 16, 17, 18] _ rfl (by kernel_rfl) ?_ (fun K hK => ?_); (first | rfl | (simp [Region.wanted, yielded, *]; done)); go_simp; refine hK _ ?_; clear hK K)
      refine Ord.St.fl2 (T' := ?_) 11 [12, 13, 14, 15, 16, 17, 18] _ _ rfl (by kernel_rfl) rfl rfl rfl rfl (fun K w' hk => ?_) ?_
      rotate_left
      · go_step; exact hk
      refine Ord.St.fl2 (T' := ?_) 12 [13, 14, 15, 16, 17, 18] _ _ rfl (by kernel_rfl) rfl rfl rfl rfl (fun K w' hk => ?_) ?_
      rotate_left
      · go_step; exact hk
      first | (refine Ord.St.fl2 (T' := ?_) 13 [14, 15, 16, 17, 18] _ _ rfl (by kernel_rfl) ?_ rfl rfl rfl (fun K w' hk => ?_) ?_; rotate_left; (first | rfl | (simp [Region.wanted, yielded, *]; done)); focus (go_step; exact hk)) | (refine Ord.St.skip 13 [14, 15, 16, 17, 18] _ rfl (by kernel_rfl) ?_ (fun K hK => ?_); (first | rfl | (simp [Region.wanted, yielded, *]; done)); go_simp; refine hK _ ?_; clear hK K)
      first | (refine Ord.St.rd2 (T' := ?_) 14 [15, 16, 17, 18] _ _ rfl (by kernel_rfl) ?_ rfl rfl rfl (fun K hk => ?_) ?_; rotate_left; (first | rfl | (simp [Region.wanted, yielded, *]; done)); focus (go_step; exact hk)) | (refine Ord.St.skipr 14 [15, 16, 17, 18] _ rfl (by kernel_rfl) ?_ (fun K hK => ?_); (first | rfl | (simp [Region.wanted, yielded, *]; done)); go_simp; refine hK _ ?_; clear hK K)
      refine Ord.St.efC 15 [16, 17, 18] _ rfl (by kernel_rfl) (fun K hK => ?_)
      go_wp2_with fail
      refine HSM.out.mono ?_
      rintro e w9 ⟨rfl, hc9⟩
      go_wp2_with fail
      refine ⟨rfl, hK _ _ ?_ ?_⟩
      · exact hcur.trans hc9 (by simp)
      clear hK K
      have hcw := hcur.trans hc9 (by simp)
      have hb6 := B6.out.ch hcw (by simp)
      have v0 := hb6.cell (i := 0) rfl
      have v1 := hb6.cell (i := 1) rfl
      have f0 := hb6.frozen (i := 0)
      have f1 := hb6.frozen (i := 1)
      have h6l := hb6.lt
      have HCW := Lib.hid hcw; clear hcw hc9 hb6 y0 y1
      refine Ord.St.fl2 (T' := ?_) 16 [17, 18] _ _ rfl (by kernel_rfl) rfl rfl rfl rfl (fun K w' hk => ?_) ?_
      rotate_left
      · go_step; exact hk
      refine Ord.St.ef 17 [18] _ rfl (by kernel_rfl) (fun K hK => ?_)
      go_wp2_with fail
      refine ⟨rfl, hK _ _ ?_⟩; clear hK K
      refine Ord.St.fl2 (T' := ?_) 18 [] _ _ rfl (by kernel_rfl) rfl rfl rfl rfl (fun K w' hk => ?_) ?_
      rotate_left
      · go_step; exact hk
      refine Ord.St.nil ?_
      go_wp2_with fail
      refine bodyPost_ret (v := .tuple #[.agg #[.int .i64 G1.most, .slice (some ⟨rb, 0, none⟩) G1.nodes.length cap], .bool true]) (by simp [results, Tryz.results108, go_sem, v0, v1]) rfl ?_
      have hcs := set2_ch (w := w9) (b := w.heap.size + 2) (u := .int .i64 G1.most) (v := .slice (some ⟨rb, 0, none⟩) G1.nodes.length cap) rfl
      exact ATo.of HBT0.out ((HG.out.same HCW.out (by simp)).same hcs (fun q hq hq2 => h6F (by rw [List.mem_singleton.1 hq2] at hq; exact hq))) ((HRG.out.ch HCW.out (by simp)).ch hcs (by simp; omega)) hap (fun q hq => (HFN.out q hq).imp id (fun e => by omega)) (.inl rfl) ((HC0.out.trans HCW.out (by simp)).trans hcs (fun q hq => .inr (by simp at hq; omega)))
end
end Go.Proofs.YtehljgigebhddaaGreat
namespace Go.Proofs.YtehljgigebhddaaGreat
open Go.RowKit Go.Mem Go.Aig
/-- an act of muldiv -/
structure MAct where
  kind : Nat
  xa : Option Addr
  xn : Nat
  xc : Nat
  X : List Int
  ya : Option Addr
  yn : Nat
  yc : Nat
  Y : List Int
  N : Nat
/-- a slice of acts that can be read -/
structure MActS (w : World) (a : Option Addr) (n cap : Nat) (l : List MAct) : Prop where
  len : l.length = n
  le : n ≤ cap
  max : cap ≤ 9223372036854775807
  cells : ∀ (i : Nat) (x : MAct), l[i]? = some x → ∃ b o, a = some ⟨b, o, none⟩ ∧ w.cell? ⟨b, o + i * 4, none⟩ = some (.int .u8 x.kind) ∧ w.cell? ⟨b, o + i * 4 + 1, none⟩ = some (.slice x.xa x.xn x.xc) ∧ w.cell? ⟨b, o + i * 4 + 2, none⟩ = some (.slice x.ya x.yn x.yc) ∧ w.cell? ⟨b, o + i * 4 + 3, none⟩ = some (.int .u32 x.N)
  bd : ∀ x ∈ l, x.N < 4294967296 ∧ x.kind ≤ 255 ∧ x.X.length = x.xn ∧ x.Y.length = x.yn ∧ (∀ z ∈ x.X, -9223372036854775808 ≤ z ∧ z ≤ 9223372036854775807) ∧ (∀ z ∈ x.Y, -9223372036854775808 ≤ z ∧ z ≤ 9223372036854775807)
  slx : ∀ x ∈ l, Sl w x.xa x.X
  sly : ∀ x ∈ l, Sl w x.ya x.Y
theorem MActS.ch {w w' : World} {a : Option Addr} {n cap : Nat} {l : List MAct} (h : MActS w a n cap l) (hc : Ch [] w w') : MActS w' a n cap l :=
  ⟨h.len, h.le, h.max, fun i x hx => by
    obtain ⟨b, o, rfl, d0, d1, d2, d3⟩ := h.cells i x hx
    exact ⟨b, o, rfl, (hc.cell (cell_lt d0) (by simp)).trans d0, (hc.cell (cell_lt d1) (by simp)).trans d1, (hc.cell (cell_lt d2) (by simp)).trans d2, (hc.cell (cell_lt d3) (by simp)).trans d3⟩, h.bd, fun x hx => (h.slx x hx).ch hc (by simp), fun x hx => (h.sly x hx).ch hc (by simp)⟩
section
variable {w : World}
set_option maxRecDepth 100000 in
set_option maxHeartbeats 8000000 in
theorem makes24_no (M : Int) (N : Nat) (hM : M < 1 ∨ 65536 < M) (a : Option Addr) (n cap : Nat) : Calls Tryz.prog 21 #[.agg #[.int .i64 M, .int .u8 N], .slice a n cap] w fun e w' => e = .returned (.bool true) ∧ Ch [] w w' := by
  have hB := fun W => Begin23_no W M N hM
  clear hM
  go_enter Tryz.func21, Tryz.ntmps21
  go_wp2_with fail
  refine calls_named fun W hW => ?_
  have hc : Ch [] w W := by rw [hW]; exact (Ch.refl _ _).alloc _
  clear hW
  refine (hB W).mono ?_
  rintro e w1 ⟨rfl, hc1⟩
  have HC := Lib.hid (hc.trans hc1 (by simp)); clear hc hc1 hB
  go_wp2_with fail
  go_ret
  exact ⟨rfl, HC.out.alloc _⟩
set_option maxRecDepth 100000 in
set_option maxHeartbeats 8000000 in
theorem makes24_yes (M N : Nat) (h1 : 1 ≤ M) (h2 : M ≤ 65536) (hN : N ≤ 255) {a : Option Addr} {n cap : Nat} {l : List MAct} (hS : MActS w a n cap l) (hfew : ∀ x ∈ l, x.xn ≤ 1000 ∧ x.yn ≤ 1000) :
    Calls Tryz.prog 21 #[.agg #[.int .i64 M, .int .u8 N], .slice a n cap] w fun e w' => e = .returned (.bool true) ∧ Ch [] w w' := by
  have hB := fun W => Begin23_yes W M N h1 h2 hN
  have hlen := hS.len
  have hle := hS.le
  have hmx := hS.max
  have HB := Lib.hid hB; clear hB
  have HS := Lib.hid hS; clear hS
  have HFEW := Lib.hid hfew; clear hfew
  have HLEN := Lib.hid hlen; clear hlen
  go_enter Tryz.func21, Tryz.ntmps21
  go_wp2_with fail
  refine calls_named fun W hW => ?_
  have hc0 : Ch [] w W := by rw [hW]; exact (Ch.refl _ _).alloc _
  clear hW
  refine (HB.out W).mono ?_
  rintro e w1 ⟨g, F, rb, cap0, G, rfl, hbt⟩
  have HC0 := Lib.hid hc0; clear hc0
  have HBT := Lib.hid hbt; clear hbt HB
  go_upto_region 2 with fail
  refine wp_alw ?_
  intro W3 hW3
  have hb6 := alw_blk (xs := [.int .i64 G.most, .slice (some ⟨rb, 0, none⟩) G.nodes.length cap0]) hW3
  have hbt := HBT.out.same (alw_ch hW3)
  have h6F : w1.heap.size ∉ F := fun hin => Nat.lt_irrefl _ (HBT.out.gin.lt _ hin)
  have hrb6 : rb ≠ w1.heap.size := rg_ne HBT.out.rg
  have h6lo : W.heap.size ≤ w1.heap.size := HBT.out.ch.size
  clear hW3 HBT
  generalize w1.heap.size = b6 at *
  have HBT := Lib.hid hbt; clear hbt
  have B6 := Lib.hid hb6; clear hb6
  go_wp2_with fail
  go_loopw [24] (fun i wr => ∃ (k : Nat) (G : Gra) (F : List Nat) (rb cap : Nat), k ≤ n ∧ i = .int .i64 k ∧ Both W wr g rb cap G F ∧ b6 ∉ F ∧ rb ≠ b6 ∧ blk wr b6 [.int .i64 G.most, .slice (some ⟨rb, 0, none⟩) G.nodes.length cap]) (fun i _ => n - (intOf i).toNat)
  case atStart => exact ⟨0, G, F, rb, cap0, by omega, rfl, HBT.out, h6F, hrb6, B6.out⟩
  case round =>
    clear HBT B6 h6F hrb6
    obtain ⟨k, G, F, rb, capr, hk, rfl, hbt, h6F, hrb6, hb6⟩ := hrel
    by_cases hlt : k < n
    · obtain ⟨x, hx⟩ : ∃ x, l[k]? = some x := ⟨_, List.getElem?_eq_getElem (by rw [HLEN.out]; exact hlt)⟩
      have hxm := List.mem_of_getElem? hx
      obtain ⟨xb, xo, rfl, c0, c1, c2, c3⟩ := HS.out.cells k x hx
      have hcw := HC0.out.trans hbt.ch (by simp)
      have c0 := (hcw.cell (cell_lt c0) (by simp)).trans c0
      have c1 := (hcw.cell (cell_lt c1) (by simp)).trans c1
      have c2 := (hcw.cell (cell_lt c2) (by simp)).trans c2
      have c3 := (hcw.cell (cell_lt c3) (by simp)).trans c3
      obtain ⟨hNN, hkd, hxl, hyl, hxb, hyb⟩ := HS.out.bd x hxm
      obtain ⟨hxf, hyf⟩ := HFEW.out x hxm
      have hsx0 := HS.out.slx x hxm
      have hsy0 := HS.out.sly x hxm
      have hsx := hsx0.ch hcw (by simp)
      have hsy := hsy0.ch hcw (by simp)
      have hwr6 := hb6.lt
      obtain ⟨kind, xa, xn, xc, X, ya, yn, yc, Y, NN⟩ := x
      simp only at c0 c1 c2 c3 hNN hkd hxl hyl hxb hyb hxf hyf hsx hsy hsx0 hsy0
      subst hxl hyl
      have hxold : 0 < X.length → ∀ p, xa = some p → p.block < W.heap.size := fun h0 p hp => by
        have := sl_lt' hsx0 h0 p hp
        have := HC0.out.size
        omega
      have hyold : 0 < Y.length → ∀ p, ya = some p → p.block < W.heap.size := fun h0 p hp => by
        have := sl_lt' hsy0 h0 p hp
        have := HC0.out.size
        omega
      have hact := fun (W1 : World) (hcA : Ch [] wr W1) => act24_is (hbt.same hcA) kind xc yc NN hNN (hsx.ch hcA (by simp)) (hsy.ch hcA (by simp)) hxb hyb hxf hyf hxold hyold
      have HACT := Lib.hid hact; clear hact hsx0 hsy0 hsx hsy hxb hyb hxold hyold hx hxm hcw
      have HBT := Lib.hid hbt; clear hbt
      have B6 := Lib.hid hb6; clear hb6
      go_upto_region 7 with fail
      refine wp_alw ?_
      intro W1 hW1
      have hb8 := alw_blk (xs := [.int .u8 kind, .slice xa X.length xc, .slice ya Y.length yc, .int .u32 NN]) hW1
      have hcA := alw_ch hW1
      have hb6 := B6.out.ch hcA (by simp)
      have hA := HACT.out W1 hcA
      have h0 := hcA.size
      clear hW1 c0 c1 c2 c3
      have x0 := hb6.cell (i := 0) rfl
      have x1 := hb6.cell (i := 1) rfl
      have y0 := hb8.cell (i := 0) rfl
      have y1 := hb8.cell (i := 1) rfl
      have y2 := hb8.cell (i := 2) rfl
      have y3 := hb8.cell (i := 3) rfl
      have h6F1 : b6 ∉ F := h6F
      have hA1 := hb6.lt
      have HA := Lib.hid hA; clear hA HACT
      have B6' := Lib.hid hb6; clear hb6 hb8 B6
      go_wp2_with fail
      refine HA.out.mono ?_
      rintro e w2 ⟨G2, F2, rb2, cap2, rfl, hbt2, hF2, hfr2, hch⟩
      have hb6 := B6'.out.ch hch h6F
      have h6F2 : b6 ∉ F2 := fun hin => by rcases hF2 _ hin with e | e; exact h6F e; omega
      have hrb62 : rb2 ≠ b6 := by rcases hfr2 with e | e; (rw [e]; exact hrb6); omega
      have HBT2 := Lib.hid hbt2; clear hbt2 hF2 hfr2 hch
      have B6'' := Lib.hid hb6; clear hb6 B6' x0 x1 y0 y1 y2 y3 HA
      go_upto_region 8 with fail
      refine wp_alw ?_
      intro W5 hW5
      have hb9 := alw_blk (xs := [.int .i64 G2.most, .slice (some ⟨rb2, 0, none⟩) G2.nodes.length cap2]) hW5
      have hcA := alw_ch hW5
      have hbt := HBT2.out.same hcA
      have hb6 := B6''.out.ch hcA (by simp)
      clear hW5 HBT2 B6''
      have x0 := hb9.cell (i := 0) rfl
      have x1 := hb9.cell (i := 1) rfl
      have f0 := hb6.frozen (i := 0)
      have f1 := hb6.frozen (i := 1)
      have y0 := hb6.cell (i := 0) rfl
      have y1 := hb6.cell (i := 1) rfl
      have HBT := Lib.hid hbt; clear hbt hcA hb9
      have B6 := Lib.hid hb6; clear hb6
      go_wp2_with fail
      go_roundw
      case rel =>
        have hcs := set2_ch (w := W5) (b := b6) (u := .int .i64 G2.most) (v := .slice (some ⟨rb2, 0, none⟩) G2.nodes.length cap2) rfl
        exact ⟨k + 1, G2, F2, rb2, cap2, by omega, by go_num, HBT.out.set hcs h6F2 hrb62 h6lo, h6F2, hrb62, (B6.out.set (i := 0) _).set (i := 1) _⟩
      case measure => simp [intOf]; omega
    · have hSm := Same23_is hbt.gin hbt.rg
      have x0 := hb6.cell (i := 0) rfl
      have x1 := hb6.cell (i := 1) rfl
      have HSM := Lib.hid hSm; clear hSm
      have HC := Lib.hid (HC0.out.trans hbt.ch (by simp)); clear hbt hb6
      go_wp2_with fail
      refine HSM.out.mono ?_
      rintro e w9 ⟨rfl, hc9⟩
      have HC9 := Lib.hid hc9; clear hc9
      go_wp2_with fail
      go_ret
      exact ⟨rfl, HC.out.trans HC9.out (by simp)⟩
theorem makes24_is (M : Int) (N : Nat) (hN : N ≤ 255) {a : Option Addr} {n cap : Nat} {l : List MAct} (hS : MActS w a n cap l) (hfew : ∀ x ∈ l, x.xn ≤ 1000 ∧ x.yn ≤ 1000) :
    Calls Tryz.prog 21 #[.agg #[.int .i64 M, .int .u8 N], .slice a n cap] w fun e w' => e = .returned (.bool true) ∧ Ch [] w w' := by
  by_cases hM : M < 1 ∨ 65536 < M
  · exact makes24_no M N hM a n cap
  · obtain ⟨m, rfl⟩ : ∃ m : Nat, M = m := ⟨M.toNat, by omega⟩
    exact makes24_yes m N (by omega) (by omega) hN hS hfew
end
end Go.Proofs.YtehljgigebhddaaGreat
namespace Go.Proofs.YtehljgigebhddaaGreat
open Go.ChangeShapes Go.WideShapes Go.ChangeAt Go.RowKit Go.Mem Go.Aig Go.Deep
section
variable {H : Type} {enc : TypeId × Value → H} {W : World}
set_option maxRecDepth 100000 in
theorem mact_open {a : Option Addr} {len cap : Nat} {d : DataW H} {p : List MemPlace} (h : DataW.Trod enc Tryz.prog W 0 (fun _ => true) true 37 (.slice a len cap) d p) : ∃ l, MActS W a len cap l := by
  obtain ⟨fuel, hf⟩ := h
  rcases open_slice Tryz.underlying37 hf with ⟨hcs, _⟩ | ⟨x, l, c, m, n, D, Pl, hcs, _, hl, hm, hmm, _, hi⟩
  · simp [Value.cells] at hcs
    obtain ⟨rfl, rfl, rfl⟩ := hcs
    exact ⟨[], rfl, by omega, by omega, by simp, by simp, by simp, by simp⟩
  · simp [Value.cells] at hcs
    obtain ⟨rfl, rfl, rfl⟩ := hcs
    have hC : Tryz.prog.cellsOf 40 = 4 := by kernel_rfl
    have hspot : 0 < len → x.spot = none := fun h0 => by
      obtain ⟨cs', hc, _⟩ := hi 0 (by rw [hmm]; simp; omega)
      rw [hC] at hc
      obtain ⟨_, hcl, hat⟩ := World.cells?_some hc
      have e0 := hat 0 (by omega)
      rw [List.getElem?_eq_getElem (by omega)] at e0
      simpa [Addr.add] using World.cell?_spot e0
    have key : ∀ i, i < len → ∃ s : MAct, (∃ b o, (some x : Option Addr) = some ⟨b, o, none⟩ ∧ W.cell? ⟨b, o + i * 4, none⟩ = some (.int .u8 s.kind) ∧ W.cell? ⟨b, o + i * 4 + 1, none⟩ = some (.slice s.xa s.xn s.xc) ∧ W.cell? ⟨b, o + i * 4 + 2, none⟩ = some (.slice s.ya s.yn s.yc) ∧ W.cell? ⟨b, o + i * 4 + 3, none⟩ = some (.int .u32 s.N)) ∧
        (s.N < 4294967296 ∧ s.kind ≤ 255 ∧ s.X.length = s.xn ∧ s.Y.length = s.yn ∧ (∀ z ∈ s.X, -9223372036854775808 ≤ z ∧ z ≤ 9223372036854775807) ∧ (∀ z ∈ s.Y, -9223372036854775808 ≤ z ∧ z ≤ 9223372036854775807)) ∧ Sl W s.xa s.X ∧ Sl W s.ya s.Y := by
      intro i hlt
      obtain ⟨cs', hc, ht⟩ := hi i (by rw [hmm]; simp; omega)
      rw [hC] at hc
      obtain ⟨ys, n', _, _, hlen, _, hfd⟩ := DataW.trod_struct Tryz.underlying40 ht
      obtain ⟨_, hcl, hat⟩ := World.cells?_some hc
      match cs', hcl with
      | [c0, c1, c2, c3], _ =>
        have f0 := hfd 0 _ rfl
        have f1 := hfd 1 _ rfl
        have f2 := hfd 2 _ rfl
        have f3 := hfd 3 _ rfl
        have hu : Tryz.prog.cellsOf 5 = 1 := by kernel_rfl
        have hs : Tryz.prog.cellsOf 26 = 1 := by kernel_rfl
        have hi9 : Tryz.prog.cellsOf 28 = 1 := by kernel_rfl
        simp only [List.getElem_toArray, List.getElem_cons_zero, List.getElem_cons_succ, hu, hs, hi9, List.drop_zero, List.drop_succ_cons, List.take_succ_cons, List.take_zero] at f0 f1 f2 f3
        have hys : ys.length = 4 := by have := ‹ys.length = _›; simpa using this
        rw [List.getElem?_eq_getElem (by omega)] at f0 f1 f2 f3
        obtain ⟨z0, hz0, _, hw0⟩ := DataW.trod_int Tryz.underlying5 f0
        obtain ⟨k0, rfl, b0⟩ := wf_u8 hw0
        obtain ⟨xa, xn, xc, X, rfl, hslx, hXl, hXb, _, _⟩ := ints_open f1
        obtain ⟨ya, yn, yc, Y, rfl, hsly, hYl, hYb, _, _⟩ := ints_open f2
        obtain ⟨z3, hz3, _, hw3⟩ := DataW.trod_int Tryz.underlying28 f3
        obtain ⟨k3, rfl, b3⟩ := wf_u32 hw3
        simp at hz0 hz3
        subst hz0 hz3
        have e0 := hat 0 (by omega)
        have e1 := hat 1 (by omega)
        have e2 := hat 2 (by omega)
        have e3 := hat 3 (by omega)
        simp at e0 e1 e2 e3
        obtain ⟨b, o, spot⟩ := x
        have hsp : spot = none := hspot (by omega)
        subst hsp
        simp only [Addr.add_lit] at e0 e1 e2 e3
        exact ⟨⟨k0, xa, xn, xc, X, ya, yn, yc, Y, k3⟩, ⟨b, o, rfl, by simpa using e0, by simpa using e1, by simpa using e2, by simpa using e3⟩, ⟨b3, b0, hXl, hYl, hXb, hYb⟩, hslx, hsly⟩
    obtain ⟨ll, hll, hp⟩ := list_of _ len key
    have idx : ∀ s ∈ ll, ∃ i : Nat, ll[i]? = some s := fun s hs => List.mem_iff_getElem?.1 hs
    exact ⟨ll, hll, hl, by unfold maxLen at hm; exact hm, fun i s hs => (hp i s hs).1, fun s hs => by obtain ⟨i, hi2⟩ := idx s hs; exact (hp i s hi2).2.1, fun s hs => by obtain ⟨i, hi2⟩ := idx s hs; exact (hp i s hi2).2.2.1, fun s hs => by obtain ⟨i, hi2⟩ := idx s hs; exact (hp i s hi2).2.2.2⟩
end
end Go.Proofs.YtehljgigebhddaaGreat
namespace Go.Proofs.YtehljgigebhddaaGreat
open Go.RowKit Go.Mem Go.Aig
section
variable {w0 : Base} {w : World} {g : Nat} {G : Gra} {F : List Nat} {L : List (Value × List Int)}
theorem Hold.word2 {w' : World} {G' : Gra} {v1 v2 : Value} {l1 l2 : List Nat} (h : Hold w0 w g G F L) (ht : GVV w g G' F v1 l1 v2 l2 w') (hb1 : ∀ r ∈ l1, r ≤ 1000000) (hl1 : l1.length ≤ 1000000) (hb2 : ∀ r ∈ l2, r ≤ 1000000) (hl2 : l2.length ≤ 1000000) :
    ∃ a1 c1 a2 c2 F', v1 = .slice a1 l1.length c1 ∧ v2 = .slice a2 l2.length c2 ∧ Hold w0 w' g G' F' ((.slice a2 l2.length c2, natInts l2) :: (.slice a1 l1.length c1, natInts l1) :: L) := by
  obtain ⟨F', h1, h2, h3, h4, h5, h6, h7, h8⟩ := ht
  obtain ⟨a1, c1, rfl⟩ := row.shape h5
  obtain ⟨a2, c2, rfl⟩ := row.shape h6
  have hs := h.own.ch.size
  have mk : ∀ {v : Value} {l : List Nat}, row w' 52 1 v l.length (refsCells l) → (∀ r ∈ l, r ≤ 1000000) → l.length ≤ 1000000 → (∀ k, v.ownBlock = some k → w.heap.size ≤ k ∧ k ∉ F') → Held w0.w w' F' v (natInts l) := fun {v l} hr hb hl ho => by
    refine ⟨?_, by simpa using hl, fun r hr => ?_, fun k hk => ⟨Nat.le_trans hs (ho k hk).1, (ho k hk).2⟩⟩
    · simp only [natInts_len]
      rw [← refs_natInts]
      exact hr
    · obtain ⟨q, hq, rfl⟩ := List.mem_map.1 hr
      have := hb q hq
      omega
  refine ⟨a1, c1, a2, c2, F', rfl, rfl, ⟨⟨h1, fun k hk => (h3 k hk).elim (h.own.own k) (fun e => Nat.le_trans hs e), h.own.ch.trans h2 (fun k hk => .inr (h.own.own k hk))⟩, fun p hp => ?_, h.keptTo h2 h3⟩⟩
  rcases List.mem_cons.1 hp with rfl | hp
  · exact mk h6 hb2 hl2 h8
  rcases List.mem_cons.1 hp with rfl | hp
  · exact mk h5 hb1 hl1 (fun k hk => ⟨(h7 k hk).1, (h7 k hk).2.1⟩)
  · exact (h.held p hp).keep h2 h3
theorem mdMul_h (h : Hold w0 w g G F L) {xa ya : Option Addr} {xl yl : List Int} {n m xc yc : Nat} (hx : (.slice xa n xc, xl) ∈ L) (hxn : xl.length = n) (hy : (.slice ya m yc, yl) ∈ L) (hym : yl.length = m) {G' : Gra} {l : List Nat} {e k : Nat} (hR : mulG G xl yl = (G', l, e)) (hk : l.length = k) (hb : ∀ r ∈ l, r ≤ 1000000) (hl : k ≤ 1000000) :
    Calls Tryz.prog 102 #[.pointer (some ⟨g, 0, none⟩), .slice xa n xc, .slice ya m yc] w fun en w' => ∃ a c F', en = .returned (.tuple #[.slice a k c, .int .i64 e]) ∧ Hold w0 w' g G' F' ((.slice a k c, natInts l) :: L) := by
  have hc := mdMul_is h.own.gin (h.at hx hxn) (h.at hy hym) (by rw [hxn]; exact (h.held _ hx).cap)
  simp only [WV.val, hxn, hym] at hc
  exact Calls.word h hc hR hk hb hl
theorem mdTimes_h (h : Hold w0 w g G F L) {xa : Option Addr} {xl : List Int} {n xc : Nat} (hx : (.slice xa n xc, xl) ∈ L) (hxn : xl.length = n) (z : Nat) (hz : z < 4294967296) {G' : Gra} {l : List Nat} {e k : Nat} (hR : timesG G xl z = (G', l, e)) (hk : l.length = k) (hb : ∀ r ∈ l, r ≤ 1000000) (hl : k ≤ 1000000) :
    Calls Tryz.prog 104 #[.pointer (some ⟨g, 0, none⟩), .slice xa n xc, .int .u32 z] w fun en w' => ∃ a c F', en = .returned (.tuple #[.slice a k c, .int .i64 e]) ∧ Hold w0 w' g G' F' ((.slice a k c, natInts l) :: L) := by
  have hc := mdTimes_is h.own.gin (h.at hx hxn) (by rw [hxn]; exact (h.held _ hx).cap) z hz
  simp only [WV.val, hxn] at hc
  exact Calls.word h hc hR hk hb hl
theorem mdBoth_h (h : Hold w0 w g G F L) {xa ya : Option Addr} {xl yl : List Int} {n m xc yc : Nat} (hx : (.slice xa n xc, xl) ∈ L) (hxn : xl.length = n) (hy : (.slice ya m yc, yl) ∈ L) (hym : yl.length = m) {G' : Gra} {l1 l2 : List Nat} {e k1 k2 : Nat} (hR : bothG G xl yl = (G', (l1, l2), e)) (hk1 : l1.length = k1) (hk2 : l2.length = k2) (hb1 : ∀ r ∈ l1, r ≤ 1000000) (hb2 : ∀ r ∈ l2, r ≤ 1000000) (hl1 : k1 ≤ 1000000) (hl2 : k2 ≤ 1000000) :
    Calls Tryz.prog 105 #[.pointer (some ⟨g, 0, none⟩), .slice xa n xc, .slice ya m yc] w fun en w' => ∃ a1 c1 a2 c2 F', en = .returned (.tuple #[.slice a1 k1 c1, .slice a2 k2 c2, .int .i64 e]) ∧ Hold w0 w' g G' F' ((.slice a2 k2 c2, natInts l2) :: (.slice a1 k1 c1, natInts l1) :: L) := by
  have hc := mdBoth_is h.own.gin (h.at hx hxn) (h.at hy hym)
  simp only [WV.val, hxn, hym] at hc
  rw [hR] at hc
  subst hk1 hk2
  refine hc.mono ?_
  rintro en w' ⟨v1, v2, rfl, hg⟩
  obtain ⟨a1, c1, a2, c2, F', rfl, rfl, ho⟩ := h.word2 hg hb1 hl1 hb2 hl2
  exact ⟨a1, c1, a2, c2, F', rfl, ho⟩
end
end Go.Proofs.YtehljgigebhddaaGreat
namespace Go.Proofs.YtehljgigebhddaaGreat
open Go.RowKit Go.Mem Go.Aig
def u64s (l : List Nat) : List Value := l.map fun (r : Nat) => .int .u64 r
/-- the words of the four inputs -/
def inWords : List Nat := [43690, 52428, 61680, 65280]
/-- the word of a reference, over the words of the nodes -/
def wv (vs : List Nat) (r : Nat) : Nat := if r % 2 = 1 then vs.getD (r / 2) 0 ^^^ 65535 else vs.getD (r / 2) 0
end Go.Proofs.YtehljgigebhddaaGreat
