/-
  Walks over Choose and Is of muxes. Conditions: a graph in memory, words of any integers.
  Walk over Read of muxes. Conditions: a graph in memory, an array of words of any integers, an index.
  Walk over slices.Backward of references. Conditions: a slice that can be read.
  Walk over Pick's closure of muxes. Conditions: a maker in memory, an array of words of its graph, guards.
  Walk over Pick of muxes. Conditions: a graph in memory, guards, an array of words of any integers.
  Walk over Equal's closure of muxes. Conditions: a maker in memory, two arrays of words of its graph.
  Walk over Equal of muxes. Conditions: a graph in memory, two arrays of words of any integers.
  What is known between two rounds of Write of muxes. Conditions: a maker in memory, an array that is made.
  Walk over Write's closure of muxes. Conditions: a maker in memory, an array of words of its graph, an index, a guard, a word.
  Walk over Write's closure of muxes. Conditions: a maker in memory, an array of words of its graph, an index, a guard, a word.
  Walk over Write of muxes. Conditions: a graph in memory, an array of words of any integers, an index, a guard, a word.
  What the functions of muxes mean, plainly, for all values of the inputs at once. No program in sight. Conditions: a right graph with room, words of it.
  Walks over small functions of the laws: words, value, pick. Conditions: slices that are read.
  Walks over Same and Begin of chapter 23's laws: two graphs that are the same, and such ones that are made. Conditions: none beyond the hypotheses.
  Walks over sim: of, nodes. Conditions: a graph in memory, as many words as inputs.
  Walks over sim: check, Words, Bits. Conditions: a graph in memory, references of any integers, words that can be read.
  Walk over sim: Bits. Conditions: a graph in memory, references of any integers, values that can be read.
-/
import Derived.Test.YtdmmanfjafempaaGreatQD
import Derived.Test.YtdmmanfjafempaaGreatQB
import Derived.Laws.Bits64b
import Derived.Test.YtdmmanfjafempaaGreatQC
namespace Go.Proofs.YtdmmanfjafempaaGreat
open Go.RowKit Go.Mem Go.Aig
theorem RS.nil (w : World) : RS w none 0 0 [] := ⟨rfl, Nat.le_refl _, by simp [intCells], by omega⟩
theorem RS.blk {w : World} {b n : Nat} {R : List Int} (h : Go.Mem.blk w b (intCells R)) (hn : R.length = n) (hm : n ≤ 1000000) : RS w (some ⟨b, 0, none⟩) n n R :=
  ⟨hn, Nat.le_refl _, fun j u hu => ⟨_, rfl, by rw [Addr.add_lit, Nat.zero_add]; exact h.cell hu⟩, hm⟩
theorem LS.one {w : World} {q b n c : Nat} {ws : List WV} (hq : w.cell? ⟨q, 0, none⟩ = some (.slice (some ⟨b, 0, none⟩) n c)) (hn : ws.length = n) (hw : ∀ i x, ws[i]? = some x → w.cell? ⟨b, i, none⟩ = some x.val ∧ WVok w x) : LS w q 1 [(b, c, ws)] := by
  subst hn
  refine ⟨rfl, fun j b' c' ws' hj => ?_, fun j b' c' ws' hj => ?_⟩ <;> rcases j with _ | j
  · cases hj; exact hq
  · simp at hj
  · cases hj; exact hw
  · simp at hj
theorem lsW_one (b c : Nat) (ws : List WV) : lsW [(b, c, ws)] = ws := by simp [lsW]
theorem at2 {w : World} {b : Nat} {x y : WV} (hb : blk w b [x.val, y.val]) (hx : WVok w x) (hy : WVok w y) : ∀ (i : Nat) (z : WV), [x, y][i]? = some z → w.cell? ⟨b, i, none⟩ = some z.val ∧ WVok w z := fun i z hz => by
  rcases i with _ | _ | i
  · cases hz; exact ⟨hb.cell rfl, hx⟩
  · cases hz; exact ⟨hb.cell rfl, hy⟩
  · simp at hz
theorem at1 {w : World} {b : Nat} {x : WV} (hb : blk w b [x.val]) (hx : WVok w x) : ∀ (i : Nat) (z : WV), [x][i]? = some z → w.cell? ⟨b, i, none⟩ = some z.val ∧ WVok w z := fun i z hz => by
  rcases i with _ | i
  · cases hz; exact ⟨hb.cell rfl, hx⟩
  · simp at hz
theorem WVin.blks {w W : World} {F : List Nat} {x : WV} (h : WVin w F x) (hc : Ch [] w W) {m : Nat} (hm : w.heap.size ≤ m) : ∀ k ∈ ablk x.a, k ∉ m :: F ∧ k < W.heap.size := fun k hk => by
  have h1 := (h.apart k hk)
  have h2 := hc.size
  simp only [List.mem_cons, not_or]
  exact ⟨⟨by omega, h1.1⟩, by omega⟩
section
variable {w : World} {g : Nat} {G : Gra} {F : List Nat}
set_option maxRecDepth 100000 in
set_option maxHeartbeats 4000000 in
theorem mChoose_is (h : GIn w g G F) (c : Int) (hc : I64' c) {x y : WV} (hx : WVin w F x) (hy : WVin w F y) :
    Calls Tryz.prog 30 #[.pointer (some ⟨g, 0, none⟩), .int .i64 c, x.val, y.val] w fun e w' => ∃ v, e = .returned (.tuple #[v, .int .i64 (chooseG G c x.l y.l).2.2]) ∧ GVo w g (chooseG G c x.l y.l).1 [] F v (chooseG G c x.l y.l).2.1 w' := by
  have hpos := h.ok.wf.pos
  have hroom := h.ok.room
  have hmost := h.ok.most
  have hL := fun (W : World) (hW : Ch [] w W) => Len_g (h.same hW (by simp))
  have hok := chk26_ok (G := G) (idx := []) (refs := [c]) (ws := [x.l, y.l])
  have hlt := chk26_lt G [] [c] [x.l, y.l]
  obtain ⟨cc, hcc⟩ : ∃ cc, chk26 G [] [c] [x.l, y.l] = cc := ⟨_, rfl⟩
  have hchk := fun (W : World) (q lb : Nat) (rb : Nat) (hW : Ch [] w W) (hq : blk W q [.slice (some ⟨lb, 0, none⟩) 2 2]) (hl : blk W lb [x.val, y.val]) (hr : blk W rb [.int .i64 c]) =>
    mcheck_is (h.same hW (by simp)) (LS.one (c := 2) (hq.cell (i := 0) rfl) rfl (at2 hl (hx.ch hW).ok (hy.ch hW).ok)) (n := 1) (c := 1) (by omega) (by rw [lsW_one]; simp) (by rw [lsW_one]; simp) (RS.nil W) (RS.blk (n := 1) (R := [c]) hr rfl (by omega)) (by omega) (by omega) (by intro z hz; simp at hz; subst hz; exact hc)
  simp only [lsW_one, List.map_cons, List.map_nil, hcc] at hchk
  unfold chooseG
  rw [hcc] at hok hlt ⊢
  have hxlen := hx.ok.len
  have hylen := hy.ok.len
  have hbuild : cc = 0 → ∀ (W1 : World), Ch [] w W1 → blk W1 w.heap.size [.int .i64 c] → blk W1 (w.heap.size + 1) [x.val] → blk W1 (w.heap.size + 2) [y.val] →
      Calls Tryz.prog 78 #[.pointer (some ⟨g, 0, none⟩), .func (.func 98) #[] #[.pointer (some ⟨w.heap.size, 0, none⟩), .pointer (some ⟨w.heap.size + 1, 0, none⟩), .pointer (some ⟨w.heap.size + 2, 0, none⟩)]] W1 fun e w' => ∃ v, e = .returned (.tuple #[v, .int .i64 (chF c.toNat (G, 0) ((nats x.l).zip (nats y.l))).1.2]) ∧ MB W1 g G F (chF c.toNat (G, 0) ((nats x.l).zip (nats y.l))).1 (PostW W1 (chF c.toNat (G, 0) ((nats x.l).zip (nats y.l))).2) mzW v w' := fun h0 W1 hW1 k1 k2 k3 => by
    obtain ⟨o1, o2, o3, _, o5⟩ := hok h0
    have hxw := o1 x.l (by simp)
    have hyw := o1 y.l (by simp)
    have hc0 : ((c.toNat : Nat) : Int) = c := by have := o5.cast; simpa [natInts, nats] using this
    have hcl : c.toNat < 2 * G.nodes.length := o5.lt c.toNat (by simp [nats])
    refine mbuildW_is (h.same hW1 (by simp)) 98 _ fnvmChoose1 (chF c.toNat (G, 0) ((nats x.l).zip (nats y.l))).1 _ (fun W m hm hW hM => ?_)
    have hall := hW1.trans hW (by simp)
    have hm2 : w.heap.size ≤ m := Nat.le_trans hW1.size hm
    have hn0 : ([x.l, y.l].headD []).length = x.l.length := rfl
    have hCH := mchoose_is hM (Sim.start hM.gin.ok) (c := c.toNat) hcl (x := nats x.l) (y := nats y.l) (xa := x.a) (ya := y.a) x.l.length x.c y.c (by simp) (by rw [nats_len, hyw.len]; rfl) (by have := o3 (by simp); rw [hn0] at this; omega)
      (by rw [show ((nats x.l).map fun (r : Nat) => (r : Int)) = x.l from hxw.cast]; exact (hx.ch hall).ok.sl) (by rw [show ((nats y.l).map fun (r : Nat) => (r : Int)) = y.l from hyw.cast]; exact (hy.ch hall).ok.sl) (hx.blks hall hm2) (hy.blks hall hm2) hxw.lt hyw.lt
    rw [hc0] at hCH
    have hyl : y.l.length = x.l.length := hyw.len
    have h1 := mChoose1_is (c := c.toNat) (n := x.l.length) (xa := x.a) (ya := y.a) (xc := x.c) (yc := y.c) (bc := w.heap.size) (bx := w.heap.size + 1) (b2 := w.heap.size + 2) (Rs := fun v w' => CH W g m G (G, 0) F (chF c.toNat (G, 0) ((nats x.l).zip (nats y.l))) x.l.length v w') (by rw [hc0]; exact hCH) (by rw [hc0]; exact (k1.ch hW (by simp)).cell (i := 0) rfl) ((k2.ch hW (by simp)).cell (i := 0) rfl) (by have := (k3.ch hW (by simp)).cell (i := 0) (v := y.val) rfl; unfold WV.val at this; rw [hyl] at this; exact this)
    refine h1.mono ?_
    rintro e W' ⟨v, rfl, hch⟩
    obtain ⟨P, F', q1, q2, q3, q4, q5, q6⟩ := hch.rw.post hW
    exact ⟨v, P, F', rfl, q1, q2, q3, q4, q5, q6⟩
  obtain ⟨S, hS⟩ : ∃ S, chF c.toNat (G, 0) ((nats x.l).zip (nats y.l)) = S := ⟨_, rfl⟩
  simp only [hS] at hbuild
  rw [hS]
  obtain ⟨xa, xl, xc⟩ := x
  obtain ⟨ya, yl, yc⟩ := y
  simp only [WV.val] at *
  have HL := Lib.hid hL; clear hL
  have HCHK := Lib.hid hchk; clear hchk
  have HBU := Lib.hid hbuild; clear hbuild
  have H := Lib.hid h; clear h
  have hn0 : ((G.nodes.length : Int) == 0) = false := beqN (by omega)
  clear hok hcc hS hx hy hc
  generalize hWW : (if cc ≠ 0 then (G, [], cc) else wres G S : Gra × List Nat × Nat) = WW
  have HWW := Lib.hid hWW; clear hWW
  go_enter Tryz.func30, Tryz.ntmps30
  go_upto_region 1 with fail
  refine wp_named fun W0 hW0 => ?_
  have hc0 : Ch [] w W0 := by rw [hW0]; exact (((Ch.refl _ _).alloc _).alloc _).alloc _
  have hb0 : blk W0 w.heap.size [.int .i64 c] := by rw [hW0]; exact ((blk.new' _ _ (by simp)).alloc _).alloc _
  have hb1 : blk W0 (w.heap.size + 1) [.slice xa xl.length xc] := by rw [hW0]; exact (blk.new' _ _ (by simp)).alloc _
  have hb2 : blk W0 (w.heap.size + 2) [.slice ya yl.length yc] := by rw [hW0]; exact blk.new' _ _ (by simp)
  clear hW0
  have hLL := HL.out W0 hc0
  have d0 := hb0.cell (i := 0) rfl
  have d1 := hb1.cell (i := 0) rfl
  have d2 := hb2.cell (i := 0) rfl
  have l0 := hb0.lt
  have l1 := hb1.lt
  have l2 := hb2.lt
  have HC0 := Lib.hid hc0; clear hc0
  have HB0 := Lib.hid hb0; clear hb0
  have HB1 := Lib.hid hb1; clear hb1
  have HB2 := Lib.hid hb2; clear hb2
  go_wp2_with fail
  refine hLL.mono ?_
  rintro e w' ⟨rfl, rfl⟩
  clear hLL
  go_wp2_with fail
  refine calls_named fun W1 hW1 => ?_
  have hc1 : Ch [] W0 W1 := by rw [hW1]; exact (((Ch.refl _ _).alloc _).alloc _).alloc _
  have e0 : blk W1 W0.heap.size [.int .i64 c] := by rw [hW1]; exact ((blk.new' _ _ (by simp)).alloc _).alloc _
  have e1 : blk W1 (W0.heap.size + 1) [.slice xa xl.length xc, .slice ya yl.length yc] := by rw [hW1]; exact (blk.new' _ _ (by simp)).alloc _
  have e2 : blk W1 (W0.heap.size + 1 + 1) [.slice (some ⟨W0.heap.size + 1, 0, none⟩) 2 2] := by rw [hW1]; exact blk.new' _ _ (by simp)
  clear hW1
  refine (HCHK.out W1 _ _ _ (HC0.out.trans hc1 (by simp)) e2 e1 e0).mono ?_
  rintro e w2 ⟨rfl, hc2⟩
  have hc02 := hc1.trans hc2 (by simp)
  have HC2 := Lib.hid (HC0.out.trans hc02 (by simp))
  have HB0' := Lib.hid (HB0.out.ch hc02 (by simp))
  have HB1' := Lib.hid (HB1.out.ch hc02 (by simp))
  have HB2' := Lib.hid (HB2.out.ch hc02 (by simp))
  clear e0 e1 e2 hc1 hc2 hc02 d0 d1 d2 HB0 HB1 HB2 HCHK
  by_cases hz : cc = 0
  · have hBB := HBU.out hz w2 HC2.out HB0'.out HB1'.out HB2'.out
    have hww := HWW.out
    rw [if_neg (by simp [hz])] at hww
    subst hz
    have HBB := Lib.hid hBB; clear hBB HBU
    have HW2 := Lib.hid hww; clear hww
    go_wp2_with fail
    refine HBB.out.mono ?_
    rintro e w3 ⟨v, rfl, hmb⟩
    have hgv := MB.gvo HC2.out hmb
    rw [HW2.out] at hgv
    have HGV := Lib.hid hgv; clear hgv hmb
    go_wp2_with fail
    go_ret2
    exact ⟨_, by rw [← HW2.out, wres_e]; rfl, HGV.out⟩
  · have hq : ((cc : Int) != 0) = true := by simp; omega
    have hww := HWW.out
    rw [if_pos hz] at hww
    have HW2 := Lib.hid hww; clear hww
    have HZ := Lib.hid hz; clear hz
    go_wp2_with fail
    go_ret2
    exact ⟨_, by rw [← HW2.out]; rfl, by rw [← HW2.out]; exact GVo.none H.out HC2.out⟩
end
end Go.Proofs.YtdmmanfjafempaaGreat
namespace Go.Aig
def readG (G : Gra) (L : List (List Int)) (y : List Int) : Gra × List Nat × Nat :=
  if array26 L.length = false then (G, [], 261) else if right26 y.length = false then (G, [], 260) else if chk26 G y [] L ≠ 0 then (G, [], chk26 G y [] L)
  else wres G (readF G (L.map nats) (nats y) y.length (L.headD []).length (fitN L.length y.length))
end Go.Aig
namespace Go.Proofs.YtdmmanfjafempaaGreat
open Go.RowKit Go.Mem Go.Aig
/-- an array of words that goes in, of any length -/
structure WA (w : World) (F : List Nat) (la : Option Addr) (nl : Nat) (L : List WV) : Prop where
  len : L.length = nl
  at_ : 1 ≤ nl → ∃ lb, la = some ⟨lb, 0, none⟩ ∧ WL w F lb nl L
theorem WL.up {w W : World} {F : List Nat} {lb n m : Nat} {L : List WV} (h : WL w F lb n L) (hc : Ch [] w W) (hm : w.heap.size ≤ m) : WL W (m :: F) lb n L := by
  have h2 := h.ch hc
  have hlt := h.apart.2
  refine ⟨h2.len, h2.cells, fun x hx => ⟨(h2.words x hx).ok, fun k hk => ?_⟩, ?_, h2.apart.2⟩
  · exact (h.words x hx).blks hc hm k hk
  · simp only [List.mem_cons, not_or]
    exact ⟨by omega, h2.apart.1⟩
theorem RS.wv {w : World} {F : List Nat} {x : WV} (h : WVin w F x) (hle : x.l.length ≤ x.c) : RS w x.a x.l.length x.c x.l :=
  ⟨rfl, hle, fun j u hu => by
    unfold intCells at hu
    rw [List.getElem?_map] at hu
    cases hz : x.l[j]? with
    | none => rw [hz] at hu; cases hu
    | some z =>
      rw [hz] at hu
      cases hu
      obtain ⟨b, o, e, hc⟩ := h.ok.sl.cells j z hz
      exact ⟨_, e, by rw [Addr.add_lit]; exact hc⟩, h.ok.len⟩
theorem WL.ls {w : World} {F : List Nat} {q lb n c : Nat} {L : List WV} (h : WL w F lb n L) (hq : w.cell? ⟨q, 0, none⟩ = some (.slice (some ⟨lb, 0, none⟩) n c)) : LS w q 1 [(lb, c, L)] :=
  LS.one hq h.len (fun i x hx => ⟨h.cells i x hx, (h.words x (List.mem_of_getElem? hx)).ok⟩)
section
variable {w : World} {g : Nat} {G : Gra} {F : List Nat}
set_option maxRecDepth 100000 in
set_option maxHeartbeats 4000000 in
theorem mRead_is [Nonempty Unit] (h : GIn w g G F) {la : Option Addr} {nl lc : Nat} {Ls : List WV} (hA : WA w F la nl Ls) {y : WV} (hy : WVin w F y) (hyc : y.l.length ≤ y.c) :
    Calls Tryz.prog 28 #[.pointer (some ⟨g, 0, none⟩), .slice la nl lc, y.val] w fun e w' => ∃ v, e = .returned (.tuple #[v, .int .i64 (readG G (Ls.map WV.l) y.l).2.2]) ∧ GVo w g (readG G (Ls.map WV.l) y.l).1 [] F v (readG G (Ls.map WV.l) y.l).2.1 w' := by
  have hpos := h.ok.wf.pos
  have hroom := h.ok.room
  have hmost := h.ok.most
  have hL := fun (W : World) (hW : Ch [] w W) => Len_g (h.same hW (by simp))
  have hAr := fun (W : World) => marray_is (w := W) nl
  have hRr := fun (W : World) => mright_is (w := W) y.l.length
  have hok := chk26_ok (G := G) (idx := y.l) (refs := []) (ws := Ls.map WV.l)
  have hlt := chk26_lt G y.l [] (Ls.map WV.l)
  have hlen := hA.len
  have hll : (Ls.map WV.l).length = nl := by rw [List.length_map]; exact hlen
  unfold readG
  rw [hll]
  obtain ⟨cc, hcc⟩ : ∃ cc, chk26 G y.l [] (Ls.map WV.l) = cc := ⟨_, rfl⟩
  rw [hcc] at hok hlt ⊢
  obtain ⟨S, hS⟩ : ∃ S, readF G ((Ls.map WV.l).map nats) (nats y.l) y.l.length ((Ls.map WV.l).headD []).length (fitN nl y.l.length) = S := ⟨_, rfl⟩
  rw [hS]
  generalize hWW : (if array26 nl = false then (G, [], 261) else if right26 y.l.length = false then (G, [], 260) else if cc ≠ 0 then (G, [], cc) else wres G S : Gra × List Nat × Nat) = WW
  have hylen := hy.ok.len
  cases ha : array26 nl
  · rw [ha, if_pos rfl] at hWW
    simp only [ha] at hAr
    subst hWW
    obtain ⟨ya, yl, yc⟩ := y
    simp only [WV.val] at *
    clear hok hcc hS hRr hA
    have HL := Lib.hid hL; clear hL
    have HAR := Lib.hid hAr; clear hAr
    have H := Lib.hid h; clear h
    have hn0 : ((G.nodes.length : Int) == 0) = false := beqN (by omega)
    go_enter Tryz.func28, Tryz.ntmps28
    go_upto_region 1 with fail
    refine wp_named fun W0 hW0 => ?_
    have hc0 : Ch [] w W0 := by rw [hW0]; exact ((Ch.refl _ _).alloc _).alloc _
    have hb0 : blk W0 w.heap.size [.slice la nl lc] := by rw [hW0]; exact (blk.new' _ _ (by simp)).alloc _
    have d0 := hb0.cell (i := 0) rfl
    clear hW0 hb0
    have hLL := HL.out W0 hc0
    have HC0 := Lib.hid hc0; clear hc0
    go_wp2_with fail
    refine hLL.mono ?_
    rintro e w' ⟨rfl, rfl⟩
    clear hLL
    go_wp2_with fail
    refine (HAR.out _).mono ?_
    rintro e w' ⟨rfl, rfl⟩
    go_wp2_with fail
    go_ret2
    exact ⟨_, rfl, GVo.none H.out HC0.out⟩
  · rw [ha, if_neg (by simp)] at hWW
    simp only [ha] at hAr
    have hnl : 1 ≤ nl ∧ nl ≤ 256 := by unfold array26 at ha; simp at ha; omega
    obtain ⟨lb, rfl, hWL⟩ := hA.at_ hnl.1
    cases hr : right26 y.l.length
    · rw [hr, if_pos rfl] at hWW
      simp only [hr] at hRr
      subst hWW
      obtain ⟨ya, yl, yc⟩ := y
      simp only [WV.val] at *
      clear hok hcc hS hA hWL
      have HL := Lib.hid hL; clear hL
      have HAR := Lib.hid hAr; clear hAr
      have HRR := Lib.hid hRr; clear hRr
      have H := Lib.hid h; clear h
      have hn0 : ((G.nodes.length : Int) == 0) = false := beqN (by omega)
      go_enter Tryz.func28, Tryz.ntmps28
      go_upto_region 1 with fail
      refine wp_named fun W0 hW0 => ?_
      have hc0 : Ch [] w W0 := by rw [hW0]; exact ((Ch.refl _ _).alloc _).alloc _
      have hb0 : blk W0 w.heap.size [.slice (some ⟨lb, 0, none⟩) nl lc] := by rw [hW0]; exact (blk.new' _ _ (by simp)).alloc _
      have hb1 : blk W0 (w.heap.size + 1) [.slice ya yl.length yc] := by rw [hW0]; exact blk.new' _ _ (by simp)
      have d0 := hb0.cell (i := 0) rfl
      have d1 := hb1.cell (i := 0) rfl
      clear hW0 hb0 hb1
      have hLL := HL.out W0 hc0
      have HC0 := Lib.hid hc0; clear hc0
      go_wp2_with fail
      refine hLL.mono ?_
      rintro e w' ⟨rfl, rfl⟩
      clear hLL
      go_wp2_with fail
      refine (HAR.out _).mono ?_
      rintro e w' ⟨rfl, rfl⟩
      go_wp2_with fail
      refine (HRR.out _).mono ?_
      rintro e w' ⟨rfl, rfl⟩
      go_wp2_with fail
      go_ret2
      exact ⟨_, rfl, GVo.none H.out HC0.out⟩
    · rw [hr, if_neg (by simp)] at hWW
      simp only [hr] at hRr
      have hyb : 1 ≤ y.l.length ∧ y.l.length ≤ 16 := by unfold right26 at hr; simp at hr; omega
      have hchk := fun (W : World) (q : Nat) (hW : Ch [] w W) (hq : blk W q [.slice (some ⟨lb, 0, none⟩) nl lc]) =>
        mcheck_is (h.same hW (by simp)) ((hWL.ch hW).ls (hq.cell (i := 0) rfl)) (n := 1) (c := 1) (by omega) (by rw [lsW_one]; omega) (by rw [lsW_one]; omega) (RS.wv (hy.ch hW) hyc) (RS.nil W) (by omega) (by omega) (by intro z hz; simp at hz; exact hy.ok.bd z hz)
      simp only [lsW_one, hcc] at hchk
      have hbuild : cc = 0 → ∀ (W1 : World), Ch [] w W1 → blk W1 w.heap.size [.slice (some ⟨lb, 0, none⟩) nl lc] → blk W1 (w.heap.size + 1) [y.val] →
          Calls Tryz.prog 78 #[.pointer (some ⟨g, 0, none⟩), .func (.func 93) #[] #[.pointer (some ⟨w.heap.size, 0, none⟩), .pointer (some ⟨w.heap.size + 1, 0, none⟩)]] W1 fun e w' => ∃ v, e = .returned (.tuple #[v, .int .i64 S.1.2]) ∧ MB W1 g G F S.1 (PostW W1 S.2) mzW v w' := fun h0 W1 hW1 k1 k2 => by
        obtain ⟨o1, o2, o3, o4, _⟩ := hok h0
        have hne : Ls.map WV.l ≠ [] := fun e => by rw [e] at hll; simp at hll; omega
        refine mbuildW_is (h.same hW1 (by simp)) 93 _ fnvmRead1 S.1 _ (fun W m hm hW hM => ?_)
        have hall := hW1.trans hW (by simp)
        have hm2 : w.heap.size ≤ m := Nat.le_trans hW1.size hm
        have hyw : WVin W (m :: F) ⟨y.a, natInts (nats y.l), y.c⟩ := by
          rw [o4.cast]
          exact ⟨(hy.ch hall).ok, hy.blks hall hm2⟩
        have hc1 := (k1.ch hW (by simp)).cell (i := 0) rfl
        have hc2 := (k2.ch hW (by simp)).cell (i := 0) (v := y.val) rfl
        unfold WV.val at hc2
        have l1 := k1.lt
        have l2 := k2.lt
        have hnF : ∀ b, w.heap.size ≤ b → b < W1.heap.size → b ∉ m :: F := fun b hb hb2 hin => by
          simp only [List.mem_cons] at hin
          rcases hin with e | hin
          · omega
          · have := h.lt b hin; omega
        have h1 := mRead1_is hM (Ls := Ls) (lc := lc) (width := ((Ls.map WV.l).headD []).length) (hWL.up hall hm2) (fun x hx => o1 x.l (List.mem_map.2 ⟨x, hx, rfl⟩)) hnl (o3 hne) hyw (by rw [nats_len]) hyb.1 hyb.2 o4.lt rfl hc1 hc2 (hnF _ (by omega) l1) (hnF _ (by omega) l2)
        rw [show (Ls.map fun x => nats x.l) = (Ls.map WV.l).map nats by rw [List.map_map]; rfl, hS] at h1
        refine h1.mono ?_
        rintro e W' ⟨v, rfl, hrw⟩
        obtain ⟨P, F', q1, q2, q3, q4, q5, q6⟩ := hrw.post hW
        exact ⟨v, P, F', rfl, q1, q2, q3, q4, q5, q6⟩
      obtain ⟨ya, yl, yc⟩ := y
      simp only [WV.val] at *
      clear hok hcc hS hA hWL
      have HL := Lib.hid hL; clear hL
      have HAR := Lib.hid hAr; clear hAr
      have HRR := Lib.hid hRr; clear hRr
      have HCHK := Lib.hid hchk; clear hchk
      have HBU := Lib.hid hbuild; clear hbuild
      have H := Lib.hid h; clear h
      have HWW := Lib.hid hWW; clear hWW
      have hn0 : ((G.nodes.length : Int) == 0) = false := beqN (by omega)
      clear hy
      go_enter Tryz.func28, Tryz.ntmps28
      go_upto_region 1 with fail
      refine wp_named fun W0 hW0 => ?_
      have hc0 : Ch [] w W0 := by rw [hW0]; exact ((Ch.refl _ _).alloc _).alloc _
      have hb0 : blk W0 w.heap.size [.slice (some ⟨lb, 0, none⟩) nl lc] := by rw [hW0]; exact (blk.new' _ _ (by simp)).alloc _
      have hb1 : blk W0 (w.heap.size + 1) [.slice ya yl.length yc] := by rw [hW0]; exact blk.new' _ _ (by simp)
      have d0 := hb0.cell (i := 0) rfl
      have d1 := hb1.cell (i := 0) rfl
      have l0 := hb0.lt
      have l1 := hb1.lt
      clear hW0
      have hLL := HL.out W0 hc0
      have HC0 := Lib.hid hc0; clear hc0
      have HB0 := Lib.hid hb0; clear hb0
      have HB1 := Lib.hid hb1; clear hb1
      go_wp2_with fail
      refine hLL.mono ?_
      rintro e w' ⟨rfl, rfl⟩
      clear hLL
      go_wp2_with fail
      refine (HAR.out _).mono ?_
      rintro e w' ⟨rfl, rfl⟩
      go_wp2_with fail
      refine (HRR.out _).mono ?_
      rintro e w' ⟨rfl, rfl⟩
      go_wp2_with fail
      refine calls_named fun W1 hW1 => ?_
      have hc1 := alw_ch hW1
      have e1 := alw_blk (xs := [.slice (some ⟨lb, 0, none⟩) nl lc]) hW1
      clear hW1
      refine (HCHK.out W1 _ (HC0.out.trans hc1 (by simp)) e1).mono ?_
      rintro e w2 ⟨rfl, hc2⟩
      have hc02 := hc1.trans hc2 (by simp)
      have HC2 := Lib.hid (HC0.out.trans hc02 (by simp))
      have HB0' := Lib.hid (HB0.out.ch hc02 (by simp))
      have HB1' := Lib.hid (HB1.out.ch hc02 (by simp))
      clear e1 hc1 hc2 hc02 d0 d1 HB0 HB1 HCHK
      by_cases hz : cc = 0
      · have hBB := HBU.out hz w2 HC2.out HB0'.out HB1'.out
        have hww := HWW.out
        rw [if_neg (by simp [hz])] at hww
        subst hz
        have HBB := Lib.hid hBB; clear hBB HBU
        have HW2 := Lib.hid hww; clear hww
        go_wp2_with fail
        refine HBB.out.mono ?_
        rintro e w3 ⟨v, rfl, hmb⟩
        have hgv := MB.gvo HC2.out hmb
        rw [HW2.out] at hgv
        have HGV := Lib.hid hgv; clear hgv hmb
        go_wp2_with fail
        go_ret2
        exact ⟨_, by rw [← HW2.out, wres_e]; rfl, HGV.out⟩
      · have hq : ((cc : Int) != 0) = true := by simp; omega
        have hww := HWW.out
        rw [if_pos hz] at hww
        have HW2 := Lib.hid hww; clear hww
        have HZ := Lib.hid hz; clear hz
        go_wp2_with fail
        go_ret2
        exact ⟨_, by rw [← HW2.out]; rfl, by rw [← HW2.out]; exact GVo.none H.out HC2.out⟩
end
end Go.Proofs.YtdmmanfjafempaaGreat
namespace Go.Aig
/-- the elements of a list with their numbers, the last one first -/
def bwd (l : List Nat) : List (Nat × Nat) := (List.range l.length).reverse.map fun i => (i, l.getD i 0)
theorem bwd_len (l : List Nat) : (bwd l).length = l.length := by simp [bwd]
theorem bwd_at {l : List Nat} {k j r : Nat} (hk : k + j + 1 = l.length) (hr : l[j]? = some r) : (bwd l)[k]? = some (j, r) := by
  unfold bwd
  rw [List.getElem?_map, List.getElem?_reverse (by simp; omega), List.length_range, List.getElem?_range (by omega), show l.length - 1 - k = j by omega]
  show some (j, l.getD j 0) = _
  rw [List.getD_eq_getElem?_getD, hr]
  rfl
end Go.Aig
namespace Go.Proofs.YtdmmanfjafempaaGreat
open Go.RowKit Go.Mem Go.Aig
theorem fnvBwref1 : Fnv 128 := fnv_of Tryz.func128 (by simp [Tryz.f128]) (by simp [Tryz.f128])
set_option maxRecDepth 100000 in
set_option maxHeartbeats 2000000 in
theorem Bw_seq (w : World) (F : Fence) (n : Nat) (hf : F.fn 128) (hro : F.round = none) (hn : 1 ≤ n) {bx : Nat} {xa : Option Addr} {x : List Nat} (len xc : Nat) (hxl : x.length = len) (hbx : w.cell? ⟨bx, 0, none⟩ = some (.slice xa len xc)) (hx : Sl w xa (x.map fun (r : Nat) => (r : Int))) :
    SeqP F n Tryz.prog 128 #[.pointer (some ⟨bx, 0, none⟩)] fitEnc (bx :: ablk xa) (bwd x) w := by
  subst hxl
  intro lp J Jx W hK hJ hJx hY h0
  have hbd := hx.bd
  rw [List.length_map] at hbd
  show CallsIn F n Tryz.prog 128 #[.func (.yield lp) #[] #[], .pointer (some ⟨bx, 0, none⟩)] W _
  have HY := Lib.hid hY; clear hY
  have HJ := Lib.hid hJ; clear hJ
  have HJX := Lib.hid hJx; clear hJx
  have H0 := Lib.hid h0; clear h0
  have HK := Lib.hid hK; clear hK
  have HX := Lib.hid hx; clear hx
  have HBX := Lib.hid hbx; clear hbx
  have bx1 := keep_cell (HK.out bx (by simp)) HBX.out
  refine callsIn_of_wp Tryz.func128 rfl hf ?_ hro
  simp only [Tryz.ntmps128, List.size_toArray, List.length_cons, List.length_nil, Nat.reduceAdd, Nat.reduceSub, Array.replicate_succ, Array.replicate_zero, List.push_toArray, List.append_toArray, List.nil_append, List.cons_append]
  gi_wp2
  clear bx1
  gi_loopw [3] (fun i wr => ∃ j : Nat, j ≤ x.length ∧ i = .int .i64 ((j : Int) - 1) ∧ (∀ q ∈ bx :: ablk xa, wr.heap[q]? = w.heap[q]?) ∧ J ((bwd x).take (x.length - j)) wr) (fun i _ => (intOf i + 1).toNat)
  case atStart => exact ⟨x.length, Nat.le_refl _, rfl, HK.out, by rw [Nat.sub_self]; exact H0.out⟩
  case round =>
    obtain ⟨j, hj, rfl, hq, hjj⟩ := hrel
    by_cases hlt : j = 0
    · subst hlt
      have hkl : (bwd x).take (x.length - 0) = bwd x := List.take_of_length_le (by rw [bwd_len]; omega)
      rw [hkl] at hjj
      have HJ1 := Lib.hid hjj; clear hjj
      clear hkl
      gi_wp2
      go_end0
      exact ⟨⟨_, rfl⟩, .inl HJ1.out⟩
    · obtain ⟨i, rfl⟩ : ∃ i, j = i + 1 := ⟨j - 1, by omega⟩
      have ei : ((i + 1 : Nat) : Int) - 1 = (i : Int) := by omega
      rw [ei]
      obtain ⟨r, hr⟩ : ∃ r, x[i]? = some r := ⟨_, List.getElem?_eq_getElem (by omega)⟩
      obtain ⟨xb, xo, rfl, hxc⟩ := HX.out.cells i (r : Int) (by simp [hr])
      have d0 := keep_cell (hq xb (by simp [ablk])) hxc
      have e0 := keep_cell (hq bx (by simp)) HBX.out
      have hz : (bwd x)[x.length - (i + 1)]? = some (i, r) := bwd_at (by omega) hr
      have hsu : (bwd x).take (x.length - i) = (bwd x).take (x.length - (i + 1)) ++ [(i, r)] := by
        rw [show x.length - i = (x.length - (i + 1)) + 1 by omega, List.take_add_one, hz]; rfl
      obtain ⟨fn, tmps, assign, body, hy1, hR⟩ := HY.out _ (i, r) _ hjj (by rw [← hsu]; exact List.take_prefix _ _)
      simp only [fitEnc] at hy1
      have hge : decide ((i : Int) ≥ 0) = true := decide_eq_true (by omega)
      have HQ := Lib.hid hq; clear hq
      have HJ1 := Lib.hid hjj; clear hjj
      have HSU := Lib.hid hsu; clear hsu
      clear hr hxc hz ei hlt
      gi_wp2
      refine hR.mono ?_
      rintro e W2 (⟨rfl, hJ2, hk2⟩ | ⟨rfl, hJ2⟩)
      · have HJ2 := Lib.hid hJ2; clear hJ2
        have HK2 := Lib.hid hk2; clear hk2
        gi_wp2
        go_roundw
        case rel => exact ⟨i, by omega, by go_num, fun q hq => (HK2.out q hq).trans (HQ.out q hq), by rw [HSU.out]; exact HJ2.out⟩
        case measure => simp [intOf]
      · have HJ2 := Lib.hid hJ2; clear hJ2
        gi_wp2
        refine bodyPost_ret (results_none rfl _ _ _) rfl ?_
        exact ⟨⟨_, rfl⟩, .inr HJ2.out⟩
set_option maxRecDepth 100000 in
set_option maxHeartbeats 1000000 in
theorem Bwref_is {w : World} (xa : Option Addr) (n xc : Nat) :
    Calls Tryz.prog 81 #[.slice xa n xc] w fun e w' => e = .returned (.func (.func 128) #[] #[.pointer (some ⟨w.heap.size, 0, none⟩)]) ∧ w' = w.alloc (.cells #[.slice xa n xc] 40) := by
  go_enter Tryz.func81, Tryz.ntmps81
  go_wp2_with fail
  go_ret
  exact ⟨rfl, rfl⟩
end Go.Proofs.YtdmmanfjafempaaGreat
namespace Go.Aig
def pickS (L : List (List Nat)) (q : Mk × List Nat) (p : Nat × Nat) : Mk × List Nat := chF p.2 q.1 ((L.getD p.1 []).zip q.2)
/-- a pick, the last guard first -/
def pickF (L : List (List Nat)) (s : Mk × List Nat) (l : List (Nat × Nat)) : Mk × List Nat := l.foldl (pickS L) s
theorem pickF_snoc (L : List (List Nat)) (s : Mk × List Nat) (l : List (Nat × Nat)) (p : Nat × Nat) : pickF L s (l ++ [p]) = pickS L (pickF L s l) p := by unfold pickF; rw [List.foldl_append]; rfl
end Go.Aig
namespace Go.Proofs.YtdmmanfjafempaaGreat
open Go.RowKit Go.Mem Go.Aig
attribute [local go_sem] Oper.semAt_some
theorem fnvmPick1 : Fnv 79 := fnv_of Tryz.func79 (by simp [Tryz.f79]) (by simp [Tryz.f79])
theorem CH.chs {W : World} {g m : Nat} {G : Gra} {P : Mk} {F' : List Nat} {S : Mk × List Nat} {n ob : Nat} {v u : Value} {w1 : World} (h : CH W g m G P F' S n v w1) : Ch (m :: ob :: F') W (w1.setCell ⟨ob, 0, none⟩ u) := by
  obtain ⟨_, _, _, _, _, _, _, F1, _, hc1, _⟩ := h
  have hcs : Ch [ob] w1 (w1.setCell ⟨ob, 0, none⟩ u) := (Ch.refl _ _).setCell (by simp) _
  exact (hc1.mono (F' := m :: ob :: F') (fun k hk => .inl (by simp only [List.nil_append, List.mem_cons] at hk ⊢; exact hk.imp id .inr))).trans hcs (fun k hk => .inl (by simp at hk; simp [hk]))
theorem CH.cong {W : World} {g m : Nat} {G : Gra} {P : Mk} {F' : List Nat} {S S' : Mk × List Nat} {n : Nat} {v : Value} {w1 : World} (h : CH W g m G P F' S n v w1) (e1 : S'.1 = S.1) (e2 : S.1.2 = 0 → S'.2 = S.2) : CH W g m G P F' S' n v w1 := by
  obtain ⟨P', l, h1, h2, h3⟩ := h
  exact ⟨P', l, by rw [e1]; exact h1, fun h0 => by rw [e1] at h0; rw [e2 h0]; exact h2 h0, h3⟩
/-- Pick's state between two rounds -/
def PInv (W0 : World) (lo g m : Nat) (G : Gra) (F : List Nat) (ob width : Nat) (Q : Mk × List Nat) (W : World) : Prop := ∃ va vc P l F', RI W0 lo g m G F ob width Q.1 Q.2 W (.slice va width vc) P l F'
theorem bwd_mem {l : List Nat} {p : Nat × Nat} (h : p ∈ bwd l) : p.1 < l.length ∧ p.2 ∈ l := by
  unfold bwd at h
  obtain ⟨i, hi, rfl⟩ := List.mem_map.1 h
  have h2 : i < l.length := by simpa using hi
  refine ⟨h2, ?_⟩
  show l.getD i 0 ∈ l
  rw [List.getD_eq_getElem?_getD, List.getElem?_eq_getElem h2]
  exact List.getElem_mem h2
section
variable {w : World} {g m : Nat} {G : Gra} {F : List Nat}
set_option maxRecDepth 100000 in
set_option maxHeartbeats 4000000 in
theorem mPick1_is (h : MIn w g m (G, 0) F) {Ls : List WV} {lb nl lc n gc width : Nat} {gs : List Nat} {ga : Option Addr} (hL : WL w (m :: F) lb nl Ls) (hW : ∀ x ∈ Ls, WOf G width x.l) (hnl : 1 ≤ nl ∧ nl ≤ 256) (hw : width ≤ 16)
    (hg : WVin w (m :: F) ⟨ga, natInts gs, gc⟩) (hgl : gs.length = n) (hn : n + 1 = nl) (hgr : ∀ r ∈ gs, r < 2 * G.nodes.length)
    {bl b2 : Nat} (hbl : w.cell? ⟨bl, 0, none⟩ = some (.slice (some ⟨lb, 0, none⟩) nl lc)) (hby : w.cell? ⟨b2, 0, none⟩ = some (.slice ga n gc)) (hblF : bl ∉ m :: F) (hbyF : b2 ∉ m :: F) :
    Calls Tryz.prog 79 (#[.pointer (some ⟨m, 0, none⟩)] ++ #[.pointer (some ⟨bl, 0, none⟩), .pointer (some ⟨b2, 0, none⟩)]) w fun e W' => ∃ v, e = .returned v ∧ RW w g m G F (pickF (Ls.map fun x => nats x.l) ((G, 0), (Ls.map fun x => nats x.l).getD n []) (bwd gs)) v W' := by
  show Calls Tryz.prog 79 #[.pointer (some ⟨m, 0, none⟩), .pointer (some ⟨bl, 0, none⟩), .pointer (some ⟨b2, 0, none⟩)] w _
  have hml := h.bk.lt
  have hFl := h.gin.lt
  have hok := h.gin.ok
  have hpos := hok.wf.pos
  obtain ⟨x0, hx0⟩ : ∃ x, Ls[n]? = some x := ⟨_, List.getElem?_eq_getElem (by rw [hL.len]; omega)⟩
  have hx0m := List.mem_of_getElem? hx0
  have hc00 := hL.cells n x0 hx0
  have hx0w := hW x0 hx0m
  have hx0v := hL.words x0 hx0m
  obtain ⟨LN, hLN⟩ : ∃ LN, LN = Ls.map fun x => nats x.l := ⟨_, rfl⟩
  rw [← hLN]
  have hLg : ∀ i x, Ls[i]? = some x → LN.getD i [] = nats x.l := fun i x hx => by rw [hLN, List.getD_eq_getElem?_getD, List.getElem?_map, hx]; rfl
  rw [hLg n x0 hx0]
  have hCl := fun (W : World) (hW : Ch [] w W) => Clref_w (hx0v.ch hW).ok width hx0w.len
  unfold WV.val at hc00
  rw [hx0w.len] at hc00
  have H := Lib.hid h; clear h
  have HL := Lib.hid hL; clear hL
  have HW := Lib.hid hW; clear hW
  have HGW := Lib.hid hg; clear hg
  have HLG := Lib.hid hLg; clear hLg
  have hbllt := cell_lt hbl
  have hbylt := cell_lt hby
  have hlblt := cell_lt hc00
  simp only at hbllt hbylt hlblt
  have HBL := Lib.hid hbl
  have HBY := Lib.hid hby
  have HOK := Lib.hid hok; clear hok
  have HX0 := Lib.hid hx0w; clear hx0w hx0v hx0m hx0
  have HCLN := Lib.hid hCl; clear hCl
  obtain ⟨x0a, x0l, x0c⟩ := x0
  simp only at hc00 HX0 HCLN
  obtain ⟨RQ, hRQ⟩ : ∃ RQ : List (Nat × Nat) → Mk × List Nat, ∀ l, RQ l = pickF LN ((G, 0), nats x0l) l := ⟨_, fun _ => rfl⟩
  have hR0 : RQ [] = ((G, 0), nats x0l) := by rw [hRQ]; rfl
  have hRS : ∀ l p, RQ (l ++ [p]) = pickS LN (RQ l) p := fun l p => by rw [hRQ, hRQ, pickF_snoc]
  rw [← hRQ]
  have HR0 := Lib.hid hR0; clear hR0
  have HRS := Lib.hid hRS; clear hRS
  clear hLN hRQ
  have en : (nl : Int) - 1 = (n : Int) := by omega
  refine (callsIn_wide (n := 4)).1 ?_
  refine callsIn_of_wp_marks Tryz.func79 rfl trivial ?_ rfl
  simp only [Tryz.ntmps79, List.size_toArray, List.length_cons, List.length_nil, Nat.reduceAdd, Nat.reduceSub, Array.replicate_succ, Array.replicate_zero, List.push_toArray, List.append_toArray, List.nil_append, List.cons_append]
  refine wpIn_wide.2 ?_
  go_wp2_with fail
  refine calls_named fun W1 hW1 => ?_
  have hc1 := alw_ch hW1
  have hbm := alw_blk (xs := [.pointer (some ⟨m, 0, none⟩)]) hW1
  clear hW1
  have hbl1 := (hc1.cell (cell_lt hbl) (by simp)).trans hbl
  have hby1 := (hc1.cell (cell_lt hby) (by simp)).trans hby
  clear hbl hby hc00
  refine (HCLN.out W1 hc1).mono ?_
  rintro e W2 ⟨v, rfl, hrow, hown, hc2⟩
  have e1 : (intCells x0l).length = width := by rw [show (intCells x0l).length = x0l.length by simp [intCells]]; exact HX0.out.len
  rw [e1] at hrow
  obtain ⟨va0, vc0, rfl⟩ := row.shape hrow
  have hbm2 := hbm.ch hc2 (by simp)
  have hbl2 := (hc2.cell (cell_lt hbl1) (by simp)).trans hbl1
  have hby2 := (hc2.cell (cell_lt hby1) (by simp)).trans hby1
  have hbml := hbm.lt
  clear hbm hbl1 hby1 e1
  have HROW := Lib.hid hrow; clear hrow
  have HOWN := Lib.hid hown; clear hown
  have HBM := Lib.hid hbm2; clear hbm2
  have HC1 := Lib.hid hc1; clear hc1
  have HC2 := Lib.hid hc2; clear hc2
  have HBL2 := Lib.hid hbl2; clear hbl2
  have HBY2 := Lib.hid hby2; clear hby2
  go_upto_region 2 with fail
  refine wp_named fun W3 hW3 => ?_
  have hc3 : Ch [] W2 W3 := by rw [hW3]; exact (Ch.refl _ _).alloc _
  have hbo : blk W3 W2.heap.size [.slice va0 width vc0] := by rw [hW3]; exact blk.new' _ _ (by simp)
  clear hW3
  have c_l := (hc3.cell (cell_lt HBL2.out) (by simp)).trans HBL2.out
  have c_y := (hc3.cell (cell_lt HBY2.out) (by simp)).trans HBY2.out
  generalize hob : W2.heap.size = ob at *
  have HOB0 := Lib.hid hob; clear hob
  have HC3 := Lib.hid hc3; clear hc3
  have HBO := Lib.hid hbo; clear hbo
  go_wp2_with fail
  refine (Bwref_is ga n gc).mono ?_
  rintro e W0 ⟨rfl, hW0⟩
  have hc0 : Ch [] W3 W0 := alw_ch hW0
  have hbw := alw_blk (xs := [.slice ga n gc]) hW0
  have hcw : Ch [] w W0 := ((HC1.out.trans HC2.out (by simp)).trans HC3.out (by simp)).trans hc0 (by simp)
  have hz3 := HC3.out.size
  have hz2 := HC2.out.size
  have hz1 := HC1.out.size
  have hbw1 := hbw.lt
  have hbo0 := HBO.out.ch hc0 (by simp)
  have hobl := HBO.out.lt
  have hr0 := ((HROW.out.ch HC3.out (by simp)).ch hc0 (by simp))
  have hbm0 := (HBM.out.ch HC3.out (by simp)).ch hc0 (by simp)
  have hobe := HOB0.out
  have hob1 : w.heap.size < ob := by omega
  have hob2 : ob < W0.heap.size := by have := hc0.size; omega
  have hbwn : W3.heap.size ≠ ob := by omega
  have hbwl : w.heap.size ≤ W3.heap.size := by omega
  clear hW0 c_l c_y hobe hz1 hz2 hz3
  go_wp2_with fail
  generalize W3.heap.size = bw at *
  have key : ∀ k, k < w.heap.size → k ∉ m :: F → k ∉ m :: ob :: F := fun k hk hn => by
    simp only [List.mem_cons, not_or] at hn ⊢
    exact ⟨hn.1, by omega, hn.2⟩
  have hFR : FR W0 m F ob := ⟨fun k hk => by
    have hz := hcw.size
    simp only [List.mem_cons] at hk
    rcases hk with rfl | hk
    · omega
    · have := hFl k hk; omega, hob2, by omega, fun hin => by have := hFl _ hin; omega⟩
  have hL0 : WL W0 (m :: ob :: F) lb nl Ls := by
    have h0 := HL.out.ch hcw
    exact ⟨h0.len, h0.cells, fun x hx => ⟨(h0.words x hx).ok, fun k hk => ⟨key k ((HL.out.words x hx).apart k hk).2 ((h0.words x hx).apart k hk).1, ((h0.words x hx).apart k hk).2⟩⟩, key _ HL.out.apart.2 h0.apart.1, h0.apart.2⟩
  have hG0 : WVin W0 (m :: ob :: F) ⟨ga, natInts gs, gc⟩ := ⟨(HGW.out.ch hcw).ok, fun k hk => ⟨key k (HGW.out.apart k hk).2 (HGW.out.apart k hk).1, ((HGW.out.ch hcw).apart k hk).2⟩⟩
  have hbl0 := (hcw.cell (cell_lt HBL.out) (by simp)).trans HBL.out
  have hblN : bl ∉ m :: ob :: F := key bl hbllt hblF
  have hnin : ∀ b, w.heap.size ≤ b → b ≠ ob → b ∉ m :: ob :: F := fun b hb hne => by
    simp only [List.mem_cons, not_or]
    exact ⟨by omega, hne, fun hin => by have := hFl _ hin; omega⟩
  have hRI0 : RI W0 w.heap.size g m G F ob width (RQ []).1 (RQ []).2 W0 (.slice va0 width vc0) (G, 0) (nats x0l) F := by
    rw [HR0.out]
    refine ⟨Sim.start HOK.out, fun _ => rfl, by rw [nats_len]; exact HX0.out.len, HX0.out.lt, H.out.same hcw (by simp), Ch.refl _ _, fun k hk => .inl hk, rfl, hbo0, ?_, fun k hk => ?_⟩
    · rw [refs_natInts, HX0.out.cast]; exact hr0
    · have h1 := HOWN.out k (by simpa using hk)
      have h2 := (HROW.out.lt k hk).2
      have h3 := HC1.out.size
      have h4 := HOB0.out
      have h5 := hcw.size
      refine ⟨by omega, ?_, by omega, by omega⟩
      simp only [List.mem_cons, not_or]
      exact ⟨by omega, by omega, fun hin => by have := hFl _ hin; omega⟩
  have hseq := Bw_seq W0 Fence.wide 3 trivial rfl (by omega) n gc hgl (hbw.cell (i := 0) rfl) hG0.ok.sl
  have hKn : ∀ k ∈ bw :: ablk ga, k ∉ m :: ob :: F ∧ k < W0.heap.size := fun k hk => by
    simp only [List.mem_cons] at hk
    rcases hk with rfl | hk
    · exact ⟨hnin _ hbwl hbwn, hbw1⟩
    · exact hG0.apart k hk
  have HKN := Lib.hid hKn; clear hKn
  have HFR := Lib.hid hFR; clear hFR
  have HL0 := Lib.hid hL0; clear hL0
  have HRI0 := Lib.hid hRI0; clear hRI0
  have HCW := Lib.hid hcw; clear hcw
  have HMB0 := Lib.hid hbm0; clear hbm0
  have HNIN := Lib.hid hnin; clear hnin
  have HBL0 := Lib.hid hbl0; clear hbl0
  clear hbo0 hr0 hbw hG0 key hc0
  refine (wpIn_wide (n := 4)).1 ?_
  refine wpIn_rangeFunc_P (n := 4) W0.heap.size rfl rfl (by omega) rfl trivial (fun args w => fnvBwref1 args w) hseq ?kb (fun _ => rfl)
    (fun pre W => PInv W0 w.heap.size g m G F ob width (RQ pre) W)
    (fun _ => False) ?hi (fun _ _ h _ => h) ⟨_, _, _, _, _, HRI0.out⟩ ?a1 ?assign ?body ?done (fun _ h _ _ => h.elim)
  case assign =>
    intro q x W K hK
    simp only [fitEnc]
    gi_wp2
    exact hK
  case kb => exact fun k hk => (HKN.out k hk).2
  case hi =>
    rintro pre A A' ⟨va, vc, P, l, F', h⟩ hc
    exact ⟨va, vc, P, l, F', h.same HFR.out hc⟩
  case body =>
    rintro q pre ⟨i, r⟩ W ⟨va, vc, P, l, F', hE⟩ hWl hpx
    have hpm := bwd_mem (List.IsPrefix.subset hpx (List.mem_append_right pre (List.mem_singleton.2 rfl)))
    simp only at hpm
    obtain ⟨hin, hrm⟩ := hpm
    rw [hgl] at hin
    have hrl : r < 2 * P.1.nodes.length := hE.sim.ext.lt (hgr r hrm)
    obtain ⟨x, hx⟩ : ∃ x, Ls[i]? = some x := ⟨_, List.getElem?_eq_getElem (by rw [HL0.out.len]; omega)⟩
    have hmem := List.mem_of_getElem? hx
    have hwo := HW.out x hmem
    have hlg := HLG.out i x hx
    have hlo := hE.out
    have hSe : RQ (pre ++ [(i, r)]) = chF r (RQ pre).1 ((nats x.l).zip (RQ pre).2) := by
      rw [HRS.out]; unfold pickS; rw [hlg]
    have hCHO : ∀ Wc, RI W0 w.heap.size g m G F ob width (RQ pre).1 (RQ pre).2 Wc (.slice va width vc) P l F' → Calls Tryz.prog 82 #[.pointer (some ⟨m, 0, none⟩), .int .i64 r, .slice x.a width x.c, .slice va width vc] Wc fun e w' => ∃ v, e = .returned v ∧ CH Wc g m G P F' (RQ (pre ++ [(i, r)])) width v w' := fun Wc h => by
      obtain ⟨k1, k2⟩ := h.word (HL0.out.words x hmem)
      have hz := h.ch.size
      refine (mchoose_is h.mem h.sim hrl (x := nats x.l) (y := l) width x.c vc (by rw [nats_len, hwo.len]) h.len (by omega) (by rw [show ((nats x.l).map fun (r : Nat) => (r : Int)) = x.l from hwo.cast]; exact k1.ok.sl) ?_ k2 ?_ (fun q hq => h.sim.ext.lt (hwo.lt q hq)) h.all).mono ?_
      · have := h.row
        rw [refs_natInts] at this
        exact Sl.of_ints this (by omega)
      · intro k hk
        cases va with
        | none => simp [ablk] at hk
        | some p =>
          simp only [ablk, List.mem_singleton] at hk
          subst hk
          have h3 := (h.fresh p.block rfl).2.1
          simp only [List.mem_cons, not_or] at h3 ⊢
          exact ⟨⟨h3.1, h3.2.2⟩, (h.row.lt p.block rfl).2⟩
      · rintro e w' ⟨v, rfl, hch⟩
        refine ⟨v, rfl, hch.cong ?_ ?_⟩
        · rw [hSe]
          by_cases h0 : (RQ pre).1.2 = 0
          · rw [← hlo h0]
          · rw [chF_bad0 h0, chF_bad0 h0]
        · intro h9
          rw [hSe]
          by_cases h0 : (RQ pre).1.2 = 0
          · rw [← hlo h0]
          · rw [chF_bad0 h0] at h9; exact absurd h9 h0
    have c_x := hE.cell (HL0.out.cells i x hx) HL0.out.apart.1
    unfold WV.val at c_x
    rw [hwo.len] at c_x
    have c_l := hE.cell HBL0.out hblN
    have c_m := hE.cell (HMB0.out.cell (i := 0) rfl) (HNIN.out _ (by omega) (by omega))
    have HCHO := Lib.hid hCHO; clear hCHO
    have HE := Lib.hid hE; clear hE
    clear hx hmem hwo hlg hlo hSe hrl hrm hpx
    obtain ⟨xa, xl, xc⟩ := x
    simp only at c_x HCHO
    have hil : i < nl := by omega
    clear hin
    gi_wp2
    refine Ord.St.doorR (fun _ => True) [.rd, .fl, .rd, .fl, .fl, .rd, .rd, .ef, .ef] [0, 0, 0, 0, 12, 28, 0, 127, 255] [0, 1, 2, 3, 4, 5, 6, 7, 8] mixed (by kernel_rfl) (by kernel_rfl) rfl ?_
    obtain ⟨Wc, hWc⟩ : ∃ Wc, Wc = W.drew := ⟨_, rfl⟩
    rw [← hWc]
    have hcur : Ch [] W Wc := by rw [hWc]; exact (Ch.refl _ _).drew
    clear hWc
    have hE := HE.out.same HFR.out (hcur.mono (by simp))
    replace c_x := (hcur.cell (cell_lt c_x) (by simp)).trans c_x
    replace c_l := (hcur.cell (cell_lt c_l) (by simp)).trans c_l
    replace c_m := (hcur.cell (cell_lt c_m) (by simp)).trans c_m
    have c_o := hE.bx.cell (i := 0) rfl
    have HCC := Lib.hid (HCHO.out Wc hE)
    have hWc : W0.heap.size + 2 ≤ Wc.heap.size := Nat.le_trans hWl hcur.size
    clear HE HCHO
    have HE := Lib.hid hE; clear hE
    have HCUR := Lib.hid hcur; clear hcur
    refine Ord.St.rd2 (T' := ?_) 0 [1, 2, 3, 4, 5, 6, 7, 8] _ _ rfl (by kernel_rfl) rfl rfl rfl rfl (fun K hk => ?_) ?_
    rotate_left
    · go_step; exact hk
    refine Ord.St.fl2 (T' := ?_) 1 [2, 3, 4, 5, 6, 7, 8] _ _ rfl (by kernel_rfl) rfl rfl rfl rfl (fun K w' hk => ?_) ?_
    rotate_left
    · go_step; exact hk
    refine Ord.St.rd2 (T' := ?_) 2 [3, 4, 5, 6, 7, 8] _ _ rfl (by kernel_rfl) rfl rfl rfl rfl (fun K hk => ?_) ?_
    rotate_left
    · go_step; exact hk
    refine Ord.St.fl2 (T' := ?_) 3 [4, 5, 6, 7, 8] _ _ rfl (by kernel_rfl) rfl rfl rfl rfl (fun K w' hk => ?_) ?_
    rotate_left
    · go_step; exact hk
    refine Ord.St.fl2 (T' := ?_) 4 [5, 6, 7, 8] _ _ rfl (by kernel_rfl) rfl rfl rfl rfl (fun K w' hk => ?_) ?_
    rotate_left
    · go_step; exact hk
    refine Ord.St.rd2 (T' := ?_) 5 [6, 7, 8] _ _ rfl (by kernel_rfl) rfl rfl rfl rfl (fun K hk => ?_) ?_
    rotate_left
    · go_step; exact hk
    refine Ord.St.rd2 (T' := ?_) 6 [7, 8] _ _ rfl (by kernel_rfl) rfl rfl rfl rfl (fun K hk => ?_) ?_
    rotate_left
    · go_step; exact hk
    refine Ord.St.ef 7 [8] _ rfl (by kernel_rfl) (fun K hK => ?_)
    go_wp2_with fail
    refine HCC.out.mono ?_
    rintro e w1 ⟨v, rfl, hch⟩
    obtain ⟨va1, vc1, rfl⟩ := hch.shape
    have hp := HE.out.put HFR.out hWc (by omega) hch
    have hob1' := HE.out.bx.ch hch.choose_spec.choose_spec.2.2.2.2.2.choose_spec.2.1 (by have h9 := HE.out.obF HFR.out; simpa using h9)
    have hchs := hch.chs (ob := ob) (u := .slice va1 width vc1)
    have HPUT := Lib.hid hp; clear hp hch HCC
    have HCHS := Lib.hid hchs; clear hchs
    clear c_o
    have c_o := hob1'.cell (i := 0) rfl
    have f_o := hob1'.frozen (i := 0)
    go_wp2_with fail
    refine ⟨rfl, hK _ _ ?_⟩; clear hK K
    refine Ord.St.ef 8 [] _ rfl (by kernel_rfl) (fun K hK => ?_)
    go_wp2_with fail
    refine ⟨rfl, hK _ _ ?_⟩; clear hK K
    refine Ord.St.nil ?_
    gi_wp2
    obtain ⟨P1, l1, F1, hr1, hb1⟩ := HPUT.out
    refine ⟨(Books.of_ch HCUR.out hWl (by simp)).trans hb1, ⟨va1, vc1, P1, l1, F1, hr1⟩, (Kept.of_ch HCUR.out (fun k hk => ⟨?_, by simp⟩)).trans (Kept.of_ch HCHS.out (fun k hk => ⟨?_, ?_⟩))⟩
    · have := (HKN.out k hk).2; omega
    · have := (HKN.out k hk).2; omega
    · obtain ⟨h5, h6⟩ := HKN.out k hk
      simp only [List.mem_cons, not_or] at h5 ⊢
      exact ⟨h5.1, h5.2.1, fun hin => (HE.out.own k hin).elim h5.2.2 (fun h7 => by omega)⟩
  case done =>
    rintro W ⟨va, vc, P, l, F', hE⟩ hK _
    have c_o := hE.bx.cell (i := 0) rfl
    have HE := Lib.hid hE; clear hE
    have HK := Lib.hid hK; clear hK
    clear hseq
    go_wp2
    refine ⟨by simp, .inl ⟨_, _, rfl, run_takeDeferred HK.out, ?_⟩⟩
    have hE2 := HE.out.same HFR.out (A' := W.putObj W0.heap.size (.deferred none)) (ch_put (by simp))
    have hz9 := HCW.out.size
    refine ⟨_, results_tmp rfl _ _ _, .slice va width vc, rfl, P, l, hE2.sim, hE2.out, F', hE2.mem, (HCW.out.mono (by simp)).trans hE2.ch (fun k hk => ?_), fun k hk => (hE2.own k hk).imp id (fun e => by omega), hE2.map, by rw [hE2.len]; exact hE2.row, fun k hk => ?_⟩
    · simp only [List.nil_append, List.mem_cons] at hk ⊢
      rcases hk with hk | hk | hk
      · exact .inl (.inl hk)
      · exact .inr (by omega)
      · exact .inl (.inr hk)
    · obtain ⟨f1, f2, _⟩ := hE2.fresh k hk
      simp only [List.mem_cons, not_or] at f2
      exact ⟨f1, f2.2.2, f2.1⟩
end
end Go.Proofs.YtdmmanfjafempaaGreat
namespace Go.Aig
def pickG (G : Gra) (gs : List Int) (L : List (List Int)) : Gra × List Nat × Nat :=
  if array26 L.length = false then (G, [], 261) else if gs.length + 1 ≠ L.length then (G, [], 261) else if chk26 G [] gs L ≠ 0 then (G, [], chk26 G [] gs L)
  else wres G (pickF (L.map nats) ((G, 0), (L.map nats).getD gs.length []) (bwd (nats gs)))
end Go.Aig
namespace Go.Proofs.YtdmmanfjafempaaGreat
open Go.RowKit Go.Mem Go.Aig
section
variable {w : World} {g : Nat} {G : Gra} {F : List Nat}
set_option maxRecDepth 100000 in
set_option maxHeartbeats 4000000 in
theorem mPick_is (h : GIn w g G F) {la : Option Addr} {nl lc : Nat} {Ls : List WV} (hA : WA w F la nl Ls) {y : WV} (hy : WVin w F y) (hyc : y.l.length ≤ y.c) :
    Calls Tryz.prog 16 #[.pointer (some ⟨g, 0, none⟩), y.val, .slice la nl lc] w fun e w' => ∃ v, e = .returned (.tuple #[v, .int .i64 (pickG G y.l (Ls.map WV.l)).2.2]) ∧ GVo w g (pickG G y.l (Ls.map WV.l)).1 [] F v (pickG G y.l (Ls.map WV.l)).2.1 w' := by
  have hpos := h.ok.wf.pos
  have hroom := h.ok.room
  have hmost := h.ok.most
  have hL := fun (W : World) (hW : Ch [] w W) => Len_g (h.same hW (by simp))
  have hAr := fun (W : World) => marray_is (w := W) nl
  have hok := chk26_ok (G := G) (idx := []) (refs := y.l) (ws := Ls.map WV.l)
  have hlt := chk26_lt G [] y.l (Ls.map WV.l)
  have hlen := hA.len
  have hll : (Ls.map WV.l).length = nl := by rw [List.length_map]; exact hlen
  unfold pickG
  rw [hll]
  obtain ⟨cc, hcc⟩ : ∃ cc, chk26 G [] y.l (Ls.map WV.l) = cc := ⟨_, rfl⟩
  rw [hcc] at hok hlt ⊢
  obtain ⟨S, hS⟩ : ∃ S, pickF ((Ls.map WV.l).map nats) ((G, 0), ((Ls.map WV.l).map nats).getD y.l.length []) (bwd (nats y.l)) = S := ⟨_, rfl⟩
  rw [hS]
  generalize hWW : (if array26 nl = false then (G, [], 261) else if y.l.length + 1 ≠ nl then (G, [], 261) else if cc ≠ 0 then (G, [], cc) else wres G S : Gra × List Nat × Nat) = WW
  have hylen := hy.ok.len
  cases ha : array26 nl
  · rw [ha, if_pos rfl] at hWW
    simp only [ha] at hAr
    subst hWW
    obtain ⟨ya, yl, yc⟩ := y
    simp only [WV.val] at *
    clear hok hcc hS hA
    have HL := Lib.hid hL; clear hL
    have HAR := Lib.hid hAr; clear hAr
    have H := Lib.hid h; clear h
    have hn0 : ((G.nodes.length : Int) == 0) = false := beqN (by omega)
    go_enter Tryz.func16, Tryz.ntmps16
    go_upto_region 1 with fail
    refine wp_named fun W0 hW0 => ?_
    have hc0 : Ch [] w W0 := by rw [hW0]; exact ((Ch.refl _ _).alloc _).alloc _
    have hb1 : blk W0 (w.heap.size + 1) [.slice la nl lc] := by rw [hW0]; exact blk.new' _ _ (by simp)
    have d0 := hb1.cell (i := 0) rfl
    clear hW0 hb1
    have hLL := HL.out W0 hc0
    have HC0 := Lib.hid hc0; clear hc0
    go_wp2_with fail
    refine hLL.mono ?_
    rintro e w' ⟨rfl, rfl⟩
    clear hLL
    go_wp2_with fail
    refine (HAR.out _).mono ?_
    rintro e w' ⟨rfl, rfl⟩
    go_wp2_with fail
    go_ret2
    exact ⟨_, rfl, GVo.none H.out HC0.out⟩
  · rw [ha, if_neg (by simp)] at hWW
    simp only [ha] at hAr
    have hnl : 1 ≤ nl ∧ nl ≤ 256 := by unfold array26 at ha; simp at ha; omega
    obtain ⟨lb, rfl, hWL⟩ := hA.at_ hnl.1
    by_cases hr : y.l.length + 1 ≠ nl
    · rw [if_pos hr] at hWW
      have hne : ((y.l.length : Int) != (nl : Int) - 1) = true := by simp; omega
      subst hWW
      obtain ⟨ya, yl, yc⟩ := y
      simp only [WV.val] at *
      clear hok hcc hS hA hWL
      have HL := Lib.hid hL; clear hL
      have HAR := Lib.hid hAr; clear hAr
      have H := Lib.hid h; clear h
      have hn0 : ((G.nodes.length : Int) == 0) = false := beqN (by omega)
      go_enter Tryz.func16, Tryz.ntmps16
      go_upto_region 1 with fail
      refine wp_named fun W0 hW0 => ?_
      have hc0 : Ch [] w W0 := by rw [hW0]; exact ((Ch.refl _ _).alloc _).alloc _
      have hb0 : blk W0 w.heap.size [.slice ya yl.length yc] := by rw [hW0]; exact (blk.new' _ _ (by simp)).alloc _
      have hb1 : blk W0 (w.heap.size + 1) [.slice (some ⟨lb, 0, none⟩) nl lc] := by rw [hW0]; exact blk.new' _ _ (by simp)
      have d0 := hb0.cell (i := 0) rfl
      have d1 := hb1.cell (i := 0) rfl
      clear hW0 hb0 hb1
      have hLL := HL.out W0 hc0
      have HC0 := Lib.hid hc0; clear hc0
      go_wp2_with fail
      refine hLL.mono ?_
      rintro e w' ⟨rfl, rfl⟩
      clear hLL
      go_wp2_with fail
      refine (HAR.out _).mono ?_
      rintro e w' ⟨rfl, rfl⟩
      go_wp2_with fail
      go_ret2
      exact ⟨_, rfl, GVo.none H.out HC0.out⟩
    · rw [if_neg hr] at hWW
      have hyl : y.l.length + 1 = nl := by omega
      have hne : ((y.l.length : Int) != (nl : Int) - 1) = false := by rw [bne_eq_false_iff_eq]; omega
      have hchk := fun (W : World) (q : Nat) (hW : Ch [] w W) (hq : blk W q [.slice (some ⟨lb, 0, none⟩) nl lc]) =>
        mcheck_is (h.same hW (by simp)) ((hWL.ch hW).ls (hq.cell (i := 0) rfl)) (n := 1) (c := 1) (by omega) (by rw [lsW_one]; omega) (by rw [lsW_one]; omega) (RS.nil W) (RS.wv (hy.ch hW) hyc) (by omega) (by omega) (by intro z hz; simp at hz; exact hy.ok.bd z hz)
      simp only [lsW_one, hcc] at hchk
      have hbuild : cc = 0 → ∀ (W1 : World), Ch [] w W1 → blk W1 w.heap.size [y.val] → blk W1 (w.heap.size + 1) [.slice (some ⟨lb, 0, none⟩) nl lc] →
          Calls Tryz.prog 78 #[.pointer (some ⟨g, 0, none⟩), .func (.func 79) #[] #[.pointer (some ⟨w.heap.size + 1, 0, none⟩), .pointer (some ⟨w.heap.size, 0, none⟩)]] W1 fun e w' => ∃ v, e = .returned (.tuple #[v, .int .i64 S.1.2]) ∧ MB W1 g G F S.1 (PostW W1 S.2) mzW v w' := fun h0 W1 hW1 k1 k2 => by
        obtain ⟨o1, o2, o3, _, o4⟩ := hok h0
        have hne : Ls.map WV.l ≠ [] := fun e => by rw [e] at hll; simp at hll; omega
        refine mbuildW_is (h.same hW1 (by simp)) 79 _ fnvmPick1 S.1 _ (fun W m hm hW hM => ?_)
        have hall := hW1.trans hW (by simp)
        have hm2 : w.heap.size ≤ m := Nat.le_trans hW1.size hm
        have hyw : WVin W (m :: F) ⟨y.a, natInts (nats y.l), y.c⟩ := by
          rw [o4.cast]
          exact ⟨(hy.ch hall).ok, hy.blks hall hm2⟩
        have hc1 := (k1.ch hW (by simp)).cell (i := 0) (v := y.val) rfl
        have hc2 := (k2.ch hW (by simp)).cell (i := 0) rfl
        unfold WV.val at hc1
        have l1 := k1.lt
        have l2 := k2.lt
        have hnF : ∀ b, w.heap.size ≤ b → b < W1.heap.size → b ∉ m :: F := fun b hb hb2 hin => by
          simp only [List.mem_cons] at hin
          rcases hin with e | hin
          · omega
          · have := h.lt b hin; omega
        have h1 := mPick1_is hM (Ls := Ls) (lc := lc) (width := ((Ls.map WV.l).headD []).length) (hWL.up hall hm2) (fun x hx => o1 x.l (List.mem_map.2 ⟨x, hx, rfl⟩)) hnl (o3 hne) hyw (by rw [nats_len]) hyl o4.lt hc2 hc1 (hnF _ (by omega) l2) (hnF _ (by omega) l1)
        rw [show (Ls.map fun x => nats x.l) = (Ls.map WV.l).map nats by rw [List.map_map]; rfl, hS] at h1
        refine h1.mono ?_
        rintro e W' ⟨v, rfl, hrw⟩
        obtain ⟨P, F', q1, q2, q3, q4, q5, q6⟩ := hrw.post hW
        exact ⟨v, P, F', rfl, q1, q2, q3, q4, q5, q6⟩
      obtain ⟨ya, yl, yc⟩ := y
      simp only [WV.val] at *
      clear hok hcc hS hA hWL
      have HL := Lib.hid hL; clear hL
      have HAR := Lib.hid hAr; clear hAr
      have HCHK := Lib.hid hchk; clear hchk
      have HBU := Lib.hid hbuild; clear hbuild
      have H := Lib.hid h; clear h
      have HWW := Lib.hid hWW; clear hWW
      have hn0 : ((G.nodes.length : Int) == 0) = false := beqN (by omega)
      clear hy
      go_enter Tryz.func16, Tryz.ntmps16
      go_upto_region 1 with fail
      refine wp_named fun W0 hW0 => ?_
      have hc0 : Ch [] w W0 := by rw [hW0]; exact ((Ch.refl _ _).alloc _).alloc _
      have hb0 : blk W0 w.heap.size [.slice ya yl.length yc] := by rw [hW0]; exact (blk.new' _ _ (by simp)).alloc _
      have hb1 : blk W0 (w.heap.size + 1) [.slice (some ⟨lb, 0, none⟩) nl lc] := by rw [hW0]; exact blk.new' _ _ (by simp)
      have d0 := hb0.cell (i := 0) rfl
      have d1 := hb1.cell (i := 0) rfl
      have l0 := hb0.lt
      have l1 := hb1.lt
      clear hW0
      have hLL := HL.out W0 hc0
      have HC0 := Lib.hid hc0; clear hc0
      have HB0 := Lib.hid hb0; clear hb0
      have HB1 := Lib.hid hb1; clear hb1
      go_wp2_with fail
      refine hLL.mono ?_
      rintro e w' ⟨rfl, rfl⟩
      clear hLL
      go_wp2_with fail
      refine (HAR.out _).mono ?_
      rintro e w' ⟨rfl, rfl⟩
      go_wp2_with fail
      refine calls_named fun W1 hW1 => ?_
      have hc1 := alw_ch hW1
      have e1 := alw_blk (xs := [.slice (some ⟨lb, 0, none⟩) nl lc]) hW1
      clear hW1
      refine (HCHK.out W1 _ (HC0.out.trans hc1 (by simp)) e1).mono ?_
      rintro e w2 ⟨rfl, hc2⟩
      have hc02 := hc1.trans hc2 (by simp)
      have HC2 := Lib.hid (HC0.out.trans hc02 (by simp))
      have HB0' := Lib.hid (HB0.out.ch hc02 (by simp))
      have HB1' := Lib.hid (HB1.out.ch hc02 (by simp))
      clear e1 hc1 hc2 hc02 d0 d1 HB0 HB1 HCHK
      by_cases hz : cc = 0
      · have hBB := HBU.out hz w2 HC2.out HB0'.out HB1'.out
        have hww := HWW.out
        rw [if_neg (by simp [hz])] at hww
        subst hz
        have HBB := Lib.hid hBB; clear hBB HBU
        have HW2 := Lib.hid hww; clear hww
        go_wp2_with fail
        refine HBB.out.mono ?_
        rintro e w3 ⟨v, rfl, hmb⟩
        have hgv := MB.gvo HC2.out hmb
        rw [HW2.out] at hgv
        have HGV := Lib.hid hgv; clear hgv hmb
        go_wp2_with fail
        go_ret2
        exact ⟨_, by rw [← HW2.out, wres_e]; rfl, HGV.out⟩
      · have hq : ((cc : Int) != 0) = true := by simp; omega
        have hww := HWW.out
        rw [if_pos hz] at hww
        have HW2 := Lib.hid hww; clear hww
        have HZ := Lib.hid hz; clear hz
        go_wp2_with fail
        go_ret2
        exact ⟨_, by rw [← HW2.out]; rfl, by rw [← HW2.out]; exact GVo.none H.out HC2.out⟩
end
end Go.Proofs.YtdmmanfjafempaaGreat
namespace Go.Aig
def eqS (q : Mk × List Nat) (p : List Nat × List Nat) : Mk × List Nat := ((rstep q.1 (eqW q.1.1 p.1 p.2)).1, q.2 ++ [(rstep q.1 (eqW q.1.1 p.1 p.2)).2])
def eqsF (G : Gra) (l : List (List Nat × List Nat)) : Mk × List Nat := l.foldl eqS ((G, 0), [])
theorem eqsF_snoc (G : Gra) (l : List (List Nat × List Nat)) (p : List Nat × List Nat) : eqsF G (l ++ [p]) = eqS (eqsF G l) p := by unfold eqsF; rw [List.foldl_append]; rfl
/-- whether two arrays are the same -/
def equalR (G : Gra) (l : List (List Nat × List Nat)) : Mk × Nat := rstep (eqsF G l).1 (rAll (eqsF G l).1.1 (eqsF G l).2)
end Go.Aig
namespace Go.Proofs.YtdmmanfjafempaaGreat
open Go.RowKit Go.Mem Go.Aig
attribute [local go_sem] Oper.semAt_some
theorem doAll_r' {G : Gra} {l : List Nat} (hl : ∀ r ∈ l, r < 2 * G.nodes.length) : doAll G (l.map fun (r : Nat) => (r : Int)) = rAll G l := by
  unfold doAll
  rw [toNats, whole_all (by
    intro x hx
    obtain ⟨r, hr, rfl⟩ := List.mem_map.1 hx
    have := hl r hr
    simp [right]; omega)]
theorem fnvmEqual1 : Fnv 84 := fnv_of Tryz.func84 (by simp [Tryz.f84]) (by simp [Tryz.f84])
/-- what a closure that makes a reference leaves -/
def RV (w : World) (g m : Nat) (G : Gra) (F : List Nat) (S : Mk × Nat) (v : Value) (w' : World) : Prop := ∃ (P : Mk) (r : Nat), v = .int .i64 r ∧ Sim G P S.1 ∧ (S.1.2 = 0 → r = S.2) ∧ MTo w g m P F w'
section
variable {w : World} {g m : Nat} {G : Gra} {F : List Nat}
set_option maxRecDepth 100000 in
set_option maxHeartbeats 4000000 in
theorem mEqual1_is (h : MIn w g m (G, 0) F) {As Bs : List WV} {la lb nl ac bc width : Nat} (hA : WL w (m :: F) la nl As) (hB : WL w (m :: F) lb nl Bs) (hWA : ∀ x ∈ As, WOf G width x.l) (hWB : ∀ x ∈ Bs, WOf G width x.l) (hnl : nl ≤ 256) (hw1 : 1 ≤ width) (hw : width ≤ 16)
    {b1 b2 b3 : Nat} (h1 : w.cell? ⟨b1, 0, none⟩ = some (.slice (some ⟨la, 0, none⟩) nl ac)) (h2 : w.cell? ⟨b2, 0, none⟩ = some (.pointer (some ⟨g, 0, none⟩))) (h3 : w.cell? ⟨b3, 0, none⟩ = some (.slice (some ⟨lb, 0, none⟩) nl bc)) (h2F : b2 ∉ m :: F) (h3F : b3 ∉ m :: F) :
    Calls Tryz.prog 84 (#[.pointer (some ⟨m, 0, none⟩)] ++ #[.pointer (some ⟨b1, 0, none⟩), .pointer (some ⟨b2, 0, none⟩), .pointer (some ⟨b3, 0, none⟩)]) w fun e W' => ∃ v, e = .returned v ∧ RV w g m G F (equalR G ((As.map fun x => nats x.l).zip (Bs.map fun x => nats x.l))) v W' := by
  show Calls Tryz.prog 84 #[.pointer (some ⟨m, 0, none⟩), .pointer (some ⟨b1, 0, none⟩), .pointer (some ⟨b2, 0, none⟩), .pointer (some ⟨b3, 0, none⟩)] w _
  have hml := h.bk.lt
  have hFl := h.gin.lt
  have hok := h.gin.ok
  obtain ⟨Z, hZ⟩ : ∃ Z, (As.map fun x => nats x.l).zip (Bs.map fun x => nats x.l) = Z := ⟨_, rfl⟩
  have hzl : Z.length = nl := by rw [← hZ, List.length_zip, List.length_map, List.length_map, hA.len, hB.len, Nat.min_self]
  have hzat : ∀ (k : Nat) (x y : WV), As[k]? = some x → Bs[k]? = some y → Z[k]? = some (nats x.l, nats y.l) := fun k x y hx hy => by
    rw [← hZ, List.getElem?_zip_eq_some]
    exact ⟨by rw [List.getElem?_map, hx]; rfl, by rw [List.getElem?_map, hy]; rfl⟩
  rw [hZ]
  clear hZ
  have H := Lib.hid h; clear h
  have HA := Lib.hid hA; clear hA
  have HB := Lib.hid hB; clear hB
  have HWA := Lib.hid hWA; clear hWA
  have HWB := Lib.hid hWB; clear hWB
  have HZL := Lib.hid hzl; clear hzl
  have HZAT := Lib.hid hzat; clear hzat
  have H1 := Lib.hid h1
  have H2 := Lib.hid h2; clear h2
  have H3 := Lib.hid h3; clear h3
  have HOK := Lib.hid hok; clear hok
  go_enter Tryz.func84, Tryz.ntmps84
  go_wp2_with fail
  clear h1
  go_loopw [6, 15] (fun lv i wr => ∃ (k : Nat) (P : Mk) (F' l : List Nat), k ≤ nl ∧ i = .int .i64 k ∧ l.length = k ∧ Sim G P (eqsF G (Z.take k)).1 ∧ ((eqsF G (Z.take k)).1.2 = 0 → l = (eqsF G (Z.take k)).2) ∧ (∀ r ∈ l, r < 2 * P.1.nodes.length) ∧ MIn wr g m P F' ∧ Ch (m :: F) w wr ∧ (∀ q ∈ F', q ∈ F ∨ w.heap.size ≤ q) ∧ F'[2]? = F[2]? ∧ row wr 41 1 lv k (refsCells l) ∧ (∀ q, lv.ownBlock = some q → w.heap.size ≤ q ∧ q ∉ F')) (fun _ i _ => nl - (intOf i).toNat)
  case atStart => exact ⟨0, (G, 0), F, [], Nat.zero_le _, rfl, rfl, Sim.start HOK.out, fun _ => rfl, by simp, H.out, Ch.refl _ _, fun q hq => .inl hq, rfl, ⟨rfl, .inl ⟨rfl, rfl⟩⟩, by simp [Value.ownBlock]⟩
  case round =>
    obtain ⟨k, P, F', l, hk, rfl, hll, hs, hout, hall, hm, hch, hown, hmap, hrow, hfr⟩ := hrel
    obtain ⟨va, vc, rfl⟩ := row.shape hrow
    have hcell : ∀ {b i : Nat} {v : Value}, w.cell? ⟨b, i, none⟩ = some v → b ∉ m :: F → wr.cell? ⟨b, i, none⟩ = some v := fun hx hb => (hch.cell (cell_lt hx) hb).trans hx
    have hword : ∀ {x : WV}, WVin w (m :: F) x → WVin wr F' x := fun hx => ⟨hx.ok.ch hch (fun p hp => (hx.apart p.block (ablk_of hp)).1), fun q hq => ⟨fun hin => by
      obtain ⟨k1, k2⟩ := hx.apart q hq
      simp only [List.mem_cons, not_or] at k1
      exact (hown q hin).elim k1.2 (fun e => by omega), Nat.lt_of_lt_of_le (hx.apart q hq).2 hch.size⟩⟩
    by_cases hlt : k < nl
    · obtain ⟨x, hx⟩ : ∃ x, As[k]? = some x := ⟨_, List.getElem?_eq_getElem (by rw [HA.out.len]; exact hlt)⟩
      obtain ⟨y, hy⟩ : ∃ y, Bs[k]? = some y := ⟨_, List.getElem?_eq_getElem (by rw [HB.out.len]; exact hlt)⟩
      have hxm := List.mem_of_getElem? hx
      have hym := List.mem_of_getElem? hy
      have hxw := HWA.out x hxm
      have hyw := HWB.out y hym
      have c_x := hcell (HA.out.cells k x hx) HA.out.apart.1
      have c_y := hcell (HB.out.cells k y hy) HB.out.apart.1
      have c_g := hcell H2.out h2F
      have c_b := hcell H3.out h3F
      have hsu : eqsF G (Z.take (k + 1)) = eqS (eqsF G (Z.take k)) (nats x.l, nats y.l) := by rw [List.take_add_one, HZAT.out k x y hx hy]; exact eqsF_snoc _ _ _
      have hxr : ∀ r ∈ nats x.l, r < 2 * P.1.nodes.length := fun r hr => hs.ext.lt (hxw.lt r hr)
      have hyr : ∀ r ∈ nats y.l, r < 2 * P.1.nodes.length := fun r hr => hs.ext.lt (hyw.lt r hr)
      have hfull := eqW_full hm.gin.ok (by rw [nats_len]; exact hxw.len) (by rw [nats_len]; exact hyw.len) hw1 (by omega) hxr hyr
      generalize eqsF G (Z.take k) = R at hs hout hsu
      have hst := hs.step hfull (Y := eqW R.1.1 (nats x.l) (nats y.l)) (fun _ e => by rw [e])
      have hEQ := fun (W : World) (hW : Ch [] wr W) => sEq_is (hm.gin.same hW (by simp)) ((hword (HA.out.words x hxm)).ch hW) ((hword (HB.out.words y hym)).ch hW)
      obtain ⟨X, hX⟩ : ∃ X, eqW P.1 (nats x.l) (nats y.l) = X := ⟨_, rfl⟩
      have hX2 := hX
      unfold eqW at hX2
      rw [hxw.cast, hyw.cast] at hX2
      simp only [hX2, WV.val] at hEQ
      rw [hX] at hst
      have hbk := hm.bk
      unfold WV.val at c_x c_y
      obtain ⟨xa, xl, xc⟩ := x
      obtain ⟨ya, yl, yc⟩ := y
      simp only at c_x c_y hEQ
      have HEQ := Lib.hid hEQ; clear hEQ
      have HST := Lib.hid hst; clear hst
      have HSU := Lib.hid hsu; clear hsu
      have HS := Lib.hid hs; clear hs
      have HM := Lib.hid hm; clear hm
      have HCH := Lib.hid hch; clear hch
      have HROW := Lib.hid hrow; clear hrow
      have HOUT := Lib.hid hout; clear hout
      have HBK := Lib.hid hbk; clear hbk
      have HFR := Lib.hid hfr; clear hfr
      have HALL := Lib.hid hall; clear hall
      clear hX hX2 hfull hxr hyr hxw hyw hxm hym hx hy hcell hword
      go_upto_region 5 with fail
      refine Ord.St.door (fun _ => True) [.rd, .fl, .rd, .fl, .fl, .rd, .ef, .fl, .fl, .fl, .fl, .fl] [0, 0, 0, 0, 12, 28, 63, 127, 255, 255, 511, 2047] [0, 1, 2, 3, 4, 5, 6, 7, 8, 9, 10, 11] mixed (by kernel_rfl) rfl ?_
      obtain ⟨Wc, hWc⟩ : ∃ Wc, Wc = wr.drew := ⟨_, rfl⟩
      rw [← hWc]
      have hcur : Ch [] wr Wc := by rw [hWc]; exact (Ch.refl _ _).drew
      have c_g2 : Wc.cell? ⟨b2, 0, none⟩ = some (.pointer (some ⟨g, 0, none⟩)) := by rw [hWc]; exact c_g
      have c_b2 : Wc.cell? ⟨b3, 0, none⟩ = some (.slice (some ⟨lb, 0, none⟩) nl bc) := by rw [hWc]; exact c_b
      have c_y2 : Wc.cell? ⟨lb, k, none⟩ = some (.slice ya yl.length yc) := by rw [hWc]; exact c_y
      clear hWc
      have han := HEQ.out Wc hcur
      have HAN1 := Lib.hid han; clear han HEQ
      have HCUR := Lib.hid hcur; clear hcur
      refine Ord.St.rd2 (T' := ?_) 0 [1, 2, 3, 4, 5, 6, 7, 8, 9, 10, 11] _ _ rfl (by kernel_rfl) rfl rfl rfl rfl (fun K hk => ?_) ?_
      rotate_left
      · go_step; exact hk
      refine Ord.St.fl2 (T' := ?_) 1 [2, 3, 4, 5, 6, 7, 8, 9, 10, 11] _ _ rfl (by kernel_rfl) rfl rfl rfl rfl (fun K w' hk => ?_) ?_
      rotate_left
      · go_step; exact hk
      refine Ord.St.rd2 (T' := ?_) 2 [3, 4, 5, 6, 7, 8, 9, 10, 11] _ _ rfl (by kernel_rfl) rfl rfl rfl rfl (fun K hk => ?_) ?_
      rotate_left
      · go_step; exact hk
      refine Ord.St.fl2 (T' := ?_) 3 [4, 5, 6, 7, 8, 9, 10, 11] _ _ rfl (by kernel_rfl) rfl rfl rfl rfl (fun K w' hk => ?_) ?_
      rotate_left
      · go_step; exact hk
      refine Ord.St.fl2 (T' := ?_) 4 [5, 6, 7, 8, 9, 10, 11] _ _ rfl (by kernel_rfl) rfl rfl rfl rfl (fun K w' hk => ?_) ?_
      rotate_left
      · go_step; exact hk
      refine Ord.St.rd2 (T' := ?_) 5 [6, 7, 8, 9, 10, 11] _ _ rfl (by kernel_rfl) rfl rfl rfl rfl (fun K hk => ?_) ?_
      rotate_left
      · go_step; exact hk
      refine Ord.St.ef 6 [7, 8, 9, 10, 11] _ rfl (by kernel_rfl) (fun K hK => ?_)
      go_wp2_with fail
      refine HAN1.out.mono ?_
      rintro e w5 ⟨rfl, hto⟩
      have hb5 := ((HBK.out.ch HCUR.out (by simp)).ch hto.choose_spec.2.1 HM.out.apart)
      have HTO := Lib.hid hto; clear hto
      have HNT := mnote_is hb5 X.2.1 X.2.2
      clear hb5
      go_wp2_with fail
      refine ⟨rfl, hK _ _ ?_⟩; clear hK K
      refine Ord.St.fl2 (T' := ?_) 7 [8, 9, 10, 11] _ _ rfl (by kernel_rfl) rfl rfl rfl rfl (fun K w' hk => ?_) ?_
      rotate_left
      · go_step; exact hk
      refine Ord.St.fl2 (T' := ?_) 8 [9, 10, 11] _ _ rfl (by kernel_rfl) rfl rfl rfl rfl (fun K w' hk => ?_) ?_
      rotate_left
      · go_step; exact hk
      refine Ord.St.fl2 (T' := ?_) 9 [10, 11] _ _ rfl (by kernel_rfl) rfl rfl rfl rfl (fun K w' hk => ?_) ?_
      rotate_left
      · go_step; exact hk
      refine Ord.St.fl2 (T' := ?_) 10 [11] _ _ rfl (by kernel_rfl) rfl rfl rfl rfl (fun K w' hk => ?_) ?_
      rotate_left
      · go_step; exact hk
      refine Ord.St.fl2 (T' := ?_) 11 [] _ _ rfl (by kernel_rfl) rfl rfl rfl rfl (fun K w' hk => ?_) ?_
      rotate_left
      · go_step; exact hk
      refine Ord.St.nil ?_
      go_wp2_with fail
      refine HNT.mono ?_
      rintro e w6 ⟨rfl, hb6, hc6⟩
      have hmc := HM.out.same HCUR.out (by simp)
      obtain ⟨F6, hm6, hc56, hown6, hmap6⟩ := MTo.of (P' := (mput P X).1) hmc HTO.out (fun _ => hb6) hc6
      have hc06 := (HCUR.out.mono (by simp)).trans hc56 (fun q hq => .inl hq)
      have hrl := HROW.out.lt
      have hrow6 := HROW.out.ch hc06 (by
        intro q hq hin
        simp only [List.mem_cons] at hin
        rcases hin with e | e
        · have := (HFR.out q hq).1; omega
        · exact (HFR.out q hq).2 e)
      have hch6 := HCH.out.trans hc06 (by
        intro q hq
        simp only [List.mem_cons] at hq ⊢
        rcases hq with e | hq
        · exact .inl (.inl e)
        · rcases hown q hq with e | e
          · exact .inl (.inr e)
          · exact .inr e)
      have hsz := HCUR.out.size
      have hsz0 := HCH.out.size
      have hfr6 : ∀ q, (Value.slice va k vc).ownBlock = some q → w.heap.size ≤ q ∧ q ∉ F6 := fun q hq => ⟨(HFR.out q hq).1, fun hin => (hown6 q hin).elim (HFR.out q hq).2 (fun e => by have := (hrl q hq).2; omega)⟩
      have hown6' : ∀ q ∈ F6, q ∈ F ∨ w.heap.size ≤ q := fun q hq => by
        rcases hown6 q hq with e | e
        · exact hown q e
        · exact .inr (by omega)
      have hF6l := hm6.gin.lt
      have hm6l := hm6.bk.lt
      clear hb6 hc6 hc56 hc06 hmc HTO hrl
      obtain ⟨W7, hW7⟩ : ∃ W7 : World, W7 = w6.alloc (.cells #[.int .i64 X.2.1] 41) := ⟨_, rfl⟩
      have hc7 : Ch [] w6 W7 := alw_ch hW7
      have hnb := alw_blk (xs := [.int .i64 X.2.1]) hW7
      have hrow7 := hrow6.ch hc7 (by simp)
      have hm7 := hm6.same hc7 (by simp)
      have HM7 := Lib.hid hm7; clear hm7 hm6
      have HROW7 := Lib.hid hrow7; clear hrow7 hrow6
      have HCH7 := Lib.hid (hch6.trans hc7 (by simp)); clear hch6
      have HNB := Lib.hid hnb; clear hnb
      have HW7 := Lib.hid hW7; clear hW7
      have HFR6 := Lib.hid hfr6; clear hfr6
      have hs7 := hc7.size
      clear hc7
      go_wp2_with (at_builtin; rw [← HW7.out]; go_loud (refine wpList_append_row slRefs rfl _ _ rfl (v := .slice va k vc) (n := k) (xs := refsCells l) rfl HROW7.out (ad := ⟨w6.heap.size, 0, none⟩) (m := 1) (c := 1) (news := [.int .i64 X.2.1]) rfl rfl (news_blk HNB.out) (by simp [Value.oneCell']) (by omega) (by omega) ?_; intro v' w8 hown8 hC8 hf8; have HO8 := Lib.hid hown8; clear hown8; have HC8 := Lib.hid hC8; clear hC8; have HF8 := Lib.hid hf8; clear hf8))
      go_roundw
      case rel =>
        obtain ⟨k1, k2, k3, k4, k5, k6, k7⟩ := HST.out
        have hcs : ∀ q ∈ (Value.slice va k vc).ownBlock.toList, w.heap.size ≤ q ∧ q ∉ F6 := fun q hq => HFR6.out q (by simpa using hq)
        refine ⟨k + 1, (mput P X).1, F6, l ++ [X.2.1], by omega, by go_num, by simp [hll], by rw [HSU.out]; exact k1, fun hz => ?_, fun r hr => ?_, HM7.out.same HC8.out (fun q hq hq2 => ?_), HCH7.out.trans HC8.out (fun q hq => .inr (hcs q hq).1), hown6', hmap6.trans hmap, ?_, fun q hq => ?_⟩
        · rw [HSU.out] at hz ⊢
          have hR0 : R.1.2 = 0 := by
            by_cases h0 : R.1.2 = 0
            · exact h0
            · exact absurd hz (k7 h0)
          rw [HOUT.out hR0]
          exact congrArg (fun z => R.2 ++ [z]) (k4 hz)
        · rcases List.mem_append.1 hr with hr | hr
          · exact k5.lt (HALL.out r hr)
          · rw [List.mem_singleton.1 hr]; exact k2
        · simp only [List.mem_cons] at hq
          rcases hq with e | hq
          · have := (hcs q hq2).1; omega
          · exact (hcs q hq2).2 hq
        · have := HO8.out
          simpa [refsCells] using this
        · rcases HF8.out q hq with e | e
          · exact HFR6.out q e
          · have h9 := HCH7.out.size
            exact ⟨by omega, fun hin => by have := hF6l q hin; omega⟩
      case measure => simp [intOf]; omega
    · have hkn : k = nl := by omega
      rw [hkn, List.take_of_length_le (by rw [HZL.out]; omega)] at hs hout
      have hAll := All_g hm.gin (a := va) (l := l.map fun (r : Nat) => (r : Int)) k vc (by rw [List.length_map]; exact hll) (by
        rw [refs_natInts] at hrow
        exact Sl.of_ints hrow (by omega)) (fun z hz => by
        obtain ⟨r, hr, rfl⟩ := List.mem_map.1 hz
        have := hall r hr
        have := hm.gin.ok.small
        omega) (fun p hp => by
        subst hp
        exact ⟨(hrow.lt p.block rfl).2, (hfr p.block rfl).2⟩)
      rw [doAll_r' hall] at hAll
      have hst := hs.step (rAll_full hm.gin.ok hall) (Y := rAll (eqsF G Z).1.1 (eqsF G Z).2) (fun e0 e1 => by rw [hout e0, e1])
      obtain ⟨X, hX⟩ : ∃ X, rAll P.1 l = X := ⟨_, rfl⟩
      rw [hX] at hAll hst
      have c_g := hcell H2.out h2F
      have hbk := hm.bk
      have HST := Lib.hid hst; clear hst
      have HAL := Lib.hid hAll; clear hAll
      have HM := Lib.hid hm; clear hm
      have HCH := Lib.hid hch; clear hch
      have HBK := Lib.hid hbk; clear hbk
      clear hs hout hrow hfr hall hX hcell hword hkn
      go_wp2_with fail
      refine HAL.out.mono ?_
      rintro e w5 ⟨rfl, hto⟩
      have hb5 := HBK.out.ch hto.choose_spec.2.1 HM.out.apart
      have HTO := Lib.hid hto; clear hto
      have HNT := mnote_is hb5 X.2.1 X.2.2
      clear hb5
      go_wp2_with fail
      refine HNT.mono ?_
      rintro e w6 ⟨rfl, hb6, hc6⟩
      have hmt := MTo.of (P' := (mput P X).1) HM.out HTO.out (fun _ => hb6) hc6
      have HMT := Lib.hid hmt; clear hmt hb6 hc6
      go_wp2_with fail
      go_ret
      obtain ⟨F6, q1, q2, q3, q4⟩ := HMT.out
      have hsz0 := HCH.out.size
      obtain ⟨k1, k2, k3, k4, k5, k6, k7⟩ := HST.out
      refine ⟨_, rfl, (mput P X).1, X.2.1, rfl, k1, k4, F6, q1, HCH.out.trans q2 (fun q hq => ?_), fun q hq => (q3 q hq).elim (hown q) (fun e => .inr (by omega)), q4.trans hmap⟩
      simp only [List.mem_cons] at hq ⊢
      rcases hq with e | hq
      · exact .inl (.inl e)
      · rcases hown q hq with e | e
        · exact .inl (.inr e)
        · exact .inr e
end
end Go.Proofs.YtdmmanfjafempaaGreat
namespace Go.Aig
def equalG (G : Gra) (A B : List (List Int)) : Res :=
  if array26 A.length = false then (G, 0, 261) else if A.length ≠ B.length then (G, 0, 261) else if chk26 G [] [] (A ++ B) ≠ 0 then (G, 0, chk26 G [] [] (A ++ B))
  else rres G (equalR G ((A.map nats).zip (B.map nats)))
theorem rres_e (G : Gra) (S : Mk × Nat) : (rres G S).2.2 = S.1.2 := by
  unfold rres
  by_cases h0 : S.1.2 = 0
  · rw [if_neg (by simp [h0])]; exact h0.symm
  · rw [if_pos h0]
end Go.Aig
namespace Go.Proofs.YtdmmanfjafempaaGreat
open Go.RowKit Go.Mem Go.Aig
def PostR (r : Nat) (v : Value) (_ : List Nat) (_ : World) : Prop := v = .int .i64 r
theorem RV.post {W : World} {g m : Nat} {G : Gra} {F : List Nat} {S : Mk × Nat} {v : Value} {W' : World} (h : RV W g m G F S v W') : ∃ P F', Sim G P S.1 ∧ MIn W' g m P F' ∧ Ch (m :: F) W W' ∧ (∀ k ∈ F', k ∈ F ∨ W.heap.size ≤ k) ∧ F'[2]? = F[2]? ∧ (S.1.2 = 0 → PostR S.2 v F' W') := by
  obtain ⟨P, r, rfl, hs, ho, F', k1, k2, k3, k4⟩ := h
  exact ⟨P, F', hs, k1, k2, k3, k4, fun h0 => by rw [ho h0]; rfl⟩
theorem MB.gto {w w1 w' : World} {g : Nat} {G : Gra} {F : List Nat} {S : Mk × Nat} {v : Value} (hc : Ch [] w w1) (h : MB w1 g G F S.1 (PostR S.2) mzR v w') : v = .int .i64 (rres G S).2.1 ∧ GTo w g (rres G S).1 F w' := by
  obtain ⟨F', k1, k2, k3, k4, k5, k6⟩ := h
  unfold rres
  by_cases h0 : S.1.2 = 0
  · rw [if_pos h0] at k1
    rw [if_neg (by simp [h0])]
    exact ⟨k5 h0, GTo.since hc (GTo.mk k1 k2 k3 k4)⟩
  · rw [if_neg h0] at k1
    rw [if_pos h0]
    exact ⟨k6 h0, GTo.since hc (GTo.mk k1 k2 k3 k4)⟩
theorem LS.two {w : World} {F : List Nat} {q la lb n ac bc : Nat} {As Bs : List WV} (hA : WL w F la n As) (hB : WL w F lb n Bs) (hq : blk w q [.slice (some ⟨la, 0, none⟩) n ac, .slice (some ⟨lb, 0, none⟩) n bc]) : LS w q 2 [(la, ac, As), (lb, bc, Bs)] := by
  have h1 := hA.len
  have h2 := hB.len
  subst h1
  refine ⟨rfl, fun j b' c' ws' hj => ?_, fun j b' c' ws' hj => ?_⟩ <;> rcases j with _ | _ | j
  · cases hj; exact hq.cell rfl
  · cases hj; rw [h2]; exact hq.cell rfl
  · simp at hj
  · cases hj; exact fun i x hx => ⟨hA.cells i x hx, (hA.words x (List.mem_of_getElem? hx)).ok⟩
  · cases hj; exact fun i x hx => ⟨hB.cells i x hx, (hB.words x (List.mem_of_getElem? hx)).ok⟩
  · simp at hj
theorem lsW_two (b c b' c' : Nat) (ws ws' : List WV) : lsW [(b, c, ws), (b', c', ws')] = ws ++ ws' := by simp [lsW]
section
variable {w : World} {g : Nat} {G : Gra} {F : List Nat}
set_option maxRecDepth 100000 in
set_option maxHeartbeats 4000000 in
theorem mEqual_is (h : GIn w g G F) {la lb : Option Addr} {nl ac n2 bc : Nat} {As Bs : List WV} (hA : WA w F la nl As) (hB : WA w F lb n2 Bs) (hn2 : n2 ≤ 1000000) :
    Calls Tryz.prog 19 #[.pointer (some ⟨g, 0, none⟩), .slice la nl ac, .slice lb n2 bc] w fun e w' => e = .returned (.tuple #[.int .i64 (equalG G (As.map WV.l) (Bs.map WV.l)).2.1, .int .i64 (equalG G (As.map WV.l) (Bs.map WV.l)).2.2]) ∧ GTo w g (equalG G (As.map WV.l) (Bs.map WV.l)).1 F w' := by
  have hpos := h.ok.wf.pos
  have hroom := h.ok.room
  have hmost := h.ok.most
  have hL := fun (W : World) (hW : Ch [] w W) => Len_g (h.same hW (by simp))
  have hAr := fun (W : World) => marray_is (w := W) nl
  have hok := chk26_ok (G := G) (idx := []) (refs := []) (ws := As.map WV.l ++ Bs.map WV.l)
  have hlt := chk26_lt G [] [] (As.map WV.l ++ Bs.map WV.l)
  have hla : (As.map WV.l).length = nl := by rw [List.length_map]; exact hA.len
  have hlb : (Bs.map WV.l).length = n2 := by rw [List.length_map]; exact hB.len
  unfold equalG
  rw [hla, hlb]
  obtain ⟨cc, hcc⟩ : ∃ cc, chk26 G [] [] (As.map WV.l ++ Bs.map WV.l) = cc := ⟨_, rfl⟩
  rw [hcc] at hok hlt ⊢
  obtain ⟨S, hS⟩ : ∃ S, equalR G (((As.map WV.l).map nats).zip ((Bs.map WV.l).map nats)) = S := ⟨_, rfl⟩
  rw [hS]
  generalize hWW : (if array26 nl = false then (G, 0, 261) else if nl ≠ n2 then (G, 0, 261) else if cc ≠ 0 then (G, 0, cc) else rres G S : Res) = WW
  cases ha : array26 nl
  · rw [ha, if_pos rfl] at hWW
    simp only [ha] at hAr
    subst hWW
    clear hok hcc hS hA hB
    have HL := Lib.hid hL; clear hL
    have HAR := Lib.hid hAr; clear hAr
    have H := Lib.hid h; clear h
    have hn0 : ((G.nodes.length : Int) == 0) = false := beqN (by omega)
    go_enter Tryz.func19, Tryz.ntmps19
    go_upto_region 1 with fail
    refine wp_named fun W0 hW0 => ?_
    have hc0 : Ch [] w W0 := by rw [hW0]; exact (((Ch.refl _ _).alloc _).alloc _).alloc _
    have hb0 : blk W0 w.heap.size [.pointer (some ⟨g, 0, none⟩)] := by rw [hW0]; exact ((blk.new' _ _ (by simp)).alloc _).alloc _
    have hb1 : blk W0 (w.heap.size + 1) [.slice la nl ac] := by rw [hW0]; exact (blk.new' _ _ (by simp)).alloc _
    have d0 := hb0.cell (i := 0) rfl
    have d1 := hb1.cell (i := 0) rfl
    clear hW0 hb0 hb1
    have hLL := HL.out W0 hc0
    have HC0 := Lib.hid hc0; clear hc0
    go_wp2_with fail
    refine hLL.mono ?_
    rintro e w' ⟨rfl, rfl⟩
    clear hLL
    go_wp2_with fail
    refine (HAR.out _).mono ?_
    rintro e w' ⟨rfl, rfl⟩
    go_wp2_with fail
    go_ret2
    exact ⟨rfl, GTo.same H.out HC0.out⟩
  · rw [ha, if_neg (by simp)] at hWW
    simp only [ha] at hAr
    have hnl : 1 ≤ nl ∧ nl ≤ 256 := by unfold array26 at ha; simp at ha; omega
    obtain ⟨la', rfl, hWA⟩ := hA.at_ hnl.1
    by_cases hr : nl ≠ n2
    · rw [if_pos hr] at hWW
      have hne : ((nl : Int) != (n2 : Int)) = true := by simp; omega
      subst hWW
      clear hok hcc hS hA hB hWA
      have HL := Lib.hid hL; clear hL
      have HAR := Lib.hid hAr; clear hAr
      have H := Lib.hid h; clear h
      have hn0 : ((G.nodes.length : Int) == 0) = false := beqN (by omega)
      go_enter Tryz.func19, Tryz.ntmps19
      go_upto_region 1 with fail
      refine wp_named fun W0 hW0 => ?_
      have hc0 : Ch [] w W0 := by rw [hW0]; exact (((Ch.refl _ _).alloc _).alloc _).alloc _
      have hb0 : blk W0 w.heap.size [.pointer (some ⟨g, 0, none⟩)] := by rw [hW0]; exact ((blk.new' _ _ (by simp)).alloc _).alloc _
      have hb1 : blk W0 (w.heap.size + 1) [.slice (some ⟨la', 0, none⟩) nl ac] := by rw [hW0]; exact (blk.new' _ _ (by simp)).alloc _
      have hb2 : blk W0 (w.heap.size + 2) [.slice lb n2 bc] := by rw [hW0]; exact blk.new' _ _ (by simp)
      have d0 := hb0.cell (i := 0) rfl
      have d1 := hb1.cell (i := 0) rfl
      have d2 := hb2.cell (i := 0) rfl
      clear hW0 hb0 hb1 hb2
      have hLL := HL.out W0 hc0
      have HC0 := Lib.hid hc0; clear hc0
      go_wp2_with fail
      refine hLL.mono ?_
      rintro e w' ⟨rfl, rfl⟩
      clear hLL
      go_wp2_with fail
      refine (HAR.out _).mono ?_
      rintro e w' ⟨rfl, rfl⟩
      go_wp2_with fail
      go_ret2
      exact ⟨rfl, GTo.same H.out HC0.out⟩
    · rw [if_neg hr] at hWW
      have hyl : nl = n2 := by omega
      have hne : ((nl : Int) != (n2 : Int)) = false := by rw [bne_eq_false_iff_eq]; omega
      subst hyl
      obtain ⟨lb', rfl, hWB⟩ := hB.at_ hnl.1
      have hchk := fun (W : World) (q : Nat) (hW : Ch [] w W) (hq : blk W q [.slice (some ⟨la', 0, none⟩) nl ac, .slice (some ⟨lb', 0, none⟩) nl bc]) =>
        mcheck_is (h.same hW (by simp)) (LS.two (hWA.ch hW) (hWB.ch hW) hq) (n := 2) (c := 2) (by omega) (by rw [lsW_two, List.length_append, hA.len]; omega) (by rw [lsW_two, List.length_append, hA.len, hB.len]; omega) (RS.nil W) (RS.nil W) (by omega) (by omega) (by intro z hz; simp at hz)
      simp only [lsW_two, List.map_append, hcc] at hchk
      have hbuild : cc = 0 → ∀ (W1 : World), Ch [] w W1 → blk W1 w.heap.size [.pointer (some ⟨g, 0, none⟩)] → blk W1 (w.heap.size + 1) [.slice (some ⟨la', 0, none⟩) nl ac] → blk W1 (w.heap.size + 2) [.slice (some ⟨lb', 0, none⟩) nl bc] →
          Calls Tryz.prog 83 #[.pointer (some ⟨g, 0, none⟩), .func (.func 84) #[] #[.pointer (some ⟨w.heap.size + 1, 0, none⟩), .pointer (some ⟨w.heap.size, 0, none⟩), .pointer (some ⟨w.heap.size + 2, 0, none⟩)]] W1 fun e w' => ∃ v, e = .returned (.tuple #[v, .int .i64 S.1.2]) ∧ MB W1 g G F S.1 (PostR S.2) mzR v w' := fun h0 W1 hW1 k0 k1 k2 => by
        obtain ⟨o1, o2, o3, _, _⟩ := hok h0
        have hne : As.map WV.l ++ Bs.map WV.l ≠ [] := fun e => by
          have := congrArg List.length e
          rw [List.length_append, hla] at this
          simp at this; omega
        refine mbuildR_is (h.same hW1 (by simp)) 84 _ fnvmEqual1 S.1 _ (fun W m hm hW hM => ?_)
        have hall := hW1.trans hW (by simp)
        have hm2 : w.heap.size ≤ m := Nat.le_trans hW1.size hm
        have hc0 := (k0.ch hW (by simp)).cell (i := 0) rfl
        have hc1 := (k1.ch hW (by simp)).cell (i := 0) rfl
        have hc2 := (k2.ch hW (by simp)).cell (i := 0) rfl
        have l0 := k0.lt
        have l1 := k1.lt
        have l2 := k2.lt
        have hnF : ∀ b, w.heap.size ≤ b → b < W1.heap.size → b ∉ m :: F := fun b hb hb2 hin => by
          simp only [List.mem_cons] at hin
          rcases hin with e | hin
          · omega
          · have := h.lt b hin; omega
        have h1 := mEqual1_is hM (As := As) (Bs := Bs) (ac := ac) (bc := bc) (hWA.up hall hm2) (hWB.up hall hm2) (fun x hx => o1 x.l (List.mem_append_left _ (List.mem_map.2 ⟨x, hx, rfl⟩))) (fun x hx => o1 x.l (List.mem_append_right _ (List.mem_map.2 ⟨x, hx, rfl⟩))) hnl.2 (o2 hne) (o3 hne) hc1 hc0 hc2 (hnF _ (by omega) l0) (hnF _ (by omega) l2)
        rw [show (As.map fun x => nats x.l) = (As.map WV.l).map nats by rw [List.map_map]; rfl, show (Bs.map fun x => nats x.l) = (Bs.map WV.l).map nats by rw [List.map_map]; rfl, hS] at h1
        refine h1.mono ?_
        rintro e W' ⟨v, rfl, hrw⟩
        obtain ⟨P, F', q1, q2, q3, q4, q5, q6⟩ := hrw.post
        exact ⟨v, P, F', rfl, q1, q2, q3, q4, q5, q6⟩
      clear hok hcc hS hA hB hWA hWB
      have HL := Lib.hid hL; clear hL
      have HAR := Lib.hid hAr; clear hAr
      have HCHK := Lib.hid hchk; clear hchk
      have HBU := Lib.hid hbuild; clear hbuild
      have H := Lib.hid h; clear h
      have HWW := Lib.hid hWW; clear hWW
      have hn0 : ((G.nodes.length : Int) == 0) = false := beqN (by omega)
      go_enter Tryz.func19, Tryz.ntmps19
      go_upto_region 1 with fail
      refine wp_named fun W0 hW0 => ?_
      have hc0 : Ch [] w W0 := by rw [hW0]; exact (((Ch.refl _ _).alloc _).alloc _).alloc _
      have hb0 : blk W0 w.heap.size [.pointer (some ⟨g, 0, none⟩)] := by rw [hW0]; exact ((blk.new' _ _ (by simp)).alloc _).alloc _
      have hb1 : blk W0 (w.heap.size + 1) [.slice (some ⟨la', 0, none⟩) nl ac] := by rw [hW0]; exact (blk.new' _ _ (by simp)).alloc _
      have hb2 : blk W0 (w.heap.size + 2) [.slice (some ⟨lb', 0, none⟩) nl bc] := by rw [hW0]; exact blk.new' _ _ (by simp)
      have d0 := hb0.cell (i := 0) rfl
      have d1 := hb1.cell (i := 0) rfl
      have d2 := hb2.cell (i := 0) rfl
      have l0 := hb0.lt
      have l1 := hb1.lt
      have l2 := hb2.lt
      clear hW0
      have hLL := HL.out W0 hc0
      have HC0 := Lib.hid hc0; clear hc0
      have HB0 := Lib.hid hb0; clear hb0
      have HB1 := Lib.hid hb1; clear hb1
      have HB2 := Lib.hid hb2; clear hb2
      go_wp2_with fail
      refine hLL.mono ?_
      rintro e w' ⟨rfl, rfl⟩
      clear hLL
      go_wp2_with fail
      refine (HAR.out _).mono ?_
      rintro e w' ⟨rfl, rfl⟩
      go_wp2_with fail
      refine calls_named fun W1 hW1 => ?_
      have hc1 := alw_ch hW1
      have e1 := alw_blk (xs := [.slice (some ⟨la', 0, none⟩) nl ac, .slice (some ⟨lb', 0, none⟩) nl bc]) hW1
      clear hW1
      refine (HCHK.out W1 _ (HC0.out.trans hc1 (by simp)) e1).mono ?_
      rintro e w2 ⟨rfl, hc2⟩
      have hc02 := hc1.trans hc2 (by simp)
      have HC2 := Lib.hid (HC0.out.trans hc02 (by simp))
      have hb0' := HB0.out.ch hc02 (by simp)
      have d0' := hb0'.cell (i := 0) rfl
      have HB0' := Lib.hid hb0'; clear hb0'
      have HB1' := Lib.hid (HB1.out.ch hc02 (by simp))
      have HB2' := Lib.hid (HB2.out.ch hc02 (by simp))
      clear e1 hc1 hc2 hc02 d0 d1 d2 HB0 HB1 HB2 HCHK
      by_cases hz : cc = 0
      · have hBB := HBU.out hz w2 HC2.out HB0'.out HB1'.out HB2'.out
        have hww := HWW.out
        rw [if_neg (by simp [hz])] at hww
        subst hz
        have HBB := Lib.hid hBB; clear hBB HBU
        have HW2 := Lib.hid hww; clear hww
        go_wp2_with fail
        refine HBB.out.mono ?_
        rintro e w3 ⟨v, rfl, hmb⟩
        obtain ⟨rfl, hgt⟩ := MB.gto HC2.out hmb
        rw [HW2.out] at hgt ⊢
        have HGT := Lib.hid hgt; clear hgt hmb
        go_wp2_with fail
        go_ret2
        exact ⟨by rw [← HW2.out, rres_e]; rfl, HGT.out⟩
      · have hq : ((cc : Int) != 0) = true := by simp; omega
        have hww := HWW.out
        rw [if_pos hz] at hww
        have HW2 := Lib.hid hww; clear hww
        have HZ := Lib.hid hz; clear hz
        go_wp2_with fail
        go_ret2
        exact ⟨by rw [← HW2.out]; rfl, by rw [← HW2.out]; exact GTo.same H.out HC2.out⟩
end
end Go.Proofs.YtdmmanfjafempaaGreat
namespace Go.Aig
/-- a write at one index: the choice of the one or the other word -/
def writeS (c : Nat) (x : List Nat) (L : List (List Nat)) (y : List Nat) (n : Nat) (q : Mk × List (List Nat)) (i : Nat) : Mk × List (List Nat) :=
  let a := rstep (isR q.1 y n i).1 (and (isR q.1 y n i).1.1 c (isR q.1 y n i).2)
  let z := chF a.2 a.1 (x.zip (L.getD i []))
  (z.1, q.2.set i z.2)
def writeF (G : Gra) (c : Nat) (x : List Nat) (L : List (List Nat)) (y : List Nat) (n k : Nat) : Mk × List (List Nat) := (List.range k).foldl (writeS c x L y n) ((G, 0), L)
theorem writeF_succ (G : Gra) (c : Nat) (x : List Nat) (L : List (List Nat)) (y : List Nat) (n k : Nat) : writeF G c x L y n (k + 1) = writeS c x L y n (writeF G c x L y n k) k := by
  unfold writeF; rw [List.range_succ, List.foldl_append]; rfl
theorem writeS_bad {c : Nat} {x : List Nat} {L : List (List Nat)} {y : List Nat} {n : Nat} {q : Mk × List (List Nat)} {i : Nat} (h : (isR q.1 y n i).1.2 ≠ 0) : (writeS c x L y n q i).1 = (isR q.1 y n i).1 := by
  have e : (rstep (isR q.1 y n i).1 (and (isR q.1 y n i).1.1 c (isR q.1 y n i).2)).1 = (isR q.1 y n i).1 := by rw [rstep_bad h]
  show (chF _ (rstep (isR q.1 y n i).1 (and (isR q.1 y n i).1.1 c (isR q.1 y n i).2)).1 _).1 = _
  rw [chF_bad0 (by rw [e]; exact h), e]
theorem writeF_bad {G : Gra} {c : Nat} {x : List Nat} {L : List (List Nat)} {y : List Nat} {n k : Nat} (h : (isR (writeF G c x L y n k).1 y n k).1.2 ≠ 0) : ∀ j, k < j → (writeF G c x L y n j).1 = (isR (writeF G c x L y n k).1 y n k).1 := by
  intro j hj
  induction j with
  | zero => omega
  | succ j ih =>
    rw [writeF_succ]
    by_cases e : j = k
    · subst e; exact writeS_bad h
    · have h1 := ih (by omega)
      have h2 : (isR (writeF G c x L y n j).1 y n j).1 = (isR (writeF G c x L y n k).1 y n k).1 := by rw [h1, isR_bad h]
      rw [writeS_bad (by rw [h2]; exact h), h2]
end Go.Aig
namespace Go.Proofs.YtdmmanfjafempaaGreat
open Go.RowKit Go.Mem Go.Aig
/-- what is known between two rounds: W0 is the world at the loop's start, ab the array that is made -/
structure WI (W0 : World) (lo g m : Nat) (G : Gra) (F : List Nat) (ab nl cap width : Nat) (R : Mk) (outs : List (List Nat)) (W : World) (vs : List Value) (P : Mk) (ls : List (List Nat)) (F' : List Nat) : Prop where
  sim : Sim G P R
  out : R.2 = 0 → ls = outs
  mem : MIn W g m P F'
  ch : Ch (m :: ab :: F) W0 W
  own : ∀ k ∈ F', k ∈ F ∨ W0.heap.size + 2 ≤ k
  map : F'[2]? = F[2]?
  arr : row W 40 1 (.slice (some ⟨ab, 0, none⟩) nl cap) nl vs
  len : ls.length = nl
  words : ∀ (i : Nat) (v : Value), vs[i]? = some v → ∃ l, ls[i]? = some l ∧ l.length = width ∧ (∀ r ∈ l, r < 2 * P.1.nodes.length) ∧ row W 41 1 v width (refsCells l) ∧ ∀ k, v.ownBlock = some k → lo ≤ k ∧ k ∉ m :: ab :: F' ∧ k ≠ W0.heap.size ∧ k ≠ W0.heap.size + 1
section
variable {W0 : World} {lo g m : Nat} {G : Gra} {F : List Nat} {ab nl cap width : Nat} {R : Mk} {outs : List (List Nat)} {W A A' : World} {vs : List Value} {P : Mk} {ls : List (List Nat)} {F' : List Nat}
theorem WI.abF (h : WI W0 lo g m G F ab nl cap width R outs W vs P ls F') (e : FR W0 m F ab) : ab ∉ m :: F' := fun hin => by
  have := e.lt
  simp only [List.mem_cons] at hin
  rcases hin with hin | hin
  · exact e.obm hin
  · rcases h.own _ hin with h1 | h1
    · exact e.obF h1
    · omega
theorem WI.noB (h : WI W0 lo g m G F ab nl cap width R outs W vs P ls F') (e : FR W0 m F ab) : ∀ q ∈ m :: F', q ≠ W0.heap.size ∧ q ≠ W0.heap.size + 1 := fun q hq => by
  simp only [List.mem_cons] at hq
  rcases hq with rfl | hq
  · have := e.low q (by simp); omega
  · rcases h.own _ hq with h1 | h1
    · have := e.low q (by simp [h1]); omega
    · omega
theorem WI.same (h : WI W0 lo g m G F ab nl cap width R outs A vs P ls F') (e : FR W0 m F ab) (hc : Ch [W0.heap.size, W0.heap.size + 1] A A') : WI W0 lo g m G F ab nl cap width R outs A' vs P ls F' := by
  have ho := e.lt
  have hs := h.noB e
  refine ⟨h.sim, h.out, h.mem.same hc (fun k hk => by have := hs k hk; simp; omega), h.ch.trans hc (by intro k hk; simp at hk; omega), h.own, h.map, h.arr.ch hc (fun k hk => by cases hk; show ab ∉ _; simp; omega), h.len, fun i v hv => ?_⟩
  obtain ⟨l, h1, h2, h3, h4, h5⟩ := h.words i v hv
  exact ⟨l, h1, h2, h3, h4.ch hc (fun k hk => by have := (h5 k hk).2.2; simp; omega), h5⟩
theorem WI.cell (h : WI W0 lo g m G F ab nl cap width R outs W vs P ls F') {b i : Nat} {x : Value} (hx : W0.cell? ⟨b, i, none⟩ = some x) (hb : b ∉ m :: ab :: F) : W.cell? ⟨b, i, none⟩ = some x := (h.ch.cell (cell_lt hx) hb).trans hx
theorem WI.word (h : WI W0 lo g m G F ab nl cap width R outs W vs P ls F') {x : WV} (hx : WVin W0 (m :: ab :: F) x) : WVin W F' x ∧ ∀ k ∈ ablk x.a, k ∉ m :: F' ∧ k < W.heap.size := by
  have hz := h.ch.size
  have key : ∀ k ∈ ablk x.a, k ∉ m :: F' ∧ k < W.heap.size := fun k hk => by
    obtain ⟨h1, h2⟩ := hx.apart k hk
    simp only [List.mem_cons, not_or] at h1
    refine ⟨?_, by omega⟩
    simp only [List.mem_cons, not_or]
    exact ⟨h1.1, fun hin => (h.own k hin).elim h1.2.2 (fun e => by omega)⟩
  exact ⟨⟨hx.ok.ch h.ch (fun p hp => (hx.apart p.block (ablk_of hp)).1), fun k hk => ⟨fun hin => (key k hk).1 (by simp [hin]), (key k hk).2⟩⟩, key⟩
/-- the maker works -/
theorem WI.to (h : WI W0 lo g m G F ab nl cap width R outs W vs P ls F') (e : FR W0 m F ab) (hB : W0.heap.size + 2 ≤ W.heap.size) {P' R' : Mk} {W' : World} (ht : MTo W g m P' F' W') (hs : Sim G P' R') (hx : Ext P.1 P'.1) (hb : R.2 ≠ 0 → R'.2 ≠ 0) : ∃ F1, WI W0 lo g m G F ab nl cap width R' outs W' vs P' ls F1 := by
  obtain ⟨F1, h1, h2, h3, h4⟩ := ht
  have ho := e.lt
  have hz := h.ch.size
  refine ⟨F1, hs, fun h0 => h.out (by by_cases h9 : R.2 = 0; exact h9; exact absurd h0 (hb h9)), h1, h.ch.trans h2 (fun k hk => ?_), fun k hk => ?_, h4.trans h.map, h.arr.ch h2 (fun k hk => by cases hk; exact h.abF e), h.len, fun i v hv => ?_⟩
  · simp only [List.mem_cons] at hk ⊢
    rcases hk with hk | hk
    · exact .inl (.inl hk)
    · rcases h.own k hk with h5 | h5
      · exact .inl (.inr (.inr h5))
      · exact .inr (by omega)
  · rcases h3 k hk with h5 | h5
    · exact h.own k h5
    · exact .inr (by omega)
  · obtain ⟨l, w1, w2, w3, w4, w5⟩ := h.words i v hv
    refine ⟨l, w1, w2, fun r hr => hx.lt (w3 r hr), w4.ch h2 (fun k hk => ?_), fun k hk => ?_⟩
    · have := (w5 k hk).2.1
      simp only [List.mem_cons, not_or] at this ⊢
      exact ⟨this.1, this.2.2⟩
    · obtain ⟨f1, f2, f3⟩ := w5 k hk
      refine ⟨f1, ?_, f3⟩
      simp only [List.mem_cons, not_or] at f2 ⊢
      refine ⟨f2.1, f2.2.1, fun hin => (h3 k hin).elim f2.2.2 (fun h5 => ?_)⟩
      have := (w4.lt k hk).2
      omega
/-- a word is made, and put into the array -/
theorem WI.put (h : WI W0 lo g m G F ab nl cap width R outs W vs P ls F') (e : FR W0 m F ab) (hB : W0.heap.size + 2 ≤ W.heap.size) (hlo : lo ≤ W0.heap.size) {S : Mk × List Nat} {va : Option Addr} {vc : Nat} {w1 : World} (hc : CH W g m G P F' S width (.slice va width vc) w1) {i : Nat} (hi : i < nl) (hR : S.1.2 = 0 → R.2 = 0) :
    ∃ P1 ls1 F1, WI W0 lo g m G F ab nl cap width S.1 (outs.set i S.2) (w1.setCell ⟨ab, i, none⟩ (.slice va width vc)) (vs.set i (.slice va width vc)) P1 ls1 F1 ∧ Books W0.heap.size W (w1.setCell ⟨ab, i, none⟩ (.slice va width vc)) := by
  obtain ⟨P1, l1, hs, ho1, hl, hall, hx, F1, hm, hc1, hF1, hmap, hrow, hfr⟩ := hc
  have hob := e.lt
  have hz := h.ch.size
  have hnB := h.noB e
  rw [hl] at hrow
  have hcs : Ch [ab] w1 (w1.setCell ⟨ab, i, none⟩ (.slice va width vc)) := (Ch.refl _ _).setCell (by simp) _
  have hoF1 : ab ∉ m :: F1 := fun hin => by
    have h9 := h.abF e
    simp only [List.mem_cons, not_or] at hin h9
    rcases hin with hin | hin
    · exact h9.1 hin
    · rcases hF1 _ hin with h5 | h5
      · exact h9.2 h5
      · omega
  have harr := h.arr.ch hc1 (fun k hk => by cases hk; have h9 := h.abF e; simpa using h9)
  refine ⟨P1, ls.set i l1, F1, ⟨hs, fun h0 => by rw [ho1 h0, h.out (hR h0)], hm.same hcs (fun k hk => ?_), (h.ch.trans hc1 (fun k hk => ?_)).trans hcs (by simp), fun k hk => ?_, hmap.trans h.map, row.set harr _, by rw [List.length_set]; exact h.len, fun j v hv => ?_⟩, (Books.of_ch hc1 hB (fun k hk => hnB k (by simpa using hk))).trans (Books.of_ch hcs (by have := hc1.size; omega) (by simp; omega))⟩
  · intro hk2
    rw [List.mem_singleton.1 hk2] at hk
    exact hoF1 hk
  · simp only [List.nil_append, List.mem_cons] at hk ⊢
    rcases hk with hk | hk
    · exact .inl (.inl hk)
    · rcases h.own k hk with h5 | h5
      · exact .inl (.inr (.inr h5))
      · exact .inr (by omega)
  · rcases hF1 k hk with h5 | h5
    · exact h.own k h5
    · exact .inr (by omega)
  · by_cases hji : j = i
    · subst hji
      have hvl : vs.length = nl := by have := h.arr.1; omega
      rw [List.getElem?_set_self (by omega)] at hv
      cases hv
      refine ⟨l1, List.getElem?_set_self (by rw [h.len]; exact hi), hl, hall, hrow.ch hcs (fun k hk => ?_), fun k hk => ?_⟩
      · have := hfr k hk; simp; omega
      · obtain ⟨f1, f2, f3⟩ := hfr k hk
        refine ⟨by omega, ?_, by omega, by omega⟩
        simp only [List.mem_cons, not_or]
        exact ⟨f3, by omega, f2⟩
    · rw [List.getElem?_set_ne (fun e => hji e.symm)] at hv
      obtain ⟨l, w1', w2, w3, w4, w5⟩ := h.words j v hv
      refine ⟨l, by rw [List.getElem?_set_ne (fun e => hji e.symm)]; exact w1', w2, fun r hr => hx.lt (w3 r hr), (w4.ch hc1 (fun k hk => ?_)).ch hcs (fun k hk => ?_), fun k hk => ?_⟩
      · have := (w5 k hk).2.1
        simp only [List.mem_cons, not_or, List.nil_append] at this ⊢
        exact ⟨this.1, this.2.2⟩
      · have := (w5 k hk).2.1
        simp only [List.mem_cons, not_or] at this ⊢
        exact ⟨this.2.1, by simp⟩
      · obtain ⟨f1, f2, f3⟩ := w5 k hk
        refine ⟨f1, ?_, f3⟩
        simp only [List.mem_cons, not_or] at f2 ⊢
        refine ⟨f2.1, f2.2.1, fun hin => (hF1 k hin).elim f2.2.2 (fun h5 => ?_)⟩
        have := (w4.lt k hk).2
        omega
/-- Write's state between two rounds -/
def WT (W0 : World) (lo g m : Nat) (G : Gra) (F : List Nat) (ab nl cap width : Nat) (O : Nat → List (List Nat)) (i : Nat) (R : Mk) (W : World) (P : Mk) (F' : List Nat) : Prop := ∃ vs ls, WI W0 lo g m G F ab nl cap width R (O i) W vs P ls F'
theorem WT.ft {O : Nat → List (List Nat)} {bn b2 bm nn n yc : Nat} {ya : Option Addr} {y : List Nat} (e : FR W0 m F ab) (hy : WVin W0 (m :: ab :: F) ⟨ya, natInts y, yc⟩) (cn : W0.cell? ⟨bn, 0, none⟩ = some (.int .i64 nn)) (cy : W0.cell? ⟨b2, 0, none⟩ = some (.slice ya n yc)) (cm : W0.cell? ⟨bm, 0, none⟩ = some (.pointer (some ⟨m, 0, none⟩)))
    (hn : bn ∉ m :: ab :: F) (h2 : b2 ∉ m :: ab :: F) (hm : bm ∉ m :: ab :: F) : FT g m G (WT W0 lo g m G F ab nl cap width O) bn b2 bm nn n yc W0.heap.size ya y where
  mem := by
    rintro i R W P F' ⟨vs, ls, h⟩
    refine ⟨h.mem, h.sim, (h.word hy).1, h.cell cn hn, h.cell cy h2, h.cell cm hm, fun hin => ?_, h.noB e⟩
    have h9 := cell_lt cm
    simp only at h9
    simp only [List.mem_cons, not_or] at hin hm
    rcases hin with hin | hin
    · exact hm.1 hin
    · rcases h.own _ hin with h5 | h5
      · exact hm.2.2 h5
      · omega
  to := by
    rintro i R W P F' P' R' W' ⟨vs, ls, h⟩ hB ht hs hx hb
    obtain ⟨F1, h1⟩ := h.to e hB ht hs hx hb
    exact ⟨F1, vs, ls, h1⟩
  same := by
    rintro i R A A' P F' ⟨vs, ls, h⟩ hc
    exact ⟨vs, ls, h.same e hc⟩
end
end Go.Proofs.YtdmmanfjafempaaGreat
namespace Go.Proofs.YtdmmanfjafempaaGreat
open Go.RowKit Go.Mem Go.Aig
attribute [local go_sem] Oper.semAt_some
theorem fnvmWrite1 : Fnv 96 := fnv_of Tryz.func96 (by simp [Tryz.f96]) (by simp [Tryz.f96])
/-- what a closure that makes an array leaves -/
def WA1 (w : World) (g m : Nat) (G : Gra) (F : List Nat) (width : Nat) (S : Mk × List (List Nat)) (v : Value) (w' : World) : Prop :=
  ∃ P vs ls F', Sim G P S.1 ∧ (S.1.2 = 0 → ls = S.2) ∧ MIn w' g m P F' ∧ Ch (m :: F) w w' ∧ (∀ k ∈ F', k ∈ F ∨ w.heap.size ≤ k) ∧ F'[2]? = F[2]? ∧ row w' 40 1 v ls.length vs ∧ (∀ k, v.ownBlock = some k → w.heap.size ≤ k ∧ k ∉ F') ∧
    ∀ (i : Nat) (u : Value), vs[i]? = some u → ∃ l, ls[i]? = some l ∧ l.length = width ∧ (∀ r ∈ l, r < 2 * P.1.nodes.length) ∧ row w' 41 1 u width (refsCells l) ∧ ∀ k, u.ownBlock = some k → w.heap.size ≤ k ∧ k ∉ F' ∧ v.ownBlock ≠ some k
/-- the copies of the words, one after the other -/
structure CpI (w : World) (m mb ob width : Nat) (Ls : List WV) (wr : World) (v : Value) (k : Nat) (vs : List Value) : Prop where
  ch : Ch [] w wr
  bx : blk wr ob [v]
  mbx : blk wr mb [.pointer (some ⟨m, 0, none⟩)]
  arr : row wr 40 1 v k vs
  own : ∀ q, v.ownBlock = some q → w.heap.size ≤ q ∧ q ≠ ob ∧ q ≠ mb
  words : ∀ (i : Nat) (u : Value), vs[i]? = some u → ∃ x, Ls[i]? = some x ∧ row wr 41 1 u width (intCells x.l) ∧ ∀ q, u.ownBlock = some q → w.heap.size ≤ q ∧ q ≠ ob ∧ q ≠ mb ∧ v.ownBlock ≠ some q
theorem CpI.ch0 {w : World} {m mb ob width : Nat} {Ls : List WV} {wr wr' : World} {v : Value} {k : Nat} {vs : List Value} (h : CpI w m mb ob width Ls wr v k vs) (hc : Ch [] wr wr') : CpI w m mb ob width Ls wr' v k vs :=
  ⟨h.ch.trans hc (by simp), h.bx.ch hc (by simp), h.mbx.ch hc (by simp), h.arr.ch hc (by simp), h.own, fun i u hu => by
    obtain ⟨x, h1, h2, h3⟩ := h.words i u hu
    exact ⟨x, h1, h2.ch hc (by simp), h3⟩⟩
/-- a copy is appended, and the box is set -/
theorem CpI.snoc {w : World} {m mb ob width : Nat} {Ls : List WV} {wr w1 w2 : World} {v : Value} {k : Nat} {vs : List Value} (h : CpI w m mb ob width Ls wr v k vs) (hob : w.heap.size ≤ ob) (hne : ob ≠ mb) {x : WV} (hx : Ls[k]? = some x) {u : Value} {v' : Value} (hr : Ch [] wr w1)
    (hu : row w1 41 1 u width (intCells x.l)) (hown : ∀ q, u.ownBlock = some q → wr.heap.size ≤ q) (h4 : row w2 40 1 v' (k + 1) (vs ++ [u])) (hC : Ch v.ownBlock.toList w1 w2) (hf : ∀ q, v'.ownBlock = some q → v.ownBlock = some q ∨ w1.heap.size ≤ q) :
    CpI w m mb ob width Ls (w2.setCell ⟨ob, 0, none⟩ v') v' (k + 1) (vs ++ [u]) := by
  have hcs : Ch [ob] w2 (w2.setCell ⟨ob, 0, none⟩ v') := (Ch.refl _ _).setCell (by simp) _
  have hobl := h.bx.lt
  have hmbl := h.mbx.lt
  have hz := h.ch.size
  have hz1 := hr.size
  have hvk : vs.length = k := by have := h.arr.1; omega
  have hcv : ∀ q ∈ v.ownBlock.toList, w.heap.size ≤ q ∧ q ≠ ob ∧ q ≠ mb := fun q hq => h.own q (by simpa using hq)
  have hown' : ∀ q, v'.ownBlock = some q → w.heap.size ≤ q ∧ q ≠ ob ∧ q ≠ mb := fun q hq => by
    rcases hf q hq with e | e
    · exact h.own q e
    · exact ⟨by omega, by omega, by omega⟩
  refine ⟨((h.ch.trans hr (by simp)).trans hC (fun q hq => .inr (hcv q hq).1)).trans hcs (by simp; omega), ?_, ?_, h4.ch hcs (fun q hq => by have := (hown' q hq).2.1; simp; omega), hown', fun i z hz' => ?_⟩
  · have := ((h.bx.ch hr (by simp)).ch hC (fun hin => (hcv _ hin).2.1 rfl)).set (i := 0) v'
    exact this
  · exact ((h.mbx.ch hr (by simp)).ch hC (fun hin => (hcv _ hin).2.2 rfl)).ch hcs (by simp; omega)
  · by_cases hi : i < k
    · rw [List.getElem?_append_left (by omega)] at hz'
      obtain ⟨y, k1, k2, k3⟩ := h.words i z hz'
      refine ⟨y, k1, ((k2.ch hr (by simp)).ch hC (fun q hq hin => (k3 q hq).2.2.2 (by simpa using hin))).ch hcs (fun q hq => by have := (k3 q hq).2.1; simp; omega), fun q hq => ?_⟩
      obtain ⟨f1, f2, f3, f4⟩ := k3 q hq
      refine ⟨f1, f2, f3, fun e => ?_⟩
      rcases hf q e with e2 | e2
      · exact f4 e2
      · have := (k2.lt q hq).2; omega
    · have hik : i = k := by
        have := (List.getElem?_eq_some_iff.1 hz').1
        rw [List.length_append] at this
        simp at this; omega
      subst hik
      rw [List.getElem?_append_right (by omega), hvk, Nat.sub_self] at hz'
      cases hz'
      refine ⟨x, hx, (hu.ch hC (fun q hq hin => ?_)).ch hcs (fun q hq => ?_), fun q hq => ?_⟩
      · have h1 := hown q hq
        have h2 := (h.arr.lt q (by simpa using hin)).2
        omega
      · have h1 := hown q hq
        simp; omega
      · have h1 := hown q hq
        refine ⟨by omega, by omega, by omega, fun e => ?_⟩
        rcases hf q e with e2 | e2
        · have h2 := (h.arr.lt q e2).2; omega
        · have := (hu.lt q hq).2; omega
end Go.Proofs.YtdmmanfjafempaaGreat
namespace Go.Proofs.YtdmmanfjafempaaGreat
open Go.RowKit Go.Mem Go.Aig
attribute [local go_sem] Oper.semAt_some
section
variable {w : World} {g m : Nat} {G : Gra} {F : List Nat}
set_option maxRecDepth 100000 in
set_option maxHeartbeats 4000000 in
theorem mWrite1_is [Nonempty Unit] (h : MIn w g m (G, 0) F) {Ls : List WV} {lb nl lc n yc width fitv cr : Nat} {y : List Nat} {ya : Option Addr} {x : WV} (hL : WL w (m :: F) lb nl Ls) (hW : ∀ x ∈ Ls, WOf G width x.l) (hnl : 1 ≤ nl ∧ nl ≤ 256) (hw : width ≤ 16)
    (hx : WVin w (m :: F) x) (hxw : WOf G width x.l) (hcr : cr < 2 * G.nodes.length)
    (hy : WVin w (m :: F) ⟨ya, natInts y, yc⟩) (hyl : y.length = n) (h1 : 1 ≤ n) (h16 : n ≤ 16) (hyr : ∀ r ∈ y, r < 2 * G.nodes.length) (hfit : fitN nl n = fitv)
    {bl b2 bg bc bx : Nat} (hbl : w.cell? ⟨bl, 0, none⟩ = some (.slice (some ⟨lb, 0, none⟩) nl lc)) (hby : w.cell? ⟨b2, 0, none⟩ = some (.slice ya n yc)) (hbg : w.cell? ⟨bg, 0, none⟩ = some (.pointer (some ⟨g, 0, none⟩))) (hbc : w.cell? ⟨bc, 0, none⟩ = some (.int .i64 cr)) (hbx : w.cell? ⟨bx, 0, none⟩ = some (.slice x.a width x.c))
    (hblF : bl ∉ m :: F) (hbyF : b2 ∉ m :: F) (hbgF : bg ∉ m :: F) (hbcF : bc ∉ m :: F) (hbxF : bx ∉ m :: F) :
    Calls Tryz.prog 96 (#[.pointer (some ⟨m, 0, none⟩)] ++ #[.pointer (some ⟨bl, 0, none⟩), .pointer (some ⟨b2, 0, none⟩), .pointer (some ⟨bg, 0, none⟩), .pointer (some ⟨bc, 0, none⟩), .pointer (some ⟨bx, 0, none⟩)]) w fun e W' => ∃ v, e = .returned v ∧ WA1 w g m G F width (writeF G cr (nats x.l) (Ls.map fun x => nats x.l) y n fitv) v W' := by
  show Calls Tryz.prog 96 #[.pointer (some ⟨m, 0, none⟩), .pointer (some ⟨bl, 0, none⟩), .pointer (some ⟨b2, 0, none⟩), .pointer (some ⟨bg, 0, none⟩), .pointer (some ⟨bc, 0, none⟩), .pointer (some ⟨bx, 0, none⟩)] w _
  have hml := h.bk.lt
  have hFl := h.gin.lt
  have hok := h.gin.ok
  have hpos := hok.wf.pos
  have hfl : fitv ≤ nl := by rw [← hfit]; exact Nat.min_le_left _ _
  obtain ⟨LN, hLN⟩ : ∃ LN, LN = Ls.map fun x => nats x.l := ⟨_, rfl⟩
  rw [← hLN]
  have hLg : ∀ (i : Nat) (x : WV), Ls[i]? = some x → LN[i]? = some (nats x.l) := fun i x hx => by rw [hLN, List.getElem?_map, hx]; rfl
  have hLl : LN.length = nl := by rw [hLN, List.length_map]; exact hL.len
  have H := Lib.hid h; clear h
  have HL := Lib.hid hL; clear hL
  have HW := Lib.hid hW; clear hW
  have HXW := Lib.hid hxw; clear hxw
  have HXV := Lib.hid hx; clear hx
  have HYW := Lib.hid hy; clear hy
  have HLG := Lib.hid hLg; clear hLg
  have HLL := Lib.hid hLl; clear hLl
  have hbllt := cell_lt hbl
  have hbylt := cell_lt hby
  have hbglt := cell_lt hbg
  have hbclt := cell_lt hbc
  have hbxlt := cell_lt hbx
  simp only at hbllt hbylt hbglt hbclt hbxlt
  have HBL := Lib.hid hbl
  have HBY := Lib.hid hby
  have HBG := Lib.hid hbg
  have HBC := Lib.hid hbc
  have HBX := Lib.hid hbx
  have HOK := Lib.hid hok; clear hok
  obtain ⟨RQ, hRQ⟩ : ∃ RQ : Nat → Mk × List (List Nat), ∀ k, RQ k = writeF G cr (nats x.l) LN y n k := ⟨_, fun _ => rfl⟩
  have hR0 : RQ 0 = ((G, 0), LN) := by rw [hRQ]; rfl
  have hRS : ∀ k, RQ (k + 1) = writeS cr (nats x.l) LN y n (RQ k) k := fun k => by rw [hRQ, hRQ, writeF_succ]
  have hRB : ∀ k, (isR (RQ k).1 y n k).1.2 ≠ 0 → ∀ j, k < j → (RQ j).1 = (isR (RQ k).1 y n k).1 := fun k hk j hj => by
    rw [hRQ] at hk
    rw [hRQ, hRQ]; exact writeF_bad hk j hj
  rw [← hRQ]
  have HR0 := Lib.hid hR0; clear hR0
  have HRS := Lib.hid hRS; clear hRS
  have HRB := Lib.hid hRB; clear hRB
  clear hLN hRQ
  refine (callsIn_wide (n := 4)).1 ?_
  refine callsIn_of_wp_marks Tryz.func96 rfl trivial ?_ rfl
  simp only [Tryz.ntmps96, List.size_toArray, List.length_cons, List.length_nil, Nat.reduceAdd, Nat.reduceSub, Array.replicate_succ, Array.replicate_zero, List.push_toArray, List.append_toArray, List.nil_append, List.cons_append]
  refine wpIn_wide.2 ?_
  go_upto_region 2 with fail
  refine wp_named fun W1 hW1 => ?_
  have hc1 : Ch [] w W1 := by rw [hW1]; exact ((Ch.refl _ _).alloc _).alloc _
  have hbm : blk W1 w.heap.size [.pointer (some ⟨m, 0, none⟩)] := by rw [hW1]; exact (blk.new' _ _ (by simp)).alloc _
  have hbo : blk W1 (w.heap.size + 1) [.slice none 0 0] := by rw [hW1]; exact blk.new' _ _ (by simp)
  clear hW1
  have c_l := (hc1.cell (cell_lt hbl) (by simp)).trans hbl
  have hcp : CpI w m w.heap.size (w.heap.size + 1) width Ls W1 (.slice none 0 0) 0 [] := ⟨hc1, hbo, hbm, ⟨rfl, .inl ⟨rfl, rfl⟩⟩, by simp [Value.ownBlock], by simp⟩
  generalize hob : w.heap.size + 1 = ob at *
  have hob1 : w.heap.size < ob := by omega
  clear hob hbo hbm hbl hby hbg hbc hbx
  have HC1 := Lib.hid hc1; clear hc1
  have HCP := Lib.hid hcp; clear hcp
  go_wp2_with fail
  clear c_l
  go_loopw [17] (fun i wr => ∃ (k : Nat) (v : Value) (vs : List Value), k ≤ nl ∧ i = .int .i64 k ∧ CpI w m w.heap.size ob width Ls wr v k vs) (fun i _ => nl - (intOf i).toNat)
  case atStart => exact ⟨0, _, [], Nat.zero_le _, rfl, HCP.out⟩
  case round =>
    clear HCP
    obtain ⟨k, v, vs, hk, rfl, hcp⟩ := hrel
    obtain ⟨oa, oc, rfl⟩ := row.shape hcp.arr
    by_cases hlt : k < nl
    · obtain ⟨z, hz⟩ : ∃ z, Ls[k]? = some z := ⟨_, List.getElem?_eq_getElem (by rw [HL.out.len]; exact hlt)⟩
      have hzm := List.mem_of_getElem? hz
      have hzw := HW.out z hzm
      have c_z := (hcp.ch.cell (cell_lt (HL.out.cells k z hz)) (by simp)).trans (HL.out.cells k z hz)
      have hcl := fun (W : World) (hW : Ch [] wr W) => Clref_w ((HL.out.words z hzm).ok.ch (hcp.ch.trans hW (by simp)) (by simp)) width hzw.len
      have hil : (intCells z.l).length = width := by rw [show (intCells z.l).length = z.l.length by simp [intCells]]; exact hzw.len
      unfold WV.val at c_z
      rw [hzw.len] at c_z
      have hbo := hcp.bx
      have hobl := hbo.lt
      have HCL := Lib.hid hcl; clear hcl
      have HCP := Lib.hid hcp; clear hcp
      have HZ := Lib.hid hz; clear hz
      clear hzm hzw
      obtain ⟨za, zl, zc⟩ := z
      simp only at c_z hil HZ HCL
      have HIL := Lib.hid hil; clear hil
      go_wp2_with fail
      refine Ord.St.door (fun w' => w'.cell? ⟨ob, 0, none⟩ = some (.slice oa k oc)) [.ho, .fl, .ef, .ef, .ef, .ef] [0, 0, 2, 6, 15, 31] [0, 1, 2, 3, 4, 5] mixed (by kernel_rfl) rfl ?_
      obtain ⟨Wc, hWc⟩ : ∃ Wc, Wc = wr.drew := ⟨_, rfl⟩
      rw [← hWc]
      have hcur : Ch [] wr Wc := by rw [hWc]; exact (Ch.refl _ _).drew
      clear hWc
      replace hbo := hbo.ch hcur (by simp)
      have HCC := Lib.hid (HCL.out Wc hcur)
      have HCUR := Lib.hid hcur; clear hcur HCL
      refine Ord.St.ho2 (T' := ?_) 0 [1, 2, 3, 4, 5] _ _ rfl (by kernel_rfl) rfl rfl rfl rfl ?_ (fun K w' hw' hk => ?_) ?_
      rotate_left
      · exact hbo.cell rfl
      · have q1 := hw'; go_step; exact hk
      refine Ord.St.fl2 (T' := ?_) 1 [2, 3, 4, 5] _ _ rfl (by kernel_rfl) rfl rfl rfl rfl (fun K w' hk => ?_) ?_
      rotate_left
      · go_step; exact hk
      refine Ord.St.efC 2 [3, 4, 5] _ rfl (by kernel_rfl) (fun K hK => ?_)
      go_wp2_with fail
      refine HCC.out.mono ?_
      rintro e w1 ⟨u, rfl, hru, hou, hcu⟩
      rw [HIL.out] at hru
      obtain ⟨ua, uc, rfl⟩ := row.shape hru
      replace hbo := hbo.ch hcu (by simp)
      have hnb : blk (w1.alloc (.cells #[.slice ua width uc] 40)) w1.heap.size [.slice ua width uc] := blk.new' _ _ rfl
      have hcA : Ch [] wr (w1.alloc (.cells #[.slice ua width uc] 40)) := (HCUR.out.trans hcu (by simp)).alloc _
      have harrA := HCP.out.arr.ch hcA (by simp)
      have hruA := hru.ch ((Ch.refl [] w1).alloc (.cells #[.slice ua width uc] 40)) (by simp)
      have HNB := Lib.hid hnb; clear hnb
      have HARR := Lib.hid harrA; clear harrA
      have HRUA := Lib.hid hruA; clear hruA hru
      have HCA := Lib.hid hcA; clear hcA
      have HOU := Lib.hid hou; clear hou
      have HCU := Lib.hid hcu; clear hcu HCC
      go_wp2_with fail
      refine ⟨rfl, hK _ _ ?_ ?_⟩
      · exact hbo.cell rfl
      clear hK K
      refine Ord.St.efC 3 [4, 5] _ rfl (by kernel_rfl) (fun K hK => ?_)
      go_wp2_with fail
      replace hbo := hbo.alloc (.cells #[.slice ua width uc] 40)
      refine ⟨rfl, hK _ _ ?_ ?_⟩
      · exact hbo.cell rfl
      clear hK K
      refine Ord.St.ef 4 [5] _ rfl (by kernel_rfl) (fun K hK => ?_)
      go_wp2_with (at_builtin; go_loud (refine wpList_append_row slRows rfl _ _ rfl (v := .slice oa k oc) (n := k) (xs := vs) rfl HARR.out (ad := ⟨w1.heap.size, 0, none⟩) (m := 1) (c := 1) (news := [.slice ua width uc]) rfl rfl (news_blk HNB.out) (by simp [Value.oneCell']) (by omega) (by omega) ?_; intro v' w4 hown4 hC4 hf4; obtain ⟨gb, gc, rfl⟩ := row.parts hown4 (by omega); have HO4 := Lib.hid hown4; clear hown4; have HC4 := Lib.hid hC4; clear hC4; have HF4 := Lib.hid hf4; clear hf4))
      replace hbo := hbo.ch HC4.out (fun hk => (HCP.out.own _ (by simpa using hk)).2.1 rfl)
      have k1 := hbo.cell (i := 0) rfl
      have k2 := hbo.frozen (i := 0)
      refine ⟨rfl, hK _ _ ?_⟩; clear hK K
      refine Ord.St.ef 5 [] _ rfl (by kernel_rfl) (fun K hK => ?_)
      go_wp2_with fail
      refine ⟨rfl, hK _ _ ?_⟩; clear hK K
      refine Ord.St.nil ?_
      go_wp2_with fail
      go_roundw
      case rel =>
        have hsn := HCP.out.snoc (by omega) (by omega) HZ.out HCA.out HRUA.out (fun q hq => Nat.le_trans HCUR.out.size (HOU.out q (by simpa using hq))) HO4.out HC4.out HF4.out
        exact ⟨k + 1, _, _, by omega, by go_num, hsn⟩
      case measure => simp [intOf]; omega
    · have hkn : k = nl := by omega
      obtain ⟨ab, acap, e⟩ := hcp.arr.parts (by omega)
      cases e
      rw [hkn] at hcp ⊢
      clear hkn hk
      have c_l := (hcp.ch.cell (cell_lt HBL.out) (by simp)).trans HBL.out
      have c_y := (hcp.ch.cell (cell_lt HBY.out) (by simp)).trans HBY.out
      have c_m := hcp.mbx.cell (i := 0) rfl
      have HCP := Lib.hid hcp; clear hcp
      go_wp2_with fail
      refine (mfitting_is (m := m) nl ya n yc).mono ?_
      rintro e W0 ⟨rfl, hW0⟩
      have hc0 : Ch [] wr W0 := by rw [hW0]; exact (((Ch.refl _ _).alloc _).alloc _).alloc _
      have hbm0 : blk W0 wr.heap.size [.pointer (some ⟨m, 0, none⟩)] := by rw [hW0]; exact ((blk.new' _ _ (by simp)).alloc _).alloc _
      have hbn0 : blk W0 (wr.heap.size + 1) [.int .i64 nl] := by rw [hW0]; exact (blk.new' _ _ (by simp)).alloc _
      have hby0 : blk W0 (wr.heap.size + 2) [.slice ya n yc] := by rw [hW0]; exact blk.new' _ _ (by simp)
      clear hW0 c_l c_y c_m
      go_wp2_with fail
      have hcw : Ch [] w W0 := HCP.out.ch.trans hc0 (by simp)
      have habo := HCP.out.own ab rfl
      have habl := (HCP.out.arr.lt ab rfl).2
      have hobl := HCP.out.bx.lt
      have hz0 := hc0.size
      have hbml := HCP.out.mbx.lt
      have key : ∀ k, k < w.heap.size → k ∉ m :: F → k ∉ m :: ab :: F := fun k hk hn => by
        simp only [List.mem_cons, not_or] at hn ⊢
        exact ⟨hn.1, by omega, hn.2⟩
      have hFR : FR W0 m F ab := ⟨fun k hk => by
        have hz := hcw.size
        simp only [List.mem_cons] at hk
        rcases hk with rfl | hk
        · omega
        · have := hFl k hk; omega, by omega, by omega, fun hin => by have := hFl _ hin; omega⟩
      have hL0 : WL W0 (m :: ab :: F) lb nl Ls := by
        have h0 := HL.out.ch hcw
        exact ⟨h0.len, h0.cells, fun x hx => ⟨(h0.words x hx).ok, fun k hk => ⟨key k ((HL.out.words x hx).apart k hk).2 ((h0.words x hx).apart k hk).1, ((h0.words x hx).apart k hk).2⟩⟩, key _ HL.out.apart.2 h0.apart.1, h0.apart.2⟩
      have hvin : ∀ {z : WV}, WVin w (m :: F) z → WVin W0 (m :: ab :: F) z := fun hz => ⟨(hz.ch hcw).ok, fun k hk => ⟨key k (hz.apart k hk).2 (hz.apart k hk).1, ((hz.ch hcw).apart k hk).2⟩⟩
      have hY0 := hvin HYW.out
      have hX0 := hvin HXV.out
      have hbl0 := (hcw.cell (cell_lt HBL.out) (by simp)).trans HBL.out
      have hbg0 := (hcw.cell (cell_lt HBG.out) (by simp)).trans HBG.out
      have hbc0 := (hcw.cell (cell_lt HBC.out) (by simp)).trans HBC.out
      have hbx0 := (hcw.cell (cell_lt HBX.out) (by simp)).trans HBX.out
      have hnin : ∀ b, w.heap.size ≤ b → b ≠ ab → b ∉ m :: ab :: F := fun b hb hne => by
        simp only [List.mem_cons, not_or]
        exact ⟨by omega, hne, fun hin => by have := hFl _ hin; omega⟩
      have hbo0 := (HCP.out.bx.ch hc0 (by simp)).cell (i := 0) rfl
      have hmb0 := (HCP.out.mbx.ch hc0 (by simp)).cell (i := 0) rfl
      have hRI0 : WT W0 w.heap.size g m G F ab nl oc width (fun i => (RQ i).2) 0 (RQ 0).1 W0 (G, 0) F := by
        rw [HR0.out]
        refine ⟨vs, LN, Sim.start HOK.out, fun _ => by show _ = (RQ 0).2; rw [HR0.out], H.out.same hcw (by simp), Ch.refl _ _, fun k hk => .inl hk, rfl, HCP.out.arr.ch hc0 (by simp), HLL.out, fun i u hu => ?_⟩
        obtain ⟨z, k1, k2, k3⟩ := HCP.out.words i u hu
        have hzw := HW.out z (List.mem_of_getElem? k1)
        refine ⟨nats z.l, HLG.out i z k1, by rw [nats_len]; exact hzw.len, hzw.lt, by rw [refs_natInts, hzw.cast]; exact k2.ch hc0 (by simp), fun k hk => ?_⟩
        obtain ⟨f1, f2, f3, f4⟩ := k3 k hk
        have f5 := (k2.lt k hk).2
        refine ⟨f1, ?_, by omega, by omega⟩
        simp only [List.mem_cons, not_or]
        exact ⟨by omega, fun e => f4 (by rw [e]; rfl), fun hin => by have := hFl _ hin; omega⟩
      have hFT := WT.ft (lo := w.heap.size) (g := g) (G := G) (nl := nl) (cap := oc) (width := width) (O := fun i => (RQ i).2) hFR hY0 (hbn0.cell (i := 0) rfl) (hby0.cell (i := 0) rfl) (hbm0.cell (i := 0) rfl) (hnin _ (by omega) (by omega)) (hnin _ (by omega) (by omega)) (hnin _ (by omega) (by omega))
      have HFR := Lib.hid hFR; clear hFR
      have HFT := Lib.hid hFT; clear hFT
      have HL0 := Lib.hid hL0; clear hL0
      have HX0 := Lib.hid hX0; clear hX0
      have HRI0 := Lib.hid hRI0; clear hRI0
      have HCW := Lib.hid hcw; clear hcw
      have HBL0 := Lib.hid hbl0; clear hbl0
      have HBG0 := Lib.hid hbg0; clear hbg0
      have HBC0 := Lib.hid hbc0; clear hbc0
      have HBX0 := Lib.hid hbx0; clear hbx0
      have HBO0 := Lib.hid hbo0; clear hbo0
      have HMB0 := Lib.hid hmb0; clear hmb0
      have hblN := key bl hbllt hblF
      have hbgN := key bg hbglt hbgF
      have hbcN := key bc hbclt hbcF
      have hbxN := key bx hbxlt hbxF
      have hobN := hnin ob (by omega) (fun e => habo.2.1 e.symm)
      have hmbN := hnin w.heap.size (Nat.le_refl _) (fun e => habo.2.2 e.symm)
      have HBLN := Lib.hid hblN; clear hblN hblF
      have HBGN := Lib.hid hbgN; clear hbgN hbgF
      have HBCN := Lib.hid hbcN; clear hbcN hbcF
      have HBXN := Lib.hid hbxN; clear hbxN hbxF
      have HOBN := Lib.hid hobN; clear hobN
      have HMBN := Lib.hid hmbN; clear hmbN
      clear hbm0 hbn0 hby0 hY0 key hvin hnin hbyF hc0
      refine (wpIn_wide (n := 4)).1 ?_
      refine wpIn_rangeFunc_Q (n := 4) W0.heap.size rfl rfl (by omega) rfl trivial (fun args w => fnvmfitting1 args w) (encs := fitEnc) (fun _ => rfl)
        (FInv (WT W0 w.heap.size g m G F ab nl oc width (fun i => (RQ i).2)) (fun i => (RQ i).1) 0)
        (FKx (WT W0 w.heap.size g m G F ab nl oc width (fun i => (RQ i).2)) (fun i => isR (RQ i).1 y n i) fitv)
        (fun x => FInv (WT W0 w.heap.size g m G F ab nl oc width (fun i => (RQ i).2)) (fun i => (RQ i).1) (x.1 + 1))
        (FInv (WT W0 w.heap.size g m G F ab nl oc width (fun i => (RQ i).2)) (fun i => (RQ i).1) fitv)
        ?seq ?j0 ?k ?j ?d ⟨_, _, HRI0.out⟩ ?a1 ?assign ?body ?done
      case assign =>
        intro q x W K hK
        simp only [fitEnc]
        gi_wp2
        exact hK
      case j0 =>
        rintro A A' ⟨P, F', h⟩ hc
        exact ⟨P, F', HFT.out.same h hc⟩
      case k =>
        rintro x A A' ⟨hx, P, F', hp, h, h2⟩ hc
        exact ⟨hx, P, F', hp, HFT.out.same h hc, h2⟩
      case j =>
        rintro x A A' ⟨P, F', h⟩ hc
        exact ⟨P, F', HFT.out.same h hc⟩
      case d =>
        rintro A A' ⟨P, F', h⟩ hc
        exact ⟨P, F', HFT.out.same h hc⟩
      case seq =>
        intro lp X hX hXB hY W hI hXW
        refine fit_seq (T := WT W0 w.heap.size g m G F ab nl oc width (fun i => (RQ i).2)) (RF := fun i => (RQ i).1) (IS := fun i => isR (RQ i).1 y n i) 3 (by omega) HFT.out hyl h1 h16 (by omega) hyr hfit (fun _ => rfl) ?_ lp X hX hXB hY W hI hXW
        rintro i hi hb W P F' ⟨vs, ls, h⟩
        have e := HRB.out i hb fitv hi
        refine ⟨vs, ls, ?_⟩
        rw [e]
        exact ⟨h.sim, fun h9 => absurd h9 hb, h.mem, h.ch, h.own, h.map, h.arr, h.len, h.words⟩
      case body =>
        rintro q ⟨i, r⟩ W ⟨hxf, P, F', hP, ⟨vs2, ls, hE⟩, hr, hrl⟩ hWl
        simp only at hxf hE hr hrl
        obtain ⟨z, hz⟩ : ∃ z, Ls[i]? = some z := ⟨_, List.getElem?_eq_getElem (by rw [HL0.out.len]; omega)⟩
        have hmem := List.mem_of_getElem? hz
        have hzo := HW.out z hmem
        have hlg := HLG.out i z hz
        have hzc0 := HL0.out.cells i z hz
        have hzv := HL0.out.words z hmem
        have hcrl : cr < 2 * P.1.nodes.length := hE.sim.ext.lt hcr
        have hst := hE.sim.step (and_full hE.mem.gin.ok hcrl hrl) (Y := and (isR (RQ i).1 y n i).1.1 cr r) (fun _ e => by rw [e])
        have hAND := And_g hE.mem.gin cr r (by have := hE.mem.gin.ok.small; omega) (by have := hE.mem.gin.ok.small; omega)
        rw [doAnd_r hcrl hrl] at hAND
        obtain ⟨X, hX⟩ : ∃ X, and P.1 cr r = X := ⟨_, rfl⟩
        rw [hX] at hst hAND
        have hSQ : RQ (i + 1) = ((chF (rstep (isR (RQ i).1 y n i).1 (and (isR (RQ i).1 y n i).1.1 cr r)).2 (rstep (isR (RQ i).1 y n i).1 (and (isR (RQ i).1 y n i).1.1 cr r)).1 ((nats x.l).zip (nats z.l))).1, (RQ i).2.set i (chF (rstep (isR (RQ i).1 y n i).1 (and (isR (RQ i).1 y n i).1.1 cr r)).2 (rstep (isR (RQ i).1 y n i).1 (and (isR (RQ i).1 y n i).1.1 cr r)).1 ((nats x.l).zip (nats z.l))).2) := by
          rw [HRS.out]
          unfold writeS
          rw [← hr, show LN.getD i [] = nats z.l by rw [List.getD_eq_getElem?_getD, hlg]; rfl]
        obtain ⟨R2, hR2⟩ : ∃ R2, rstep (isR (RQ i).1 y n i).1 (and (isR (RQ i).1 y n i).1.1 cr r) = R2 := ⟨_, rfl⟩
        rw [hR2] at hst hSQ
        have hil : i < nl := by omega
        have hkeep : ∀ {b j : Nat} {v : Value}, W0.cell? ⟨b, j, none⟩ = some v → b ∉ m :: ab :: F → ∀ W', Ch (m :: F') W W' → W'.cell? ⟨b, j, none⟩ = some v := fun {b j v} hv hb W' hW' => by
          have h8 := hE.cell hv hb
          refine (hW'.cell (cell_lt h8) ?_).trans h8
          simp only [List.mem_cons, not_or] at hb ⊢
          refine ⟨hb.1, fun hin => (hE.own _ hin).elim hb.2.2 (fun e => ?_)⟩
          have := cell_lt hv
          simp only at this
          omega
        have hb0 := hE.mem.bk
        have hchoose : ∀ (W6 : World) (P6 : Mk) (F6 : List Nat), WI W0 w.heap.size g m G F ab nl oc width R2.1 (RQ i).2 W6 vs2 P6 ls F6 → P6 = (mput P X).1 → Calls Tryz.prog 82 #[.pointer (some ⟨m, 0, none⟩), .int .i64 X.2.1, .slice x.a width x.c, .slice z.a width z.c] W6 fun e w' => ∃ v, e = .returned v ∧ CH W6 g m G P6 F6 (chF R2.2 R2.1 ((nats x.l).zip (nats z.l))) width v w' := fun W6 P6 F6 hE6 hP6 => by
          obtain ⟨a1, a2⟩ := hE6.word HX0.out
          obtain ⟨b1, b2⟩ := hE6.word hzv
          have hcl : X.2.1 < 2 * P6.1.nodes.length := by rw [hP6]; exact hst.2.1
          refine (mchoose_is hE6.mem hE6.sim hcl (x := nats x.l) (y := nats z.l) width x.c z.c (by rw [nats_len]; exact HXW.out.len) (by rw [nats_len]; exact hzo.len) (by omega) (by rw [show ((nats x.l).map fun (r : Nat) => (r : Int)) = x.l from HXW.out.cast]; exact a1.ok.sl) (by rw [show ((nats z.l).map fun (r : Nat) => (r : Int)) = z.l from hzo.cast]; exact b1.ok.sl) a2 b2 (fun q hq => hE6.sim.ext.lt (HXW.out.lt q hq)) (fun q hq => hE6.sim.ext.lt (hzo.lt q hq))).mono ?_
          rintro e w' ⟨v, rfl, hch⟩
          refine ⟨v, rfl, hch.cong ?_ ?_⟩
          · by_cases h0 : R2.1.2 = 0
            · rw [show X.2.1 = R2.2 from hst.2.2.2.1 h0]
            · rw [chF_bad0 h0, chF_bad0 h0]
          · intro h9
            by_cases h0 : R2.1.2 = 0
            · rw [show X.2.1 = R2.2 from hst.2.2.2.1 h0]
            · rw [chF_bad0 h0] at h9; exact absurd h9 h0
        have hSR : (chF R2.2 R2.1 ((nats x.l).zip (nats z.l))).1.2 = 0 → R2.1.2 = 0 := fun h9 => by
          by_cases h0 : R2.1.2 = 0
          · exact h0
          · rw [chF_bad0 h0] at h9; exact absurd h9 h0
        obtain ⟨S, hS⟩ : ∃ S, chF R2.2 R2.1 ((nats x.l).zip (nats z.l)) = S := ⟨_, rfl⟩
        rw [hS] at hSQ hSR
        simp only [hS] at hchoose
        have c_g := hE.cell HBG0.out HBGN.out
        have c_c := hE.cell HBC0.out HBCN.out
        unfold WV.val at hzc0
        rw [hzo.len] at hzc0
        have hlbN := HL0.out.apart.1
        have hvl : vs2.length = nl := by have := hE.arr.1; omega
        have HE := Lib.hid hE; clear hE
        have HST := Lib.hid hst; clear hst
        have HAND := Lib.hid hAND; clear hAND
        have HSQ := Lib.hid hSQ; clear hSQ
        have HKEEP := Lib.hid (fun b j v => @hkeep b j v); clear hkeep
        have HCHO := Lib.hid hchoose; clear hchoose
        have HSR := Lib.hid hSR; clear hSR
        have HZC := Lib.hid hzc0; clear hzc0
        have HLBN := Lib.hid hlbN; clear hlbN
        have HB0 := Lib.hid hb0; clear hb0
        clear hz hmem hzo hlg hzv hX hR2 hS hr hP hcrl hrl
        obtain ⟨za, zl, zc⟩ := z
        obtain ⟨xa, xl, xc⟩ := x
        simp only at HZC HCHO
        gi_wp2
        refine ⟨trivial, (CallsIn.inRound q ((callsIn_wide (n := _)).2 HAND.out)).mono ?_⟩
        rintro e w1 ⟨rfl, hto⟩
        have hc1 := hto.choose_spec.2.1
        have hc1m : Ch (m :: F') W w1 := hc1.mono (fun k hk => .inl (by simp [hk]))
        have HTO := Lib.hid hto; clear hto
        have hb1 := HB0.out.ch hc1 HE.out.mem.apart
        have HC1M := Lib.hid hc1m; clear hc1m hc1 HAND c_g c_c
        have HB1 := Lib.hid hb1; clear hb1
        gi_wp2
        refine Ord.St.doorR (fun w' => w'.cell? ⟨ob, 0, none⟩ = some (.slice (some ⟨ab, 0, none⟩) nl oc) ∧ w'.cell? ⟨w.heap.size, 0, none⟩ = some (.pointer (some ⟨m, 0, none⟩)) ∧ w'.cell? ⟨bx, 0, none⟩ = some (.slice xa width xc) ∧ w'.cell? ⟨bl, 0, none⟩ = some (.slice (some ⟨lb, 0, none⟩) nl lc) ∧ w'.cell? ⟨lb, i, none⟩ = some (.slice za width zc)) [.ho, .fl, .ho, .rd, .fl, .fl, .ef, .ho, .ho, .fl, .fl, .ho, .ef, .fl, .ef] [0, 0, 0, 0, 0, 0, 56, 0, 0, 0, 768, 1792, 4092, 8191, 16383] [0, 1, 2, 3, 4, 5, 6, 7, 8, 9, 10, 11, 12, 13, 14] mixed (by kernel_rfl) (by kernel_rfl) rfl ?_
        obtain ⟨Wc, hWc⟩ : ∃ Wc, Wc = w1.drew := ⟨_, rfl⟩
        rw [← hWc]
        have hcur : Ch [] w1 Wc := by rw [hWc]; exact (Ch.refl _ _).drew
        clear hWc
        have hcc : Ch (m :: F') W Wc := HC1M.out.trans hcur (by simp)
        have c_h := HKEEP.out _ _ _ HBO0.out HOBN.out Wc hcc
        have c_m := HKEEP.out _ _ _ HMB0.out HMBN.out Wc hcc
        have c_x := HKEEP.out _ _ _ HBX0.out HBXN.out Wc hcc
        have c_l := HKEEP.out _ _ _ HBL0.out HBLN.out Wc hcc
        have c_z := HKEEP.out _ _ _ HZC.out HLBN.out Wc hcc
        have HNT := Lib.hid (mnote_is (HB1.out.ch hcur (by simp)) X.2.1 X.2.2)
        have HCUR := Lib.hid hcur; clear hcur hcc HB1
        refine Ord.St.ho2 (T' := ?_) 0 [1, 2, 3, 4, 5, 6, 7, 8, 9, 10, 11, 12, 13, 14] _ _ rfl (by kernel_rfl) rfl rfl rfl rfl ?_ (fun K w' hw' hk => ?_) ?_
        rotate_left
        · exact ⟨c_h, c_m, c_x, c_l, c_z⟩
        · obtain ⟨q1, q2, q3, q4, q5⟩ := hw'; go_step; exact hk
        refine Ord.St.fl2 (T' := ?_) 1 [2, 3, 4, 5, 6, 7, 8, 9, 10, 11, 12, 13, 14] _ _ rfl (by kernel_rfl) rfl rfl rfl rfl (fun K w' hk => ?_) ?_
        rotate_left
        · go_step; exact hk
        refine Ord.St.ho2 (T' := ?_) 2 [3, 4, 5, 6, 7, 8, 9, 10, 11, 12, 13, 14] _ _ rfl (by kernel_rfl) rfl rfl rfl rfl ?_ (fun K w' hw' hk => ?_) ?_
        rotate_left
        · exact ⟨c_h, c_m, c_x, c_l, c_z⟩
        · obtain ⟨q1, q2, q3, q4, q5⟩ := hw'; go_step; exact hk
        refine Ord.St.rd2 (T' := ?_) 3 [4, 5, 6, 7, 8, 9, 10, 11, 12, 13, 14] _ _ rfl (by kernel_rfl) rfl rfl rfl rfl (fun K hk => ?_) ?_
        rotate_left
        · go_step; exact hk
        refine Ord.St.fl2 (T' := ?_) 4 [5, 6, 7, 8, 9, 10, 11, 12, 13, 14] _ _ rfl (by kernel_rfl) rfl rfl rfl rfl (fun K w' hk => ?_) ?_
        rotate_left
        · go_step; exact hk
        refine Ord.St.fl2 (T' := ?_) 5 [6, 7, 8, 9, 10, 11, 12, 13, 14] _ _ rfl (by kernel_rfl) rfl rfl rfl rfl (fun K w' hk => ?_) ?_
        rotate_left
        · go_step; exact hk
        refine Ord.St.ho2 (T' := ?_) 7 [6, 8, 9, 10, 11, 12, 13, 14] _ _ rfl (by kernel_rfl) rfl rfl rfl rfl ?_ (fun K w' hw' hk => ?_) ?_
        rotate_left
        · exact ⟨c_h, c_m, c_x, c_l, c_z⟩
        · obtain ⟨q1, q2, q3, q4, q5⟩ := hw'; go_step; exact hk
        refine Ord.St.ho2 (T' := ?_) 8 [6, 9, 10, 11, 12, 13, 14] _ _ rfl (by kernel_rfl) rfl rfl rfl rfl ?_ (fun K w' hw' hk => ?_) ?_
        rotate_left
        · exact ⟨c_h, c_m, c_x, c_l, c_z⟩
        · obtain ⟨q1, q2, q3, q4, q5⟩ := hw'; go_step; exact hk
        refine Ord.St.fl2 (T' := ?_) 9 [6, 10, 11, 12, 13, 14] _ _ rfl (by kernel_rfl) rfl rfl rfl rfl (fun K w' hk => ?_) ?_
        rotate_left
        · go_step; exact hk
        refine Ord.St.fl2 (T' := ?_) 10 [6, 11, 12, 13, 14] _ _ rfl (by kernel_rfl) rfl rfl rfl rfl (fun K w' hk => ?_) ?_
        rotate_left
        · go_step; exact hk
        refine Ord.St.ho2 (T' := ?_) 11 [6, 12, 13, 14] _ _ rfl (by kernel_rfl) rfl rfl rfl rfl ?_ (fun K w' hw' hk => ?_) ?_
        rotate_left
        · exact ⟨c_h, c_m, c_x, c_l, c_z⟩
        · obtain ⟨q1, q2, q3, q4, q5⟩ := hw'; go_step; exact hk
        refine Ord.St.efC 6 [12, 13, 14] _ rfl (by kernel_rfl) (fun K hK => ?_)
        go_wp2_with fail
        refine HNT.out.mono ?_
        rintro e w6 ⟨rfl, hb6, hc6⟩
        have hmt := MTo.of (P' := (mput P X).1) HE.out.mem HTO.out (fun _ => hb6) ((HCUR.out.mono (by simp)).trans hc6 (fun k hk => .inl hk))
        have hch6 : Ch (m :: F') W w6 := hmt.choose_spec.2.1
        obtain ⟨F6, hE6⟩ := HE.out.to HFR.out hWl hmt HST.out.1 HST.out.2.2.2.2.1 HST.out.2.2.2.2.2.2
        clear c_h c_m c_x c_l c_z hb6 hc6 hmt
        have c_h := HKEEP.out _ _ _ HBO0.out HOBN.out w6 hch6
        have c_m := HKEEP.out _ _ _ HMB0.out HMBN.out w6 hch6
        have c_x := HKEEP.out _ _ _ HBX0.out HBXN.out w6 hch6
        have c_l := HKEEP.out _ _ _ HBL0.out HBLN.out w6 hch6
        have c_z := HKEEP.out _ _ _ HZC.out HLBN.out w6 hch6
        have HCC := Lib.hid (HCHO.out w6 _ F6 hE6 rfl)
        have HBK6 := Lib.hid (Books.of_ch (B := W0.heap.size) hch6 hWl (fun k hk => HE.out.noB HFR.out k hk))
        have hW6 : W0.heap.size + 2 ≤ w6.heap.size := Nat.le_trans hWl hch6.size
        have HE6 := Lib.hid hE6; clear hE6 HCHO HNT
        have HCH6 := Lib.hid hch6; clear hch6
        go_wp2_with fail
        refine ⟨rfl, hK _ _ ?_ ?_⟩
        · exact ⟨c_h, c_m, c_x, c_l, c_z⟩
        clear hK K
        refine Ord.St.efC 12 [13, 14] _ rfl (by kernel_rfl) (fun K hK => ?_)
        go_wp2_with fail
        refine HCC.out.mono ?_
        rintro e w7 ⟨v, rfl, hch⟩
        obtain ⟨va1, vc1, rfl⟩ := hch.shape
        have hp := HE6.out.put HFR.out hW6 (by omega) hch hil HSR.out
        have harr7 := HE6.out.arr.ch hch.choose_spec.choose_spec.2.2.2.2.2.choose_spec.2.1 (fun k hk => by cases hk; have h9 := HE6.out.abF HFR.out; simpa using h9)
        have HPUT := Lib.hid hp; clear hp
        have hc7 := hch.choose_spec.choose_spec.2.2.2.2.2.choose_spec.2.1
        have hk7 : ∀ {b j : Nat} {v : Value}, W0.cell? ⟨b, j, none⟩ = some v → b ∉ m :: ab :: F → w7.cell? ⟨b, j, none⟩ = some v := fun {b j v} hv hb => by
          have h8 := HE6.out.cell hv hb
          refine (hc7.cell (cell_lt h8) ?_).trans h8
          simp only [List.nil_append, List.mem_cons, not_or] at hb ⊢
          refine ⟨hb.1, fun hin => (HE6.out.own _ hin).elim hb.2.2 (fun e => ?_)⟩
          have := cell_lt hv
          simp only at this
          omega
        clear c_h c_m c_x c_l c_z hch HCC hc7
        have c_h := hk7 HBO0.out HOBN.out
        have c_m := hk7 HMB0.out HMBN.out
        have c_x := hk7 HBX0.out HBXN.out
        have c_l := hk7 HBL0.out HBLN.out
        have c_z := hk7 HZC.out HLBN.out
        clear hk7
        obtain ⟨ov, hov⟩ : ∃ ov, vs2[i]? = some ov := ⟨_, List.getElem?_eq_getElem (by omega)⟩
        have k1 := row_at2 harr7 hov
        have k2 := row_fz harr7 (by omega) i
        clear harr7 hov
        go_wp2_with fail
        refine ⟨rfl, hK _ _ ?_ ?_⟩
        · exact ⟨c_h, c_m, c_x, c_l, c_z⟩
        clear hK K
        refine Ord.St.fl2 (T' := ?_) 13 [14] _ _ rfl (by kernel_rfl) rfl rfl rfl rfl (fun K w' hk => ?_) ?_
        rotate_left
        · go_step; exact hk
        refine Ord.St.ef 14 [] _ rfl (by kernel_rfl) (fun K hK => ?_)
        go_wp2_with fail
        refine ⟨rfl, hK _ _ ?_⟩; clear hK K
        refine Ord.St.nil ?_
        gi_wp2
        obtain ⟨P1, ls1, F1, hr1, hb1⟩ := HPUT.out
        refine ⟨HBK6.out.trans hb1, P1, F1, vs2.set i (.slice va1 width vc1), ls1, ?_⟩
        show WI W0 w.heap.size g m G F ab nl oc width (RQ (i + 1)).1 (RQ (i + 1)).2 _ _ _ _ _
        rw [HSQ.out]
        exact hr1
      case done =>
        rintro W ⟨P, F', vs2, ls, hE⟩ hK _
        have c_o := hE.cell HBO0.out HOBN.out
        have HE := Lib.hid hE; clear hE
        have HK := Lib.hid hK; clear hK
        go_wp2
        refine ⟨by simp, .inl ⟨_, _, rfl, run_takeDeferred HK.out, ?_⟩⟩
        have hE2 := HE.out.same HFR.out (A' := W.putObj W0.heap.size (.deferred none)) (ch_put (by simp))
        have hz9 := HCW.out.size
        refine ⟨_, results_tmp rfl _ _ _, _, rfl, P, vs2, ls, F', hE2.sim, hE2.out, hE2.mem, (HCW.out.mono (by simp)).trans hE2.ch (fun k hk => ?_), fun k hk => (hE2.own k hk).imp id (fun e => by omega), hE2.map, by rw [hE2.len]; exact hE2.arr, fun k hk => ?_, fun i u hu => ?_⟩
        · simp only [List.mem_cons] at hk ⊢
          rcases hk with hk | hk | hk
          · exact .inl (.inl hk)
          · exact .inr (by omega)
          · exact .inl (.inr hk)
        · cases hk
          refine ⟨habo.1, fun hin => (hE2.abF HFR.out) (by simp only [List.mem_cons]; exact .inr hin)⟩
        · obtain ⟨l, k1, k2, k3, k4, k5⟩ := hE2.words i u hu
          refine ⟨l, k1, k2, k3, k4, fun k hk => ?_⟩
          obtain ⟨f1, f2, _⟩ := k5 k hk
          simp only [List.mem_cons, not_or] at f2
          exact ⟨f1, f2.2.2, fun e => f2.2.1 (by cases e; rfl)⟩
end
end Go.Proofs.YtdmmanfjafempaaGreat
namespace Go.Aig
def lres (G : Gra) (S : Mk × List (List Nat)) : Gra × List (List Nat) × Nat := if S.1.2 ≠ 0 then (G, [], S.1.2) else (S.1.1, S.2, 0)
theorem lres_e (G : Gra) (S : Mk × List (List Nat)) : (lres G S).2.2 = S.1.2 := by
  unfold lres
  by_cases h0 : S.1.2 = 0
  · rw [if_neg (by simp [h0])]; exact h0.symm
  · rw [if_pos h0]
def writeG (G : Gra) (L : List (List Int)) (c : Int) (y x : List Int) : Gra × List (List Nat) × Nat :=
  if array26 L.length = false then (G, [], 261) else if right26 y.length = false then (G, [], 260) else if chk26 G y [c] (L ++ [x]) ≠ 0 then (G, [], chk26 G y [c] (L ++ [x]))
  else lres G (writeF G c.toNat (nats x) (L.map nats) (nats y) y.length (fitN L.length y.length))
end Go.Aig
namespace Go.Proofs.YtdmmanfjafempaaGreat
open Go.RowKit Go.Mem Go.Aig
/-- an array of words of its own -/
def PostL (w : World) (G : Gra) (ls : List (List Nat)) (v : Value) (F' : List Nat) (w' : World) : Prop :=
  ∃ vs, row w' 40 1 v ls.length vs ∧ (∀ k, v.ownBlock = some k → w.heap.size ≤ k ∧ k ∉ F') ∧
    ∀ (i : Nat) (u : Value), vs[i]? = some u → ∃ l, ls[i]? = some l ∧ (∀ r ∈ l, r < 2 * G.nodes.length) ∧ row w' 41 1 u l.length (refsCells l) ∧ ∀ k, u.ownBlock = some k → w.heap.size ≤ k ∧ k ∉ F' ∧ v.ownBlock ≠ some k
/-- what a function leaves of a graph, with an array of words of its own -/
def GLo (w : World) (g : Nat) (G : Gra) (F : List Nat) (v : Value) (ls : List (List Nat)) (w' : World) : Prop :=
  ∃ F', GIn w' g G F' ∧ Ch F w w' ∧ (∀ k ∈ F', k ∈ F ∨ w.heap.size ≤ k) ∧ F'[2]? = F[2]? ∧ PostL w G ls v F' w'
theorem PostL.nil {w w' : World} {G : Gra} {F' : List Nat} : PostL w G [] (.slice none 0 0) F' w' := ⟨[], ⟨rfl, .inl ⟨rfl, rfl⟩⟩, by simp [Value.ownBlock], by simp⟩
theorem GLo.none {w w' : World} {g : Nat} {G : Gra} {F : List Nat} (h : GIn w g G F) (hc : Ch [] w w') : GLo w g G F (.slice none 0 0) [] w' :=
  ⟨F, h.same hc (by simp), hc.mono (by simp), fun _ hk => .inl hk, rfl, PostL.nil⟩
theorem WA1.post {w W : World} {g m width : Nat} {G : Gra} {F : List Nat} {S : Mk × List (List Nat)} {v : Value} {W' : World} (h : WA1 W g m G F width S v W') (hc : Ch [] w W) : ∃ P F', Sim G P S.1 ∧ MIn W' g m P F' ∧ Ch (m :: F) W W' ∧ (∀ k ∈ F', k ∈ F ∨ W.heap.size ≤ k) ∧ F'[2]? = F[2]? ∧ (S.1.2 = 0 → PostL w S.1.1 S.2 v F' W') := by
  obtain ⟨P, vs, ls, F', hs, ho, k1, k2, k3, k4, k5, k6, k7⟩ := h
  refine ⟨P, F', hs, k1, k2, k3, k4, fun h0 => ?_⟩
  have e := ho h0
  subst e
  have eP : P = S.1 := by
    rcases hs.rel with ⟨_, e⟩ | ⟨e, _⟩
    · exact e
    · omega
  refine ⟨vs, k5, fun k hk => ⟨Nat.le_trans hc.size (k6 k hk).1, (k6 k hk).2⟩, fun i u hu => ?_⟩
  obtain ⟨l, q1, q2, q3, q4, q5⟩ := k7 i u hu
  exact ⟨l, q1, by rw [← eP]; exact q3, by rw [q2]; exact q4, fun k hk => ⟨Nat.le_trans hc.size (q5 k hk).1, (q5 k hk).2⟩⟩
theorem MB.glo {w w1 w' : World} {g : Nat} {G : Gra} {F : List Nat} {S : Mk × List (List Nat)} {v : Value} (hc : Ch [] w w1) (h : MB w1 g G F S.1 (PostL w S.1.1 S.2) mzL v w') : GLo w g (lres G S).1 F v (lres G S).2.1 w' := by
  obtain ⟨F', k1, k2, k3, k4, k5, k6⟩ := h
  have hch : Ch F w w' := (hc.mono (by simp)).trans k2 (fun k hk => .inl hk)
  have hown : ∀ k ∈ F', k ∈ F ∨ w.heap.size ≤ k := fun k hk => (k3 k hk).imp id (fun e => Nat.le_trans hc.size e)
  unfold lres
  by_cases h0 : S.1.2 = 0
  · rw [if_pos h0] at k1
    rw [if_neg (by simp [h0])]
    exact ⟨F', k1, hch, hown, k4, k5 h0⟩
  · rw [if_neg h0] at k1
    rw [if_pos h0, k6 h0]
    exact ⟨F', k1, hch, hown, k4, PostL.nil⟩
theorem LS.two' {w : World} {F : List Nat} {q la lb n k ac bc : Nat} {As Bs : List WV} (hA : WL w F la n As) (hk : Bs.length = k) (hB : ∀ (i : Nat) (x : WV), Bs[i]? = some x → w.cell? ⟨lb, i, none⟩ = some x.val ∧ WVok w x) (hq : blk w q [.slice (some ⟨la, 0, none⟩) n ac, .slice (some ⟨lb, 0, none⟩) k bc]) : LS w q 2 [(la, ac, As), (lb, bc, Bs)] := by
  have h1 := hA.len
  subst h1
  subst hk
  refine ⟨rfl, fun j b' c' ws' hj => ?_, fun j b' c' ws' hj => ?_⟩ <;> rcases j with _ | _ | j
  · cases hj; exact hq.cell rfl
  · cases hj; exact hq.cell rfl
  · simp at hj
  · cases hj; exact fun i x hx => ⟨hA.cells i x hx, (hA.words x (List.mem_of_getElem? hx)).ok⟩
  · cases hj; exact hB
  · simp at hj
section
variable {w : World} {g : Nat} {G : Gra} {F : List Nat}
set_option maxRecDepth 100000 in
set_option maxHeartbeats 4000000 in
theorem mWrite_is [Nonempty Unit] (h : GIn w g G F) {la : Option Addr} {nl lc : Nat} {Ls : List WV} (hA : WA w F la nl Ls) (c : Int) (hc : I64' c) {y x : WV} (hy : WVin w F y) (hyc : y.l.length ≤ y.c) (hx : WVin w F x) :
    Calls Tryz.prog 29 #[.pointer (some ⟨g, 0, none⟩), .slice la nl lc, .int .i64 c, y.val, x.val] w fun e w' => ∃ v, e = .returned (.tuple #[v, .int .i64 (writeG G (Ls.map WV.l) c y.l x.l).2.2]) ∧ GLo w g (writeG G (Ls.map WV.l) c y.l x.l).1 F v (writeG G (Ls.map WV.l) c y.l x.l).2.1 w' := by
  have hpos := h.ok.wf.pos
  have hroom := h.ok.room
  have hmost := h.ok.most
  have hL := fun (W : World) (hW : Ch [] w W) => Len_g (h.same hW (by simp))
  have hAr := fun (W : World) => marray_is (w := W) nl
  have hRr := fun (W : World) => mright_is (w := W) y.l.length
  have hok := chk26_ok (G := G) (idx := y.l) (refs := [c]) (ws := Ls.map WV.l ++ [x.l])
  have hlt := chk26_lt G y.l [c] (Ls.map WV.l ++ [x.l])
  have hlen := hA.len
  have hll : (Ls.map WV.l).length = nl := by rw [List.length_map]; exact hlen
  unfold writeG
  rw [hll]
  obtain ⟨cc, hcc⟩ : ∃ cc, chk26 G y.l [c] (Ls.map WV.l ++ [x.l]) = cc := ⟨_, rfl⟩
  rw [hcc] at hok hlt ⊢
  obtain ⟨S, hS⟩ : ∃ S, writeF G c.toNat (nats x.l) ((Ls.map WV.l).map nats) (nats y.l) y.l.length (fitN nl y.l.length) = S := ⟨_, rfl⟩
  rw [hS]
  generalize hWW : (if array26 nl = false then (G, [], 261) else if right26 y.l.length = false then (G, [], 260) else if cc ≠ 0 then (G, [], cc) else lres G S : Gra × List (List Nat) × Nat) = WW
  have hylen := hy.ok.len
  have hxlen := hx.ok.len
  cases ha : array26 nl
  · rw [ha, if_pos rfl] at hWW
    simp only [ha] at hAr
    subst hWW
    obtain ⟨ya, yl, yc⟩ := y
    obtain ⟨xa, xl, xc⟩ := x
    simp only [WV.val] at *
    clear hok hcc hS hRr hA hy hx
    have HL := Lib.hid hL; clear hL
    have HAR := Lib.hid hAr; clear hAr
    have H := Lib.hid h; clear h
    have hn0 : ((G.nodes.length : Int) == 0) = false := beqN (by omega)
    go_enter Tryz.func29, Tryz.ntmps29
    go_upto_region 1 with fail
    refine wp_named fun W0 hW0 => ?_
    have hc0 : Ch [] w W0 := by rw [hW0]; exact (((((Ch.refl _ _).alloc _).alloc _).alloc _).alloc _).alloc _
    have hb0 : blk W0 w.heap.size [.pointer (some ⟨g, 0, none⟩)] := by rw [hW0]; exact ((((blk.new' _ _ (by simp)).alloc _).alloc _).alloc _).alloc _
    have hb1 : blk W0 (w.heap.size + 1) [.slice la nl lc] := by rw [hW0]; exact (((blk.new' _ _ (by simp)).alloc _).alloc _).alloc _
    have hb2 : blk W0 (w.heap.size + 2) [.int .i64 c] := by rw [hW0]; exact ((blk.new' _ _ (by simp)).alloc _).alloc _
    have hb3 : blk W0 (w.heap.size + 3) [.slice ya yl.length yc] := by rw [hW0]; exact (blk.new' _ _ (by simp)).alloc _
    have hb4 : blk W0 (w.heap.size + 4) [.slice xa xl.length xc] := by rw [hW0]; exact blk.new' _ _ (by simp)
    have d0 := hb0.cell (i := 0) rfl
    have d1 := hb1.cell (i := 0) rfl
    have d2 := hb2.cell (i := 0) rfl
    have d3 := hb3.cell (i := 0) rfl
    have d4 := hb4.cell (i := 0) rfl
    have l0 := hb0.lt
    have l1 := hb1.lt
    have l2 := hb2.lt
    have l3 := hb3.lt
    have l4 := hb4.lt
    clear hW0
    have hLL := HL.out W0 hc0
    have HC0 := Lib.hid hc0; clear hc0
    have HB0 := Lib.hid hb0; clear hb0
    have HB1 := Lib.hid hb1; clear hb1
    have HB2 := Lib.hid hb2; clear hb2
    have HB3 := Lib.hid hb3; clear hb3
    have HB4 := Lib.hid hb4; clear hb4
    go_wp2_with fail
    refine hLL.mono ?_
    rintro e w' ⟨rfl, rfl⟩
    clear hLL
    go_wp2_with fail
    refine (HAR.out _).mono ?_
    rintro e w' ⟨rfl, rfl⟩
    go_wp2_with fail
    go_ret2
    exact ⟨_, rfl, GLo.none H.out HC0.out⟩
  · rw [ha, if_neg (by simp)] at hWW
    simp only [ha] at hAr
    have hnl : 1 ≤ nl ∧ nl ≤ 256 := by unfold array26 at ha; simp at ha; omega
    obtain ⟨lb, rfl, hWL⟩ := hA.at_ hnl.1
    cases hr : right26 y.l.length
    · rw [hr, if_pos rfl] at hWW
      simp only [hr] at hRr
      subst hWW
      obtain ⟨ya, yl, yc⟩ := y
      obtain ⟨xa, xl, xc⟩ := x
      simp only [WV.val] at *
      clear hok hcc hS hA hWL hy hx
      have HL := Lib.hid hL; clear hL
      have HAR := Lib.hid hAr; clear hAr
      have HRR := Lib.hid hRr; clear hRr
      have H := Lib.hid h; clear h
      have hn0 : ((G.nodes.length : Int) == 0) = false := beqN (by omega)
      go_enter Tryz.func29, Tryz.ntmps29
      go_upto_region 1 with fail
      refine wp_named fun W0 hW0 => ?_
      have hc0 : Ch [] w W0 := by rw [hW0]; exact (((((Ch.refl _ _).alloc _).alloc _).alloc _).alloc _).alloc _
      have hb0 : blk W0 w.heap.size [.pointer (some ⟨g, 0, none⟩)] := by rw [hW0]; exact ((((blk.new' _ _ (by simp)).alloc _).alloc _).alloc _).alloc _
      have hb1 : blk W0 (w.heap.size + 1) [.slice (some ⟨lb, 0, none⟩) nl lc] := by rw [hW0]; exact (((blk.new' _ _ (by simp)).alloc _).alloc _).alloc _
      have hb2 : blk W0 (w.heap.size + 2) [.int .i64 c] := by rw [hW0]; exact ((blk.new' _ _ (by simp)).alloc _).alloc _
      have hb3 : blk W0 (w.heap.size + 3) [.slice ya yl.length yc] := by rw [hW0]; exact (blk.new' _ _ (by simp)).alloc _
      have hb4 : blk W0 (w.heap.size + 4) [.slice xa xl.length xc] := by rw [hW0]; exact blk.new' _ _ (by simp)
      have d0 := hb0.cell (i := 0) rfl
      have d1 := hb1.cell (i := 0) rfl
      have d2 := hb2.cell (i := 0) rfl
      have d3 := hb3.cell (i := 0) rfl
      have d4 := hb4.cell (i := 0) rfl
      have l0 := hb0.lt
      have l1 := hb1.lt
      have l2 := hb2.lt
      have l3 := hb3.lt
      have l4 := hb4.lt
      clear hW0
      have hLL := HL.out W0 hc0
      have HC0 := Lib.hid hc0; clear hc0
      have HB0 := Lib.hid hb0; clear hb0
      have HB1 := Lib.hid hb1; clear hb1
      have HB2 := Lib.hid hb2; clear hb2
      have HB3 := Lib.hid hb3; clear hb3
      have HB4 := Lib.hid hb4; clear hb4
      go_wp2_with fail
      refine hLL.mono ?_
      rintro e w' ⟨rfl, rfl⟩
      clear hLL
      go_wp2_with fail
      refine (HAR.out _).mono ?_
      rintro e w' ⟨rfl, rfl⟩
      go_wp2_with fail
      refine (HRR.out _).mono ?_
      rintro e w' ⟨rfl, rfl⟩
      go_wp2_with fail
      go_ret2
      exact ⟨_, rfl, GLo.none H.out HC0.out⟩
    · rw [hr, if_neg (by simp)] at hWW
      simp only [hr] at hRr
      have hyb : 1 ≤ y.l.length ∧ y.l.length ≤ 16 := by unfold right26 at hr; simp at hr; omega
      have hchk := fun (W : World) (q xb rb : Nat) (hW : Ch [] w W) (hq : blk W q [.slice (some ⟨lb, 0, none⟩) nl lc, .slice (some ⟨xb, 0, none⟩) 1 1]) (hxb : blk W xb [x.val]) (hrb : blk W rb [.int .i64 c]) =>
        mcheck_is (h.same hW (by simp)) (LS.two' (hWL.ch hW) (Bs := [x]) rfl (at1 hxb (hx.ch hW).ok) hq) (n := 2) (c := 2) (by omega) (by rw [lsW_two, List.length_append, hlen]; omega) (by rw [lsW_two, List.length_append, hlen]; simp; omega) (RS.wv (hy.ch hW) hyc) (RS.blk (n := 1) (R := [c]) hrb rfl (by omega)) (by omega) (by omega) (by
          intro z hz
          rcases List.mem_append.1 hz with hz | hz
          · exact hy.ok.bd z hz
          · rw [List.mem_singleton.1 hz]; exact hc)
      simp only [lsW_two, List.map_append, List.map_cons, List.map_nil, hcc] at hchk
      have hbuild : cc = 0 → ∀ (W1 : World), Ch [] w W1 → blk W1 w.heap.size [.pointer (some ⟨g, 0, none⟩)] → blk W1 (w.heap.size + 1) [.slice (some ⟨lb, 0, none⟩) nl lc] → blk W1 (w.heap.size + 2) [.int .i64 c] → blk W1 (w.heap.size + 3) [y.val] → blk W1 (w.heap.size + 4) [x.val] →
          Calls Tryz.prog 95 #[.pointer (some ⟨g, 0, none⟩), .func (.func 96) #[] #[.pointer (some ⟨w.heap.size + 1, 0, none⟩), .pointer (some ⟨w.heap.size + 3, 0, none⟩), .pointer (some ⟨w.heap.size, 0, none⟩), .pointer (some ⟨w.heap.size + 2, 0, none⟩), .pointer (some ⟨w.heap.size + 4, 0, none⟩)]] W1 fun e w' => ∃ v, e = .returned (.tuple #[v, .int .i64 S.1.2]) ∧ MB W1 g G F S.1 (PostL w S.1.1 S.2) mzL v w' := fun h0 W1 hW1 k0 k1 k2 k3 k4 => by
        obtain ⟨o1, o2, o3, o4, o5⟩ := hok h0
        have hne : Ls.map WV.l ++ [x.l] ≠ [] := by simp
        have hc0 : ((c.toNat : Nat) : Int) = c := by have := o5.cast; simpa [natInts, nats] using this
        have hcl : c.toNat < 2 * G.nodes.length := o5.lt c.toNat (by simp [nats])
        refine mbuildL_is (h.same hW1 (by simp)) 96 _ fnvmWrite1 S.1 _ (fun W m hm hW hM => ?_)
        have hall := hW1.trans hW (by simp)
        have hm2 : w.heap.size ≤ m := Nat.le_trans hW1.size hm
        have hyw : WVin W (m :: F) ⟨y.a, natInts (nats y.l), y.c⟩ := by
          rw [o4.cast]
          exact ⟨(hy.ch hall).ok, hy.blks hall hm2⟩
        have hxw : WVin W (m :: F) x := ⟨(hx.ch hall).ok, hx.blks hall hm2⟩
        have hxo := o1 x.l (by simp)
        have c0 := (k0.ch hW (by simp)).cell (i := 0) rfl
        have c1 := (k1.ch hW (by simp)).cell (i := 0) rfl
        have c2 := (k2.ch hW (by simp)).cell (i := 0) rfl
        have c3 := (k3.ch hW (by simp)).cell (i := 0) (v := y.val) rfl
        have c4 := (k4.ch hW (by simp)).cell (i := 0) (v := x.val) rfl
        unfold WV.val at c3 c4
        rw [hxo.len] at c4
        rw [← hc0] at c2
        have l0 := k0.lt
        have l1 := k1.lt
        have l2 := k2.lt
        have l3 := k3.lt
        have l4 := k4.lt
        have hnF : ∀ b, w.heap.size ≤ b → b < W1.heap.size → b ∉ m :: F := fun b hb hb2 hin => by
          simp only [List.mem_cons] at hin
          rcases hin with e | hin
          · omega
          · have := h.lt b hin; omega
        have h1 := mWrite1_is hM (Ls := Ls) (lc := lc) (width := ((Ls.map WV.l ++ [x.l]).headD []).length) (x := x) (hWL.up hall hm2) (fun z hz => o1 z.l (List.mem_append_left _ (List.mem_map.2 ⟨z, hz, rfl⟩))) hnl (o3 hne) hxw hxo hcl hyw (by rw [nats_len]) hyb.1 hyb.2 o4.lt rfl c1 c3 c0 c2 c4 (hnF _ (by omega) l1) (hnF _ (by omega) l3) (hnF _ (by omega) l0) (hnF _ (by omega) l2) (hnF _ (by omega) l4)
        rw [show (Ls.map fun x => nats x.l) = (Ls.map WV.l).map nats by rw [List.map_map]; rfl, hS] at h1
        refine h1.mono ?_
        rintro e W' ⟨v, rfl, hrw⟩
        obtain ⟨P, F', q1, q2, q3, q4, q5, q6⟩ := hrw.post hall
        exact ⟨v, P, F', rfl, q1, q2, q3, q4, q5, q6⟩
      obtain ⟨ya, yl, yc⟩ := y
      obtain ⟨xa, xl, xc⟩ := x
      simp only [WV.val] at *
      clear hok hcc hS hA hWL
      have HL := Lib.hid hL; clear hL
      have HAR := Lib.hid hAr; clear hAr
      have HRR := Lib.hid hRr; clear hRr
      have HCHK := Lib.hid hchk; clear hchk
      have HBU := Lib.hid hbuild; clear hbuild
      have H := Lib.hid h; clear h
      have HWW := Lib.hid hWW; clear hWW
      have hn0 : ((G.nodes.length : Int) == 0) = false := beqN (by omega)
      clear hy hx hc
      go_enter Tryz.func29, Tryz.ntmps29
      go_upto_region 1 with fail
      refine wp_named fun W0 hW0 => ?_
      have hc0 : Ch [] w W0 := by rw [hW0]; exact (((((Ch.refl _ _).alloc _).alloc _).alloc _).alloc _).alloc _
      have hb0 : blk W0 w.heap.size [.pointer (some ⟨g, 0, none⟩)] := by rw [hW0]; exact ((((blk.new' _ _ (by simp)).alloc _).alloc _).alloc _).alloc _
      have hb1 : blk W0 (w.heap.size + 1) [.slice (some ⟨lb, 0, none⟩) nl lc] := by rw [hW0]; exact (((blk.new' _ _ (by simp)).alloc _).alloc _).alloc _
      have hb2 : blk W0 (w.heap.size + 2) [.int .i64 c] := by rw [hW0]; exact ((blk.new' _ _ (by simp)).alloc _).alloc _
      have hb3 : blk W0 (w.heap.size + 3) [.slice ya yl.length yc] := by rw [hW0]; exact (blk.new' _ _ (by simp)).alloc _
      have hb4 : blk W0 (w.heap.size + 4) [.slice xa xl.length xc] := by rw [hW0]; exact blk.new' _ _ (by simp)
      have d0 := hb0.cell (i := 0) rfl
      have d1 := hb1.cell (i := 0) rfl
      have d2 := hb2.cell (i := 0) rfl
      have d3 := hb3.cell (i := 0) rfl
      have d4 := hb4.cell (i := 0) rfl
      have l0 := hb0.lt
      have l1 := hb1.lt
      have l2 := hb2.lt
      have l3 := hb3.lt
      have l4 := hb4.lt
      clear hW0
      have hLL := HL.out W0 hc0
      have HC0 := Lib.hid hc0; clear hc0
      have HB0 := Lib.hid hb0; clear hb0
      have HB1 := Lib.hid hb1; clear hb1
      have HB2 := Lib.hid hb2; clear hb2
      have HB3 := Lib.hid hb3; clear hb3
      have HB4 := Lib.hid hb4; clear hb4
      go_wp2_with fail
      refine hLL.mono ?_
      rintro e w' ⟨rfl, rfl⟩
      clear hLL
      go_wp2_with fail
      refine (HAR.out _).mono ?_
      rintro e w' ⟨rfl, rfl⟩
      go_wp2_with fail
      refine (HRR.out _).mono ?_
      rintro e w' ⟨rfl, rfl⟩
      go_wp2_with fail
      refine calls_named fun W1 hW1 => ?_
      have hc1 : Ch [] W0 W1 := by rw [hW1]; exact (((Ch.refl _ _).alloc _).alloc _).alloc _
      have e0 : blk W1 W0.heap.size [.int .i64 c] := by rw [hW1]; exact ((blk.new' _ _ (by simp)).alloc _).alloc _
      have e1 : blk W1 (W0.heap.size + 1) [.slice xa xl.length xc] := by rw [hW1]; exact (blk.new' _ _ (by simp)).alloc _
      have e2 : blk W1 (W0.heap.size + 1 + 1) [.slice (some ⟨lb, 0, none⟩) nl lc, .slice (some ⟨W0.heap.size + 1, 0, none⟩) 1 1] := by rw [hW1]; exact blk.new' _ _ (by simp)
      clear hW1
      refine (HCHK.out W1 _ _ _ (HC0.out.trans hc1 (by simp)) e2 e1 e0).mono ?_
      rintro e w2 ⟨rfl, hc2⟩
      have hc02 := hc1.trans hc2 (by simp)
      have HC2 := Lib.hid (HC0.out.trans hc02 (by simp))
      have hb0' := HB0.out.ch hc02 (by simp)
      have d0' := hb0'.cell (i := 0) rfl
      have HB0' := Lib.hid hb0'; clear hb0'
      have HB1' := Lib.hid (HB1.out.ch hc02 (by simp))
      have HB2' := Lib.hid (HB2.out.ch hc02 (by simp))
      have HB3' := Lib.hid (HB3.out.ch hc02 (by simp))
      have HB4' := Lib.hid (HB4.out.ch hc02 (by simp))
      clear e0 e1 e2 hc1 hc2 hc02 d0 d1 d2 d3 d4 HB0 HB1 HB2 HB3 HB4 HCHK
      by_cases hz : cc = 0
      · have hBB := HBU.out hz w2 HC2.out HB0'.out HB1'.out HB2'.out HB3'.out HB4'.out
        have hww := HWW.out
        rw [if_neg (by simp [hz])] at hww
        subst hz
        have HBB := Lib.hid hBB; clear hBB HBU
        have HW2 := Lib.hid hww; clear hww
        go_wp2_with fail
        refine HBB.out.mono ?_
        rintro e w3 ⟨v, rfl, hmb⟩
        have hgv := MB.glo HC2.out hmb
        rw [HW2.out] at hgv
        have HGV := Lib.hid hgv; clear hgv hmb
        go_wp2_with fail
        go_ret2
        exact ⟨_, by rw [← HW2.out, lres_e]; rfl, HGV.out⟩
      · have hq : ((cc : Int) != 0) = true := by simp; omega
        have hww := HWW.out
        rw [if_pos hz] at hww
        have HW2 := Lib.hid hww; clear hww
        have HZ := Lib.hid hz; clear hz
        go_wp2_with fail
        go_ret2
        exact ⟨_, by rw [← HW2.out]; rfl, by rw [← HW2.out]; exact GLo.none H.out HC2.out⟩
end
end Go.Proofs.YtdmmanfjafempaaGreat
namespace Go.Aig
theorem isR_val {s : Mk} {y : List Nat} {n i : Nat} (hs : Sup s (4 * n)) (hy : y.length = n) (h1 : 1 ≤ n) (h16 : n ≤ 16) (hi : i < 2 ^ n) (hyr : ∀ r ∈ y, r < 2 * s.1.nodes.length) :
    Val s (4 * n) (isR s y n i) (fun env => decide (bitsVal (y.map (bv env s.1.nodes)) = i)) := by
  have h := rstep_val hs.err (eqW_rval hs.ok hy (constL_len i n) h1 (by omega) hyr (constL_lt hs.ok.wf i n) hs.room)
  refine ⟨h.ran, h.lt, fun env => ?_⟩
  refine (h.val env).trans ?_
  show decide (y.map (bv env s.1.nodes) = (constL i n).map (bv env s.1.nodes)) = _
  rw [constL_bv env hs.ok.wf, bits_eq (by simp [hy]) hi]
theorem chF_vals {s : Mk} {c : Nat} {x y : List Nat} {n : Nat} (hs : Sup s (3 * n)) (hx : x.length = n) (hy : y.length = n) (hc : c < 2 * s.1.nodes.length) (hxr : ∀ r ∈ x, r < 2 * s.1.nodes.length) (hyr : ∀ r ∈ y, r < 2 * s.1.nodes.length) :
    Vals s (3 * n) (chF c s (x.zip y)) (fun env => if bv env s.1.nodes c = true then x.map (bv env s.1.nodes) else y.map (bv env s.1.nodes)) := by
  have hz : (x.zip y).length = n := by rw [List.length_zip, hx, hy, Nat.min_self]
  have h := eachF_vals (op := fun s a b => sMux s c a b) (j := 3) (φ := fun env a b => bif bv env s.1.nodes c then a else b) (s := s) (fun s' a b hE hS ha hb => by
    have := sMux_val s' c a b hS (hE.lt hc) ha hb
    exact ⟨this.ran, this.lt, fun env => by rw [this.val env, bv_of env hE hc]⟩) (x.zip y) (by rw [hz]; exact hs) (zip_lt hxr hyr)
  rw [hz] at h
  exact ⟨h.ran, h.lt, fun env => (h.val env).trans (zip_pick _ _ _ _ (hx.trans hy.symm))⟩
theorem getD_mem {α : Type} {L : List α} {i : Nat} {d : α} (h : i < L.length) : L.getD i d ∈ L := by
  rw [List.getD_eq_getElem?_getD, List.getElem?_eq_getElem h]
  exact List.getElem_mem h
/-- the number that a word is -/
def numW (env : Nat → Bool) (ns : List Nd) (y : List Nat) : Nat := bitsVal (y.map (bv env ns))
section
variable {G : Gra} {L : List (List Nat)} {y : List Nat} {n width : Nat}
/-- what is read -/
theorem readF_vals (hG : Ok G) (hy : y.length = n) (h1 : 1 ≤ n) (h16 : n ≤ 16) (hyr : ∀ r ∈ y, r < 2 * G.nodes.length) (hL : ∀ l ∈ L, l.length = width ∧ ∀ r ∈ l, r < 2 * G.nodes.length) :
    ∀ k, k ≤ L.length → k ≤ 2 ^ n → G.nodes.length + k * (4 * n + 3 * width) ≤ G.most →
      Vals (G, 0) (k * (4 * n + 3 * width)) (readF G L y n width k) (fun env => if numW env G.nodes y < k then (L.getD (numW env G.nodes y) []).map (bv env G.nodes) else List.replicate width false)
  | 0, _, _, hr => by
    have hp := hG.wf.pos
    refine ⟨⟨rfl, hG, .refl _, .refl _, Nat.le_add_right _ _⟩, fun r hr => ?_, fun env => ?_⟩
    · rw [(List.mem_replicate.1 hr).2]; exact Nat.mul_pos (by omega) hp
    · show (List.replicate width 0).map (bv env G.nodes) = _
      rw [List.map_replicate, bv_zero env hG.wf, if_neg (by omega)]
  | k + 1, hk, hk2, hr => by
    rw [Nat.succ_mul] at hr ⊢
    have hq := readF_vals hG hy h1 h16 hyr hL k (by omega) (by omega) (by omega)
    have hs0 : Sup (G, 0) (k * (4 * n + 3 * width) + (4 * n + 3 * width)) := ⟨rfl, hG, hr⟩
    obtain ⟨hLl, hLr⟩ := hL _ (getD_mem (d := []) (show k < L.length by omega))
    have hql : (readF G L y n width k).2.length = width := by
      have := congrArg List.length (hq.val fun _ => false)
      rw [List.length_map] at this
      rw [this]
      split
      · next h => rw [List.length_map]; exact (hL _ (getD_mem (by omega))).1
      · simp
    rw [readF_succ]
    unfold readS
    generalize readF G L y n width k = q at *
    have hi := isR_val (s := q.1) (i := k) (hq.ran.sup hs0 (Nat.add_le_add_left (Nat.le_add_right _ _) _)) hy h1 h16 (by omega) (fun r h => hq.ran.ext.lt (hyr r h))
    have hqi := hq.ran.trans hi.ran
    have hc := chF_vals (s := (isR q.1 y n k).1) (c := (isR q.1 y n k).2) (x := L.getD k []) (y := q.2) (n := width) (hqi.sup hs0 (by omega)) hLl hql hi.lt (fun r h => hqi.ext.lt (hLr r h)) (fun r h => hi.ran.ext.lt (hq.lt r h))
    refine ⟨(hqi.trans hc.ran).mono (by omega), hc.lt, fun env => ?_⟩
    refine (hc.val env).trans ?_
    rw [hi.val env, hq.ran.bvs env hyr, hqi.bvs env hLr, hi.ran.bvs env hq.lt, hq.val env]
    show (if decide (numW env G.nodes y = k) = true then _ else _) = _
    generalize numW env G.nodes y = a
    by_cases h : a = k
    · subst h; simp
    · rw [if_neg (by simpa using h)]
      by_cases h2 : a < k
      · rw [if_pos h2, if_pos (by omega)]
      · rw [if_neg h2, if_neg (by omega)]
/-- a state and an array of words, which means v -/
structure ValsL (s : Mk) (k : Nat) (R : Mk × List (List Nat)) (v : (Nat → Bool) → List (List Bool)) : Prop where
  ran : Ran s R.1 k
  lt : ∀ l ∈ R.2, ∀ r ∈ l, r < 2 * R.1.1.nodes.length
  val : ∀ env, R.2.map (fun l => l.map (bv env R.1.1.nodes)) = v env
theorem set_same {α : Type} {l : List α} {i : Nat} {a : α} (h : l[i]? = some a) : l.set i a = l := by
  apply List.ext_getElem?
  intro j
  rw [List.getElem?_set]
  split
  · next e => subst e; split <;> simp_all
  · rfl
/-- what is written -/
theorem writeF_vals {c : Nat} {x : List Nat} (hG : Ok G) (hy : y.length = n) (h1 : 1 ≤ n) (h16 : n ≤ 16) (hyr : ∀ r ∈ y, r < 2 * G.nodes.length) (hc : c < 2 * G.nodes.length) (hx : x.length = width) (hxr : ∀ r ∈ x, r < 2 * G.nodes.length) (hL : ∀ l ∈ L, l.length = width ∧ ∀ r ∈ l, r < 2 * G.nodes.length) :
    ∀ k, k ≤ L.length → k ≤ 2 ^ n → G.nodes.length + k * (4 * n + 1 + 3 * width) ≤ G.most →
      ValsL (G, 0) (k * (4 * n + 1 + 3 * width)) (writeF G c x L y n k) (fun env => if bv env G.nodes c = true ∧ numW env G.nodes y < k then (L.map fun l => l.map (bv env G.nodes)).set (numW env G.nodes y) (x.map (bv env G.nodes)) else L.map fun l => l.map (bv env G.nodes))
  | 0, _, _, hr => ⟨⟨rfl, hG, .refl _, .refl _, Nat.le_add_right _ _⟩, fun l hl => (hL l hl).2, fun env => by rw [if_neg (by omega)]; rfl⟩
  | k + 1, hk, hk2, hr => by
    rw [Nat.succ_mul] at hr ⊢
    have hq := writeF_vals hG hy h1 h16 hyr hc hx hxr hL k (by omega) (by omega) (by omega)
    have hs0 : Sup (G, 0) (k * (4 * n + 1 + 3 * width) + (4 * n + 1 + 3 * width)) := ⟨rfl, hG, hr⟩
    obtain ⟨hLl, hLr⟩ := hL _ (getD_mem (d := []) (show k < L.length by omega))
    rw [writeF_succ]
    unfold writeS
    dsimp only
    generalize writeF G c x L y n k = q at *
    have hi := isR_val (s := q.1) (i := k) (hq.ran.sup hs0 (by omega)) hy h1 h16 (by omega) (fun r h => hq.ran.ext.lt (hyr r h))
    have hqi := hq.ran.trans hi.ran
    have hsi : Sup (isR q.1 y n k).1 (1 + 3 * width) := hqi.sup hs0 (by omega)
    have ha := rstep_val hsi.err (and_rval hsi.ok (hqi.ext.lt hc) hi.lt (by have := hsi.room; omega))
    have hqa := hqi.trans ha.ran
    generalize rstep (isR q.1 y n k).1 (and (isR q.1 y n k).1.1 c (isR q.1 y n k).2) = A at *
    have hz := chF_vals (s := A.1) (c := A.2) (x := x) (y := L.getD k []) (n := width) (hqa.sup hs0 (by omega)) hx hLl ha.lt (fun r h => hqa.ext.lt (hxr r h)) (fun r h => hqa.ext.lt (hLr r h))
    have hqz := (hi.ran.trans ha.ran).trans hz.ran
    refine ⟨(hqa.trans hz.ran).mono (by omega), fun l hl r hr => ?_, fun env => ?_⟩
    · rcases List.mem_or_eq_of_mem_set hl with h | h
      · exact hqz.ext.lt (hq.lt l h r hr)
      · rw [h] at hr; exact hz.lt r hr
    · show (q.2.set k (chF A.2 A.1 (x.zip (L.getD k []))).2).map _ = _
      rw [List.map_set]
      have e1 : q.2.map (fun l => l.map (bv env (chF A.2 A.1 (x.zip (L.getD k []))).1.1.nodes)) = q.2.map (fun l => l.map (bv env q.1.1.nodes)) := List.map_congr_left fun l hl => hqz.bvs env (hq.lt l hl)
      rw [e1, hq.val env]
      have e2 := hz.val env
      rw [ha.val env, hi.val env, hqi.bv env hc, hq.ran.bvs env hyr, hqa.bvs env hxr, hqa.bvs env hLr] at e2
      have e3 : (fun env => decide (bitsVal (y.map (bv env q.1.1.nodes)) = k)) env = decide (bitsVal (y.map (bv env q.1.1.nodes)) = k) := rfl
      rw [e2]
      show List.set (if bv env G.nodes c = true ∧ numW env G.nodes y < k then _ else _) k (if (bv env G.nodes c && decide (numW env G.nodes y = k)) = true then _ else _) = _
      have hg : (L.map fun l => l.map (bv env G.nodes))[k]? = some ((L.getD k []).map (bv env G.nodes)) := by
        rw [List.getElem?_map, List.getD_eq_getElem?_getD, List.getElem?_eq_getElem (show k < L.length by omega)]; rfl
      generalize numW env G.nodes y = a
      generalize bv env G.nodes c = b
      cases b
      · rw [if_neg (by simp), if_neg (by simp), if_neg (by simp)]; exact set_same hg
      · by_cases h : a = k
        · subst h
          rw [if_neg (by omega), if_pos (by simp), if_pos ⟨rfl, by omega⟩]
        · by_cases h2 : a < k
          · rw [if_pos ⟨rfl, h2⟩, if_neg (by simpa using h), if_pos ⟨rfl, by omega⟩]
            refine set_same ?_
            rw [List.getElem?_set, if_neg h]
            exact hg
          · rw [if_neg (fun e => h2 e.2), if_neg (by simpa using h), if_neg (fun e => h2 (by omega))]
            exact set_same hg
/-- what is picked -/
theorem pickF_vals {s : Mk} {o : List Nat} (hs0 : s.2 = 0) (hG : Ok s.1) (ho : o.length = width) (hor : ∀ r ∈ o, r < 2 * s.1.nodes.length) (hL : ∀ l ∈ L, l.length = width ∧ ∀ r ∈ l, r < 2 * s.1.nodes.length) (l : List (Nat × Nat)) :
    (∀ p ∈ l, p.1 < L.length ∧ p.2 < 2 * s.1.nodes.length) → s.1.nodes.length + 3 * width * l.length ≤ s.1.most →
      Vals s (3 * width * l.length) (pickF L (s, o) l) (fun env => l.foldl (fun acc p => if bv env s.1.nodes p.2 = true then (L.getD p.1 []).map (bv env s.1.nodes) else acc) (o.map (bv env s.1.nodes))) ∧ (pickF L (s, o) l).2.length = width := by
  induction l using List.snocRec with
  | nil => exact fun _ _ => ⟨⟨⟨hs0, hG, .refl _, .refl _, Nat.le_add_right _ _⟩, hor, fun _ => rfl⟩, ho⟩
  | snoc l p ih =>
    intro hl hr
    rw [List.length_append, List.length_singleton, Nat.mul_succ] at hr ⊢
    obtain ⟨hq, hql⟩ := ih (fun p hp => hl p (List.mem_append_left _ hp)) (by omega)
    obtain ⟨hp1, hp2⟩ := hl p (by simp)
    obtain ⟨hLl, hLr⟩ := hL _ (getD_mem (d := []) hp1)
    have hS : Sup s (3 * width * l.length + 3 * width) := ⟨hs0, hG, hr⟩
    rw [pickF_snoc]
    unfold pickS
    generalize pickF L (s, o) l = q at *
    have hc := chF_vals (s := q.1) (c := p.2) (x := L.getD p.1 []) (y := q.2) (n := width) (hq.ran.sup hS (by omega)) hLl hql (hq.ran.ext.lt hp2) (fun r h => hq.ran.ext.lt (hLr r h)) hq.lt
    refine ⟨⟨hq.ran.trans hc.ran, hc.lt, fun env => ?_⟩, ?_⟩
    · refine (hc.val env).trans ?_
      rw [hq.ran.bv env hp2, hq.ran.bvs env hLr, hq.val env, List.foldl_append]
      rfl
    · have := congrArg List.length (hc.val fun _ => false)
      rw [List.length_map] at this
      rw [this]
      split
      · rw [List.length_map]; exact hLl
      · rw [List.length_map]; exact hql
/-- whether all words are the same -/
theorem eqsF_vals (hG : Ok G) (h1 : 1 ≤ n) (h16 : n ≤ 16) (l : List (List Nat × List Nat)) :
    (∀ p ∈ l, p.1.length = n ∧ p.2.length = n ∧ (∀ r ∈ p.1, r < 2 * G.nodes.length) ∧ ∀ r ∈ p.2, r < 2 * G.nodes.length) → G.nodes.length + 4 * n * l.length ≤ G.most →
      Vals (G, 0) (4 * n * l.length) (eqsF G l) (fun env => l.map fun p => decide (p.1.map (bv env G.nodes) = p.2.map (bv env G.nodes))) := by
  induction l using List.snocRec with
  | nil => exact fun _ _ => ⟨⟨rfl, hG, .refl _, .refl _, Nat.le_add_right _ _⟩, by simp [eqsF], fun _ => rfl⟩
  | snoc l p ih =>
    intro hl hr
    rw [List.length_append, List.length_singleton, Nat.mul_succ] at hr ⊢
    have hq := ih (fun p hp => hl p (List.mem_append_left _ hp)) (by omega)
    obtain ⟨ha, hb, har, hbr⟩ := hl p (by simp)
    have hS : Sup (G, 0) (4 * n * l.length + 4 * n) := ⟨rfl, hG, hr⟩
    have hS2 := hq.ran.sup hS (Nat.le_refl _)
    rw [eqsF_snoc]
    have h2 := rstep_val hS2.err (eqW_rval hS2.ok ha hb h1 (by omega) (fun r h => hq.ran.ext.lt (har r h)) (fun r h => hq.ran.ext.lt (hbr r h)) hS2.room)
    have h3 := hq.snoc h2
    refine ⟨h3.ran, h3.lt, fun env => ?_⟩
    refine (h3.val env).trans ?_
    rw [List.map_append]
    show _ ++ [decide (p.1.map (bv env (eqsF G l).1.1.nodes) = p.2.map (bv env (eqsF G l).1.1.nodes))] = _
    rw [hq.ran.bvs env har, hq.ran.bvs env hbr]
    rfl
theorem equalR_val (hG : Ok G) (h1 : 1 ≤ n) (h16 : n ≤ 16) (l : List (List Nat × List Nat)) (hl : ∀ p ∈ l, p.1.length = n ∧ p.2.length = n ∧ (∀ r ∈ p.1, r < 2 * G.nodes.length) ∧ ∀ r ∈ p.2, r < 2 * G.nodes.length) (hr : G.nodes.length + (4 * n + 1) * l.length ≤ G.most) :
    Val (G, 0) ((4 * n + 1) * l.length) (equalR G l) (fun env => l.all fun p => decide (p.1.map (bv env G.nodes) = p.2.map (bv env G.nodes))) := by
  rw [Nat.add_mul, Nat.one_mul] at hr ⊢
  have hq := eqsF_vals hG h1 h16 l hl (by omega)
  have hlen : (eqsF G l).2.length = l.length := by
    have := congrArg List.length (hq.val fun _ => false)
    simpa using this
  have h2 := rstep_val hq.ran.err (rAll_rval hq.ran.ok hq.lt (by have h3 := hq.ran.len; have h4 := hq.ran.ext.most; simp only at h3 h4; omega))
  rw [hlen] at h2
  refine ⟨hq.ran.trans h2.ran, h2.lt, fun env => ?_⟩
  refine (h2.val env).trans ?_
  have := hq.val env
  show (eqsF G l).2.all (bv env (eqsF G l).1.1.nodes) = _
  rw [show (eqsF G l).2.all (bv env (eqsF G l).1.1.nodes) = ((eqsF G l).2.map (bv env (eqsF G l).1.1.nodes)).all id by rw [List.all_map]; rfl, this, List.all_map]
  rfl
end
end Go.Aig
namespace Go.Proofs.YtdmmanfjafempaaGreat
open Go.RowKit Go.Mem Go.Aig
def u64s (l : List Nat) : List Value := l.map fun (r : Nat) => .int .u64 r
/-- the words of the four inputs -/
def inWords : List Nat := [43690, 52428, 61680, 65280]
/-- the word of a reference, over the words of the nodes -/
def wv (vs : List Nat) (r : Nat) : Nat := if r % 2 = 1 then vs.getD (r / 2) 0 ^^^ 65535 else vs.getD (r / 2) 0
theorem not_word (x : Nat) (hx : x < 65536) : bits .and .u64 (bits .xor .u64 18446744073709551615 (x : Int)) 65535 = ((x ^^^ 65535 : Nat) : Int) := by
  have h1 := bits_xor_u64_nat 18446744073709551615 x (by omega) (by omega)
  have h2 : 18446744073709551615 ^^^ x < 2 ^ 64 := Nat.xor_lt_two_pow (by omega) (by omega)
  have h3 := bits_and_u64_nat (18446744073709551615 ^^^ x) 65535 (by omega) (by omega)
  rw [show (18446744073709551615 : Int) = ((18446744073709551615 : Nat) : Int) from rfl, h1, show (65535 : Int) = ((65535 : Nat) : Int) from rfl, h3]
  congr 1
  apply Nat.eq_of_testBit_eq
  intro i
  rw [Nat.testBit_and, Nat.testBit_xor, Nat.testBit_xor, show (18446744073709551615 : Nat) = 2 ^ 64 - 1 from rfl, show (65535 : Nat) = 2 ^ 16 - 1 from rfl, Nat.testBit_two_pow_sub_one, Nat.testBit_two_pow_sub_one]
  by_cases hi : i < 16
  · have : i < 64 := by omega
    simp [hi, this]
  · have hx' : x.testBit i = false := Nat.testBit_lt_two_pow (Nat.lt_of_lt_of_le hx (by show 2 ^ 16 ≤ 2 ^ i; exact Nat.pow_le_pow_right (by omega) (by omega)))
    simp [hi, hx']
theorem not_word' (x : Nat) (hx : x < 65536) : bits .and .u64 (bits .xor .u64 IntKind.u64.max (x : Int)) 65535 = ((x ^^^ 65535 : Nat) : Int) := by
  rw [show IntKind.u64.max = (18446744073709551615 : Int) from by decide]; exact not_word x hx
end Go.Proofs.YtdmmanfjafempaaGreat
namespace Go.Aig
/-- what the program tells of a node -/
theorem node_tells {G : Gra} (h : Ok G) {n : Nat} {x : Nd} (hx : G.nodes[n]? = some x) : kindOf G.nodes ((2 * n : Nat) : Int) = x.k ∧ lOf G.nodes ((2 * n : Nat) : Int) = x.l ∧ rOf G.nodes ((2 * n : Nat) : Int) = x.r ∧ x.k ≤ 3 := by
  have hn : nodeAt G.nodes ((2 * n : Nat) : Int) = some x := by
    unfold nodeAt
    rw [if_pos (by omega), Int.toNat_natCast, show 2 * n / 2 = n by omega, hx]
  unfold kindOf lOf rOf
  rw [hn]
  refine ⟨rfl, ?_, ?_, ?_⟩
  · show (if x.k = 3 then x.l else 0) = x.l
    by_cases h0 : n = 0
    · subst h0; rw [h.wf.const] at hx; cases hx; rfl
    · rcases h.wf.other n x hx (by omega) with e | e
      · rw [e]; rfl
      · rw [if_pos e.1]
  · show (if x.k = 3 then x.r else 0) = x.r
    by_cases h0 : n = 0
    · subst h0; rw [h.wf.const] at hx; cases hx; rfl
    · rcases h.wf.other n x hx (by omega) with e | e
      · rw [e]; rfl
      · rw [if_pos e.1]
  · by_cases h0 : n = 0
    · subst h0; rw [h.wf.const] at hx; cases hx; decide
    · rcases h.wf.other n x hx (by omega) with e | e
      · rw [e]; decide
      · omega
end Go.Aig
namespace Go.Proofs.YtdmmanfjafempaaGreat
open Go.RowKit Go.Mem Go.Aig
section
variable {w : World} {g : Nat} {G : Gra} {F : List Nat}
theorem Room_j (h : GIn w g G F) : Calls Tryz.prog 117 #[.pointer (some ⟨g, 0, none⟩)] w fun e w' => e = .returned (.int .i64 ((G.most : Int) - G.nodes.length)) ∧ Ch [] w w' := by
  have hr := h.ok.room
  have hc := Room_g h
  rw [show ((G.most - G.nodes.length : Nat) : Int) = (G.most : Int) - G.nodes.length by omega] at hc
  exact hc
set_option maxRecDepth 100000 in
set_option maxHeartbeats 4000000 in
theorem Same23_is (h : GIn w g G F) {rb cap : Nat} (hr : RG w rb cap G) :
    Calls Tryz.prog 44 #[.pointer (some ⟨g, 0, none⟩), .agg #[.int .i64 G.most, .slice (some ⟨rb, 0, none⟩) G.nodes.length cap]] w fun e w' => e = .returned (.bool true) ∧ Ch [] w w' := by
  obtain ⟨hl, hp, hmo⟩ := hr.len
  have hle := hr.le
  have hmx := hr.mx
  have hml : (G.nodes.length : Int) ≤ G.most := by have := hr.ok.room; omega
  have htl := fun n x (hx : G.nodes[n]? = some x) => node_tells hr.ok hx
  have HTL := Lib.hid htl; clear htl
  have H := Lib.hid h; clear h
  have HR := Lib.hid hr; clear hr
  go_enter Tryz.func44, Tryz.ntmps44
  go_upto_region 1 with fail
  refine wp_alw ?_
  intro W0 hW0
  have hc0 : Ch [] w W0 := by rw [hW0]; exact (Ch.refl _ _).alloc _
  have b3 : blk W0 w.heap.size [.int .i64 G.most, .slice (some ⟨rb, 0, none⟩) G.nodes.length cap] := by rw [hW0]; exact blk.new' (w := w) [.int .i64 G.most, .slice (some ⟨rb, 0, none⟩) G.nodes.length cap] 88 rfl
  clear hW0
  have hg0 := H.out.same hc0 (by simp)
  have hLen := Len_g (hg0.same (Ch.refl [] W0).drew (by simp))
  have hRoom := Room_j (hg0.same (Ch.refl [] W0).drew (by simp))
  have HLEN := Lib.hid hLen; clear hLen
  have HROOM := Lib.hid hRoom; clear hRoom hg0
  have y0 := b3.cell (i := 0) rfl
  have y1 := b3.cell (i := 1) rfl
  have BB3 := Lib.hid b3; clear b3
  have HC0 := Lib.hid hc0; clear hc0
  go_wp2_with fail
  have hcurd : Ch [] W0 W0.drew := (Ch.refl [] W0).drew
  refine Ord.St.door (fun w' => Ch [] W0 w') [.fl, .rd, .fl, .rd, .fl, .fl, .fl, .fl, .ef, .fl, .ho, .fl, .ho, .fl, .fl, .fl, .fl] [0, 1, 0, 4, 12, 31, 63, 127, 255, 127, 639, 127, 2175, 6271, 15999, 32767, 65535] [0, 1, 2, 3, 4, 5, 6, 7, 8, 9, 10, 11, 12, 13, 14, 15, 16] mixed (by kernel_rfl) rfl ?_
  refine Ord.St.fl2 (T' := ?_) 0 [1, 2, 3, 4, 5, 6, 7, 8, 9, 10, 11, 12, 13, 14, 15, 16] _ _ rfl (by kernel_rfl) rfl rfl rfl rfl (fun K w' hk => ?_) ?_
  rotate_left
  · go_step; exact hk
  refine Ord.St.rd2 (T' := ?_) 1 [2, 3, 4, 5, 6, 7, 8, 9, 10, 11, 12, 13, 14, 15, 16] _ _ rfl (by kernel_rfl) rfl rfl rfl rfl (fun K hk => ?_) ?_
  rotate_left
  · go_step; refine HLEN.out.mono ?_; rintro e w'' ⟨rfl, rfl⟩; exact hk
  refine Ord.St.fl2 (T' := ?_) 2 [3, 4, 5, 6, 7, 8, 9, 10, 11, 12, 13, 14, 15, 16] _ _ rfl (by kernel_rfl) rfl rfl rfl rfl (fun K w' hk => ?_) ?_
  rotate_left
  · go_step; exact hk
  refine Ord.St.rd2 (T' := ?_) 3 [4, 5, 6, 7, 8, 9, 10, 11, 12, 13, 14, 15, 16] _ _ rfl (by kernel_rfl) rfl rfl rfl rfl (fun K hk => ?_) ?_
  rotate_left
  · go_step; exact hk
  refine Ord.St.fl2 (T' := ?_) 4 [5, 6, 7, 8, 9, 10, 11, 12, 13, 14, 15, 16] _ _ rfl (by kernel_rfl) rfl rfl rfl rfl (fun K w' hk => ?_) ?_
  rotate_left
  · go_step; exact hk
  refine Ord.St.fl2 (T' := ?_) 5 [6, 7, 8, 9, 10, 11, 12, 13, 14, 15, 16] _ _ rfl (by kernel_rfl) rfl rfl rfl rfl (fun K w' hk => ?_) ?_
  rotate_left
  · go_step; exact hk
  refine Ord.St.fl2 (T' := ?_) 6 [7, 8, 9, 10, 11, 12, 13, 14, 15, 16] _ _ rfl (by kernel_rfl) rfl rfl rfl rfl (fun K w' hk => ?_) ?_
  rotate_left
  · go_step; exact hk
  first | (refine Ord.St.fl2 (T' := ?_) 7 [8, 9, 10, 11, 12, 13, 14, 15, 16] _ _ rfl (by kernel_rfl) ?_ rfl rfl rfl (fun K w' hk => ?_) ?_; rotate_left; (first | rfl | (simp [Region.wanted, yielded, *]; done)); focus (go_step; exact hk)) | (refine Ord.St.skip 7 [8, 9, 10, 11, 12, 13, 14, 15, 16] _ rfl (by kernel_rfl) ?_ (fun K hK => ?_); (first | rfl | (simp [Region.wanted, yielded, *]; done)); go_simp; refine hK _ ?_; clear hK K)
  first | (refine Ord.St.fl2 (T' := ?_) 9 [8, 10, 11, 12, 13, 14, 15, 16] _ _ rfl (by kernel_rfl) ?_ rfl rfl rfl (fun K w' hk => ?_) ?_; rotate_left; (first | rfl | (simp [Region.wanted, yielded, *]; done)); focus (go_step; exact hk)) | (refine Ord.St.skip 9 [8, 10, 11, 12, 13, 14, 15, 16] _ rfl (by kernel_rfl) ?_ (fun K hK => ?_); (first | rfl | (simp [Region.wanted, yielded, *]; done)); go_simp; refine hK _ ?_; clear hK K)
  refine Ord.St.ho2 (T' := ?_) 10 [8, 11, 12, 13, 14, 15, 16] _ _ rfl (by kernel_rfl) (by first | rfl | simp [Region.wanted, yielded, *]) rfl rfl rfl ?_ (fun K w' hw' hk => ?_) ?_
  rotate_left
  · trivial
  · have z0 := (BB3.out.ch hw' (by simp)).cell (i := 0) rfl; have z1 := (BB3.out.ch hw' (by simp)).cell (i := 1) rfl; go_step; exact hk
  first | (refine Ord.St.fl2 (T' := ?_) 11 [8, 12, 13, 14, 15, 16] _ _ rfl (by kernel_rfl) ?_ rfl rfl rfl (fun K w' hk => ?_) ?_; rotate_left; (first | rfl | (simp [Region.wanted, yielded, *]; done)); focus (go_step; exact hk)) | (refine Ord.St.skip 11 [8, 12, 13, 14, 15, 16] _ rfl (by kernel_rfl) ?_ (fun K hK => ?_); (first | rfl | (simp [Region.wanted, yielded, *]; done)); go_simp; refine hK _ ?_; clear hK K)
  refine Ord.St.ho2 (T' := ?_) 12 [8, 13, 14, 15, 16] _ _ rfl (by kernel_rfl) (by first | rfl | simp [Region.wanted, yielded, *]) rfl rfl rfl ?_ (fun K w' hw' hk => ?_) ?_
  rotate_left
  · trivial
  · have z0 := (BB3.out.ch hw' (by simp)).cell (i := 0) rfl; have z1 := (BB3.out.ch hw' (by simp)).cell (i := 1) rfl; go_step; exact hk
  first | (refine Ord.St.fl2 (T' := ?_) 13 [8, 14, 15, 16] _ _ rfl (by kernel_rfl) ?_ rfl rfl rfl (fun K w' hk => ?_) ?_; rotate_left; (first | rfl | (simp [Region.wanted, yielded, *]; done)); focus (go_step; exact hk)) | (refine Ord.St.skip 13 [8, 14, 15, 16] _ rfl (by kernel_rfl) ?_ (fun K hK => ?_); (first | rfl | (simp [Region.wanted, yielded, *]; done)); go_simp; refine hK _ ?_; clear hK K)
  first | (refine Ord.St.fl2 (T' := ?_) 14 [8, 15, 16] _ _ rfl (by kernel_rfl) ?_ rfl rfl rfl (fun K w' hk => ?_) ?_; rotate_left; (first | rfl | (simp [Region.wanted, yielded, *]; done)); focus (go_step; exact hk)) | (refine Ord.St.skip 14 [8, 15, 16] _ rfl (by kernel_rfl) ?_ (fun K hK => ?_); (first | rfl | (simp [Region.wanted, yielded, *]; done)); go_simp; refine hK _ ?_; clear hK K)
  refine Ord.St.efC 8 [15, 16] _ rfl (by kernel_rfl) (fun K hK => ?_)
  go_wp2_with fail
  refine HROOM.out.mono ?_
  rintro e w2 ⟨rfl, hc2⟩
  have hcur : Ch [] W0 w2 := (Ch.refl [] W0).drew.trans hc2 (by simp)
  have b3 := BB3.out.ch hcur (by simp)
  have x0 := b3.cell (i := 0) rfl
  have x1 := b3.cell (i := 1) rfl
  clear hcurd b3 y0 y1 hc2 HROOM HLEN
  go_wp2_with fail
  refine ⟨rfl, hK _ _ ?_ ?_⟩
  · exact hcur
  clear hK K
  first | (refine Ord.St.fl2 (T' := ?_) 15 [16] _ _ rfl (by kernel_rfl) ?_ rfl rfl rfl (fun K w' hk => ?_) ?_; rotate_left; (first | rfl | (simp [Region.wanted, yielded, *]; done)); focus (go_step; exact hk)) | (refine Ord.St.skip 15 [16] _ rfl (by kernel_rfl) ?_ (fun K hK => ?_); (first | rfl | (simp [Region.wanted, yielded, *]; done)); go_simp; refine hK _ ?_; clear hK K)
  refine Ord.St.fl2 (T' := ?_) 16 [] _ _ rfl (by kernel_rfl) rfl rfl rfl rfl (fun K w' hk => ?_) ?_
  rotate_left
  · go_step; exact hk
  refine Ord.St.nil ?_
  go_wp2_with fail
  have HC2 := Lib.hid hcur; clear hcur x0 x1
  go_loopw [30] (fun i wr => ∃ k : Nat, k ≤ G.nodes.length ∧ i = .int .i64 k ∧ Ch [] w wr) (fun i _ => G.nodes.length - (intOf i).toNat)
  case atStart => exact ⟨0, by omega, rfl, HC0.out.trans HC2.out (by simp)⟩
  case round =>
    obtain ⟨k, hk, rfl, hc⟩ := hrel
    by_cases hlt : k < G.nodes.length
    · obtain ⟨x, hx⟩ : ∃ x, G.nodes[k]? = some x := ⟨_, List.getElem?_eq_getElem hlt⟩
      obtain ⟨t1, t2, t3, t4⟩ := HTL.out k x hx
      have hrr := HR.out.ch hc (by simp)
      obtain ⟨d0, d1, d2⟩ := hrr.node hx
      have hcA : Ch [] w (wr.alloc (.cells #[.int .i64 x.k, .int .i64 x.l, .int .i64 x.r] 153)) := hc.alloc _
      have hg1 := H.out.same hcA (by simp)
      have hS := Sides_g hg1 ((2 * k : Nat) : Int) (by omega)
      rw [t2, t3, show ((2 * k : Nat) : Int) = 2 * (k : Int) by omega] at hS
      generalize isAndAt G.nodes (2 * (k : Int)) = ia at hS
      have hK := fun (W : World) (hW : Ch [] w W) => Kind_g (H.out.same hW (by simp)) ((2 * k : Nat) : Int) (by omega)
      rw [t1, show ((2 * k : Nat) : Int) = 2 * (k : Int) by omega] at hK
      have HS := Lib.hid hS; clear hS
      have HK := Lib.hid hK; clear hK
      have HCA := Lib.hid hcA; clear hcA hc hg1 hrr t1 t2 t3 hx
      go_wp2_with fail
      refine HS.out.mono ?_
      rintro e w3 ⟨rfl, hc3⟩
      have b6 : blk w3 wr.heap.size [.int .i64 x.k, .int .i64 x.l, .int .i64 x.r] := (blk.new' (w := wr) [.int .i64 x.k, .int .i64 x.l, .int .i64 x.r] 153 (by simp)).ch hc3 (by simp)
      have hc13 := HCA.out.trans hc3 (by simp)
      have HKK := Lib.hid (HK.out _ hc13.drew)
      have z0 := b6.cell (i := 0) rfl
      have z1 := b6.cell (i := 1) rfl
      have z2 := b6.cell (i := 2) rfl
      have HC13 := Lib.hid hc13; clear hc13 hc3 b6 HS HK d0 d1 d2
      go_wp2_with fail
      refine Ord.St.door (fun _ => True) [.fl, .fl, .fl, .rd, .fl, .fl, .rd, .fl, .fl, .fl, .fl, .rd, .fl, .fl, .fl, .fl, .fl, .rd, .fl, .fl] [0, 0, 2, 7, 15, 0, 32, 127, 255, 511, 511, 1535, 4095, 8191, 16383, 32767, 32767, 98303, 262143, 524287] [0, 1, 2, 3, 4, 5, 6, 7, 8, 9, 10, 11, 12, 13, 14, 15, 16, 17, 18, 19] mixed (by kernel_rfl) rfl ?_
      refine Ord.St.fl2 (T' := ?_) 0 [1, 2, 3, 4, 5, 6, 7, 8, 9, 10, 11, 12, 13, 14, 15, 16, 17, 18, 19] _ _ rfl (by kernel_rfl) rfl rfl rfl rfl (fun K w' hk => ?_) ?_
      rotate_left
      · go_step; exact hk
      refine Ord.St.fl2 (T' := ?_) 1 [2, 3, 4, 5, 6, 7, 8, 9, 10, 11, 12, 13, 14, 15, 16, 17, 18, 19] _ _ rfl (by kernel_rfl) rfl rfl rfl rfl (fun K w' hk => ?_) ?_
      rotate_left
      · go_step; exact hk
      refine Ord.St.fl2 (T' := ?_) 2 [3, 4, 5, 6, 7, 8, 9, 10, 11, 12, 13, 14, 15, 16, 17, 18, 19] _ _ rfl (by kernel_rfl) rfl rfl rfl rfl (fun K w' hk => ?_) ?_
      rotate_left
      · go_step; exact hk
      refine Ord.St.rd2 (T' := ?_) 3 [4, 5, 6, 7, 8, 9, 10, 11, 12, 13, 14, 15, 16, 17, 18, 19] _ _ rfl (by kernel_rfl) rfl rfl rfl rfl (fun K hk => ?_) ?_
      rotate_left
      · go_step; refine HKK.out.mono ?_; rintro e w'' ⟨rfl, rfl⟩; exact hk
      refine Ord.St.fl2 (T' := ?_) 4 [5, 6, 7, 8, 9, 10, 11, 12, 13, 14, 15, 16, 17, 18, 19] _ _ rfl (by kernel_rfl) rfl rfl rfl rfl (fun K w' hk => ?_) ?_
      rotate_left
      · go_step; exact hk
      refine Ord.St.fl2 (T' := ?_) 5 [6, 7, 8, 9, 10, 11, 12, 13, 14, 15, 16, 17, 18, 19] _ _ rfl (by kernel_rfl) rfl rfl rfl rfl (fun K w' hk => ?_) ?_
      rotate_left
      · go_step; exact hk
      refine Ord.St.rd2 (T' := ?_) 6 [7, 8, 9, 10, 11, 12, 13, 14, 15, 16, 17, 18, 19] _ _ rfl (by kernel_rfl) rfl rfl rfl rfl (fun K hk => ?_) ?_
      rotate_left
      · go_step; exact hk
      refine Ord.St.fl2 (T' := ?_) 7 [8, 9, 10, 11, 12, 13, 14, 15, 16, 17, 18, 19] _ _ rfl (by kernel_rfl) rfl rfl rfl rfl (fun K w' hk => ?_) ?_
      rotate_left
      · go_step; exact hk
      refine Ord.St.fl2 (T' := ?_) 8 [9, 10, 11, 12, 13, 14, 15, 16, 17, 18, 19] _ _ rfl (by kernel_rfl) rfl rfl rfl rfl (fun K w' hk => ?_) ?_
      rotate_left
      · go_step; exact hk
      first | (refine Ord.St.fl2 (T' := ?_) 9 [10, 11, 12, 13, 14, 15, 16, 17, 18, 19] _ _ rfl (by kernel_rfl) ?_ rfl rfl rfl (fun K w' hk => ?_) ?_; rotate_left; (first | rfl | (simp [Region.wanted, yielded, *]; done)); focus (go_step; exact hk)) | (refine Ord.St.skip 9 [10, 11, 12, 13, 14, 15, 16, 17, 18, 19] _ rfl (by kernel_rfl) ?_ (fun K hK => ?_); (first | rfl | (simp [Region.wanted, yielded, *]; done)); go_simp; refine hK _ ?_; clear hK K)
      first | (refine Ord.St.fl2 (T' := ?_) 10 [11, 12, 13, 14, 15, 16, 17, 18, 19] _ _ rfl (by kernel_rfl) ?_ rfl rfl rfl (fun K w' hk => ?_) ?_; rotate_left; (first | rfl | (simp [Region.wanted, yielded, *]; done)); focus (go_step; exact hk)) | (refine Ord.St.skip 10 [11, 12, 13, 14, 15, 16, 17, 18, 19] _ rfl (by kernel_rfl) ?_ (fun K hK => ?_); (first | rfl | (simp [Region.wanted, yielded, *]; done)); go_simp; refine hK _ ?_; clear hK K)
      first | (refine Ord.St.rd2 (T' := ?_) 11 [12, 13, 14, 15, 16, 17, 18, 19] _ _ rfl (by kernel_rfl) ?_ rfl rfl rfl (fun K hk => ?_) ?_; rotate_left; (first | rfl | (simp [Region.wanted, yielded, *]; done)); focus (go_step; exact hk)) | (refine Ord.St.skipr 11 [12, 13, 14, 15, 16, 17, 18, 19] _ rfl (by kernel_rfl) ?_ (fun K hK => ?_); (first | rfl | (simp [Region.wanted, yielded, *]; done)); go_simp; refine hK _ ?_; clear hK K)
      first | (refine Ord.St.fl2 (T' := ?_) 12 [13, 14, 15, 16, 17, 18, 19] _ _ rfl (by kernel_rfl) ?_ rfl rfl rfl (fun K w' hk => ?_) ?_; rotate_left; (first | rfl | (simp [Region.wanted, yielded, *]; done)); focus (go_step; exact hk)) | (refine Ord.St.skip 12 [13, 14, 15, 16, 17, 18, 19] _ rfl (by kernel_rfl) ?_ (fun K hK => ?_); (first | rfl | (simp [Region.wanted, yielded, *]; done)); go_simp; refine hK _ ?_; clear hK K)
      refine Ord.St.fl2 (T' := ?_) 13 [14, 15, 16, 17, 18, 19] _ _ rfl (by kernel_rfl) rfl rfl rfl rfl (fun K w' hk => ?_) ?_
      rotate_left
      · go_step; exact hk
      refine Ord.St.fl2 (T' := ?_) 14 [15, 16, 17, 18, 19] _ _ rfl (by kernel_rfl) rfl rfl rfl rfl (fun K w' hk => ?_) ?_
      rotate_left
      · go_step; exact hk
      first | (refine Ord.St.fl2 (T' := ?_) 15 [16, 17, 18, 19] _ _ rfl (by kernel_rfl) ?_ rfl rfl rfl (fun K w' hk => ?_) ?_; rotate_left; (first | rfl | (simp [Region.wanted, yielded, *]; done)); focus (go_step; exact hk)) | (refine Ord.St.skip 15 [16, 17, 18, 19] _ rfl (by kernel_rfl) ?_ (fun K hK => ?_); (first | rfl | (simp [Region.wanted, yielded, *]; done)); go_simp; refine hK _ ?_; clear hK K)
      first | (refine Ord.St.fl2 (T' := ?_) 16 [17, 18, 19] _ _ rfl (by kernel_rfl) ?_ rfl rfl rfl (fun K w' hk => ?_) ?_; rotate_left; (first | rfl | (simp [Region.wanted, yielded, *]; done)); focus (go_step; exact hk)) | (refine Ord.St.skip 16 [17, 18, 19] _ rfl (by kernel_rfl) ?_ (fun K hK => ?_); (first | rfl | (simp [Region.wanted, yielded, *]; done)); go_simp; refine hK _ ?_; clear hK K)
      first | (refine Ord.St.rd2 (T' := ?_) 17 [18, 19] _ _ rfl (by kernel_rfl) ?_ rfl rfl rfl (fun K hk => ?_) ?_; rotate_left; (first | rfl | (simp [Region.wanted, yielded, *]; done)); focus (go_step; exact hk)) | (refine Ord.St.skipr 17 [18, 19] _ rfl (by kernel_rfl) ?_ (fun K hK => ?_); (first | rfl | (simp [Region.wanted, yielded, *]; done)); go_simp; refine hK _ ?_; clear hK K)
      first | (refine Ord.St.fl2 (T' := ?_) 18 [19] _ _ rfl (by kernel_rfl) ?_ rfl rfl rfl (fun K w' hk => ?_) ?_; rotate_left; (first | rfl | (simp [Region.wanted, yielded, *]; done)); focus (go_step; exact hk)) | (refine Ord.St.skip 18 [19] _ rfl (by kernel_rfl) ?_ (fun K hK => ?_); (first | rfl | (simp [Region.wanted, yielded, *]; done)); go_simp; refine hK _ ?_; clear hK K)
      refine Ord.St.fl2 (T' := ?_) 19 [] _ _ rfl (by kernel_rfl) rfl rfl rfl rfl (fun K w' hk => ?_) ?_
      rotate_left
      · go_step; exact hk
      refine Ord.St.nil ?_
      go_wp2_with fail
      go_roundw
      case rel => exact ⟨k + 1, by omega, by go_num, HC13.out.drew⟩
      case measure => simp [intOf]; omega
    · have HC := Lib.hid hc; clear hc
      go_wp2_with fail
      go_ret
      exact ⟨rfl, HC.out⟩
end
end Go.Proofs.YtdmmanfjafempaaGreat
namespace Go.Proofs.YtdmmanfjafempaaGreat
open Go.RowKit Go.Mem Go.Aig
/-- all bits -/
abbrev U64 : Nat := 18446744073709551615
theorem u64_pow : (2 ^ 64 - 1 : Nat) = U64 := rfl
theorem infoU64 : (Tryz.prog.info? 134).map (fun i => (i.zero, i.size, i.bytes)) = some (some (.int .u64 0), 1, 8) := by kernel_rfl
theorem slU64s : SliceTy Tryz.prog 133 134 1 8 (.int .u64 0) := ⟨Tryz.underlying133, infoU64, rfl, by decide⟩
theorem run_make_u64s (w : World) (n : Nat) (hn : n ≤ 1000000) : (Instr.makeSlice 133 (.int .i64 n) (.int .i64 n)).run Tryz.prog w = .ok (.slice (some ⟨w.heap.size, 0, none⟩) n n) (w.alloc (.cells (u64s (List.replicate n 0)).toArray 134)) := by
  obtain ⟨i, hi, hz, hs, hb⟩ := info_parts infoU64
  have := run_make (P := Tryz.prog) w 133 134 i (.int .u64 0) Tryz.underlying133 hi hz .i64 .i64 n n (by omega) (by omega) (by rw [hb]; omega) (by omega)
  rw [this, hs]
  have e : madeCells (Value.int .u64 0).cells ((n : Int).toNat * 1) = (u64s (List.replicate n 0)).toArray := by
    apply Array.ext'
    have h := toList_madeCells_one (Value.int .u64 0) ((n : Int).toNat * 1)
    simpa [u64s, Value.cells] using h
  rw [e]; simp
theorem u64s_get {l : List Nat} {i v : Nat} (h : l[i]? = some v) : (u64s l)[i]? = some (.int .u64 v) := by simp [u64s, h]
section
variable {w : World}
set_option maxRecDepth 100000 in
set_option maxHeartbeats 2000000 in
theorem simof1_is {bx nb n c : Nat} {vs : List Nat} (hb : w.cell? ⟨bx, 0, none⟩ = some (.slice (some ⟨nb, 0, none⟩) n c)) (hk : blk w nb (u64s vs)) (hn : vs.length = n) (hlt : ∀ v ∈ vs, v < 2 ^ 64) (r : Nat) (hr : r < 2 * n) (hr2 : r ≤ 1000000) :
    Calls Tryz.prog 176 #[.int .i64 r, .pointer (some ⟨bx, 0, none⟩)] w fun e w' => e = .returned (.int .u64 (wref U64 vs r)) ∧ w = w' := by
  have hg : vs[r / 2]? = some vs[r / 2] := List.getElem?_eq_getElem (by omega)
  have hx := hlt _ (List.getElem_mem (show r / 2 < vs.length by omega))
  have c0 : w.cell? ⟨nb, r / 2, none⟩ = some (.int .u64 vs[r / 2]) := hk.cell (u64s_get hg)
  have hv : wref U64 vs r = if r % 2 = 1 then U64 ^^^ vs[r / 2] else vs[r / 2] := by unfold wref; rw [List.getD_eq_getElem?_getD, hg]; rfl
  rw [hv]
  generalize vs[r / 2] = x at *
  clear hg hk hlt hv
  by_cases h1 : r % 2 = 1
  · rw [if_pos h1]
    have hbb : ((r : Int) % 2 == 1) = true := by simp; omega
    have hnx := bits_xor_u64_nat U64 x (by decide) (by omega)
    have H1 := Lib.hid h1; clear h1
    have HNX := Lib.hid hnx; clear hnx
    have HN := Lib.hid hn; clear hn
    go_enter Tryz.func176, Tryz.ntmps176
    go_wp2_with fail
    go_ret
    exact ⟨ret_int (by first | exact HNX.out | (rw [show IntKind.u64.max = ((U64 : Nat) : Int) from by decide]; exact HNX.out)), rfl⟩
  · rw [if_neg h1]
    have hbb : ((r : Int) % 2 == 1) = false := by simp; omega
    have H1 := Lib.hid h1; clear h1
    have HN := Lib.hid hn; clear hn
    go_enter Tryz.func176, Tryz.ntmps176
    go_wp2_with fail
    go_ret
    exact ⟨rfl, rfl⟩
theorem fnvsimof1 : Fnv 176 := fnv_of Tryz.func176 (by simp [Tryz.f176]) (by simp [Tryz.f176])
set_option maxRecDepth 100000 in
set_option maxHeartbeats 400000 in
theorem simof_is (a : Option Addr) (n c : Nat) : Calls Tryz.prog 137 #[.slice a n c] w fun e w' => e = .returned (.func (.func 176) #[] #[.pointer (some ⟨w.heap.size, 0, none⟩)]) ∧ w' = w.alloc (.cells #[.slice a n c] 133) := by
  go_enter Tryz.func137, Tryz.ntmps137
  go_wp2_with fail
  go_ret
  exact ⟨rfl, rfl⟩
theorem isAnd_at {G : Gra} (hG : Ok G) {n : Nat} {x : Nd} (hx : G.nodes[n]? = some x) : isAndAt G.nodes ((2 * n : Nat) : Int) = (x.k == 3) := by
  have := (node_tells hG hx).1
  unfold isAndAt
  rw [this]
theorem Sv.ch2 {F : List Nat} {w w' : World} {a : Option Addr} {xs : List Value} (h : Sv w a xs) (hc : Ch F w w') (hF : 0 < xs.length → ∀ p, a = some p → p.block ∉ F) : Sv w' a xs :=
  ⟨fun i x hx => by
    obtain ⟨b, o, rfl, hcell⟩ := h.cells i x hx
    have hlt := (List.getElem?_eq_some_iff.1 hx).1
    exact ⟨b, o, rfl, (hc.cell (p := ⟨b, o + i, none⟩) (cell_lt hcell) (hF (by omega) ⟨b, o, none⟩ rfl)).trans hcell⟩, h.bd⟩
theorem u64s_len (l : List Nat) : (u64s l).length = l.length := by simp [u64s]
theorem set_mid (L : List Nat) (m v : Nat) (hm : 0 < m) : (u64s (L ++ List.replicate m 0)).set L.length (.int .u64 v) = u64s ((L ++ [v]) ++ List.replicate (m - 1) 0) := by
  obtain ⟨k, rfl⟩ : ∃ k, m = k + 1 := ⟨m - 1, by omega⟩
  unfold u64s
  rw [List.map_append, List.set_append_right _ _ (by simp)]
  simp [List.replicate_succ]
theorem set_zero (L : List Nat) (m : Nat) (hm : 0 < m) : u64s (L ++ List.replicate m 0) = u64s ((L ++ [0]) ++ List.replicate (m - 1) 0) := by
  obtain ⟨k, rfl⟩ : ∃ k, m = k + 1 := ⟨m - 1, by omega⟩
  simp [u64s, List.replicate_succ]
set_option maxRecDepth 100000 in
set_option maxHeartbeats 8000000 in
theorem simnodes_is {g : Nat} {G : Gra} {F : List Nat} (h : GIn w g G F) {xa : Option Addr} {ins : List Nat} (xc : Nat) (hS : Sv w xa (u64s ins)) (hi : (inputs G.nodes).length = ins.length) (hlt : ∀ v ∈ ins, v < 2 ^ 64) (hcap : ins.length ≤ xc) (hxc : xc ≤ 9223372036854775807) :
    Calls Tryz.prog 138 #[.pointer (some ⟨g, 0, none⟩), .slice xa ins.length xc] w fun e w' => e = .returned (.slice (some ⟨w.heap.size, 0, none⟩) G.nodes.length G.nodes.length) ∧ blk w' w.heap.size (u64s (wvF U64 ins G.nodes).1) ∧ Ch [] w w' := by
  have hok := h.ok
  have hroom := hok.room
  have hmost := hok.most
  obtain ⟨N, hN⟩ : ∃ N, N = G.nodes.length := ⟨_, rfl⟩
  have hN0 : N ≤ 65536 := by omega
  have hLen := Len_g h
  rw [← hN] at hLen ⊢
  have hE0 : wvF U64 ins (G.nodes.take 0) = ([], ins) := rfl
  have hEn : wvF U64 ins (G.nodes.take N) = wvF U64 ins G.nodes := by rw [List.take_of_length_le (by omega)]
  have hEs : ∀ (k : Nat) (x : Nd), G.nodes[k]? = some x → wvF U64 ins (G.nodes.take (k + 1)) = wvStep U64 (wvF U64 ins (G.nodes.take k)) x := fun k x hx => by
    rw [List.take_add_one, hx]; exact wvF_snoc _ _ _ _
  have hEl : ∀ k, k ≤ N → (wvF U64 ins (G.nodes.take k)).1.length = k := fun k hk => by rw [wvF_len, List.length_take]; omega
  have hEb := fun k => wvF_lt (N := 64) hlt (G.nodes.take k)
  rw [u64_pow] at hEb
  have hE2 : ∀ (k : Nat) (x : Nd), G.nodes[k]? = some x → x.k = 2 → 0 < (wvF U64 ins (G.nodes.take k)).2.length := fun k x hx hk2 => by
    have h1 := (wvF_bits (N := 64) (k := 0) (by omega) ins (G.nodes.take k)).2
    rw [u64_pow] at h1
    rw [h1, nv_count, List.length_drop]
    have hsp := split_at hx
    have h2 : (inputs (G.nodes.take (k + 1))).length = (inputs (G.nodes.take k)).length + 1 := by
      rw [List.take_add_one, hx]
      rw [show (some x).toList = [x] from rfl, inputs_input hk2, List.length_append]; rfl
    have h3 : (inputs (G.nodes.take (k + 1))).length ≤ (inputs G.nodes).length := by
      rw [← nv_count (fun _ => false), ← nv_count (fun _ => false)]
      have : ∀ (ms ns : List Nd), (nv (fun _ => false) ns).2 ≤ (nv (fun _ => false) (ns ++ ms)).2 := by
        intro ms
        induction ms with
        | nil => intro ns; simp
        | cons y ms ih =>
          intro ns
          rw [List.append_cons]
          refine Nat.le_trans ?_ (ih (ns ++ [y]))
          rw [nv_snoc]; unfold nvStep
          (repeat' split) <;> simp
      conv => rhs; rw [← List.take_append_drop (k + 1) G.nodes]
      exact this _ _
    omega
  obtain ⟨E, hE⟩ : ∃ E : Nat → List Nat × List Nat, E = fun k => wvF U64 ins (G.nodes.take k) := ⟨_, rfl⟩
  have hEk : ∀ k, wvF U64 ins (G.nodes.take k) = E k := fun k => by rw [hE]
  simp only [hEk] at hE0 hEn hEs hEl hEb hE2
  rw [← hEn]
  clear hE hEk hEn
  have hmk := run_make_u64s w N (by omega)
  have hnt : ∀ (k : Nat) (x : Nd), G.nodes[k]? = some x → kindOf G.nodes (2 * (k : Int)) = x.k ∧ lOf G.nodes (2 * (k : Int)) = x.l ∧ rOf G.nodes (2 * (k : Int)) = x.r ∧ isAndAt G.nodes (2 * (k : Int)) = (x.k == 3) ∧ x.k ≤ 3 := fun k x hx => by
    obtain ⟨a1, a2, a3, a4⟩ := node_tells hok hx
    have a5 := isAnd_at hok hx
    rw [show ((2 * k : Nat) : Int) = 2 * (k : Int) by omega] at a1 a2 a3 a5
    exact ⟨a1, a2, a3, a5, a4⟩
  have hwf := hok.wf
  have HWF := Lib.hid hwf; clear hwf
  have HNT := Lib.hid hnt; clear hnt
  have H := Lib.hid h; clear h
  have HS := Lib.hid hS; clear hS
  have HE0 := Lib.hid hE0; clear hE0
  have HES := Lib.hid hEs; clear hEs
  have HEL := Lib.hid hEl; clear hEl
  have HEB := Lib.hid hEb; clear hEb
  have HE2 := Lib.hid hE2; clear hE2
  have HN := Lib.hid hN; clear hN hi hlt
  have hcf : ∀ args w, (callFunc 176 args).run Tryz.prog w = .ok (.enter 176 args) w := fnvsimof1
  go_enter Tryz.func138, Tryz.ntmps138
  go_wp2_with fail
  refine hLen.mono ?_
  rintro e w' ⟨rfl, rfl⟩
  go_upto_region 2 with fail
  refine wp_alw ?_
  intro W1 hW1
  have hbo : blk W1 w.heap.size (u64s (List.replicate N 0)) := by rw [hW1]; exact blk.new' _ _ rfl
  have hc1 : Ch [] w W1 := by rw [hW1]; exact (Ch.refl _ _).alloc _
  have hz1 : W1.heap.size = w.heap.size + 1 := by rw [hW1]; simp
  clear hW1 hmk hLen
  have hOf := simof_is (w := W1) (some ⟨w.heap.size, 0, none⟩) N N
  have HOF := Lib.hid hOf; clear hOf
  have HBO := Lib.hid hbo; clear hbo
  have HC1 := Lib.hid hc1; clear hc1
  go_wp2_with fail
  refine HOF.out.mono ?_
  rintro e W2 ⟨rfl, hW2⟩
  have hbx := alw_blk (xs := [.slice (some ⟨w.heap.size, 0, none⟩) N N]) hW2
  have hc2 := HC1.out.trans (alw_ch hW2) (by simp)
  have hbo := HBO.out.ch (alw_ch hW2) (by simp)
  clear hW2 HBO HC1 HOF
  rw [hz1] at hbx
  simp only [hz1]
  clear hz1
  have HBX := Lib.hid hbx; clear hbx
  have HBO := Lib.hid hbo; clear hbo
  have HC2 := Lib.hid hc2; clear hc2
  go_wp2_with fail
  go_loopw [1, 19] (fun u i wr => ∃ (k : Nat) (xk : Option Addr) (ck : Nat), k ≤ N ∧ i = .int .i64 k ∧ u = .slice xk (E k).2.length ck ∧ (E k).2.length ≤ ck ∧ ck ≤ 9223372036854775807 ∧ Sv wr xk (u64s (E k).2) ∧ blk wr w.heap.size (u64s ((E k).1 ++ List.replicate (N - k) 0)) ∧ blk wr (w.heap.size + 1) [.slice (some ⟨w.heap.size, 0, none⟩) N N] ∧ Ch [] w wr ∧ (∀ p, xk = some p → 0 < (E k).2.length → p.block < w.heap.size)) (fun _ i _ => N - (intOf i).toNat)
  case atStart =>
    refine ⟨0, xa, xc, by omega, rfl, by rw [HE0.out], by rw [HE0.out]; exact hcap, hxc, by rw [HE0.out]; exact HS.out.ch HC2.out (by simp), by rw [HE0.out]; exact HBO.out, HBX.out, HC2.out, fun p hp h0 => ?_⟩
    rw [HE0.out] at h0
    obtain ⟨b, o, e, hc⟩ := HS.out.cells 0 _ (List.getElem?_eq_getElem (show 0 < (u64s ins).length by simpa [u64s] using h0))
    rw [hp] at e; cases e
    exact cell_lt hc
  case round =>
    clear HBX HBO HC2
    obtain ⟨k, xk, ck, hk, rfl, rfl, hck, hck2, hsv, hbo, hbx, hc, hlo⟩ := hrel
    by_cases hkn : k < N
    · obtain ⟨x, hx⟩ : ∃ x, G.nodes[k]? = some x := ⟨_, List.getElem?_eq_getElem (by rw [← HN.out]; exact hkn)⟩
      obtain ⟨t1, t2, t3, t4, t5⟩ := HNT.out k x hx
      have hes := HES.out k x hx
      have hel := HEL.out k hk
      have heb := HEB.out k
      have he2 := HE2.out k x hx
      have hsides : x.k = 3 → x.l < 2 * k ∧ x.r < 2 * k := fun e => by have := HWF.out.sides hx e; omega
      have hg := H.out.same hc (by simp)
      have hSd := Sides_g hg (2 * (k : Int)) (by omega)
      rw [t2, t3, t4] at hSd
      generalize hEE : E (k + 1) = EN at hes
      generalize E k = ES at hes hel heb he2 hck hsv hbo hlo ⊢
      obtain ⟨L, I⟩ := ES
      simp only at hel heb he2 hck hsv hbo hlo ⊢
      unfold wvStep at hes
      have HSD := Lib.hid hSd; clear hSd
      have HG := Lib.hid hg; clear hg
      have HSV := Lib.hid hsv; clear hsv
      have HLO := Lib.hid hlo; clear hlo
      have HBO := Lib.hid hbo; clear hbo
      have HBX := Lib.hid hbx; clear hbx
      have HEL' := Lib.hid hel; clear hel
      have HEB' := Lib.hid heb; clear heb
      have HC := Lib.hid hc; clear hc
      by_cases h3 : x.k = 3
      · rw [if_pos h3] at hes
        subst hes
        obtain ⟨hl, hr⟩ := hsides h3
        have h33 : (x.k == 3) = true := by rw [h3]; rfl
        rw [h33] at HSD
        have HEE := Lib.hid hEE; clear hEE
        clear t1 t2 t3 t4 t5 h3 h33 he2 hsides hx
        generalize x.l = a at *
        generalize x.r = b at *
        go_wp2_with fail
        refine HSD.out.mono ?_
        rintro e w3 ⟨rfl, hc3⟩
        have hbo := HBO.out.ch hc3 (by simp)
        have hbx := HBX.out.ch hc3 (by simp)
        have hlen : (L ++ List.replicate (N - k) 0).length = N := by rw [List.length_append, List.length_replicate, HEL'.out]; omega
        have hbd : ∀ v ∈ L ++ List.replicate (N - k) 0, v < 2 ^ 64 := fun v hv => by
          rcases List.mem_append.1 hv with hv | hv
          · exact HEB'.out.1 v hv
          · rw [(List.mem_replicate.1 hv).2]; omega
        have hA := simof1_is (hbx.cell (i := 0) rfl) hbo hlen hbd a (by omega) (by omega)
        have hB := simof1_is (hbx.cell (i := 0) rfl) hbo hlen hbd b (by omega) (by omega)
        rw [wref_ext (by rw [HEL'.out]; exact hl)] at hA
        rw [wref_ext (by rw [HEL'.out]; exact hr)] at hB
        have hwa := wref_lt (N := 64) HEB'.out.1 a
        have hwb := wref_lt (N := 64) HEB'.out.1 b
        rw [u64_pow] at hwa hwb
        have hand := bits_and_u64_nat (wref U64 L a) (wref U64 L b) hwa hwb
        generalize hva : wref U64 L a = va at *
        generalize hvb : wref U64 L b = vb at *
        have f0 := hbo.frozen (i := k)
        obtain ⟨old, c0⟩ : ∃ old, w3.cell? ⟨w.heap.size, k, none⟩ = some old := ⟨_, hbo.cell (List.getElem?_eq_getElem (show k < (u64s (L ++ List.replicate (N - k) 0)).length by rw [u64s_len, hlen]; exact hkn))⟩
        have hlt0 := hbo.lt
        have HA := Lib.hid hA; clear hA
        have HB := Lib.hid hB; clear hB
        have HBO3 := Lib.hid hbo; clear hbo HBO
        have HBX3 := Lib.hid hbx; clear hbx HBX
        have HC3 := Lib.hid (HC.out.trans hc3 (by simp)); clear HC HSD
        have HC13 := Lib.hid hc3; clear hc3
        clear hva hvb hwa hwb hlen hbd
        go_wp2_with fail
        refine HA.out.mono ?_
        rintro e w' ⟨rfl, rfl⟩
        go_wp2_with fail
        refine HB.out.mono ?_
        rintro e w' ⟨rfl, rfl⟩
        go_wp2_with fail
        go_roundw
        case rel =>
          have hcs : Ch [w.heap.size] w3 (w3.setCell ⟨w.heap.size, k, none⟩ (.int .u64 (va &&& vb : Nat))) := (Ch.refl _ _).setCell (.inl (by simp)) _
          have hset := HBO3.out.set (i := k) (.int .u64 (va &&& vb : Nat))
          rw [show k = L.length from HEL'.out.symm, set_mid L (N - L.length) _ (by rw [HEL'.out]; omega), HEL'.out] at hset
          exact ⟨k + 1, xk, ck, by omega, by go_num, by rw [HEE.out], by rw [HEE.out]; exact hck, hck2, by rw [HEE.out]; exact (HSV.out.ch HC13.out (by simp)).ch2 hcs (fun h0 p hp hin => by rw [u64s_len] at h0; have := HLO.out p hp h0; have := List.mem_singleton.1 hin; omega), by rw [HEE.out, show N - (k + 1) = N - k - 1 by omega]; exact hset, HBX3.out.ch hcs (by simp), HC3.out.trans hcs (fun q hq => .inr (by have := List.mem_singleton.1 hq; omega)), fun p hp h0 => HLO.out p hp (by rw [HEE.out] at h0; exact h0)⟩
        case measure => simp [intOf]; omega
      · rw [if_neg h3] at hes
        have h33 : (x.k == 3) = false := by rw [beq_eq_false_iff_ne]; exact h3
        rw [h33] at HSD
        have hKd := fun (W : World) (hW : Ch [] wr W) => Kind_g (HG.out.same hW (by simp)) (2 * (k : Int)) (by omega)
        rw [t1] at hKd
        have HKD := Lib.hid hKd; clear hKd
        by_cases h2 : x.k = 2
        · rw [if_pos h2] at hes
          subst hes
          have hI := he2 h2
          rw [h2] at HKD
          have HEE := Lib.hid hEE; clear hEE
          clear t1 t2 t3 t4 t5 h3 h33 he2 hsides hx h2
          obtain ⟨v0, I', rfl⟩ : ∃ v0 I', I = v0 :: I' := by
            cases I with
            | nil => simp at hI
            | cons a l => exact ⟨a, l, rfl⟩
          obtain ⟨xb, xo, rfl, hcx⟩ := HSV.out.cells 0 (.int .u64 v0) rfl
          have hv0 := HEB'.out.2 v0 (List.mem_cons_self ..)
          have hxlo := HLO.out _ rfl hI
          simp only [List.length_cons] at hck hI
          go_wp2_with fail
          refine HSD.out.mono ?_
          rintro e w3 ⟨rfl, hc3⟩
          have hKd := HKD.out w3 hc3
          have HC13 := Lib.hid hc3; clear hc3 HSD
          have HKD3 := Lib.hid hKd; clear hKd HKD
          go_wp2_with fail
          refine HKD3.out.mono ?_
          rintro e w' ⟨rfl, rfl⟩
          have hbo := HBO.out.ch HC13.out (by simp)
          have hbx := HBX.out.ch HC13.out (by simp)
          have hlen : (L ++ List.replicate (N - k) 0).length = N := by rw [List.length_append, List.length_replicate, HEL'.out]; omega
          have c0 := (HC13.out.cell (cell_lt hcx) (by simp)).trans hcx
          rw [Nat.add_zero] at c0
          have f0 := hbo.frozen (i := k)
          obtain ⟨old, d0⟩ : ∃ old, w3.cell? ⟨w.heap.size, k, none⟩ = some old := ⟨_, hbo.cell (List.getElem?_eq_getElem (show k < (u64s (L ++ List.replicate (N - k) 0)).length by rw [u64s_len, hlen]; exact hkn))⟩
          have hlt0 := hbo.lt
          have HBO3 := Lib.hid hbo; clear hbo HBO
          have HBX3 := Lib.hid hbx; clear hbx HBX
          have HC3 := Lib.hid (HC.out.trans HC13.out (by simp)); clear HC
          clear hlen hcx
          by_cases hc1 : ck = 1
          · subst hc1
            have hI0 : I'.length = 0 := by omega
            obtain rfl : I' = [] := List.eq_nil_of_length_eq_zero hI0
            clear hI0
            go_wp2_with fail
            refine Ord.St.door (fun _ => True) [.fl, .fl, .fl, .fl, .rd, .fl, .fl, .fl, .ef, .fl] [0, 0, 0, 4, 12, 0, 32, 31, 159, 511] [0, 1, 2, 3, 4, 5, 6, 7, 8, 9] mixed (by kernel_rfl) rfl ?_
            refine Ord.St.fl2 (T' := ?_) 0 [1, 2, 3, 4, 5, 6, 7, 8, 9] _ _ rfl (by kernel_rfl) rfl rfl rfl rfl (fun K w' hk => ?_) ?_
            rotate_left
            · go_step; exact hk
            refine Ord.St.fl2 (T' := ?_) 1 [2, 3, 4, 5, 6, 7, 8, 9] _ _ rfl (by kernel_rfl) rfl rfl rfl rfl (fun K w' hk => ?_) ?_
            rotate_left
            · go_step; exact hk
            refine Ord.St.fl2 (T' := ?_) 2 [3, 4, 5, 6, 7, 8, 9] _ _ rfl (by kernel_rfl) rfl rfl rfl rfl (fun K w' hk => ?_) ?_
            rotate_left
            · go_step; exact hk
            refine Ord.St.fl2 (T' := ?_) 3 [4, 5, 6, 7, 8, 9] _ _ rfl (by kernel_rfl) rfl rfl rfl rfl (fun K w' hk => ?_) ?_
            rotate_left
            · go_step; exact hk
            refine Ord.St.rd2 (T' := ?_) 4 [5, 6, 7, 8, 9] _ _ rfl (by kernel_rfl) rfl rfl rfl rfl (fun K hk => ?_) ?_
            rotate_left
            · go_step; exact hk
            refine Ord.St.fl2 (T' := ?_) 5 [6, 7, 8, 9] _ _ rfl (by kernel_rfl) rfl rfl rfl rfl (fun K w' hk => ?_) ?_
            rotate_left
            · go_step; exact hk
            refine Ord.St.fl2 (T' := ?_) 6 [7, 8, 9] _ _ rfl (by kernel_rfl) rfl rfl rfl rfl (fun K w' hk => ?_) ?_
            rotate_left
            · go_step; exact hk
            refine Ord.St.fl2 (T' := ?_) 7 [8, 9] _ _ rfl (by kernel_rfl) rfl rfl rfl rfl (fun K w' hk => ?_) ?_
            rotate_left
            · go_step; exact hk
            refine Ord.St.ef 8 [9] _ rfl (by kernel_rfl) (fun K hK => ?_)
            go_wp2_with fail
            refine ⟨rfl, hK _ _ ?_⟩; clear hK K
            refine Ord.St.fl2 (T' := ?_) 9 [] _ _ rfl (by kernel_rfl) rfl rfl rfl rfl (fun K w' hk => ?_) ?_
            rotate_left
            · go_step; exact hk
            refine Ord.St.nil ?_
            go_wp2_with fail
            go_roundw
            case rel =>
              have hcd : Ch [] w3 w3.drew := (Ch.refl [] w3).drew
              have hcs : Ch [w.heap.size] w3.drew (w3.drew.setCell ⟨w.heap.size, k, none⟩ (.int .u64 v0)) := (Ch.refl _ _).setCell (.inl (by simp)) _
              have hset := (HBO3.out.ch hcd (by simp)).set (i := k) (.int .u64 v0)
              rw [show k = L.length from HEL'.out.symm, set_mid L (N - L.length) _ (by rw [HEL'.out]; omega), HEL'.out] at hset
              have hsv := ((HSV.out.ch HC13.out (by simp)).ch hcd (by simp)).ch2 hcs (fun _ p hp hin => by cases hp; have := List.mem_singleton.1 hin; simp only at hxlo this; omega)
              have hsv2 : Sv (w3.drew.setCell ⟨w.heap.size, k, none⟩ (.int .u64 v0)) (some ⟨xb, xo, none⟩) (u64s []) := ⟨by simp [u64s], by simp [u64s]⟩
              exact ⟨k + 1, some ⟨xb, xo, none⟩, 0, by omega, by go_num, by rw [HEE.out]; rfl, by rw [HEE.out]; show ([] : List Nat).length ≤ 0; simp, by omega, by rw [HEE.out]; exact hsv2, by rw [HEE.out, show N - (k + 1) = N - k - 1 by omega]; exact hset, (HBX3.out.ch hcd (by simp)).ch hcs (by simp), (HC3.out.trans hcd (by simp)).trans hcs (fun q hq => .inr (by have := List.mem_singleton.1 hq; omega)), fun p hp h0 => by rw [HEE.out] at h0; simp at h0⟩
            case measure => simp [intOf]; omega
          · have hck1 : 1 < ck := by omega
            have hcki : (ck : Int) - 1 = ((ck - 1 : Nat) : Int) := by omega
            go_wp2_with fail
            refine Ord.St.door (fun _ => True) [.fl, .fl, .fl, .fl, .rd, .fl, .fl, .fl, .ef, .fl] [0, 0, 0, 4, 12, 0, 32, 31, 159, 511] [0, 1, 2, 3, 4, 5, 6, 7, 8, 9] mixed (by kernel_rfl) rfl ?_
            refine Ord.St.fl2 (T' := ?_) 0 [1, 2, 3, 4, 5, 6, 7, 8, 9] _ _ rfl (by kernel_rfl) rfl rfl rfl rfl (fun K w' hk => ?_) ?_
            rotate_left
            · go_step; exact hk
            refine Ord.St.fl2 (T' := ?_) 1 [2, 3, 4, 5, 6, 7, 8, 9] _ _ rfl (by kernel_rfl) rfl rfl rfl rfl (fun K w' hk => ?_) ?_
            rotate_left
            · go_step; exact hk
            refine Ord.St.fl2 (T' := ?_) 2 [3, 4, 5, 6, 7, 8, 9] _ _ rfl (by kernel_rfl) rfl rfl rfl rfl (fun K w' hk => ?_) ?_
            rotate_left
            · go_step; exact hk
            refine Ord.St.fl2 (T' := ?_) 3 [4, 5, 6, 7, 8, 9] _ _ rfl (by kernel_rfl) rfl rfl rfl rfl (fun K w' hk => ?_) ?_
            rotate_left
            · go_step; exact hk
            refine Ord.St.rd2 (T' := ?_) 4 [5, 6, 7, 8, 9] _ _ rfl (by kernel_rfl) rfl rfl rfl rfl (fun K hk => ?_) ?_
            rotate_left
            · go_step; exact hk
            refine Ord.St.fl2 (T' := ?_) 5 [6, 7, 8, 9] _ _ rfl (by kernel_rfl) rfl rfl rfl rfl (fun K w' hk => ?_) ?_
            rotate_left
            · go_step; exact hk
            refine Ord.St.fl2 (T' := ?_) 6 [7, 8, 9] _ _ rfl (by kernel_rfl) rfl rfl rfl rfl (fun K w' hk => ?_) ?_
            rotate_left
            · go_step; exact hk
            refine Ord.St.fl2 (T' := ?_) 7 [8, 9] _ _ rfl (by kernel_rfl) rfl rfl rfl rfl (fun K w' hk => ?_) ?_
            rotate_left
            · go_step; exact hk
            refine Ord.St.ef 8 [9] _ rfl (by kernel_rfl) (fun K hK => ?_)
            go_wp2_with fail
            refine ⟨rfl, hK _ _ ?_⟩; clear hK K
            refine Ord.St.fl2 (T' := ?_) 9 [] _ _ rfl (by kernel_rfl) rfl rfl rfl rfl (fun K w' hk => ?_) ?_
            rotate_left
            · go_step; exact hk
            refine Ord.St.nil ?_
            go_wp2_with fail
            go_roundw
            case rel =>
              have hcd : Ch [] w3 w3.drew := (Ch.refl [] w3).drew
              have hcs : Ch [w.heap.size] w3.drew (w3.drew.setCell ⟨w.heap.size, k, none⟩ (.int .u64 v0)) := (Ch.refl _ _).setCell (.inl (by simp)) _
              have hset := (HBO3.out.ch hcd (by simp)).set (i := k) (.int .u64 v0)
              rw [show k = L.length from HEL'.out.symm, set_mid L (N - L.length) _ (by rw [HEL'.out]; omega), HEL'.out] at hset
              have hsv := ((HSV.out.ch HC13.out (by simp)).ch hcd (by simp)).ch2 hcs (fun _ p hp hin => by cases hp; have := List.mem_singleton.1 hin; simp only at hxlo this; omega)
              have hsv2 : Sv (w3.drew.setCell ⟨w.heap.size, k, none⟩ (.int .u64 v0)) (some ⟨xb, xo + 1, none⟩) (u64s I') := ⟨fun i x hx => by
                obtain ⟨b9, o9, e9, hc9⟩ := hsv.cells (i + 1) x (by simpa [u64s] using hx)
                cases e9
                exact ⟨_, _, rfl, by rw [show xo + 1 + i = xo + (i + 1) by omega]; exact hc9⟩, by have := hsv.bd; simp [u64s] at this ⊢; omega⟩
              exact ⟨k + 1, some ⟨xb, xo + 1, none⟩, ck - 1, by omega, by go_num, by rw [HEE.out]; rfl, by rw [HEE.out]; show I'.length ≤ _; omega, by omega, by rw [HEE.out]; exact hsv2, by rw [HEE.out, show N - (k + 1) = N - k - 1 by omega]; exact hset, (HBX3.out.ch hcd (by simp)).ch hcs (by simp), (HC3.out.trans hcd (by simp)).trans hcs (fun q hq => .inr (by have := List.mem_singleton.1 hq; omega)), fun p hp h0 => by cases hp; exact hxlo⟩
            case measure => simp [intOf]; omega
        · rw [if_neg h2] at hes
          subst hes
          have h22 : ((x.k : Int) == 2) = false := by rw [beq_eq_false_iff_ne]; omega
          have HEE := Lib.hid hEE; clear hEE
          clear t1 t2 t3 t4 h3 h33 he2 hsides hx h2
          generalize x.k = xkk at *
          go_wp2_with fail
          refine HSD.out.mono ?_
          rintro e w3 ⟨rfl, hc3⟩
          have hKd := HKD.out w3 hc3
          have HC13 := Lib.hid hc3; clear hc3 HSD
          have HKD3 := Lib.hid hKd; clear hKd HKD
          go_wp2_with fail
          refine HKD3.out.mono ?_
          rintro e w' ⟨rfl, rfl⟩
          go_wp2_with fail
          go_roundw
          case rel =>
            have hset := HBO.out.ch HC13.out (by simp)
            rw [show N - k = N - L.length by rw [HEL'.out], set_zero L (N - L.length) (by rw [HEL'.out]; omega), HEL'.out] at hset
            exact ⟨k + 1, xk, ck, by omega, by go_num, by rw [HEE.out], by rw [HEE.out]; exact hck, hck2, by rw [HEE.out]; exact HSV.out.ch HC13.out (by simp), by rw [HEE.out, show N - (k + 1) = N - k - 1 by omega]; exact hset, HBX.out.ch HC13.out (by simp), HC.out.trans HC13.out (by simp), fun p hp h0 => HLO.out p hp (by rw [HEE.out] at h0; exact h0)⟩
          case measure => simp [intOf]; omega
    · have hkN : k = N := by omega
      have hbo2 : blk wr w.heap.size (u64s (E N).1) := by
        have := hbo
        rw [hkN, Nat.sub_self, List.replicate_zero, List.append_nil] at this
        exact this
      have HBO2 := Lib.hid hbo2; clear hbo2 hbo hbx hsv hlo
      have HC := Lib.hid hc; clear hc
      go_wp2_with fail
      go_ret
      exact ⟨rfl, HBO2.out, HC.out⟩
end
end Go.Proofs.YtdmmanfjafempaaGreat
namespace Go.Aig
/-- what a word of references is, for words of the inputs -/
def wsOf (ins : List Nat) (ns : List Nd) (l : List Nat) : List Nat := l.map (wref 18446744073709551615 (wvF 18446744073709551615 ins ns).1)
/-- what a word of references is, for an assignment -/
def bsOf (ins : List Bool) (ns : List Nd) (l : List Nat) : List Bool := l.map (bv (fun i => ins.getD i false) ns)
def wOf (l : List Bool) : List Nat := l.map fun b => if b then 1 else 0
theorem wOf_bit (l : List Bool) : (fun i => ((wOf l).getD i 0).testBit 0) = fun i => l.getD i false := by
  funext i
  unfold wOf
  rw [List.getD_eq_getElem?_getD, List.getD_eq_getElem?_getD, List.getElem?_map]
  cases l[i]? with
  | none => rfl
  | some b => cases b <;> rfl
theorem wsOf_bits (ins : List Bool) (ns : List Nd) (l : List Nat) : (wsOf (wOf ins) ns l).map (fun v => v.testBit 0) = bsOf ins ns l := by
  unfold wsOf bsOf
  rw [List.map_map]
  apply List.map_congr_left
  intro r _
  have := wv_bv (N := 64) (k := 0) (by omega) (wOf ins) ns r
  rw [wOf_bit] at this
  exact this
theorem wOf_lt (l : List Bool) : ∀ v ∈ wOf l, v < 2 ^ 64 := fun v hv => by
  obtain ⟨b, _, rfl⟩ := List.mem_map.1 hv
  cases b <;> decide
theorem wsOf_lt {ins : List Nat} (h : ∀ v ∈ ins, v < 2 ^ 64) (ns : List Nd) (l : List Nat) : ∀ v ∈ wsOf ins ns l, v < 2 ^ 64 := fun v hv => by
  obtain ⟨r, _, rfl⟩ := List.mem_map.1 hv
  exact wref_lt (N := 64) (wvF_lt (N := 64) h ns).1 r
end Go.Aig
namespace Go.Proofs.YtdmmanfjafempaaGreat
open Go.RowKit Go.Mem Go.Aig
section
variable {w : World} {g : Nat} {G : Gra} {F : List Nat}
theorem fnvsimcheck1 : Fnv 175 := fnv_of Tryz.func175 (by simp [Tryz.f175]) (by simp [Tryz.f175])
set_option maxRecDepth 100000 in
set_option maxHeartbeats 1000000 in
theorem simcheck1_is (h : GIn w g G F) {bx : Nat} (hb : w.cell? ⟨bx, 0, none⟩ = some (.pointer (some ⟨g, 0, none⟩))) (r : Int) (hr : r ≤ 9223372036854775807) :
    Calls Tryz.prog 175 (#[.int .i64 r] ++ #[.pointer (some ⟨bx, 0, none⟩)]) w fun e w' => e = .returned (.bool (!right G.nodes r)) ∧ w = w' := by
  show Calls Tryz.prog 175 #[.int .i64 r, .pointer (some ⟨bx, 0, none⟩)] w _
  have HR := Right_g h r hr
  clear h
  generalize right G.nodes r = q at *
  go_enter Tryz.func175, Tryz.ntmps175
  go_wp2_with fail
  refine HR.mono ?_
  rintro e w' ⟨rfl, rfl⟩
  go_wp2_with fail
  go_ret
  exact ⟨ret_bool rfl, rfl⟩
set_option maxRecDepth 100000 in
set_option maxHeartbeats 2000000 in
theorem simcheck_is (h : GIn w g G F) {a : Option Addr} {l : List Int} (n c : Nat) (hn : l.length = n) (hS : Sl w a l) (hbd : ∀ r ∈ l, r ≤ 9223372036854775807) :
    Calls Tryz.prog 136 #[.pointer (some ⟨g, 0, none⟩), .slice a n c] w fun e w' => e = .returned (.int .i64 (if badIn G l then 200 else 0 : Nat)) ∧ Ch [] w w' := by
  subst hn
  have hpos := h.ok.wf.pos
  have hp0 : ((G.nodes.length : Int) == 0) = false := beqN (by omega)
  have hC : ∀ W, W = w.alloc (.cells #[.pointer (some ⟨g, 0, none⟩)] 38) → Calls Tryz.prog 123 #[.slice a l.length c, .func (.func 175) #[] #[.pointer (some ⟨w.heap.size, 0, none⟩)]] W fun e w' => e = .returned (.bool (badIn G l)) ∧ W = w' := fun W hW => by
    have hc := alw_ch hW
    have hb := alw_blk (xs := [.pointer (some ⟨g, 0, none⟩)]) hW
    exact CFref_is c 175 #[.pointer (some ⟨w.heap.size, 0, none⟩)] (fun r => !right G.nodes r) (hS.ch hc (by simp)) (fun r hr => simcheck1_is (h.same hc (by simp)) (hb.cell (i := 0) rfl) r (hbd r hr)) fnvsimcheck1
  have hL : ∀ W, W = w.alloc (.cells #[.pointer (some ⟨g, 0, none⟩)] 38) → Calls Tryz.prog 75 #[.pointer (some ⟨g, 0, none⟩)] W fun e w' => e = .returned (.int .i64 G.nodes.length) ∧ W = w' := fun W hW => Len_g (h.same (alw_ch hW) (by simp))
  have hw : w.cell? ⟨w.heap.size, 0, none⟩ = none := by simp [World.cell?]
  have HC := Lib.hid hC; clear hC
  have HL := Lib.hid hL; clear hL hw
  clear h hS hbd
  cases hq : badIn G l
  · rw [hq] at HC
    have HQ := Lib.hid hq; clear hq
    go_enter Tryz.func136, Tryz.ntmps136
    go_wp2_with fail
    refine (HL.out _ rfl).mono ?_
    rintro e w' ⟨rfl, rfl⟩
    go_wp2_with fail
    refine (HC.out _ rfl).mono ?_
    rintro e w' ⟨rfl, rfl⟩
    go_wp2_with fail
    go_ret
    exact ⟨rfl, (Ch.refl _ _).alloc _⟩
  · rw [hq] at HC
    have HQ := Lib.hid hq; clear hq
    go_enter Tryz.func136, Tryz.ntmps136
    go_wp2_with fail
    refine (HL.out _ rfl).mono ?_
    rintro e w' ⟨rfl, rfl⟩
    go_wp2_with fail
    refine (HC.out _ rfl).mono ?_
    rintro e w' ⟨rfl, rfl⟩
    go_wp2_with fail
    go_ret
    exact ⟨rfl, (Ch.refl _ _).alloc _⟩
/-- what Words returns -/
def wordsR (G : Gra) (ins : List Nat) (l : List Int) : List Nat × Nat := if badIn G l then ([], 200) else if ins.length ≠ (inputs G.nodes).length then ([], 210) else (wsOf ins G.nodes (nats l), 0)
/-- a new slice of words -/
def UNew (w : World) (v : Value) (l : List Nat) (w' : World) : Prop := row w' 134 1 v l.length (u64s l) ∧ (∀ q ∈ v.ownBlock.toList, w.heap.size ≤ q) ∧ Ch [] w w'
set_option maxRecDepth 100000 in
set_option maxHeartbeats 8000000 in
theorem simWords_is (h : GIn w g G F) {xa : Option Addr} {ins : List Nat} (xc : Nat) (hS : Sv w xa (u64s ins)) (hlt : ∀ v ∈ ins, v < 2 ^ 64) (hcap : ins.length ≤ xc) (hxc : xc ≤ 9223372036854775807) {a : Option Addr} {l : List Int} (c : Nat) (hL : Sl w a l) (hbd : ∀ r ∈ l, -9223372036854775808 ≤ r ∧ r ≤ 9223372036854775807) (hll : l.length ≤ 100000) :
    Calls Tryz.prog 91 #[.pointer (some ⟨g, 0, none⟩), .slice xa ins.length xc, .slice a l.length c] w fun e w' => ∃ v, e = .returned (.tuple #[v, .int .i64 (wordsR G ins l).2]) ∧ UNew w v (wordsR G ins l).1 w' := by
  have hpos := h.ok.wf.pos
  have hroom := h.ok.room
  have hmost := h.ok.most
  have hCk := simcheck_is h l.length c rfl hL (fun r hr => (hbd r hr).2)
  have hIn := fun (W : World) (hW : Ch [] w W) => Inputs_g (h.same hW (by simp))
  by_cases hb : badIn G l = true
  · have hR : wordsR G ins l = ([], 200) := by unfold wordsR; rw [if_pos hb]
    rw [hR]
    rw [if_pos hb] at hCk
    have HCK := Lib.hid hCk; clear hCk h hS hlt hL hbd hIn hb hR
    go_enter Tryz.func91, Tryz.ntmps91
    go_wp2_with fail
    refine HCK.out.mono ?_
    rintro e w1 ⟨rfl, hc1⟩
    have HC1 := Lib.hid hc1; clear hc1
    go_wp2_with fail
    go_ret2
    exact ⟨_, rfl, ⟨rfl, .inl ⟨rfl, rfl⟩⟩, by simp, HC1.out⟩
  · have hb2 : badIn G l = false := by simpa using hb
    rw [if_neg hb] at hCk
    obtain ⟨hnat, hnlt⟩ := badIn_no hb2
    by_cases hi : ins.length = (inputs G.nodes).length
    · have hR : wordsR G ins l = (wsOf ins G.nodes (nats l), 0) := by unfold wordsR; rw [if_neg hb, if_neg (by simp [hi])]
      rw [hR]
      have hNd := fun (W : World) (hW : Ch [] w W) => simnodes_is (h.same hW (by simp)) xc (hS.ch hW (by simp)) hi.symm hlt hcap hxc
      have hvl := wvF_len U64 ins G.nodes
      have hvb := (wvF_lt (N := 64) hlt G.nodes).1
      rw [u64_pow] at hvb
      unfold wsOf
      generalize hV : (wvF U64 ins G.nodes).1 = V at *
      clear hV
      have hie : ((ins.length : Int) != (inputs G.nodes).length) = false := by simp [hi]
      have HCK := Lib.hid hCk; clear hCk
      have HIN := Lib.hid hIn; clear hIn
      have HND := Lib.hid hNd; clear hNd
      have HVL := Lib.hid hvl; clear hvl
      have HVB := Lib.hid hvb; clear hvb
      have HL := Lib.hid hL; clear hL
      have HNL := Lib.hid hnlt; clear hnlt
      have HNT := Lib.hid hnat; clear hnat
      clear h hS hlt hbd hb hb2 hR hi
      generalize (inputs G.nodes).length = ni at *
      have hcf : ∀ args w, (callFunc 176 args).run Tryz.prog w = .ok (.enter 176 args) w := fnvsimof1
      go_enter Tryz.func91, Tryz.ntmps91
      go_wp2_with fail
      refine HCK.out.mono ?_
      rintro e w1 ⟨rfl, hc1⟩
      have hI1 := HIN.out w1 hc1
      have HI1 := Lib.hid hI1; clear hI1 HIN
      have HC1 := Lib.hid hc1; clear hc1
      go_wp2_with fail
      refine HI1.out.mono ?_
      rintro e w2 ⟨v, rfl, hro, _, hc2⟩
      obtain ⟨ia, ic, rfl⟩ := row.shape hro
      have hc12 := HC1.out.trans hc2 (by simp)
      have hN2 := HND.out w2 hc12
      have HN2 := Lib.hid hN2; clear hN2 HND hro hc2
      have HC2 := Lib.hid hc12; clear hc12 HI1 HC1
      go_wp2_with fail
      refine HN2.out.mono ?_
      rintro e w3 ⟨rfl, hbo, hc3⟩
      have hc13 := HC2.out.trans hc3 (by simp)
      have hz23 := HC2.out.size
      clear HN2
      generalize w2.heap.size = ob at *
      have hOf := simof_is (w := w3) (some ⟨ob, 0, none⟩) G.nodes.length G.nodes.length
      have HOF := Lib.hid hOf; clear hOf
      have HBO := Lib.hid hbo; clear hbo
      have HC3 := Lib.hid hc13; clear hc13 hc3 HC2
      go_wp2_with fail
      refine HOF.out.mono ?_
      rintro e w4 ⟨rfl, hw4⟩
      have hbx := alw_blk (xs := [.slice (some ⟨ob, 0, none⟩) G.nodes.length G.nodes.length]) hw4
      have hbo := HBO.out.ch (alw_ch hw4) (by simp)
      have hc4 := HC3.out.trans (alw_ch hw4) (by simp)
      have hz34 := HC3.out.size
      clear hw4 HOF HBO HC3
      generalize w3.heap.size = bx at *
      have HBX := Lib.hid hbx; clear hbx
      have HBO := Lib.hid hbo; clear hbo
      have HC4 := Lib.hid hc4; clear hc4
      go_wp2_with fail
      go_loopw [10, 31] (fun o i wr => ∃ k : Nat, k ≤ l.length ∧ i = .int .i64 k ∧ Ch [] w4 wr ∧ row wr 134 1 o k (u64s (((nats l).take k).map (wref U64 V))) ∧ ∀ q ∈ o.ownBlock.toList, w4.heap.size ≤ q) (fun _ i _ => l.length - (intOf i).toNat)
      case atStart => exact ⟨0, by omega, rfl, Ch.refl _ _, ⟨rfl, .inl ⟨rfl, rfl⟩⟩, by simp⟩
      case round =>
        obtain ⟨k, hk, rfl, hc, hrow, hlo⟩ := hrel
        obtain ⟨oa, oc, rfl⟩ := row.shape hrow
        by_cases hlt : k < l.length
        · obtain ⟨x, hx⟩ : ∃ x, (nats l)[k]? = some x := ⟨_, List.getElem?_eq_getElem (by rw [nats_len]; exact hlt)⟩
          have hxl := HNL.out x (List.mem_of_getElem? hx)
          have hlx : l[k]? = some (x : Int) := by rw [← HNT.out, List.getElem?_map, hx]; rfl
          obtain ⟨xb, xo, rfl, hcl⟩ := HL.out.cells k x hlx
          have c0 := ((HC4.out.trans hc (by simp)).cell (cell_lt hcl) (by simp)).trans hcl
          have hW := simof1_is ((HBX.out.ch hc (by simp)).cell (i := 0) rfl) (HBO.out.ch hc (by simp)) HVL.out HVB.out x hxl (by omega)
          have hsu : u64s (((nats l).take (k + 1)).map (wref U64 V)) = u64s (((nats l).take k).map (wref U64 V)) ++ [.int .u64 (wref U64 V x)] := by rw [List.take_add_one, hx]; simp [u64s]
          generalize wref U64 V x = vx at hW hsu
          have hcA : Ch [] wr (wr.alloc (.cells #[.int .u64 vx] 134)) := (Ch.refl _ _).alloc _
          have hrA := hrow.ch hcA (by simp)
          have hbA : blk (wr.alloc (.cells #[.int .u64 vx] 134)) wr.heap.size [.int .u64 vx] := blk.new' _ _ rfl
          have HW := Lib.hid hW; clear hW
          have HSU := Lib.hid hsu; clear hsu
          have HRA := Lib.hid hrA; clear hrA hrow
          have HBA := Lib.hid hbA; clear hbA
          have HCA := Lib.hid hcA; clear hcA
          have HCP := Lib.hid hc; clear hc
          have HLO := Lib.hid hlo; clear hlo hcl hlx hx
          go_wp2_with fail
          refine HW.out.mono ?_
          rintro e w' ⟨rfl, rfl⟩
          go_wp2_with (at_builtin; go_loud (refine wpList_append_row slU64s rfl _ _ rfl (v := .slice oa k oc) (n := k) (xs := u64s (((nats l).take k).map (wref U64 V))) rfl HRA.out (ad := ⟨wr.heap.size, 0, none⟩) (m := 1) (c := 1) (news := [.int .u64 vx]) rfl rfl (news_blk HBA.out) (by simp [Value.oneCell']) (by omega) (by omega) ?_; intro v' w5 hown4 hC4 hf4; have HO4 := Lib.hid hown4; clear hown4; have HCC4 := Lib.hid hC4; clear hC4; have HF4 := Lib.hid hf4; clear hf4))
          go_roundw
          case rel =>
            obtain ⟨q1, q2⟩ := app_step HCP.out HCA.out HLO.out HCC4.out HF4.out
            refine ⟨k + 1, by omega, by go_num, q1, ?_, q2⟩
            rw [HSU.out]; exact HO4.out
          case measure => simp [intOf]; omega
        · have hkn : k = l.length := by omega
          have hall : (nats l).take k = nats l := List.take_of_length_le (by rw [nats_len]; omega)
          rw [hall] at hrow
          rw [hkn] at hrow hlo
          rw [hkn]
          have HROW := Lib.hid hrow; clear hrow
          have HLO := Lib.hid hlo; clear hlo
          have HCP := Lib.hid hc; clear hc hall hkn
          go_wp2_with fail
          go_ret2
          refine ⟨.slice oa l.length oc, rfl, ?_, fun q hq => Nat.le_trans HC4.out.size (HLO.out q hq), HC4.out.trans HCP.out (by simp)⟩
          have := HROW.out
          simpa using this
    · have hR : wordsR G ins l = ([], 210) := by unfold wordsR; rw [if_neg hb, if_pos hi]
      rw [hR]
      have hie : ((ins.length : Int) != (inputs G.nodes).length) = true := by simp; omega
      have HCK := Lib.hid hCk; clear hCk
      have HIN := Lib.hid hIn; clear hIn
      clear h hS hlt hL hbd hb hb2 hR hi hnat hnlt
      generalize (inputs G.nodes).length = ni at *
      go_enter Tryz.func91, Tryz.ntmps91
      go_wp2_with fail
      refine HCK.out.mono ?_
      rintro e w1 ⟨rfl, hc1⟩
      have hI1 := HIN.out w1 hc1
      have HI1 := Lib.hid hI1; clear hI1 HIN
      have HC1 := Lib.hid hc1; clear hc1
      go_wp2_with fail
      refine HI1.out.mono ?_
      rintro e w2 ⟨v, rfl, hro, _, hc2⟩
      obtain ⟨ia, ic, rfl⟩ := row.shape hro
      have HC2 := Lib.hid (HC1.out.trans hc2 (by simp)); clear hc2 HI1 HC1 hro
      go_wp2_with fail
      go_ret2
      exact ⟨_, rfl, ⟨rfl, .inl ⟨rfl, rfl⟩⟩, by simp, HC2.out⟩
end
end Go.Proofs.YtdmmanfjafempaaGreat
namespace Go.Proofs.YtdmmanfjafempaaGreat
open Go.RowKit Go.Mem Go.Aig
theorem row.capLe' {w : World} {e : TypeId} {size : Nat} {a : Option Addr} {n c m : Nat} {xs : List Value} (h : row w e size (.slice a n c) m xs) : m ≤ c ∧ c ≤ 9223372036854775807 := by
  rcases h.2 with ⟨e1, h0⟩ | ⟨g', cap', cur, e1, _, _, h1, h2, _⟩
  · cases e1; omega
  · cases e1; exact ⟨h1, by unfold maxLen at h2; exact h2⟩
/-- what Bits returns -/
def bitsR (G : Gra) (ins : List Bool) (l : List Int) : List Bool × Nat := if badIn G l then ([], 200) else if ins.length ≠ (inputs G.nodes).length then ([], 210) else (bsOf ins G.nodes (nats l), 0)
theorem wOf_len (l : List Bool) : (wOf l).length = l.length := by simp [wOf]
theorem bitsR_words (G : Gra) (ins : List Bool) (l : List Int) : bitsR G ins l = ((wordsR G (wOf ins) l).1.map (fun v => v.testBit 0), (wordsR G (wOf ins) l).2) := by
  unfold bitsR wordsR
  rw [wOf_len]
  split
  · rfl
  · split
    · rfl
    · rw [wsOf_bits]
/-- a new slice of truths -/
def BNew (w : World) (v : Value) (l : List Bool) (w' : World) : Prop := row w' 4 1 v l.length (bools l) ∧ (∀ q ∈ v.ownBlock.toList, w.heap.size ≤ q) ∧ Ch [] w w'
section
variable {w : World} {g : Nat} {G : Gra} {F : List Nat}
set_option maxRecDepth 100000 in
set_option maxHeartbeats 8000000 in
theorem simBits_is (h : GIn w g G F) {xa : Option Addr} {ins : List Bool} (n xc : Nat) (hn : ins.length = n) (hS : Sb w xa ins) (hnl : n ≤ 100000) {a : Option Addr} {l : List Int} (m c : Nat) (hm : l.length = m) (hL : Sl w a l) (hbd : ∀ r ∈ l, -9223372036854775808 ≤ r ∧ r ≤ 9223372036854775807) (hll : m ≤ 100000) :
    Calls Tryz.prog 24 #[.pointer (some ⟨g, 0, none⟩), .slice xa n xc, .slice a m c] w fun e w' => ∃ v, e = .returned (.tuple #[v, .int .i64 (bitsR G ins l).2]) ∧ BNew w v (bitsR G ins l).1 w' := by
  subst hn hm
  have hW := fun (W : World) (hW : Ch [] w W) (wa : Option Addr) (wc : Nat) (hwa : row W 134 1 (.slice wa ins.length wc) ins.length (u64s (wOf ins))) => simWords_is (h.same hW (by simp)) (ins := wOf ins) (xa := wa) wc (row.sv hwa rfl (by omega)) (wOf_lt ins) (by rw [wOf_len]; exact (row.capLe' hwa).1) (row.capLe' hwa).2 c (hL.ch hW (by simp)) hbd hll
  simp only [wOf_len] at hW
  rw [bitsR_words]
  have hwl : (wordsR G (wOf ins) l).1.length ≤ l.length := by
    unfold wordsR
    split
    · simp
    · split
      · simp
      · simp [wsOf]
  have hwb : ∀ v ∈ (wordsR G (wOf ins) l).1, v < 2 ^ 64 := by
    unfold wordsR
    split
    · simp
    · split
      · simp
      · exact wsOf_lt (wOf_lt ins) _ _
  generalize wordsR G (wOf ins) l = R at *
  obtain ⟨ws, e0⟩ := R
  simp only at hwl hwb hW ⊢
  have HW := Lib.hid hW; clear hW
  have HS := Lib.hid hS; clear hS h hL hbd
  have HWB := Lib.hid hwb; clear hwb
  go_enter Tryz.func24, Tryz.ntmps24
  go_wp2_with fail
  go_loopw [8, 19] (fun o i wr => ∃ k : Nat, k ≤ ins.length ∧ i = .int .i64 k ∧ Ch [] w wr ∧ row wr 134 1 o k (u64s (wOf (ins.take k))) ∧ ∀ q ∈ o.ownBlock.toList, w.heap.size ≤ q) (fun _ i _ => ins.length - (intOf i).toNat)
  case atStart => exact ⟨0, by omega, rfl, Ch.refl _ _, ⟨rfl, .inl ⟨rfl, rfl⟩⟩, by simp⟩
  case round =>
    obtain ⟨k, hk, rfl, hc, hrow, hlo⟩ := hrel
    obtain ⟨oa, oc, rfl⟩ := row.shape hrow
    by_cases hlt : k < ins.length
    · obtain ⟨x, hx⟩ : ∃ x, ins[k]? = some x := ⟨_, List.getElem?_eq_getElem hlt⟩
      obtain ⟨xb, xo, rfl, hcl⟩ := HS.out.cells k (.bool x) (by simp [hx])
      have c0 := (hc.cell (cell_lt hcl) (by simp)).trans hcl
      cases x
      · have hsu : u64s (wOf (ins.take (k + 1))) = u64s (wOf (ins.take k)) ++ [.int .u64 0] := by rw [List.take_add_one, hx]; simp [u64s, wOf]
        have hcA : Ch [] wr (wr.alloc (.cells #[.int .u64 0] 134)) := (Ch.refl _ _).alloc _
        have hrA := hrow.ch hcA (by simp)
        have hbA : blk (wr.alloc (.cells #[.int .u64 0] 134)) wr.heap.size [.int .u64 0] := blk.new' _ _ rfl
        have HSU := Lib.hid hsu; clear hsu
        have HRA := Lib.hid hrA; clear hrA hrow
        have HBA := Lib.hid hbA; clear hbA
        have HCA := Lib.hid hcA; clear hcA
        have HCP := Lib.hid hc; clear hc
        have HLO := Lib.hid hlo; clear hlo hcl hx
        go_wp2_with (at_builtin; go_loud (refine wpList_append_row slU64s rfl _ _ rfl (v := .slice oa k oc) (n := k) (xs := u64s (wOf (ins.take k))) rfl HRA.out (ad := ⟨wr.heap.size, 0, none⟩) (m := 1) (c := 1) (news := [.int .u64 0]) rfl rfl (news_blk HBA.out) (by simp [Value.oneCell']) (by omega) (by omega) ?_; intro v' w5 hown4 hC4 hf4; have HO4 := Lib.hid hown4; clear hown4; have HCC4 := Lib.hid hC4; clear hC4; have HF4 := Lib.hid hf4; clear hf4))
        go_roundw
        case rel =>
          obtain ⟨q1, q2⟩ := app_step HCP.out HCA.out HLO.out HCC4.out HF4.out
          refine ⟨k + 1, by omega, by go_num, q1, ?_, q2⟩
          rw [HSU.out]; exact HO4.out
        case measure => simp [intOf]; omega
      · have hsu : u64s (wOf (ins.take (k + 1))) = u64s (wOf (ins.take k)) ++ [.int .u64 1] := by rw [List.take_add_one, hx]; simp [u64s, wOf]
        have hcA : Ch [] wr (wr.alloc (.cells #[.int .u64 1] 134)) := (Ch.refl _ _).alloc _
        have hrA := hrow.ch hcA (by simp)
        have hbA : blk (wr.alloc (.cells #[.int .u64 1] 134)) wr.heap.size [.int .u64 1] := blk.new' _ _ rfl
        have HSU := Lib.hid hsu; clear hsu
        have HRA := Lib.hid hrA; clear hrA hrow
        have HBA := Lib.hid hbA; clear hbA
        have HCA := Lib.hid hcA; clear hcA
        have HCP := Lib.hid hc; clear hc
        have HLO := Lib.hid hlo; clear hlo hcl hx
        go_wp2_with (at_builtin; go_loud (refine wpList_append_row slU64s rfl _ _ rfl (v := .slice oa k oc) (n := k) (xs := u64s (wOf (ins.take k))) rfl HRA.out (ad := ⟨wr.heap.size, 0, none⟩) (m := 1) (c := 1) (news := [.int .u64 1]) rfl rfl (news_blk HBA.out) (by simp [Value.oneCell']) (by omega) (by omega) ?_; intro v' w5 hown4 hC4 hf4; have HO4 := Lib.hid hown4; clear hown4; have HCC4 := Lib.hid hC4; clear hC4; have HF4 := Lib.hid hf4; clear hf4))
        go_roundw
        case rel =>
          obtain ⟨q1, q2⟩ := app_step HCP.out HCA.out HLO.out HCC4.out HF4.out
          refine ⟨k + 1, by omega, by go_num, q1, ?_, q2⟩
          rw [HSU.out]; exact HO4.out
        case measure => simp [intOf]; omega
    · have hkn : k = ins.length := by omega
      rw [hkn, List.take_of_length_le (Nat.le_refl _)] at hrow
      rw [hkn] at hlo
      rw [hkn]
      have hW1 := HW.out wr hc oa oc hrow
      have HW1 := Lib.hid hW1; clear hW1 HW hrow hlo hkn
      have HC := Lib.hid hc; clear hc
      go_wp2_with fail
      refine HW1.out.mono ?_
      rintro e w3 ⟨v, rfl, hrv, _, hc3⟩
      obtain ⟨va, vc, rfl⟩ := row.shape hrv
      have hsv := row.sv hrv rfl (by omega)
      have HSV := Lib.hid hsv; clear hsv hrv
      have HC3 := Lib.hid (HC.out.trans hc3 (by simp)); clear hc3 HC HW1
      go_wp2_with fail
      go_loopw [14, 38] (fun o i wq => ∃ j : Nat, j ≤ ws.length ∧ i = .int .i64 j ∧ Ch [] w3 wq ∧ row wq 4 1 o j (bools ((ws.take j).map (fun v => v.testBit 0))) ∧ ∀ q ∈ o.ownBlock.toList, w3.heap.size ≤ q) (fun _ i _ => ws.length - (intOf i).toNat)
      case atStart => exact ⟨0, by omega, rfl, Ch.refl _ _, ⟨rfl, .inl ⟨rfl, rfl⟩⟩, by simp⟩
      case round =>
        obtain ⟨j, hj, rfl, hc, hrow, hlo⟩ := hrel
        obtain ⟨oa, oc, rfl⟩ := row.shape hrow
        by_cases hlt : j < ws.length
        · obtain ⟨x, hx⟩ : ∃ x, ws[j]? = some x := ⟨_, List.getElem?_eq_getElem hlt⟩
          have hxb := HWB.out x (List.mem_of_getElem? hx)
          obtain ⟨xb, xo, rfl, hcl⟩ := HSV.out.cells j (.int .u64 x) (u64s_get hx)
          have c0 := (hc.cell (cell_lt hcl) (by simp)).trans hcl
          have hand : bits .and .u64 (x : Int) 1 = ((x &&& 1 : Nat) : Int) := bits_and_u64_nat x 1 (by omega) (by omega)
          have hbe : (((x &&& 1 : Nat) : Int) == 1) = x.testBit 0 := by
            rw [Nat.testBit_zero, show x &&& 1 = x % 2 from Nat.and_one_is_mod x]
            rcases Nat.mod_two_eq_zero_or_one x with h | h <;> simp [h]
          have hsu : bools ((ws.take (j + 1)).map (fun v => v.testBit 0)) = bools ((ws.take j).map (fun v => v.testBit 0)) ++ [.bool (x.testBit 0)] := by rw [List.take_add_one, hx]; simp [bools]
          generalize x.testBit 0 = tb at hbe hsu
          generalize x &&& 1 = x1 at hand hbe
          have hcA : Ch [] wr (wr.alloc (.cells #[.bool tb] 4)) := (Ch.refl _ _).alloc _
          have hrA := hrow.ch hcA (by simp)
          have hbA : blk (wr.alloc (.cells #[.bool tb] 4)) wr.heap.size [.bool tb] := blk.new' _ _ rfl
          have HSU := Lib.hid hsu; clear hsu
          have HRA := Lib.hid hrA; clear hrA hrow
          have HBA := Lib.hid hbA; clear hbA
          have HCA := Lib.hid hcA; clear hcA
          have HCP := Lib.hid hc; clear hc
          have HLO := Lib.hid hlo; clear hlo hcl hx hxb
          go_wp2_with (at_builtin; go_loud (refine wpList_append_row slBools rfl _ _ rfl (v := .slice oa j oc) (n := j) (xs := bools ((ws.take j).map (fun v => v.testBit 0))) rfl HRA.out (ad := ⟨wr.heap.size, 0, none⟩) (m := 1) (c := 1) (news := [.bool tb]) rfl rfl (news_blk HBA.out) (by simp [Value.oneCell']) (by omega) (by omega) ?_; intro v' w5 hown4 hC4 hf4; have HO4 := Lib.hid hown4; clear hown4; have HCC4 := Lib.hid hC4; clear hC4; have HF4 := Lib.hid hf4; clear hf4))
          go_roundw
          case rel =>
            obtain ⟨q1, q2⟩ := app_step HCP.out HCA.out HLO.out HCC4.out HF4.out
            refine ⟨j + 1, by omega, by go_num, q1, ?_, q2⟩
            rw [HSU.out]; exact HO4.out
          case measure => simp [intOf]; omega
        · have hkn : j = ws.length := by omega
          rw [hkn, List.take_of_length_le (Nat.le_refl _)] at hrow
          rw [hkn] at hlo
          rw [hkn]
          have HROW := Lib.hid hrow; clear hrow
          have HLO := Lib.hid hlo; clear hlo
          have HCP := Lib.hid hc; clear hc hkn
          go_wp2_with fail
          go_ret2
          refine ⟨.slice oa ws.length oc, rfl, ?_, fun q hq => Nat.le_trans HC3.out.size (HLO.out q hq), HC3.out.trans HCP.out (by simp)⟩
          have := HROW.out
          simpa using this
end
end Go.Proofs.YtdmmanfjafempaaGreat
