/-
  Walks over steps of muldiv and its iterator: the bits of a quotient. Conditions: a graph in memory, two words of its references, of the same width.
  Walk over the closure of Both of muldiv: the loop over the bits of the quotient. Conditions: a graph in memory, two words of its references, of the same width.
  Walks over Both, Div, Rem of muldiv. Conditions: a graph in memory, two words of any integers.
  Walks over Div, Rem, Square, Times of muldiv; all of them as steps of a law's walk. Conditions: a graph in memory, words of any integers.
  Words of many assignments at once, plainly: what the nodes of a graph are for the words of its inputs, bit by bit. No program in sight. Conditions: none beyond the hypotheses.
  What the reference of chapter 24 makes, plainly, and that it is what the program makes. No program in sight. Conditions: none beyond the hypotheses.
  Walks over the reference's Lt and Sum of chapter 23, of a state that may hold an error. Conditions: a graph that can be read, words of its references.
  Walks over the reference's Add, Sub, Le of chapter 23, of a state that may hold an error. Conditions: a graph that can be read, words of its references.
  One row of a product, of the reference of chapter 24: plainly; and what is known of its states between two steps, with another word that is kept. No walk. Conditions: none beyond the hypotheses.
  Walk over the reference's product of chapter 24. Conditions: a graph that can be read, words of its references.
  The reference's quotient of chapter 24, plainly: its steps are right; and what is known of its state between two steps, with other words that are kept and one that is written. No walk. Conditions: none beyond the hypotheses.
-/
import Derived.Test.YtehljgigebhddaaGreatQD
import Derived.Deep.DeepCutAuto
import Derived.Deep.CutBlock
namespace Go
/-- the widest fence does not count frames -/
theorem YieldAt.any {m : Nat} (m' : Nat) {P : Program} {l : Nat} {args : Array Value} {W : World} {R : Ending → World → Prop} (h : YieldAt Fence.wide m P l args W R) : YieldAt Fence.wide m' P l args W R := by
  obtain ⟨fn, tmps, assign, body, h1, h2, h3⟩ := h
  exact ⟨fn, tmps, assign, body, h1, h2, fun c cs _ => h3 c cs (room_wide _)⟩
theorem RoundIn.any {m : Nat} (m' : Nat) {P : Program} {l : Nat} {f : FuncId} {tmps : Array Value} {assign body : Code} {W : World} {R : Ending → World → Prop} (h : RoundIn Fence.wide m P l f tmps assign body W R) (l2 : Nat) : RoundIn (Fence.wide.inRound l2) m' P l f tmps assign body W R :=
  ⟨h.1, fun c cs _ => h.2 c cs (room_wide _)⟩
theorem CallsIn.any {m : Nat} (m' : Nat) {P : Program} {f : FuncId} {args : Array Value} {W : World} {R : Ending → World → Prop} (h : CallsIn Fence.wide m P f args W R) : CallsIn Fence.wide m' P f args W R := callsIn_wide.2 (callsIn_wide.1 h)
end Go
namespace Go.Proofs.YtehljgigebhddaaGreat
open Go.RowKit Go.Mem Go.Aig
attribute [local go_sem] Oper.semAt_some
/-- a yield of steps: the round, the blocks of the loop outside, the world; the bit, and what is left -/
structure YX where
  k : Nat
  T : List Nat
  W : World
  f : Nat
  rb : Nat
  rc : Nat
  r : List Nat
def sEnc (n : Nat) (x : YX) : Array Value := #[.int .i64 x.f, .slice (some ⟨x.rb, 0, none⟩) (n + 1) x.rc]
def KX (w : World) (F T0 : List Nat) (I : Nat → List Nat → World → Prop) (d : List Nat) (G : Gra) (bits : List Nat) (n : Nat) (x : YX) (W : World) : Prop :=
  Ch [w.heap.size, w.heap.size + 1] x.W W ∧ Ch (T0 ++ F) w x.W ∧ I x.k x.T x.W ∧ row x.W 52 1 (.slice (some ⟨x.rb, 0, none⟩) (n + 1) x.rc) (n + 1) (refsCells x.r) ∧ (x.rb ∉ x.T ∧ w.heap.size + 2 ≤ x.rb) ∧ (∀ q ∈ x.T, q ≠ w.heap.size ∧ q ≠ w.heap.size + 1 ∧ q < x.W.heap.size ∧ (q ∈ T0 ∨ w.heap.size + 2 ≤ q)) ∧ w.heap.size + 2 ≤ x.W.heap.size ∧ x.k < n ∧
    (divF d (G, 0) (bits.take (x.k + 1))).2 = ((divF d (G, 0) (bits.take x.k)).2.1 ++ [x.f], x.r) ∧ x.r.length = n + 1 ∧ ∀ z ∈ x.r, z ≤ 1000000
def JX (w : World) (I : Nat → List Nat → World → Prop) (x : YX) (W' : World) : Prop :=
  ∃ T', I (x.k + 1) T' W' ∧ Ch (w.heap.size :: (w.heap.size + 1) :: x.T) x.W W' ∧ (∀ q ∈ T', (q ∈ x.T ∨ x.W.heap.size ≤ q) ∧ q < W'.heap.size)
def DX (w : World) (g : Nat) (F T0 : List Nat) (I : Nat → List Nat → World → Prop) (R : Mk × List Nat × List Nat) (n : Nat) (W' : World) : Prop :=
  R.1.2 = 0 ∧ ∃ F' T', GIn W' g R.1.1 F' ∧ Ch (T0 ++ F) w W' ∧ (∀ q ∈ F', (q ∈ F ∧ q < w.heap.size) ∨ w.heap.size + 2 ≤ q) ∧ F'[2]? = F[2]? ∧ I n T' W' ∧ (∀ q ∈ T', ((q ∈ T0 ∧ q < w.heap.size) ∨ w.heap.size + 2 ≤ q) ∧ q ∉ F' ∧ q < W'.heap.size)
def DPX (w : World) (g : Nat) (F T0 : List Nat) (G : Gra) (er : Nat) (c : List PanicEntry) (W' : World) : Prop :=
  er ≠ 0 ∧ c = [{ v := stopV er, recovered := false }] ∧ ∃ G' F', Ext G G' ∧ GIn W' g G' F' ∧ Ch (T0 ++ F) w W' ∧ (∀ q ∈ F', (q ∈ F ∧ q < w.heap.size) ∨ w.heap.size + 2 ≤ q) ∧ F'[2]? = F[2]?
theorem bwd_bit {x : List Nat} {n k i b : Nat} (hn : x.length = n) (h : (bwd x)[k]? = some (i, b)) : k < n ∧ x.reverse[k]? = some b := by
  have hl := (List.getElem?_eq_some_iff.1 h).1
  rw [bwd_len] at hl
  refine ⟨by omega, ?_⟩
  obtain ⟨r, hr⟩ : ∃ r, x[x.length - 1 - k]? = some r := ⟨_, List.getElem?_eq_getElem (by omega)⟩
  have h2 := bwd_at (l := x) (k := k) (j := x.length - 1 - k) (by omega) hr
  rw [h] at h2
  cases h2
  rw [List.getElem?_reverse (by omega)]
  exact hr
theorem row_cap' {w : World} {e : TypeId} {b n m c : Nat} {xs : List Value} (h : row w e 1 (.slice (some ⟨b, 0, none⟩) n c) m xs) : n ≤ c := by
  rcases h.2 with ⟨e1, _⟩ | ⟨g, cap, cur, e1, h2, h3, h4, _⟩
  · cases e1
  · cases e1; omega
/-- between two rounds of steps -/
def II (w : World) (g : Nat) (G : Gra) (F T0 : List Nat) (I : Nat → List Nat → World → Prop) (X : World → Prop) (B2 b4 b5 b6 bb db dc : Nat) (yv bx : Value) (n : Nat) (d bits : List Nat) (k : Nat) (W : World) : Prop :=
  ∃ Gp F' T rb rc r, (divF d (G, 0) (bits.take k)).1 = (Gp, 0) ∧ (divF d (G, 0) (bits.take k)).2.2 = r ∧ r.length = n + 1 ∧ (∀ q ∈ r, q < 2 * Gp.nodes.length) ∧ Ext G Gp ∧ SR w g F T0 I X B2 b4 b5 b6 bb db dc yv bx n d W Gp F' T k rb rc r
/-- where steps stops -/
def DP2 (w : World) (g : Nat) (F T0 : List Nat) (G : Gra) (X : World → Prop) (B2 er : Nat) (c : List PanicEntry) (W' : World) : Prop :=
  er ≠ 0 ∧ c = [{ v := stopV er, recovered := false }] ∧ ∃ G' F', Ext G G' ∧ GIn W' g G' F' ∧ Ch (T0 ++ F) w W' ∧ (∀ q ∈ F', (q ∈ F ∧ q < w.heap.size) ∨ w.heap.size + 2 ≤ q) ∧ F'[2]? = F[2]? ∧ X W' ∧ (∀ q ∈ F', q < B2 ∨ B2 + 2 ≤ q)
theorem SR.stop {w : World} {g : Nat} {G : Gra} {F T0 : List Nat} {I : Nat → List Nat → World → Prop} {X : World → Prop} {B2 b4 b5 b6 bb db dc : Nat} {yv bx : Value} {n : Nat} {d : List Nat} {W : World} {Gp : Gra} {F' T : List Nat} {k rb rc : Nat} {r : List Nat} (h : SR w g F T0 I X B2 b4 b5 b6 bb db dc yv bx n d W Gp F' T k rb rc r) (he : Ext G Gp) {er e0 : Nat} (h0 : e0 ≠ 0) (hr : er = e0) : DP2 w g F T0 G X B2 er [{ v := stopV e0, recovered := false }] W :=
  ⟨by rw [hr]; exact h0, by rw [hr], Gp, F', he, h.sx.gin, h.sx.ch, h.sx.own, h.sx.f2, h.xw, h.sx.nb⟩
theorem SR.booksTo {w : World} {g : Nat} {F T0 : List Nat} {I : Nat → List Nat → World → Prop} {X : World → Prop} {B2 b4 b5 b6 bb db dc : Nat} {yv bx : Value} {n : Nat} {d : List Nat} {W W' : World} {Gp G1 : Gra} {F' T : List Nat} {k rb rc : Nat} {r : List Nat} (h : SR w g F T0 I X B2 b4 b5 b6 bb db dc yv bx n d W Gp F' T k rb rc r) (ht : GTo W g G1 F' W') : Books B2 W W' := by
  obtain ⟨_, _, hc, _⟩ := ht
  exact Books.of_ch hc h.hB (fun q hq => by have := h.sx.nb q hq; omega)
theorem fnvmdsteps1 : Fnv 296 := fnv_of Tryz.func296 (by simp [Tryz.f296]) (by simp [Tryz.f296])
section
variable {w : World} {g : Nat} {G : Gra} {F T0 : List Nat}
set_option maxRecDepth 100000 in
set_option maxHeartbeats 1000000 in
theorem mdsteps_is (w : World) (g : Nat) (xa ya : Option Addr) (n xc m yc : Nat) :
    Calls Tryz.prog 215 #[.pointer (some ⟨g, 0, none⟩), .slice xa n xc, .slice ya m yc] w fun e w' => e = .returned (.func (.func 296) #[] #[.pointer (some ⟨w.heap.size + 1 + 1, 0, none⟩), .pointer (some ⟨w.heap.size + 1, 0, none⟩), .pointer (some ⟨w.heap.size, 0, none⟩)]) ∧
      w' = ((w.alloc (.cells #[.pointer (some ⟨g, 0, none⟩)] 42)).alloc (.cells #[.slice xa n xc] 45)).alloc (.cells #[.slice ya m yc] 45) := by
  have hmf : ∀ (fn : Fn) (first cap : Array Value) (w : World), (Instr.makeFunc fn first cap).run Tryz.prog w = .ok (.func fn first cap) w := fun _ _ _ _ => rfl
  go_enter Tryz.func215, Tryz.ntmps215
  go_wp2_with fail
  go_ret
  exact ⟨rfl, rfl⟩
set_option maxRecDepth 100000 in
set_option maxHeartbeats 4000000 in
theorem mdsteps1_seq {I : Nat → List Nat → World → Prop} (h : GIn w g G F) {x y : List Nat} {xa ya : Option Addr} {xc yc : Nat} (n : Nat) (hxl : x.length = n) (hyl : y.length = n) (h1 : 1 ≤ n) (h16 : n ≤ 16)
    (hx : WVin w (T0 ++ F) ⟨xa, natInts x, xc⟩) (hy : WVin w (T0 ++ F) ⟨ya, natInts y, yc⟩) (hxr : ∀ r ∈ x, r < 2 * G.nodes.length) (hyr : ∀ r ∈ y, r < 2 * G.nodes.length)
    {bG bX bY : Nat} (hbg : blk w bG [.pointer (some ⟨g, 0, none⟩)]) (hbx : blk w bX [.slice xa n xc]) (hby : blk w bY [.slice ya n yc]) (hbF : bG ∉ T0 ++ F ∧ bX ∉ T0 ++ F ∧ bY ∉ T0 ++ F)
    (hI : IOk I) (hI0 : I 0 T0 w) (hT0 : ∀ q ∈ T0, q < w.heap.size ∧ q ∉ F)
    (N : Nat) (lp : Nat) (X : World → Prop) (hX : XOk w X) (hXB : ∀ A, X A → w.heap.size + 2 ≤ A.heap.size)
    (hY : ∀ q W, KX w F T0 I (y ++ [0]) G x.reverse n q W → X W → YieldAt Fence.wide N Tryz.prog lp (sEnc n q) W fun e W' => e = .returned (.bool true) ∧ JX w I q W' ∧ X W')
    (W : World) (hc0 : Ch [w.heap.size, w.heap.size + 1] w W) (hXW : X W) :
    CallsIn Fence.wide N Tryz.prog 296 (#[.func (.yield lp) #[] #[]] ++ #[.pointer (some ⟨bY, 0, none⟩), .pointer (some ⟨bX, 0, none⟩), .pointer (some ⟨bG, 0, none⟩)]) W fun e W' =>
      ((∃ v, e = .returned v) ∧ DX w g F T0 I (divF (y ++ [0]) (G, 0) x.reverse) n W' ∧ X W') ∨ (∃ c, e = .panicked c ∧ DPX w g F T0 G (divF (y ++ [0]) (G, 0) x.reverse).1.2 c W' ∧ X W') := by
  refine CallsIn.any (m := 4) N ?_
  show CallsIn Fence.wide 4 Tryz.prog 296 #[.func (.yield lp) #[] #[], .pointer (some ⟨bY, 0, none⟩), .pointer (some ⟨bX, 0, none⟩), .pointer (some ⟨bG, 0, none⟩)] W _
  obtain ⟨d, hd⟩ : ∃ d, y ++ [0] = d := ⟨_, rfl⟩
  have hdl : d.length = n + 1 := by rw [← hd]; simp [hyl]
  rw [hd] at hY ⊢
  refine callsIn_of_wpAt_marks Tryz.func296 rfl trivial ?_ rfl
  simp only [Tryz.ntmps296, List.size_toArray, List.length_cons, List.length_nil, Nat.reduceAdd, Nat.reduceSub, Array.replicate_succ, Array.replicate_zero, List.push_toArray, List.append_toArray, List.nil_append, List.cons_append]
  have hsz : w.heap.size + 2 ≤ W.heap.size := hXB _ hXW
  have hnw : ∀ q, q ∉ T0 ++ F → q < w.heap.size → q ∉ [w.heap.size, w.heap.size + 1] := fun q _ hq => by simp; omega
  have hbG0 := hbg.ch hc0 (hnw _ hbF.1 hbg.lt)
  have hbX0 := hbx.ch hc0 (hnw _ hbF.2.1 hbx.lt)
  have hbY0 := hby.ch hc0 (hnw _ hbF.2.2 hby.lt)
  have hyv := hy.ok.ch hc0 (fun p hp => hnw _ (hy.apart p.block (by simp only at hp; simp [ablk, hp])).1 (hy.apart p.block (by simp only at hp; simp [ablk, hp])).2)
  have hcl := fun W1 (hW1 : Ch [] W W1) => Clref_w (hyv.ch hW1 (by simp)) n (by simpa [natInts] using hyl)
  simp only at hcl
  have c0 := (hbY0.alloc (.cells #[.func (.yield lp) #[] #[]] 351)).cell (i := 0) rfl
  have HCL := Lib.hid hcl; clear hcl
  have HX := Lib.hid hx; clear hx
  have HY := Lib.hid hy; clear hy
  have HH := Lib.hid h; clear h
  have HYY := Lib.hid hY; clear hY
  have HI := Lib.hid hI; clear hI
  have HI0 := Lib.hid hI0; clear hI0
  have HT0 := Lib.hid hT0; clear hT0
  have HXX := Lib.hid hX; clear hX
  have HXW := Lib.hid hXW; clear hXW
  have HXB := Lib.hid hXB; clear hXB
  have HXR := Lib.hid hxr; clear hxr
  have HYR := Lib.hid hyr; clear hyr
  have HC0 := Lib.hid hc0; clear hc0
  clear hnw
  refine wpAt_seq (wpAt_of_wpIn (wpIn_wide.2 ?_))
  go_wp2_with fail
  refine wpAt_seq (wpAt_of_wpIn (wpIn_wide.2 ?_))
  go_wp2_with fail
  refine (HCL.out _ ((Ch.refl _ _).alloc _)).mono ?_
  rintro e w1 ⟨v, rfl, hrow1, hown1, hc1⟩
  have ecy : intCells (natInts y) = refsCells y := by simp [intCells, natInts, refsCells, Function.comp_def]
  have hrow1 : row w1 52 1 v n (refsCells y) := by
    rw [ecy] at hrow1
    simpa [refsCells, hyl] using hrow1
  obtain ⟨va, vc, rfl⟩ := row.shape hrow1
  have hcA : Ch [] w1 (w1.alloc (.cells #[.int .i64 0] 52)) := (Ch.refl _ _).alloc _
  have hrA := hrow1.ch hcA (by simp)
  have hbA : blk (w1.alloc (.cells #[.int .i64 0] 52)) w1.heap.size [.int .i64 0] := blk.new' _ _ rfl
  have hc01 : Ch [] W w1 := ((Ch.refl [] W).alloc _).trans hc1 (by simp)
  have hb4 : blk w1 W.heap.size [.func (.yield lp) #[] #[]] := (blk.new W _ _).ch hc1 (by simp)
  have HRA := Lib.hid hrA; clear hrA hrow1
  have HBA := Lib.hid hbA; clear hbA
  have HCA := Lib.hid hcA; clear hcA
  have HC01 := Lib.hid hc01; clear hc01 hc1
  have HB4 := Lib.hid hb4; clear hb4
  have HOWN1 := Lib.hid hown1; clear hown1 c0 hyv
  go_wp2_with (at_builtin; go_loud (refine wpList_append_row slRefs rfl _ _ rfl (v := .slice va n vc) (n := n) (xs := refsCells y) rfl HRA.out (ad := ⟨w1.heap.size, 0, none⟩) (m := 1) (c := 1) (news := [.int .i64 0]) rfl rfl (news_blk HBA.out) (by simp [Value.oneCell']) (by omega) (by omega) ?_; intro v' w5 hown4 hC4 hf4; obtain ⟨db, dc, rfl⟩ := row.parts hown4 (by omega); have HO4 := Lib.hid hown4; clear hown4; have HCC4 := Lib.hid hC4; clear hC4; have HF4 := Lib.hid hf4; clear hf4))
  refine wpAt_named fun W2 hW2 => ?_
  have hrd5 : row w5 52 1 (.slice (some ⟨db, 0, none⟩) (n + 1) dc) (n + 1) (refsCells d) := by
    have := HO4.out
    rw [← hd]
    simpa [refsCells] using this
  obtain ⟨hc05, hlo5⟩ := app_step (W0 := W) HC01.out HCA.out (fun q hq => by have := HOWN1.out q hq; simp at this; omega) HCC4.out HF4.out
  have hdb : W.heap.size < db := by
    rcases HF4.out db rfl with e | e
    · have := HOWN1.out db (by simp [e])
      simp at this; omega
    · have := HC01.out.size; have := HCA.out.size
      have := HB4.out.lt
      omega
  have hz5 := hc05.size
  have hb4' := (HB4.out.ch HCA.out (by simp)).ch HCC4.out (fun hm => by have := HOWN1.out _ hm; simp at this; omega)
  have hdl5 := (hrd5.lt db rfl).2
  have hC2 : Ch [] W W2 := by rw [hW2]; exact hc05.alloc _
  have hb42 : blk W2 W.heap.size [.func (.yield lp) #[] #[]] := by rw [hW2]; exact hb4'.alloc _
  have hb52 : blk W2 w5.heap.size [.slice (some ⟨db, 0, none⟩) (n + 1) dc] := by rw [hW2]; exact blk.new _ _ _
  have hrd2 : row W2 52 1 (.slice (some ⟨db, 0, none⟩) (n + 1) dc) (n + 1) (refsCells d) := by rw [hW2]; exact hrd5.ch (F := []) ((Ch.refl [] _).alloc _) (by simp)
  have hz2 : W2.heap.size = w5.heap.size + 1 := by rw [hW2]; simp
  have hdb5 : db < w5.heap.size := hdl5
  obtain ⟨b5, hb5⟩ : ∃ b5, w5.heap.size = b5 := ⟨_, rfl⟩
  rw [hb5] at hb52 hz2 hdb5 ⊢
  have hW5 : W.heap.size < b5 := by omega
  obtain ⟨b4, hb4e⟩ : ∃ b4, W.heap.size = b4 := ⟨_, rfl⟩
  rw [hb4e] at hb42 hdb hW5 hsz ⊢
  have c5 := hb52.cell (i := 0) rfl
  have hmk := run_make_refs W2 (n + 1) (by omega)
  rw [show ((n + 1 : Nat) : Int) = (n : Int) + 1 by omega] at hmk
  clear hW2 hrd5 hb4' hlo5 hc05 HB4 HC01 HCA HBA HRA HOWN1 HO4 HCC4 HF4 HCL hz5 hdl5 hb5
  have HRD2 := Lib.hid hrd2; clear hrd2
  have HB52 := Lib.hid hb52; clear hb52
  have HB42 := Lib.hid hb42; clear hb42
  have HC2 := Lib.hid hC2; clear hC2
  refine wpAt_seq (wpAt_of_wpIn (wpIn_wide.2 ?_))
  go_wp2_with fail
  refine wpAt_named fun W3 hW3 => ?_
  have hC3 : Ch [] W2 W3 := by rw [hW3]; exact ((Ch.refl _ _).alloc _).alloc _
  have hz3 : W3.heap.size = b5 + 3 := by rw [hW3]; simp; omega
  have hrr3 : row W3 52 1 (.slice (some ⟨b5 + 1, 0, none⟩) (n + 1) (n + 1)) (n + 1) (refsCells (List.replicate (n + 1) 0)) := by
    rw [hW3]
    have hz : W2.heap.size = b5 + 1 := hz2
    have h0 := row_fresh (w := W2) (l := List.replicate (n + 1) 0) (n := n + 1) rfl (by simp) (by omega)
    rw [hz] at h0
    have e : intCells (List.replicate (n + 1) 0) = refsCells (List.replicate (n + 1) 0) := by simp [intCells, refsCells]
    rw [e] at h0
    exact h0.ch (F := []) ((Ch.refl [] _).alloc _) (by simp)
  have hb63 : blk W3 (b5 + 1 + 1) [.slice (some ⟨b5 + 1, 0, none⟩) (n + 1) (n + 1)] := by rw [hW3]; exact blk.new' _ _ (by simp; omega)
  have hC03 := HC2.out.trans hC3 (by simp)
  have x3 := (hbX0.ch hC03 (by simp)).cell (i := 0) rfl
  have hbw := Bwref_is (w := W3) xa n xc
  clear hW3 hmk c5
  have HBW := Lib.hid hbw; clear hbw
  refine wpAt_seq (wpAt_of_wpIn (wpIn_wide.2 ?_))
  go_wp2_with fail
  refine HBW.out.mono ?_
  rintro e w4 ⟨rfl, hw4⟩
  have hC4 : Ch [] W3 w4 := by rw [hw4]; exact (Ch.refl _ _).alloc _
  have hbb4 : blk w4 (b5 + 3) [.slice xa n xc] := by rw [hw4]; exact blk.new' _ _ hz3.symm
  have hz4 : w4.heap.size = b5 + 4 := by rw [hw4]; simp; omega
  clear hw4
  rw [hz3]
  clear HBW
  go_wp2_with fail
  have hC04 := hC03.trans hC4 (by simp)
  have hsx : SX w g F T0 I (b5 + 4) [] w4 G F T0 0 := by
    have hcw := HC0.out.trans hC04 (by simp)
    have hcw' : Ch (T0 ++ F) w w4 := hcw.mono (fun q hq => .inr (by simp at hq; omega))
    have hFl := HH.out.lt
    refine ⟨HH.out.same hcw (fun q hq hm => by have := hFl q hq; simp at hm; omega), hcw', fun q hq => .inl ⟨hq, hFl q hq⟩, fun q hq => .inl (by have := hFl q hq; omega), rfl, HI.out.same _ _ _ _ _ HI0.out hcw (fun q hq hm => by have := (HT0.out q hm).1; simp at hq; omega), fun q hq => ?_, by simp⟩
    obtain ⟨t1, t2⟩ := HT0.out q hq
    exact ⟨.inl ⟨hq, t1⟩, t2, .inl (by omega), by omega⟩
  have hrl := (HRD2.out.lt db rfl).2
  have hFl := HH.out.lt
  have hbl : b4 < b5 + 4 := by omega
  have hsx2 : SX w g F T0 I (b5 + 4) [b5 + 1, b4, b5, b5 + 1 + 1, b5 + 3, db] w4 G F T0 0 := ⟨hsx.gin, hsx.ch, hsx.own, hsx.nb, hsx.f2, hsx.it, hsx.tb, fun q hq => by
    have hq2 : b4 ≤ q ∧ q < b5 + 4 := by
      simp only [List.mem_cons, List.not_mem_nil, or_false] at hq
      omega
    exact ⟨by omega, fun hm => by have := hFl q hm; omega, fun hm => by have := (HT0.out q hm).1; omega, .inl hq2.2, by omega⟩⟩
  have hC24 := hC3.trans hC4 (by simp)
  have hII : ∀ W1, Ch [b5 + 4, b5 + 4 + 1] w4 W1 → b5 + 4 + 2 ≤ W1.heap.size → II w g G F T0 I X (b5 + 4) b4 b5 (b5 + 1 + 1) (b5 + 3) db dc (.func (.yield lp) #[] #[]) (.slice xa n xc) n d x.reverse 0 W1 := by
    intro W1 hcb hz9
    have hnb : ∀ q, q < b5 + 4 → q ∉ [b5 + 4, b5 + 4 + 1] := fun q hq => by simp; omega
    refine ⟨G, F, T0, b5 + 1, n + 1, List.replicate (n + 1) 0, rfl, by show List.replicate d.length 0 = _; rw [hdl], by simp, fun q hq => ?_, .refl _, hsx2.same HI.out hcb (fun q hq => ⟨?_, fun hm => ?_, fun hm => ?_⟩), (HB42.out.ch hC24 (by simp)).ch hcb (hnb _ (by omega)), (HB52.out.ch hC24 (by simp)).ch hcb (hnb _ (by omega)), (hb63.ch hC4 (by simp)).ch hcb (hnb _ (by omega)), hbb4.ch hcb (hnb _ (by omega)), (HRD2.out.ch hC24 (by simp)).ch hcb (fun q hq => by cases hq; exact hnb db (by omega)), (hrr3.ch hC4 (by simp)).ch hcb (fun q hq => by cases hq; exact hnb _ (by show b5 + 1 < b5 + 4; omega)), ⟨by omega, by omega, by omega, by omega, by omega⟩, ⟨by omega, by omega, by omega, by omega⟩, HXX.out.same _ _ _ (HXX.out.same _ _ _ HXW.out hC04 (by simp)) hcb (fun q hq => by simp at hq; omega), by omega, by omega⟩
    · rw [(List.mem_replicate.1 hq).2]
      have := HH.out.ok.wf.pos
      omega
    · simp at hq; omega
    · have := hFl q hm; simp at hq; omega
    · have := (HT0.out q hm).1; simp at hq; omega
  have HII := Lib.hid hII; clear hII
  clear hsx hsx2 hbb4 hb63 hrr3 hC3 hC4 hC24 hC04 hC03 x3 HI0 HXW HB42 HB52 HRD2 hbX0 hbY0 hbG0 HC2
  refine wpAt_block ?_
  refine wpAt_rangeFunc_S (n := 4) (f₀ := 296) Tryz.func296 (b5 + 4) hz4 rfl (by omega) rfl trivial (fun args w => fnvBwref1 args w) (encs := fun (q : Nat × Nat × Nat) => fitEnc q.2) (fun _ => rfl)
    (fun W' => Ch [b5 + 4, b5 + 4 + 1] w4 W')
    (fun q W' => (bwd x)[q.1]? = some q.2 ∧ II w g G F T0 I X (b5 + 4) b4 b5 (b5 + 1 + 1) (b5 + 3) db dc (.func (.yield lp) #[] #[]) (.slice xa n xc) n d x.reverse q.1 W')
    (fun q W' => II w g G F T0 I X (b5 + 4) b4 b5 (b5 + 1 + 1) (b5 + 3) db dc (.func (.yield lp) #[] #[]) (.slice xa n xc) n d x.reverse (q.1 + 1) W')
    (II w g G F T0 I X (b5 + 4) b4 b5 (b5 + 1 + 1) (b5 + 3) db dc (.func (.yield lp) #[] #[]) (.slice xa n xc) n d x.reverse n)
    (DP2 w g F T0 G X (b5 + 4) (divF d (G, 0) x.reverse).1.2)
    ?seq ?j0 ?k ?j ?d ?pan (Ch.refl _ _) ?a1 ?assign ?body ?done
  case assign =>
    intro q x W K hK
    simp only [fitEnc]
    gi_wp2
    exact hK
  case j0 =>
    intro A A' h hc
    exact h.trans hc (fun q hq => .inl hq)
  case k =>
    rintro q A A' ⟨hq, Gp, F', T, rb, rc, r, i1, i2, i3, i4, i5, hs⟩ hc
    exact ⟨hq, Gp, F', T, rb, rc, r, i1, i2, i3, i4, i5, hs.books HI.out HXX.out (by omega) hc⟩
  case j =>
    rintro q A A' ⟨Gp, F', T, rb, rc, r, i1, i2, i3, i4, i5, hs⟩ hc
    exact ⟨Gp, F', T, rb, rc, r, i1, i2, i3, i4, i5, hs.books HI.out HXX.out (by omega) hc⟩
  case d =>
    rintro A A' ⟨Gp, F', T, rb, rc, r, i1, i2, i3, i4, i5, hs⟩ hc
    exact ⟨Gp, F', T, rb, rc, r, i1, i2, i3, i4, i5, hs.books HI.out HXX.out (by omega) hc⟩
  case seq =>
    intro l2 X2 Y2 hX2 hX2B hY2 W1 hI1 hXW1
    refine (Bw_mem (xa := xa) (xc := xc) (bx := b5 + 3) (x := x) n hxl (by omega) (fun k W' => II w g G F T0 I X (b5 + 4) b4 b5 (b5 + 1 + 1) (b5 + 3) db dc (.func (.yield lp) #[] #[]) (.slice xa n xc) n d x.reverse k W' ∧ X2 W') (fun c W' => DP2 w g F T0 G X (b5 + 4) (divF d (G, 0) x.reverse).1.2 c W' ∧ Y2 W') ?_ 3 (by omega) l2 ?_ W1 ⟨HII.out W1 hI1 (hX2B _ hXW1), hXW1⟩).mono ?_
    · rintro k W' ⟨⟨Gp, F', T, rb, rc, r, i1, i2, i3, i4, i5, hs⟩, hx2⟩
      refine ⟨hs.cb.cell rfl, ?_⟩
      exact HX.out.ok.sl.ch hs.sx.ch (fun p hp => (HX.out.apart p.block (by simp only at hp; simp [ablk, hp])).1)
    · rintro k i r W' hk ⟨hi, hx2⟩
      refine (hY2 (k, i, r) W' ⟨hk, hi⟩ hx2).mono ?_
      rintro e W3 (⟨rfl, q1, q2⟩ | ⟨c, rfl, q1, q2⟩)
      · exact .inl ⟨rfl, q1, q2⟩
      · exact .inr ⟨c, rfl, q1, q2⟩
    · rintro e W' (⟨hv, q1, q2⟩ | ⟨c, rfl, q1, q2⟩)
      · exact .inl ⟨hv, q1, q2⟩
      · exact .inr ⟨c, rfl, q1, q2⟩
  case pan =>
    rintro c W1 ⟨p0, rfl, G', F', p1, p2, p3, p4, p5, p6, p7⟩ hK hz
    refine .inr ⟨_, rfl, ?_⟩
    have hcp : Ch [b5 + 4] W1 (W1.putObj (b5 + 4) (.deferred none)) := ch_put (by simp)
    refine ⟨by simp, .inl ⟨_, _, rfl, run_takeDeferred hK, ?_⟩⟩
    refine .inr ⟨_, rfl, ⟨p0, rfl, G', F', p1, p2.same hcp (fun q hq hm => by have := p7 q hq; simp at hm; omega), p3.trans hcp (fun q hq => .inr (by simp at hq; omega)), p4, p5⟩, ?_⟩
    exact HXX.out.same _ _ _ p6 hcp (fun q hq => by simp at hq; omega)
  case done =>
    rintro W1 ⟨Gp, F', T, rb, rc, r, i1, i2, i3, i4, i5, hs⟩ hK hz
    refine .inl ⟨rfl, ?_⟩
    have hcp : Ch [b5 + 4] W1 (W1.putObj (b5 + 4) (.deferred none)) := ch_put (by simp)
    have hs2 := hs.books HI.out HXX.out (by omega) (hcp.mono (fun q hq => .inl (by simp at hq; simp [hq])))
    refine ⟨by simp, .inl ⟨_, _, rfl, run_takeDeferred hK, ?_⟩⟩
    refine ⟨_, results_none rfl _ _ _, .inl ⟨⟨_, rfl⟩, ?_, hs2.xw⟩⟩
    rw [List.take_of_length_le (by simp [hxl])] at i1
    exact ⟨by rw [i1], F', T, by rw [i1]; exact hs2.sx.gin, hs2.sx.ch, hs2.sx.own, hs2.sx.f2, hs2.sx.it, fun q hq => ⟨(hs2.sx.tb q hq).1, (hs2.sx.tb q hq).2.1, (hs2.sx.tb q hq).2.2.2⟩⟩
  case body =>
    rintro l2 ⟨k, i, b⟩ Wr ⟨hkb, Gp, F', T, rb, rc, r, i1, i2, i3, i4, i5, hs⟩ hWl
    simp only at hkb i1 i2 hs
    obtain ⟨hkn, hbk⟩ := bwd_bit hxl hkb
    have hbx2 := HXR.out b (by have := List.mem_of_getElem? hbk; simpa using this)
    have hdr : ∀ q ∈ d, q < 2 * Gp.nodes.length := fun q hq => by
      rw [← hd] at hq
      rcases List.mem_append.1 hq with hq | hq
      · exact i5.lt (HYR.out q hq)
      · rw [List.mem_singleton.1 hq]; have := hs.sx.gin.ok.wf.pos; omega
    have hrr : ∀ q ∈ b :: r.dropLast, q < 2 * Gp.nodes.length := fun q hq => by
      rcases List.mem_cons.1 hq with rfl | hq
      · exact i5.lt hbx2
      · exact i4 q (List.dropLast_subset _ hq)
    have hr1l : (b :: r.dropLast).length = n + 1 := by simp [i3]
    have hgl : ∀ W', Ch (T0 ++ F) w W' → W'.cell? ⟨bG, 0, none⟩ = some (.pointer (some ⟨g, 0, none⟩)) := fun W' hc => (hbg.ch hc hbF.1).cell rfl
    have hcA : Ch [] Wr (Wr.alloc (.cells #[.int .i64 b] 52)) := (Ch.refl _ _).alloc _
    have hrn : row (Wr.alloc (.cells #[.int .i64 b] 52)) 52 1 (.slice (some ⟨Wr.heap.size, 0, none⟩) 1 1) 1 [.int .i64 b] := by
      have := row_fresh (w := Wr) (l := [(b : Int)]) (n := 1) rfl rfl (by omega)
      simpa [intCells] using this
    have hra := hs.rr.ch hcA (by simp)
    have hnews : ∀ j u, (refsCells r.dropLast)[j]? = some u → (Wr.alloc (.cells #[.int .i64 b] 52)).cell? ((⟨rb, 0, none⟩ : Addr).add j) = some u := fun j u hu => by
      refine hra.cells (g := rb) rfl j u ?_
      have hj := (List.getElem?_eq_some_iff.1 hu).1
      unfold refsCells at hu ⊢
      rw [List.getElem?_map] at hu ⊢
      rw [List.getElem?_dropLast] at hu
      split at hu
      · exact hu
      · cases hu
    have hone : ∀ u ∈ refsCells r.dropLast, u.oneCell' = true := fun u hu => by
      obtain ⟨q, _, rfl⟩ := List.mem_map.1 hu
      rfl
    have hnl : (refsCells r.dropLast).length = n := by simp [refsCells, i3]
    have hc6 := (hs.c6.ch hcA (by simp)).cell (i := 0) rfl
    have hrc := row_cap' hs.rr
    have HS := Lib.hid hs; clear hs
    have HRN := Lib.hid hrn; clear hrn hra
    have HNEW := Lib.hid hnews; clear hnews
    have HONE := Lib.hid hone; clear hone
    have HCA := Lib.hid hcA; clear hcA
    have HDR := Lib.hid hdr; clear hdr
    have HRR := Lib.hid hrr; clear hrr
    have HGL := Lib.hid hgl; clear hgl
    have I1 := Lib.hid i1; clear i1
    have I2 := Lib.hid i2; clear i2
    have I4 := Lib.hid i4; clear i4
    have I5 := Lib.hid i5; clear i5
    have HBK := Lib.hid hbk; clear hbk hkb
    have HWR := Lib.hid hWl; clear hWl
    have e1 : (n : Int) + 1 - 1 = (n : Int) := by omega
    refine wpIn_block ?_
    refine wpIn_seq ?_
    refine Ord.plainR (by kernel_rfl) ?_
    go_wp2_with (at_builtin; go_loud (refine wpList_append_row slRefs rfl _ _ rfl (v := .slice (some ⟨Wr.heap.size, 0, none⟩) 1 1) (n := 1) (xs := [.int .i64 b]) rfl HRN.out (ad := ⟨rb, 0, none⟩) (m := n) (c := rc) (news := refsCells r.dropLast) rfl (by rw [hnl]; omega) HNEW.out HONE.out (by omega) (by omega) ?_; intro v' w5 hown4 hC4 hf4; rw [Nat.add_comm 1 n] at hown4; obtain ⟨rb', rc', rfl⟩ := row.parts hown4 (by omega); have HO4 := Lib.hid hown4; clear hown4; have HCC4 := Lib.hid hC4; clear hC4; have HF4 := Lib.hid hf4; clear hf4; have c66 := ((HS.out.c6.ch HCA.out (by simp)).ch HCC4.out (fun hm => by have := HS.out.c6.lt; simp at hm; omega)).cell (i := 0) rfl; have f66 := ((HS.out.c6.ch HCA.out (by simp)).ch HCC4.out (fun hm => by have := HS.out.c6.lt; simp at hm; omega)).frozen (i := 0)))
    refine ⟨rfl, ?_⟩
    obtain ⟨W2, hW2⟩ : ∃ W2, W2 = w5.setCell ⟨b5 + 1 + 1, 0, none⟩ (.slice (some ⟨rb', 0, none⟩) (n + 1) rc') := ⟨_, rfl⟩
    rw [← hW2]
    have hC45 : Ch [] Wr w5 := HCA.out.trans HCC4.out (fun q hq => .inr (by simp at hq; omega))
    have hrbn : Wr.heap.size ≤ rb' := by
      rcases HF4.out rb' rfl with e | e
      · simp at e; omega
      · have := HCA.out.size; omega
    have hro4 : row w5 52 1 (.slice (some ⟨rb', 0, none⟩) (n + 1) rc') (n + 1) (refsCells (b :: r.dropLast)) := HO4.out
    have hs2 := HS.out.move HI.out HXX.out hC45 hro4 hrbn hW2
    have hbk2 : Books (b5 + 4) Wr W2 := by
      have hcw : Ch [b5 + 1 + 1] Wr W2 := by rw [hW2]; exact (hC45.mono (by simp)).setCell (.inl (by simp)) _
      exact Books.of_ch hcw HWR.out (fun q hq => by simp at hq; omega)
    have HBK2 := Lib.hid hbk2; clear hbk2
    clear hW2 c66 f66 hc6 HNEW HONE HRN HO4 HCC4 HF4 HCA hro4 hC45 hrbn HS
    obtain ⟨r1, hr1⟩ : ∃ r1, b :: r.dropLast = r1 := ⟨_, rfl⟩
    rw [hr1] at hs2 HRR hr1l
    have hdrow : row W2 52 1 (.slice (some ⟨db, 0, none⟩) (n + 1) dc) d.length (refsCells d) := by rw [hdl]; exact hs2.rd
    have hrrow : row W2 52 1 (.slice (some ⟨rb', 0, none⟩) (n + 1) rc') r1.length (refsCells r1) := by rw [hr1l]; exact hs2.rr
    have hsm := hs2.sx.gin.ok.small
    have hle := sLeR hs2.sx.gin (n + 1) hdl hr1l (by omega) (by omega) (wv_of_row hdrow hdl (fun q hq => by cases hq; exact (hs2.sx.mine db (by simp)).2.1) (by omega) (fun q hq => by have := HDR.out q hq; omega)) (wv_of_row hrrow hr1l (fun q hq => by cases hq; exact (hs2.sx.mine rb' (by simp)).2.1) (by omega) (fun q hq => by have := HRR.out q hq; omega)) HDR.out HRR.out
    have hLf := leR_full hs2.sx.gin.ok HDR.out HRR.out
    have hq0 : divL d (divF d (G, 0) (x.reverse.take k)) b = rstep (Gp, 0) (leR Gp d r1) := by
      unfold divL; rw [I1.out, I2.out, hr1]
    obtain ⟨L, hL⟩ : ∃ L, leR Gp d r1 = L := ⟨_, rfl⟩
    rw [hL] at hle hLf hq0
    have c0 := HGL.out W2 hs2.sx.ch
    have c5 := hs2.c5.cell (i := 0) rfl
    have c6 := hs2.c6.cell (i := 0) rfl
    have HLE := Lib.hid hle; clear hle
    have HLF := Lib.hid hLf; clear hLf
    have HQ0 := Lib.hid hq0; clear hq0
    have HS2 := Lib.hid hs2; clear hs2 hdrow hrrow
    refine wpIn_seq ?_
    gi_wp2
    refine ⟨trivial, (CallsIn.inRound l2 ((callsIn_wide (n := _)).2 HLE.out)).mono ?_⟩
    rintro e w6 ⟨rfl, hto⟩
    obtain ⟨F6, hs6⟩ := HS2.out.to HI.out HXX.out hto
    have hbk6 := HBK2.out.trans (HS2.out.booksTo hto)
    have HBK6 := Lib.hid hbk6; clear hbk6
    have HS6 := Lib.hid hs6; clear hs6 hto HLE c0 c5 c6
    gi_wp2
    refine ⟨trivial, (CallsIn.inRound l2 ((callsIn_wide (n := _)).2 (mdmustR_is w6 (L.2.1 : Int) L.2.2))).mono ?_⟩
    rintro e w7 ⟨rfl, ⟨h0, rfl⟩ | ⟨h0, rfl⟩⟩
    rotate_left
    · have hL1 := HLF.out.keep h0
      have hR := divF_stopL (d := d) (s := (G, 0)) HBK.out (e := L.2.2) h0 (by rw [HQ0.out, rstep_no rfl h0])
      have hst := HS6.out.stop (I5.out.trans HLF.out.ok.ext) h0 hR
      have HST := Lib.hid hst; clear hst hR hL1
      gi_wp2
      exact .inr ⟨_, rfl, trivial, HBK6.out, HST.out⟩
    have hL0 : L.2.2 = 0 := h0
    have hDR6 : ∀ q ∈ d, q < 2 * L.1.nodes.length := fun q hq => HLF.out.ok.ext.lt (HDR.out q hq)
    have hRR6 : ∀ q ∈ r1, q < 2 * L.1.nodes.length := fun q hq => HLF.out.ok.ext.lt (HRR.out q hq)
    have hs6 := HS6.out
    have hsm6 := hs6.sx.gin.ok.small
    have hdrow : row w6 52 1 (.slice (some ⟨db, 0, none⟩) (n + 1) dc) d.length (refsCells d) := by rw [hdl]; exact hs6.rd
    have hrrow : row w6 52 1 (.slice (some ⟨rb', 0, none⟩) (n + 1) rc') r1.length (refsCells r1) := by rw [hr1l]; exact hs6.rr
    have hsub := sSubR hs6.sx.gin (n + 1) hr1l hdl (by omega) (by omega) (wv_of_row hrrow hr1l (fun q hq => by cases hq; exact (hs6.sx.mine rb' (by simp)).2.1) (by omega) (fun q hq => by have := hRR6 q hq; omega)) (wv_of_row hdrow hdl (fun q hq => by cases hq; exact (hs6.sx.mine db (by simp)).2.1) (by omega) (fun q hq => by have := hDR6 q hq; omega)) hRR6 hDR6
    have hSok := subR_wok hs6.sx.gin.ok hRR6 hDR6
    have hSln := subR_len (G := L.1) hr1l hdl
    have hq1 : divD d (divF d (G, 0) (x.reverse.take k)) b = wstep (L.1, 0) (subR L.1 r1 d) := by
      unfold divD; rw [HQ0.out, rstep_ok rfl hL0, I2.out, hr1]
    have hq2 : (divL d (divF d (G, 0) (x.reverse.take k)) b).2 = L.2.1 := by rw [HQ0.out, rstep_ok rfl hL0]
    obtain ⟨S, hS⟩ : ∃ S, subR L.1 r1 d = S := ⟨_, rfl⟩
    rw [hS] at hsub hSok hSln hq1
    have c0 := HGL.out w6 hs6.sx.ch
    have c5 := hs6.c5.cell (i := 0) rfl
    have c6 := hs6.c6.cell (i := 0) rfl
    have HSUB := Lib.hid hsub; clear hsub
    have HSOK := Lib.hid hSok; clear hSok
    have HSLN := Lib.hid hSln; clear hSln
    have HQ1 := Lib.hid hq1; clear hq1
    have HQ2 := Lib.hid hq2; clear hq2
    have hL00 : L.2.2 = 0 := hL0
    clear hs6 hdrow hrrow HS2 hDR6 hS
    have HRR6 := Lib.hid hRR6; clear hRR6
    gi_wp2
    refine ⟨trivial, (CallsIn.inRound l2 ((callsIn_wide (n := _)).2 HSUB.out)).mono ?_⟩
    rintro e w8 ⟨v, rfl, F8, g1, g2, g3, g4, g5, g6⟩
    have g2 : Ch F6 w6 w8 := by simpa using g2
    have hs8 := HS6.out.to2 HI.out HXX.out g1 g2 g3 g4
    have hbk8 := HBK6.out.trans (HS6.out.booksTo ⟨F8, g1, g2, g3, g4⟩)
    obtain ⟨sa, sc, rfl⟩ := row.shape g5
    have hsz6 : ∀ q ∈ T, q < w6.heap.size := fun q hq => (HS6.out.sx.tb q hq).2.2.2
    have hsm6' : ∀ q ∈ [rb', b4, b5, b5 + 1 + 1, b5 + 3, db], q < w6.heap.size := fun q hq => (HS6.out.sx.mine q hq).2.2.2.2
    have hsB : w.heap.size + 2 ≤ w6.heap.size ∧ b5 + 4 + 2 ≤ w6.heap.size := ⟨HS6.out.hw, HS6.out.hB⟩
    have HBK8 := Lib.hid hbk8; clear hbk8
    have HS8 := Lib.hid hs8; clear hs8 g1 g2 g3 g4 HSUB c0 c5 c6
    have G5 := Lib.hid g5; clear g5
    have G6 := Lib.hid g6; clear g6
    gi_wp2
    refine ⟨trivial, (CallsIn.inRound l2 ((callsIn_wide (n := _)).2 (mdmustW_is w8 sa S.2.1.length sc S.2.2))).mono ?_⟩
    rintro e w9 ⟨rfl, ⟨h0, rfl⟩ | ⟨h0, rfl⟩⟩
    rotate_left
    · have hR := divF_stopD (d := d) (s := (G, 0)) HBK.out (e := S.2.2) h0 (by rw [HQ1.out, wstep_no rfl h0])
      have hst := HS8.out.stop ((I5.out.trans HLF.out.ok.ext).trans HSOK.out.ext) h0 hR
      have HST := Lib.hid hst; clear hst hR
      gi_wp2
      exact .inr ⟨_, rfl, trivial, HBK8.out, HST.out⟩
    have hS0 : S.2.2 = 0 := h0
    have hSl := HSLN.out hS0
    have hrS := G5.out
    rw [hSl] at hrS ⊢
    obtain ⟨sb, hsb0⟩ : ∃ sb, sa = some ⟨sb, 0, none⟩ := by
      obtain ⟨q, c, e⟩ := row.parts hrS (by omega)
      cases e
      exact ⟨_, rfl⟩
    subst hsb0
    have hsb : w6.heap.size ≤ sb ∧ sb ∉ F8 := G6.out sb rfl
    obtain ⟨Z, hZ⟩ : ∃ Z, S.2.1.zip r1 = Z := ⟨_, rfl⟩
    have hZl : Z.length = n + 1 := by rw [← hZ, List.length_zip]; omega
    have HRS := Lib.hid hrS; clear hrS G5 G6
    have hq3 : divM d (divF d (G, 0) (x.reverse.take k)) b = chF L.2.1 (S.1, 0) Z := by
      unfold divM; rw [HQ1.out, HQ2.out, wstep_ok rfl hS0, I2.out, hr1, hZ]
    have HQ3 := Lib.hid hq3; clear hq3
    have HZ := Lib.hid hZ; clear hZ
    have hf2 : L.2.1 < 2 * S.1.nodes.length := HSOK.out.ext.lt HLF.out.ok.lt
    have HF2 := Lib.hid hf2; clear hf2
    gi_wp2
    gi_loopw [48] (fun i wr => ∃ (j : Nat) (Gq : Gra) (mm F2 : List Nat), j ≤ n + 1 ∧ i = .int .i64 j ∧ chF L.2.1 (S.1, 0) (Z.take j) = ((Gq, 0), mm) ∧ (∀ q ∈ mm, q < 2 * Gq.nodes.length) ∧ SR w g F T0 I X (b5 + 4) b4 b5 (b5 + 1 + 1) (b5 + 3) db dc (.func (.yield lp) #[] #[]) (.slice xa n xc) n d wr Gq F2 T k rb' rc' (mm ++ r1.drop j) ∧ row wr 52 1 (.slice (some ⟨sb, 0, none⟩) (n + 1) sc) (n + 1) (refsCells S.2.1) ∧ sb ∉ F2 ∧ Books (b5 + 4) Wr wr ∧ Ext S.1 Gq) (fun i _ => n + 1 - (intOf i).toNat)
    case atStart => exact ⟨0, S.1, [], F8, by omega, rfl, rfl, by simp, HS8.out, HRS.out, hsb.2, HBK8.out, .refl _⟩
    case round =>
      obtain ⟨j, Gq, mm, F2, hj, rfl, heq, hmm, hs, hsr, hsF, hbk, hexq⟩ := hrel
      have hmml : mm.length = j := by
        have h9 := eachF_lenT (fun s a b => sMux s L.2.1 a b) (S.1, 0) (Z.take j)
        have h8 : eachF (fun s a b => sMux s L.2.1 a b) (S.1, 0) (Z.take j) = ((Gq, 0), mm) := heq
        rw [h8, List.length_take] at h9
        have h9 : mm.length = min j Z.length := h9
        omega
      by_cases hjn : j < n + 1
      · obtain ⟨a, ha⟩ : ∃ a, S.2.1[j]? = some a := ⟨_, List.getElem?_eq_getElem (by omega)⟩
        obtain ⟨c, hc⟩ : ∃ c, r1[j]? = some c := ⟨_, List.getElem?_eq_getElem (by omega)⟩
        have hzj : Z[j]? = some (a, c) := by rw [← HZ.out, List.getElem?_zip_eq_some]; exact ⟨ha, hc⟩
        have hat : (mm ++ r1.drop j)[j]? = some c := by rw [List.getElem?_append_right (by omega), hmml, Nat.sub_self, List.getElem?_drop, Nat.add_zero, hc]
        have s0 := row_at2 hsr (show (refsCells S.2.1)[j]? = some (.int .i64 a) by simp [refsCells, ha])
        have hal := hexq.lt (HSOK.out.lt a (List.mem_of_getElem? ha))
        have hcl := hexq.lt (HSOK.out.ext.lt (HRR6.out c (List.mem_of_getElem? hc)))
        have hfl := hexq.lt HF2.out
        have hMf := rMux_full hs.sx.gin.ok hfl hal hcl
        have hsn : Z.take (j + 1) = Z.take j ++ [(a, c)] := by rw [List.take_add_one, hzj]; rfl
        have hnx := chF_snoc L.2.1 (S.1, 0) (Z.take j) (a, c)
        rw [heq, ← hsn] at hnx
        have hset : ∀ v, (mm ++ r1.drop j).set j v = (mm ++ [v]) ++ r1.drop (j + 1) := fun v => by
          rw [List.set_append_right _ _ (by omega), hmml, Nat.sub_self]
          have hd2 : r1.drop j = c :: r1.drop (j + 1) := by
            have hlt := (List.getElem?_eq_some_iff.1 hc).1
            rw [List.drop_eq_getElem_cons hlt]
            congr 1
            exact (List.getElem?_eq_some_iff.1 hc).2
          rw [hd2, List.set_cons_zero, List.append_assoc]
          rfl
        have hsmq := hs.sx.gin.ok.small
        have hMux : ∀ W', Ch [] wr W' → Calls Tryz.prog 115 #[.pointer (some ⟨g, 0, none⟩), .int .i64 L.2.1, .int .i64 a, .int .i64 c] W' fun e w' => e = .returned (.tuple #[.int .i64 (rMux Gq L.2.1 a c).2.1, .int .i64 (rMux Gq L.2.1 a c).2.2]) ∧ GTo W' g (rMux Gq L.2.1 a c).1 F2 w' := fun W' hc' => by
          have := Mux_g (hs.sx.gin.same hc' (by simp)) (L.2.1 : Int) (a : Int) (c : Int) (by omega) (by omega) (by omega)
          rw [doMux_r hfl hal hcl] at this
          exact this
        obtain ⟨M, hM⟩ : ∃ M, rMux Gq L.2.1 a c = M := ⟨_, rfl⟩
        have hopm : sMux (Gq, 0) L.2.1 a c = rstep (Gq, 0) M := by rw [← hM]; rfl
        rw [hM] at hMf
        simp only [hM] at hMux
        have HMUX := Lib.hid hMux; clear hMux
        have HMF := Lib.hid hMf; clear hMf
        have HNX := Lib.hid hnx; clear hnx
        have HSET := Lib.hid hset; clear hset
        have HAT := Lib.hid hat; clear hat
        have HSQ := Lib.hid hs; clear hs
        have HSR := Lib.hid hsr; clear hsr
        have HBQ := Lib.hid hbk; clear hbk
        have HEQ := Lib.hid heq; clear heq
        have HOPM := Lib.hid hopm; clear hopm
        have HMM := Lib.hid hmm; clear hmm
        have HEXQ := Lib.hid hexq; clear hexq
        have HSN := Lib.hid hsn; clear hsn
        have s0' : wr.cell? ⟨sb, j, none⟩ = some (.int .i64 a) := s0
        clear hal hcl hfl ha hc hzj hM s0
        gi_wp2
        refine Ord.OrdP.St.doorR (QP := fun c W' => Books (b5 + 4) Wr W' ∧ DP2 w g F T0 G X (b5 + 4) (divF d (G, 0) x.reverse).1.2 c W') (fun w' => w'.cell? ⟨b5 + 1 + 1, 0, none⟩ = some (.slice (some ⟨rb', 0, none⟩) (n + 1) rc')) [.ho, .fl, .rd, .fl, .fl, .rd, .fl, .fl, .rd, .ef, .fl, .fl, .ef, .fl, .ef] [0, 0, 0, 0, 0, 0, 0, 96, 224, 508, 1020, 1020, 4092, 8191, 16383] [0, 1, 2, 3, 4, 5, 6, 7, 8, 9, 10, 11, 12, 13, 14] mixed (by kernel_rfl) (by kernel_rfl) rfl (fun c a w hd hq => Or.inr ⟨c, rfl, hd, hq⟩) ?_
        obtain ⟨Wc, hWc⟩ : ∃ Wc, Wc = wr.drew := ⟨_, rfl⟩
        rw [← hWc]
        have hcur : Ch [] wr Wc := by rw [hWc]; exact (Ch.refl _ _).drew
        clear hWc
        have hsc := HSQ.out.same HI.out HXX.out hcur (by simp)
        have c0 := HGL.out Wc hsc.sx.ch
        have c6 := hsc.c6.cell (i := 0) rfl
        have c8 : Wc.cell? ⟨rb', j, none⟩ = some (.int .i64 c) := row_at2 hsc.rr (by unfold refsCells; rw [List.getElem?_map, HAT.out]; rfl)
        have hmux := HMUX.out Wc hcur
        have HMUX2 := Lib.hid hmux; clear hmux HMUX
        have HSC := Lib.hid hsc; clear hsc
        have HCUR := Lib.hid hcur; clear hcur
        refine Ord.OrdP.St.ho2 (T' := ?_) 0 [1, 2, 3, 4, 5, 6, 7, 8, 9, 10, 11, 12, 13, 14] _ _ rfl (by kernel_rfl) rfl rfl rfl rfl ?_ (fun K w' hw' hk => ?_) ?_
        rotate_left
        · exact c6
        · have q1 := hw'; go_step; exact hk
        refine Ord.OrdP.St.fl2 (T' := ?_) 1 [2, 3, 4, 5, 6, 7, 8, 9, 10, 11, 12, 13, 14] _ _ rfl (by kernel_rfl) rfl rfl rfl rfl (fun K w' hk => ?_) ?_
        rotate_left
        · go_step; exact hk
        refine Ord.OrdP.St.rd2 (T' := ?_) 2 [3, 4, 5, 6, 7, 8, 9, 10, 11, 12, 13, 14] _ _ rfl (by kernel_rfl) rfl rfl rfl rfl (fun K hk => ?_) ?_
        rotate_left
        · go_step; exact hk
        refine Ord.OrdP.St.fl2 (T' := ?_) 3 [4, 5, 6, 7, 8, 9, 10, 11, 12, 13, 14] _ _ rfl (by kernel_rfl) rfl rfl rfl rfl (fun K w' hk => ?_) ?_
        rotate_left
        · go_step; exact hk
        refine Ord.OrdP.St.fl2 (T' := ?_) 4 [5, 6, 7, 8, 9, 10, 11, 12, 13, 14] _ _ rfl (by kernel_rfl) rfl rfl rfl rfl (fun K w' hk => ?_) ?_
        rotate_left
        · go_step; exact hk
        refine Ord.OrdP.St.rd2 (T' := ?_) 5 [6, 7, 8, 9, 10, 11, 12, 13, 14] _ _ rfl (by kernel_rfl) rfl rfl rfl rfl (fun K hk => ?_) ?_
        rotate_left
        · go_step; exact hk
        refine Ord.OrdP.St.fl2 (T' := ?_) 6 [7, 8, 9, 10, 11, 12, 13, 14] _ _ rfl (by kernel_rfl) rfl rfl rfl rfl (fun K w' hk => ?_) ?_
        rotate_left
        · go_step; exact hk
        refine Ord.OrdP.St.fl2 (T' := ?_) 7 [8, 9, 10, 11, 12, 13, 14] _ _ rfl (by kernel_rfl) rfl rfl rfl rfl (fun K w' hk => ?_) ?_
        rotate_left
        · go_step; exact hk
        refine Ord.OrdP.St.rd2 (T' := ?_) 8 [9, 10, 11, 12, 13, 14] _ _ rfl (by kernel_rfl) rfl rfl rfl rfl (fun K hk => ?_) ?_
        rotate_left
        · go_step; exact hk
        refine Ord.OrdP.St.efC 9 [10, 11, 12, 13, 14] _ rfl (by kernel_rfl) (fun K hK => ?_)
        go_wp2_with fail
        refine HMUX2.out.mono ?_
        rintro e w10 ⟨rfl, hto⟩
        obtain ⟨F10, a1, a2, a3, a4⟩ := hto
        have hs10 := HSC.out.to2 HI.out HXX.out a1 a2 a3 a4
        have hbk10 : Books (b5 + 4) Wr w10 := (HBQ.out.trans (Books.of_ch HCUR.out HSQ.out.hB (by simp))).trans (HSC.out.booksTo ⟨F10, a1, a2, a3, a4⟩)
        have hsr10 := (HSR.out.ch HCUR.out (by simp)).ch a2 (fun q hq => by cases hq; exact hsF)
        have hsF10 : sb ∉ F10 := fun hm => (a3 sb hm).elim hsF (fun e => by have h1 : sb < wr.heap.size := (HSR.out.lt sb rfl).2; have h2 := HCUR.out.size; omega)
        clear a1 a2 a3 a4 c0 c6 c8 HMUX2
        have c6 := hs10.c6.cell (i := 0) rfl
        have HS10 := Lib.hid hs10; clear hs10
        have HBK10 := Lib.hid hbk10; clear hbk10
        have HSR10 := Lib.hid hsr10; clear hsr10
        have HSF10 := Lib.hid hsF10; clear hsF10
        have HMU := Lib.hid (mdmustR_is w10 (M.2.1 : Int) M.2.2)
        go_wp2_with fail
        refine .inl ⟨rfl, hK _ _ ?_ ?_⟩
        · exact c6
        clear hK K
        refine Ord.OrdP.St.fl2 (T' := ?_) 10 [11, 12, 13, 14] _ _ rfl (by kernel_rfl) rfl rfl rfl rfl (fun K w' hk => ?_) ?_
        rotate_left
        · go_step; exact hk
        refine Ord.OrdP.St.fl2 (T' := ?_) 11 [12, 13, 14] _ _ rfl (by kernel_rfl) rfl rfl rfl rfl (fun K w' hk => ?_) ?_
        rotate_left
        · go_step; exact hk
        refine Ord.OrdP.St.efC 12 [13, 14] _ rfl (by kernel_rfl) (fun K hK => ?_)
        go_wp2_with fail
        refine HMU.out.mono ?_
        rintro e w11 ⟨rfl, ⟨h0, rfl⟩ | ⟨h0, rfl⟩⟩
        rotate_left
        · have hMk := HMF.out.keep h0
          have hnx := HNX.out
          unfold eachS at hnx
          simp only [HOPM.out, rstep_no (s := (Gq, 0)) rfl h0] at hnx
          have hb2 := chF_bad L.2.1 (S.1, 0) (Z.take (j + 1)) (by rw [hnx]; exact h0) (Z.drop (j + 1))
          rw [List.take_append_drop, hnx] at hb2
          have hR := divF_stop (d := d) (s := (G, 0)) HBK.out (e := M.2.2) h0 (by show (divM d (divF d (G, 0) (x.reverse.take k)) b).1.2 = _; rw [HQ3.out, hb2])
          exact .inr ⟨_, rfl, rfl, HBK10.out, HS10.out.stop (((I5.out.trans HLF.out.ok.ext).trans HSOK.out.ext).trans (HEXQ.out.trans HMF.out.ok.ext)) h0 hR⟩
        have hM0 : M.2.2 = 0 := h0
        have f10 := row_fz HS10.out.rr (by omega) j
        have c10 := row_at2 HS10.out.rr (show (refsCells (mm ++ r1.drop j))[j]? = some (.int .i64 c) by unfold refsCells; rw [List.getElem?_map, HAT.out]; rfl)
        go_wp2_with fail
        refine .inl ⟨rfl, hK _ _ ?_ ?_⟩
        · exact c6
        clear hK K
        refine Ord.OrdP.St.fl2 (T' := ?_) 13 [14] _ _ rfl (by kernel_rfl) rfl rfl rfl rfl (fun K w' hk => ?_) ?_
        rotate_left
        · go_step; exact hk
        refine Ord.OrdP.St.ef 14 [] _ rfl (by kernel_rfl) (fun K hK => ?_)
        go_wp2_with fail
        refine .inl ⟨rfl, hK _ _ ?_⟩; clear hK K
        refine Ord.OrdP.St.nil ?_
        gi_wp2
        have hs12 := HS10.out.put HI.out HXX.out j M.2.1
        rw [HSET.out] at hs12
        have hsr12 := HSR10.out.ch (F := [rb']) ((Ch.refl [rb'] w10).setCell (p := ⟨rb', j, none⟩) (.inl (by simp)) (.int .i64 M.2.1)) (fun q hq => by cases hq; simp; have := hsm6' rb' (by simp); omega)
        have hbk12 : Books (b5 + 4) Wr (w10.setCell ⟨rb', j, none⟩ (.int .i64 M.2.1)) := HBK10.out.trans (Books.of_ch ((Ch.refl [rb'] w10).setCell (p := ⟨rb', j, none⟩) (.inl (by simp)) (.int .i64 M.2.1)) HS10.out.hB (fun q hq => by have := (HS10.out.sx.mine rb' (by simp)).2.2.2.1; simp at hq; omega))
        have hnx := HNX.out
        unfold eachS at hnx
        simp only [HOPM.out, rstep_ok (s := (Gq, 0)) rfl hM0] at hnx
        have HS12 := Lib.hid hs12; clear hs12
        have HSR12 := Lib.hid hsr12; clear hsr12
        have HBK12 := Lib.hid hbk12; clear hbk12
        have HNX2 := Lib.hid hnx; clear hnx
        clear f10 c10 c6
        gi_wp2
        go_roundw
        case rel =>
          refine ⟨j + 1, M.1, mm ++ [M.2.1], F10, by omega, by go_num, HNX2.out, fun q hq => ?_, HS12.out, HSR12.out, HSF10.out, HBK12.out, HEXQ.out.trans HMF.out.ok.ext⟩
          rcases List.mem_append.1 hq with hq | hq
          · exact HMF.out.ok.ext.lt (HMM.out q hq)
          · rw [List.mem_singleton.1 hq]; exact HMF.out.ok.lt
        case measure => simp [intOf]; omega
      · have hjn1 : j = n + 1 := by omega
        subst hjn1
        rw [List.take_of_length_le (by omega)] at heq
        rw [List.drop_eq_nil_of_le (by omega), List.append_nil] at hs
        have hd1 : divF d (G, 0) (x.reverse.take (k + 1)) = ((Gq, 0), (divF d (G, 0) (x.reverse.take k)).2.1 ++ [L.2.1], mm) := by
          rw [divF_next HBK.out]
          unfold divS
          rw [HQ3.out, HQ2.out, heq]
        have hxg : Ext G Gq := ((I5.out.trans HLF.out.ok.ext).trans HSOK.out.ext).trans hexq
        have hkx : KX w F T0 I d G x.reverse n ⟨k, T, wr, L.2.1, rb', rc', mm⟩ wr := by
          refine ⟨Ch.refl _ _, hs.sx.ch, hs.sx.it, hs.rr, ⟨(hs.sx.mine rb' (by simp)).2.2.1, (hs.sx.mine rb' (by simp)).1⟩, fun q hq => ?_, hs.hw, hkn, by rw [hd1], hmml, fun z hz => by have := hmm z hz; have := hs.sx.gin.ok.small; omega⟩
          obtain ⟨t1, t2, t3, t4⟩ := hs.sx.tb q hq
          refine ⟨?_, ?_, t4, t1.imp (fun e => e.1) id⟩
          · rcases t1 with t1 | t1 <;> omega
          · rcases t1 with t1 | t1 <;> omega
        obtain ⟨fn, tmps, assign, body, hy1, hRound⟩ := HYY.out _ _ hkx hs.xw
        have hRnd := RoundIn.any 1 hRound l2
        simp only [sEnc] at hy1
        have c4 := hs.c4.cell (i := 0) rfl
        have c6 := hs.c6.cell (i := 0) rfl
        have HS := Lib.hid hs; clear hs
        have HRND := Lib.hid hRnd; clear hRnd hRound
        have HD1 := Lib.hid hd1; clear hd1
        have HMM := Lib.hid hmm; clear hmm
        have HBK9 := Lib.hid hbk; clear hbk
        clear hkx heq hsr
        gi_wp2
        refine HRND.out.mono ?_
        rintro e W9 ⟨rfl, ⟨T', t1, t2, t3⟩, hxw⟩
        have hs9 := HS.out.next t1 t2 (fun q hq => (t3 q hq).1) (fun q hq => (t3 q hq).2) hxw
        have hbk9 : Books (b5 + 4) Wr W9 := HBK9.out.trans (Books.of_ch t2 HS.out.hB (fun q hq => by
          simp only [List.mem_cons] at hq
          have := HWR.out
          rcases hq with e | e | e
          · omega
          · omega
          · have := (HS.out.sx.tb q e).2.2.1; omega))
        have HS9 := Lib.hid hs9; clear hs9 t1 t2 t3
        have HBK99 := Lib.hid hbk9; clear hbk9 c4 c6 hy1
        gi_wp2
        exact .inl ⟨trivial, HBK99.out, Gq, F2, T', rb', rc', mm, by rw [HD1.out], by rw [HD1.out], hmml, HMM.out, hxg, HS9.out⟩
end
end Go.Proofs.YtehljgigebhddaaGreat
namespace Go.Proofs.YtehljgigebhddaaGreat
open Go.RowKit Go.Mem Go.Aig
attribute [local go_sem] Oper.semAt_some
/-- what the loop keeps: the quotient so far, what is left -/
def QI (bq be : Nat) (d : List Nat) (G : Gra) (bits : List Nat) (n : Nat) (k : Nat) (T : List Nat) (W : World) : Prop :=
  ∃ qv ev, T = bq :: be :: (qv.ownBlock.toList ++ ev.ownBlock.toList) ∧ blk W bq [qv] ∧ blk W be [ev] ∧ row W 52 1 qv k (refsCells (divF d (G, 0) (bits.take k)).2.1) ∧ (0 < k → row W 52 1 ev n (refsCells ((divF d (G, 0) (bits.take k)).2.2.take n))) ∧ (∀ q, qv.ownBlock = some q → q ≠ bq ∧ q ≠ be ∧ ev.ownBlock ≠ some q) ∧ (∀ q, ev.ownBlock = some q → q ≠ bq ∧ q ≠ be)
theorem QI.ok (bq be : Nat) (d : List Nat) (G : Gra) (bits : List Nat) (n : Nat) : IOk (QI bq be d G bits n) := ⟨by
  rintro k T A A' L ⟨qv, ev, rfl, h1, h2, h3, h4, h5, h6⟩ hc hL
  have hm : ∀ q ∈ bq :: be :: (qv.ownBlock.toList ++ ev.ownBlock.toList), q ∉ L := fun q hq hm => hL q hm hq
  exact ⟨qv, ev, rfl, h1.ch hc (hm _ (by simp)), h2.ch hc (hm _ (by simp)), h3.ch hc (fun q hq => hm _ (by simp [hq])), fun h0 => (h4 h0).ch hc (fun q hq => hm _ (by simp [hq])), h5, h6⟩⟩
theorem JX.books {w : World} {F T0 : List Nat} {bq be : Nat} {d : List Nat} {G : Gra} {bits : List Nat} {n : Nat} {q : YX} {W A W' : World} (hk : KX w F T0 (QI bq be d G bits n) d G bits n q W) (hj : JX w (QI bq be d G bits n) q A) (hc : Ch [w.heap.size, w.heap.size + 1] A W') : JX w (QI bq be d G bits n) q W' := by
  obtain ⟨_, _, _, _, _, k6, k7, _⟩ := hk
  obtain ⟨T', j1, j2, j3⟩ := hj
  have hs := hc.size
  refine ⟨T', (QI.ok bq be d G bits n).same _ _ _ _ _ j1 hc (fun z hz hm => ?_), j2.trans hc (fun z hz => .inl (by simp at hz; rcases hz with e | e <;> simp [e])), fun z hz => ⟨(j3 z hz).1, by have := (j3 z hz).2; omega⟩⟩
  have hz2 : z = w.heap.size ∨ z = w.heap.size + 1 := by simpa using hz
  rcases (j3 z hm).1 with e | e
  · have := k6 z e; omega
  · omega
theorem fnvmdBoth1 : Fnv 214 := fnv_of Tryz.func214 (by simp [Tryz.f214]) (by simp [Tryz.f214])
/-- what the closure of Both does if it is not stopped -/
def BothD (g n : Nat) (F : List Nat) (R : Mk × List Nat × List Nat) (bq be : Nat) (w w' : World) : Prop :=
  R.1.2 = 0 ∧ ∃ F' qv ev, GIn w' g R.1.1 F' ∧ Ch ([bq, be] ++ F) w w' ∧ (∀ q ∈ F', q ∈ F ∨ w.heap.size ≤ q) ∧ F'[2]? = F[2]? ∧ blk w' bq [qv] ∧ blk w' be [ev] ∧ row w' 52 1 qv n (refsCells R.2.1) ∧ row w' 52 1 ev n (refsCells (R.2.2.take n)) ∧ (∀ q, qv.ownBlock = some q → w.heap.size ≤ q ∧ q ∉ F' ∧ ev.ownBlock ≠ some q) ∧ (∀ q, ev.ownBlock = some q → w.heap.size ≤ q ∧ q ∉ F')
section
variable {w : World} {g : Nat} {G : Gra} {F : List Nat}
set_option maxRecDepth 100000 in
set_option maxHeartbeats 4000000 in
theorem mdBoth1_is (h : GIn w g G F) {x y : List Nat} {xa ya : Option Addr} {xc yc : Nat} (n : Nat) (hxl : x.length = n) (hyl : y.length = n) (h1 : 1 ≤ n) (h16 : n ≤ 16)
    (hx : WVin w F ⟨xa, natInts x, xc⟩) (hy : WVin w F ⟨ya, natInts y, yc⟩) (hxr : ∀ r ∈ x, r < 2 * G.nodes.length) (hyr : ∀ r ∈ y, r < 2 * G.nodes.length)
    {bg bx bY bq be : Nat} (hg : blk w bg [.pointer (some ⟨g, 0, none⟩)]) (hbx : blk w bx [.slice xa n xc]) (hby : blk w bY [.slice ya n yc]) (hbq : blk w bq [.slice none 0 0]) (hbe : blk w be [.slice none 0 0]) (hne : bq ≠ be) (hF : bq ∉ F ∧ be ∉ F) (hap : ∀ q ∈ [bq, be], q ≠ bx ∧ q ∉ ablk xa ∧ q ∉ ablk ya) (hxF : bx ∉ F) :
    Calls Tryz.prog 214 #[.pointer (some ⟨bg, 0, none⟩), .pointer (some ⟨bx, 0, none⟩), .pointer (some ⟨bY, 0, none⟩), .pointer (some ⟨bq, 0, none⟩), .pointer (some ⟨be, 0, none⟩)] w (Stops w g G [bq, be] F (divF (y ++ [0]) (G, 0) x.reverse).1.2 (BothD g n F (divF (y ++ [0]) (G, 0) x.reverse) bq be)) := by
  have c0 := hg.cell (i := 0) rfl
  have c1 := hbx.cell (i := 0) rfl
  have c2 := hby.cell (i := 0) rfl
  obtain ⟨d, hd⟩ : ∃ d, y ++ [0] = d := ⟨_, rfl⟩
  rw [hd]
  have hst := mdsteps_is w g xa ya n xc n yc
  have HST := Lib.hid hst; clear hst
  refine (callsIn_wide (n := 4)).1 ?_
  refine callsIn_of_wp_marks Tryz.func214 rfl trivial ?_ rfl
  simp only [Tryz.ntmps214, List.size_toArray, List.length_cons, List.length_nil, Nat.reduceAdd, Nat.reduceSub, Array.replicate_succ, Array.replicate_zero, List.push_toArray, List.append_toArray, List.nil_append, List.cons_append]
  refine wpIn_wide.2 ?_
  go_wp2_with fail
  refine HST.out.mono ?_
  rintro e w1 ⟨rfl, hw1⟩
  have hc1 : Ch [] w w1 := by rw [hw1]; exact (((Ch.refl _ _).alloc _).alloc _).alloc _
  have hz1 : w1.heap.size = w.heap.size + 3 := by rw [hw1]; simp
  have hb0 : blk w1 w.heap.size [.pointer (some ⟨g, 0, none⟩)] := by rw [hw1]; exact ((blk.new w _ _).alloc _).alloc _
  have hb1 : blk w1 (w.heap.size + 1) [.slice xa n xc] := by rw [hw1]; exact (blk.new' _ _ (by simp)).alloc _
  have hb2 : blk w1 (w.heap.size + 1 + 1) [.slice ya n yc] := by rw [hw1]; exact blk.new' _ _ (by simp)
  clear hw1
  have hFl := h.lt
  have hqlt := hbq.lt
  have helt := hbe.lt
  have hG1 := h.same hc1 (by simp)
  have hins : ∀ {a : Option Addr} {l : List Nat} {c : Nat}, WVin w F ⟨a, natInts l, c⟩ → (∀ q ∈ [bq, be], q ∉ ablk a) → WVin w1 ([bq, be] ++ F) ⟨a, natInts l, c⟩ := fun {a l c} hv ha => ⟨hv.ok.ch hc1 (by simp), fun k hk => by
    obtain ⟨k1, k2⟩ := hv.apart k hk
    refine ⟨fun hm => ?_, by omega⟩
    rcases List.mem_append.1 hm with hm | hm
    · exact ha k hm hk
    · exact k1 hm⟩
  have hi0 : QI bq be (y ++ [0]) G x.reverse n 0 [bq, be] w1 := ⟨.slice none 0 0, .slice none 0 0, by simp [Value.ownBlock], hbq.ch hc1 (by simp), hbe.ch hc1 (by simp), ⟨rfl, .inl ⟨rfl, rfl⟩⟩, by omega, by simp [Value.ownBlock], by simp [Value.ownBlock]⟩
  have hseq := fun (N : Nat) => mdsteps1_seq (T0 := [bq, be]) hG1 n hxl hyl h1 h16 (hins hx (fun q hq => (hap q hq).2.1)) (hins hy (fun q hq => (hap q hq).2.2)) hxr hyr hb0 hb1 hb2 (by
    refine ⟨fun hm => ?_, fun hm => ?_, fun hm => ?_⟩ <;> rcases List.mem_append.1 hm with hm | hm
    · simp at hm; omega
    · have := hFl _ hm; omega
    · simp at hm; omega
    · have := hFl _ hm; omega
    · simp at hm; omega
    · have := hFl _ hm; omega) (QI.ok bq be (y ++ [0]) G x.reverse n) hi0 (fun q hq => by
    simp only [List.mem_cons, List.not_mem_nil, or_false] at hq
    rcases hq with rfl | rfl
    · exact ⟨by omega, hF.1⟩
    · exact ⟨by omega, hF.2⟩) N
  simp only [hd] at hseq hi0
  have HSEQ := Lib.hid hseq; clear hseq
  have hbx1 := hbx.ch hc1 (by simp)
  have hxb : bx ∉ [bq, be] ++ F := fun hm => by
    rcases List.mem_append.1 hm with hm | hm
    · exact (hap bx hm).1 rfl
    · exact hxF hm
  clear hins hb0 hb1 hb2 c0 c1 c2 HST
  go_wp2_with fail
  refine (wpIn_wide (n := 4)).1 ?_
  refine wpIn_rangeFunc_R (n := 4) w1.heap.size rfl rfl (by omega) rfl trivial (fun args w => fnvmdsteps1 args w) (encs := sEnc n) (fun _ => rfl)
    (fun W' => Ch [w1.heap.size, w1.heap.size + 1] w1 W')
    (KX w1 F [bq, be] (QI bq be d G x.reverse n) d G x.reverse n)
    (fun q W' => ∃ A, JX w1 (QI bq be d G x.reverse n) q A ∧ Ch [w1.heap.size, w1.heap.size + 1] A W')
    (fun W' => ∃ A, DX w1 g F [bq, be] (QI bq be d G x.reverse n) (divF d (G, 0) x.reverse) n A ∧ Ch [w1.heap.size, w1.heap.size + 1] A W')
    (fun c W' => DPX w1 g F [bq, be] G (divF d (G, 0) x.reverse).1.2 c W')
    ?seq ?j0 ?k ?j ?d ?pan (Ch.refl _ _) ?a1 ?assign ?body ?done
  case assign =>
    intro q x W K hK
    simp only [sEnc]
    gi_wp2
    exact hK
  case j0 => exact fun A A' h hc => h.trans hc (fun q hq => .inl hq)
  case k => exact fun x A A' h hc => ⟨h.1.trans hc (fun q hq => .inl hq), h.2⟩
  case j => exact fun x A A' ⟨A0, h1, h2⟩ hc => ⟨A0, h1, h2.trans hc (fun q hq => .inl hq)⟩
  case d => exact fun A A' ⟨A0, h1, h2⟩ hc => ⟨A0, h1, h2.trans hc (fun q hq => .inl hq)⟩
  case seq =>
    intro l X hX hXB hY W hcW hXW
    refine (HSEQ.out 3 l X ⟨hX⟩ hXB (fun q W hk hx => YieldAt.any 3 ((hY q W hk hx).mono ?_)) W hcW hXW).mono ?_
    · rintro e W' ⟨rfl, ⟨A, hj, hca⟩, hx⟩
      exact ⟨rfl, hj.books hk hca, hx⟩
    · rintro e W' (⟨hv, hd, hx⟩ | ⟨c, rfl, hp, hx⟩)
      · exact .inl ⟨hv, ⟨W', hd, Ch.refl _ _⟩, hx⟩
      · exact .inr ⟨c, rfl, hp, hx⟩
  case pan =>
    rintro c W1 ⟨p0, rfl, G', F', p1, p2, p3, p4, p5⟩ hK hz
    have hcp : Ch [w1.heap.size] W1 (W1.putObj w1.heap.size (.deferred none)) := ch_put (by simp)
    refine ⟨by simp, .inl ⟨_, _, rfl, run_takeDeferred hK, ?_⟩⟩
    refine .inr ⟨p0, rfl, G', F', p1, p2.same hcp (fun q hq hm => by rcases p4 q hq with e | e <;> (simp at hm; omega)), ?_, fun q hq => (p4 q hq).elim (fun e => .inl e.1) (fun e => .inr (by omega)), p5⟩
    exact ((hc1.mono (by simp)).trans p3 (fun q hq => .inl hq)).trans hcp (fun q hq => .inr (by simp at hq; omega))
  case done =>
    rintro W1 ⟨A, ⟨p0, F', T', p1, p2, p3, p4, p5, p6⟩, hca⟩ hK hz
    obtain ⟨qv, ev, rfl, q1, q2, q3, q4, q5, q6⟩ := p5
    have htk : x.reverse.take n = x.reverse := List.take_of_length_le (by simp [hxl])
    rw [htk] at q3 q4
    have hcp : Ch [w1.heap.size] W1 (W1.putObj w1.heap.size (.deferred none)) := ch_put (by simp)
    have hca2 : Ch [w1.heap.size, w1.heap.size + 1] A (W1.putObj w1.heap.size (.deferred none)) := hca.trans hcp (fun q hq => .inl (by simp at hq; simp [hq]))
    have hnb : ∀ q ∈ bq :: be :: (qv.ownBlock.toList ++ ev.ownBlock.toList), q ∉ [w1.heap.size, w1.heap.size + 1] := fun q hq hm => by
      have hm2 : q = w1.heap.size ∨ q = w1.heap.size + 1 := by simpa using hm
      rcases (p6 q hq).1 with e | e <;> omega
    refine ⟨by simp, .inl ⟨_, _, rfl, run_takeDeferred hK, ?_⟩⟩
    refine ⟨_, results_none rfl _ _ _, .inl ⟨p0, rfl, p0, F', qv, ev, p1.same hca2 (fun q hq hm => ?_), ?_, fun q hq => (p3 q hq).elim (fun e => .inl e.1) (fun e => .inr (by omega)), p4, q1.ch hca2 (hnb _ (by simp)), q2.ch hca2 (hnb _ (by simp)), q3.ch hca2 (fun q hq => hnb _ (by simp [hq])), (q4 h1).ch hca2 (fun q hq => hnb _ (by simp [hq])), fun q hq => ?_, fun q hq => ?_⟩⟩
    · have hm2 : q = w1.heap.size ∨ q = w1.heap.size + 1 := by simpa using hm
      rcases p3 q hq with e | e <;> omega
    · exact ((hc1.mono (by simp)).trans p2 (fun q hq => .inl hq)).trans hca2 (fun q hq => .inr (by simp at hq; omega))
    · obtain ⟨t1, t2, _⟩ := p6 q (by simp [hq])
      refine ⟨?_, t2, (q5 q hq).2.2⟩
      rcases t1 with ⟨e, _⟩ | e
      · have := q5 q hq; simp at e; omega
      · omega
    · obtain ⟨t1, t2, _⟩ := p6 q (by simp [hq])
      refine ⟨?_, t2⟩
      rcases t1 with ⟨e, _⟩ | e
      · have := q6 q hq; simp at e; omega
      · omega
  case body =>
    rintro l2 q W ⟨k1, k2, k3, k4, k5, k6, k7, k8, k9, k10, k11⟩ hWl
    obtain ⟨qv, ev, hT, q1, q2, q3, q4, q5, q6⟩ := (QI.ok bq be d G x.reverse n).same _ _ _ _ _ k3 k1 (fun z hz hm => by have := k6 z hm; simp at hz; omega)
    have hrr := k4.ch k1 (fun z hz => by cases hz; simp; have := k5.2; omega)
    have hrc := row_cap' k4
    have cx := ((hbx1.ch k2 hxb).ch k1 (by have := hbx1.lt; simp; omega)).cell (i := 0) rfl
    obtain ⟨qa, qc, rfl⟩ := row.shape q3
    have hks : q.W.heap.size ≤ W.heap.size := k1.size
    have hcA : Ch [] W (W.alloc (.cells #[.int .i64 q.f] 52)) := (Ch.refl _ _).alloc _
    have hrA := q3.ch hcA (by simp)
    have hbA : blk (W.alloc (.cells #[.int .i64 q.f] 52)) W.heap.size [.int .i64 q.f] := blk.new' _ _ rfl
    have cq := (q1.ch hcA (by simp)).cell (i := 0) rfl
    have cq0 := q1.cell (i := 0) rfl
    have hkn : q.k ≤ 1000000 := by omega
    obtain ⟨k, T, Wq, f, rb, rc, r⟩ := q
    simp only at k1 k2 k3 k4 k5 k6 k7 k8 k9 k10 k11 hT q3 q4 hrr hrc hks hrA cq hbA hcA hkn
    have HRA := Lib.hid hrA; clear hrA
    have HBA := Lib.hid hbA; clear hbA
    have HCA := Lib.hid hcA; clear hcA
    have K1 := Lib.hid k1; clear k1
    have K2 := Lib.hid k2; clear k2
    have K3 := Lib.hid k3; clear k3
    have K5 := Lib.hid k5; clear k5
    have K6 := Lib.hid k6; clear k6
    have K9 := Lib.hid k9; clear k9
    have HRR := Lib.hid hrr; clear hrr k4
    have Q1 := Lib.hid q1; clear q1
    have Q2 := Lib.hid q2; clear q2
    have Q3 := Lib.hid q3; clear q3 q4
    have Q5 := Lib.hid q5; clear q5
    have Q6 := Lib.hid q6; clear q6
    have HT := Lib.hid hT; clear hT
    refine wpIn_block ?_
    refine wpIn_seq ?_
    refine Ord.plainR (by kernel_rfl) ?_
    go_wp2_with (at_builtin; go_loud (refine wpList_append_row slRefs rfl _ _ rfl (v := .slice qa k qc) (n := k) (xs := refsCells (divF d (G, 0) (x.reverse.take k)).2.1) rfl HRA.out (ad := ⟨W.heap.size, 0, none⟩) (m := 1) (c := 1) (news := [.int .i64 f]) rfl rfl (news_blk HBA.out) (by simp [Value.oneCell']) (by omega) (by omega) ?_; intro v' w5 hown4 hC4 hf4; obtain ⟨gb, gc, rfl⟩ := row.parts hown4 (by omega); have HO4 := Lib.hid hown4; clear hown4; have HCC4 := Lib.hid hC4; clear hC4; have HF4 := Lib.hid hf4; clear hf4; have c55 := ((Q1.out.ch HCA.out (by simp)).ch HCC4.out (fun hm => (Q5.out bq (by simpa using hm)).1 rfl)).cell (i := 0) rfl; have f55 := ((Q1.out.ch HCA.out (by simp)).ch HCC4.out (fun hm => (Q5.out bq (by simpa using hm)).1 rfl)).frozen (i := 0)))
    refine ⟨rfl, ?_⟩
    obtain ⟨W6, hW6⟩ : ∃ W6, W6 = w5.setCell ⟨bq, 0, none⟩ (.slice (some ⟨gb, 0, none⟩) (k + 1) gc) := ⟨_, rfl⟩
    rw [← hW6]
    change Code.wpIn _ _ _ _ _ _ _
    have hC5 : Ch (Value.slice qa k qc).ownBlock.toList W w5 := (HCA.out.mono (by simp)).trans HCC4.out (fun z hz => .inl hz)
    have hC56 : Ch [bq] w5 W6 := by rw [hW6]; exact (Ch.refl _ _).setCell (.inl (by simp)) _
    have hC6 : Ch (bq :: (Value.slice qa k qc).ownBlock.toList) W W6 := (hC5.mono (fun z hz => .inl (by simp [hz]))).trans hC56 (fun z hz => .inl (by simp at hz; simp [hz]))
    have hLT : ∀ z ∈ bq :: (Value.slice qa k qc).ownBlock.toList, z ∈ T := fun z hz => by
      rw [HT.out]
      rcases List.mem_cons.1 hz with rfl | hz
      · simp
      · simp [hz]
    have hbxT : bx ∉ T := fun hm => by
      rcases (K6.out bx hm).2.2.2 with e | e
      · exact hxb (List.mem_append_left _ e)
      · have := hbx1.lt; omega
    have hrbT : rb ∉ T := K5.out.1
    have cx6 := (((hbx1.ch K2.out hxb).ch K1.out (by have := hbx1.lt; simp; omega)).ch hC6 (fun hm => hbxT (hLT _ hm))).cell (i := 0) rfl
    have hrr6 := HRR.out.ch hC6 (fun z hz hm => by cases hz; exact hrbT (hLT _ hm))
    have hbe6 := Q2.out.ch hC6 (fun hm => by
      rcases List.mem_cons.1 hm with e | e
      · exact hne e.symm
      · exact (Q5.out be (by simpa using e)).2.1 rfl)
    have hgbn : gb ∈ (Value.slice qa k qc).ownBlock.toList ∨ W.heap.size ≤ gb := by
      rcases HF4.out gb rfl with e | e
      · exact .inl (by simp [e])
      · exact .inr (by have := HCA.out.size; omega)
    have hgq : gb ≠ bq ∧ gb ≠ be := by
      rcases hgbn with e | e
      · have := Q5.out gb (by simpa using e); exact ⟨this.1, this.2.1⟩
      · have := Q1.out.lt; have := Q2.out.lt; omega
    have hq6 : row W6 52 1 (.slice (some ⟨gb, 0, none⟩) (k + 1) gc) (k + 1) (refsCells (divF d (G, 0) (x.reverse.take (k + 1))).2.1) := by
      rw [K9.out]
      have := HO4.out.ch hC56 (fun z hz => by cases hz; simpa using hgq.1)
      simpa [refsCells] using this
    have hbq6 : blk W6 bq [.slice (some ⟨gb, 0, none⟩) (k + 1) gc] := by
      rw [hW6]
      exact ((Q1.out.ch HCA.out (by simp)).ch HCC4.out (fun hm => (Q5.out bq (by simpa using hm)).1 rfl)).set _
    have hslr : Sl W6 (some ⟨rb, 0, none⟩) (natInts r) := Sl.of_row' hrr6 k10 (by omega)
    have hwv : WVok W6 ⟨some ⟨rb, 0, none⟩, natInts (r.take n), rc⟩ := by
      refine ⟨⟨fun i z hz => hslr.cells i z ?_, by simp; omega⟩, fun z hz => ?_, by simp [natInts]; omega⟩
      · simp only [natInts, List.getElem?_map, List.getElem?_take] at hz ⊢
        split at hz
        · exact hz
        · cases hz
      · obtain ⟨u, hu, rfl⟩ := List.mem_map.1 hz
        have := k11 u (List.mem_of_mem_take hu)
        omega
    have hcl := Clref_w hwv n (by simp [natInts]; omega)
    simp only at hcl
    have HCL := Lib.hid hcl; clear hcl
    have HC6 := Lib.hid hC6; clear hC6
    have HQ6 := Lib.hid hq6; clear hq6
    have HBQ6 := Lib.hid hbq6; clear hbq6
    have HBE6 := Lib.hid hbe6; clear hbe6
    have HLT := Lib.hid hLT; clear hLT
    clear hC5 hC56 hW6 c55 f55 hslr hwv hrr6 cq cq0 cx HO4 HCC4 HF4 HBA HRA HCA
    gi_wp2
    refine ⟨trivial, (CallsIn.inRound l2 ((callsIn_wide (n := _)).2 HCL.out)).mono ?_⟩
    rintro e w7 ⟨v, rfl, hv1, hv2, hv3⟩
    obtain ⟨va, vc, rfl⟩ := row.shape hv1
    have hvl : (intCells (natInts (r.take n))).length = n := by simp [intCells, natInts]; omega
    have hve : intCells (natInts (r.take n)) = refsCells (r.take n) := by simp [intCells, natInts, refsCells, Function.comp_def]
    have HV1 := Lib.hid hv1; clear hv1
    have HV2 := Lib.hid hv2; clear hv2
    have HV3 := Lib.hid hv3; clear hv3
    have c7 := (HBE6.out.ch HV3.out (by simp)).cell (i := 0) rfl
    have f7 := (HBE6.out.ch HV3.out (by simp)).frozen (i := 0)
    gi_wp2
    rw [← hz1]
    have hvl2 : (refsCells (r.take n)).length = n := by rw [← hve]; exact hvl
    rw [hvl2]
    have hve1 : row w7 52 1 (.slice va n vc) n (refsCells (r.take n)) := by
      have := HV1.out
      rw [hve, hvl2] at this
      exact this
    have hv2' : ∀ z, (Value.slice va n vc).ownBlock = some z → W6.heap.size ≤ z := fun z hz => by
      have := HV2.out z (by cases va <;> simp_all [Value.ownBlock])
      exact this
    obtain ⟨W8, hW8⟩ : ∃ W8, W8 = w7.setCell ⟨be, 0, none⟩ (.slice va n vc) := ⟨_, rfl⟩
    rw [← hW8]
    have hC78 : Ch [be] w7 W8 := by rw [hW8]; exact (Ch.refl _ _).setCell (.inl (by simp)) _
    have hC68 : Ch [be] W6 W8 := (HV3.out.mono (by simp)).trans hC78 (fun z hz => .inl hz)
    have hgb6 : gb < W6.heap.size := (HQ6.out.lt gb rfl).2
    have hbe6 := HBE6.out.lt
    have hbq6 := HBQ6.out.lt
    have hs68 := hC68.size
    have hs6 := HC6.out.size
    have hbeT : be ∈ T := by rw [HT.out]; simp
    have hC8 : Ch (be :: bq :: (Value.slice qa k qc).ownBlock.toList) W W8 := (HC6.out.mono (fun z hz => .inl (List.mem_cons_of_mem _ hz))).trans hC68 (fun z hz => .inl (by simp at hz; simp [hz]))
    have hL8 : ∀ z ∈ be :: bq :: (Value.slice qa k qc).ownBlock.toList, z ∈ T := fun z hz => by
      rcases List.mem_cons.1 hz with rfl | hz
      · exact hbeT
      · exact HLT.out z hz
    have hrw8 := hve1.ch hC78 (fun z hz => by have := hv2' z hz; simp; omega)
    have hrw8l := fun z hz => (hrw8.lt z hz).2
    refine ⟨Books.of_ch hC8 hWl (fun z hz => by have := K6.out z (hL8 z hz); omega), trivial, W8, ⟨bq :: be :: ((Value.slice (some ⟨gb, 0, none⟩) (k + 1) gc).ownBlock.toList ++ (Value.slice va n vc).ownBlock.toList), ⟨.slice (some ⟨gb, 0, none⟩) (k + 1) gc, .slice va n vc, rfl, ?_, ?_, ?_, fun _ => ?_, fun z hz => ?_, fun z hz => ?_⟩, ?_, fun z hz => ?_⟩, Ch.refl _ _⟩
    · exact HBQ6.out.ch hC68 (by simpa using hne)
    · rw [hW8]; exact (HBE6.out.ch HV3.out (by simp)).set _
    · exact HQ6.out.ch hC68 (fun z hz => by cases hz; simpa using hgq.2)
    · show row W8 52 1 (.slice va n vc) n (refsCells ((divF d (G, 0) (x.reverse.take (k + 1))).2.2.take n))
      rw [K9.out]
      exact hrw8
    · cases hz
      exact ⟨hgq.1, hgq.2, fun hm => by have := hv2' gb hm; omega⟩
    · have := hv2' z hz
      omega
    · exact (K1.out.mono (fun z hz => .inl (by simp at hz; rcases hz with e | e <;> simp [e]))).trans hC8 (fun z hz => .inl (by simp only [List.mem_cons]; exact .inr (.inr (hL8 z hz))))
    · simp only [List.mem_cons, List.mem_append, Option.mem_toList] at hz
      rcases hz with rfl | rfl | hz | hz
      · exact ⟨.inl (HLT.out _ (by simp)), by omega⟩
      · exact ⟨.inl hbeT, by omega⟩
      · cases hz
        refine ⟨?_, by show gb < _; omega⟩
        rcases hgbn with e | e
        · exact .inl (HLT.out gb (List.mem_cons_of_mem _ e))
        · exact .inr (by show Wq.heap.size ≤ gb; omega)
      · exact ⟨.inr (by have := hv2' z hz; show Wq.heap.size ≤ z; omega), hrw8l z hz⟩
end
end Go.Proofs.YtehljgigebhddaaGreat
namespace Go.Aig
/-- what is left of a quotient and a rest -/
def bres (G : Gra) (n : Nat) (R : Mk × List Nat × List Nat) : Gra × (List Nat × List Nat) × Nat := if R.1.2 ≠ 0 then (G, ([], []), R.1.2) else (R.1.1, (R.2.1.reverse, R.2.2.take n), 0)
def bothG (G : Gra) (x y : List Int) : Gra × (List Nat × List Nat) × Nat := if chk24 G [x, y] ≠ 0 then (G, ([], []), chk24 G [x, y]) else bres G x.length (divF (nats y ++ [0]) (G, 0) (nats x).reverse)
end Go.Aig
namespace Go.Proofs.YtehljgigebhddaaGreat
open Go.RowKit Go.Mem Go.Aig
/-- what a function leaves of a graph, with two words of its own -/
def GVV (w : World) (g : Nat) (G : Gra) (F : List Nat) (v1 : Value) (l1 : List Nat) (v2 : Value) (l2 : List Nat) (w' : World) : Prop :=
  ∃ F', GIn w' g G F' ∧ Ch F w w' ∧ (∀ k ∈ F', k ∈ F ∨ w.heap.size ≤ k) ∧ F'[2]? = F[2]? ∧ row w' 52 1 v1 l1.length (refsCells l1) ∧ row w' 52 1 v2 l2.length (refsCells l2) ∧ (∀ k, v1.ownBlock = some k → w.heap.size ≤ k ∧ k ∉ F' ∧ v2.ownBlock ≠ some k) ∧ (∀ k, v2.ownBlock = some k → w.heap.size ≤ k ∧ k ∉ F')
theorem GVV.none {w w' : World} {g : Nat} {G : Gra} {F F' : List Nat} (h1 : GIn w' g G F') (h2 : Ch F w w') (h3 : ∀ k ∈ F', k ∈ F ∨ w.heap.size ≤ k) (h4 : F'[2]? = F[2]?) : GVV w g G F (.slice none 0 0) [] (.slice none 0 0) [] w' :=
  ⟨F', h1, h2, h3, h4, ⟨rfl, .inl ⟨rfl, rfl⟩⟩, ⟨rfl, .inl ⟨rfl, rfl⟩⟩, by simp [Value.ownBlock], by simp [Value.ownBlock]⟩
section
variable {w : World} {g : Nat} {G : Gra} {F : List Nat}
set_option maxRecDepth 100000 in
set_option maxHeartbeats 4000000 in
theorem mdBoth_is (h : GIn w g G F) {x y : WV} (hx : WVin w F x) (hy : WVin w F y) :
    Calls Tryz.prog 105 #[.pointer (some ⟨g, 0, none⟩), x.val, y.val] w fun e w' => ∃ v1 v2, e = .returned (.tuple #[v1, v2, .int .i64 (bothG G x.l y.l).2.2]) ∧ GVV w g (bothG G x.l y.l).1 F v1 (bothG G x.l y.l).2.1.1 v2 (bothG G x.l y.l).2.1.2 w' := by
  have hFl := h.lt
  obtain ⟨xa, xl, xc⟩ := x
  obtain ⟨ya, yl, yc⟩ := y
  simp only [WV.val] at *
  unfold bothG
  have hch := chk24_ok (G := G) (x := xl) (y := yl)
  have hcs := chk24_small G [xl, yl]
  have hmf : ∀ (fn : Fn) (first cap : Array Value) (w : World), (Instr.makeFunc fn first cap).run Tryz.prog w = .ok (.func fn first cap) w := fun _ _ _ _ => rfl
  generalize hc : chk24 G [xl, yl] = cc at *
  have hC : ∀ W, Ch [] w W → ∀ b, blk W b [.slice xa xl.length xc, .slice ya yl.length yc] → Calls Tryz.prog 207 #[.pointer (some ⟨g, 0, none⟩), .slice (some ⟨b, 0, none⟩) 2 2] W fun e w' => e = .returned (.int .i64 cc) ∧ Ch [] W w' := fun W hW b hb => by
    have := mdcheck_is (h.same hW (by simp)) (b := b) (ws := [⟨xa, xl, xc⟩, ⟨ya, yl, yc⟩]) 2 2 rfl (by omega) (fun i z hz => by
      match i, hz with
      | 0, hz => cases hz; exact hb.cell rfl
      | 1, hz => cases hz; exact hb.cell rfl) (fun z hz => by
      simp only [List.mem_cons, List.not_mem_nil, or_false] at hz
      rcases hz with rfl | rfl
      · exact (hx.ch hW).ok
      · exact (hy.ch hW).ok)
    rw [show ([⟨xa, xl, xc⟩, ⟨ya, yl, yc⟩] : List WV).map WV.l = [xl, yl] from rfl, hc] at this
    exact this
  have HC := Lib.hid hC; clear hC
  have HX := Lib.hid hx; clear hx
  have HY := Lib.hid hy; clear hy
  have H := Lib.hid h; clear h
  have HCH := Lib.hid hch; clear hch
  clear hc
  generalize hWW : (if cc ≠ 0 then (G, ([], []), cc) else bres G xl.length (divF (nats yl ++ [0]) (G, 0) (nats xl).reverse) : Gra × (List Nat × List Nat) × Nat) = WW
  have HWW := Lib.hid hWW; clear hWW
  go_enter Tryz.func105, Tryz.ntmps105
  go_wp2_with fail
  refine calls_named fun W0 hW0 => ?_
  have hc0 : Ch [] w W0 := by rw [hW0]; exact ((((Ch.refl _ _).alloc _).alloc _).alloc _).alloc _
  have hbg : blk W0 w.heap.size [.pointer (some ⟨g, 0, none⟩)] := by rw [hW0]; exact (((blk.new w _ _).alloc _).alloc _).alloc _
  have hbx : blk W0 (w.heap.size + 1) [.slice xa xl.length xc] := by rw [hW0]; exact ((blk.new' _ _ (by simp)).alloc _).alloc _
  have hby : blk W0 (w.heap.size + 1 + 1) [.slice ya yl.length yc] := by rw [hW0]; exact (blk.new' _ _ (by simp)).alloc _
  have hbl : blk W0 (w.heap.size + 1 + 1 + 1) [.slice xa xl.length xc, .slice ya yl.length yc] := by rw [hW0]; exact blk.new' _ _ (by simp)
  clear hW0
  refine (HC.out W0 hc0 _ hbl).mono ?_
  rintro e w1 ⟨rfl, hc1⟩
  have hc01 := hc0.trans hc1 (by simp)
  have hbg := hbg.ch hc1 (by simp)
  have hbx := hbx.ch hc1 (by simp)
  have hby := hby.ch hc1 (by simp)
  clear hbl hc0 hc1
  by_cases hcc : cc = 0
  · subst hcc
    obtain ⟨k1, k2, k3, k4, k5, k6, k7⟩ := HCH.out rfl
    have d0 := ((hbg.alloc (.cells #[.slice none 0 0] 45)).alloc (.cells #[.slice none 0 0] 45)).cell (i := 0) rfl
    have hc2 : Ch [] w ((w1.alloc (.cells #[.slice none 0 0] 45)).alloc (.cells #[.slice none 0 0] 45)) := (hc01.alloc _).alloc _
    have hbq : blk ((w1.alloc (.cells #[.slice none 0 0] 45)).alloc (.cells #[.slice none 0 0] 45)) w1.heap.size [.slice none 0 0] := (blk.new _ _ _).alloc _
    have hbe : blk ((w1.alloc (.cells #[.slice none 0 0] 45)).alloc (.cells #[.slice none 0 0] 45)) (w1.heap.size + 1) [.slice none 0 0] := blk.new' _ _ (by simp)
    have hz1 := hc01.size
    have hxap : ∀ q, w.heap.size ≤ q → q ∉ ablk xa ∧ q ∉ ablk ya := fun q hq => ⟨fun hm => by have := (HX.out.apart q hm).2; omega, fun hm => by have := (HY.out.apart q hm).2; omega⟩
    have hbxl := hbx.lt
    have hB := mdbuild_is (H.out.same hc2 (by simp)) 214 #[.pointer (some ⟨w.heap.size, 0, none⟩), .pointer (some ⟨w.heap.size + 1, 0, none⟩), .pointer (some ⟨w.heap.size + 1 + 1, 0, none⟩), .pointer (some ⟨w1.heap.size, 0, none⟩), .pointer (some ⟨w1.heap.size + 1, 0, none⟩)] fnvmdBoth1 [w1.heap.size, w1.heap.size + 1] (fun k hk => by simp at hk ⊢; omega) (divF (nats yl ++ [0]) (G, 0) (nats xl).reverse).1.2 (BothD g xl.length F (divF (nats yl ++ [0]) (G, 0) (nats xl).reverse) w1.heap.size (w1.heap.size + 1)) (fun a b hd => by
      obtain ⟨_, _, _, _, _, q, _⟩ := hd
      exact q) (fun W hW hG => by
      have := mdBoth1_is hG (x := nats xl) (y := nats yl) (xa := xa) (ya := ya) (xc := xc) (yc := yc) xl.length (by simp) (by simp [k1]) k2 k3
        (by rw [k4]; exact HX.out.ch (hc2.trans hW (by simp))) (by rw [k5]; exact HY.out.ch (hc2.trans hW (by simp))) k6 k7 (((hbg.alloc _).alloc _).ch hW (by simp)) (((hbx.alloc _).alloc _).ch hW (by simp)) (by rw [← k1]; exact ((hby.alloc _).alloc _).ch hW (by simp)) (hbq.ch hW (by simp)) (hbe.ch hW (by simp)) (by omega) ⟨fun hm => by have := hFl _ hm; omega, fun hm => by have := hFl _ hm; omega⟩ (fun q hq => by
          simp only [List.mem_cons, List.not_mem_nil, or_false] at hq
          exact ⟨by omega, hxap q (by omega)⟩) (fun hm => by have := hFl _ hm; omega)
      exact this)
    have HB := Lib.hid hB; clear hB
    have hww := HWW.out
    rw [if_neg (by simp)] at hww
    clear HWW
    generalize divF (nats yl ++ [0]) (G, 0) (nats xl).reverse = R at *
    unfold bres at hww
    have HC01 := Lib.hid hc01; clear hc01
    have HBQ := Lib.hid hbq; clear hbq
    have HBE := Lib.hid hbe; clear hbe
    have HC2 := Lib.hid hc2; clear hc2
    clear hbg hbx hby HX HY HCH HC k1 k4 k5 k6 k7 hxap
    go_wp2_with fail
    refine HB.out.mono ?_
    rintro e w2 ⟨rfl, ⟨h0, bk, W1, W2, hb1, hb2, hW1, ⟨_, F', qv, ev, p1, p2, p3, p4, p5, p6, p7, p8, p9, p10⟩, hc2⟩ | ⟨h0, F', q1, q2, q3, q4⟩⟩
    · rw [if_neg (by simpa using h0)] at hww
      subst hww
      have hzc := HC2.out.size
      have hz2 : ((w1.alloc (.cells #[.slice none 0 0] 45)).alloc (.cells #[.slice none 0 0] 45)).heap.size = w1.heap.size + 2 := by simp
      rw [hz2] at hb1
      have hzW := hW1.size
      rw [hz2] at hzW
      have hnk : ∀ q, q < w1.heap.size + 2 → q ∉ [bk] := fun q hq hm => by simp at hm; omega
      have r1 := p5.ch hc2 (hnk _ (by omega))
      have r2 := p6.ch hc2 (hnk _ (by omega))
      have r3 := p7.ch hc2 (fun q hq hm => by have := (p9 q hq).1; simp at hm; omega)
      have r4 := p8.ch hc2 (fun q hq hm => by have := (p10 q hq).1; simp at hm; omega)
      have hFk : ∀ q ∈ F', q ∉ [bk] := fun q hq hm => by
        simp at hm
        rcases p3 q hq with e | e
        · have := hFl q e; omega
        · omega
      have hG2 := p1.same hc2 hFk
      obtain ⟨qb, qc, rfl⟩ := row.parts r3 (by omega)
      obtain ⟨ea, ec, rfl⟩ := row.shape r4
      have hql : R.2.1.length = xl.length := by have := r3.1; simpa [refsCells] using this
      have hel : (R.2.2.take xl.length).length = xl.length := by have := r4.1; simpa [refsCells] using this
      have hrev := Revref_some r3 (by omega)
      have hqb := p9 qb rfl
      have d1 := r1.cell (i := 0) rfl
      have hqbn : qb ≠ w1.heap.size ∧ qb ≠ w1.heap.size + 1 := by have := hqb.1; constructor <;> omega
      have hc12 : Ch F w w2 := by
        have h1 := ((HC2.out.trans hW1 (by simp)).mono (F' := [w1.heap.size, w1.heap.size + 1] ++ F) (by simp)).trans p2 (fun q hq => .inl hq)
        have h2 := h1.trans hc2 (fun q hq => .inr (by simp at hq; omega))
        refine h2.mono (fun q hq => ?_)
        rcases List.mem_append.1 hq with e | e
        · right; simp at e; omega
        · exact .inl e
      have HREV := Lib.hid hrev; clear hrev
      have R1 := Lib.hid r1; clear r1
      have R2 := Lib.hid r2; clear r2
      have R4 := Lib.hid r4; clear r4 r3
      have HG2 := Lib.hid hG2; clear hG2
      have HC12 := Lib.hid hc12; clear hc12
      have P9 := Lib.hid p9; clear p9
      have P10 := Lib.hid p10; clear p10
      have P3 := Lib.hid p3; clear p3
      have P4 := Lib.hid p4; clear p4
      clear p1 p2 p5 p6 p7 p8 hc2 hFk
      rw [h0]
      go_wp2_with fail
      refine HREV.out.mono ?_
      rintro e w3 ⟨⟨v, rfl⟩, hr3, hc3⟩
      have e1 := (R1.out.ch hc3 (by simpa using fun e => hqbn.1 e.symm)).cell (i := 0) rfl
      have e2 := (R2.out.ch hc3 (by simpa using fun e => hqbn.2 e.symm)).cell (i := 0) rfl
      have hfin : GVV w g R.1.1 F (.slice (some ⟨qb, 0, none⟩) xl.length qc) R.2.1.reverse (.slice ea xl.length ec) (R.2.2.take xl.length) w3.drew := by
        have hcd : Ch [qb] w2 w3.drew := hc3.trans (Ch.refl [] _).drew (by simp)
        refine ⟨F', HG2.out.same hcd (fun q hq hm => hqb.2.1 (by simp at hm; rw [← hm]; exact hq)), HC12.out.trans hcd (fun q hq => .inr (by simp at hq; have := hqb.1; omega)), fun q hq => (P3.out q hq).imp id (fun e => by omega), P4.out, ?_, ?_, fun q hq => ?_, fun q hq => ?_⟩
        · rw [List.length_reverse, hql]
          exact hr3.ch (Ch.refl [] _).drew (by simp)
        · rw [hel]
          exact R4.out.ch hcd (fun q hq hm => by simp at hm; exact hqb.2.2 (by rw [← hm]; exact hq))
        · have := P9.out q hq
          exact ⟨by omega, this.2.1, this.2.2⟩
        · have := P10.out q hq
          exact ⟨by omega, this.2⟩
      have HFIN := Lib.hid hfin; clear hfin hr3 hc3
      go_wp2_with fail
      refine Ord.St.door (fun _ => True) [.rd, .rd, .fl, .fl, .fl] [0, 0, 1, 7, 15] [0, 1, 2, 3, 4] mixed (by kernel_rfl) rfl ?_
      refine Ord.St.rd2 (T' := ?_) 0 [1, 2, 3, 4] _ _ rfl (by kernel_rfl) rfl rfl rfl rfl (fun K hk => ?_) ?_
      rotate_left
      · go_step; exact hk
      refine Ord.St.rd2 (T' := ?_) 1 [2, 3, 4] _ _ rfl (by kernel_rfl) rfl rfl rfl rfl (fun K hk => ?_) ?_
      rotate_left
      · go_step; exact hk
      refine Ord.St.fl2 (T' := ?_) 2 [3, 4] _ _ rfl (by kernel_rfl) rfl rfl rfl rfl (fun K w' hk => ?_) ?_
      rotate_left
      · go_step; exact hk
      refine Ord.St.fl2 (T' := ?_) 3 [4] _ _ rfl (by kernel_rfl) rfl rfl rfl rfl (fun K w' hk => ?_) ?_
      rotate_left
      · go_step; exact hk
      refine Ord.St.fl2 (T' := ?_) 4 [] _ _ rfl (by kernel_rfl) rfl rfl rfl rfl (fun K w' hk => ?_) ?_
      rotate_left
      · go_step; exact hk
      refine Ord.St.nil ?_
      go_wp2_with fail
      go_ret3
      exact ⟨_, _, rfl, HFIN.out⟩
    · have he : ((R.1.2 : Int) != 0) = true := by simp; omega
      rw [if_pos h0] at hww
      subst hww
      have hzc := HC2.out.size
      have hgv : GVV w g G F (.slice none 0 0) [] (.slice none 0 0) [] w2 := by
        refine GVV.none q1 ((HC2.out.mono (by simp)).trans q2 (fun k hk => ?_)) (fun k hk => (q3 k hk).imp id (fun e => by omega)) q4
        rcases List.mem_append.1 hk with hk | hk
        · right; simp at hk; omega
        · exact .inl hk
      have HGV := Lib.hid hgv
      clear hgv q1 q2 q3 q4
      go_wp2_with fail
      go_ret3
      exact ⟨_, _, rfl, HGV.out⟩
  · have hq : ((cc : Int) != 0) = true := by simp; omega
    have hgv : GVV w g G F (.slice none 0 0) [] (.slice none 0 0) [] w1 := GVV.none (H.out.same hc01 (by simp)) (hc01.mono (by simp)) (fun k hk => .inl hk) rfl
    have HGV := Lib.hid hgv; clear hgv hc01 hbg hbx hby HX HY HCH HC
    have hww := HWW.out
    rw [if_pos hcc] at hww
    subst hww
    have HQ := Lib.hid hcc; clear hcc
    go_wp2_with fail
    go_ret3
    exact ⟨_, _, rfl, HGV.out⟩
end
end Go.Proofs.YtehljgigebhddaaGreat
namespace Go.Aig
/-- the product of a word and a constant -/
def timesG (G : Gra) (x : List Int) (n : Nat) : Gra × List Nat × Nat := if chk24 G [x] ≠ 0 then (G, [], chk24 G [x]) else mulG G x (natInts (constL n x.length))
theorem chk24_one {G : Gra} {x : List Int} (h : chk24 G [x] = 0) : 1 ≤ x.length ∧ x.length ≤ 16 ∧ natInts (nats x) = x ∧ ∀ r ∈ nats x, r < 2 * G.nodes.length := by
  unfold chk24 at h
  split at h
  · cases h
  · rename_i h1
    split at h
    · cases h
    · rename_i h2
      simp only [List.any_cons, List.any_nil, Bool.or_false, List.headD_cons, Bool.not_eq_true] at h1 h2
      have hx := badIn_no h2
      unfold bad24 at h1
      simp only [Bool.or_eq_false_iff, decide_eq_false_iff_not] at h1
      exact ⟨by omega, by omega, hx.1, hx.2⟩
end Go.Aig
namespace Go.Proofs.YtehljgigebhddaaGreat
open Go.RowKit Go.Mem Go.Aig
section
variable {w : World} {g : Nat} {G : Gra} {F : List Nat}
set_option maxRecDepth 100000 in
set_option maxHeartbeats 1000000 in
theorem mdDiv_is (h : GIn w g G F) {x y : WV} (hx : WVin w F x) (hy : WVin w F y) :
    Calls Tryz.prog 109 #[.pointer (some ⟨g, 0, none⟩), x.val, y.val] w fun e w' => ∃ v, e = .returned (.tuple #[v, .int .i64 (bothG G x.l y.l).2.2]) ∧ GVo w g (bothG G x.l y.l).1 [] F v (bothG G x.l y.l).2.1.1 w' := by
  have HB := mdBoth_is h hx hy
  generalize bothG G x.l y.l = R at *
  unfold WV.val at *
  clear h hx hy
  go_enter Tryz.func109, Tryz.ntmps109
  go_wp2_with fail
  refine HB.mono ?_
  rintro e w' ⟨v1, v2, rfl, F', g1, g2, g3, g4, g5, g6, g7, g8⟩
  have hgv : GVo w g R.1 [] F v1 R.2.1.1 w' := ⟨F', g1, by simpa using g2, g3, g4, g5, fun k hk => ⟨(g7 k hk).1, (g7 k hk).2.1⟩⟩
  obtain ⟨a1, c1, rfl⟩ := row.shape g5
  obtain ⟨a2, c2, rfl⟩ := row.shape g6
  have HV := Lib.hid hgv; clear hgv g1 g2 g3 g4 g5 g6 g7 g8
  go_wp2_with fail
  go_ret2
  exact ⟨_, rfl, HV.out⟩
set_option maxRecDepth 100000 in
set_option maxHeartbeats 1000000 in
theorem mdRem_is (h : GIn w g G F) {x y : WV} (hx : WVin w F x) (hy : WVin w F y) :
    Calls Tryz.prog 110 #[.pointer (some ⟨g, 0, none⟩), x.val, y.val] w fun e w' => ∃ v, e = .returned (.tuple #[v, .int .i64 (bothG G x.l y.l).2.2]) ∧ GVo w g (bothG G x.l y.l).1 [] F v (bothG G x.l y.l).2.1.2 w' := by
  have HB := mdBoth_is h hx hy
  generalize bothG G x.l y.l = R at *
  unfold WV.val at *
  clear h hx hy
  go_enter Tryz.func110, Tryz.ntmps110
  go_wp2_with fail
  refine HB.mono ?_
  rintro e w' ⟨v1, v2, rfl, F', g1, g2, g3, g4, g5, g6, g7, g8⟩
  have hgv : GVo w g R.1 [] F v2 R.2.1.2 w' := ⟨F', g1, by simpa using g2, g3, g4, g6, fun k hk => g8 k hk⟩
  obtain ⟨a1, c1, rfl⟩ := row.shape g5
  obtain ⟨a2, c2, rfl⟩ := row.shape g6
  have HV := Lib.hid hgv; clear hgv g1 g2 g3 g4 g5 g6 g7 g8
  go_wp2_with fail
  go_ret2
  exact ⟨_, rfl, HV.out⟩
set_option maxRecDepth 100000 in
set_option maxHeartbeats 1000000 in
theorem mdSquare_is (h : GIn w g G F) {x : WV} (hx : WVin w F x) (hxc : x.l.length ≤ x.c) :
    Calls Tryz.prog 111 #[.pointer (some ⟨g, 0, none⟩), x.val] w fun e w' => ∃ v, e = .returned (.tuple #[v, .int .i64 (mulG G x.l x.l).2.2]) ∧ GVo w g (mulG G x.l x.l).1 [] F v (mulG G x.l x.l).2.1 w' := by
  have HB := mdMul_is h hx hx hxc
  generalize mulG G x.l x.l = R at *
  unfold WV.val at *
  clear h hx
  go_enter Tryz.func111, Tryz.ntmps111
  go_wp2_with fail
  refine HB.mono ?_
  rintro e w' ⟨v, rfl, hgv⟩
  obtain ⟨va, vc, rfl⟩ : ∃ va vc, v = .slice va R.2.1.length vc := by
    obtain ⟨_, _, _, _, _, hr, _⟩ := hgv
    exact row.shape hr
  have HV := Lib.hid hgv; clear hgv
  go_wp2_with fail
  go_ret2
  exact ⟨_, rfl, HV.out⟩
set_option maxRecDepth 100000 in
set_option maxHeartbeats 2000000 in
theorem mdTimes_is (h : GIn w g G F) {x : WV} (hx : WVin w F x) (hxc : x.l.length ≤ x.c) (n : Nat) (hn : n < 4294967296) :
    Calls Tryz.prog 104 #[.pointer (some ⟨g, 0, none⟩), x.val, .int .u32 n] w fun e w' => ∃ v, e = .returned (.tuple #[v, .int .i64 (timesG G x.l n).2.2]) ∧ GVo w g (timesG G x.l n).1 [] F v (timesG G x.l n).2.1 w' := by
  have hFl := h.lt
  obtain ⟨xa, xl, xc⟩ := x
  simp only [WV.val] at *
  unfold timesG
  have hch := chk24_one (G := G) (x := xl)
  have hcs := chk24_small G [xl]
  generalize hc : chk24 G [xl] = cc at *
  have hC : ∀ W, Ch [] w W → ∀ b, blk W b [.slice xa xl.length xc] → Calls Tryz.prog 207 #[.pointer (some ⟨g, 0, none⟩), .slice (some ⟨b, 0, none⟩) 1 1] W fun e w' => e = .returned (.int .i64 cc) ∧ Ch [] W w' := fun W hW b hb => by
    have := mdcheck_is (h.same hW (by simp)) (b := b) (ws := [⟨xa, xl, xc⟩]) 1 1 rfl (by omega) (fun i z hz => by
      match i, hz with
      | 0, hz => cases hz; exact hb.cell rfl) (fun z hz => by
      simp only [List.mem_cons, List.not_mem_nil, or_false] at hz
      rcases hz with rfl
      exact (hx.ch hW).ok)
    rw [show ([⟨xa, xl, xc⟩] : List WV).map WV.l = [xl] from rfl, hc] at this
    exact this
  have HC := Lib.hid hC; clear hC
  have HX := Lib.hid hx; clear hx
  have H := Lib.hid h; clear h
  have HCH := Lib.hid hch; clear hch
  clear hc
  generalize hWW : (if cc ≠ 0 then (G, [], cc) else mulG G xl (natInts (constL n xl.length)) : Gra × List Nat × Nat) = WW
  have HWW := Lib.hid hWW; clear hWW
  go_enter Tryz.func104, Tryz.ntmps104
  go_wp2_with fail
  refine calls_named fun W0 hW0 => ?_
  have hc0 : Ch [] w W0 := by rw [hW0]; exact (Ch.refl _ _).alloc _
  have hbl : blk W0 w.heap.size [.slice xa xl.length xc] := by rw [hW0]; exact blk.new' _ _ (by simp)
  clear hW0
  refine (HC.out W0 hc0 _ hbl).mono ?_
  rintro e w1 ⟨rfl, hc1⟩
  have hc01 := hc0.trans hc1 (by simp)
  clear hbl hc0 hc1
  by_cases hcc : cc = 0
  · subst hcc
    obtain ⟨k1, k2, k3, k4⟩ := HCH.out rfl
    have hww := HWW.out
    rw [if_neg (by simp)] at hww
    have hrw : rightW (xl.length : Int) = true := by unfold rightW; simp; omega
    have hco := sConst_is (w := w1) n hn (xl.length : Int)
    rw [hrw] at hco
    simp only [if_true, Int.toNat_natCast] at hco
    have HCO := Lib.hid hco; clear hco
    have HC01 := Lib.hid hc01; clear hc01
    clear HC HCH HWW
    go_wp2_with fail
    refine HCO.out.mono ?_
    rintro e w2 ⟨v, rfl, hv1, hv2, hv3⟩
    have hcl : (refsCells (constL n xl.length)).length = xl.length := by simp [refsCells, constL]
    rw [hcl] at hv1
    obtain ⟨va, vc, rfl⟩ := row.shape hv1
    have hc02 := HC01.out.trans hv3 (by simp)
    have hz := HC01.out.size
    have hcnl : (constL n xl.length).length = xl.length := by simp [constL]
    have hyin : WVin w2 F ⟨va, natInts (constL n xl.length), vc⟩ := wv_of_row (by rw [hcnl]; exact hv1) hcnl (fun k hk hm => by have := hv2 k (by simp [hk]); have := hFl k hm; omega) (by omega) (fun r hr => by have := constL_le n xl.length r hr; omega)
    have hmul := mdMul_is (H.out.same hc02 (by simp)) (HX.out.ch hc02) hyin hxc
    simp only [WV.val, natInts_len, hcnl] at hmul
    rw [hww] at hmul
    have HMUL := Lib.hid hmul; clear hmul
    have HC02 := Lib.hid hc02; clear hc02 hv1 hv2 hv3 hyin
    go_wp2_with fail
    refine HMUL.out.mono ?_
    rintro e w3 ⟨v, rfl, hgv⟩
    obtain ⟨ua, uc, rfl⟩ : ∃ ua uc, v = .slice ua WW.2.1.length uc := by
      obtain ⟨_, _, _, _, _, hr, _⟩ := hgv
      exact row.shape hr
    have HV := Lib.hid (GVo.since HC02.out hgv); clear hgv
    go_wp2_with fail
    go_ret2
    exact ⟨_, rfl, HV.out⟩
  · have hq : ((cc : Int) != 0) = true := by simp; omega
    have hgv : GVo w g G [] F (.slice none 0 0) [] w1 := GVo.none H.out hc01
    have HGV := Lib.hid hgv; clear hgv hc01 HX HCH HC
    have hww := HWW.out
    rw [if_pos hcc] at hww
    subst hww
    have HQ := Lib.hid hcc; clear hcc
    go_wp2_with fail
    go_ret2
    exact ⟨_, rfl, HGV.out⟩
end
end Go.Proofs.YtehljgigebhddaaGreat
namespace Go.Aig
theorem List.snocRec {α : Type} {motive : List α → Prop} (nil : motive []) (snoc : ∀ l x, motive l → motive (l ++ [x])) (l : List α) : motive l := by
  have : ∀ n (l : List α), l.length = n → motive l := by
    intro n
    induction n with
    | zero => intro l hl; rw [List.eq_nil_of_length_eq_zero hl]; exact nil
    | succ n ih =>
      intro l hl
      have hne : l ≠ [] := by intro e; rw [e] at hl; simp at hl
      rw [← List.dropLast_concat_getLast hne]
      exact snoc _ _ (ih _ (by rw [List.length_dropLast]; omega))
  exact this l.length l rfl
/-- the word of a reference, over the words of the nodes; M has all bits -/
def wref (M : Nat) (vs : List Nat) (r : Nat) : Nat := if r % 2 = 1 then M ^^^ vs.getD (r / 2) 0 else vs.getD (r / 2) 0
def wvStep (M : Nat) (s : List Nat × List Nat) (x : Nd) : List Nat × List Nat :=
  if x.k = 3 then (s.1 ++ [wref M s.1 x.l &&& wref M s.1 x.r], s.2) else if x.k = 2 then (s.1 ++ [s.2.headD 0], s.2.tail) else (s.1 ++ [0], s.2)
/-- the words of the nodes, and those of the inputs that are left -/
def wvF (M : Nat) (ins : List Nat) (ns : List Nd) : List Nat × List Nat := ns.foldl (wvStep M) ([], ins)
theorem wvF_snoc (M : Nat) (ins : List Nat) (ns : List Nd) (x : Nd) : wvF M ins (ns ++ [x]) = wvStep M (wvF M ins ns) x := by unfold wvF; rw [List.foldl_append]; rfl
theorem wvF_len (M : Nat) (ins : List Nat) (ns : List Nd) : (wvF M ins ns).1.length = ns.length := by
  induction ns using List.snocRec with
  | nil => rfl
  | snoc ns x ih =>
    rw [wvF_snoc]
    unfold wvStep
    (repeat' split) <;> simp [ih]
theorem wref_ext {M : Nat} {vs more : List Nat} {r : Nat} (h : r < 2 * vs.length) : wref M (vs ++ more) r = wref M vs r := by
  unfold wref
  rw [List.getD_eq_getElem?_getD, List.getD_eq_getElem?_getD, List.getElem?_append_left (by omega)]
theorem wref_bit {N k : Nat} (hk : k < N) (vs : List Nat) (r : Nat) : (wref (2 ^ N - 1) vs r).testBit k = rv (vs.map fun v => v.testBit k) r := by
  have hg : (vs.map fun v => v.testBit k).getD (r / 2) false = (vs.getD (r / 2) 0).testBit k := by
    rw [List.getD_eq_getElem?_getD, List.getD_eq_getElem?_getD, List.getElem?_map]
    cases vs[r / 2]? <;> simp
  unfold wref rv
  rw [hg]
  split
  · rename_i h
    rw [Nat.testBit_xor, Nat.testBit_two_pow_sub_one, decide_eq_true hk, decide_eq_true h, Bool.xor_comm]
  · rename_i h
    rw [decide_eq_false h, Bool.xor_false]
/-- bit by bit, the words are what the nodes are for one assignment -/
theorem wvF_bits {N k : Nat} (hk : k < N) (ins : List Nat) (ns : List Nd) :
    (wvF (2 ^ N - 1) ins ns).1.map (fun v => v.testBit k) = (nv (fun i => (ins.getD i 0).testBit k) ns).1 ∧ (wvF (2 ^ N - 1) ins ns).2 = ins.drop (nv (fun i => (ins.getD i 0).testBit k) ns).2 := by
  induction ns using List.snocRec with
  | nil => exact ⟨rfl, rfl⟩
  | snoc ns x ih =>
    obtain ⟨h1, h2⟩ := ih
    rw [wvF_snoc, nv_snoc]
    unfold wvStep nvStep
    split
    · refine ⟨?_, h2⟩
      simp only [List.map_append, List.map_cons, List.map_nil, h1, Nat.testBit_and, wref_bit hk]
    · split
      · refine ⟨?_, ?_⟩
        · simp only [List.map_append, List.map_cons, List.map_nil, h1, h2]
          congr 2
          rw [List.headD_eq_head?_getD, List.head?_drop, List.getD_eq_getElem?_getD]
        · simp only [h2, List.tail_drop]
      · refine ⟨?_, h2⟩
        simp only [List.map_append, List.map_cons, List.map_nil, h1, Nat.zero_testBit]
theorem wv_bv {N k : Nat} (hk : k < N) (ins : List Nat) (ns : List Nd) (r : Nat) : (wref (2 ^ N - 1) (wvF (2 ^ N - 1) ins ns).1 r).testBit k = bv (fun i => (ins.getD i 0).testBit k) ns r := by
  rw [wref_bit hk, (wvF_bits hk ins ns).1]
  rfl
theorem wref_lt {N : Nat} {vs : List Nat} (h : ∀ v ∈ vs, v < 2 ^ N) (r : Nat) : wref (2 ^ N - 1) vs r < 2 ^ N := by
  have hp : 0 < 2 ^ N := Nat.two_pow_pos N
  have hg : vs.getD (r / 2) 0 < 2 ^ N := by
    rw [List.getD_eq_getElem?_getD]
    cases hq : vs[r / 2]? with
    | none => exact hp
    | some v => exact h v (List.mem_of_getElem? hq)
  unfold wref
  split
  · exact Nat.xor_lt_two_pow (by omega) hg
  · exact hg
theorem wvF_lt {N : Nat} {ins : List Nat} (hi : ∀ v ∈ ins, v < 2 ^ N) (ns : List Nd) : (∀ v ∈ (wvF (2 ^ N - 1) ins ns).1, v < 2 ^ N) ∧ ∀ v ∈ (wvF (2 ^ N - 1) ins ns).2, v < 2 ^ N := by
  have hp : 0 < 2 ^ N := Nat.two_pow_pos N
  induction ns using List.snocRec with
  | nil => exact ⟨by simp [wvF], hi⟩
  | snoc ns x ih =>
    obtain ⟨h1, h2⟩ := ih
    rw [wvF_snoc]
    unfold wvStep
    split
    · refine ⟨fun v hv => ?_, h2⟩
      rcases List.mem_append.1 hv with hv | hv
      · exact h1 v hv
      · rw [List.mem_singleton.1 hv]
        exact Nat.and_lt_two_pow _ (wref_lt h1 _)
    · split
      · refine ⟨fun v hv => ?_, fun v hv => h2 v (List.mem_of_mem_tail hv)⟩
        rcases List.mem_append.1 hv with hv | hv
        · exact h1 v hv
        · rw [List.mem_singleton.1 hv]
          cases hq : (wvF (2 ^ N - 1) ins ns).2 with
          | nil => exact hp
          | cons a l => exact h2 a (by rw [hq]; exact List.mem_cons_self ..)
      · refine ⟨fun v hv => ?_, h2⟩
        rcases List.mem_append.1 hv with hv | hv
        · exact h1 v hv
        · rw [List.mem_singleton.1 hv]; exact hp
/-- how many inputs there are -/
theorem nv_count (env : Nat → Bool) (ns : List Nd) : (nv env ns).2 = (inputs ns).length := by
  have : ∀ (ns : List Nd) (n : Nat), (inputsFrom ns n).length = (ns.filter fun x => x.k == 2).length := by
    intro ns
    induction ns with
    | nil => intro n; rfl
    | cons x ns ih =>
      intro n
      unfold inputsFrom
      split
      · rename_i h; simp [h, ih]
      · rename_i h; simp [h, ih]
  unfold inputs
  rw [this]
  induction ns using List.snocRec with
  | nil => rfl
  | snoc ns x ih =>
    rw [nv_snoc, List.filter_append, List.length_append, ← ih]
    unfold nvStep
    split
    · rename_i h; simp [h]
    · split
      · rename_i h; simp [h]
      · rename_i h; simp [h]
end Go.Aig
namespace Go.Aig
/-- the same, or the same error -/
def SameE {A : Type} (a b : Mk × A) : Prop := a.1.2 = b.1.2 ∧ (a.1.2 = 0 → a = b)
theorem SameE.refl {A : Type} (a : Mk × A) : SameE a a := ⟨rfl, fun _ => rfl⟩
theorem sumF_keep (n : Nat) {s : Mk} (h : s.2 ≠ 0) (l : List (Nat × Nat)) (c : Nat) : (sumW n s l c).1 = s := by
  unfold sumW sumF
  have : ∀ (l : List (Nat × Nat)) (q : Mk × List Nat × Nat), q.1 = s → (l.foldl (sumS n) q).1 = s := by
    intro l
    induction l with
    | nil => intro q h; exact h
    | cons p l ih =>
      intro q hq
      refine ih _ ?_
      unfold sumS
      have e1 : (sXor q.1 p.1 p.2).1 = s := by unfold sXor; rw [hq, rstep_bad h]
      have e2 : (sXor (sXor q.1 p.1 p.2).1 (sXor q.1 p.1 p.2).2 q.2.2).1 = s := by unfold sXor at e1 ⊢; rw [e1, rstep_bad h]
      simp only
      split
      · have e3 : ∀ a b, sAnd s a b = (s, 0) := fun a b => by unfold sAnd; rw [rstep_bad h]
        have e4 : ∀ a b, sOr s a b = (s, 0) := fun a b => by unfold sOr; rw [rstep_bad h]
        rw [e2]
        simp only [e3, e4]
      · exact e2
  exact this l _ rfl
theorem ltF_keep {s : Mk} (h : s.2 ≠ 0) (l : List (Nat × Nat)) : (ltF s l).1 = s := by
  unfold ltF
  have : ∀ (l : List (Nat × Nat)) (q : Mk × Nat), q.1 = s → (l.foldl ltS q).1 = s := by
    intro l
    induction l with
    | nil => intro q h; exact h
    | cons p l ih =>
      intro q hq
      refine ih _ ?_
      have e1 : ∀ a b, sXor s a b = (s, 0) := fun a b => by unfold sXor; rw [rstep_bad h]
      have e2 : ∀ a b c, sMux s a b c = (s, 0) := fun a b c => by unfold sMux; rw [rstep_bad h]
      unfold ltS
      rw [hq]
      simp only [e1, e2]
  exact this l _ rfl
/-- one more bit of the second word, of the reference -/
def rmS (x : List Nat) (q : Mk × List Nat) (p : Nat × Nat) : Mk × List Nat :=
  let A := andsF q.1 p.1 (x.take (x.length - p.2))
  if p.2 = 0 then (A.1, List.replicate p.2 0 ++ A.2) else sumW x.length A.1 (q.2.zip (List.replicate p.2 0 ++ A.2)) 0
def rmF (x : List Nat) (s : Mk) (y : List Nat) : Mk × List Nat := y.zipIdx.foldl (rmS x) (s, [])
theorem rmF_snoc (x : List Nat) (s : Mk) (y : List Nat) (b : Nat) : rmF x s (y ++ [b]) = rmS x (rmF x s y) (b, y.length) := by
  unfold rmF
  rw [List.zipIdx_append, List.foldl_append]
  simp
theorem rmS_len {x : List Nat} {q : Mk × List Nat} {p : Nat × Nat} (hp : p.2 ≤ x.length) (hq : p.2 ≠ 0 → q.2.length = x.length) : (rmS x q p).2.length = x.length := by
  unfold rmS
  simp only
  split
  · simp only [List.length_append, List.length_replicate, andsF_len, List.length_take]
    omega
  · rename_i h
    unfold sumW
    rw [Go.Proofs.YtehljgigebhddaaGreat.sumF_len, List.length_zip]
    simp only [List.length_append, List.length_replicate, andsF_len, List.length_take]
    have := hq h
    omega
theorem rmF_len {x : List Nat} (s : Mk) : ∀ y : List Nat, 1 ≤ y.length → y.length ≤ x.length → (rmF x s y).2.length = x.length := by
  intro y
  induction y using List.snocRec with
  | nil => intro h; simp at h
  | snoc y b ih =>
    intro _ h
    rw [List.length_append] at h
    simp at h
    rw [rmF_snoc]
    exact rmS_len (by show y.length ≤ x.length; omega) (fun h0 => ih (by simp only at h0; omega) (by omega))
theorem rm_same (x : List Nat) {s : Mk} : ∀ y : List Nat, y.length ≤ x.length → SameE (prodF x s y) (rmF x s y) := by
  intro y
  induction y using List.snocRec with
  | nil => intro _; exact .refl _
  | snoc y b ih =>
    intro hy
    rw [List.length_append] at hy
    simp at hy
    have ih := ih (by omega)
    have hl : y.length ≠ 0 → (rmF x s y).2.length = x.length := fun h => rmF_len s y (by omega) (by omega)
    rw [prodF_snoc, rmF_snoc]
    generalize prodF x s y = a at *
    generalize rmF x s y = c at *
    by_cases h0 : a.1.2 = 0
    · have e := ih.2 h0
      subst e
      unfold prodS rmS
      simp only
      split
      · exact .refl _
      · rename_i hk
        generalize andsF a.1 b (x.take (x.length - y.length)) = A at *
        by_cases hA : A.1.2 = 0
        · have hA1 : A.1 = (A.1.1, 0) := by rw [← hA]
          rw [wstep]
          rw [if_neg (by simp [hA])]
          unfold addR
          rw [hl hk, ← hA1]
          generalize sumW x.length A.1 (a.2.zip (List.replicate y.length 0 ++ A.2)) 0 = S
          obtain ⟨⟨sg, se⟩, sl⟩ := S
          unfold wres
          by_cases hS : se = 0
          · subst hS
            exact .refl _
          · rw [if_pos hS, if_pos hS]
            exact ⟨rfl, fun h => absurd h hS⟩
        · rw [wstep_bad hA]
          refine ⟨?_, fun h => absurd h hA⟩
          show A.1.2 = _
          rw [sumF_keep _ hA]
    · have hc : c.1.2 ≠ 0 := by rw [← ih.1]; exact h0
      have e1 := prodS_bad x a (b, y.length) h0
      have e2 : (rmS x c (b, y.length)).1 = c.1 := by
        unfold rmS
        simp only
        split
        · exact andsF_keep hc _ _
        · rw [sumF_keep _ (by rw [andsF_keep hc]; exact hc), andsF_keep hc]
      refine ⟨by rw [e1, e2]; exact ih.1, fun h => ?_⟩
      rw [e1] at h
      exact absurd h h0
/-- one more bit of the quotient, of the reference -/
def rdL (d : List Nat) (q : Mk × List Nat × List Nat) (b : Nat) : Mk × Nat := ((ltF q.1 ((b :: q.2.2.dropLast).zip d)).1, neg (ltF q.1 ((b :: q.2.2.dropLast).zip d)).2)
def rdD (d : List Nat) (q : Mk × List Nat × List Nat) (b : Nat) : Mk × List Nat := sumW (b :: q.2.2.dropLast).length (rdL d q b).1 ((b :: q.2.2.dropLast).zip (d.map neg)) 1
def rdM (d : List Nat) (q : Mk × List Nat × List Nat) (b : Nat) : Mk × List Nat := chF (rdL d q b).2 (rdD d q b).1 ((rdD d q b).2.zip (b :: q.2.2.dropLast))
def rdS (d : List Nat) (q : Mk × List Nat × List Nat) (b : Nat) : Mk × List Nat × List Nat := ((rdM d q b).1, q.2.1 ++ [(rdL d q b).2], (rdM d q b).2)
def rdF (d : List Nat) (s : Mk) (l : List Nat) : Mk × List Nat × List Nat := l.foldl (rdS d) (s, [], List.replicate d.length 0)
theorem rdF_snoc (d : List Nat) (s : Mk) (l : List Nat) (b : Nat) : rdF d s (l ++ [b]) = rdS d (rdF d s l) b := by unfold rdF; rw [List.foldl_append]; rfl
theorem rdS_keep (d : List Nat) (q : Mk × List Nat × List Nat) (b : Nat) (h : q.1.2 ≠ 0) : (rdS d q b).1 = q.1 := by
  have h1 : (rdL d q b).1 = q.1 := ltF_keep h _
  have h2 : (rdD d q b).1 = q.1 := by unfold rdD; rw [h1, sumF_keep _ h]
  show (rdM d q b).1 = q.1
  unfold rdM
  rw [h2, chF_keep _ h]
theorem rd_same (d : List Nat) {s : Mk} : ∀ l : List Nat, SameE (divF d s l) (rdF d s l) := by
  intro l
  induction l using List.snocRec with
  | nil => exact .refl _
  | snoc l b ih =>
    rw [divF_snoc, rdF_snoc]
    generalize divF d s l = a at *
    generalize rdF d s l = c at *
    by_cases h0 : a.1.2 = 0
    · have e := ih.2 h0
      subst e
      have ha : a.1 = (a.1.1, 0) := by rw [← h0]
      have hL : divL d a b = (if (rdL d a b).1.2 = 0 then rdL d a b else (((a.1.1, (rdL d a b).1.2)), 0)) := by
        unfold divL leR rdL rstep
        rw [if_neg (by simp [h0]), ← ha]
        generalize ltF a.1 ((b :: a.2.2.dropLast).zip d) = R
        unfold rres negG
        by_cases hR : R.1.2 = 0
        · simp only [hR, ne_eq, not_true_eq_false, if_false, if_true]
          rw [← hR]
        · simp only [ne_eq, hR, not_false_eq_true, if_true, if_false]
      by_cases hR : (rdL d a b).1.2 = 0
      · rw [if_pos hR] at hL
        have hr1 : (rdL d a b).1 = ((rdL d a b).1.1, 0) := by rw [← hR]
        have hD : divD d a b = (if (rdD d a b).1.2 = 0 then rdD d a b else (((rdL d a b).1.1, (rdD d a b).1.2), [])) := by
          unfold divD subR rdD
          rw [hL, wstep, if_neg (by simp [hR]), ← hr1]
          generalize sumW (b :: a.2.2.dropLast).length (rdL d a b).1 ((b :: a.2.2.dropLast).zip (d.map neg)) 1 = S
          unfold wres
          by_cases hS : S.1.2 = 0
          · simp only [hS, ne_eq, not_true_eq_false, if_false, if_true]
            rw [← hS]
          · simp only [ne_eq, hS, not_false_eq_true, if_true, if_false]
        by_cases hS : (rdD d a b).1.2 = 0
        · rw [if_pos hS] at hD
          have hM : divM d a b = rdM d a b := by unfold divM rdM; rw [hL, hD]
          have : divS d a b = rdS d a b := by unfold divS rdS; rw [hM, hL]
          rw [this]
          exact .refl _
        · rw [if_neg hS] at hD
          have e1 : (divS d a b).1.2 = (rdD d a b).1.2 := by
            show (divM d a b).1.2 = _
            rw [divM_bad d a b (by rw [hD]; exact hS), hD]
          have e2 : (rdS d a b).1.2 = (rdD d a b).1.2 := by
            show (rdM d a b).1.2 = _
            unfold rdM
            rw [chF_keep _ hS]
          exact ⟨by rw [e1, e2], fun h => by rw [e1] at h; exact absurd h hS⟩
      · rw [if_neg hR] at hL
        have e1 : (divS d a b).1.2 = (rdL d a b).1.2 := by
          show (divM d a b).1.2 = _
          have h1 := divD_bad d a b (by rw [hL]; exact hR)
          rw [divM_bad d a b (by rw [h1, hL]; exact hR), h1, hL]
        have e2 : (rdS d a b).1.2 = (rdL d a b).1.2 := by
          show (rdM d a b).1.2 = _
          have h1 : (rdD d a b).1 = (rdL d a b).1 := by unfold rdD; rw [sumF_keep _ hR]
          unfold rdM
          rw [chF_keep _ (by rw [h1]; exact hR), h1]
        exact ⟨by rw [e1, e2], fun h => by rw [e1] at h; exact absurd h hR⟩
    · have hc : c.1.2 ≠ 0 := by rw [← ih.1]; exact h0
      have e1 := divS_bad d a b h0
      have e2 := rdS_keep d c b hc
      exact ⟨by rw [e1, e2]; exact ih.1, fun h => by rw [e1] at h; exact absurd h h0⟩
end Go.Aig
namespace Go.Aig
theorem ltF_preQ {G : Gra} (hG : Ok G) {qe : Nat} (hqe : qe = 0 ∨ qe = 201) {Z : List (Nat × Nat)} (hZ : ∀ p ∈ Z, p.1 < 2 * G.nodes.length ∧ p.2 < 2 * G.nodes.length) (z : List (Nat × Nat)) (hz : ∀ p ∈ z, p ∈ Z) : VOk G (ltF (G, qe) z) := by
  have : ∀ (l : List (Nat × Nat)) (r : Mk × Nat), VOk G r → (∀ p ∈ l, p.1 < 2 * G.nodes.length ∧ p.2 < 2 * G.nodes.length) → VOk G (l.foldl ltS r) := by
    intro l
    induction l with
    | nil => intro r h _; exact h
    | cons p l ih =>
      intro r h hl
      have hp := hl p (by simp)
      obtain ⟨h1, h2, h3⟩ := rstep_sok h.s (Y := rXor r.1.1 p.1 p.2) (fun _ => rXor_full h.s.ok (h.s.ext.lt hp.1) (h.s.ext.lt hp.2))
      obtain ⟨k1, k2, k3⟩ := rstep_sok h1 (Y := rMux (rstep r.1 (rXor r.1.1 p.1 p.2)).1.1 (rstep r.1 (rXor r.1.1 p.1 p.2)).2 p.2 r.2) (fun _ => rMux_full h1.ok h2 (h1.ext.lt hp.2) (h3.lt h.lt))
      exact ih _ ⟨k1, k2⟩ (fun p hp => hl p (by simp [hp]))
  exact this z _ ⟨⟨hG, .refl _, hqe⟩, by have := hG.wf.pos; show 0 < 2 * G.nodes.length; omega⟩ (fun p hp => hZ p (hz p hp))
theorem sumF_cokQ {G : Gra} (hG : Ok G) {q0 : Nat} (hq0 : q0 = 0 ∨ q0 = 201) (n : Nat) {c : Nat} (hc : c < 2 * G.nodes.length) : ∀ (l : List (Nat × Nat)), (∀ p ∈ l, p.1 < 2 * G.nodes.length ∧ p.2 < 2 * G.nodes.length) → SOk G (sumF n (G, q0) l c).1 ∧ (sumF n (G, q0) l c).2.2 < 2 * (sumF n (G, q0) l c).1.1.nodes.length := by
  have key : ∀ (l : List (Nat × Nat)) (q : Mk × List Nat × Nat), SOk G q.1 → q.2.2 < 2 * q.1.1.nodes.length → (∀ p ∈ l, p.1 < 2 * G.nodes.length ∧ p.2 < 2 * G.nodes.length) → SOk G (l.foldl (sumS n) q).1 ∧ (l.foldl (sumS n) q).2.2 < 2 * (l.foldl (sumS n) q).1.1.nodes.length := by
    intro l
    induction l with
    | nil => intro q h h2 _; exact ⟨h, h2⟩
    | cons p l ih =>
      intro q h h2 hl
      have hp := hl p (by simp)
      obtain ⟨_, _, k1, _, _, k2⟩ := sum_chain h hp.1 hp.2 h2 rfl rfl rfl rfl rfl
      have hl2 : ∀ p ∈ l, p.1 < 2 * G.nodes.length ∧ p.2 < 2 * G.nodes.length := fun p hp => hl p (by simp [hp])
      rw [List.foldl_cons]
      unfold sumS
      dsimp only
      split
      · exact ih _ k2.1 k2.2 hl2
      · exact ih _ k1.1 k1.2.1 hl2
  intro l hl
  exact key l _ (⟨hG, .refl _, hq0⟩) hc hl
end Go.Aig
namespace Go.Proofs.YtehljgigebhddaaGreat
open Go.RowKit Go.Mem Go.Aig
section
variable {w : World}
set_option maxRecDepth 100000 in
set_option maxHeartbeats 8000000 in
theorem r23LtQ_is {rb cap : Nat} {G : Gra} (h : RG w rb cap G) {qe : Nat} (hqe : qe = 0 ∨ qe = 201) {xa ya : Option Addr} {X Y : List Nat} (n xc yc : Nat) (hX : Sl w xa (natInts X)) (hY : Sl w ya (natInts Y)) (hn : X.length = n) (hm : Y.length = n) (hn0 : n ≤ 1000) (hxr : ∀ r ∈ X, r < 2 * G.nodes.length) (hyr : ∀ r ∈ Y, r < 2 * G.nodes.length) :
    Calls Tryz.prog 318 #[.agg #[.int .i64 G.most, .slice (some ⟨rb, 0, none⟩) G.nodes.length cap, .int .i64 qe], .slice xa n xc, .slice ya n yc] w (STo w rb (ltF (G, qe) (X.zip Y))) := by
  have hok := h.ok
  obtain ⟨Z, hZ⟩ : ∃ Z, Z = X.zip Y := ⟨_, rfl⟩
  have hZl : Z.length = n := by rw [hZ, List.length_zip, hn, hm]; omega
  have hZlt : ∀ p ∈ Z, p.1 < 2 * G.nodes.length ∧ p.2 < 2 * G.nodes.length := by rw [hZ]; exact fun p hp => ⟨hxr _ (List.of_mem_zip hp).1, hyr _ (List.of_mem_zip hp).2⟩
  have hZG : ∀ (j a b : Nat), Z[j]? = some (a, b) → X[j]? = some a ∧ Y[j]? = some b := fun j a b h => by rw [hZ] at h; exact List.getElem?_zip_eq_some.1 h
  rw [← hZ]
  have hElok := fun z (hz : ∀ p ∈ z, p ∈ Z) => ltF_preQ hok hqe hZlt z hz
  have hEsn := fun z a b => ltF_snoc (G, qe) z (a, b)
  have hE0 : ltF (G, qe) [] = ((G, qe), 0) := rfl
  obtain ⟨E, hE⟩ : ∃ E : List (Nat × Nat) → Mk × Nat, E = ltF (G, qe) := ⟨_, rfl⟩
  rw [← hE] at hElok hEsn hE0 ⊢
  clear hE hZ hxr hyr
  have HX := Lib.hid hX; clear hX
  have HY := Lib.hid hY; clear hY
  have HN := Lib.hid hn; clear hn
  have HMM := Lib.hid hm; clear hm
  have H := Lib.hid h; clear h
  have HELOK := Lib.hid hElok; clear hElok
  have HESN := Lib.hid hEsn; clear hEsn
  have HZL := Lib.hid hZl; clear hZl
  have HZG := Lib.hid hZG; clear hZG
  have HZLT := Lib.hid hZlt; clear hZlt hok
  have HE0 := Lib.hid hE0; clear hE0
  go_enter Tryz.func318, Tryz.ntmps318
  go_wp2_with fail
  refine wp_alw ?_
  intro W0 hW0
  have hst := RSt.start H.out hW0 rfl
  clear hW0
  have HST := Lib.hid hst; clear hst
  go_loopw [8, 9] (fun o i wr => ∃ (j rbk capk : Nat), j ≤ n ∧ i = .int .i64 j ∧ o = .int .i64 (E (Z.take j)).2 ∧ RSt w wr rb rbk capk (E (Z.take j)).1 (.slice none 0 0) []) (fun _ i _ => n - (intOf i).toNat)
  case atStart => exact ⟨0, rb, cap, by omega, rfl, by rw [List.take_zero, HE0.out]; rfl, by rw [List.take_zero, HE0.out]; exact HST.out⟩
  case round =>
    clear HST
    obtain ⟨j, rbk, capk, hj, rfl, ho, hst⟩ := hrel
    by_cases hjn : j < n
    · obtain ⟨⟨a, b⟩, hab⟩ : ∃ p, Z[j]? = some p := ⟨_, List.getElem?_eq_getElem (by rw [HZL.out]; exact hjn)⟩
      obtain ⟨hla, hlb⟩ := HZG.out j a b hab
      obtain ⟨hav, hbv⟩ := HZLT.out _ (List.mem_of_getElem? hab)
      have hsn : Z.take (j + 1) = Z.take j ++ [(a, b)] := by rw [List.take_add_one, hab]; rfl
      have hEs := HESN.out (Z.take j) a b
      rw [← hsn] at hEs
      have hlk := HELOK.out (Z.take j) (fun p hp => List.mem_of_mem_take hp)
      generalize hEE : E (Z.take (j + 1)) = EN at hEs
      generalize E (Z.take j) = ES at hEs hlk hst ho
      obtain ⟨⟨G2, q2⟩, c⟩ := ES
      simp only at hst ho
      subst ho
      have hsl := hlk.s
      have hcl := hlk.lt
      simp only at hsl hcl
      obtain ⟨h1, h2, h3⟩ := rstep_sok hsl (Y := rXor G2 a b) (fun _ => rXor_full hsl.ok (hsl.ext.lt hav) (hsl.ext.lt hbv))
      have ha2 : a < 2 * G2.nodes.length := hsl.ext.lt hav
      have hb2 : b < 2 * G2.nodes.length := hsl.ext.lt hbv
      have hM1 := fun (W : World) (hW : Ch [] wr W) => r23Xor_is (q := q2) (hst.rg.ch hW (by simp)) ha2 hb2
      have hM2 := fun (W : World) (rb3 cap3 : Nat) (hr : RG W rb3 cap3 (rstep (G2, q2) (rXor G2 a b)).1.1) (W' : World) (hW : Ch [] W W') => r23Mux_is (q := (rstep (G2, q2) (rXor G2 a b)).1.2) (hr.ch hW (by simp)) h2 (h1.ext.lt hbv) (h3.lt hcl)
      unfold ltS sXor sMux at hEs
      simp only at hEs
      obtain ⟨⟨⟨G3, q3⟩, p3⟩, hR1⟩ : ∃ R : Mk × Nat, R = rstep (G2, q2) (rXor G2 a b) := ⟨_, rfl⟩
      simp only [← hR1] at hEs hM1 hM2
      obtain ⟨⟨⟨G4, q4⟩, p4⟩, hR2⟩ : ∃ R : Mk × Nat, R = rstep (G3, q3) (rMux G3 p3 b c) := ⟨_, rfl⟩
      simp only [← hR2] at hEs hM2
      subst hEs
      clear hR1 hR2 hlk hsn hab hav hbv ha2 hb2 h1 h2 h3 hsl hcl
      have HEN := Lib.hid hEE; clear hEE
      have HM := Lib.hid hM1; clear hM1
      have HM2 := Lib.hid hM2; clear hM2
      have HST := Lib.hid hst; clear hst
      obtain ⟨ab, ao, ae, ac⟩ := HX.out.cells j (a : Int) (by simp [natInts, hla])
      have a0 : wr.cell? ⟨ab, ao + j, none⟩ = some (.int .i64 a) := (HST.out.ch.cell (cell_lt ac) (by simp)).trans ac
      subst ae
      clear ac
      obtain ⟨bb, bo, be, bc⟩ := HY.out.cells j (b : Int) (by simp [natInts, hlb])
      have b0 : wr.cell? ⟨bb, bo + j, none⟩ = some (.int .i64 b) := (HST.out.ch.cell (cell_lt bc) (by simp)).trans bc
      subst be
      clear bc
      clear hla hlb
      have HA0 := Lib.hid a0; clear a0
      have HB0 := Lib.hid b0; clear b0
      have hrlk := HST.out.rg.lt
      go_upto_region 5 with fail
      go_cut [10, 11] (fun p q wd => TS wr wd rbk ((G3, q3), p3) p q)
      case first =>
        refine Ord.St.door (fun w' => Ch [] wr w') [.ho, .fl, .fl, .fl, .ho, .fl, .fl, .fl, .ho, .ef, .fl, .fl, .fl, .ef, .ef, .fl] [0, 0, 0, 6, 14, 0, 0, 96, 224, 511, 1023, 2047, 2047, 0, 12287, 32767] [0, 1, 2, 3, 4, 5, 6, 7, 8, 9, 10, 11, 12, 13, 14, 15] mixed (by kernel_rfl) rfl ?_
        obtain ⟨Wc, hWc⟩ : ∃ Wc, Wc = wr.drew := ⟨_, rfl⟩
        rw [← hWc]
        have hcur : Ch [] wr Wc := by rw [hWc]; exact (Ch.refl _ _).drew
        clear hWc
        refine Ord.St.ho2 (T' := ?_) 0 [1, 2, 3, 4, 5, 6, 7, 8, 9, 10, 11, 12, 13, 14, 15] _ _ rfl (by kernel_rfl) rfl rfl rfl rfl ?_ (fun K w' hw' hk => ?_) ?_
        rotate_left
        · trivial
        · have hb4 := (HST.out.same hw').b4; have y0 := hb4.cell (i := 0) rfl; have y1 := hb4.cell (i := 1) rfl; have y2 := hb4.cell (i := 2) rfl; have a0 := (hw'.cell (cell_lt HA0.out) (by simp)).trans HA0.out; have b0 := (hw'.cell (cell_lt HB0.out) (by simp)).trans HB0.out; go_step; exact hk
        refine Ord.St.fl2 (T' := ?_) 1 [2, 3, 4, 5, 6, 7, 8, 9, 10, 11, 12, 13, 14, 15] _ _ rfl (by kernel_rfl) rfl rfl rfl rfl (fun K w' hk => ?_) ?_
        rotate_left
        · go_step; exact hk
        refine Ord.St.fl2 (T' := ?_) 2 [3, 4, 5, 6, 7, 8, 9, 10, 11, 12, 13, 14, 15] _ _ rfl (by kernel_rfl) rfl rfl rfl rfl (fun K w' hk => ?_) ?_
        rotate_left
        · go_step; exact hk
        refine Ord.St.fl2 (T' := ?_) 3 [4, 5, 6, 7, 8, 9, 10, 11, 12, 13, 14, 15] _ _ rfl (by kernel_rfl) rfl rfl rfl rfl (fun K w' hk => ?_) ?_
        rotate_left
        · go_step; exact hk
        refine Ord.St.ho2 (T' := ?_) 4 [5, 6, 7, 8, 9, 10, 11, 12, 13, 14, 15] _ _ rfl (by kernel_rfl) rfl rfl rfl rfl ?_ (fun K w' hw' hk => ?_) ?_
        rotate_left
        · trivial
        · have hb4 := (HST.out.same hw').b4; have y0 := hb4.cell (i := 0) rfl; have y1 := hb4.cell (i := 1) rfl; have y2 := hb4.cell (i := 2) rfl; have a0 := (hw'.cell (cell_lt HA0.out) (by simp)).trans HA0.out; have b0 := (hw'.cell (cell_lt HB0.out) (by simp)).trans HB0.out; go_step; exact hk
        refine Ord.St.fl2 (T' := ?_) 5 [6, 7, 8, 9, 10, 11, 12, 13, 14, 15] _ _ rfl (by kernel_rfl) rfl rfl rfl rfl (fun K w' hk => ?_) ?_
        rotate_left
        · go_step; exact hk
        refine Ord.St.fl2 (T' := ?_) 6 [7, 8, 9, 10, 11, 12, 13, 14, 15] _ _ rfl (by kernel_rfl) rfl rfl rfl rfl (fun K w' hk => ?_) ?_
        rotate_left
        · go_step; exact hk
        refine Ord.St.fl2 (T' := ?_) 7 [8, 9, 10, 11, 12, 13, 14, 15] _ _ rfl (by kernel_rfl) rfl rfl rfl rfl (fun K w' hk => ?_) ?_
        rotate_left
        · go_step; exact hk
        refine Ord.St.ho2 (T' := ?_) 8 [9, 10, 11, 12, 13, 14, 15] _ _ rfl (by kernel_rfl) rfl rfl rfl rfl ?_ (fun K w' hw' hk => ?_) ?_
        rotate_left
        · trivial
        · have hb4 := (HST.out.same hw').b4; have y0 := hb4.cell (i := 0) rfl; have y1 := hb4.cell (i := 1) rfl; have y2 := hb4.cell (i := 2) rfl; have a0 := (hw'.cell (cell_lt HA0.out) (by simp)).trans HA0.out; have b0 := (hw'.cell (cell_lt HB0.out) (by simp)).trans HB0.out; go_step; exact hk
        refine Ord.St.two 9 13 [10, 11, 12, 13, 14, 15] [9, 10, 11, 12, 14, 15] _ _ (by kernel_rfl) rfl rfl (by kernel_rfl) (by kernel_rfl) (fun K hK => ?_) (fun K hK => ?_)
        · have HA := Lib.hid (HM.out _ hcur)
          go_wp2_with fail
          refine HA.out.mono ?_
          rintro e w7 ⟨rb2, cap2, rfl, hrg2, hch, hfr3⟩
          go_wp2_with fail
          refine ⟨rfl, hK _ _ ?_ ?_⟩
          · exact hcur.trans hch (by simp)
          clear hK K
          try have hne := rto_ne hb9 (by omega) hfr3
          try replace hb9 := hb9.ch hch (by simp)
          have hfr5 : rb2 = rbk ∨ wr.heap.size ≤ rb2 := by have := hcur.size; rcases hfr3 with e | e <;> omega
          replace hcur := hcur.trans hch (by simp)
          clear hch hfr3 HA
          refine Ord.St.fl2 (T' := ?_) 10 [11, 12, 13, 14, 15] _ _ rfl (by kernel_rfl) rfl rfl rfl rfl (fun K w' hk => ?_) ?_
          rotate_left
          · go_step; exact hk
          refine Ord.St.fl2 (T' := ?_) 11 [12, 13, 14, 15] _ _ rfl (by kernel_rfl) rfl rfl rfl rfl (fun K w' hk => ?_) ?_
          rotate_left
          · go_step; exact hk
          refine Ord.St.fl2 (T' := ?_) 12 [13, 14, 15] _ _ rfl (by kernel_rfl) rfl rfl rfl rfl (fun K w' hk => ?_) ?_
          rotate_left
          · go_step; exact hk
          refine Ord.St.efC 13 [14, 15] _ rfl (by kernel_rfl) (fun K hK => ?_)
          go_wp2_with fail
          refine ⟨rfl, hK _ _ ?_ ?_⟩
          · exact hcur.alloc _
          clear hK K
          refine Ord.St.alw ?_; intro Wn hWn
          have hb9 := alw_blk (xs := [.int .i64 0, .slice none 0 0, .int .i64 0]) hWn
          have hs9 := hcur.size
          try have hne := rg_ne hrg2
          try replace hrg2 := hrg2.ch (alw_ch hWn) (by simp)
          replace hcur := hcur.trans (alw_ch hWn) (by simp)
          clear hWn
          first | (have _t := hrg2; clear _t; generalize w7.heap.size = b9 at *) | generalize Wc.heap.size = b9 at *
          refine Ord.St.ef 14 [15] _ rfl (by kernel_rfl) (fun K hK => ?_)
          have z0 := hb9.cell (i := 0) rfl
          have z1 := hb9.cell (i := 1) rfl
          have z2 := hb9.cell (i := 2) rfl
          have g0 := hb9.frozen (i := 0)
          have g1 := hb9.frozen (i := 1)
          have g2 := hb9.frozen (i := 2)
          have HRG2 := Lib.hid hrg2; clear hrg2
          have HB9 := Lib.hid hb9; clear hb9
          have HCUR := Lib.hid hcur; clear hcur
          go_wp2_with fail
          refine ⟨rfl, hK _ _ ?_⟩; clear hK K
          refine Ord.St.fl2 (T' := ?_) 15 [] _ _ rfl (by kernel_rfl) rfl rfl rfl rfl (fun K w' hk => ?_) ?_
          rotate_left
          · go_step; exact hk
          refine Ord.St.nil ?_
          go_wp2_with fail
          go_meet
          case rel => exact TS.mk HCUR.out HRG2.out hfr5 HB9.out hs9 hne rfl
        · go_wp2_with fail
          refine ⟨rfl, hK _ _ ?_ ?_⟩
          · exact hcur.alloc _
          clear hK K
          refine Ord.St.alw ?_; intro Wn hWn
          have hb9 := alw_blk (xs := [.int .i64 0, .slice none 0 0, .int .i64 0]) hWn
          have hs9 := hcur.size
          try have hne := rg_ne hrg2
          try replace hrg2 := hrg2.ch (alw_ch hWn) (by simp)
          replace hcur := hcur.trans (alw_ch hWn) (by simp)
          clear hWn
          first | (have _t := hrg2; clear _t; generalize w7.heap.size = b9 at *) | generalize Wc.heap.size = b9 at *
          refine Ord.St.ef 9 [10, 11, 12, 14, 15] _ rfl (by kernel_rfl) (fun K hK => ?_)
          have HA := Lib.hid (HM.out _ hcur)
          go_wp2_with fail
          refine HA.out.mono ?_
          rintro e w7 ⟨rb2, cap2, rfl, hrg2, hch, hfr3⟩
          go_wp2_with fail
          refine ⟨rfl, hK _ _ ?_⟩; clear hK K
          try have hne := rto_ne hb9 (by omega) hfr3
          try replace hb9 := hb9.ch hch (by simp)
          have hfr5 : rb2 = rbk ∨ wr.heap.size ≤ rb2 := by have := hcur.size; rcases hfr3 with e | e <;> omega
          replace hcur := hcur.trans hch (by simp)
          clear hch hfr3 HA
          refine Ord.St.fl2 (T' := ?_) 10 [11, 12, 14, 15] _ _ rfl (by kernel_rfl) rfl rfl rfl rfl (fun K w' hk => ?_) ?_
          rotate_left
          · go_step; exact hk
          refine Ord.St.fl2 (T' := ?_) 11 [12, 14, 15] _ _ rfl (by kernel_rfl) rfl rfl rfl rfl (fun K w' hk => ?_) ?_
          rotate_left
          · go_step; exact hk
          refine Ord.St.fl2 (T' := ?_) 12 [14, 15] _ _ rfl (by kernel_rfl) rfl rfl rfl rfl (fun K w' hk => ?_) ?_
          rotate_left
          · go_step; exact hk
          refine Ord.St.ef 14 [15] _ rfl (by kernel_rfl) (fun K hK => ?_)
          have z0 := hb9.cell (i := 0) rfl
          have z1 := hb9.cell (i := 1) rfl
          have z2 := hb9.cell (i := 2) rfl
          have g0 := hb9.frozen (i := 0)
          have g1 := hb9.frozen (i := 1)
          have g2 := hb9.frozen (i := 2)
          have HRG2 := Lib.hid hrg2; clear hrg2
          have HB9 := Lib.hid hb9; clear hb9
          have HCUR := Lib.hid hcur; clear hcur
          go_wp2_with fail
          refine ⟨rfl, hK _ _ ?_⟩; clear hK K
          refine Ord.St.fl2 (T' := ?_) 15 [] _ _ rfl (by kernel_rfl) rfl rfl rfl rfl (fun K w' hk => ?_) ?_
          rotate_left
          · go_step; exact hk
          refine Ord.St.nil ?_
          go_wp2_with fail
          go_meet
          case rel => exact TS.mk HCUR.out HRG2.out hfr5 HB9.out hs9 hne rfl
      case rest =>
        obtain ⟨rb3, cap3, b3, rfl, rfl, hc3, hrg3, hfr3, hb3, hlo3⟩ := hcut
        have hM := fun (W : World) (hW : Ch [] wc W) => HM2.out wc rb3 cap3 hrg3 W hW
        have HM3 := Lib.hid hM; clear hM HM2
        have hb0 := (hc3.cell (cell_lt HB0.out) (by simp)).trans HB0.out
        have HBY := Lib.hid hb0; clear hb0
        have hrl3 := hrg3.lt
        have HB3 := Lib.hid hb3; clear hb3
        have HRG3 := Lib.hid hrg3; clear hrg3
        have HC3 := Lib.hid hc3; clear hc3
        go_upto_region 6 with fail
        go_cut [12, 13] (fun p q wd => TS wc wd rb3 ((G4, q4), p4) p q)
        case first =>
          refine Ord.St.door (fun w' => Ch [] wc w') [.ho, .fl, .fl, .fl, .fl, .ho, .fl, .ef, .fl, .fl, .fl, .ef, .ef, .fl] [0, 0, 0, 0, 12, 28, 0, 127, 255, 511, 511, 0, 3071, 8191] [0, 1, 2, 3, 4, 5, 6, 7, 8, 9, 10, 11, 12, 13] mixed (by kernel_rfl) rfl ?_
          obtain ⟨Wc, hWc⟩ : ∃ Wc, Wc = wc.drew := ⟨_, rfl⟩
          rw [← hWc]
          have hcur : Ch [] wc Wc := by rw [hWc]; exact (Ch.refl _ _).drew
          clear hWc
          refine Ord.St.ho2 (T' := ?_) 0 [1, 2, 3, 4, 5, 6, 7, 8, 9, 10, 11, 12, 13] _ _ rfl (by kernel_rfl) rfl rfl rfl rfl ?_ (fun K w' hw' hk => ?_) ?_
          rotate_left
          · trivial
          · have y0 := (HB3.out.ch hw' (by simp)).cell (i := 0) rfl; have y1 := (HB3.out.ch hw' (by simp)).cell (i := 1) rfl; have y2 := (HB3.out.ch hw' (by simp)).cell (i := 2) rfl; have b0 := (hw'.cell (cell_lt HBY.out) (by simp)).trans HBY.out; go_step; exact hk
          refine Ord.St.fl2 (T' := ?_) 1 [2, 3, 4, 5, 6, 7, 8, 9, 10, 11, 12, 13] _ _ rfl (by kernel_rfl) rfl rfl rfl rfl (fun K w' hk => ?_) ?_
          rotate_left
          · go_step; exact hk
          refine Ord.St.fl2 (T' := ?_) 2 [3, 4, 5, 6, 7, 8, 9, 10, 11, 12, 13] _ _ rfl (by kernel_rfl) rfl rfl rfl rfl (fun K w' hk => ?_) ?_
          rotate_left
          · go_step; exact hk
          refine Ord.St.fl2 (T' := ?_) 3 [4, 5, 6, 7, 8, 9, 10, 11, 12, 13] _ _ rfl (by kernel_rfl) rfl rfl rfl rfl (fun K w' hk => ?_) ?_
          rotate_left
          · go_step; exact hk
          refine Ord.St.fl2 (T' := ?_) 4 [5, 6, 7, 8, 9, 10, 11, 12, 13] _ _ rfl (by kernel_rfl) rfl rfl rfl rfl (fun K w' hk => ?_) ?_
          rotate_left
          · go_step; exact hk
          refine Ord.St.ho2 (T' := ?_) 5 [6, 7, 8, 9, 10, 11, 12, 13] _ _ rfl (by kernel_rfl) rfl rfl rfl rfl ?_ (fun K w' hw' hk => ?_) ?_
          rotate_left
          · trivial
          · have y0 := (HB3.out.ch hw' (by simp)).cell (i := 0) rfl; have y1 := (HB3.out.ch hw' (by simp)).cell (i := 1) rfl; have y2 := (HB3.out.ch hw' (by simp)).cell (i := 2) rfl; have b0 := (hw'.cell (cell_lt HBY.out) (by simp)).trans HBY.out; go_step; exact hk
          refine Ord.St.fl2 (T' := ?_) 6 [7, 8, 9, 10, 11, 12, 13] _ _ rfl (by kernel_rfl) rfl rfl rfl rfl (fun K w' hk => ?_) ?_
          rotate_left
          · go_step; exact hk
          refine Ord.St.two 7 11 [8, 9, 10, 11, 12, 13] [7, 8, 9, 10, 12, 13] _ _ (by kernel_rfl) rfl rfl (by kernel_rfl) (by kernel_rfl) (fun K hK => ?_) (fun K hK => ?_)
          · have HA := Lib.hid (HM3.out _ hcur)
            go_wp2_with fail
            refine HA.out.mono ?_
            rintro e w7 ⟨rb2, cap2, rfl, hrg2, hch, hfr3⟩
            go_wp2_with fail
            refine ⟨rfl, hK _ _ ?_ ?_⟩
            · exact hcur.trans hch (by simp)
            clear hK K
            try have hne := rto_ne hb9 (by omega) hfr3
            try replace hb9 := hb9.ch hch (by simp)
            have hfr5 : rb2 = rb3 ∨ wc.heap.size ≤ rb2 := by have := hcur.size; rcases hfr3 with e | e <;> omega
            replace hcur := hcur.trans hch (by simp)
            clear hch hfr3 HA
            refine Ord.St.fl2 (T' := ?_) 8 [9, 10, 11, 12, 13] _ _ rfl (by kernel_rfl) rfl rfl rfl rfl (fun K w' hk => ?_) ?_
            rotate_left
            · go_step; exact hk
            refine Ord.St.fl2 (T' := ?_) 9 [10, 11, 12, 13] _ _ rfl (by kernel_rfl) rfl rfl rfl rfl (fun K w' hk => ?_) ?_
            rotate_left
            · go_step; exact hk
            refine Ord.St.fl2 (T' := ?_) 10 [11, 12, 13] _ _ rfl (by kernel_rfl) rfl rfl rfl rfl (fun K w' hk => ?_) ?_
            rotate_left
            · go_step; exact hk
            refine Ord.St.efC 11 [12, 13] _ rfl (by kernel_rfl) (fun K hK => ?_)
            go_wp2_with fail
            refine ⟨rfl, hK _ _ ?_ ?_⟩
            · exact hcur.alloc _
            clear hK K
            refine Ord.St.alw ?_; intro Wn hWn
            have hb9 := alw_blk (xs := [.int .i64 0, .slice none 0 0, .int .i64 0]) hWn
            have hs9 := hcur.size
            try have hne := rg_ne hrg2
            try replace hrg2 := hrg2.ch (alw_ch hWn) (by simp)
            replace hcur := hcur.trans (alw_ch hWn) (by simp)
            clear hWn
            first | (have _t := hrg2; clear _t; generalize w7.heap.size = b9 at *) | generalize Wc.heap.size = b9 at *
            refine Ord.St.ef 12 [13] _ rfl (by kernel_rfl) (fun K hK => ?_)
            have z0 := hb9.cell (i := 0) rfl
            have z1 := hb9.cell (i := 1) rfl
            have z2 := hb9.cell (i := 2) rfl
            have g0 := hb9.frozen (i := 0)
            have g1 := hb9.frozen (i := 1)
            have g2 := hb9.frozen (i := 2)
            have HRG2 := Lib.hid hrg2; clear hrg2
            have HB9 := Lib.hid hb9; clear hb9
            have HCUR := Lib.hid hcur; clear hcur
            go_wp2_with fail
            refine ⟨rfl, hK _ _ ?_⟩; clear hK K
            refine Ord.St.fl2 (T' := ?_) 13 [] _ _ rfl (by kernel_rfl) rfl rfl rfl rfl (fun K w' hk => ?_) ?_
            rotate_left
            · go_step; exact hk
            refine Ord.St.nil ?_
            go_wp2_with fail
            go_meet
            case rel => exact TS.mk HCUR.out HRG2.out hfr5 HB9.out hs9 hne rfl
          · go_wp2_with fail
            refine ⟨rfl, hK _ _ ?_ ?_⟩
            · exact hcur.alloc _
            clear hK K
            refine Ord.St.alw ?_; intro Wn hWn
            have hb9 := alw_blk (xs := [.int .i64 0, .slice none 0 0, .int .i64 0]) hWn
            have hs9 := hcur.size
            try have hne := rg_ne hrg2
            try replace hrg2 := hrg2.ch (alw_ch hWn) (by simp)
            replace hcur := hcur.trans (alw_ch hWn) (by simp)
            clear hWn
            first | (have _t := hrg2; clear _t; generalize w7.heap.size = b9 at *) | generalize Wc.heap.size = b9 at *
            refine Ord.St.ef 7 [8, 9, 10, 12, 13] _ rfl (by kernel_rfl) (fun K hK => ?_)
            have HA := Lib.hid (HM3.out _ hcur)
            go_wp2_with fail
            refine HA.out.mono ?_
            rintro e w7 ⟨rb2, cap2, rfl, hrg2, hch, hfr3⟩
            go_wp2_with fail
            refine ⟨rfl, hK _ _ ?_⟩; clear hK K
            try have hne := rto_ne hb9 (by omega) hfr3
            try replace hb9 := hb9.ch hch (by simp)
            have hfr5 : rb2 = rb3 ∨ wc.heap.size ≤ rb2 := by have := hcur.size; rcases hfr3 with e | e <;> omega
            replace hcur := hcur.trans hch (by simp)
            clear hch hfr3 HA
            refine Ord.St.fl2 (T' := ?_) 8 [9, 10, 12, 13] _ _ rfl (by kernel_rfl) rfl rfl rfl rfl (fun K w' hk => ?_) ?_
            rotate_left
            · go_step; exact hk
            refine Ord.St.fl2 (T' := ?_) 9 [10, 12, 13] _ _ rfl (by kernel_rfl) rfl rfl rfl rfl (fun K w' hk => ?_) ?_
            rotate_left
            · go_step; exact hk
            refine Ord.St.fl2 (T' := ?_) 10 [12, 13] _ _ rfl (by kernel_rfl) rfl rfl rfl rfl (fun K w' hk => ?_) ?_
            rotate_left
            · go_step; exact hk
            refine Ord.St.ef 12 [13] _ rfl (by kernel_rfl) (fun K hK => ?_)
            have z0 := hb9.cell (i := 0) rfl
            have z1 := hb9.cell (i := 1) rfl
            have z2 := hb9.cell (i := 2) rfl
            have g0 := hb9.frozen (i := 0)
            have g1 := hb9.frozen (i := 1)
            have g2 := hb9.frozen (i := 2)
            have HRG2 := Lib.hid hrg2; clear hrg2
            have HB9 := Lib.hid hb9; clear hb9
            have HCUR := Lib.hid hcur; clear hcur
            go_wp2_with fail
            refine ⟨rfl, hK _ _ ?_⟩; clear hK K
            refine Ord.St.fl2 (T' := ?_) 13 [] _ _ rfl (by kernel_rfl) rfl rfl rfl rfl (fun K w' hk => ?_) ?_
            rotate_left
            · go_step; exact hk
            refine Ord.St.nil ?_
            go_wp2_with fail
            go_meet
            case rel => exact TS.mk HCUR.out HRG2.out hfr5 HB9.out hs9 hne rfl
        case rest =>
          obtain ⟨rb4, cap4, b4, rfl, rfl, hc4, hrg4, hfr4, hb4, hlo4⟩ := hcut
          have hz3 := HC3.out.size
          have hc := HC3.out.trans hc4 (by simp)
          have hfr : rb4 = rbk ∨ wr.heap.size ≤ rb4 := by rcases hfr4 with e | e; (rcases hfr3 with e2 | e2; left; omega; right; omega); (right; omega)
          clear hc4 hfr4
          have x0 := hb4.cell (i := 0) rfl
          have x1 := hb4.cell (i := 1) rfl
          have x2 := hb4.cell (i := 2) rfl
          have hbp := (HST.out.same hc).b4
          have f0 := hbp.frozen (i := 0)
          have f1 := hbp.frozen (i := 1)
          have f2 := hbp.frozen (i := 2)
          have y0 := hbp.cell (i := 0) rfl
          have y1 := hbp.cell (i := 1) rfl
          have y2 := hbp.cell (i := 2) rfl
          clear hbp
          have HCX := Lib.hid hc; clear hc
          have HRX := Lib.hid hrg4; clear hrg4
          have HBX := Lib.hid hb4; clear hb4
          go_upto_region 4 with fail
          refine wp_alw ?_
          intro W9 hW9
          have hst := HST.out.put HCX.out HRX.out hfr hW9
          clear hW9 x0 x1 x2 y0 y1 y2 f0 f1 f2 HRX HBX
          have HS9 := Lib.hid hst; clear hst
          go_wp2_with fail
          go_roundw
          case rel => exact ⟨j + 1, rb4, cap4, by omega, by go_num, by rw [HEN.out], by rw [HEN.out]; exact HS9.out⟩
          case measure => simp [intOf]; omega
    · have hall : Z.take j = Z := List.take_of_length_le (by rw [HZL.out]; omega)
      rw [hall] at hst ho
      obtain ⟨⟨⟨G2, q2⟩, c⟩, hES⟩ : ∃ ES, ES = E Z := ⟨_, rfl⟩
      rw [← hES] at hst ho
      simp only at hst ho
      subst ho
      have HES := Lib.hid hES; clear hES
      have y0 := hst.b4.cell (i := 0) rfl
      have y1 := hst.b4.cell (i := 1) rfl
      have y2 := hst.b4.cell (i := 2) rfl
      have v0 := hst.b8.cell (i := 0) rfl
      have v1 := hst.b8.cell (i := 1) rfl
      have v2 := hst.b8.cell (i := 2) rfl
      have g0 := hst.b8.frozen (i := 0)
      have g1 := hst.b8.frozen (i := 1)
      have g2 := hst.b8.frozen (i := 2)
      have hl8 := hst.b8.lt
      have HST := Lib.hid hst; clear hst
      go_wp2_with fail
      refine bodyPost_ret (v := .tuple #[.agg #[.int .i64 G2.most, .slice (some ⟨rbk, 0, none⟩) G2.nodes.length capk, .int .i64 q2], .int .i64 c]) (by simp [results, Tryz.results318, go_sem, v0, v1, v2]) rfl ?_
      show STo w rb (E Z) _ _
      rw [← HES.out]
      exact HST.out.finS rfl
set_option maxRecDepth 100000 in
set_option maxHeartbeats 8000000 in
theorem r23SumQ_is {rb cap : Nat} {G : Gra} (h : RG w rb cap G) {qe : Nat} (hqe : qe = 0 ∨ qe = 201) {xa ya : Option Addr} {X Y : List Nat} (n xc yc : Nat) (hX : Sl w xa (natInts X)) (hY : Sl w ya (natInts Y)) (hn : X.length = n) (hm : Y.length = n) (hn0 : n ≤ 1000) (hxr : ∀ r ∈ X, r < 2 * G.nodes.length) (hyr : ∀ r ∈ Y, r < 2 * G.nodes.length) {c0 : Nat} (hc0 : c0 < 2 * G.nodes.length) :
    Calls Tryz.prog 349 #[.agg #[.int .i64 G.most, .slice (some ⟨rb, 0, none⟩) G.nodes.length cap, .int .i64 qe], .slice xa n xc, .slice ya n yc, .int .i64 c0] w (LTo w rb (sumW n (G, qe) (X.zip Y) c0)) := by
  have hok := h.ok
  obtain ⟨Z, hZ⟩ : ∃ Z, Z = X.zip Y := ⟨_, rfl⟩
  have hZl : Z.length = n := by rw [hZ, List.length_zip, hn, hm]; omega
  have hZlt : ∀ p ∈ Z, p.1 < 2 * G.nodes.length ∧ p.2 < 2 * G.nodes.length := by rw [hZ]; exact fun p hp => ⟨hxr _ (List.of_mem_zip hp).1, hyr _ (List.of_mem_zip hp).2⟩
  have hZG : ∀ (j a b : Nat), Z[j]? = some (a, b) → X[j]? = some a ∧ Y[j]? = some b := fun j a b h => by rw [hZ] at h; exact List.getElem?_zip_eq_some.1 h
  rw [← hZ]
  have hElok := fun z (hz : ∀ p ∈ z, p ∈ Z) => sumF_cokQ hok hqe n hc0 z (fun p hp => hZlt p (hz p hp))
  have hEsn := fun z a b => sumF_snoc n (G, qe) z c0 (a, b)
  have hElen := fun z => sumF_len n (G, qe) c0 z
  have hE0 : sumF n (G, qe) [] c0 = ((G, qe), [], c0) := rfl
  unfold sumW
  obtain ⟨E, hE⟩ : ∃ E : List (Nat × Nat) → Mk × List Nat × Nat, E = fun z => sumF n (G, qe) z c0 := ⟨_, rfl⟩
  have hEz : ∀ z, sumF n (G, qe) z c0 = E z := fun z => by rw [hE]
  simp only [hEz] at hElok hEsn hElen hE0 ⊢
  clear hE hZ hxr hyr hEz
  have HX := Lib.hid hX; clear hX
  have HY := Lib.hid hY; clear hY
  have HN := Lib.hid hn; clear hn
  have HMM := Lib.hid hm; clear hm
  have H := Lib.hid h; clear h
  have HELOK := Lib.hid hElok; clear hElok
  have HESN := Lib.hid hEsn; clear hEsn
  have HZL := Lib.hid hZl; clear hZl
  have HZG := Lib.hid hZG; clear hZG
  have HZLT := Lib.hid hZlt; clear hZlt hok
  have HE0 := Lib.hid hE0; clear hE0
  have HELEN := Lib.hid hElen; clear hElen
  go_enter Tryz.func349, Tryz.ntmps349
  go_wp2_with fail
  refine wp_alw ?_
  intro W0 hW0
  have hst := RSt.start H.out hW0 rfl
  clear hW0
  have HST := Lib.hid hst; clear hst
  go_loopw [3, 10, 11] (fun o nx i wr => ∃ (j rbk capk : Nat), j ≤ n ∧ i = .int .i64 j ∧ o = .int .i64 (E (Z.take j)).2.2 ∧ RSt w wr rb rbk capk (E (Z.take j)).1 nx (E (Z.take j)).2.1) (fun _ _ i _ => n - (intOf i).toNat)
  case atStart => exact ⟨0, rb, cap, by omega, rfl, by rw [List.take_zero, HE0.out], by rw [List.take_zero, HE0.out]; exact HST.out⟩
  case round =>
    clear HST hc0
    obtain ⟨j, rbk, capk, hj, rfl, ho, hst⟩ := hrel
    by_cases hjn : j < n
    · obtain ⟨⟨a, b⟩, hab⟩ : ∃ p, Z[j]? = some p := ⟨_, List.getElem?_eq_getElem (by rw [HZL.out]; exact hjn)⟩
      obtain ⟨hla, hlb⟩ := HZG.out j a b hab
      obtain ⟨hav, hbv⟩ := HZLT.out _ (List.mem_of_getElem? hab)
      have hsn : Z.take (j + 1) = Z.take j ++ [(a, b)] := by rw [List.take_add_one, hab]; rfl
      have hEs := HESN.out (Z.take j) a b
      rw [← hsn] at hEs
      have hlk := HELOK.out (Z.take j) (fun p hp => List.mem_of_mem_take hp)
      have hlen := HELEN.out (Z.take j)
      rw [List.length_take, HZL.out, Nat.min_eq_left hj] at hlen
      generalize hEE : E (Z.take (j + 1)) = EN at hEs
      generalize E (Z.take j) = ES at hEs hlk hst ho hlen
      obtain ⟨⟨G2, q2⟩, l2, c⟩ := ES
      simp only at hst ho hlen
      subst ho
      obtain ⟨hsl, hcl⟩ := hlk
      simp only at hsl hcl
      obtain ⟨R1, h1⟩ : ∃ R1 : Mk × Nat, R1 = rstep (G2, q2) (rXor G2 a b) := ⟨_, rfl⟩
      obtain ⟨R2, h2⟩ : ∃ R2 : Mk × Nat, R2 = rstep R1.1 (rXor R1.1.1 R1.2 c) := ⟨_, rfl⟩
      obtain ⟨R3, h3⟩ : ∃ R3 : Mk × Nat, R3 = rstep R2.1 (and R2.1.1 a b) := ⟨_, rfl⟩
      obtain ⟨R4, h4⟩ : ∃ R4 : Mk × Nat, R4 = rstep R3.1 (and R3.1.1 R1.2 c) := ⟨_, rfl⟩
      obtain ⟨R5, h5⟩ : ∃ R5 : Mk × Nat, R5 = rstep R4.1 (rOr R4.1.1 R3.2 R4.2) := ⟨_, rfl⟩
      obtain ⟨⟨k1, k2⟩, ⟨k3, k4⟩, ⟨_, _, k5, k6⟩, ⟨k7, k8⟩, ⟨k9, k10⟩, _⟩ := sum_chain hsl hav hbv hcl h1 h2 h3 h4 h5
      have hM1 : ∀ (W : World), Ch [] wr W → Calls Tryz.prog 343 #[.agg #[.int .i64 G2.most, .slice (some ⟨rbk, 0, none⟩) G2.nodes.length capk, .int .i64 q2], .int .i64 a, .int .i64 b] W (STo W rbk R1) := fun W hW => by
        rw [h1]; exact r23Xor_is (hst.rg.ch hW (by simp)) k1 k2
      have hM2 : ∀ (W : World) (rb3 cap3 : Nat), RG W rb3 cap3 R1.1.1 → ∀ W', Ch [] W W' → Calls Tryz.prog 343 #[.agg #[.int .i64 R1.1.1.most, .slice (some ⟨rb3, 0, none⟩) R1.1.1.nodes.length cap3, .int .i64 R1.1.2], .int .i64 R1.2, .int .i64 c] W' (STo W' rb3 R2) := fun W rb3 cap3 hr W' hW => by
        rw [h2]; exact r23Xor_is (hr.ch hW (by simp)) k3 k4
      have hM3 : ∀ (W : World) (rb3 cap3 : Nat), RG W rb3 cap3 R2.1.1 → ∀ W', Ch [] W W' → Calls Tryz.prog 333 #[.agg #[.int .i64 R2.1.1.most, .slice (some ⟨rb3, 0, none⟩) R2.1.1.nodes.length cap3, .int .i64 R2.1.2], .int .i64 a, .int .i64 b] W' (STo W' rb3 R3) := fun W rb3 cap3 hr W' hW => by
        rw [h3]; exact r23And_is (hr.ch hW (by simp)) k5 k6
      have hM4 : ∀ (W : World) (rb3 cap3 : Nat), RG W rb3 cap3 R3.1.1 → ∀ W', Ch [] W W' → Calls Tryz.prog 333 #[.agg #[.int .i64 R3.1.1.most, .slice (some ⟨rb3, 0, none⟩) R3.1.1.nodes.length cap3, .int .i64 R3.1.2], .int .i64 R1.2, .int .i64 c] W' (STo W' rb3 R4) := fun W rb3 cap3 hr W' hW => by
        rw [h4]; exact r23And_is (hr.ch hW (by simp)) k7 k8
      have hM5 : ∀ (W : World) (rb3 cap3 : Nat), RG W rb3 cap3 R4.1.1 → ∀ W', Ch [] W W' → Calls Tryz.prog 356 #[.agg #[.int .i64 R4.1.1.most, .slice (some ⟨rb3, 0, none⟩) R4.1.1.nodes.length cap3, .int .i64 R4.1.2], .int .i64 R3.2, .int .i64 R4.2] W' (STo W' rb3 R5) := fun W rb3 cap3 hr W' hW => by
        rw [h5]; exact r23Or_is (hr.ch hW (by simp)) k9 k10
      have hEs2 : EN = if j + 1 < n then (R5.1, l2 ++ [R2.2], R5.2) else (R2.1, l2 ++ [R2.2], c) := by
        rw [hEs, h5, h4, h3, h2, h1, ← hlen]; rfl
      clear hEs h1 h2 h3 h4 h5 k1 k2 k3 k4 k5 k6 k7 k8 k9 k10 hsl hcl hsn hab hav hbv
      obtain ⟨⟨G3, q3⟩, p3⟩ := R1
      obtain ⟨⟨G4, q4⟩, p4⟩ := R2
      obtain ⟨⟨G5, q5⟩, p5⟩ := R3
      obtain ⟨⟨G6, q6⟩, p6⟩ := R4
      obtain ⟨⟨G7, q7⟩, p7⟩ := R5
      simp only at hM1 hM2 hM3 hM4 hM5 hEs2
      rw [← hEE] at hEs2
      clear hEE
      have HEN := Lib.hid hEs2; clear hEs2
      have HM1 := Lib.hid hM1; clear hM1
      have HM2 := Lib.hid hM2; clear hM2
      have HM3 := Lib.hid hM3; clear hM3
      have HM4 := Lib.hid hM4; clear hM4
      have HM5 := Lib.hid hM5; clear hM5
      have HLEN := Lib.hid hlen; clear hlen
      have HST := Lib.hid hst; clear hst
      obtain ⟨ab, ao, ae, ac⟩ := HX.out.cells j (a : Int) (by simp [natInts, hla])
      have a0 : wr.cell? ⟨ab, ao + j, none⟩ = some (.int .i64 a) := (HST.out.ch.cell (cell_lt ac) (by simp)).trans ac
      subst ae
      have HXA := Lib.hid ac; clear ac
      obtain ⟨bb, bo, be, bc⟩ := HY.out.cells j (b : Int) (by simp [natInts, hlb])
      have b0 : wr.cell? ⟨bb, bo + j, none⟩ = some (.int .i64 b) := (HST.out.ch.cell (cell_lt bc) (by simp)).trans bc
      subst be
      have HXB := Lib.hid bc; clear bc
      clear hla hlb
      have HA0 := Lib.hid a0; clear a0
      have HB0 := Lib.hid b0; clear b0
      have hrlk := HST.out.rg.lt
      go_upto_region 5 with fail
      go_cut [12, 13] (fun p q wd => TS wr wd rbk ((G3, q3), p3) p q)
      case first =>
        refine Ord.St.door (fun w' => Ch [] wr w') [.ho, .fl, .fl, .fl, .ho, .fl, .fl, .fl, .ho, .ef, .fl, .fl, .fl, .ef, .ef, .fl] [0, 0, 0, 6, 14, 0, 0, 96, 224, 511, 1023, 2047, 2047, 0, 12287, 32767] [0, 1, 2, 3, 4, 5, 6, 7, 8, 9, 10, 11, 12, 13, 14, 15] mixed (by kernel_rfl) rfl ?_
        obtain ⟨Wc, hWc⟩ : ∃ Wc, Wc = wr.drew := ⟨_, rfl⟩
        rw [← hWc]
        have hcur : Ch [] wr Wc := by rw [hWc]; exact (Ch.refl _ _).drew
        clear hWc
        refine Ord.St.ho2 (T' := ?_) 0 [1, 2, 3, 4, 5, 6, 7, 8, 9, 10, 11, 12, 13, 14, 15] _ _ rfl (by kernel_rfl) rfl rfl rfl rfl ?_ (fun K w' hw' hk => ?_) ?_
        rotate_left
        · trivial
        · have hb4 := (HST.out.same hw').b4; have y0 := hb4.cell (i := 0) rfl; have y1 := hb4.cell (i := 1) rfl; have y2 := hb4.cell (i := 2) rfl; have a0 := (hw'.cell (cell_lt HA0.out) (by simp)).trans HA0.out; have b0 := (hw'.cell (cell_lt HB0.out) (by simp)).trans HB0.out; go_step; exact hk
        refine Ord.St.fl2 (T' := ?_) 1 [2, 3, 4, 5, 6, 7, 8, 9, 10, 11, 12, 13, 14, 15] _ _ rfl (by kernel_rfl) rfl rfl rfl rfl (fun K w' hk => ?_) ?_
        rotate_left
        · go_step; exact hk
        refine Ord.St.fl2 (T' := ?_) 2 [3, 4, 5, 6, 7, 8, 9, 10, 11, 12, 13, 14, 15] _ _ rfl (by kernel_rfl) rfl rfl rfl rfl (fun K w' hk => ?_) ?_
        rotate_left
        · go_step; exact hk
        refine Ord.St.fl2 (T' := ?_) 3 [4, 5, 6, 7, 8, 9, 10, 11, 12, 13, 14, 15] _ _ rfl (by kernel_rfl) rfl rfl rfl rfl (fun K w' hk => ?_) ?_
        rotate_left
        · go_step; exact hk
        refine Ord.St.ho2 (T' := ?_) 4 [5, 6, 7, 8, 9, 10, 11, 12, 13, 14, 15] _ _ rfl (by kernel_rfl) rfl rfl rfl rfl ?_ (fun K w' hw' hk => ?_) ?_
        rotate_left
        · trivial
        · have hb4 := (HST.out.same hw').b4; have y0 := hb4.cell (i := 0) rfl; have y1 := hb4.cell (i := 1) rfl; have y2 := hb4.cell (i := 2) rfl; have a0 := (hw'.cell (cell_lt HA0.out) (by simp)).trans HA0.out; have b0 := (hw'.cell (cell_lt HB0.out) (by simp)).trans HB0.out; go_step; exact hk
        refine Ord.St.fl2 (T' := ?_) 5 [6, 7, 8, 9, 10, 11, 12, 13, 14, 15] _ _ rfl (by kernel_rfl) rfl rfl rfl rfl (fun K w' hk => ?_) ?_
        rotate_left
        · go_step; exact hk
        refine Ord.St.fl2 (T' := ?_) 6 [7, 8, 9, 10, 11, 12, 13, 14, 15] _ _ rfl (by kernel_rfl) rfl rfl rfl rfl (fun K w' hk => ?_) ?_
        rotate_left
        · go_step; exact hk
        refine Ord.St.fl2 (T' := ?_) 7 [8, 9, 10, 11, 12, 13, 14, 15] _ _ rfl (by kernel_rfl) rfl rfl rfl rfl (fun K w' hk => ?_) ?_
        rotate_left
        · go_step; exact hk
        refine Ord.St.ho2 (T' := ?_) 8 [9, 10, 11, 12, 13, 14, 15] _ _ rfl (by kernel_rfl) rfl rfl rfl rfl ?_ (fun K w' hw' hk => ?_) ?_
        rotate_left
        · trivial
        · have hb4 := (HST.out.same hw').b4; have y0 := hb4.cell (i := 0) rfl; have y1 := hb4.cell (i := 1) rfl; have y2 := hb4.cell (i := 2) rfl; have a0 := (hw'.cell (cell_lt HA0.out) (by simp)).trans HA0.out; have b0 := (hw'.cell (cell_lt HB0.out) (by simp)).trans HB0.out; go_step; exact hk
        refine Ord.St.two 9 13 [10, 11, 12, 13, 14, 15] [9, 10, 11, 12, 14, 15] _ _ (by kernel_rfl) rfl rfl (by kernel_rfl) (by kernel_rfl) (fun K hK => ?_) (fun K hK => ?_)
        · have HA := Lib.hid (HM1.out _ hcur)
          go_wp2_with fail
          refine HA.out.mono ?_
          rintro e w7 ⟨rb2, cap2, rfl, hrg2, hch, hfr3⟩
          go_wp2_with fail
          refine ⟨rfl, hK _ _ ?_ ?_⟩
          · exact hcur.trans hch (by simp)
          clear hK K
          try have hne := rto_ne hb9 (by omega) hfr3
          try replace hb9 := hb9.ch hch (by simp)
          have hfr5 : rb2 = rbk ∨ wr.heap.size ≤ rb2 := by have := hcur.size; rcases hfr3 with e | e <;> omega
          replace hcur := hcur.trans hch (by simp)
          clear hch hfr3 HA
          refine Ord.St.fl2 (T' := ?_) 10 [11, 12, 13, 14, 15] _ _ rfl (by kernel_rfl) rfl rfl rfl rfl (fun K w' hk => ?_) ?_
          rotate_left
          · go_step; exact hk
          refine Ord.St.fl2 (T' := ?_) 11 [12, 13, 14, 15] _ _ rfl (by kernel_rfl) rfl rfl rfl rfl (fun K w' hk => ?_) ?_
          rotate_left
          · go_step; exact hk
          refine Ord.St.fl2 (T' := ?_) 12 [13, 14, 15] _ _ rfl (by kernel_rfl) rfl rfl rfl rfl (fun K w' hk => ?_) ?_
          rotate_left
          · go_step; exact hk
          refine Ord.St.efC 13 [14, 15] _ rfl (by kernel_rfl) (fun K hK => ?_)
          go_wp2_with fail
          refine ⟨rfl, hK _ _ ?_ ?_⟩
          · exact hcur.alloc _
          clear hK K
          refine Ord.St.alw ?_; intro Wn hWn
          have hb9 := alw_blk (xs := [.int .i64 0, .slice none 0 0, .int .i64 0]) hWn
          have hs9 := hcur.size
          try have hne := rg_ne hrg2
          try replace hrg2 := hrg2.ch (alw_ch hWn) (by simp)
          replace hcur := hcur.trans (alw_ch hWn) (by simp)
          clear hWn
          first | (have _t := hrg2; clear _t; generalize w7.heap.size = b9 at *) | generalize Wc.heap.size = b9 at *
          refine Ord.St.ef 14 [15] _ rfl (by kernel_rfl) (fun K hK => ?_)
          have z0 := hb9.cell (i := 0) rfl
          have z1 := hb9.cell (i := 1) rfl
          have z2 := hb9.cell (i := 2) rfl
          have g0 := hb9.frozen (i := 0)
          have g1 := hb9.frozen (i := 1)
          have g2 := hb9.frozen (i := 2)
          have HRG2 := Lib.hid hrg2; clear hrg2
          have HB9 := Lib.hid hb9; clear hb9
          have HCUR := Lib.hid hcur; clear hcur
          go_wp2_with fail
          refine ⟨rfl, hK _ _ ?_⟩; clear hK K
          refine Ord.St.fl2 (T' := ?_) 15 [] _ _ rfl (by kernel_rfl) rfl rfl rfl rfl (fun K w' hk => ?_) ?_
          rotate_left
          · go_step; exact hk
          refine Ord.St.nil ?_
          go_wp2_with fail
          go_meet
          case rel => exact TS.mk HCUR.out HRG2.out hfr5 HB9.out hs9 hne rfl
        · go_wp2_with fail
          refine ⟨rfl, hK _ _ ?_ ?_⟩
          · exact hcur.alloc _
          clear hK K
          refine Ord.St.alw ?_; intro Wn hWn
          have hb9 := alw_blk (xs := [.int .i64 0, .slice none 0 0, .int .i64 0]) hWn
          have hs9 := hcur.size
          try have hne := rg_ne hrg2
          try replace hrg2 := hrg2.ch (alw_ch hWn) (by simp)
          replace hcur := hcur.trans (alw_ch hWn) (by simp)
          clear hWn
          first | (have _t := hrg2; clear _t; generalize w7.heap.size = b9 at *) | generalize Wc.heap.size = b9 at *
          refine Ord.St.ef 9 [10, 11, 12, 14, 15] _ rfl (by kernel_rfl) (fun K hK => ?_)
          have HA := Lib.hid (HM1.out _ hcur)
          go_wp2_with fail
          refine HA.out.mono ?_
          rintro e w7 ⟨rb2, cap2, rfl, hrg2, hch, hfr3⟩
          go_wp2_with fail
          refine ⟨rfl, hK _ _ ?_⟩; clear hK K
          try have hne := rto_ne hb9 (by omega) hfr3
          try replace hb9 := hb9.ch hch (by simp)
          have hfr5 : rb2 = rbk ∨ wr.heap.size ≤ rb2 := by have := hcur.size; rcases hfr3 with e | e <;> omega
          replace hcur := hcur.trans hch (by simp)
          clear hch hfr3 HA
          refine Ord.St.fl2 (T' := ?_) 10 [11, 12, 14, 15] _ _ rfl (by kernel_rfl) rfl rfl rfl rfl (fun K w' hk => ?_) ?_
          rotate_left
          · go_step; exact hk
          refine Ord.St.fl2 (T' := ?_) 11 [12, 14, 15] _ _ rfl (by kernel_rfl) rfl rfl rfl rfl (fun K w' hk => ?_) ?_
          rotate_left
          · go_step; exact hk
          refine Ord.St.fl2 (T' := ?_) 12 [14, 15] _ _ rfl (by kernel_rfl) rfl rfl rfl rfl (fun K w' hk => ?_) ?_
          rotate_left
          · go_step; exact hk
          refine Ord.St.ef 14 [15] _ rfl (by kernel_rfl) (fun K hK => ?_)
          have z0 := hb9.cell (i := 0) rfl
          have z1 := hb9.cell (i := 1) rfl
          have z2 := hb9.cell (i := 2) rfl
          have g0 := hb9.frozen (i := 0)
          have g1 := hb9.frozen (i := 1)
          have g2 := hb9.frozen (i := 2)
          have HRG2 := Lib.hid hrg2; clear hrg2
          have HB9 := Lib.hid hb9; clear hb9
          have HCUR := Lib.hid hcur; clear hcur
          go_wp2_with fail
          refine ⟨rfl, hK _ _ ?_⟩; clear hK K
          refine Ord.St.fl2 (T' := ?_) 15 [] _ _ rfl (by kernel_rfl) rfl rfl rfl rfl (fun K w' hk => ?_) ?_
          rotate_left
          · go_step; exact hk
          refine Ord.St.nil ?_
          go_wp2_with fail
          go_meet
          case rel => exact TS.mk HCUR.out HRG2.out hfr5 HB9.out hs9 hne rfl
      case rest =>
        obtain ⟨rb3, cap3, b3, rfl, rfl, hc3, hrg3, hfr3, hb3, hlo3⟩ := hcut
        have hM := fun (W : World) (hW : Ch [] wc W) => HM2.out wc rb3 cap3 hrg3 W hW
        have HMM2 := Lib.hid hM; clear hM HM2
        have HB3 := Lib.hid hb3; clear hb3
        have hrl3 := hrg3.lt
        clear hrg3
        have HC3 := Lib.hid hc3; clear hc3
        go_upto_region 6 with fail
        go_cut [14, 15] (fun p q wd => TS wc wd rb3 ((G4, q4), p4) p q)
        case first =>
          have y0 := HB3.out.cell (i := 0) rfl
          have y1 := HB3.out.cell (i := 1) rfl
          have y2 := HB3.out.cell (i := 2) rfl
          go_wp2_with fail
          refine (HMM2.out _ (Ch.refl _ _)).mono ?_
          rintro e w7 ⟨rb2, cap2, rfl, hrg2, hch, hfr3⟩
          have HRG2 := Lib.hid hrg2; clear hrg2
          have HCH := Lib.hid hch; clear hch
          go_wp2_with fail
          go_meet
          case rel => exact TS.new HCH.out HRG2.out hfr3 rfl
        case rest =>
          obtain ⟨rb4, cap4, b4, rfl, rfl, hc4, hrg4, hfr4, hb4, hlo4⟩ := hcut
          have hz3 := HC3.out.size
          have hc := HC3.out.trans hc4 (by simp)
          have hfr : rb4 = rbk ∨ wr.heap.size ≤ rb4 := by rcases hfr4 with e | e; (rcases hfr3 with e2 | e2; left; omega; right; omega); (right; omega)
          clear hc4 hfr4 HB3
          have x0 := hb4.cell (i := 0) rfl
          have x1 := hb4.cell (i := 1) rfl
          have x2 := hb4.cell (i := 2) rfl
          have hbp := (HST.out.same hc).b4
          have f0 := hbp.frozen (i := 0)
          have f1 := hbp.frozen (i := 1)
          have f2 := hbp.frozen (i := 2)
          have y0 := hbp.cell (i := 0) rfl
          have y1 := hbp.cell (i := 1) rfl
          have y2 := hbp.cell (i := 2) rfl
          clear hbp
          have HCX := Lib.hid hc; clear hc
          have HRX := Lib.hid hrg4; clear hrg4
          have HBX := Lib.hid hb4; clear hb4
          go_upto_region 8 with fail
          refine wp_alw ?_
          intro W9 hW9
          have hst := HST.out.put HCX.out HRX.out hfr hW9
          clear hW9 x0 x1 x2 y0 y1 y2 f0 f1 f2 HRX HBX
          obtain ⟨na, nc, rfl⟩ := row.shape hst.rw
          have hlen9 : l2.length = j := HLEN
          have hrA := (hst.same (W' := W9.alloc (.cells #[.int .i64 p4] 3)) ((Ch.refl _ _).alloc _)).rw
          have hbA : blk (W9.alloc (.cells #[.int .i64 p4] 3)) W9.heap.size [.int .i64 p4] := blk.new' _ _ rfl
          rw [hlen9] at hrA
          have HRA := Lib.hid hrA; clear hrA
          have HBA := Lib.hid hbA; clear hbA
          have HS9 := Lib.hid hst; clear hst
          go_upto_region 9 with (at_builtin; go_loud (refine wpList_append_row slInts rfl _ _ rfl (v := .slice na l2.length nc) (n := l2.length) (xs := intCells (natInts l2)) rfl (by rw [HLEN.out]; exact HRA.out) (ad := ⟨W9.heap.size, 0, none⟩) (m := 1) (c := 1) (news := [.int .i64 p4]) rfl rfl (news_blk HBA.out) (by simp [Value.oneCell']) (by omega) (by omega) ?_; intro v' wz hown4 hC4 hf4; have HO4 := Lib.hid hown4; clear hown4; have HC4 := Lib.hid hC4; clear hC4; have HF4 := Lib.hid hf4; clear hf4))
          have hst := HS9.out.app HO4.out HC4.out HF4.out
          have hw9 := HS9.out.ch
          clear HRA HBA HO4 HC4 HF4 HS9
          have HS := Lib.hid hst; clear hst
          by_cases hjl : j + 1 < n
          · have ha1 : wz.cell? ⟨ab, ao + j, none⟩ = some (.int .i64 a) := (HS.out.ch.cell (cell_lt HXA.out) (by simp)).trans HXA.out
            have hb1 : wz.cell? ⟨bb, bo + j, none⟩ = some (.int .i64 b) := (HS.out.ch.cell (cell_lt HXB.out) (by simp)).trans HXB.out
            have HA1 := Lib.hid ha1; clear ha1
            have HB1 := Lib.hid hb1; clear hb1
            have HEN2 := Lib.hid (HEN.out.trans (if_pos hjl))
            have hj1 : (j : Int) < (n : Int) - 1 := by omega
            have hrl4 := HS.out.rg.lt
            have hM := fun (W : World) (hW : Ch [] wz W) => HM3.out wz rb4 cap4 HS.out.rg W hW
            have HMM3 := Lib.hid hM; clear hM HM3
            go_upto_region 10 with fail
            go_cut [16, 17] (fun p q wd => TS wz wd rb4 ((G5, q5), p5) p q)
            case first =>
              refine Ord.St.door (fun w' => Ch [] wz w') [.ho, .fl, .fl, .fl, .ho, .fl, .fl, .fl, .ho, .ef, .fl, .fl, .fl, .ef, .ef, .fl] [0, 0, 0, 6, 14, 0, 0, 96, 224, 511, 1023, 2047, 2047, 0, 12287, 32767] [0, 1, 2, 3, 4, 5, 6, 7, 8, 9, 10, 11, 12, 13, 14, 15] mixed (by kernel_rfl) rfl ?_
              obtain ⟨Wc, hWc⟩ : ∃ Wc, Wc = wz.drew := ⟨_, rfl⟩
              rw [← hWc]
              have hcur : Ch [] wz Wc := by rw [hWc]; exact (Ch.refl _ _).drew
              clear hWc
              refine Ord.St.ho2 (T' := ?_) 0 [1, 2, 3, 4, 5, 6, 7, 8, 9, 10, 11, 12, 13, 14, 15] _ _ rfl (by kernel_rfl) rfl rfl rfl rfl ?_ (fun K w' hw' hk => ?_) ?_
              rotate_left
              · trivial
              · have hb4 := (HS.out.same hw').b4; have y0 := hb4.cell (i := 0) rfl; have y1 := hb4.cell (i := 1) rfl; have y2 := hb4.cell (i := 2) rfl; have a0 := (hw'.cell (cell_lt HA1.out) (by simp)).trans HA1.out; have b0 := (hw'.cell (cell_lt HB1.out) (by simp)).trans HB1.out; go_step; exact hk
              refine Ord.St.fl2 (T' := ?_) 1 [2, 3, 4, 5, 6, 7, 8, 9, 10, 11, 12, 13, 14, 15] _ _ rfl (by kernel_rfl) rfl rfl rfl rfl (fun K w' hk => ?_) ?_
              rotate_left
              · go_step; exact hk
              refine Ord.St.fl2 (T' := ?_) 2 [3, 4, 5, 6, 7, 8, 9, 10, 11, 12, 13, 14, 15] _ _ rfl (by kernel_rfl) rfl rfl rfl rfl (fun K w' hk => ?_) ?_
              rotate_left
              · go_step; exact hk
              refine Ord.St.fl2 (T' := ?_) 3 [4, 5, 6, 7, 8, 9, 10, 11, 12, 13, 14, 15] _ _ rfl (by kernel_rfl) rfl rfl rfl rfl (fun K w' hk => ?_) ?_
              rotate_left
              · go_step; exact hk
              refine Ord.St.ho2 (T' := ?_) 4 [5, 6, 7, 8, 9, 10, 11, 12, 13, 14, 15] _ _ rfl (by kernel_rfl) rfl rfl rfl rfl ?_ (fun K w' hw' hk => ?_) ?_
              rotate_left
              · trivial
              · have hb4 := (HS.out.same hw').b4; have y0 := hb4.cell (i := 0) rfl; have y1 := hb4.cell (i := 1) rfl; have y2 := hb4.cell (i := 2) rfl; have a0 := (hw'.cell (cell_lt HA1.out) (by simp)).trans HA1.out; have b0 := (hw'.cell (cell_lt HB1.out) (by simp)).trans HB1.out; go_step; exact hk
              refine Ord.St.fl2 (T' := ?_) 5 [6, 7, 8, 9, 10, 11, 12, 13, 14, 15] _ _ rfl (by kernel_rfl) rfl rfl rfl rfl (fun K w' hk => ?_) ?_
              rotate_left
              · go_step; exact hk
              refine Ord.St.fl2 (T' := ?_) 6 [7, 8, 9, 10, 11, 12, 13, 14, 15] _ _ rfl (by kernel_rfl) rfl rfl rfl rfl (fun K w' hk => ?_) ?_
              rotate_left
              · go_step; exact hk
              refine Ord.St.fl2 (T' := ?_) 7 [8, 9, 10, 11, 12, 13, 14, 15] _ _ rfl (by kernel_rfl) rfl rfl rfl rfl (fun K w' hk => ?_) ?_
              rotate_left
              · go_step; exact hk
              refine Ord.St.ho2 (T' := ?_) 8 [9, 10, 11, 12, 13, 14, 15] _ _ rfl (by kernel_rfl) rfl rfl rfl rfl ?_ (fun K w' hw' hk => ?_) ?_
              rotate_left
              · trivial
              · have hb4 := (HS.out.same hw').b4; have y0 := hb4.cell (i := 0) rfl; have y1 := hb4.cell (i := 1) rfl; have y2 := hb4.cell (i := 2) rfl; have a0 := (hw'.cell (cell_lt HA1.out) (by simp)).trans HA1.out; have b0 := (hw'.cell (cell_lt HB1.out) (by simp)).trans HB1.out; go_step; exact hk
              refine Ord.St.two 9 13 [10, 11, 12, 13, 14, 15] [9, 10, 11, 12, 14, 15] _ _ (by kernel_rfl) rfl rfl (by kernel_rfl) (by kernel_rfl) (fun K hK => ?_) (fun K hK => ?_)
              · have HA := Lib.hid (HMM3.out _ hcur)
                go_wp2_with fail
                refine HA.out.mono ?_
                rintro e w7 ⟨rb2, cap2, rfl, hrg2, hch, hfr3⟩
                go_wp2_with fail
                refine ⟨rfl, hK _ _ ?_ ?_⟩
                · exact hcur.trans hch (by simp)
                clear hK K
                try have hne := rto_ne hb9 (by omega) hfr3
                try replace hb9 := hb9.ch hch (by simp)
                have hfr5 : rb2 = rb4 ∨ wz.heap.size ≤ rb2 := by have := hcur.size; rcases hfr3 with e | e <;> omega
                replace hcur := hcur.trans hch (by simp)
                clear hch hfr3 HA
                refine Ord.St.fl2 (T' := ?_) 10 [11, 12, 13, 14, 15] _ _ rfl (by kernel_rfl) rfl rfl rfl rfl (fun K w' hk => ?_) ?_
                rotate_left
                · go_step; exact hk
                refine Ord.St.fl2 (T' := ?_) 11 [12, 13, 14, 15] _ _ rfl (by kernel_rfl) rfl rfl rfl rfl (fun K w' hk => ?_) ?_
                rotate_left
                · go_step; exact hk
                refine Ord.St.fl2 (T' := ?_) 12 [13, 14, 15] _ _ rfl (by kernel_rfl) rfl rfl rfl rfl (fun K w' hk => ?_) ?_
                rotate_left
                · go_step; exact hk
                refine Ord.St.efC 13 [14, 15] _ rfl (by kernel_rfl) (fun K hK => ?_)
                go_wp2_with fail
                refine ⟨rfl, hK _ _ ?_ ?_⟩
                · exact hcur.alloc _
                clear hK K
                refine Ord.St.alw ?_; intro Wn hWn
                have hb9 := alw_blk (xs := [.int .i64 0, .slice none 0 0, .int .i64 0]) hWn
                have hs9 := hcur.size
                try have hne := rg_ne hrg2
                try replace hrg2 := hrg2.ch (alw_ch hWn) (by simp)
                replace hcur := hcur.trans (alw_ch hWn) (by simp)
                clear hWn
                first | (have _t := hrg2; clear _t; generalize w7.heap.size = b9 at *) | generalize Wc.heap.size = b9 at *
                refine Ord.St.ef 14 [15] _ rfl (by kernel_rfl) (fun K hK => ?_)
                have z0 := hb9.cell (i := 0) rfl
                have z1 := hb9.cell (i := 1) rfl
                have z2 := hb9.cell (i := 2) rfl
                have g0 := hb9.frozen (i := 0)
                have g1 := hb9.frozen (i := 1)
                have g2 := hb9.frozen (i := 2)
                have HRG2 := Lib.hid hrg2; clear hrg2
                have HB9 := Lib.hid hb9; clear hb9
                have HCUR := Lib.hid hcur; clear hcur
                go_wp2_with fail
                refine ⟨rfl, hK _ _ ?_⟩; clear hK K
                refine Ord.St.fl2 (T' := ?_) 15 [] _ _ rfl (by kernel_rfl) rfl rfl rfl rfl (fun K w' hk => ?_) ?_
                rotate_left
                · go_step; exact hk
                refine Ord.St.nil ?_
                go_wp2_with fail
                go_meet
                case rel => exact TS.mk HCUR.out HRG2.out hfr5 HB9.out hs9 hne rfl
              · go_wp2_with fail
                refine ⟨rfl, hK _ _ ?_ ?_⟩
                · exact hcur.alloc _
                clear hK K
                refine Ord.St.alw ?_; intro Wn hWn
                have hb9 := alw_blk (xs := [.int .i64 0, .slice none 0 0, .int .i64 0]) hWn
                have hs9 := hcur.size
                try have hne := rg_ne hrg2
                try replace hrg2 := hrg2.ch (alw_ch hWn) (by simp)
                replace hcur := hcur.trans (alw_ch hWn) (by simp)
                clear hWn
                first | (have _t := hrg2; clear _t; generalize w7.heap.size = b9 at *) | generalize Wc.heap.size = b9 at *
                refine Ord.St.ef 9 [10, 11, 12, 14, 15] _ rfl (by kernel_rfl) (fun K hK => ?_)
                have HA := Lib.hid (HMM3.out _ hcur)
                go_wp2_with fail
                refine HA.out.mono ?_
                rintro e w7 ⟨rb2, cap2, rfl, hrg2, hch, hfr3⟩
                go_wp2_with fail
                refine ⟨rfl, hK _ _ ?_⟩; clear hK K
                try have hne := rto_ne hb9 (by omega) hfr3
                try replace hb9 := hb9.ch hch (by simp)
                have hfr5 : rb2 = rb4 ∨ wz.heap.size ≤ rb2 := by have := hcur.size; rcases hfr3 with e | e <;> omega
                replace hcur := hcur.trans hch (by simp)
                clear hch hfr3 HA
                refine Ord.St.fl2 (T' := ?_) 10 [11, 12, 14, 15] _ _ rfl (by kernel_rfl) rfl rfl rfl rfl (fun K w' hk => ?_) ?_
                rotate_left
                · go_step; exact hk
                refine Ord.St.fl2 (T' := ?_) 11 [12, 14, 15] _ _ rfl (by kernel_rfl) rfl rfl rfl rfl (fun K w' hk => ?_) ?_
                rotate_left
                · go_step; exact hk
                refine Ord.St.fl2 (T' := ?_) 12 [14, 15] _ _ rfl (by kernel_rfl) rfl rfl rfl rfl (fun K w' hk => ?_) ?_
                rotate_left
                · go_step; exact hk
                refine Ord.St.ef 14 [15] _ rfl (by kernel_rfl) (fun K hK => ?_)
                have z0 := hb9.cell (i := 0) rfl
                have z1 := hb9.cell (i := 1) rfl
                have z2 := hb9.cell (i := 2) rfl
                have g0 := hb9.frozen (i := 0)
                have g1 := hb9.frozen (i := 1)
                have g2 := hb9.frozen (i := 2)
                have HRG2 := Lib.hid hrg2; clear hrg2
                have HB9 := Lib.hid hb9; clear hb9
                have HCUR := Lib.hid hcur; clear hcur
                go_wp2_with fail
                refine ⟨rfl, hK _ _ ?_⟩; clear hK K
                refine Ord.St.fl2 (T' := ?_) 15 [] _ _ rfl (by kernel_rfl) rfl rfl rfl rfl (fun K w' hk => ?_) ?_
                rotate_left
                · go_step; exact hk
                refine Ord.St.nil ?_
                go_wp2_with fail
                go_meet
                case rel => exact TS.mk HCUR.out HRG2.out hfr5 HB9.out hs9 hne rfl
            case rest =>
              obtain ⟨rb5, cap5, b5, rfl, rfl, hc5, hrg5, hfr5, hb5, hlo5⟩ := hcut
              have hM := fun (W : World) (hW : Ch [] wc W) => HM4.out wc rb5 cap5 hrg5 W hW
              have HMM4 := Lib.hid hM; clear hM HM4
              have HB5 := Lib.hid hb5; clear hb5
              have hrl5 := hrg5.lt
              clear hrg5
              have HC5 := Lib.hid hc5; clear hc5
              go_upto_region 11 with fail
              go_cut [18, 19] (fun p q wd => TS wc wd rb5 ((G6, q6), p6) p q)
              case first =>
                have y0 := HB5.out.cell (i := 0) rfl
                have y1 := HB5.out.cell (i := 1) rfl
                have y2 := HB5.out.cell (i := 2) rfl
                go_wp2_with fail
                refine (HMM4.out _ (Ch.refl _ _)).mono ?_
                rintro e w7 ⟨rb2, cap2, rfl, hrg2, hch, hfr3⟩
                have HRG2 := Lib.hid hrg2; clear hrg2
                have HCH := Lib.hid hch; clear hch
                go_wp2_with fail
                go_meet
                case rel => exact TS.new HCH.out HRG2.out hfr3 rfl
              case rest =>
                obtain ⟨rb6, cap6, b6, rfl, rfl, hc6, hrg6, hfr6, hb6, hlo6⟩ := hcut
                have hM := fun (W : World) (hW : Ch [] wc W) => HM5.out wc rb6 cap6 hrg6 W hW
                have HMM5 := Lib.hid hM; clear hM HM5
                have HB6 := Lib.hid hb6; clear hb6
                have hrl6 := hrg6.lt
                clear hrg6
                have hz5 := HC5.out.size
                have hfr65 : rb6 = rb4 ∨ wz.heap.size ≤ rb6 := by rcases hfr6 with e | e; (rcases hfr5 with e2 | e2; left; omega; right; omega); (right; omega)
                have HC6 := Lib.hid (HC5.out.trans hc6 (by simp)); clear hc6 HC5 HB5
                go_upto_region 12 with fail
                go_cut [20, 21] (fun p q wd => TS wc wd rb6 ((G7, q7), p7) p q)
                case first =>
                  have y0 := HB6.out.cell (i := 0) rfl
                  have y1 := HB6.out.cell (i := 1) rfl
                  have y2 := HB6.out.cell (i := 2) rfl
                  go_wp2_with fail
                  refine (HMM5.out _ (Ch.refl _ _)).mono ?_
                  rintro e w7 ⟨rb2, cap2, rfl, hrg2, hch, hfr3⟩
                  have HRG2 := Lib.hid hrg2; clear hrg2
                  have HCH := Lib.hid hch; clear hch
                  go_wp2_with fail
                  go_meet
                  case rel => exact TS.new HCH.out HRG2.out hfr3 rfl
                case rest =>
                  obtain ⟨rb7, cap7, b7, rfl, rfl, hc7, hrg7, hfr7, hb7, hlo7⟩ := hcut
                  have hz6 := HC6.out.size
                  have hc := HC6.out.trans hc7 (by simp)
                  have hfr : rb7 = rb4 ∨ wz.heap.size ≤ rb7 := by rcases hfr7 with e | e; (rcases hfr65 with e2 | e2; left; omega; right; omega); (right; omega)
                  clear hc7 hfr7 HB6 HC6
                  have x0 := hb7.cell (i := 0) rfl
                  have x1 := hb7.cell (i := 1) rfl
                  have x2 := hb7.cell (i := 2) rfl
                  have hbp := (HS.out.same hc).b4
                  have f0 := hbp.frozen (i := 0)
                  have f1 := hbp.frozen (i := 1)
                  have f2 := hbp.frozen (i := 2)
                  have y0 := hbp.cell (i := 0) rfl
                  have y1 := hbp.cell (i := 1) rfl
                  have y2 := hbp.cell (i := 2) rfl
                  clear hbp
                  have HCX := Lib.hid hc; clear hc
                  have HRX := Lib.hid hrg7; clear hrg7
                  have HBX := Lib.hid hb7; clear hb7
                  go_upto_region 4 with fail
                  refine wp_alw ?_
                  intro W12 hW9
                  have hst := HS.out.put HCX.out HRX.out hfr hW9
                  clear hW9 x0 x1 x2 y0 y1 y2 f0 f1 f2 HRX HBX
                  have HS12 := Lib.hid hst; clear hst
                  go_wp2_with fail
                  go_roundw
                  case rel => exact ⟨j + 1, rb7, cap7, by omega, by go_num, by rw [HEN2.out], by rw [HEN2.out]; exact HS12.out⟩
                  case measure => simp [intOf]; omega
          · have HEN2 := Lib.hid (HEN.out.trans (if_neg hjl))
            have hj1 : ¬ (j : Int) < (n : Int) - 1 := by omega
            go_wp2_with fail
            go_roundw
            case rel => exact ⟨j + 1, rb4, cap4, by omega, by go_num, by rw [HEN2.out], by rw [HEN2.out]; exact HS.out⟩
            case measure => simp [intOf]; omega
    · have hall : Z.take j = Z := List.take_of_length_le (by rw [HZL.out]; omega)
      rw [hall] at hst ho
      obtain ⟨⟨⟨G2, q2⟩, l2, c⟩, hES⟩ : ∃ ES, ES = E Z := ⟨_, rfl⟩
      rw [← hES] at hst ho
      simp only at hst ho
      subst ho
      have HES := Lib.hid hES; clear hES
      obtain ⟨na, nc, rfl⟩ := row.shape hst.rw
      have y0 := hst.b4.cell (i := 0) rfl
      have y1 := hst.b4.cell (i := 1) rfl
      have y2 := hst.b4.cell (i := 2) rfl
      have v0 := hst.b8.cell (i := 0) rfl
      have v1 := hst.b8.cell (i := 1) rfl
      have v2 := hst.b8.cell (i := 2) rfl
      have g0 := hst.b8.frozen (i := 0)
      have g1 := hst.b8.frozen (i := 1)
      have g2 := hst.b8.frozen (i := 2)
      have hl8 := hst.b8.lt
      have HST := Lib.hid hst; clear hst
      go_wp2_with fail
      refine bodyPost_ret (v := .tuple #[.agg #[.int .i64 G2.most, .slice (some ⟨rbk, 0, none⟩) G2.nodes.length capk, .int .i64 q2], .slice na l2.length nc]) (by simp [results, Tryz.results349, go_sem, v0, v1, v2]) rfl ?_
      show LTo w rb ((E Z).1, (E Z).2.1) _ _
      rw [← HES.out]
      exact HST.out.fin rfl
end
end Go.Proofs.YtehljgigebhddaaGreat
namespace Go.Proofs.YtehljgigebhddaaGreat
open Go.RowKit Go.Mem Go.Aig
section
variable {w : World} {rb cap : Nat} {G : Gra}
set_option maxRecDepth 100000 in
set_option maxHeartbeats 4000000 in
theorem r23AddQ_is (h : RG w rb cap G) {qe : Nat} (hqe : qe = 0 ∨ qe = 201) {xa ya : Option Addr} {X Y : List Nat} (n xc yc : Nat) (hX : Sl w xa (natInts X)) (hY : Sl w ya (natInts Y)) (hn : X.length = n) (hm : Y.length = n) (hn0 : n ≤ 1000) (hxr : ∀ r ∈ X, r < 2 * G.nodes.length) (hyr : ∀ r ∈ Y, r < 2 * G.nodes.length) :
    Calls Tryz.prog 337 #[.agg #[.int .i64 G.most, .slice (some ⟨rb, 0, none⟩) G.nodes.length cap, .int .i64 qe], .slice xa n xc, .slice ya n yc] w (LTo w rb (sumW n (G, qe) (X.zip Y) 0)) := by
  have hpos := h.ok.wf.pos
  have hS := fun (W : World) (hW : Ch [] w W) => r23SumQ_is (h.ch hW (by simp)) hqe n xc yc (hX.ch hW (by simp)) (hY.ch hW (by simp)) hn hm hn0 hxr hyr (c0 := 0) (by omega)
  generalize sumW n (G, qe) (X.zip Y) 0 = R at *
  obtain ⟨⟨G1, q1⟩, l1⟩ := R
  have HS := Lib.hid hS; clear hS
  have H := Lib.hid h; clear h hX hY hn hm hxr hyr
  go_enter Tryz.func337, Tryz.ntmps337
  go_wp2_with fail
  refine calls_named fun W hW => ?_
  have hst := RSt.start H.out hW rfl
  clear hW
  refine (HS.out W hst.ch).mono ?_
  rintro e w1 ⟨rb', cap', a, c, rfl, hrg, hch, hfr, hrow, hown⟩
  have b8 := hst.b8.ch hch (by simp)
  have z0 := b8.cell (i := 0) rfl
  have z1 := b8.cell (i := 1) rfl
  have z2 := b8.cell (i := 2) rfl
  have f0 := b8.frozen (i := 0)
  have f1 := b8.frozen (i := 1)
  have f2 := b8.frozen (i := 2)
  have hl8 := b8.lt
  have HST := Lib.hid hst; clear hst b8
  have HRG := Lib.hid hrg; clear hrg
  have HCH := Lib.hid hch; clear hch
  have HROW := Lib.hid hrow; clear hrow
  have HOWN := Lib.hid hown; clear hown
  go_wp2_with fail
  refine bodyPost_ret (v := .tuple #[.agg #[.int .i64 G1.most, .slice (some ⟨rb', 0, none⟩) G1.nodes.length cap', .int .i64 q1], .slice a l1.length c]) (by simp [results, Tryz.results337, go_sem, z0, z1, z2]) rfl ?_
  exact HST.out.outL (R := ((G1, q1), l1)) HRG.out HCH.out hfr HROW.out HOWN.out rfl
set_option maxRecDepth 100000 in
set_option maxHeartbeats 4000000 in
theorem r23SubQ_is (h : RG w rb cap G) {qe : Nat} (hqe : qe = 0 ∨ qe = 201) {xa ya : Option Addr} {X Y : List Nat} (n xc yc : Nat) (hX : Sl w xa (natInts X)) (hY : Sl w ya (natInts Y)) (hn : X.length = n) (hm : Y.length = n) (hn0 : n ≤ 1000) (hxr : ∀ r ∈ X, r < 2 * G.nodes.length) (hyr : ∀ r ∈ Y, r < 2 * G.nodes.length) :
    Calls Tryz.prog 339 #[.agg #[.int .i64 G.most, .slice (some ⟨rb, 0, none⟩) G.nodes.length cap, .int .i64 qe], .slice xa n xc, .slice ya n yc] w (LTo w rb (subW n (G, qe) X Y)) := by
  have hpos := h.ok.wf.pos
  have hsm := h.ok.small
  have hN := fun (W : World) (hW : Ch [] w W) => r23Not_is n yc hm (by omega) (hY.ch hW (by simp)) (fun r hr => by have := hyr r hr; omega)
  have hS := fun (W : World) (hW : Ch [] w W) (za : Option Addr) (zc : Nat) (hZ : Sl W za (natInts (Y.map neg))) => r23SumQ_is (h.ch hW (by simp)) hqe n xc zc (hX.ch hW (by simp)) hZ hn (by simp [hm]) hn0 hxr (fun r hr => by obtain ⟨z, hz, rfl⟩ := List.mem_map.1 hr; exact neg_lt (hyr z hz)) (c0 := 1) (by omega)
  unfold subW
  generalize sumW n (G, qe) (X.zip (Y.map neg)) 1 = R at *
  obtain ⟨⟨G1, q1⟩, l1⟩ := R
  have HN := Lib.hid hN; clear hN
  have HS := Lib.hid hS; clear hS
  have H := Lib.hid h; clear h hX hY hn hm hxr hyr
  go_enter Tryz.func339, Tryz.ntmps339
  go_upto_region 1 with fail
  refine wp_alw ?_
  intro W hW
  have hst := RSt.start H.out hW rfl
  clear hW
  have HST := Lib.hid hst; clear hst
  have hcur0 := (Ch.refl [] W).drew
  refine Ord.St.door (fun w' => Ch [] W w') [.ho, .fl, .fl, .ef, .ef, .fl, .fl, .ef, .fl] [0, 0, 0, 4, 15, 31, 31, 127, 255] [0, 1, 2, 3, 4, 5, 6, 7, 8] mixed (by kernel_rfl) rfl ?_
  refine Ord.St.ho2 (T' := ?_) 0 [1, 2, 3, 4, 5, 6, 7, 8] _ _ rfl (by kernel_rfl) rfl rfl rfl rfl ?_ (fun K w' hw' hk => ?_) ?_
  rotate_left
  · exact hcur0
  · have hb4 := (HST.out.same hw').b4; have y0 := hb4.cell (i := 0) rfl; have y1 := hb4.cell (i := 1) rfl; have y2 := hb4.cell (i := 2) rfl; go_step; exact hk
  refine Ord.St.fl2 (T' := ?_) 1 [2, 3, 4, 5, 6, 7, 8] _ _ rfl (by kernel_rfl) rfl rfl rfl rfl (fun K w' hk => ?_) ?_
  rotate_left
  · go_step; exact hk
  refine Ord.St.fl2 (T' := ?_) 2 [3, 4, 5, 6, 7, 8] _ _ rfl (by kernel_rfl) rfl rfl rfl rfl (fun K w' hk => ?_) ?_
  rotate_left
  · go_step; exact hk
  refine Ord.St.efC 3 [4, 5, 6, 7, 8] _ rfl (by kernel_rfl) (fun K hK => ?_)
  go_wp2_with fail
  refine (HN.out _ (HST.out.ch.trans hcur0 (by simp))).mono ?_
  rintro e w2 ⟨v, rfl, hro, hlo, hc2⟩
  have hcur : Ch [] W w2 := hcur0.trans hc2 (by simp)
  obtain ⟨na, nc, rfl⟩ := row.shape hro
  have hsl := Sl.of_ints hro (by omega)
  have HSL := Lib.hid hsl; clear hsl hro hlo hc2
  go_wp2_with fail
  refine ⟨rfl, hK _ _ ?_ ?_⟩
  · exact hcur
  clear hK K
  refine Ord.St.ef 4 [5, 6, 7, 8] _ rfl (by kernel_rfl) (fun K hK => ?_)
  go_wp2_with fail
  refine (HS.out _ (HST.out.ch.trans hcur (by simp)) na nc HSL.out).mono ?_
  rintro e w1 ⟨rb', cap', a, c, rfl, hrg, hch, hfr, hrow, hown⟩
  have b8 := (HST.out.b8.ch hcur (by simp)).ch hch (by simp)
  have z0 := b8.cell (i := 0) rfl
  have z1 := b8.cell (i := 1) rfl
  have z2 := b8.cell (i := 2) rfl
  have f0 := b8.frozen (i := 0)
  have f1 := b8.frozen (i := 1)
  have f2 := b8.frozen (i := 2)
  have hl8 := b8.lt
  have hzz := hcur.size
  have HRG := Lib.hid hrg; clear hrg b8
  have HCH := Lib.hid (hcur.trans hch (by simp)); clear hch
  have HROW := Lib.hid hrow; clear hrow
  have HOWN := Lib.hid hown; clear hown
  go_wp2_with fail
  refine ⟨rfl, hK _ _ ?_⟩; clear hK K
  refine Ord.St.fl2 (T' := ?_) 5 [6, 7, 8] _ _ rfl (by kernel_rfl) rfl rfl rfl rfl (fun K w' hk => ?_) ?_
  rotate_left
  · go_step; exact hk
  refine Ord.St.fl2 (T' := ?_) 6 [7, 8] _ _ rfl (by kernel_rfl) rfl rfl rfl rfl (fun K w' hk => ?_) ?_
  rotate_left
  · go_step; exact hk
  refine Ord.St.ef 7 [8] _ rfl (by kernel_rfl) (fun K hK => ?_)
  go_wp2_with fail
  refine ⟨rfl, hK _ _ ?_⟩; clear hK K
  refine Ord.St.fl2 (T' := ?_) 8 [] _ _ rfl (by kernel_rfl) rfl rfl rfl rfl (fun K w' hk => ?_) ?_
  rotate_left
  · go_step; exact hk
  refine Ord.St.nil ?_
  go_wp2_with fail
  refine bodyPost_ret (v := .tuple #[.agg #[.int .i64 G1.most, .slice (some ⟨rb', 0, none⟩) G1.nodes.length cap', .int .i64 q1], .slice a l1.length c]) (by simp [results, Tryz.results339, go_sem, z0, z1, z2]) rfl ?_
  exact HST.out.outL (R := ((G1, q1), l1)) HRG.out HCH.out (by omega) HROW.out (fun q hq => by have := HOWN.out q hq; omega) rfl
set_option maxRecDepth 100000 in
set_option maxHeartbeats 4000000 in
theorem r23LeQ_is (h : RG w rb cap G) {qe : Nat} (hqe : qe = 0 ∨ qe = 201) {xa ya : Option Addr} {X Y : List Nat} (n xc yc : Nat) (hX : Sl w xa (natInts X)) (hY : Sl w ya (natInts Y)) (hn : X.length = n) (hm : Y.length = n) (hn0 : n ≤ 1000) (hxr : ∀ r ∈ X, r < 2 * G.nodes.length) (hyr : ∀ r ∈ Y, r < 2 * G.nodes.length) (hp : (ltF (G, qe) (Y.zip X)).2 ≤ 1000000) :
    Calls Tryz.prog 338 #[.agg #[.int .i64 G.most, .slice (some ⟨rb, 0, none⟩) G.nodes.length cap, .int .i64 qe], .slice xa n xc, .slice ya n yc] w (STo w rb (negS (ltF (G, qe) (Y.zip X)))) := by
  have hS := fun (W : World) (hW : Ch [] w W) => r23LtQ_is (h.ch hW (by simp)) hqe n yc xc (hY.ch hW (by simp)) (hX.ch hW (by simp)) hm hn hn0 hyr hxr
  unfold negS
  generalize ltF (G, qe) (Y.zip X) = R at *
  obtain ⟨⟨G1, q1⟩, p1⟩ := R
  simp only at hp
  have hN := fun (W : World) => rNot_is W p1 (by omega)
  have HN := Lib.hid hN; clear hN
  have HS := Lib.hid hS; clear hS
  have H := Lib.hid h; clear h hX hY hn hm hxr hyr
  go_enter Tryz.func338, Tryz.ntmps338
  go_wp2_with fail
  refine calls_named fun W hW => ?_
  have hst := RSt.start H.out hW rfl
  clear hW
  refine (HS.out W hst.ch).mono ?_
  rintro e w1 ⟨rb', cap', rfl, hrg, hch, hfr⟩
  have HST := Lib.hid hst; clear hst
  have HRG := Lib.hid hrg; clear hrg
  have HCH := Lib.hid hch; clear hch
  go_upto_region 2 with fail
  refine wp_alw ?_
  intro W8 hW8
  have hb8 : blk W8 w1.heap.size [.int .i64 G1.most, .slice (some ⟨rb', 0, none⟩) G1.nodes.length cap', .int .i64 q1] := by rw [hW8]; exact blk.new' _ _ rfl
  have hcA : Ch [] w1 W8 := by rw [hW8]; exact (Ch.refl _ _).alloc _
  have hc8 : Ch [] W W8 := HCH.out.trans hcA (by simp)
  have hrg8 := HRG.out.ch hcA (by simp)
  clear hW8 HRG hcA
  have x0 := hb8.cell (i := 0) rfl
  have x1 := hb8.cell (i := 1) rfl
  have x2 := hb8.cell (i := 2) rfl
  have b8 := HST.out.b8.ch hc8 (by simp)
  have z0 := b8.cell (i := 0) rfl
  have z1 := b8.cell (i := 1) rfl
  have z2 := b8.cell (i := 2) rfl
  have f0 := b8.frozen (i := 0)
  have f1 := b8.frozen (i := 1)
  have f2 := b8.frozen (i := 2)
  have hl8 := b8.lt
  have HRG2 := Lib.hid hrg8; clear hrg8 b8 hb8
  have HC9 := Lib.hid hc8; clear hc8
  go_wp2_with fail
  refine Ord.St.door (fun _ => True) [.rd, .fl, .fl, .ef, .fl] [0, 0, 2, 7, 15] [0, 1, 2, 3, 4] mixed (by kernel_rfl) rfl ?_
  refine Ord.St.rd2 (T' := ?_) 0 [1, 2, 3, 4] _ _ rfl (by kernel_rfl) rfl rfl rfl rfl (fun K hk => ?_) ?_
  rotate_left
  · go_step; exact hk
  refine Ord.St.fl2 (T' := ?_) 1 [2, 3, 4] _ _ rfl (by kernel_rfl) rfl rfl rfl rfl (fun K w' hk => ?_) ?_
  rotate_left
  · go_step; exact hk
  refine Ord.St.fl2 (T' := ?_) 2 [3, 4] _ _ rfl (by kernel_rfl) rfl rfl rfl rfl (fun K w' hk => ?_) ?_
  rotate_left
  · go_step; refine (HN.out _).mono ?_; rintro e w'' ⟨rfl, rfl⟩; exact hk
  refine Ord.St.ef 3 [4] _ rfl (by kernel_rfl) (fun K hK => ?_)
  go_wp2_with fail
  refine ⟨rfl, hK _ _ ?_⟩; clear hK K
  refine Ord.St.fl2 (T' := ?_) 4 [] _ _ rfl (by kernel_rfl) rfl rfl rfl rfl (fun K w' hk => ?_) ?_
  rotate_left
  · go_step; exact hk
  refine Ord.St.nil ?_
  go_wp2_with fail
  refine bodyPost_ret (v := .tuple #[.agg #[.int .i64 G1.most, .slice (some ⟨rb', 0, none⟩) G1.nodes.length cap', .int .i64 q1], .int .i64 (neg p1 : Nat)]) (by simp [results, Tryz.results338, go_sem, z0, z1, z2]) rfl ?_
  exact HST.out.outS (R := ((G1, q1), neg p1)) (HRG2.out.ch (Ch.refl [] _).drew (by simp)) HC9.out.drew hfr rfl
end
end Go.Proofs.YtehljgigebhddaaGreat
namespace Go.Aig
/-- the products of one bit, the first j places -/
def rowA (s : Mk) (b : Nat) (x : List Nat) (k j : Nat) : Mk × List Nat := ((andsF s b (x.take (j - k))).1, List.replicate (min j k) 0 ++ (andsF s b (x.take (j - k))).2)
theorem rowA_zero (s : Mk) (b : Nat) (x : List Nat) (k : Nat) : rowA s b x k 0 = (s, []) := by
  unfold rowA
  rw [Nat.zero_sub, List.take_zero, Nat.zero_min]
  rfl
theorem rowA_low (s : Mk) (b : Nat) (x : List Nat) {k j : Nat} (h : j < k) : rowA s b x k (j + 1) = ((rowA s b x k j).1, (rowA s b x k j).2 ++ [0]) := by
  unfold rowA
  rw [show j + 1 - k = 0 by omega, show j - k = 0 by omega, List.take_zero, Nat.min_eq_left (by omega), Nat.min_eq_left (by omega)]
  show ((andsF s b []).1, List.replicate (j + 1) 0 ++ []) = ((andsF s b []).1, (List.replicate j 0 ++ []) ++ [0])
  rw [List.append_nil, List.append_nil, List.replicate_succ']
theorem rowA_high (s : Mk) (b : Nat) (x : List Nat) {k j a : Nat} (h : k ≤ j) (ha : x[j - k]? = some a) : rowA s b x k (j + 1) = ((rstep (rowA s b x k j).1 (and (rowA s b x k j).1.1 a b)).1, (rowA s b x k j).2 ++ [(rstep (rowA s b x k j).1 (and (rowA s b x k j).1.1 a b)).2]) := by
  unfold rowA
  rw [show j + 1 - k = (j - k) + 1 by omega, List.take_add_one, ha, Option.toList_some, andsF_snoc, Nat.min_eq_right (by omega), Nat.min_eq_right h]
  unfold eachS rop
  simp only [List.append_assoc]
theorem rowA_len (s : Mk) (b : Nat) (x : List Nat) {k j : Nat} (h : j - k ≤ x.length) : (rowA s b x k j).2.length = j := by
  unfold rowA
  simp only [List.length_append, List.length_replicate, andsF_len, List.length_take]
  omega
theorem rmS_row (x : List Nat) (q : Mk × List Nat) (b : Nat) {k : Nat} (hk : k ≤ x.length) : rmS x q (b, k) = if k = 0 then rowA q.1 b x k x.length else sumW x.length (rowA q.1 b x k x.length).1 (q.2.zip (rowA q.1 b x k x.length).2) 0 := by
  unfold rmS rowA
  simp only [Nat.min_eq_right hk]
theorem rowA_ok {G : Gra} {s : Mk} (hs : SOk G s) {b : Nat} {x : List Nat} (hb : b < 2 * s.1.nodes.length) (hx : ∀ r ∈ x, r < 2 * s.1.nodes.length) (k j : Nat) : LOk s.1 (rowA s b x k j) := by
  have h := eachF_sok' hs full_and ((x.take (j - k)).map fun a => (a, b)) (fun p hp => by
    obtain ⟨r, hr, rfl⟩ := List.mem_map.1 hp
    exact ⟨hx r (List.mem_of_mem_take hr), hb⟩)
  refine ⟨h.s, fun r hr => ?_⟩
  unfold rowA at hr ⊢
  rcases List.mem_append.1 hr with hr | hr
  · rw [List.mem_replicate] at hr
    have := h.s.ok.wf.pos
    show r < 2 * (andsF s b (x.take (j - k))).1.1.nodes.length
    unfold andsF
    omega
  · exact h.lt r hr
end Go.Aig
namespace Go.Proofs.YtehljgigebhddaaGreat
open Go.RowKit Go.Mem Go.Aig
section
variable {w W W' : World} {rb0 rb cap : Nat} {s : Mk} {v v' : Value} {l l' : List Nat}
/-- another word in the place of the one that is made -/
theorem RSt.word (h : RSt w W rb0 rb cap s v l) (hr : row W 3 1 v' l'.length (intCells (natInts l'))) (ho : ∀ q, v'.ownBlock = some q → w.heap.size + 2 ≤ q ∧ q ≠ rb) : RSt w W rb0 rb cap s v' l' :=
  ⟨h.ch, h.rg, h.fr, h.b4, h.b8, hr, ho, h.low⟩
theorem RSt.noWord (h : RSt w W rb0 rb cap s v l) : RSt w W rb0 rb cap s (.slice none 0 0) [] := h.word ⟨rfl, .inl ⟨rfl, rfl⟩⟩ (by simp [Value.ownBlock])
/-- the state, the word that is made, and another word that is kept -/
structure RS2 (w W : World) (rb0 rb cap : Nat) (s : Mk) (v : Value) (l : List Nat) (ov : Value) (lo : List Nat) : Prop where
  st : RSt w W rb0 rb cap s v l
  ow : row W 3 1 ov lo.length (intCells (natInts lo))
  own : ∀ q, ov.ownBlock = some q → w.heap.size + 2 ≤ q ∧ q ≠ rb ∧ v.ownBlock ≠ some q
theorem RSt.two (h : RSt w W rb0 rb cap s v l) : RS2 w W rb0 rb cap s (.slice none 0 0) [] v l := ⟨h.noWord, h.rw, fun q hq => ⟨(h.own q hq).1, (h.own q hq).2, by simp [Value.ownBlock]⟩⟩
variable {ov : Value} {lo : List Nat}
theorem RS2.same (h : RS2 w W rb0 rb cap s v l ov lo) (hc : Ch [] W W') : RS2 w W' rb0 rb cap s v l ov lo := ⟨h.st.same hc, h.ow.ch hc (by simp), h.own⟩
theorem RS2.put {Wb : World} {rb' cap' q' : Nat} {G' : Gra} (h : RS2 w Wb rb0 rb cap s v l ov lo) (hc : Ch [] Wb W) (hr : RG W rb' cap' G') (hf : rb' = rb ∨ Wb.heap.size ≤ rb')
    (hW : W' = ((W.setCell ⟨w.heap.size, 0, none⟩ (.int .i64 G'.most)).setCell ⟨w.heap.size, 1, none⟩ (.slice (some ⟨rb', 0, none⟩) G'.nodes.length cap')).setCell ⟨w.heap.size, 2, none⟩ (.int .i64 q')) : RS2 w W' rb0 rb' cap' (G', q') v l ov lo := by
  have hcs := set3_ch hW
  refine ⟨h.st.put hc hr hf hW, (h.ow.ch hc (by simp)).ch hcs (fun k hk => by have := (h.own k hk).1; simp; omega), fun q hq => ?_⟩
  obtain ⟨h1, h2, h3⟩ := h.own q hq
  have h4 := (h.ow.lt q hq).2
  exact ⟨h1, by rcases hf with e | e <;> omega, h3⟩
theorem RS2.app {na : Option Addr} {nc r : Nat} {o : Obj} {wz : World} (h : RS2 w W rb0 rb cap s (.slice na l.length nc) l ov lo) (hrow : row wz 3 1 v' (l.length + 1) (intCells (natInts l) ++ [.int .i64 r]))
    (hc : Ch (Value.slice na l.length nc).ownBlock.toList (W.alloc o) wz) (hf : ∀ k, v'.ownBlock = some k → (Value.slice na l.length nc).ownBlock = some k ∨ (W.alloc o).heap.size ≤ k) : RS2 w wz rb0 rb cap s v' (l ++ [r]) ov lo := by
  have hcA : Ch [] W (W.alloc o) := (Ch.refl _ _).alloc _
  refine ⟨h.st.app hrow hc hf, (h.ow.ch hcA (by simp)).ch hc (fun k hk hin => (h.own k hk).2.2 (by simpa using hin)), fun q hq => ?_⟩
  obtain ⟨h1, h2, h3⟩ := h.own q hq
  have h4 := (h.ow.lt q hq).2
  have h5 := hcA.size
  refine ⟨h1, h2, fun e => ?_⟩
  rcases hf q e with e | e
  · exact h3 e
  · omega
end
end Go.Proofs.YtehljgigebhddaaGreat
namespace Go.Aig
theorem sumF_lokQ {G : Gra} (hG : Ok G) {q0 : Nat} (hq0 : q0 = 0 ∨ q0 = 201) (n : Nat) (l : List (Nat × Nat)) (hl : ∀ p ∈ l, p.1 < 2 * G.nodes.length ∧ p.2 < 2 * G.nodes.length) {c : Nat} (hc : c < 2 * G.nodes.length) : LOk G (sumW n (G, q0) l c) := by
  have : ∀ (l : List (Nat × Nat)) (q : Mk × List Nat × Nat), LOk G (q.1, q.2.1) → q.2.2 < 2 * q.1.1.nodes.length → (∀ p ∈ l, p.1 < 2 * G.nodes.length ∧ p.2 < 2 * G.nodes.length) → LOk G ((l.foldl (sumS n) q).1, (l.foldl (sumS n) q).2.1) := by
    intro l
    induction l with
    | nil => intro q h _ _; exact h
    | cons p l ih =>
      intro q h hq hl
      have hp := hl p (by simp)
      obtain ⟨h1, h2, h3⟩ := rstep_sok h.s (Y := rXor q.1.1 p.1 p.2) (fun _ => rXor_full h.s.ok (h.s.ext.lt hp.1) (h.s.ext.lt hp.2))
      obtain ⟨k1, k2, k3⟩ := rstep_sok h1 (Y := rXor (sXor q.1 p.1 p.2).1.1 (sXor q.1 p.1 p.2).2 q.2.2) (fun _ => rXor_full h1.ok h2 (h3.lt hq))
      have hl2 : ∀ p ∈ l, p.1 < 2 * G.nodes.length ∧ p.2 < 2 * G.nodes.length := fun p hp => hl p (by simp [hp])
      rw [List.foldl_cons]
      unfold sumS
      dsimp only
      split
      · obtain ⟨a1, a2, a3⟩ := rstep_sok k1 (Y := and (sXor (sXor q.1 p.1 p.2).1 (sXor q.1 p.1 p.2).2 q.2.2).1.1 p.1 p.2) (fun _ => and_full k1.ok (k1.ext.lt hp.1) (k1.ext.lt hp.2))
        obtain ⟨b1, b2, b3⟩ := rstep_sok a1 (Y := and (sAnd (sXor (sXor q.1 p.1 p.2).1 (sXor q.1 p.1 p.2).2 q.2.2).1 p.1 p.2).1.1 (sXor q.1 p.1 p.2).2 q.2.2) (fun _ => and_full a1.ok (a3.lt (k3.lt h2)) (a3.lt (k3.lt (h3.lt hq))))
        obtain ⟨c1, c2, c3⟩ := rstep_sok b1 (Y := rOr (sAnd (sAnd (sXor (sXor q.1 p.1 p.2).1 (sXor q.1 p.1 p.2).2 q.2.2).1 p.1 p.2).1 (sXor q.1 p.1 p.2).2 q.2.2).1.1 (sAnd (sXor (sXor q.1 p.1 p.2).1 (sXor q.1 p.1 p.2).2 q.2.2).1 p.1 p.2).2 (sAnd (sAnd (sXor (sXor q.1 p.1 p.2).1 (sXor q.1 p.1 p.2).2 q.2.2).1 p.1 p.2).1 (sXor q.1 p.1 p.2).2 q.2.2).2) (fun _ => rOr_full b1.ok (b3.lt a2) b2)
        exact ih _ (h.snoc c1 ((((h3.trans k3).trans a3).trans b3).trans c3) (((a3.trans b3).trans c3).lt k2)) c2 hl2
      · exact ih _ (h.snoc k1 (h3.trans k3) k2) (k3.lt (h3.lt hq)) hl2
  exact this l _ ⟨⟨hG, .refl _, hq0⟩, by simp⟩ hc hl
theorem rmF_ok {G : Gra} (hG : Ok G) {x : List Nat} (hx : ∀ r ∈ x, r < 2 * G.nodes.length) : ∀ y : List Nat, (∀ r ∈ y, r < 2 * G.nodes.length) → y.length ≤ x.length → LOk G (rmF x (G, 0) y) := by
  intro y
  induction y using List.snocRec with
  | nil => intro _ _; exact ⟨.start hG, by simp [rmF]⟩
  | snoc y b ih =>
    intro hy hl
    rw [List.length_append] at hl
    simp at hl
    have ih := ih (fun r hr => hy r (by simp [hr])) (by omega)
    rw [rmF_snoc, rmS_row _ _ _ (by omega)]
    have hA := rowA_ok (k := y.length) (j := x.length) ih.s (b := b) (x := x) (ih.s.ext.lt (hy b (by simp))) (fun r hr => ih.s.ext.lt (hx r hr))
    have hA2 : SOk G (rowA (rmF x (G, 0) y).1 b x y.length x.length).1 := ⟨hA.s.ok, ih.s.ext.trans hA.s.ext, hA.s.err⟩
    split
    · exact ⟨hA2, hA.lt⟩
    · have := sumF_lokQ hA.s.ok hA.s.err x.length ((rmF x (G, 0) y).2.zip (rowA (rmF x (G, 0) y).1 b x y.length x.length).2) (fun p hp => ⟨hA.s.ext.lt (ih.lt _ (List.of_mem_zip hp).1), hA.lt _ (List.of_mem_zip hp).2⟩) (c := 0) (by have := hA.s.ok.wf.pos; omega)
      exact ⟨⟨this.s.ok, hA2.ext.trans this.s.ext, this.s.err⟩, this.lt⟩
end Go.Aig
namespace Go.Proofs.YtehljgigebhddaaGreat
open Go.RowKit Go.Mem Go.Aig
section
variable {w : World}
set_option maxRecDepth 100000 in
set_option maxHeartbeats 16000000 in
theorem r24Mul_is {rb cap : Nat} {G : Gra} (h : RG w rb cap G) {xa ya : Option Addr} {X Y : List Nat} (n xc yc : Nat) (hX : Sl w xa (natInts X)) (hY : Sl w ya (natInts Y)) (hn : X.length = n) (hm : Y.length = n) (hn0 : n ≤ 1000) (hxr : ∀ r ∈ X, r < 2 * G.nodes.length) (hyr : ∀ r ∈ Y, r < 2 * G.nodes.length) :
    Calls Tryz.prog 300 #[.agg #[.int .i64 G.most, .slice (some ⟨rb, 0, none⟩) G.nodes.length cap, .int .i64 0], .slice xa n xc, .slice ya n yc] w (LTo w rb (rmF X (G, 0) Y)) := by
  have hok := h.ok
  have hElok := fun k (hk : k ≤ n) => rmF_ok hok hxr (Y.take k) (fun r hr => hyr r (List.mem_of_mem_take hr)) (by rw [List.length_take]; omega)
  have hElen := fun k (h1 : 1 ≤ k) (h2 : k ≤ n) => rmF_len (x := X) (G, 0) (Y.take k) (by rw [List.length_take]; omega) (by rw [List.length_take]; omega)
  have hEsn := fun k b (hb : Y[k]? = some b) => by
    have hl := (List.getElem?_eq_some_iff.1 hb).1
    have e : rmF X (G, 0) (Y.take (k + 1)) = rmS X (rmF X (G, 0) (Y.take k)) (b, k) := by
      rw [List.take_add_one, hb, Option.toList_some, rmF_snoc, List.length_take, Nat.min_eq_left (by omega)]
    rw [rmS_row _ _ _ (by omega)] at e
    exact e
  have HX := Lib.hid hX; clear hX
  have HY := Lib.hid hY; clear hY
  have H := Lib.hid h; clear h
  have HELOK := Lib.hid hElok; clear hElok
  have HELEN := Lib.hid hElen; clear hElen
  have HESN := Lib.hid hEsn; clear hEsn
  have HN := Lib.hid hn
  have HM0 := Lib.hid hm
  have HXR := Lib.hid hxr; clear hxr
  have HYR := Lib.hid hyr; clear hyr
  clear hn hm
  go_enter Tryz.func300, Tryz.ntmps300
  go_wp2_with fail
  refine wp_alw ?_
  intro W0 hW0
  have hst := RSt.start H.out hW0 rfl
  clear hW0
  have HST := Lib.hid hst; clear hst
  go_loopw [8, 9] (fun o i wr => ∃ (k rbk capk : Nat), k ≤ n ∧ i = .int .i64 k ∧ RSt w wr rb rbk capk (rmF X (G, 0) (Y.take k)).1 o (rmF X (G, 0) (Y.take k)).2) (fun _ i _ => n - (intOf i).toNat)
  case atStart => exact ⟨0, rb, cap, by omega, rfl, HST.out⟩
  case round =>
    clear HST
    obtain ⟨k, rbk, capk, hk, rfl, hst⟩ := hrel
    by_cases hkn : k < n
    · obtain ⟨b, hb⟩ : ∃ b, Y[k]? = some b := ⟨_, List.getElem?_eq_getElem (by rw [HM0.out]; exact hkn)⟩
      have hbr := HYR.out b (List.mem_of_getElem? hb)
      have hes := HESN.out k b hb
      have hlk := HELOK.out k hk
      have hll := HELEN.out k
      generalize hEE : rmF X (G, 0) (Y.take (k + 1)) = EN at hes
      generalize rmF X (G, 0) (Y.take k) = ES at hes hlk hst hll
      obtain ⟨⟨G2, q2⟩, lo⟩ := ES
      simp only at hst hes hll
      have hsl := hlk.s
      simp only at hsl
      have hRok := fun j => rowA_ok (s := (G2, q2)) ⟨hsl.ok, .refl _, hsl.err⟩ (b := b) (x := X) (hsl.ext.lt hbr) (fun r hr => hsl.ext.lt (HXR.out r hr)) k j
      have hb2 := hsl.ext.lt hbr
      have HSE := Lib.hid hsl.ext
      have hlo := hlk.lt
      simp only at hRok hb2 hlo
      obtain ⟨oa, oc, rfl⟩ := row.shape hst.rw
      have HS0 := Lib.hid hst.two; clear hst
      have HROK := Lib.hid hRok; clear hRok
      have HEE := Lib.hid hEE; clear hEE
      have HES := Lib.hid hes; clear hes
      have HLL := Lib.hid hll; clear hll
      have HLO := Lib.hid hlo; clear hlo hlk
      have HB := Lib.hid hb; clear hb
      go_wp2_with fail
      go_loopw [10, 11] (fun p i wq => ∃ (j rbj capj : Nat), j ≤ n ∧ i = .int .i64 j ∧ RS2 w wq rb rbj capj (rowA (G2, q2) b X k j).1 p (rowA (G2, q2) b X k j).2 (.slice oa lo.length oc) lo) (fun _ i _ => n - (intOf i).toNat)
      case atStart => exact ⟨0, rbk, capk, by omega, rfl, by rw [rowA_zero]; exact HS0.out⟩
      case round =>
        clear HS0
        obtain ⟨j, rbj, capj, hj, rfl, hs⟩ := hrel
        by_cases hjn : j < n
        · by_cases hkj : k ≤ j
          · obtain ⟨jk, hjk⟩ : ∃ jk, jk = j - k := ⟨_, rfl⟩
            obtain ⟨a, ha⟩ : ∃ a, X[jk]? = some a := ⟨_, List.getElem?_eq_getElem (by rw [HN.out]; omega)⟩
            have har := HXR.out a (List.mem_of_getElem? ha)
            have hrw := rowA_high (G2, q2) b X hkj (by rw [← hjk]; exact ha)
            have hok2 := HROK.out j
            have hlen := rowA_len (G2, q2) b X (k := k) (j := j) (by rw [HN.out]; omega)
            generalize hAA : rowA (G2, q2) b X k (j + 1) = AN at hrw
            generalize rowA (G2, q2) b X k j = AS at hrw hok2 hs hlen
            obtain ⟨⟨G3, q3⟩, lp⟩ := AS
            simp only at hs hrw hlen
            have ha3 : a < 2 * G3.nodes.length := hok2.s.ext.lt (HSE.out.lt har)
            have hb3 : b < 2 * G3.nodes.length := hok2.s.ext.lt hb2
            have hM := fun (W : World) (hW : Ch [] wr W) => r23And_is (q := q3) (hs.st.rg.ch hW (by simp)) ha3 hb3
            obtain ⟨⟨⟨G4, q4⟩, p4⟩, hR⟩ : ∃ R : Mk × Nat, R = rstep (G3, q3) (and G3 a b) := ⟨_, rfl⟩
            simp only [← hR] at hrw hM
            subst hrw
            clear hR hok2 har ha3 hb3
            obtain ⟨ab, ao, ae, ac⟩ := HX.out.cells jk (a : Int) (by simp [natInts, ha])
            obtain ⟨bb, bo, be, bc⟩ := HY.out.cells k (b : Int) (by simp [natInts, HB.out])
            have ha1 : wr.cell? ⟨ab, ao + jk, none⟩ = some (.int .i64 a) := (hs.st.ch.cell (cell_lt ac) (by simp)).trans ac
            have hb1 : wr.cell? ⟨bb, bo + k, none⟩ = some (.int .i64 b) := (hs.st.ch.cell (cell_lt bc) (by simp)).trans bc
            subst ae be
            clear ac bc
            have hsub : (j : Int) - (k : Int) = ((jk : Nat) : Int) := by omega
            have q1 : decide ((k : Int) ≤ (j : Int)) = true := decide_eq_true (by omega)
            have hjkn : jk < n := by omega
            have hrlj := hs.st.rg.lt
            have HJK := Lib.hid hjk; clear hjk
            have HA1 := Lib.hid ha1; clear ha1
            have HB1 := Lib.hid hb1; clear hb1
            have HAA := Lib.hid hAA; clear hAA
            have HM := Lib.hid hM; clear hM
            have HLEN := Lib.hid hlen; clear hlen
            have HS := Lib.hid hs; clear hs ha
            go_upto_region 11 with fail
            go_cut [13, 14] (fun p q wd => TS wr wd rbj ((G4, q4), p4) p q)
            case first =>
              refine Ord.St.door (fun w' => Ch [] wr w') [.ho, .fl, .fl, .fl, .fl, .fl, .ho, .fl, .fl, .fl, .ho, .ef, .fl, .fl, .fl, .ef, .ef, .fl] [0, 0, 0, 0, 12, 30, 62, 0, 0, 384, 896, 2047, 4095, 8191, 8191, 0, 49151, 131071] [0, 1, 2, 3, 4, 5, 6, 7, 8, 9, 10, 11, 12, 13, 14, 15, 16, 17] mixed (by kernel_rfl) rfl ?_
              obtain ⟨Wc, hWc⟩ : ∃ Wc, Wc = wr.drew := ⟨_, rfl⟩
              rw [← hWc]
              have hcur : Ch [] wr Wc := by rw [hWc]; exact (Ch.refl _ _).drew
              clear hWc
              refine Ord.St.ho2 (T' := ?_) 0 [1, 2, 3, 4, 5, 6, 7, 8, 9, 10, 11, 12, 13, 14, 15, 16, 17] _ _ rfl (by kernel_rfl) rfl rfl rfl rfl ?_ (fun K w' hw' hk => ?_) ?_
              rotate_left
              · trivial
              · have hb4 := (HS.out.st.same hw').b4; have y0 := hb4.cell (i := 0) rfl; have y1 := hb4.cell (i := 1) rfl; have y2 := hb4.cell (i := 2) rfl; have a0 := (hw'.cell (cell_lt HA1.out) (by simp)).trans HA1.out; have b0 := (hw'.cell (cell_lt HB1.out) (by simp)).trans HB1.out; clear hb4; go_step; exact hk
              refine Ord.St.fl2 (T' := ?_) 1 [2, 3, 4, 5, 6, 7, 8, 9, 10, 11, 12, 13, 14, 15, 16, 17] _ _ rfl (by kernel_rfl) rfl rfl rfl rfl (fun K w' hk => ?_) ?_
              rotate_left
              · go_step; exact hk
              refine Ord.St.fl2 (T' := ?_) 2 [3, 4, 5, 6, 7, 8, 9, 10, 11, 12, 13, 14, 15, 16, 17] _ _ rfl (by kernel_rfl) rfl rfl rfl rfl (fun K w' hk => ?_) ?_
              rotate_left
              · go_step; exact hk
              refine Ord.St.fl2 (T' := ?_) 3 [4, 5, 6, 7, 8, 9, 10, 11, 12, 13, 14, 15, 16, 17] _ _ rfl (by kernel_rfl) rfl rfl rfl rfl (fun K w' hk => ?_) ?_
              rotate_left
              · go_step; exact hk
              refine Ord.St.fl2 (T' := ?_) 4 [5, 6, 7, 8, 9, 10, 11, 12, 13, 14, 15, 16, 17] _ _ rfl (by kernel_rfl) rfl rfl rfl rfl (fun K w' hk => ?_) ?_
              rotate_left
              · go_step; exact hk
              refine Ord.St.fl2 (T' := ?_) 5 [6, 7, 8, 9, 10, 11, 12, 13, 14, 15, 16, 17] _ _ rfl (by kernel_rfl) rfl rfl rfl rfl (fun K w' hk => ?_) ?_
              rotate_left
              · go_step; exact hk
              refine Ord.St.ho2 (T' := ?_) 6 [7, 8, 9, 10, 11, 12, 13, 14, 15, 16, 17] _ _ rfl (by kernel_rfl) rfl rfl rfl rfl ?_ (fun K w' hw' hk => ?_) ?_
              rotate_left
              · trivial
              · have hb4 := (HS.out.st.same hw').b4; have y0 := hb4.cell (i := 0) rfl; have y1 := hb4.cell (i := 1) rfl; have y2 := hb4.cell (i := 2) rfl; have a0 := (hw'.cell (cell_lt HA1.out) (by simp)).trans HA1.out; have b0 := (hw'.cell (cell_lt HB1.out) (by simp)).trans HB1.out; clear hb4; go_step; exact hk
              refine Ord.St.fl2 (T' := ?_) 7 [8, 9, 10, 11, 12, 13, 14, 15, 16, 17] _ _ rfl (by kernel_rfl) rfl rfl rfl rfl (fun K w' hk => ?_) ?_
              rotate_left
              · go_step; exact hk
              refine Ord.St.fl2 (T' := ?_) 8 [9, 10, 11, 12, 13, 14, 15, 16, 17] _ _ rfl (by kernel_rfl) rfl rfl rfl rfl (fun K w' hk => ?_) ?_
              rotate_left
              · go_step; exact hk
              refine Ord.St.fl2 (T' := ?_) 9 [10, 11, 12, 13, 14, 15, 16, 17] _ _ rfl (by kernel_rfl) rfl rfl rfl rfl (fun K w' hk => ?_) ?_
              rotate_left
              · go_step; exact hk
              refine Ord.St.ho2 (T' := ?_) 10 [11, 12, 13, 14, 15, 16, 17] _ _ rfl (by kernel_rfl) rfl rfl rfl rfl ?_ (fun K w' hw' hk => ?_) ?_
              rotate_left
              · trivial
              · have hb4 := (HS.out.st.same hw').b4; have y0 := hb4.cell (i := 0) rfl; have y1 := hb4.cell (i := 1) rfl; have y2 := hb4.cell (i := 2) rfl; have a0 := (hw'.cell (cell_lt HA1.out) (by simp)).trans HA1.out; have b0 := (hw'.cell (cell_lt HB1.out) (by simp)).trans HB1.out; clear hb4; go_step; exact hk
              refine Ord.St.two 11 15 [12, 13, 14, 15, 16, 17] [11, 12, 13, 14, 16, 17] _ _ (by kernel_rfl) rfl rfl (by kernel_rfl) (by kernel_rfl) (fun K hK => ?_) (fun K hK => ?_)
              · have HA := Lib.hid (HM.out _ hcur)
                go_wp2_with fail
                refine HA.out.mono ?_
                rintro e w7 ⟨rb2, cap2, rfl, hrg2, hch, hfr3⟩
                go_wp2_with fail
                refine ⟨rfl, hK _ _ ?_ ?_⟩
                · exact hcur.trans hch (by simp)
                clear hK K
                try have hne := rto_ne hb9 (by omega) hfr3
                try replace hb9 := hb9.ch hch (by simp)
                have hfr5 : rb2 = rbj ∨ wr.heap.size ≤ rb2 := by have := hcur.size; rcases hfr3 with e | e <;> omega
                replace hcur := hcur.trans hch (by simp)
                clear hch hfr3 HA
                refine Ord.St.fl2 (T' := ?_) 12 [13, 14, 15, 16, 17] _ _ rfl (by kernel_rfl) rfl rfl rfl rfl (fun K w' hk => ?_) ?_
                rotate_left
                · go_step; exact hk
                refine Ord.St.fl2 (T' := ?_) 13 [14, 15, 16, 17] _ _ rfl (by kernel_rfl) rfl rfl rfl rfl (fun K w' hk => ?_) ?_
                rotate_left
                · go_step; exact hk
                refine Ord.St.fl2 (T' := ?_) 14 [15, 16, 17] _ _ rfl (by kernel_rfl) rfl rfl rfl rfl (fun K w' hk => ?_) ?_
                rotate_left
                · go_step; exact hk
                refine Ord.St.efC 15 [16, 17] _ rfl (by kernel_rfl) (fun K hK => ?_)
                go_wp2_with fail
                refine ⟨rfl, hK _ _ ?_ ?_⟩
                · exact hcur.alloc _
                clear hK K
                refine Ord.St.alw ?_; intro Wn hWn
                have hb9 := alw_blk (xs := [.int .i64 0, .slice none 0 0, .int .i64 0]) hWn
                have hs9 := hcur.size
                try have hne := rg_ne hrg2
                try replace hrg2 := hrg2.ch (alw_ch hWn) (by simp)
                replace hcur := hcur.trans (alw_ch hWn) (by simp)
                clear hWn
                first | (have _t := hrg2; clear _t; generalize w7.heap.size = b9 at *) | generalize Wc.heap.size = b9 at *
                refine Ord.St.ef 16 [17] _ rfl (by kernel_rfl) (fun K hK => ?_)
                have z0 := hb9.cell (i := 0) rfl
                have z1 := hb9.cell (i := 1) rfl
                have z2 := hb9.cell (i := 2) rfl
                have g0 := hb9.frozen (i := 0)
                have g1 := hb9.frozen (i := 1)
                have g2 := hb9.frozen (i := 2)
                have HRG2 := Lib.hid hrg2; clear hrg2
                have HB9 := Lib.hid hb9; clear hb9
                have HCUR := Lib.hid hcur; clear hcur
                go_wp2_with fail
                refine ⟨rfl, hK _ _ ?_⟩; clear hK K
                refine Ord.St.fl2 (T' := ?_) 17 [] _ _ rfl (by kernel_rfl) rfl rfl rfl rfl (fun K w' hk => ?_) ?_
                rotate_left
                · go_step; exact hk
                refine Ord.St.nil ?_
                go_wp2_with fail
                go_meet
                case rel => exact TS.mk HCUR.out HRG2.out hfr5 HB9.out hs9 hne rfl
              · go_wp2_with fail
                refine ⟨rfl, hK _ _ ?_ ?_⟩
                · exact hcur.alloc _
                clear hK K
                refine Ord.St.alw ?_; intro Wn hWn
                have hb9 := alw_blk (xs := [.int .i64 0, .slice none 0 0, .int .i64 0]) hWn
                have hs9 := hcur.size
                try have hne := rg_ne hrg2
                try replace hrg2 := hrg2.ch (alw_ch hWn) (by simp)
                replace hcur := hcur.trans (alw_ch hWn) (by simp)
                clear hWn
                first | (have _t := hrg2; clear _t; generalize w7.heap.size = b9 at *) | generalize Wc.heap.size = b9 at *
                refine Ord.St.ef 11 [12, 13, 14, 16, 17] _ rfl (by kernel_rfl) (fun K hK => ?_)
                have HA := Lib.hid (HM.out _ hcur)
                go_wp2_with fail
                refine HA.out.mono ?_
                rintro e w7 ⟨rb2, cap2, rfl, hrg2, hch, hfr3⟩
                go_wp2_with fail
                refine ⟨rfl, hK _ _ ?_⟩; clear hK K
                try have hne := rto_ne hb9 (by omega) hfr3
                try replace hb9 := hb9.ch hch (by simp)
                have hfr5 : rb2 = rbj ∨ wr.heap.size ≤ rb2 := by have := hcur.size; rcases hfr3 with e | e <;> omega
                replace hcur := hcur.trans hch (by simp)
                clear hch hfr3 HA
                refine Ord.St.fl2 (T' := ?_) 12 [13, 14, 16, 17] _ _ rfl (by kernel_rfl) rfl rfl rfl rfl (fun K w' hk => ?_) ?_
                rotate_left
                · go_step; exact hk
                refine Ord.St.fl2 (T' := ?_) 13 [14, 16, 17] _ _ rfl (by kernel_rfl) rfl rfl rfl rfl (fun K w' hk => ?_) ?_
                rotate_left
                · go_step; exact hk
                refine Ord.St.fl2 (T' := ?_) 14 [16, 17] _ _ rfl (by kernel_rfl) rfl rfl rfl rfl (fun K w' hk => ?_) ?_
                rotate_left
                · go_step; exact hk
                refine Ord.St.ef 16 [17] _ rfl (by kernel_rfl) (fun K hK => ?_)
                have z0 := hb9.cell (i := 0) rfl
                have z1 := hb9.cell (i := 1) rfl
                have z2 := hb9.cell (i := 2) rfl
                have g0 := hb9.frozen (i := 0)
                have g1 := hb9.frozen (i := 1)
                have g2 := hb9.frozen (i := 2)
                have HRG2 := Lib.hid hrg2; clear hrg2
                have HB9 := Lib.hid hb9; clear hb9
                have HCUR := Lib.hid hcur; clear hcur
                go_wp2_with fail
                refine ⟨rfl, hK _ _ ?_⟩; clear hK K
                refine Ord.St.fl2 (T' := ?_) 17 [] _ _ rfl (by kernel_rfl) rfl rfl rfl rfl (fun K w' hk => ?_) ?_
                rotate_left
                · go_step; exact hk
                refine Ord.St.nil ?_
                go_wp2_with fail
                go_meet
                case rel => exact TS.mk HCUR.out HRG2.out hfr5 HB9.out hs9 hne rfl
            case rest =>
              obtain ⟨rb5, cap5, b5, rfl, rfl, hc5, hrg5, hfr5, hb5, hlo5⟩ := hcut
              have x0 := hb5.cell (i := 0) rfl
              have x1 := hb5.cell (i := 1) rfl
              have x2 := hb5.cell (i := 2) rfl
              have hbp := (HS.out.st.same hc5).b4
              have f0 := hbp.frozen (i := 0)
              have f1 := hbp.frozen (i := 1)
              have f2 := hbp.frozen (i := 2)
              have y0 := hbp.cell (i := 0) rfl
              have y1 := hbp.cell (i := 1) rfl
              have y2 := hbp.cell (i := 2) rfl
              clear hbp
              have HCX := Lib.hid hc5; clear hc5
              have HRX := Lib.hid hrg5; clear hrg5
              have HBX := Lib.hid hb5; clear hb5
              go_upto_region 13 with fail
              refine wp_alw ?_
              intro W9 hW9
              have hs := HS.out.put HCX.out HRX.out hfr5 hW9
              clear hW9 x0 x1 x2 y0 y1 y2 f0 f1 f2 HRX HBX
              have hlen9 := HLEN.out
              obtain ⟨na, nc, rfl⟩ := row.shape hs.st.rw
              have hrA := (hs.same (W' := W9.alloc (.cells #[.int .i64 p4] 3)) ((Ch.refl _ _).alloc _)).st.rw
              have hbA : blk (W9.alloc (.cells #[.int .i64 p4] 3)) W9.heap.size [.int .i64 p4] := blk.new' _ _ rfl
              have HRA := Lib.hid hrA; clear hrA
              have HBA := Lib.hid hbA; clear hbA
              have HS9 := Lib.hid hs; clear hs
              go_wp2_with (at_builtin; go_loud (refine wpList_append_row slInts rfl _ _ rfl (v := .slice na lp.length nc) (n := lp.length) (xs := intCells (natInts lp)) rfl HRA.out (ad := ⟨W9.heap.size, 0, none⟩) (m := 1) (c := 1) (news := [.int .i64 p4]) rfl rfl (news_blk HBA.out) (by simp [Value.oneCell']) (by omega) (by omega) ?_; intro v' w10 hown4 hC4 hf4; have HO4 := Lib.hid hown4; clear hown4; have HC4 := Lib.hid hC4; clear hC4; have HF4 := Lib.hid hf4; clear hf4))
              go_roundw
              case rel => exact ⟨j + 1, rb5, cap5, by omega, by go_num, by rw [HAA.out]; exact HS9.out.app HO4.out HC4.out HF4.out⟩
              case measure => simp [intOf]; omega
          · have hrw := rowA_low (G2, q2) b X (k := k) (j := j) (by omega)
            have hlen9 := rowA_len (G2, q2) b X (k := k) (j := j) (by omega)
            generalize hAA : rowA (G2, q2) b X k (j + 1) = AN at hrw
            generalize rowA (G2, q2) b X k j = AS at hrw hs hlen9
            obtain ⟨⟨G3, q3⟩, lp⟩ := AS
            simp only at hs hrw hlen9
            subst hrw
            have q1 : decide ((k : Int) ≤ (j : Int)) = false := decide_eq_false (by omega)
            have HAA := Lib.hid hAA; clear hAA
            obtain ⟨na, nc, rfl⟩ := row.shape hs.st.rw
            have hrA := (hs.same (W' := wr.alloc (.cells #[.int .i64 0] 3)) ((Ch.refl _ _).alloc _)).st.rw
            have hbA : blk (wr.alloc (.cells #[.int .i64 0] 3)) wr.heap.size [.int .i64 0] := blk.new' _ _ rfl
            have HRA := Lib.hid hrA; clear hrA
            have HBA := Lib.hid hbA; clear hbA
            have HS9 := Lib.hid hs; clear hs
            go_wp2_with (at_builtin; go_loud (refine wpList_append_row slInts rfl _ _ rfl (v := .slice na lp.length nc) (n := lp.length) (xs := intCells (natInts lp)) rfl HRA.out (ad := ⟨wr.heap.size, 0, none⟩) (m := 1) (c := 1) (news := [.int .i64 0]) rfl rfl (news_blk HBA.out) (by simp [Value.oneCell']) (by omega) (by omega) ?_; intro v' w10 hown4 hC4 hf4; have HO4 := Lib.hid hown4; clear hown4; have HC4 := Lib.hid hC4; clear hC4; have HF4 := Lib.hid hf4; clear hf4))
            go_roundw
            case rel => exact ⟨j + 1, rbj, capj, by omega, by go_num, by rw [HAA.out]; exact HS9.out.app HO4.out HC4.out HF4.out⟩
            case measure => simp [intOf]; omega
        · have hjn2 : j = n := by omega
          have hlen9 := rowA_len (G2, q2) b X (k := k) (j := j) (by rw [HN.out]; omega)
          have hes := HES.out
          rw [HN.out, ← hjn2] at hes
          have hok2 := HROK.out j
          generalize rowA (G2, q2) b X k j = AS at hes hs hok2 hlen9
          obtain ⟨⟨G3, q3⟩, lp⟩ := AS
          simp only at hs hes hlen9
          by_cases hk0 : k = 0
          · rw [if_pos hk0] at hes
            subst hes
            have q2' : ((k : Int) == 0) = true := beqI (by omega)
            obtain ⟨na, nc, rfl⟩ := row.shape hs.st.rw
            have HSF := Lib.hid hs.st; clear hs hok2
            have HK0 := Lib.hid hk0; clear hk0
            go_wp2_with fail
            go_roundw
            case rel => exact ⟨k + 1, rbj, capj, by omega, by go_num, by rw [HEE.out]; exact HSF.out⟩
            case measure => simp [intOf]; omega
          · rw [if_neg hk0] at hes
            have q2' : ((k : Int) == 0) = false := beqN (by omega)
            have e1 : lo.length = j := by rw [HLL.out (by omega) hk, HN.out]; omega
            obtain ⟨na, nc, rfl⟩ := row.shape hs.st.rw
            have hA := fun (W : World) (hW : Ch [] wr W) => r23AddQ_is (hs.st.rg.ch hW (by simp)) hok2.s.err j oc nc ((Sl.of_ints hs.ow (by omega)).ch hW (by simp)) ((Sl.of_ints hs.st.rw (by omega)).ch hW (by simp)) e1 hlen9 (by omega) (fun r hr => hok2.s.ext.lt (HLO.out r hr)) (fun r hr => hok2.lt r hr)
            simp only at hA
            rw [← hes] at hA
            obtain ⟨⟨G5, q5⟩, l5⟩ := EN
            have y0 := hs.st.b4.cell (i := 0) rfl
            have y1 := hs.st.b4.cell (i := 1) rfl
            have y2 := hs.st.b4.cell (i := 2) rfl
            have hrlj := hs.st.rg.lt
            have hlow := hs.st.lt
            have HA := Lib.hid hA; clear hA
            have HSF := Lib.hid hs.st; clear hs hok2
            have HK0 := Lib.hid hk0; clear hk0 hes
            rw [e1, hlen9]
            go_upto_region 16 with fail
            clear hjn2 e1 hlen9
            go_wp2_with fail
            refine (HA.out _ (Ch.refl _ _)).mono ?_
            rintro e w7 ⟨rb2, cap2, a2, c2, rfl, hrg2, hch, hfr3, hrow2, hown2⟩
            have HRG2 := Lib.hid hrg2; clear hrg2
            have HROW2 := Lib.hid hrow2; clear hrow2
            have HOWN2 := Lib.hid hown2; clear hown2
            have HCH := Lib.hid hch; clear hch y0 y1 y2
            go_upto_region 17 with fail
            refine wp_alw ?_
            intro W8 hW8
            have hb8 : blk W8 w7.heap.size [.int .i64 G5.most, .slice (some ⟨rb2, 0, none⟩) G5.nodes.length cap2, .int .i64 q5] := by rw [hW8]; exact blk.new' _ _ rfl
            have hc8 : Ch [] w7 W8 := by rw [hW8]; exact (Ch.refl _ _).alloc _
            clear hW8
            have hc18 := HCH.out.trans hc8 (by simp)
            have x0 := hb8.cell (i := 0) rfl
            have x1 := hb8.cell (i := 1) rfl
            have x2 := hb8.cell (i := 2) rfl
            have hbp := (HSF.out.same hc18).b4
            have f0 := hbp.frozen (i := 0)
            have f1 := hbp.frozen (i := 1)
            have f2 := hbp.frozen (i := 2)
            have y0 := hbp.cell (i := 0) rfl
            have y1 := hbp.cell (i := 1) rfl
            have y2 := hbp.cell (i := 2) rfl
            have HC8 := Lib.hid hc8; clear hc8
            have HC18 := Lib.hid hc18; clear hc18 hbp hb8
            go_upto_region 4 with fail
            refine wp_alw ?_
            intro W9 hW9
            have hst := HSF.out.put HC18.out (HRG2.out.ch HC8.out (by simp)) hfr3 hW9
            have hcs := set3_ch hW9
            have hst := hst.word (v' := .slice a2 l5.length c2) (l' := l5) ((HROW2.out.ch HC8.out (by simp)).ch hcs (fun q hq => by have := (HOWN2.out q hq).1; simp; omega)) (fun q hq => ⟨by have := (HOWN2.out q hq).1; omega, (HOWN2.out q hq).2⟩)
            clear hW9 hcs x0 x1 x2 y0 y1 y2 f0 f1 f2
            have HS9 := Lib.hid hst; clear hst
            go_wp2_with fail
            go_roundw
            case rel => exact ⟨k + 1, rb2, cap2, by omega, by go_num, by rw [HEE.out]; exact HS9.out⟩
            case measure => simp [intOf]; omega
    · have hall : Y.take k = Y := List.take_of_length_le (by rw [HM0.out]; omega)
      rw [hall] at hst
      obtain ⟨⟨⟨G2, q2⟩, l2⟩, hES⟩ : ∃ ES, ES = rmF X (G, 0) Y := ⟨_, rfl⟩
      rw [← hES] at hst
      simp only at hst
      have HES := Lib.hid hES; clear hES
      obtain ⟨na, nc, rfl⟩ := row.shape hst.rw
      have y0 := hst.b4.cell (i := 0) rfl
      have y1 := hst.b4.cell (i := 1) rfl
      have y2 := hst.b4.cell (i := 2) rfl
      have v0 := hst.b8.cell (i := 0) rfl
      have v1 := hst.b8.cell (i := 1) rfl
      have v2 := hst.b8.cell (i := 2) rfl
      have g0 := hst.b8.frozen (i := 0)
      have g1 := hst.b8.frozen (i := 1)
      have g2 := hst.b8.frozen (i := 2)
      have hl8 := hst.b8.lt
      have HST := Lib.hid hst; clear hst
      go_wp2_with fail
      refine bodyPost_ret (v := .tuple #[.agg #[.int .i64 G2.most, .slice (some ⟨rbk, 0, none⟩) G2.nodes.length capk, .int .i64 q2], .slice na l2.length nc]) (by simp [results, Tryz.results300, go_sem, v0, v1, v2]) rfl ?_
      show LTo w rb (rmF X (G, 0) Y) _ _
      rw [← HES.out]
      exact HST.out.fin rfl
end
end Go.Proofs.YtehljgigebhddaaGreat
namespace Go.Aig
theorem chF_sok {G : Gra} {s : Mk} (hs : SOk G s) {c : Nat} (hc : c < 2 * s.1.nodes.length) (l : List (Nat × Nat)) (hl : ∀ p ∈ l, p.1 < 2 * s.1.nodes.length ∧ p.2 < 2 * s.1.nodes.length) : LOk s.1 (chF c s l) := by
  have : ∀ (l : List (Nat × Nat)) (q : Mk × List Nat), LOk s.1 q → (∀ p ∈ l, p.1 < 2 * s.1.nodes.length ∧ p.2 < 2 * s.1.nodes.length) → LOk s.1 (l.foldl (eachS (fun s a b => sMux s c a b)) q) := by
    intro l
    induction l with
    | nil => intro q h _; exact h
    | cons p l ih =>
      intro q h hl
      obtain ⟨h1, h2⟩ := hl p (List.mem_cons_self ..)
      obtain ⟨k1, k2, k3⟩ := rstep_sok h.s (Y := rMux q.1.1 c p.1 p.2) (fun _ => rMux_full h.s.ok (h.s.ext.lt hc) (h.s.ext.lt h1) (h.s.ext.lt h2))
      exact ih _ (LOk.snoc h k1 k3 k2) (fun p hp => hl p (List.mem_cons_of_mem _ hp))
  exact this l _ ⟨⟨hs.ok, .refl _, hs.err⟩, by simp⟩ hl
theorem chF_len (c : Nat) (s : Mk) (l : List (Nat × Nat)) : (chF c s l).2.length = l.length := eachF_len' _ s l
/-- the steps of one more bit of the quotient are right -/
structure RdOk (G : Gra) (s : Mk) (D R' : List Nat) (L : Mk × Nat) (E : Mk × List Nat) (M : Nat → Mk × List Nat) : Prop where
  l : VOk G L
  e : LOk G E
  le : Ext s.1 L.1.1
  de : Ext L.1.1 E.1.1
  m : ∀ k, LOk E.1.1 (M k)
theorem rdOk {G : Gra} {s : Mk} (hs : SOk G s) {D qs R : List Nat} {b : Nat} (hD : ∀ r ∈ D, r < 2 * s.1.nodes.length) (hb : b < 2 * s.1.nodes.length) (hR : ∀ r ∈ R, r < 2 * s.1.nodes.length) :
    RdOk G s D (b :: R.dropLast) (rdL D (s, qs, R) b) (rdD D (s, qs, R) b) (fun k => chF (rdL D (s, qs, R) b).2 (rdD D (s, qs, R) b).1 (((rdD D (s, qs, R) b).2.zip (b :: R.dropLast)).take k)) := by
  obtain ⟨G1, q1⟩ := s
  simp only at hD hb hR
  have hR' : ∀ r ∈ b :: R.dropLast, r < 2 * G1.nodes.length := fun r hr => by
    rcases List.mem_cons.1 hr with rfl | hr
    · exact hb
    · exact hR r (List.dropLast_sublist _ |>.subset hr)
  have hZ : ∀ p ∈ (b :: R.dropLast).zip D, p.1 < 2 * G1.nodes.length ∧ p.2 < 2 * G1.nodes.length := fun p hp => ⟨hR' _ (List.of_mem_zip hp).1, hD _ (List.of_mem_zip hp).2⟩
  have h1 := ltF_preQ hs.ok hs.err hZ _ (fun p hp => hp)
  have hL : VOk G1 (rdL D ((G1, q1), qs, R) b) := ⟨h1.s, neg_lt h1.lt⟩
  have h2 : LOk (rdL D ((G1, q1), qs, R) b).1.1 (rdD D ((G1, q1), qs, R) b) := by
    have := sumF_lokQ hL.s.ok hL.s.err (b :: R.dropLast).length ((b :: R.dropLast).zip (D.map neg)) (fun p hp => ⟨hL.s.ext.lt (hR' _ (List.of_mem_zip hp).1), by
      obtain ⟨z, hz, e⟩ := List.mem_map.1 (List.of_mem_zip hp).2
      rw [← e]
      exact hL.s.ext.lt (neg_lt (hD z hz))⟩) (c := 1) (by have := hL.s.ok.wf.pos; omega)
    exact this
  have hE : LOk G (rdD D ((G1, q1), qs, R) b) := ⟨⟨h2.s.ok, (hs.ext.trans hL.s.ext).trans h2.s.ext, h2.s.err⟩, h2.lt⟩
  refine ⟨⟨⟨hL.s.ok, hs.ext.trans hL.s.ext, hL.s.err⟩, hL.lt⟩, hE, hL.s.ext, h2.s.ext, fun k => chF_sok hE.s (h2.s.ext.lt hL.lt) _ (fun p hp => ?_)⟩
  have hp := List.mem_of_mem_take hp
  exact ⟨hE.lt _ (List.of_mem_zip hp).1, h2.s.ext.lt (hL.s.ext.lt (hR' _ (List.of_mem_zip hp).2))⟩
theorem rdD_len (D qs R : List Nat) (s : Mk) (b : Nat) (h : R.length = D.length) (h1 : 1 ≤ D.length) : (rdD D (s, qs, R) b).2.length = D.length := by
  unfold rdD sumW
  rw [Go.Proofs.YtehljgigebhddaaGreat.sumF_len, List.length_zip, List.length_map, List.length_cons, List.length_dropLast]
  show min (R.length - 1 + 1) D.length = _
  omega
theorem rdM_take (D qs R : List Nat) (s : Mk) (b n : Nat) (h : R.length = n) (hD : D.length = n) (h1 : 1 ≤ n) : rdM D (s, qs, R) b = chF (rdL D (s, qs, R) b).2 (rdD D (s, qs, R) b).1 (((rdD D (s, qs, R) b).2.zip (b :: R.dropLast)).take n) := by
  rw [List.take_of_length_le]
  · rfl
  · rw [List.length_zip, rdD_len _ _ _ _ _ (by omega) (by omega)]; omega
theorem rdF_ok {G : Gra} (hG : Ok G) {D : List Nat} (h1 : 1 ≤ D.length) (hD : ∀ r ∈ D, r < 2 * G.nodes.length) : ∀ l : List Nat, (∀ r ∈ l, r < 2 * G.nodes.length) → LOk G ((rdF D (G, 0) l).1, (rdF D (G, 0) l).2.2) ∧ (rdF D (G, 0) l).2.2.length = D.length ∧ (rdF D (G, 0) l).2.1.length = l.length := by
  intro l
  induction l using List.snocRec with
  | nil =>
    intro _
    refine ⟨⟨.start hG, fun r hr => ?_⟩, by simp [rdF], rfl⟩
    rw [show (rdF D (G, 0) []).2.2 = List.replicate D.length 0 from rfl, List.mem_replicate] at hr
    have := hG.wf.pos
    show r < 2 * G.nodes.length
    omega
  | snoc l b ih =>
    intro hl
    obtain ⟨ih1, ih2, ih3⟩ := ih (fun r hr => hl r (by simp [hr]))
    rw [rdF_snoc]
    generalize rdF D (G, 0) l = q at *
    obtain ⟨s, qs, R⟩ := q
    simp only at ih1 ih2 ih3
    have hk := rdOk (qs := qs) ih1.s (D := D) (b := b) (R := R) (fun r hr => ih1.s.ext.lt (hD r hr)) (ih1.s.ext.lt (hl b (by simp))) ih1.lt
    have hm := hk.m D.length
    rw [← rdM_take D qs R s b D.length ih2 rfl h1] at hm
    refine ⟨⟨⟨hm.s.ok, hk.e.s.ext.trans hm.s.ext, hm.s.err⟩, hm.lt⟩, ?_, by show (qs ++ [_]).length = _; simp [ih3]⟩
    show (rdM D (s, qs, R) b).2.length = _
    rw [rdM_take D qs R s b D.length ih2 rfl h1, chF_len, List.length_take, List.length_zip, rdD_len _ _ _ _ _ ih2 h1, List.length_cons, List.length_dropLast]
    omega
end Go.Aig
namespace Go.Proofs.YtehljgigebhddaaGreat
open Go.RowKit Go.Mem Go.Aig
/-- the state, the word that is made, other words that are kept, and a block that is written -/
structure RSK (w W : World) (rb0 rb cap : Nat) (s : Mk) (v : Value) (l : List Nat) (K : List (Value × List Nat)) (qb : Nat) (Q : List Nat) : Prop where
  st : RSt w W rb0 rb cap s v l
  kw : ∀ p ∈ K, row W 3 1 p.1 p.2.length (intCells (natInts p.2))
  ko : ∀ p ∈ K, ∀ q, p.1.ownBlock = some q → w.heap.size + 2 ≤ q ∧ q ≠ rb ∧ v.ownBlock ≠ some q ∧ q ≠ qb
  qw : blk W qb (intCells (natInts Q))
  qo : w.heap.size + 2 ≤ qb ∧ qb ≠ rb ∧ v.ownBlock ≠ some qb
section
variable {w W W' : World} {rb0 rb cap qb : Nat} {s : Mk} {v v' : Value} {l l' Q : List Nat} {K K' : List (Value × List Nat)}
theorem RSK.same (h : RSK w W rb0 rb cap s v l K qb Q) (hc : Ch [] W W') : RSK w W' rb0 rb cap s v l K qb Q := ⟨h.st.same hc, fun p hp => (h.kw p hp).ch hc (by simp), h.ko, h.qw.ch hc (by simp), h.qo⟩
theorem RSK.put {Wb : World} {rb' cap' q' : Nat} {G' : Gra} (h : RSK w Wb rb0 rb cap s v l K qb Q) (hc : Ch [] Wb W) (hr : RG W rb' cap' G') (hf : rb' = rb ∨ Wb.heap.size ≤ rb')
    (hW : W' = ((W.setCell ⟨w.heap.size, 0, none⟩ (.int .i64 G'.most)).setCell ⟨w.heap.size, 1, none⟩ (.slice (some ⟨rb', 0, none⟩) G'.nodes.length cap')).setCell ⟨w.heap.size, 2, none⟩ (.int .i64 q')) : RSK w W' rb0 rb' cap' (G', q') v l K qb Q := by
  have hcs := set3_ch hW
  refine ⟨h.st.put hc hr hf hW, fun p hp => ((h.kw p hp).ch hc (by simp)).ch hcs (fun k hk => by have := (h.ko p hp k hk).1; simp; omega), fun p hp q hq => ?_, (h.qw.ch hc (by simp)).ch hcs (by have := h.qo.1; simp; omega), h.qo.1, ?_, h.qo.2.2⟩
  · obtain ⟨h1, h2, h3, h5⟩ := h.ko p hp q hq
    have h4 := ((h.kw p hp).lt q hq).2
    exact ⟨h1, by rcases hf with e | e <;> omega, h3, h5⟩
  · have h4 := h.qw.lt
    have h5 := h.qo.2.1
    rcases hf with e | e <;> omega
theorem RSK.app {na : Option Addr} {nc r : Nat} {o : Obj} {wz : World} (h : RSK w W rb0 rb cap s (.slice na l.length nc) l K qb Q) (hrow : row wz 3 1 v' (l.length + 1) (intCells (natInts l) ++ [.int .i64 r]))
    (hc : Ch (Value.slice na l.length nc).ownBlock.toList (W.alloc o) wz) (hf : ∀ k, v'.ownBlock = some k → (Value.slice na l.length nc).ownBlock = some k ∨ (W.alloc o).heap.size ≤ k) : RSK w wz rb0 rb cap s v' (l ++ [r]) K qb Q := by
  have hcA : Ch [] W (W.alloc o) := (Ch.refl _ _).alloc _
  have h5 := hcA.size
  refine ⟨h.st.app hrow hc hf, fun p hp => ((h.kw p hp).ch hcA (by simp)).ch hc (fun k hk hin => (h.ko p hp k hk).2.2.1 (by simpa using hin)), fun p hp q hq => ?_, (h.qw.ch hcA (by simp)).ch hc (fun hin => h.qo.2.2 (by simpa using hin)), h.qo.1, h.qo.2.1, fun e => ?_⟩
  · obtain ⟨h1, h2, h3, h6⟩ := h.ko p hp q hq
    have h4 := ((h.kw p hp).lt q hq).2
    refine ⟨h1, h2, fun e => ?_, h6⟩
    rcases hf q e with e | e
    · exact h3 e
    · omega
  · have h4 := h.qw.lt
    rcases hf qb e with e | e
    · exact h.qo.2.2 e
    · omega
/-- another word in the place of the one that is made -/
theorem RSK.word (h : RSK w W rb0 rb cap s v l K qb Q) (hr : row W 3 1 v' l'.length (intCells (natInts l'))) (ho : ∀ q, v'.ownBlock = some q → w.heap.size + 2 ≤ q ∧ q ≠ rb ∧ q ≠ qb ∧ ∀ p ∈ K, p.1.ownBlock ≠ some q) : RSK w W rb0 rb cap s v' l' K qb Q :=
  ⟨h.st.word hr (fun q hq => ⟨(ho q hq).1, (ho q hq).2.1⟩), h.kw, fun p hp q hq => ⟨(h.ko p hp q hq).1, (h.ko p hp q hq).2.1, fun e => (ho q e).2.2.2 p hp hq, (h.ko p hp q hq).2.2.2⟩, h.qw, h.qo.1, h.qo.2.1, fun e => (ho qb e).2.2.1 rfl⟩
/-- the word that is made is kept, and a new one begins -/
theorem RSK.keep (h : RSK w W rb0 rb cap s v l K qb Q) : RSK w W rb0 rb cap s (.slice none 0 0) [] ((v, l) :: K) qb Q :=
  ⟨h.st.noWord, fun p hp => by
    rcases List.mem_cons.1 hp with rfl | hp
    · exact h.st.rw
    · exact h.kw p hp, fun p hp q hq => by
    rcases List.mem_cons.1 hp with rfl | hp
    · exact ⟨(h.st.own q hq).1, (h.st.own q hq).2, by simp [Value.ownBlock], fun e => h.qo.2.2 (e ▸ hq)⟩
    · exact ⟨(h.ko p hp q hq).1, (h.ko p hp q hq).2.1, by simp [Value.ownBlock], (h.ko p hp q hq).2.2.2⟩, h.qw, h.qo.1, h.qo.2.1, by simp [Value.ownBlock]⟩
/-- fewer words are kept -/
theorem RSK.less (h : RSK w W rb0 rb cap s v l K qb Q) (hK : ∀ p ∈ K', p ∈ K) : RSK w W rb0 rb cap s v l K' qb Q := ⟨h.st, fun p hp => h.kw p (hK p hp), fun p hp => h.ko p (hK p hp), h.qw, h.qo⟩
/-- one more word -/
theorem RSK.more (h : RSK w W rb0 rb cap s v l K qb Q) {u : Value} {m : List Nat} (hr : row W 3 1 u m.length (intCells (natInts m))) (ho : ∀ q, u.ownBlock = some q → w.heap.size + 2 ≤ q ∧ q ≠ rb ∧ v.ownBlock ≠ some q ∧ q ≠ qb) : RSK w W rb0 rb cap s v l ((u, m) :: K) qb Q := by
  refine ⟨h.st, fun p hp => ?_, fun p hp q hq' => ?_, h.qw, h.qo⟩
  · rcases List.mem_cons.1 hp with rfl | hp
    · exact hr
    · exact h.kw p hp
  · rcases List.mem_cons.1 hp with rfl | hp
    · exact ho q hq'
    · exact h.ko p hp q hq'
/-- a number of the block that is written -/
theorem RSK.set (h : RSK w W rb0 rb cap s v l K qb Q) (i r : Nat) (hW : W' = W.setCell ⟨qb, i, none⟩ (.int .i64 r)) : RSK w W' rb0 rb cap s v l K qb (Q.set i r) := by
  have hc : Ch [qb] W W' := by rw [hW]; exact (Ch.refl [qb] _).setCell (by simp) _
  have hlo := h.st.lt
  have hst := h.st
  have hqo := h.qo
  refine ⟨⟨hst.ch.trans hc (fun k hk => .inr (by simp at hk; omega)), hst.rg.ch hc (by simp; omega), hst.fr, hst.b4.ch hc (by simp; omega), hst.b8.ch hc (by simp; omega), hst.rw.ch hc (fun k hk => by simp; intro e; exact hqo.2.2 (e ▸ hk)), hst.own, hst.low⟩, fun p hp => (h.kw p hp).ch hc (fun k hk => by have := (h.ko p hp k hk).2.2.2; simp; omega), h.ko, ?_, hqo⟩
  rw [hW]
  have := h.qw.set (i := i) (.int .i64 r)
  rw [show intCells (natInts (Q.set i r)) = (intCells (natInts Q)).set i (.int .i64 r) by simp [intCells, natInts, List.map_set]]
  exact this
end
end Go.Proofs.YtehljgigebhddaaGreat
