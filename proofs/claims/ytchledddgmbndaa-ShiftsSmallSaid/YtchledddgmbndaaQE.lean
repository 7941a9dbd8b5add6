/-
  Words that are refused: what check says of them, and what the functions of sums do with them. Conditions: a graph in memory, words that are held.
  New words that are changed, or grown, before they are held. Conditions: none beyond the hypotheses.
  A map from small numbers (bytes) to values that are known, one after the other. Conditions: the two facts on the types of map and key.
  Walks over the small functions of shifts: right, moves. Conditions: none.
  Walks over shifted of shifts: a word shifted by a number up to its width. Conditions: a word that can be read.
  Walks over steps, Steps, Fixed of shifts. Conditions: a word that can be read.
  Walks over slices.Grow (of nothing), slices.Concat of two, and Turn of shifts. Conditions: words that can be read.
  Plain: one bit of a shift (a choice, bit by bit), shifts by a word; and append at a row inside a round of a range over a function. Conditions: none beyond the hypotheses.
  Walk over step of shifts: a word that is another one, if a bit is true. Conditions: a graph in memory, two words of it, a reference of it.
  What move and By of shifts make, plainly. No program in sight. Conditions: none beyond the hypotheses.
  Walk over move of shifts: a word shifted by another one. Conditions: a graph in memory, words of its references.
  Walks over By, Shl, Shr of shifts. Conditions: a graph in memory, words of any integers.
  Turns of a word, plainly: one after the other, and shifts by constants, by evaluation. No program in sight. Conditions: none beyond the hypotheses.
  The functions of shifts beside a graph and words that are held. Conditions: none beyond the hypotheses.
  Walk over two of chapter 25's law: a graph with two words of new inputs. Conditions: none.
  Words that are held, with no graph: what is known along a law's walk ahead of a graph, and what stays of it beside one. Conditions: none beyond the hypotheses.
  Walk over the chapter's examples (awake of shifts): true. Conditions: none.
-/
import Derived.Test.YtchledddgmbndaaQD
import Derived.Test.YtchledddgmbndaaQA
import Derived.MapKept
import Derived.Lib.AppendZeros
import Derived.OwnWalkIn
namespace Go.Aig
theorem chk2_w {G : Gra} {x y : List Int} (h : rightW x.length = false) : chk G [x, y] = 230 := by
  unfold chk badAs
  simp [h]
theorem chk2_d {G : Gra} {x y : List Int} (h : y.length ≠ x.length) : chk G [x, y] = 230 := by
  unfold chk badAs
  have e : ((y.length : Int) != (x.length : Int)) = true := bne_iff_ne.2 (by omega)
  simp [e]
theorem chk2_r {G : Gra} {x y : List Int} (h : rightW x.length = true) (hd : y.length = x.length) (hb : badIn G x = true ∨ badIn G y = true) : chk G [x, y] = 200 := by
  unfold chk badAs
  rcases hb with hb | hb <;> simp [h, hd, hb]
theorem chk1_w {G : Gra} {x : List Int} (h : rightW x.length = false) : chk G [x] = 230 := by
  unfold chk badAs
  simp [h]
theorem chk1_r {G : Gra} {x : List Int} (h : rightW x.length = true) (hb : badIn G x = true) : chk G [x] = 200 := by
  unfold chk badAs
  simp [h, hb]
theorem badIn_set {G : Gra} {x : List Int} {i : Nat} {r : Int} (hi : i < x.length) (hr : right G.nodes r = false) : badIn G (x.set i r) = true := by
  unfold badIn
  rw [List.any_eq_true]
  exact ⟨r, List.mem_of_getElem? (i := i) (by rw [List.getElem?_set_self hi]), by simp [hr]⟩
theorem wordG_no {G : Gra} {ws : List (List Int)} (R : Mk × List Nat) {e : Nat} (he : chk G ws = e) (h0 : e ≠ 0) : wordG G ws R = (G, [], e) := by
  subst he
  unfold wordG
  rw [if_pos h0]
theorem refG_no {G : Gra} {ws : List (List Int)} (R : Mk × Nat) {e : Nat} (he : chk G ws = e) (h0 : e ≠ 0) : refG G ws R = (G, 0, e) := by
  subst he
  unfold refG
  rw [if_pos h0]
theorem negG_no (G : Gra) {e : Nat} (h0 : e ≠ 0) : negG (G, 0, e) = (G, 0, e) := by
  unfold negG
  rw [if_pos h0]
end Go.Aig
namespace Go.Proofs.Ytchledddgmbndaa
open Go.RowKit Go.Mem Go.Aig
section
variable {w0 : Base} {w : World} {g : Nat} {G : Gra} {F : List Nat} {L : List (Value × List Int)}
theorem Hold.tail {p : Value × List Int} (h : Hold w0 w g G F (p :: L)) : Hold w0 w g G F L := ⟨h.own, fun q hq => h.held q (List.mem_cons_of_mem _ hq), h.kept⟩
theorem Hold.sub {L' : List (Value × List Int)} (h : Hold w0 w g G F L) (hs : ∀ p ∈ L', p ∈ L) : Hold w0 w g G F L' := ⟨h.own, fun q hq => h.held q (hs q hq), h.kept⟩
theorem Hold.nil (h : Hold w0 w g G F L) : Hold w0 w g G F ((.slice none 0 0, []) :: L) := ⟨h.own, fun p hp => by
  rcases List.mem_cons.1 hp with rfl | hp
  · exact ⟨⟨rfl, .inl ⟨rfl, rfl⟩⟩, by simp, by simp, fun k hk => by simp at hk⟩
  · exact h.held p hp, h.kept⟩
theorem wno {fid : FuncId} {args : Array Value} {e : Nat} (h : Calls Try.prog fid args w fun en w' => ∃ a c F', en = .returned (.tuple #[.slice a 0 c, .int .i64 e]) ∧ Hold w0 w' g G F' ((.slice a 0 c, natInts []) :: L)) :
    Calls Try.prog fid args w fun en w' => ∃ a c F', en = .returned (.tuple #[.slice a 0 c, .int .i64 e]) ∧ Hold w0 w' g G F' L := by
  refine h.mono ?_
  rintro en w' ⟨a, c, F', rfl, hh⟩
  exact ⟨a, c, F', rfl, hh.tail⟩
theorem sAnd_no (h : Hold w0 w g G F L) {xa ya : Option Addr} {xl yl : List Int} {n m xc yc : Nat} (hx : (.slice xa n xc, xl) ∈ L) (hxn : xl.length = n) (hy : (.slice ya m yc, yl) ∈ L) (hym : yl.length = m) {e : Nat} (he : chk G [xl, yl] = e) (h0 : e ≠ 0) :
    Calls Try.prog 17 #[.pointer (some ⟨g, 0, none⟩), .slice xa n xc, .slice ya m yc] w fun en w' => ∃ a c F', en = .returned (.tuple #[.slice a 0 c, .int .i64 e]) ∧ Hold w0 w' g G F' L := wno (sAnd_h h hx hxn hy hym (wordG_no _ he h0) rfl (by simp) (by omega))
theorem sOr_no (h : Hold w0 w g G F L) {xa ya : Option Addr} {xl yl : List Int} {n m xc yc : Nat} (hx : (.slice xa n xc, xl) ∈ L) (hxn : xl.length = n) (hy : (.slice ya m yc, yl) ∈ L) (hym : yl.length = m) {e : Nat} (he : chk G [xl, yl] = e) (h0 : e ≠ 0) :
    Calls Try.prog 18 #[.pointer (some ⟨g, 0, none⟩), .slice xa n xc, .slice ya m yc] w fun en w' => ∃ a c F', en = .returned (.tuple #[.slice a 0 c, .int .i64 e]) ∧ Hold w0 w' g G F' L := wno (sOr_h h hx hxn hy hym (wordG_no _ he h0) rfl (by simp) (by omega))
theorem sXor_no (h : Hold w0 w g G F L) {xa ya : Option Addr} {xl yl : List Int} {n m xc yc : Nat} (hx : (.slice xa n xc, xl) ∈ L) (hxn : xl.length = n) (hy : (.slice ya m yc, yl) ∈ L) (hym : yl.length = m) {e : Nat} (he : chk G [xl, yl] = e) (h0 : e ≠ 0) :
    Calls Try.prog 19 #[.pointer (some ⟨g, 0, none⟩), .slice xa n xc, .slice ya m yc] w fun en w' => ∃ a c F', en = .returned (.tuple #[.slice a 0 c, .int .i64 e]) ∧ Hold w0 w' g G F' L := wno (sXor_h h hx hxn hy hym (wordG_no _ he h0) rfl (by simp) (by omega))
theorem sAdd_no (h : Hold w0 w g G F L) {xa ya : Option Addr} {xl yl : List Int} {n m xc yc : Nat} (hx : (.slice xa n xc, xl) ∈ L) (hxn : xl.length = n) (hy : (.slice ya m yc, yl) ∈ L) (hym : yl.length = m) {e : Nat} (he : chk G [xl, yl] = e) (h0 : e ≠ 0) :
    Calls Try.prog 20 #[.pointer (some ⟨g, 0, none⟩), .slice xa n xc, .slice ya m yc] w fun en w' => ∃ a c F', en = .returned (.tuple #[.slice a 0 c, .int .i64 e]) ∧ Hold w0 w' g G F' L := wno (sAdd_h h hx hxn hy hym (wordG_no _ he h0) rfl (by simp) (by omega))
theorem sSub_no (h : Hold w0 w g G F L) {xa ya : Option Addr} {xl yl : List Int} {n m xc yc : Nat} (hx : (.slice xa n xc, xl) ∈ L) (hxn : xl.length = n) (hy : (.slice ya m yc, yl) ∈ L) (hym : yl.length = m) {e : Nat} (he : chk G [xl, yl] = e) (h0 : e ≠ 0) :
    Calls Try.prog 21 #[.pointer (some ⟨g, 0, none⟩), .slice xa n xc, .slice ya m yc] w fun en w' => ∃ a c F', en = .returned (.tuple #[.slice a 0 c, .int .i64 e]) ∧ Hold w0 w' g G F' L := wno (sSub_h h hx hxn hy hym (by unfold subG; exact wordG_no _ he h0) rfl (by simp) (by omega))
theorem sNe_no (h : Hold w0 w g G F L) {xa ya : Option Addr} {xl yl : List Int} {n m xc yc : Nat} (hx : (.slice xa n xc, xl) ∈ L) (hxn : xl.length = n) (hy : (.slice ya m yc, yl) ∈ L) (hym : yl.length = m) {e : Nat} (he : chk G [xl, yl] = e) (h0 : e ≠ 0) :
    Calls Try.prog 23 #[.pointer (some ⟨g, 0, none⟩), .slice xa n xc, .slice ya m yc] w fun en w' => ∃ F', en = .returned (.tuple #[.int .i64 (0 : Nat), .int .i64 e]) ∧ Hold w0 w' g G F' L := sNe_h h hx hxn hy hym (refG_no _ he h0)
theorem sLt_no (h : Hold w0 w g G F L) {xa ya : Option Addr} {xl yl : List Int} {n m xc yc : Nat} (hx : (.slice xa n xc, xl) ∈ L) (hxn : xl.length = n) (hy : (.slice ya m yc, yl) ∈ L) (hym : yl.length = m) {e : Nat} (he : chk G [xl, yl] = e) (h0 : e ≠ 0) :
    Calls Try.prog 24 #[.pointer (some ⟨g, 0, none⟩), .slice xa n xc, .slice ya m yc] w fun en w' => ∃ F', en = .returned (.tuple #[.int .i64 (0 : Nat), .int .i64 e]) ∧ Hold w0 w' g G F' L := sLt_h h hx hxn hy hym (refG_no _ he h0)
theorem sEq_no (h : Hold w0 w g G F L) {xa ya : Option Addr} {xl yl : List Int} {n m xc yc : Nat} (hx : (.slice xa n xc, xl) ∈ L) (hxn : xl.length = n) (hy : (.slice ya m yc, yl) ∈ L) (hym : yl.length = m) {e : Nat} (he : chk G [xl, yl] = e) (h0 : e ≠ 0) :
    Calls Try.prog 22 #[.pointer (some ⟨g, 0, none⟩), .slice xa n xc, .slice ya m yc] w fun en w' => ∃ F', en = .returned (.tuple #[.int .i64 (0 : Nat), .int .i64 e]) ∧ Hold w0 w' g G F' L := sEq_h h hx hxn hy hym (by rw [refG_no _ he h0, negG_no _ h0])
theorem sLe_no (h : Hold w0 w g G F L) {xa ya : Option Addr} {xl yl : List Int} {n m xc yc : Nat} (hx : (.slice xa n xc, xl) ∈ L) (hxn : xl.length = n) (hy : (.slice ya m yc, yl) ∈ L) (hym : yl.length = m) {e : Nat} (he : chk G [yl, xl] = e) (h0 : e ≠ 0) :
    Calls Try.prog 25 #[.pointer (some ⟨g, 0, none⟩), .slice xa n xc, .slice ya m yc] w fun en w' => ∃ F', en = .returned (.tuple #[.int .i64 (0 : Nat), .int .i64 e]) ∧ Hold w0 w' g G F' L := sLe_h h hx hxn hy hym (by rw [refG_no _ he h0, negG_no _ h0])
theorem sNot_no (h : Hold w0 w g G F L) {xa : Option Addr} {xl : List Int} {n xc : Nat} (hx : (.slice xa n xc, xl) ∈ L) (hxn : xl.length = n) {e : Nat} (he : chk G [xl] = e) (h0 : e ≠ 0) :
    Calls Try.prog 26 #[.pointer (some ⟨g, 0, none⟩), .slice xa n xc] w fun en w' => ∃ a c F', en = .returned (.tuple #[.slice a 0 c, .int .i64 e]) ∧ Hold w0 w' g G F' L := wno (sNot_h h hx hxn (wordG_no _ he h0) rfl (by simp) (by omega))
theorem sNeg_no (h : Hold w0 w g G F L) {xa : Option Addr} {xl : List Int} {n xc : Nat} (hx : (.slice xa n xc, xl) ∈ L) (hxn : xl.length = n) {e : Nat} (he : chk G [List.replicate n 0, xl] = e) (h0 : e ≠ 0) :
    Calls Try.prog 27 #[.pointer (some ⟨g, 0, none⟩), .slice xa n xc] w fun en w' => ∃ a c F', en = .returned (.tuple #[.slice a 0 c, .int .i64 e]) ∧ Hold w0 w' g G F' L := wno (sNeg_h h hx hxn (by unfold subG; exact wordG_no _ he h0) rfl (by simp) (by omega))
theorem sAny_no (h : Hold w0 w g G F L) {xa : Option Addr} {xl : List Int} {n xc : Nat} (hx : (.slice xa n xc, xl) ∈ L) (hxn : xl.length = n) {e : Nat} (he : chk G [xl] = e) (h0 : e ≠ 0) :
    Calls Try.prog 28 #[.pointer (some ⟨g, 0, none⟩), .slice xa n xc] w fun en w' => ∃ F', en = .returned (.tuple #[.int .i64 (0 : Nat), .int .i64 e]) ∧ Hold w0 w' g G F' L := sAny_h h hx hxn (refG_no _ he h0)
theorem sInput_no (h : Hold w0 w g G F L) (i : Int) (hi : rightW i = false) :
    Calls Try.prog 30 #[.pointer (some ⟨g, 0, none⟩), .int .i64 i] w fun en w' => ∃ a c F', en = .returned (.tuple #[.slice a 0 c, .int .i64 (230 : Nat)]) ∧ Hold w0 w' g G F' L := wno (sInput_h h i (by unfold inG; rw [hi]; rfl) rfl (by simp) (by omega))
theorem sConst_no (h : Hold w0 w g G F L) (x : Nat) (hx : x < 4294967296) (i : Int) (hi : rightW i = false) :
    Calls Try.prog 29 #[.int .u32 x, .int .i64 i] w fun en w' => ∃ a c F', en = .returned (.tuple #[.slice a 0 c, .int .i64 (230 : Nat)]) ∧ Hold w0 w' g G F' L := by
  have hc := sConst_is (w := w) x hx i
  rw [hi] at hc
  refine (Calls.wnew (l := []) (k := 0) h hc rfl (by simp) (by omega)).mono ?_
  rintro en w' ⟨a, c, rfl, hh⟩
  exact ⟨a, c, F, rfl, hh.tail⟩
theorem sCast_no (h : Hold w0 w g G F L) {xa : Option Addr} {xl : List Int} {n xc : Nat} (hx : (.slice xa n xc, xl) ∈ L) (hxn : xl.length = n) (i : Int) (hi : (rightW i && rightW n) = false) :
    Calls Try.prog 31 #[.slice xa n xc, .int .i64 i] w fun en w' => ∃ a c F', en = .returned (.tuple #[.slice a 0 c, .int .i64 (230 : Nat)]) ∧ Hold w0 w' g G F' L := by
  have hc := sCast_is (h.at hx hxn).ok (by have := (h.held _ hx).cap; simp only [hxn]; omega) i
  simp only [WV.val, hxn, hi] at hc
  refine (Calls.wnew (l := []) (k := 0) h hc rfl (by simp) (by omega)).mono ?_
  rintro en w' ⟨a, c, rfl, hh⟩
  exact ⟨a, c, F, rfl, hh.tail⟩
end
end Go.Proofs.Ytchledddgmbndaa
namespace Go.Proofs.Ytchledddgmbndaa
open Go.RowKit Go.Mem Go.Aig
theorem max_ii (z q : Int) (ats : Array TypeId) (ty : TypeId) : Builtin.max_ ats ty #[.int .i64 z, .int .i64 q] = pure (.int .i64 (max z q)) := by
  have e : (if z < q then q else z) = max z q := by split <;> omega
  rw [← e]
  simp [Builtin.max_, Builtin.max2]
theorem min_ii (z q : Int) (ats : Array TypeId) (ty : TypeId) : Builtin.min_ ats ty #[.int .i64 z, .int .i64 q] = pure (.int .i64 (min z q)) := by
  have e : (if q < z then q else z) = min z q := by split <;> omega
  rw [← e]
  simp [Builtin.min_, Builtin.min2]
theorem WNew.set {w w' : World} {b n c i : Nat} {l : List Int} (h : WNew w (.slice (some ⟨b, 0, none⟩) n c) (intCells l) w') (hn : l.length = n) (r : Int) : WNew w (.slice (some ⟨b, 0, none⟩) n c) (intCells (l.set i r)) (w'.setCell ⟨b, i, none⟩ (.int .i64 r)) := by
  obtain ⟨h1, h2, h3⟩ := h
  have e : intCells (l.set i r) = (intCells l).set i (.int .i64 r) := by unfold intCells; rw [List.map_set]
  refine ⟨?_, h2, h3.setCell (.inr (h2 b (by simp))) _⟩
  have e2 : (intCells l).length = n := by simp [intCells, hn]
  have e3 : (intCells (l.set i r)).length = n := by simp [intCells, hn]
  rw [e3, e]
  rw [e2] at h1
  exact row.set h1 (.int .i64 r)
theorem WNew.app {w w1 w2 w3 : World} {v v' : Value} {l : List Int} {n : Nat} (h : WNew w v (intCells l) w1) (hc : Ch [] w1 w2) {r : Int} (hn : l.length = n) (hr : row w3 34 1 v' (n + 1) (intCells l ++ [.int .i64 r])) (h23 : Ch v.ownBlock.toList w2 w3) (hf : ∀ k, v'.ownBlock = some k → v.ownBlock = some k ∨ w2.heap.size ≤ k) : WNew w v' (intCells (l ++ [r])) w3 := by
  obtain ⟨h1, h2, h3⟩ := h
  have e : intCells (l ++ [r]) = intCells l ++ [.int .i64 r] := by simp [intCells]
  have e3 : (intCells (l ++ [r])).length = n + 1 := by simp [intCells, hn]
  have h02 := h3.trans hc (by simp)
  refine ⟨by rw [e3, e]; exact hr, fun q hq => ?_, h02.trans h23 (fun k hk => .inr (h2 k hk))⟩
  rcases hf q (by simpa using hq) with h | h
  · exact h2 q (by simpa using h)
  · have := h02.size; omega
theorem bd_set {l : List Int} {i : Nat} {r : Int} (h : ∀ x ∈ l, -9223372036854775808 ≤ x ∧ x ≤ 9223372036854775807) (hr : -9223372036854775808 ≤ r ∧ r ≤ 9223372036854775807) : ∀ x ∈ l.set i r, -9223372036854775808 ≤ x ∧ x ≤ 9223372036854775807 := fun x hx => by
  rcases List.mem_or_eq_of_mem_set hx with hx | rfl
  · exact h x hx
  · exact hr
theorem bd_app {l : List Int} {r : Int} (h : ∀ x ∈ l, -9223372036854775808 ≤ x ∧ x ≤ 9223372036854775807) (hr : -9223372036854775808 ≤ r ∧ r ≤ 9223372036854775807) : ∀ x ∈ l ++ [r], -9223372036854775808 ≤ x ∧ x ≤ 9223372036854775807 := fun x hx => by
  rcases List.mem_append.1 hx with hx | hx
  · exact h x hx
  · rw [List.mem_singleton.1 hx]; exact hr
theorem row_at2 {w : World} {e : TypeId} {b n c : Nat} {vs : List Value} (h : row w e 1 (.slice (some ⟨b, 0, none⟩) n c) n vs) {k : Nat} {v : Value} (hk : vs[k]? = some v) : w.cell? ⟨b, k, none⟩ = some v := by
  have := h.cells (g := b) rfl k v hk
  rw [Addr.add_lit] at this
  simpa using this
theorem row_fz {w : World} {e : TypeId} {b n c : Nat} {vs : List Value} (h : row w e 1 (.slice (some ⟨b, 0, none⟩) n c) n vs) (hn : 0 < n) (k : Nat) : w.frozen? ⟨b, k, none⟩ = false := by
  obtain ⟨b', ys, e1, hb, _⟩ := rowBlk h 0 hn
  cases e1
  exact hb.frozen
theorem WNew.at {w w' : World} {b n c k : Nat} {l : List Int} (h : WNew w (.slice (some ⟨b, 0, none⟩) n c) (intCells l) w') (hn : l.length = n) {r : Int} (hk : l[k]? = some r) : w'.cell? ⟨b, k, none⟩ = some (.int .i64 r) ∧ w'.frozen? ⟨b, k, none⟩ = false := by
  have h1 := h.1
  have e : (intCells l).length = n := by simp [intCells, hn]
  rw [e] at h1
  have hlt := (List.getElem?_eq_some_iff.1 hk).1
  exact ⟨row_at2 h1 (by simp [intCells, hk]), row_fz h1 (by omega) k⟩
theorem sValue_nil {w : World} : Calls Try.prog 32 #[.slice none 0 0, .slice none 0 0] w fun en w' => en = .returned (.tuple #[.int .u32 0, .int .i64 230]) ∧ w = w' := by
  have hc := sValue_is (w := w) (x := ⟨none, [], 0⟩) (by simp) (a := none) (l := []) 0 (by simp) ⟨fun i x hx => by simp at hx, by simp⟩
  exact hc
theorem Hold.fresh {w0 : Base} {w : World} {g : Nat} {G : Gra} {F : List Nat} {L : List (Value × List Int)} (h : Hold w0 w g G F L) {l : List Int} {n : Nat} (hn : l.length = n) (hb : ∀ r ∈ l, -9223372036854775808 ≤ r ∧ r ≤ 9223372036854775807) (hl : n ≤ 1000000) :
    Hold w0 (w.alloc (.cells (intCells l).toArray 34)) g G F ((.slice (some ⟨w.heap.size, 0, none⟩) n n, l) :: L) := by
  subst hn
  have hk : blk (w.alloc (.cells (intCells l).toArray 34)) w.heap.size (intCells l) := blk.new _ _ _
  have e : (intCells l).length = l.length := by simp [intCells]
  have hx : (w.alloc (.cells (intCells l).toArray 34)).heap[w.heap.size]? = some (.cells (intCells l).toArray 34 (0, 0)) := heap_alloc_new w _
  refine ⟨(h.same ((Ch.refl [] _).alloc _)).own, fun p hp => ?_, (h.same ((Ch.refl [] _).alloc _)).kept⟩
  rcases List.mem_cons.1 hp with rfl | hp
  · refine ⟨⟨by simp [intCells], .inr ⟨w.heap.size, l.length, (intCells l).toArray, rfl, by simp, hx, Nat.le_refl _, by unfold maxLen; omega, by simp [intCells], by rw [Nat.mul_one]; exact List.take_of_length_le (by simp [intCells])⟩⟩, hl, hb, fun k hk => ?_⟩
    · simp at hk; subst hk
      exact ⟨h.own.ch.size, fun hin => Nat.lt_irrefl _ (h.own.gin.lt _ hin)⟩
  · exact (h.same ((Ch.refl [] _).alloc _)).held p hp
end Go.Proofs.Ytchledddgmbndaa
namespace Go.Mem
open Go.MapKept
/-- the map holds just these keys and values -/
def UMap (w : World) (mb : Nat) (L : List (Nat × Value)) : Prop := ∃ es clock, w.heap[mb]? = some (.map es clock) ∧ (es.toList.map fun e => (e.key, e.val)) = L.map fun p => (Value.int .u8 p.1, p.2)
theorem UMap.of_heap {w w' : World} {mb : Nat} {L : List (Nat × Value)} (h : UMap w mb L) (e : w'.heap[mb]? = w.heap[mb]?) : UMap w' mb L := by
  obtain ⟨es, clock, h1, h2⟩ := h
  exact ⟨es, clock, e.trans h1, h2⟩
theorem UMap.lt {w : World} {mb : Nat} {L : List (Nat × Value)} (h : UMap w mb L) : mb < w.heap.size := by
  obtain ⟨es, clock, h1, _⟩ := h
  exact (Array.getElem?_eq_some_iff.1 h1).1
theorem UMap.ch {F : List Nat} {w w' : World} {mb : Nat} {L : List (Nat × Value)} (h : UMap w mb L) (hc : Ch F w w') (hF : mb ∉ F) : UMap w' mb L := h.of_heap (hc.block mb h.lt hF)
section
variable {P : Program} {w : World} {T K E : TypeId} {mb : Nat} {L : List (Nat × Value)}
theorem UMap.find (h : UMap w mb L) (n : Nat) : ∃ es clock, w.heap[mb]? = some (.map es clock) ∧ (es.toList.map fun e => (e.key, e.val)) = (L.map fun p => (Value.int .u8 p.1, p.2)) ∧
    ((Instr.findNow (.int .u8) (.int .u8 n) es.toList 0 = some none ∧ n ∉ L.map Prod.fst) ∨ (∃ j v, Instr.findNow (.int .u8) (.int .u8 n) es.toList 0 = some (some (j, v)) ∧ L[j]? = some (n, v))) := by
  obtain ⟨es, clock, h1, h2⟩ := h
  have hk : IsKey (.int .u8) (.int .u8 (n : Int)) := by simp [IsKey]
  have hat : ∀ (j : Nat) (e : MapEntry), es.toList[j]? = some e → ∃ m v, L[j]? = some (m, v) ∧ e.key = .int .u8 (m : Nat) ∧ e.val = v := fun j e he => by
    have := congrArg (fun l => l[j]?) h2
    simp only [List.getElem?_map, he, Option.map_some] at this
    cases hL : L[j]? with
    | none => rw [hL] at this; cases this
    | some m => rw [hL] at this; simp at this; exact ⟨m.1, m.2, rfl, this.1, this.2⟩
  have hks : ∀ x ∈ es.toList, IsKey (.int .u8) x.key := fun x hx => by
    obtain ⟨j, hj⟩ := List.mem_iff_getElem?.1 hx
    obtain ⟨m, v, _, hm, _⟩ := hat j x hj
    rw [hm]; simp [IsKey]
  refine ⟨es, clock, h1, h2, ?_⟩
  rcases findNow_spec hk es.toList 0 hks with ⟨q1, q2⟩ | ⟨j, e, q1, q2, q3⟩
  · refine .inl ⟨q1, fun hn => ?_⟩
    obtain ⟨⟨n', v⟩, hp, rfl⟩ := List.mem_map.1 hn
    obtain ⟨j, hj⟩ := List.mem_iff_getElem?.1 hp
    have hlt := (List.getElem?_eq_some_iff.1 hj).1
    have hsz : es.toList.length = L.length := by have := congrArg List.length h2; simpa using this
    obtain ⟨m, v', hm, hkm, _⟩ := hat j _ (List.getElem?_eq_getElem (by rw [hsz]; exact hlt))
    rw [hj] at hm; cases hm
    exact q2 _ (List.getElem_mem _) hkm
  · obtain ⟨m, v, hm, hkm, hv⟩ := hat j e q2
    rw [q3] at hkm
    simp at hkm
    obtain rfl : n = m := by omega
    rw [hv, Nat.zero_add] at q1
    exact .inr ⟨j, v, q1, hm⟩
theorem UMap.lookup_yes (hT : P.underlying T = some (.map K E)) (hK : P.underlying K = some (.int .u8)) (h : UMap w mb L) {n : Nat} {v : Value} (hm : (n, v) ∈ L) (hu : ∀ v', (n, v') ∈ L → v' = v) :
    (Instr.lookup T (.map (some mb)) (.int .u8 n) false).run P w = .ok v w ∧ (Instr.lookup T (.map (some mb)) (.int .u8 n) true).run P w = .ok (.tuple #[v, .bool true]) w := by
  have hk : IsKey (.int .u8) (.int .u8 (n : Int)) := by simp [IsKey]
  obtain ⟨es, clock, h1, _, ⟨q, hn⟩ | ⟨j, v', q, hn⟩⟩ := h.find n
  · exact absurd (List.mem_map.2 ⟨_, hm, rfl⟩) hn
  · rw [hu v' (List.mem_of_getElem? hn)] at q
    unfold Instr.lookup
    constructor <;> simp [run_underlying hT, run_getMap h1, run_checkKey hK hk, run_findKey hK q]
theorem UMap.lookup_no (hT : P.underlying T = some (.map K E)) (hK : P.underlying K = some (.int .u8)) {z : Value} (hz : ∀ w, (zeroValue E).run P w = .ok z w) (h : UMap w mb L) {n : Nat} (hm : n ∉ L.map Prod.fst) :
    (Instr.lookup T (.map (some mb)) (.int .u8 n) false).run P w = .ok z w ∧ (Instr.lookup T (.map (some mb)) (.int .u8 n) true).run P w = .ok (.tuple #[z, .bool false]) w := by
  have hk : IsKey (.int .u8) (.int .u8 (n : Int)) := by simp [IsKey]
  obtain ⟨es, clock, h1, _, ⟨q, hn⟩ | ⟨j, v', q, hn⟩⟩ := h.find n
  · unfold Instr.lookup
    constructor <;> simp [run_underlying hT, run_getMap h1, run_checkKey hK hk, run_findKey hK q, hz]
  · exact absurd (List.mem_map.2 ⟨_, List.mem_of_getElem? hn, rfl⟩) hm
theorem UMap.set (hT : P.underlying T = some (.map K E)) (hK : P.underlying K = some (.int .u8)) (h : UMap w mb L) {n : Nat} (hn : n ∉ L.map Prod.fst) (v : Value) :
    ∃ w', (Instr.mapUpdate T (.map (some mb)) (.int .u8 n) v).run P w = .ok () w' ∧ Ch [mb] w w' ∧ UMap w' mb (L ++ [(n, v)]) := by
  have hk : IsKey (.int .u8) (.int .u8 (n : Int)) := by simp [IsKey]
  have hch : ∀ (o : Obj), Ch [mb] w { w with heap := w.heap.setIfInBounds mb o } := fun o => ⟨rfl, rfl, rfl, by simp, fun j _ hj => Array.getElem?_setIfInBounds_ne (by simp at hj; omega)⟩
  obtain ⟨es, clock, h1, h2, ⟨q, _⟩ | ⟨j, v', q, hn2⟩⟩ := h.find n
  · have hlt := (Array.getElem?_eq_some_iff.1 h1).1
    refine ⟨_, by simp [Instr.mapUpdate, run_underlying hT, run_getMap h1, run_checkKey hK hk, run_findKey hK q, run_setMap h1, Result.andThen]; rfl, hch _, ⟨_, _, Array.getElem?_setIfInBounds_self_of_lt hlt, ?_⟩⟩
    rw [Array.toList_push, List.map_append, h2]; simp
  · exact absurd (List.mem_map.2 ⟨_, List.mem_of_getElem? hn2, rfl⟩) hn
end
end Go.Mem
namespace Go.Aig
def rightB (n : Int) : Bool := decide (1 ≤ n) && decide (n ≤ 16)
end Go.Aig
namespace Go.Proofs.Ytchledddgmbndaa
open Go.RowKit Go.Mem Go.Aig
theorem mT25 : Try.prog.underlying 123 = some (.map 61 121) := by kernel_rfl
theorem mK25 : Try.prog.underlying 61 = some (.int .u8) := by kernel_rfl
theorem mZ25 (w : World) : (zeroValue 121).run Try.prog w = .ok .nilFunc w := by kernel_rfl
/-- the two sides: from where a bit comes -/
def sides25 : List (Nat × Value) := [(1, .func (.func 119) #[] #[]), (2, .func (.func 120) #[] #[])]
section
variable {w : World}
set_option maxRecDepth 100000 in
set_option maxHeartbeats 1000000 in
theorem moves25_is : Calls Try.prog 84 #[] w fun e w' => ∃ mb, e = .returned (.map (some mb)) ∧ UMap w' mb sides25 ∧ Ch [] w w' := by
  have hmm := @run_makeMap Try.prog
  have h0 : UMap (w.alloc (.map #[] 0)) w.heap.size [] := ⟨#[], 0, heap_alloc_new w _, rfl⟩
  obtain ⟨w1, r1, c1, u1⟩ := h0.set mT25 mK25 (n := 1) (by simp) (.func (.func 119) #[] #[])
  obtain ⟨w2, r2, c2, u2⟩ := u1.set mT25 mK25 (n := 2) (by simp) (.func (.func 120) #[] #[])
  rw [show ((1 : Nat) : Int) = 1 from rfl] at r1
  rw [show ((2 : Nat) : Int) = 2 from rfl] at r2
  have hc : Ch [] w w2 := (((Ch.refl [] w).alloc (.map #[] 0)).trans c1 (by simp)).trans c2 (by simp)
  have HC := Lib.hid hc
  have HU := Lib.hid u2
  clear h0 c1 u1 c2 u2 hc
  go_enter Try.func84, Try.ntmps84
  go_wp2_with fail
  go_ret
  exact ⟨_, rfl, HU.out, HC.out⟩
theorem sides_at {mb : Nat} (h : UMap w mb sides25) {side : Nat} (hs : side = 1 ∨ side = 2) :
    (Instr.lookup 123 (.map (some mb)) (.int .u8 side) false).run Try.prog w = .ok (.func (.func (if side = 1 then 119 else 120)) #[] #[]) w ∧
    (Instr.lookup 123 (.map (some mb)) (.int .u8 side) true).run Try.prog w = .ok (.tuple #[.func (.func (if side = 1 then 119 else 120)) #[] #[], .bool true]) w := by
  rcases hs with rfl | rfl
  · exact h.lookup_yes mT25 mK25 (n := 1) (by simp [sides25]) (by simp [sides25])
  · exact h.lookup_yes mT25 mK25 (n := 2) (by simp [sides25]) (by simp [sides25])
theorem sides_no {mb : Nat} (h : UMap w mb sides25) {side : Nat} (hs : side ≠ 1 ∧ side ≠ 2) :
    (Instr.lookup 123 (.map (some mb)) (.int .u8 side) false).run Try.prog w = .ok .nilFunc w ∧
    (Instr.lookup 123 (.map (some mb)) (.int .u8 side) true).run Try.prog w = .ok (.tuple #[.nilFunc, .bool false]) w :=
  h.lookup_no mT25 mK25 mZ25 (n := side) (by simp [sides25]; omega)
theorem fnvm1 : Fnv 119 := fnv_of Try.func119 (by simp [Try.f119]) (by simp [Try.f119])
theorem fnvm2 : Fnv 120 := fnv_of Try.func120 (by simp [Try.f120]) (by simp [Try.f120])
set_option maxRecDepth 100000 in
set_option maxHeartbeats 1000000 in
theorem m251_is (i n : Int) (hi : 0 ≤ i) (hi2 : i ≤ 1000000) (hn : 0 ≤ n) (hn2 : n ≤ 1000000) : Calls Try.prog 119 #[.int .i64 i, .int .i64 n] w fun e w' => e = .returned (.int .i64 (i - n)) ∧ w = w' := by
  go_enter Try.func119, Try.ntmps119
  go_wp2_with fail
  go_ret
  exact ⟨rfl, rfl⟩
set_option maxRecDepth 100000 in
set_option maxHeartbeats 1000000 in
theorem m252_is (i n : Int) (hi : 0 ≤ i) (hi2 : i ≤ 1000000) (hn : 0 ≤ n) (hn2 : n ≤ 1000000) : Calls Try.prog 120 #[.int .i64 i, .int .i64 n] w fun e w' => e = .returned (.int .i64 (i + n)) ∧ w = w' := by
  go_enter Try.func120, Try.ntmps120
  go_wp2_with fail
  go_ret
  exact ⟨rfl, rfl⟩
set_option maxRecDepth 100000 in
set_option maxHeartbeats 1000000 in
theorem right25_is (n : Int) : Calls Try.prog 85 #[.int .i64 n] w fun e w' => e = .returned (.bool (rightB n)) ∧ w = w' := by
  unfold rightB
  by_cases h1 : 1 ≤ n
  · rw [show decide (1 ≤ n) = true from decide_eq_true h1]
    go_enter Try.func85, Try.ntmps85
    go_wp2_with fail
    go_ret
    exact ⟨by simp [h1], rfl⟩
  · rw [show decide (1 ≤ n) = false from decide_eq_false h1]
    go_enter Try.func85, Try.ntmps85
    go_wp2_with fail
    go_ret
    exact ⟨by simp [h1], rfl⟩
end
end Go.Proofs.Ytchledddgmbndaa
namespace Go.Aig
/-- a word shifted: to the left (1), or to the right -/
def shL (side : Nat) (x : List Int) (n : Nat) : List Int := (List.range x.length).map fun i => if side = 1 then (if n ≤ i then x.getD (i - n) 0 else 0) else x.getD (i + n) 0
@[simp] theorem shL_len (side : Nat) (x : List Int) (n : Nat) : (shL side x n).length = x.length := by simp [shL]
theorem shL_at {side : Nat} {x : List Int} {n i : Nat} (h : i < x.length) : (shL side x n)[i]? = some (if side = 1 then (if n ≤ i then x.getD (i - n) 0 else 0) else x.getD (i + n) 0) := by
  unfold shL
  rw [List.getElem?_map, List.getElem?_range h]
  rfl
theorem shL_bd {side : Nat} {x : List Int} {n : Nat} (h : ∀ r ∈ x, -9223372036854775808 ≤ r ∧ r ≤ 9223372036854775807) : ∀ r ∈ shL side x n, -9223372036854775808 ≤ r ∧ r ≤ 9223372036854775807 := fun r hr => by
  have hd : ∀ j, -9223372036854775808 ≤ x.getD j 0 ∧ x.getD j 0 ≤ 9223372036854775807 := fun j => by
    rw [List.getD_eq_getElem?_getD]
    cases hj : x[j]? with
    | none => simp
    | some r => exact h r (List.mem_of_getElem? hj)
  obtain ⟨i, _, rfl⟩ := List.mem_map.1 hr
  split
  · split
    · exact hd _
    · omega
  · exact hd _
/-- k bits are done -/
def shP (S : List Int) (k : Nat) : List Int := S.take k ++ List.replicate (S.length - k) 0
theorem shP_len {S : List Int} {k : Nat} (h : k ≤ S.length) : (shP S k).length = S.length := by unfold shP; rw [List.length_append, List.length_take, List.length_replicate]; omega
theorem shP_zero (S : List Int) : shP S 0 = List.replicate S.length 0 := by simp [shP]
theorem shP_all (S : List Int) : shP S S.length = S := by simp [shP]
theorem shP_set {S : List Int} {k : Nat} {r : Int} (h : S[k]? = some r) : (shP S k).set k r = shP S (k + 1) := by
  have hlt := (List.getElem?_eq_some_iff.1 h).1
  unfold shP
  rw [List.set_append_right _ _ (by rw [List.length_take]; omega), List.length_take, show k - min k S.length = 0 by omega, show S.length - k = (S.length - (k + 1)) + 1 by omega, List.replicate_succ, List.set_cons_zero, List.take_add_one, h]
  simp
theorem shP_same {S : List Int} {k : Nat} (h : S[k]? = some 0) : shP S k = shP S (k + 1) := by
  have hlt := (List.getElem?_eq_some_iff.1 h).1
  unfold shP
  rw [show S.length - k = (S.length - (k + 1)) + 1 by omega, List.replicate_succ, List.take_add_one, h]
  simp
end Go.Aig
namespace Go.Proofs.Ytchledddgmbndaa
open Go.RowKit Go.Mem Go.Aig
theorem row_fresh {w W : World} {l : List Int} {n : Nat} (hW : W = w.alloc (.cells (intCells l).toArray 34)) (hn : l.length = n) (hl : n ≤ 1000000) : row W 34 1 (.slice (some ⟨w.heap.size, 0, none⟩) n n) n (intCells l) := by
  subst hn hW
  have hx : (w.alloc (.cells (intCells l).toArray 34)).heap[w.heap.size]? = some (.cells (intCells l).toArray 34 (0, 0)) := heap_alloc_new w _
  exact ⟨by simp [intCells], .inr ⟨w.heap.size, l.length, (intCells l).toArray, rfl, by simp, hx, Nat.le_refl _, by unfold maxLen; omega, by simp [intCells], by rw [Nat.mul_one]; exact List.take_of_length_le (by simp [intCells])⟩⟩
theorem intCells_set (l : List Int) (i : Nat) (r : Int) : intCells (l.set i r) = (intCells l).set i (.int .i64 r) := by unfold intCells; rw [List.map_set]
section
variable {w : World}
set_option maxRecDepth 100000 in
set_option maxHeartbeats 4000000 in
theorem shifted_is {side : Nat} (hs : side = 1 ∨ side = 2) {xa : Option Addr} {xl : List Int} (xc n : Nat) (hS : Sl w xa xl) (hl : xl.length ≤ 1000000) (hn : n ≤ 1000000) :
    Calls Try.prog 86 #[.int .u8 side, .slice xa xl.length xc, .int .i64 n] w fun e w' => ∃ v, e = .returned v ∧ WNew w v (intCells (shL side xl n)) w' := by
  obtain ⟨fid, hfid⟩ : ∃ fid, fid = if side = 1 then 119 else 120 := ⟨_, rfl⟩
  obtain ⟨fr, hfr⟩ : ∃ fr : Int → Int, fr = fun (i : Int) => if side = 1 then i - (n : Int) else i + (n : Int) := ⟨_, rfl⟩
  have hfv : Fnv fid := by
    rcases hs with rfl | rfl
    · rw [hfid]; exact fnvm1
    · rw [hfid]; exact fnvm2
  have hcf : ∀ args w, (callFunc fid args).run Try.prog w = .ok (.enter fid args) w := hfv
  have hfc : ∀ (W : World) (k : Nat), k ≤ 1000000 → Calls Try.prog fid #[.int .i64 k, .int .i64 n] W fun e w' => e = .returned (.int .i64 (fr k)) ∧ W = w' := fun W k hk => by
    rcases hs with rfl | rfl
    · rw [hfid, hfr]; exact m251_is k n (by omega) (by omega) (by omega) (by omega)
    · rw [hfid, hfr]; exact m252_is k n (by omega) (by omega) (by omega) (by omega)
  have hsh : ∀ k : Nat, k < xl.length → (0 ≤ fr k ∧ fr k < xl.length → ∃ (p : Nat) (r : Int), fr k = p ∧ xl[p]? = some r ∧ (shL side xl n)[k]? = some r) ∧ (¬(0 ≤ fr k ∧ fr k < xl.length) → (shL side xl n)[k]? = some 0) := fun k hk => by
    rw [shL_at hk, hfr]
    dsimp only
    rcases hs with rfl | rfl
    · rw [if_pos rfl, if_pos rfl]
      refine ⟨fun h => ⟨k - n, xl[k - n], by omega, List.getElem?_eq_getElem (by omega), ?_⟩, fun h => ?_⟩
      · rw [if_pos (by omega), List.getD_eq_getElem?_getD, List.getElem?_eq_getElem (by omega)]; rfl
      · rw [if_neg (by omega)]
    · rw [if_neg (by omega), if_neg (by omega)]
      refine ⟨fun h => ⟨k + n, xl[k + n], by omega, List.getElem?_eq_getElem (by omega), ?_⟩, fun h => ?_⟩
      · rw [List.getD_eq_getElem?_getD, List.getElem?_eq_getElem (by omega)]; rfl
      · rw [List.getD_eq_getElem?_getD, List.getElem?_eq_none (by omega)]; rfl
  have hfb : ∀ k : Nat, k ≤ 1000000 → -1000000 ≤ fr k ∧ fr k ≤ 2000000 := fun k hk => by
    rw [hfr]; dsimp only; split <;> omega
  obtain ⟨SH, hSH⟩ : ∃ SH, SH = shL side xl n := ⟨_, rfl⟩
  have hSHl : SH.length = xl.length := by rw [hSH]; simp
  rw [← hSH] at hsh ⊢
  have hmk := run_make_refs
  have hat := fun (W : World) (mb : Nat) (h : UMap W mb sides25) => (sides_at h hs).1
  rw [← hfid] at hat
  clear hfid hfr hfv hSH
  have HSH := Lib.hid hsh; clear hsh
  have HFC := Lib.hid hfc; clear hfc
  have HFB := Lib.hid hfb; clear hfb
  have HS := Lib.hid hS; clear hS
  have HAT := Lib.hid hat; clear hat
  have HSL := Lib.hid hSHl; clear hSHl
  have HMK := Lib.hid hmk; clear hmk
  go_enter Try.func86, Try.ntmps86
  go_wp2_with fail
  refine moves25_is.mono ?_
  rintro e w1 ⟨mb, rfl, hum, hc1⟩
  have h7 := HAT.out w1 mb hum
  have hmk := HMK.out w1 xl.length hl
  have HC1 := Lib.hid hc1; clear hc1 hum
  go_wp2_with fail
  refine wp_alw ?_
  intro W0 hW0
  have hz0 : refsCells (List.replicate xl.length 0) = intCells (shP SH 0) := by rw [shP_zero, HSL.out]; simp [refsCells, intCells]
  rw [hz0] at hW0
  have hr0 := row_fresh hW0 (n := xl.length) (by rw [shP_len (by omega), HSL.out]) hl
  have hc0 : Ch [] w W0 := HC1.out.trans (alw_ch hW0) (by simp)
  have hb0 : w.heap.size ≤ w1.heap.size := HC1.out.size
  generalize w1.heap.size = b at hr0 hb0 ⊢
  have HR0 := Lib.hid hr0; clear hr0
  have HC0 := Lib.hid hc0; clear hc0 hW0 hz0 HC1 hmk h7 HAT HMK
  go_loopw [19] (fun i wr => ∃ k : Nat, k ≤ xl.length ∧ i = .int .i64 k ∧ Ch [] w wr ∧ row wr 34 1 (.slice (some ⟨b, 0, none⟩) xl.length xl.length) xl.length (intCells (shP SH k))) (fun i _ => xl.length - (intOf i).toNat)
  case atStart => exact ⟨0, by omega, rfl, HC0.out, HR0.out⟩
  case round =>
    obtain ⟨k, hk, rfl, hc, hrow⟩ := hrel
    clear HR0 HC0
    have HROW := Lib.hid hrow; clear hrow
    have HC := Lib.hid hc; clear hc
    by_cases hlt : k < xl.length
    · obtain ⟨q1, q2⟩ := HSH.out k hlt
      have hf := HFC.out wr k (by omega)
      have hfb := HFB.out k (by omega)
      generalize fr k = z at q1 q2 hf hfb
      have HF := Lib.hid hf; clear hf
      by_cases hz : 0 ≤ z ∧ z < xl.length
      · obtain ⟨p, r, rfl, hxp, hsk⟩ := q1 hz
        obtain ⟨hz1, hz2⟩ := hz
        obtain ⟨xb, xo, rfl, hcl⟩ := HS.out.cells p r hxp
        have c0 := (HC.out.cell (cell_lt hcl) (by simp)).trans hcl
        have d1 : decide ((0 : Int) ≤ p) = true := decide_eq_true (by omega)
        have d2 : decide ((p : Int) < xl.length) = true := decide_eq_true hz2
        have hp : p < xl.length := by omega
        have HSK := Lib.hid hsk
        have k0 : wr.cell? ⟨b, k, none⟩ = some (.int .i64 0) := row_at2 HROW.out (by unfold shP; rw [intCells, List.getElem?_map, List.getElem?_append_right (by simp; omega), List.length_take, List.getElem?_replicate, if_pos (by have := HSL.out; omega)]; rfl)
        have k1 : wr.frozen? ⟨b, k, none⟩ = false := row_fz HROW.out (by omega) k
        clear hxp hcl hsk q1 q2
        go_wp2_with fail
        refine HF.out.mono ?_
        rintro e w3 ⟨rfl, rfl⟩
        go_wp2_with fail
        go_roundw
        case rel =>
          refine ⟨k + 1, by omega, by go_num, HC.out.setCell (.inr hb0) _, ?_⟩
          rw [← shP_set HSK.out, intCells_set]
          exact row.set HROW.out _
        case measure => simp [intOf]; omega
      · have hsk := q2 hz
        have HSK := Lib.hid hsk; clear hsk q1 q2
        by_cases hz0 : 0 ≤ z
        · have d1 : decide ((0 : Int) ≤ z) = true := decide_eq_true (by omega)
          have d2 : decide (z < xl.length) = false := decide_eq_false (by omega)
          clear hz
          go_wp2_with fail
          refine HF.out.mono ?_
          rintro e w3 ⟨rfl, rfl⟩
          go_wp2_with fail
          go_roundw
          case rel => exact ⟨k + 1, by omega, by go_num, HC.out, by rw [← shP_same HSK.out]; exact HROW.out⟩
          case measure => simp [intOf]; omega
        · have d1 : decide ((0 : Int) ≤ z) = false := decide_eq_false (by omega)
          clear hz
          go_wp2_with fail
          refine HF.out.mono ?_
          rintro e w3 ⟨rfl, rfl⟩
          go_wp2_with fail
          go_roundw
          case rel => exact ⟨k + 1, by omega, by go_num, HC.out, by rw [← shP_same HSK.out]; exact HROW.out⟩
          case measure => simp [intOf]; omega
    · have hkl : k = SH.length := by have := HSL.out; omega
      have hrow := HROW.out
      rw [hkl, shP_all] at hrow
      clear HROW hkl
      have HROW := Lib.hid hrow; clear hrow
      go_wp2_with fail
      go_ret
      refine ⟨_, rfl, by simpa [intCells, HSL.out] using HROW.out, by simpa using hb0, HC.out⟩
end
end Go.Proofs.Ytchledddgmbndaa
namespace Go.Aig
/-- how many bits of a word move a word of a width by less than it -/
def stepsN (w bits : Nat) : Nat := (List.range bits).countP fun k => decide (2 ^ k < w)
theorem stepsN_at {w bits k : Nat} (h : ∀ j, j < k → 2 ^ j < w) (hk : k ≤ bits) (he : k = bits ∨ w ≤ 2 ^ k) : stepsN w bits = k := by
  obtain ⟨m, rfl⟩ : ∃ m, bits = k + m := ⟨bits - k, by omega⟩
  unfold stepsN
  rw [List.range_add, List.countP_append]
  have h1 : (List.range k).countP (fun k => decide (2 ^ k < w)) = k := by
    rw [List.countP_eq_length.2 (fun a ha => decide_eq_true (h a (List.mem_range.1 ha))), List.length_range]
  have h2 : ((List.range m).map (k + ·)).countP (fun k => decide (2 ^ k < w)) = 0 := by
    rw [List.countP_eq_zero]
    intro a ha
    obtain ⟨j, hj, rfl⟩ := List.mem_map.1 ha
    rcases he with e | e
    · have := List.mem_range.1 hj; omega
    · have : 2 ^ k ≤ 2 ^ (k + j) := Nat.pow_le_pow_right (by omega) (by omega)
      simp; omega
  rw [h1, h2]
  rfl
/-- the error of Fixed -/
def fixE (side : Nat) (x : List Int) (n : Int) : Nat := if side ≠ 1 ∧ side ≠ 2 then 251 else if rightB x.length = false then 250 else if n < 0 then 2 else 0
/-- a word turned -/
def turnL (x : List Int) (n : Int) : List Int := let k := (n.emod x.length).toNat; x.drop k ++ x.take k
end Go.Aig
namespace Go.Proofs.Ytchledddgmbndaa
open Go.RowKit Go.Mem Go.Aig
theorem WNew.since {w w1 w2 : World} {v : Value} {xs : List Value} (h : WNew w1 v xs w2) (hc : Ch [] w w1) : WNew w v xs w2 := ⟨h.1, fun q hq => Nat.le_trans hc.size (h.2.1 q hq), hc.trans h.2.2 (by simp)⟩
section
variable {w : World}
set_option maxRecDepth 100000 in
set_option maxHeartbeats 1000000 in
theorem steps25_is (n m : Nat) (_hn : n ≤ 16) (hm : m ≤ 16) : Calls Try.prog 93 #[.int .i64 n, .int .i64 m] w fun e w' => e = .returned (.int .i64 (stepsN n m)) ∧ w = w' := by
  go_enter Try.func93, Try.ntmps93
  go_wp2_with fail
  go_loopw [5] (fun i wr => ∃ k : Nat, k ≤ m ∧ i = .int .i64 k ∧ wr = w ∧ ∀ j, j < k → 2 ^ j < n) (fun i _ => m - (intOf i).toNat)
  case atStart => exact ⟨0, by omega, rfl, rfl, by omega⟩
  case round =>
    obtain ⟨k, hk, rfl, rfl, hj⟩ := hrel
    by_cases hkm : k < m
    · have hpw : (2 : Nat) ^ k ≤ 2 ^ 16 := Nat.pow_le_pow_right (by omega) (by omega)
      have hpc : ((2 ^ k : Nat) : Int) = (2 : Int) ^ k := by push_cast; rfl
      have hw : wrap64 ((2 : Int) ^ k) = ((2 ^ k : Nat) : Int) := by rw [← hpc]; exact IntWalk.wrap64_in _ ⟨Int.le_trans (by decide) (Int.natCast_nonneg _), Int.le_trans (Int.ofNat_le.2 hpw) (by decide)⟩
      by_cases hlt : 2 ^ k < n
      · have d : decide (wrap64 ((2 : Int) ^ k) < n) = true := by rw [hw]; exact decide_eq_true (by omega)
        clear hw hpc hpw
        have HJ := Lib.hid hj; clear hj
        have HLT := Lib.hid hlt; clear hlt
        go_wp2_with fail
        go_roundw
        case rel => exact ⟨k + 1, by omega, by go_num, by trivial, fun j hj => (by omega : j < k ∨ j = k).elim (HJ.out j) (fun e => e ▸ HLT.out)⟩
        case measure => simp [intOf]; omega
      · have d : decide (wrap64 ((2 : Int) ^ k) < n) = false := by rw [hw]; exact decide_eq_false (by omega)
        have hs := stepsN_at hj hk (.inr (by omega))
        have HS := Lib.hid hs
        clear hs hj hw hpc hpw hlt
        go_wp2_with fail
        go_ret
        exact ⟨by simp [HS.out], rfl⟩
    · have hs := stepsN_at hj hk (.inl (by omega))
      have HS := Lib.hid hs
      clear hs hj
      go_wp2_with fail
      go_ret
      exact ⟨by simp [HS.out], rfl⟩
set_option maxRecDepth 100000 in
set_option maxHeartbeats 1000000 in
theorem Steps_is (n m : Int) : Calls Try.prog 44 #[.int .i64 n, .int .i64 m] w fun e w' => e = .returned (.tuple #[.int .i64 (if rightB n && rightB m then stepsN n.toNat m.toNat else 0 : Nat), .int .i64 (if rightB n && rightB m then 0 else 250 : Nat)]) ∧ w = w' := by
  have hR1 := right25_is (w := w) n
  have hR2 := right25_is (w := w) m
  cases hn : rightB n
  · rw [hn] at hR1
    clear hR2
    go_enter Try.func44, Try.ntmps44
    go_wp2_with fail
    refine hR1.mono ?_
    rintro e w' ⟨rfl, rfl⟩
    go_wp2_with fail
    go_ret2
    exact ⟨rfl, rfl⟩
  · cases hm : rightB m
    · rw [hn] at hR1
      rw [hm] at hR2
      go_enter Try.func44, Try.ntmps44
      go_wp2_with fail
      refine hR1.mono ?_
      rintro e w' ⟨rfl, rfl⟩
      go_wp2_with fail
      refine hR2.mono ?_
      rintro e w' ⟨rfl, rfl⟩
      go_wp2_with fail
      go_ret2
      exact ⟨rfl, rfl⟩
    · rw [hn] at hR1
      rw [hm] at hR2
      unfold rightB at hn hm
      simp only [Bool.and_eq_true, decide_eq_true_eq] at hn hm
      obtain ⟨n, rfl⟩ : ∃ k : Nat, n = k := ⟨n.toNat, by omega⟩
      obtain ⟨m, rfl⟩ : ∃ k : Nat, m = k := ⟨m.toNat, by omega⟩
      have HS := Lib.hid (steps25_is (w := w) n m (by omega) (by omega))
      go_enter Try.func44, Try.ntmps44
      go_wp2_with fail
      refine hR1.mono ?_
      rintro e w' ⟨rfl, rfl⟩
      go_wp2_with fail
      refine hR2.mono ?_
      rintro e w' ⟨rfl, rfl⟩
      go_wp2_with fail
      refine HS.out.mono ?_
      rintro e w' ⟨rfl, rfl⟩
      go_wp2_with fail
      go_ret2
      exact ⟨rfl, rfl⟩
set_option maxRecDepth 100000 in
set_option maxHeartbeats 2000000 in
theorem Fixed_is {side : Nat} {xa : Option Addr} {xl : List Int} (xc : Nat) (n : Int) (hS : Sl w xa xl) (hl : xl.length ≤ 1000000) :
    Calls Try.prog 39 #[.int .u8 side, .slice xa xl.length xc, .int .i64 n] w fun e w' => ∃ v, e = .returned (.tuple #[v, .int .i64 (fixE side xl n)]) ∧ WNew w v (intCells (if fixE side xl n = 0 then shL side xl (min n.toNat xl.length) else [])) w' := by
  have hR := right25_is (w := w) xl.length
  by_cases hs : side = 1 ∨ side = 2
  · have hat := fun (W : World) (mb : Nat) (h : UMap W mb sides25) => (sides_at h hs).2
    have hE : fixE side xl n = if rightB xl.length = false then 250 else if n < 0 then 2 else 0 := by unfold fixE; rw [if_neg (by omega)]
    rw [hE]
    clear hE
    generalize (if side = 1 then 119 else 120) = fid at hat
    have HAT := Lib.hid hat; clear hat
    cases hr : rightB xl.length
    · rw [if_pos rfl, if_neg (by omega)]
      have hRR := fun (W : World) => right25_is (w := W) xl.length
      rw [hr] at hRR
      clear hR hr
      go_enter Try.func39, Try.ntmps39
      go_wp2_with fail
      refine moves25_is.mono ?_
      rintro e w1 ⟨mb, rfl, hum, hc1⟩
      have h7 := HAT.out w1 mb hum
      have HC1 := Lib.hid hc1; clear hc1 hum
      go_wp2_with fail
      refine (hRR _).mono ?_
      rintro e w2 ⟨rfl, rfl⟩
      go_wp2_with fail
      go_ret2
      exact ⟨_, rfl, WNew.nil HC1.out⟩
    · have hRR := fun (W : World) => right25_is (w := W) xl.length
      rw [hr] at hRR
      clear hR
      rw [if_neg (by simp)]
      by_cases hn : n < 0
      · rw [if_pos hn, if_neg (by omega)]
        have d : decide (n < 0) = true := decide_eq_true hn
        clear hr
        go_enter Try.func39, Try.ntmps39
        go_wp2_with fail
        refine moves25_is.mono ?_
        rintro e w1 ⟨mb, rfl, hum, hc1⟩
        have h7 := HAT.out w1 mb hum
        have HC1 := Lib.hid hc1; clear hc1 hum
        go_wp2_with fail
        refine (hRR _).mono ?_
        rintro e w2 ⟨rfl, rfl⟩
        go_wp2_with fail
        go_ret2
        exact ⟨_, rfl, WNew.nil HC1.out⟩
      · rw [if_neg hn, if_pos rfl]
        have d : decide (n < 0) = false := decide_eq_false hn
        have hSH := fun (W : World) (hc : Ch [] w W) => shifted_is (w := W) hs xc (min n.toNat xl.length) (hS.ch hc (by simp)) hl (by omega)
        have hmn := min_ii n xl.length
        rw [show min n (xl.length : Int) = ((min n.toNat xl.length : Nat) : Int) by omega] at hmn
        generalize min n.toNat xl.length = q at *
        have HSH := Lib.hid hSH; clear hSH hS
        clear hr hs
        go_enter Try.func39, Try.ntmps39
        go_wp2_with fail
        refine moves25_is.mono ?_
        rintro e w1 ⟨mb, rfl, hum, hc1⟩
        have h7 := HAT.out w1 mb hum
        have HC1 := Lib.hid hc1; clear hc1 hum
        go_wp2_with fail
        refine (hRR _).mono ?_
        rintro e w2 ⟨rfl, rfl⟩
        go_wp2_with fail
        refine (HSH.out _ HC1.out).mono ?_
        rintro e w3 ⟨v, rfl, hv⟩
        obtain ⟨va, vc, rfl⟩ := row.shape hv.1
        have HV := Lib.hid hv; clear hv
        go_wp2_with fail
        go_ret2
        exact ⟨_, rfl, HV.out.since HC1.out⟩
  · have hat := fun (W : World) (mb : Nat) (h : UMap W mb sides25) => (sides_no h (side := side) (by omega)).2
    have hE : fixE side xl n = 251 := by unfold fixE; rw [if_pos (by omega)]
    rw [hE, if_neg (by omega)]
    clear hE hR
    have HAT := Lib.hid hat; clear hat
    go_enter Try.func39, Try.ntmps39
    go_wp2_with fail
    refine moves25_is.mono ?_
    rintro e w1 ⟨mb, rfl, hum, hc1⟩
    have h7 := HAT.out w1 mb hum
    have HC1 := Lib.hid hc1; clear hc1 hum
    go_wp2_with fail
    go_ret2
    exact ⟨_, rfl, WNew.nil HC1.out⟩
end
end Go.Proofs.Ytchledddgmbndaa
namespace Go.Proofs.Ytchledddgmbndaa
open Go.RowKit Go.Mem Go.Aig
section
variable {w : World}
theorem run_app_zeros (w : World) (ty : TypeId) (n : Nat) (h0 : 0 < n) (hn : n ≤ 1000000) : ∃ c W, (Builtin.append_ #[29, 3] ty #[.slice none 0 0, .int .i64 n]).run Try.prog w = .ok (.slice (some ⟨w.heap.size, 0, none⟩) n c) W ∧ row W 34 1 (.slice (some ⟨w.heap.size, 0, none⟩) 0 c) 0 [] ∧ Ch [] w W ∧ n ≤ c ∧ c ≤ maxLen := by
  obtain ⟨i, hi, hz, hs, hb⟩ := info_parts infoRef
  have hr := Go.Lib.run_append_nil_zeros (P := Try.prog) w 29 3 ty 34 i (.int .i64 0) .i64 .i64 Try.underlying29 Try.underlying3 hi hz n h0 (by rw [hs]; omega) (by omega) (by rw [hb]; omega)
  have h1 := grownCap_ge w n 0 34
  have h2 := grownCap_le_maxLen w n 0 34 (by unfold maxLen; omega)
  refine ⟨_, _, hr, ⟨rfl, .inr ⟨_, _, _, rfl, Nat.zero_le _, heap_alloc_new w.drew _, Nat.zero_le _, h2, ?_, by simp⟩⟩, ((Ch.refl [] w).drew).alloc _, h1, h2⟩
  simp [Value.cells, Builtin.zeroCells]
  omega
set_option maxRecDepth 100000 in
set_option maxHeartbeats 2000000 in
theorem Grow_nil (n : Nat) (h0 : 0 < n) (hn : n ≤ 1000000) : Calls Try.prog 125 #[.slice none 0 0, .int .i64 n] w fun e w' => ∃ v, e = .returned v ∧ row w' 34 1 v 0 [] ∧ (∀ q ∈ v.ownBlock.toList, w.heap.size ≤ q) ∧ Ch [] w w' := by
  obtain ⟨c, W, hr, hrow, hch, h1, h2⟩ := run_app_zeros w 29 n h0 hn
  have HROW := Lib.hid hrow; clear hrow
  have HCH := Lib.hid hch; clear hch
  go_enter Try.func125, Try.ntmps125
  have HR := Lib.hid hr; clear hr
  go_wp2_with (at_builtin; go_loud (refine Go.Lib.wpList_append_run w rfl _ _ _ _ rfl (.slice none 0 0) (.int .i64 n) rfl rfl _ _ HR.out ?_))
  go_ret
  exact ⟨_, rfl, HROW.out, by simp, HCH.out⟩
/-- pieces that lie in memory, side by side as the slice's elements -/
structure Pcs (w : World) (q : Nat) (ps : List (Addr × List Int × Nat)) : Prop where
  hd : ∀ (k : Nat) (p : Addr) (l : List Int) (c : Nat), ps[k]? = some (p, l, c) → w.cell? ⟨q, k, none⟩ = some (.slice (some p) l.length c)
  cl : ∀ (k : Nat) (p : Addr) (l : List Int) (c : Nat), ps[k]? = some (p, l, c) → ∀ j u, (intCells l)[j]? = some u → w.cell? (p.add j) = some u
  cp : ∀ (k : Nat) (p : Addr) (l : List Int) (c : Nat), ps[k]? = some (p, l, c) → l.length ≤ c
  qlt : q < w.heap.size
def pcsL (ps : List (Addr × List Int × Nat)) : List Int := ps.flatMap fun x => x.2.1
theorem pcsL_succ {ps : List (Addr × List Int × Nat)} {k : Nat} {p : Addr} {l : List Int} {c : Nat} (h : ps[k]? = some (p, l, c)) : pcsL (ps.take (k + 1)) = pcsL (ps.take k) ++ l := by
  unfold pcsL
  rw [List.take_add_one, h]
  simp
theorem pcsL_le (ps : List (Addr × List Int × Nat)) (k : Nat) : (pcsL (ps.take k)).length ≤ (pcsL ps).length := by
  have e : pcsL ps = pcsL (ps.take k) ++ pcsL (ps.drop k) := by
    unfold pcsL; rw [← List.flatMap_append, List.take_append_drop]
  rw [e, List.length_append]; omega
theorem Pcs.ch {w W : World} {q : Nat} {ps : List (Addr × List Int × Nat)} (h : Pcs w q ps) (hc : Ch [] w W) : Pcs W q ps :=
  ⟨fun k p l c hk => (hc.cell (p := ⟨q, k, none⟩) h.qlt (by simp)).trans (h.hd k p l c hk), fun k p l c hk j u hu => (hc.cell (cell_lt (h.cl k p l c hk j u hu)) (by simp)).trans (h.cl k p l c hk j u hu), h.cp, Nat.lt_of_lt_of_le h.qlt hc.size⟩
set_option maxRecDepth 100000 in
set_option maxHeartbeats 4000000 in
theorem Ccref_is {q : Nat} {ps : List (Addr × List Int × Nat)} (n c : Nat) (h : Pcs w q ps) (hn : ps.length = n) (hnc : n ≤ 1000) (h1 : 0 < (pcsL ps).length) (h2 : (pcsL ps).length ≤ 1000000) :
    Calls Try.prog 92 #[.slice (some ⟨q, 0, none⟩) n c] w fun e w' => ∃ v, e = .returned v ∧ WNew w v (intCells (pcsL ps)) w' := by
  have HN := fun W => Grow_nil (w := W) (pcsL ps).length h1 h2
  have H := Lib.hid h; clear h
  go_enter Try.func92, Try.ntmps92
  go_wp2_with fail
  go_loopw [3, 11] (fun s i wr => ∃ k : Nat, k ≤ n ∧ i = .int .i64 k ∧ s = .int .i64 (pcsL (ps.take k)).length ∧ wr = w) (fun _ i _ => n - (intOf i).toNat)
  case atStart => exact ⟨0, by omega, rfl, by simp [pcsL], rfl⟩
  case round =>
    obtain ⟨k, hk, rfl, rfl, hww⟩ := hrel
    subst wr
    have hle := pcsL_le ps k
    by_cases hlt : k < n
    · obtain ⟨⟨p, l, lc⟩, hp⟩ : ∃ x, ps[k]? = some x := ⟨_, List.getElem?_eq_getElem (by omega)⟩
      have c0 := H.out.hd k p l lc hp
      have hsu := pcsL_succ hp
      have hle2 := pcsL_le ps (k + 1)
      rw [hsu, List.length_append] at hle2
      have HSU := Lib.hid hsu; clear hsu
      generalize hA : (pcsL (ps.take k)).length = A at *
      have hnn : decide ((A : Int) + l.length < 0) = false := decide_eq_false (by omega)
      go_wp2_with fail
      go_roundw
      case rel => exact ⟨k + 1, by omega, by go_num, by rw [HSU.out, List.length_append, hA]; push_cast; rfl, by trivial⟩
      case measure => simp [intOf]; omega
    · have hkn : k = n := by omega
      have hall : ps.take k = ps := List.take_of_length_le (by omega)
      rw [hall] at hle ⊢
      clear hall hkn
      have HNN := Lib.hid HN; clear HN
      go_wp2_with fail
      refine (HNN.out _).mono ?_
      rintro e w1 ⟨v, rfl, hrow, hlo, hch⟩
      have HROW := Lib.hid hrow; clear hrow
      have HLO := Lib.hid hlo; clear hlo
      have HCH := Lib.hid hch; clear hch hle
      clear hlt
      go_wp2_with fail
      go_loopw [6, 27] (fun o i wr => ∃ k : Nat, k ≤ n ∧ i = .int .i64 k ∧ Ch [] w wr ∧ row wr 34 1 o (pcsL (ps.take k)).length (intCells (pcsL (ps.take k))) ∧ ∀ q ∈ o.ownBlock.toList, w.heap.size ≤ q) (fun _ i _ => n - (intOf i).toNat)
      case atStart => exact ⟨0, by omega, rfl, HCH.out, by simpa [pcsL, intCells] using HROW.out, HLO.out⟩
      case round =>
        obtain ⟨k, hk, rfl, hc, hrow, hlo⟩ := hrel
        obtain ⟨oa, oc, rfl⟩ := row.shape hrow
        by_cases hlt : k < n
        · obtain ⟨⟨p, l, lc⟩, hp⟩ : ∃ x, ps[k]? = some x := ⟨_, List.getElem?_eq_getElem (by omega)⟩
          have hP := H.out.ch hc
          have c0 := hP.hd k p l lc hp
          have hcl := hP.cl k p l lc hp
          have hcp := hP.cp k p l lc hp
          have hsu := pcsL_succ hp
          have hle2 := pcsL_le ps (k + 1)
          rw [hsu, List.length_append] at hle2
          have HSU := Lib.hid hsu; clear hsu
          have h1o : ∀ u ∈ intCells l, u.oneCell' = true := fun u hu => by
            obtain ⟨r, _, rfl⟩ := List.mem_map.1 hu
            rfl
          have HCL := Lib.hid hcl; clear hcl hp hP
          have H1O := Lib.hid h1o; clear h1o
          generalize hA : pcsL (ps.take k) = A at *
          have HA := Lib.hid hA; clear hA
          have HRA := Lib.hid hrow; clear hrow
          have HC := Lib.hid hc; clear hc
          have HLO2 := Lib.hid hlo; clear hlo
          go_wp2_with (at_builtin; go_loud (refine wpList_append_row slRefs rfl _ _ rfl (v := .slice oa A.length oc) (n := A.length) (xs := intCells A) rfl HRA.out (ad := p) (m := l.length) (c := lc) (news := intCells l) rfl (by simp [intCells]) HCL.out H1O.out (by omega) (by omega) ?_; intro v' w4 hown4 hC4 hf4; have HO4 := Lib.hid hown4; clear hown4; have HC4 := Lib.hid hC4; clear hC4; have HF4 := Lib.hid hf4; clear hf4))
          go_roundw
          case rel =>
            obtain ⟨q1, q2⟩ := app_step HC.out (Ch.refl [] wr) HLO2.out HC4.out HF4.out
            refine ⟨k + 1, by omega, by go_num, q1, ?_, q2⟩
            rw [HSU.out, List.length_append]
            have := HO4.out
            simpa [intCells] using this
          case measure => simp [intOf]; omega
        · have hkn : k = n := by omega
          have hall : ps.take k = ps := List.take_of_length_le (by omega)
          rw [hall] at hrow hlo ⊢
          have HRA := Lib.hid hrow; clear hrow hall hkn
          have HC := Lib.hid hc; clear hc
          have HLO2 := Lib.hid hlo; clear hlo
          go_wp2_with fail
          go_ret
          exact ⟨_, rfl, by simpa [intCells] using HRA.out, HLO2.out, HC.out⟩
theorem pcs_two {w : World} {q : Nat} {p1 p2 : Addr} {l1 l2 : List Int} {n1 n2 c1 c2 : Nat} (hb : blk w q [.slice (some p1) n1 c1, .slice (some p2) n2 c2]) (h1 : l1.length = n1) (h2 : l2.length = n2) (k1 : n1 ≤ c1) (k2 : n2 ≤ c2)
    (e1 : ∀ j u, (intCells l1)[j]? = some u → w.cell? (p1.add j) = some u) (e2 : ∀ j u, (intCells l2)[j]? = some u → w.cell? (p2.add j) = some u) : Pcs w q [(p1, l1, c1), (p2, l2, c2)] := by
  subst h1 h2
  refine ⟨fun k p l c hk => ?_, fun k p l c hk => ?_, fun k p l c hk => ?_, hb.lt⟩ <;> rcases k with _ | _ | k
  · cases hk; exact hb.cell rfl
  · cases hk; exact hb.cell rfl
  · simp at hk
  · cases hk; exact e1
  · cases hk; exact e2
  · simp at hk
  · cases hk; exact k1
  · cases hk; exact k2
  · simp at hk
set_option maxRecDepth 100000 in
set_option maxHeartbeats 4000000 in
theorem Turn_no {xa : Option Addr} {xl : List Int} (xc : Nat) (n : Int) (hr : rightB xl.length = false) :
    Calls Try.prog 43 #[.slice xa xl.length xc, .int .i64 n] w fun e w' => e = .returned (.tuple #[.slice none 0 0, .int .i64 250]) ∧ w = w' := by
  have hRR := fun (W : World) => right25_is (w := W) xl.length
  rw [hr] at hRR
  clear hr
  go_enter Try.func43, Try.ntmps43
  go_wp2_with fail
  refine (hRR _).mono ?_
  rintro e w2 ⟨rfl, rfl⟩
  go_wp2_with fail
  go_ret2
  exact ⟨rfl, rfl⟩
set_option maxRecDepth 100000 in
set_option maxHeartbeats 4000000 in
theorem Turn_yes {xa : Option Addr} {xl : List Int} (xc : Nat) (n : Int) (hS : Sl w xa xl) (hcap : xl.length ≤ xc) (hr : rightB xl.length = true) (_hb : -9223372036854775808 ≤ n ∧ n ≤ 9223372036854775807) :
    Calls Try.prog 43 #[.slice xa xl.length xc, .int .i64 n] w fun e w' => ∃ v, e = .returned (.tuple #[v, .int .i64 0]) ∧ WNew w v (intCells (turnL xl n)) w' := by
  have hRR := fun (W : World) => right25_is (w := W) xl.length
  rw [hr] at hRR
  unfold rightB at hr
  simp only [Bool.and_eq_true, decide_eq_true_eq] at hr
  go_enter Try.func43, Try.ntmps43
  go_wp2_with fail
  refine (hRR _).mono ?_
  rintro e w2 ⟨rfl, rfl⟩
  go_wp2_with fail
  obtain ⟨L, hL⟩ : ∃ L, L = xl.length := ⟨_, rfl⟩
  obtain ⟨k, hk⟩ : ∃ k : Nat, k = (n.emod xl.length).toNat := ⟨_, rfl⟩
  have hkl : k < L := by have h1 := Int.emod_nonneg n (show (xl.length : Int) ≠ 0 by omega); have h2 := Int.emod_lt_of_pos n (show (0 : Int) < xl.length by omega); have e : n.emod xl.length = n % xl.length := rfl; rw [e] at hk; omega
  have ew : (wrap64 (n.tmod ↑xl.length + ↑xl.length)).tmod ↑xl.length = (k : Int) := by
    have h3 := Int.tmod_lt_of_pos n (show (0 : Int) < xl.length by omega)
    have h4 := Int.lt_tmod_of_pos n (show (0 : Int) < xl.length by omega)
    rw [IntWalk.wrap64_in _ (by omega), Int.tmod_eq_emod_of_nonneg (by omega), Int.add_emod_right]
    have e : n.emod xl.length = n % xl.length := rfl
    rw [e] at hk
    have h1 := Int.emod_nonneg n (show (xl.length : Int) ≠ 0 by omega)
    rw [hk, Int.toNat_of_nonneg h1]
    rw [Int.tmod_eq_emod]
    split <;> simp
  rw [ew]
  obtain ⟨xb, xo, rfl, hcl⟩ := hS.at (by omega)
  rw [hL] at hkl
  have HK := Lib.hid hk
  have HCL := Lib.hid hcl
  have HS := Lib.hid hS
  clear hk ew hL hcl hS
  refine Ord.St.door (fun _ => True) [.fl, .fl, .fl, .fl, .fl, .fl, .ef, .ef, .fl, .fl] [0, 0, 3, 0, 0, 24, 63, 127, 255, 511] [0, 1, 2, 3, 4, 5, 6, 7, 8, 9] mixed (by kernel_rfl) rfl ?_
  refine Ord.St.fl2 (T' := ?_) 0 [1, 2, 3, 4, 5, 6, 7, 8, 9] _ _ rfl (by kernel_rfl) rfl rfl rfl rfl (fun K w' hk => ?_) ?_
  rotate_left
  · go_step; exact hk
  refine Ord.St.fl2 (T' := ?_) 1 [2, 3, 4, 5, 6, 7, 8, 9] _ _ rfl (by kernel_rfl) rfl rfl rfl rfl (fun K w' hk => ?_) ?_
  rotate_left
  · go_step; exact hk
  refine Ord.St.fl2 (T' := ?_) 2 [3, 4, 5, 6, 7, 8, 9] _ _ rfl (by kernel_rfl) rfl rfl rfl rfl (fun K w' hk => ?_) ?_
  rotate_left
  · go_step; exact hk
  refine Ord.St.fl2 (T' := ?_) 3 [4, 5, 6, 7, 8, 9] _ _ rfl (by kernel_rfl) rfl rfl rfl rfl (fun K w' hk => ?_) ?_
  rotate_left
  · go_step; exact hk
  refine Ord.St.fl2 (T' := ?_) 4 [5, 6, 7, 8, 9] _ _ rfl (by kernel_rfl) rfl rfl rfl rfl (fun K w' hk => ?_) ?_
  rotate_left
  · go_step; exact hk
  refine Ord.St.fl2 (T' := ?_) 5 [6, 7, 8, 9] _ _ rfl (by kernel_rfl) rfl rfl rfl rfl (fun K w' hk => ?_) ?_
  rotate_left
  · go_step; exact hk
  refine Ord.St.ef 6 [7, 8, 9] _ rfl (by kernel_rfl) (fun K hK => ?_)
  go_wp2_with fail
  refine ⟨rfl, hK _ _ ?_⟩; clear hK K
  refine Ord.St.ef 7 [8, 9] _ rfl (by kernel_rfl) (fun K hK => ?_)
  go_wp2_with fail
  refine calls_named fun W hW => ?_
  have hb : blk W w.heap.size [.slice (some ⟨xb, xo + k, none⟩) (xl.length - k) (xc - k), .slice (some ⟨xb, xo, none⟩) k xc] := by rw [hW]; exact blk.new' _ _ rfl
  have hc : Ch [] w W := by rw [hW]; first | exact ((Ch.refl [] w).alloc _) | exact ((Ch.refl [] w).alloc _).drew | exact ((Ch.refl [] w).alloc _).drew.drew | exact ((Ch.refl [] w).drew.alloc _)
  clear hW
  have hcell : ∀ (i : Nat) (x : Int), xl[i]? = some x → W.cell? ⟨xb, xo + i, none⟩ = some (.int .i64 x) := fun i x hx => (hc.cell (cell_lt (HCL.out i x hx)) (by simp)).trans (HCL.out i x hx)
  have hP : Pcs W w.heap.size [(⟨xb, xo + k, none⟩, xl.drop k, xc - k), (⟨xb, xo, none⟩, xl.take k, xc)] := pcs_two hb (by simp) (by simp; omega) (by omega) (by omega) (fun j u hu => by rw [Addr.add_lit]; simp only [intCells, List.getElem?_map, List.getElem?_drop, Option.map_eq_some_iff] at hu; obtain ⟨y, hy, rfl⟩ := hu; rw [Nat.add_assoc]; exact hcell _ _ hy) (fun j u hu => by rw [Addr.add_lit]; simp only [intCells, List.getElem?_map, Option.map_eq_some_iff] at hu; obtain ⟨y, hy, rfl⟩ := hu; rw [List.getElem?_take] at hy; split at hy; exact hcell _ _ hy; cases hy)
  have hall : pcsL [(⟨xb, xo + k, none⟩, xl.drop k, xc - k), (⟨xb, xo, none⟩, xl.take k, xc)] = xl.drop k ++ xl.take k := by simp [pcsL]
  have hCC := Ccref_is 2 2 hP rfl (by omega) (by rw [hall]; simp; omega) (by rw [hall]; simp; omega)
  rw [hall] at hCC
  have HCC := Lib.hid hCC
  have HC := Lib.hid hc
  clear hb hcell hP hall hCC hc
  refine HCC.out.mono ?_
  rintro e w9 ⟨v, rfl, hv⟩
  obtain ⟨va, vc, rfl⟩ := row.shape hv.1
  have HV := Lib.hid (hv.since HC.out); clear hv
  go_wp2_with fail
  refine ⟨rfl, hK _ _ ?_⟩; clear hK K
  refine Ord.St.fl2 (T' := ?_) 8 [9] _ _ rfl (by kernel_rfl) rfl rfl rfl rfl (fun K w' hk => ?_) ?_
  rotate_left
  · go_step; exact hk
  refine Ord.St.fl2 (T' := ?_) 9 [] _ _ rfl (by kernel_rfl) rfl rfl rfl rfl (fun K w' hk => ?_) ?_
  rotate_left
  · go_step; exact hk
  refine Ord.St.nil ?_
  go_wp2_with fail
  go_ret2
  refine ⟨_, rfl, ?_⟩
  unfold turnL
  rw [← HK.out]
  exact HV.out
end
end Go.Proofs.Ytchledddgmbndaa
namespace Go.Aig
/-- a choice by a bit that is known: a if it is false, b if it is true -/
def muxOf (c : Nat) (G : Gra) (a b : Nat) : Res := if c < 2 * G.nodes.length then rMux G c b a else (G, 0, 201)
theorem full_mux (c : Nat) : Full2 (muxOf c) := fun G h a b ha hb => by
  unfold muxOf
  split
  · rename_i hc; exact rMux_full h hc hb ha
  · exact ⟨⟨h, .refl _, by have := h.wf.pos; show 0 < 2 * G.nodes.length; omega, .inr rfl⟩, fun _ => rfl⟩
theorem eachF_app (op : Mk → Nat → Nat → Mk × Nat) (s : Mk) (l m : List (Nat × Nat)) : eachF op s (l ++ m) = m.foldl (eachS op) (eachF op s l) := by unfold eachF; rw [List.foldl_append]
theorem eachS_bad (f : Gra → Nat → Nat → Res) : ∀ (m : List (Nat × Nat)) (q : Mk × List Nat), q.1.2 ≠ 0 → (m.foldl (eachS (rop f)) q).1 = q.1
  | [], _, _ => rfl
  | p :: m, q, h => by
    rw [List.foldl_cons]
    have e : (eachS (rop f) q p).1 = q.1 := by unfold eachS rop; rw [rstep_bad h]
    rw [eachS_bad f m _ (by rw [e]; exact h), e]
theorem eachF_bad (f : Gra → Nat → Nat → Res) (s : Mk) (l m : List (Nat × Nat)) (h : (eachF (rop f) s l).1.2 ≠ 0) : (eachF (rop f) s (l ++ m)).1 = (eachF (rop f) s l).1 := by
  rw [eachF_app, eachS_bad f m _ h]
theorem eachF_len (op : Mk → Nat → Nat → Mk × Nat) (s : Mk) (l : List (Nat × Nat)) : (eachF op s l).2.length = l.length := by
  have : ∀ (l : List (Nat × Nat)) (q : Mk × List Nat), (l.foldl (eachS op) q).2.length = q.2.length + l.length := by
    intro l
    induction l with
    | nil => intro q; rfl
    | cons p l ih => intro q; rw [List.foldl_cons, ih]; simp [eachS]; omega
  rw [eachF, this]; simp
/-- what is left of a step: the word, or an error and a graph that has grown -/
structure Step5 (G : Gra) (R : Mk × List Nat) (G1 : Gra) (l : List Nat) (e : Nat) : Prop where
  yes : R.1.2 = 0 → G1 = R.1.1 ∧ l = R.2 ∧ e = 0
  no : R.1.2 ≠ 0 → l = [] ∧ e = R.1.2
  err : R.1.2 = 0 ∨ R.1.2 = 201
  ext : Ext G G1
  ok : Ok G1
end Go.Aig
namespace Go.Mem
theorem wpListIn_append_row {F : Fence} {nF : Nat} {P : Program} {w : World} {ops : Array Oper} {rest : List Oper} {o : Oper} {a : Act} {Q : Exit → Act → World → Prop} {t e : TypeId} {size bytes : Nat} {z : Value} (S : SliceTy P t e size bytes z) (hgd : o.guard = none) (s x : Operand)
    (ho : o.op = .call { callee := .builtin .append, args := #[s, x], argTypes := #[t, t] })
    {v : Value} {n : Nat} {xs : List Value} (hs : a.eval s = v) (hown : row w e size v n xs) {ad : Addr} {m c : Nat} {news : List Value} (hx : a.eval x = .slice (some ad) m c) (hl : news.length = m * size) (hnews : ∀ j u, news[j]? = some u → w.cell? (ad.add j) = some u) (h1 : ∀ u ∈ news, u.oneCell' = true)
    (hbytes : (n + m) * bytes ≤ 140737488355328) (h63 : n + m ≤ 9223372036854775807)
    (h : ∀ v' w', row w' e size v' (n + m) (xs ++ news) → Ch v.ownBlock.toList w w' → (∀ k, v'.ownBlock = some k → v.ownBlock = some k ∨ w.heap.size ≤ k) → wpListIn F nF P ops Q rest (a.put o.dst v') w') : wpListIn F nF P ops Q (o :: rest) a w := by
  refine wpListIn_plain hgd fun K hK => ?_
  obtain ⟨v', w', hr, h2, h3, h4⟩ := run_append_row (P := P) w S o.type v n xs hown ad m c news hl hnews h1 hbytes (by unfold maxLen; omega)
  unfold Oper.wpIn
  refine ⟨by simp [Oper.about, ho, resolve, Target.leads, Sem.run_pure], ?_⟩
  rw [Oper.semAt_plain F _ _ (by rw [ho]; intro c hc'; cases hc')]
  simp [execOp, ho, resolve, invoke, builtin, hs, hx, hr, Result.andThen]
  exact hK _ _ (h v' w' h2 h3 h4)
end Go.Mem
namespace Go.Proofs.Ytchledddgmbndaa
open Go.RowKit Go.Mem Go.Aig
attribute [local go_sem] Oper.semAt_some
/-- what is known between two rounds of step -/
structure E5 (w : World) (g : Nat) (F : List Nat) (c : Nat) (W : World) (v : Value) (Gp : Gra) (l : List Nat) (F' : List Nat) : Prop where
  gin : GIn W g Gp F'
  ch : Ch F w W
  own : ∀ k ∈ F', k ∈ F ∨ w.heap.size + 7 + 2 ≤ k
  map : F'[2]? = F[2]?
  b4 : blk W w.heap.size [.pointer (some ⟨g, 0, none⟩)]
  b5 : blk W (w.heap.size + 1) [.int .i64 c]
  b8 : blk W (w.heap.size + 2) [.slice none 0 0]
  b9 : blk W (w.heap.size + 3) [.int .i64 0]
  b10 : blk W (w.heap.size + 4) [v]
  row : Go.Mem.row W 34 1 v l.length (refsCells l)
  fresh : ∀ k, v.ownBlock = some k → w.heap.size + 7 + 2 ≤ k ∧ k ∉ F'
theorem res2 {fn : Func} {t u : Tmp} {et eu : TypeId} (h : fn.results = #[.cell t et, .cell u eu]) {tmps : Array Value} {P : Program} {w : World} {p q : Addr} {a b : Value} (he : ∀ w, (isAgg et).run P w = .ok false w) (hu : ∀ w, (isAgg eu).run P w = .ok false w) (h1 : tmps.getD t undef = .pointer (some p)) (h2 : tmps.getD u undef = .pointer (some q)) (h3 : w.cell? p = some a) (h4 : w.cell? q = some b) :
    (results fn tmps).run P w = .ok (.tuple #[a, b]) w := by
  rw [Array.getD_eq_getD_getElem?] at h1 h2
  simp [results, h, go_sem, h1, h2, h3, h4, he, hu]
structure I5 (w : World) (g : Nat) (G : Gra) (F : List Nat) (c : Nat) (pre : List (Nat × Nat)) (W : World) : Prop where
  ex : ∃ v Gp l F', eachF (rop (muxOf c)) (G, 0) pre = ((Gp, 0), l) ∧ Ok Gp ∧ Ext G Gp ∧ E5 w g F c W v Gp l F'
structure X5 (w : World) (g : Nat) (G : Gra) (F : List Nat) (c : Nat) (all : List (Nat × Nat)) (W : World) : Prop where
  ex : ∃ Gp F', (eachF (rop (muxOf c)) (G, 0) all).1.2 = 201 ∧ Ok Gp ∧ Ext G Gp ∧ GIn W g Gp F' ∧ Ch F w W ∧ (∀ k ∈ F', k ∈ F ∨ w.heap.size + 7 + 2 ≤ k) ∧ F'[2]? = F[2]? ∧ blk W (w.heap.size + 2) [.slice none 0 0] ∧ blk W (w.heap.size + 3) [.int .i64 (201 : Nat)]
section
variable {w A A' : World} {g c : Nat} {G Gp : Gra} {F F' : List Nat} {v : Value} {l : List Nat}
theorem E5.sep (h : E5 w g F c A v Gp l F') (hl : ∀ k ∈ F, k < w.heap.size) : ∀ k ∈ F', k < w.heap.size ∨ w.heap.size + 7 + 2 ≤ k := fun k hk => (h.own k hk).imp (hl k) id
theorem E5.same (h : E5 w g F c A v Gp l F') (hl : ∀ k ∈ F, k < w.heap.size) (hc : Ch [w.heap.size + 7, w.heap.size + 7 + 1] A A') : E5 w g F c A' v Gp l F' := by
  have hs := h.sep hl
  have hn : ∀ k ∈ F', k ∉ [w.heap.size + 7, w.heap.size + 7 + 1] := fun k hk hm => by have := hs k hk; simp at hm; omega
  refine ⟨h.gin.same hc hn, h.ch.trans hc (fun k hk => .inr (by simp at hk; omega)), h.own, h.map, h.b4.ch hc (by simp; omega), h.b5.ch hc (by simp), h.b8.ch hc (by simp), h.b9.ch hc (by simp), h.b10.ch hc (by simp), h.row.ch hc (fun k hk hm => by have := (h.fresh k hk).1; simp at hm; omega), h.fresh⟩
theorem E5.ch0 (h : E5 w g F c A v Gp l F') (hl : ∀ k ∈ F, k < w.heap.size) (hc : Ch [] A A') : E5 w g F c A' v Gp l F' := h.same hl (hc.mono (by simp))
theorem E5.more (h : E5 w g F c A v Gp l F') (hl : ∀ k ∈ F, k < w.heap.size) (hz : w.heap.size + 7 + 2 ≤ A.heap.size) {G' : Gra} (ht : GTo A g G' F' A') :
    (∃ F1, E5 w g F c A' v G' l F1) ∧ Books (w.heap.size + 7) A A' ∧ ∀ K : List Nat, (∀ k ∈ K, k < w.heap.size ∧ k ∉ F ∨ w.heap.size ≤ k ∧ k < w.heap.size + 7) → Kept K A A' := by
  obtain ⟨F1, h1, h2, h3, h4⟩ := ht
  have hs := h.sep hl
  have hm : ∀ q, w.heap.size ≤ q → q < w.heap.size + 7 + 2 → q ∉ F' := fun q h1 h2 hk => by have := hs q hk; omega
  refine ⟨⟨F1, h1, h.ch.trans h2 (fun k hk => (h.own k hk).imp id (by omega)), fun k hk => ?_, h4.trans h.map, h.b4.ch h2 (hm _ (by omega) (by omega)), h.b5.ch h2 (hm _ (by omega) (by omega)), h.b8.ch h2 (hm _ (by omega) (by omega)), h.b9.ch h2 (hm _ (by omega) (by omega)), h.b10.ch h2 (hm _ (by omega) (by omega)), h.row.ch h2 (fun k hk => (h.fresh k hk).2), fun k hk => ⟨(h.fresh k hk).1, fun hm2 => ?_⟩⟩, Books.of_ch h2 hz (fun k hk => ?_), fun K hK => Kept.of_ch h2 (fun k hk => ?_)⟩
  · exact (h3 k hk).elim (h.own k) (fun e => .inr (by omega))
  · exact (h3 k hm2).elim (h.fresh k hk).2 (fun e => by have := (h.row.lt k hk).2; omega)
  · have := hs k hk; omega
  · rcases hK k hk with e | e
    · refine ⟨by omega, fun hm2 => ?_⟩
      exact (h.own k hm2).elim e.2 (by omega)
    · exact ⟨by omega, hm k e.1 (by omega)⟩
theorem E5.app {va : Option Addr} {vc : Nat} (h : E5 w g F c A (.slice va l.length vc) Gp l F') (hl : ∀ k ∈ F, k < w.heap.size) (hz : w.heap.size + 7 + 2 ≤ A.heap.size) {r : Nat} {o : Obj} {w4 : World} {gb gc : Nat}
    (hrow : Go.Mem.row w4 34 1 (.slice (some ⟨gb, 0, none⟩) (l.length + 1) gc) (l.length + 1) (refsCells l ++ [.int .i64 r])) (hc : Ch (Value.slice va l.length vc).ownBlock.toList (A.alloc o) w4)
    (hf : ∀ k, (Value.slice (some ⟨gb, 0, none⟩) (l.length + 1) gc).ownBlock = some k → (Value.slice va l.length vc).ownBlock = some k ∨ (A.alloc o).heap.size ≤ k) :
    E5 w g F c (w4.setCell ⟨w.heap.size + 4, 0, none⟩ (.slice (some ⟨gb, 0, none⟩) (l.length + 1) gc)) (.slice (some ⟨gb, 0, none⟩) (l.length + 1) gc) Gp (l ++ [r]) F' ∧ Books (w.heap.size + 7) A (w4.setCell ⟨w.heap.size + 4, 0, none⟩ (.slice (some ⟨gb, 0, none⟩) (l.length + 1) gc)) ∧
      ∀ K : List Nat, (∀ k ∈ K, k < w.heap.size ∧ k ∉ F ∨ w.heap.size ≤ k ∧ k < w.heap.size + 7 ∧ k ≠ w.heap.size + 4) → Kept K A (w4.setCell ⟨w.heap.size + 4, 0, none⟩ (.slice (some ⟨gb, 0, none⟩) (l.length + 1) gc)) := by
  have hs := h.sep hl
  have hfresh := h.fresh
  have hA : Ch (Value.slice va l.length vc).ownBlock.toList A w4 := ((Ch.refl _ A).alloc o).trans hc (fun k hk => .inl hk)
  have hA5 : Ch ((Value.slice va l.length vc).ownBlock.toList ++ [w.heap.size + 4]) A (w4.setCell ⟨w.heap.size + 4, 0, none⟩ (.slice (some ⟨gb, 0, none⟩) (l.length + 1) gc)) := (hA.mono (fun k hk => .inl (List.mem_append_left _ hk))).setCell (.inl (by simp)) _
  have hL : ∀ k ∈ (Value.slice va l.length vc).ownBlock.toList ++ [w.heap.size + 4], (w.heap.size + 7 + 2 ≤ k ∧ k ∉ F') ∨ k = w.heap.size + 4 := fun k hk => by
    simp only [List.mem_append, Option.mem_toList, List.mem_singleton] at hk
    exact hk.imp (fun e => hfresh k e) id
  have hgb : (w.heap.size + 7 + 2 ≤ gb ∧ gb ∉ F') := by
    rcases hf gb rfl with h1 | h1
    · exact hfresh gb h1
    · rw [World.size_alloc] at h1
      exact ⟨by omega, fun hk => by have := GIn.lt h.gin gb hk; omega⟩
  have hnot : ∀ k ∈ F', k ∉ (Value.slice va l.length vc).ownBlock.toList ++ [w.heap.size + 4] := fun k hk hk2 => by
    rcases hL k hk2 with h2 | h2
    · exact h2.2 hk
    · have := hs k hk; omega
  have hlow : ∀ q, w.heap.size ≤ q → q < w.heap.size + 7 → q ≠ w.heap.size + 4 → q ∉ (Value.slice va l.length vc).ownBlock.toList ++ [w.heap.size + 4] := fun q h1 h2 h3 hk => by
    rcases hL q hk with e | e <;> omega
  have h4 := h.ch.size
  refine ⟨⟨h.gin.same hA5 hnot, h.ch.trans hA5 (fun k hk => ?_), h.own, h.map, h.b4.ch hA5 (hlow _ (by omega) (by omega) (by omega)), h.b5.ch hA5 (hlow _ (by omega) (by omega) (by omega)), h.b8.ch hA5 (hlow _ (by omega) (by omega) (by omega)), h.b9.ch hA5 (hlow _ (by omega) (by omega) (by omega)), ?_, ?_, fun k hk => ?_⟩, Books.of_ch hA5 hz (fun k hk => by have := hL k hk; omega), fun K hK => Kept.of_ch hA5 fun k hk => ?_⟩
  · have := hL k hk; exact .inr (by omega)
  · refine (h.b10.ch hA (fun hk => ?_)).set (i := 0) _
    have := (hfresh _ (by simpa using hk)).1
    omega
  · rw [show refsCells (l ++ [r]) = refsCells l ++ [.int .i64 r] from by simp [refsCells], List.length_append]
    refine hrow.ch (F := [w.heap.size + 4]) ((Ch.refl _ _).setCell (by simp) _) (fun k hk => ?_)
    cases hk
    simp; omega
  · cases hk
    exact hgb
  · rcases hK k hk with ⟨h1, h2⟩ | ⟨h1, h2, h3⟩
    · refine ⟨by omega, fun hk2 => ?_⟩
      have := hL k hk2; omega
    · exact ⟨by omega, hlow k h1 h2 h3⟩
set_option maxRecDepth 100000 in
set_option maxHeartbeats 4000000 in
theorem step25_is (h : GIn w g G F) (hc : c < 2 * G.nodes.length) {x y : List Nat} {xa ya : Option Addr} (len xc yc : Nat) (hxl : x.length = len) (hyl : y.length = len) (hlen : len ≤ 1000)
    (hx : Sl w xa (x.map fun (r : Nat) => (r : Int))) (hy : Sl w ya (y.map fun (r : Nat) => (r : Int))) (hxa : ∀ k ∈ ablk xa, k ∉ F ∧ k < w.heap.size) (hya : ∀ k ∈ ablk ya, k ∉ F ∧ k < w.heap.size)
    (hxr : ∀ r ∈ x, r < 2 * G.nodes.length) (hyr : ∀ r ∈ y, r < 2 * G.nodes.length) :
    Calls Try.prog 122 #[.pointer (some ⟨g, 0, none⟩), .int .i64 c, .slice xa len xc, .slice ya len yc] w fun e W' => ∃ (v : Value) (G1 : Gra) (l1 : List Nat) (e1 : Nat), e = .returned (.tuple #[v, .int .i64 e1]) ∧ Step5 G (eachF (rop (muxOf c)) (G, 0) (x.zip y)) G1 l1 e1 ∧ GVo w g G1 [] F v l1 W' := by
  have hl := h.lt
  have hok := h.ok
  have hG := hok.small
  have HPAIR := fun W => tpairs_is (w := W) xa ya len xc len yc
  have H := Lib.hid h; clear h
  have HX := Lib.hid hx; clear hx
  have HY := Lib.hid hy; clear hy
  refine (callsIn_wide (n := 4)).1 ?_
  refine callsIn_of_wp_marks Try.func122 rfl trivial ?_ rfl
  simp only [Try.ntmps122, List.size_toArray, List.length_cons, List.length_nil, Nat.reduceAdd, Nat.reduceSub, Array.replicate_succ, Array.replicate_zero, List.push_toArray, List.append_toArray, List.nil_append, List.cons_append]
  refine wpIn_wide.2 ?_
  go_wp2_with fail
  refine (HPAIR _).mono ?_
  rintro e w' ⟨rfl, rfl⟩
  go_wp2_with fail
  refine wp_named fun W0 hW0 => ?_
  have hc0 : Ch [] w W0 := by rw [hW0]; exact (((((((Ch.refl _ _).alloc _).alloc _).alloc _).alloc _).alloc _).alloc _).alloc _
  have hz0 : W0.heap.size = w.heap.size + 7 := by rw [hW0]; simp
  have hb4 : blk W0 w.heap.size [.pointer (some ⟨g, 0, none⟩)] := by rw [hW0]; exact ((((((blk.new' _ _ (by simp)).alloc _).alloc _).alloc _).alloc _).alloc _).alloc _
  have hb5 : blk W0 (w.heap.size + 1) [.int .i64 c] := by rw [hW0]; exact (((((blk.new' _ _ (by simp)).alloc _).alloc _).alloc _).alloc _).alloc _
  have hb8 : blk W0 (w.heap.size + 2) [.slice none 0 0] := by rw [hW0]; exact ((((blk.new' _ _ (by simp)).alloc _).alloc _).alloc _).alloc _
  have hb9 : blk W0 (w.heap.size + 3) [.int .i64 0] := by rw [hW0]; exact (((blk.new' _ _ (by simp)).alloc _).alloc _).alloc _
  have hb10 : blk W0 (w.heap.size + 4) [.slice none 0 0] := by rw [hW0]; exact ((blk.new' _ _ (by simp)).alloc _).alloc _
  have hp1 : blk W0 (w.heap.size + 5) [.slice xa len xc] := by rw [hW0]; exact (blk.new' _ _ (by simp)).alloc _
  have hp2 : blk W0 (w.heap.size + 6) [.slice ya len yc] := by rw [hW0]; exact blk.new' _ _ (by simp)
  clear hW0
  refine (wpIn_wide (n := 4)).1 ?_
  have hseq := tpairs_seq W0 Fence.wide 3 trivial rfl (by omega) len xc yc hxl hyl (hp1.cell (i := 0) rfl) (hp2.cell (i := 0) rfl) (HX.out.keep fun k hk => hc0.block k (hxa k hk).2 (by simp)) (HY.out.keep fun k hk => hc0.block k (hya k hk).2 (by simp))
  have hKok : ∀ k ∈ ((w.heap.size + 5) :: (w.heap.size + 6) :: (ablk xa ++ ablk ya)), k < w.heap.size ∧ k ∉ F ∨ w.heap.size ≤ k ∧ k < w.heap.size + 7 ∧ k ≠ w.heap.size + 4 := fun k hk => by
    simp only [List.mem_cons, List.mem_append] at hk
    rcases hk with rfl | rfl | hk | hk
    · exact .inr ⟨by omega, by omega, by omega⟩
    · exact .inr ⟨by omega, by omega, by omega⟩
    · exact .inl ⟨(hxa k hk).2, (hxa k hk).1⟩
    · exact .inl ⟨(hya k hk).2, (hya k hk).1⟩
  refine wpIn_rangeFunc_P (n := 4) (w.heap.size + 7) hz0 rfl (by omega) rfl trivial (fun args w => tfnvpairs1 args w) hseq ?kb (fun _ => rfl)
    (fun pre W => I5 w g G F c pre W) (fun W => X5 w g G F c (x.zip y) W)
    ?hi ?hix ?h0 ?a1 ?assign ?body ?done ?stop
  case assign =>
    intro q x W K hK
    simp only [pairEnc]
    gi_wp2
    exact hK
  case kb =>
    intro k hk
    have := hKok k hk
    omega
  case hi =>
    rintro pre A A' ⟨v, Gp, l, F', e, o1, o2, h⟩ hc
    exact ⟨⟨v, Gp, l, F', e, o1, o2, h.same hl hc⟩⟩
  case hix =>
    rintro A A' ⟨Gp, F', e, o1, o2, h1, h2, h3, h4, h5, h6⟩ hc
    refine ⟨⟨Gp, F', e, o1, o2, h1.same hc (fun k hk hm => (h3 k hk).elim (fun e => by have := hl k e; simp at hm; omega) (fun e => by simp at hm; omega)), h2.trans hc (fun k hk => .inr (by simp at hk; omega)), h3, h4, h5.ch hc (by simp), h6.ch hc (by simp)⟩⟩
  case h0 =>
    refine ⟨⟨.slice none 0 0, G, [], F, rfl, hok, .refl _, H.out.same hc0 (by simp), hc0.mono (by simp), fun k hk => .inl hk, rfl, hb4, hb5, hb8, hb9, hb10, ⟨rfl, .inl ⟨rfl, rfl⟩⟩, by simp [Value.ownBlock]⟩⟩
  case body =>
    rintro q pre ⟨a, b⟩ W ⟨⟨v, Gp, l, F', he, o1, o2, hE⟩⟩ hWl hpx
    obtain ⟨va, vc, rfl⟩ := row.shape hE.row
    have hpm := List.IsPrefix.subset hpx (List.mem_append_right pre (List.mem_singleton.2 rfl))
    obtain ⟨ha0, hb0⟩ := zip_lt hxr hyr _ hpm
    have ha := o2.lt ha0
    have hb := o2.lt hb0
    have hcc := o2.lt hc
    have hfu := full_mux c Gp o1 a b ha hb
    have hqe : muxOf c Gp a b = rMux Gp c b a := by unfold muxOf; rw [if_pos hcc]
    rw [hqe] at hfu
    have hln : l.length ≤ 1000 := by
      have h1 := eachF_len (rop (muxOf c)) (G, 0) pre
      rw [he] at h1
      have h2 := hpx.length_le
      rw [List.length_append, List.length_zip] at h2
      simp at h1 h2
      omega
    have hstep : eachF (rop (muxOf c)) (G, 0) (pre ++ [(a, b)]) = ((rop (muxOf c) (Gp, 0) a b).1, l ++ [(rop (muxOf c) (Gp, 0) a b).2]) := by rw [eachF_snoc, he]; rfl
    have hM := Mux_g hE.gin c b a (by have := o1.small; omega) (by have := o1.small; omega) (by have := o1.small; omega)
    rw [doMux_r hcc hb ha] at hM
    unfold rop at hstep
    simp only at hstep
    rw [hqe] at hstep
    obtain ⟨Q, hQ⟩ : ∃ Q, Q = rMux Gp c b a := ⟨_, rfl⟩
    rw [← hQ] at hM hfu hstep
    have hbad := fun m => eachF_bad (muxOf c) (G, 0) (pre ++ [(a, b)]) m
    obtain ⟨rest, hrest⟩ := hpx
    have c4 := hE.b4.cell (i := 0) rfl
    have c5 := hE.b5.cell (i := 0) rfl
    have HE := Lib.hid hE; clear hE
    have HFU := Lib.hid hfu; clear hfu
    have HM := Lib.hid hM; clear hM
    have HREST := Lib.hid hrest; clear hrest
    have HSTEP := Lib.hid hstep; clear hstep
    have HBAD := Lib.hid hbad; clear hbad
    have HO1 := Lib.hid o1; clear o1
    have HO2 := Lib.hid o2; clear o2
    have HK := Lib.hid hKok
    clear hpm ha0 hb0 hb4 hb5 hb8 hb9 hb10 hp1 hp2 hseq HPAIR hQ hqe ha hb hcc he hKok
    gi_wp2_with fail
    refine ⟨trivial, (CallsIn.inRound q ((callsIn_wide (n := _)).2 HM.out)).mono ?_⟩
    rintro e w1 ⟨rfl, hto⟩
    obtain ⟨⟨F1, hE1⟩, hB1, hK1⟩ := HE.out.more hl hWl hto
    have hz1 : w.heap.size + 7 + 2 ≤ w1.heap.size := by
      obtain ⟨_, _, hch, _⟩ := hto
      exact Nat.le_trans hWl hch.size
    have HK1 := Lib.hid (hK1 _ (fun k hk => (HK.out k hk).imp id (fun e => ⟨e.1, e.2.1⟩))); clear hK1
    have HB1 := Lib.hid hB1; clear hB1 hto
    have c10 := hE1.b10.cell (i := 0) rfl
    have c8 := hE1.b8.cell (i := 0) rfl
    have c8f := hE1.b8.frozen (i := 0)
    have c9 := hE1.b9.cell (i := 0) rfl
    have c9f := hE1.b9.frozen (i := 0)
    by_cases hq : Q.2.2 = 0
    · have hz : ((Q.2.2 : Int) != 0) = false := by rw [hq]; rfl
      have hst := HSTEP.out
      rw [rstep_ok rfl hq] at hst
      have HST := Lib.hid hst; clear hst
      have hrow3 := hE1.row.ch ((Ch.refl [] w1).alloc (.cells #[.int .i64 Q.2.1] 34)) (by simp)
      have hnew3 : blk (w1.alloc (.cells #[.int .i64 Q.2.1] 34)) w1.heap.size [.int .i64 Q.2.1] := blk.new' _ _ rfl
      have hb10 := hE1.b10.alloc (.cells #[.int .i64 Q.2.1] 34)
      have hb10n : w.heap.size + 4 ∉ (Value.slice va l.length vc).ownBlock.toList := fun hk => by have := (hE1.fresh _ (by simpa using hk)).1; omega
      have HE1 := Lib.hid hE1; clear hE1
      have HROW3 := Lib.hid hrow3; clear hrow3
      have HNEW3 := Lib.hid hnew3; clear hnew3
      have HB10 := Lib.hid hb10; clear hb10
      have HB10N := Lib.hid hb10n; clear hb10n
      have HQ := Lib.hid hq; clear hq
      have HWL := Lib.hid hz1
      gi_wp2_with (gi_at_builtin; go_loud (refine wpListIn_append_row slRefs rfl _ _ rfl (v := .slice va l.length vc) (n := l.length) (xs := refsCells l) rfl HROW3.out (ad := ⟨w1.heap.size, 0, none⟩) (m := 1) (c := 1) (news := [.int .i64 Q.2.1]) rfl rfl (news_blk HNEW3.out) (by simp [Value.oneCell']) (by omega) (by omega) ?_; intro v' w4 hown4 hC4 hf4; obtain ⟨gb, gc, rfl⟩ := row.parts hown4 (by omega); have hbb := HB10.out.ch hC4 HB10N.out; have k1 := hbb.cell (i := 0) rfl; have k2 := hbb.frozen (i := 0); have HO4 := Lib.hid hown4; clear hown4; have HC4 := Lib.hid hC4; clear hC4; have HF4 := Lib.hid hf4; clear hf4; have HBB := Lib.hid hbb; clear hbb))
      gi_wp2
      obtain ⟨p1, p2, p3⟩ := HE1.out.app hl hz1 HO4.out HC4.out HF4.out (r := Q.2.1)
      exact ⟨HB1.out.trans p2, ⟨⟨_, _, _, _, HST.out, HFU.out.ok.ok, HO2.out.trans HFU.out.ok.ext, p1⟩⟩, HK1.out.trans (p3 _ HK.out)⟩
    · have hQ := HFU.out.keep hq
      subst hQ
      have hst : eachF (rop (muxOf c)) (G, 0) (pre ++ [(a, b)]) = _ := HSTEP.out
      rw [rstep_no rfl hq] at hst
      have hend : (eachF (rop (muxOf c)) (G, 0) (x.zip y)).1.2 = 201 := by rw [← HREST.out, HBAD.out rest (by rw [hst]; simp), hst]
      have HEND := Lib.hid hend
      have HE1 := Lib.hid hE1; clear hE1 hst hend hq
      gi_wp2
      have hE1 := HE1.out
      have hch : Ch [w.heap.size + 2, w.heap.size + 3] w1 ((w1.setCell ⟨w.heap.size + 2, 0, none⟩ (.slice none 0 0)).setCell ⟨w.heap.size + 3, 0, none⟩ (.int .i64 (201 : Nat))) := ((Ch.refl _ _).setCell (by simp) _).setCell (by simp) _
      have hs := hE1.sep hl
      refine ⟨HB1.out.trans (Books.of_ch hch hz1 (by simp)), ⟨⟨Gp, F1, HEND.out, HO1.out, HO2.out, hE1.gin.same hch (fun k hk hm => by have := hs k hk; simp at hm; omega), hE1.ch.trans hch (fun k hk => .inr (by simp at hk; omega)), hE1.own, hE1.map, (hE1.b8.set (i := 0) _).other (by simp) _, (hE1.b9.other (by simp) _).set (i := 0) _⟩⟩⟩
  case done =>
    rintro W ⟨⟨v, Gp, l, F', he, o1, o2, hE⟩⟩ hK hWz
    obtain ⟨va, vc, rfl⟩ := row.shape hE.row
    have c10 := hE.b10.cell (i := 0) rfl
    have c8 := hE.b8.cell (i := 0) rfl
    have c8f := hE.b8.frozen (i := 0)
    have c9 := hE.b9.cell (i := 0) rfl
    have c9f := hE.b9.frozen (i := 0)
    have HE := Lib.hid hE; clear hE
    have HK := Lib.hid hK; clear hK
    clear hb4 hb5 hb8 hb9 hb10 hp1 hp2 hseq
    go_wp2
    have hE := HE.out
    have hch : Ch [w.heap.size + 2, w.heap.size + 3] W ((W.setCell ⟨w.heap.size + 2, 0, none⟩ (.slice va l.length vc)).setCell ⟨w.heap.size + 3, 0, none⟩ (.int .i64 (0 : Nat))) := ((Ch.refl _ _).setCell (by simp) _).setCell (by simp) _
    have hK2 := (hch.block (w.heap.size + 7) (by omega) (by simp)).trans HK.out
    have z8 : blk ((W.setCell ⟨w.heap.size + 2, 0, none⟩ (.slice va l.length vc)).setCell ⟨w.heap.size + 3, 0, none⟩ (.int .i64 (0 : Nat))) (w.heap.size + 2) [.slice va l.length vc] := (hE.b8.set (i := 0) _).other (by simp) _
    have z9 : blk ((W.setCell ⟨w.heap.size + 2, 0, none⟩ (.slice va l.length vc)).setCell ⟨w.heap.size + 3, 0, none⟩ (.int .i64 (0 : Nat))) (w.heap.size + 3) [.int .i64 (0 : Nat)] := (hE.b9.other (by simp) _).set (i := 0) _
    refine ⟨by simp, .inl ⟨_, _, rfl, run_takeDeferred hK2, ?_⟩⟩
    have hp : ∀ o, Ch [w.heap.size + 2, w.heap.size + 3, w.heap.size + 7] W (((W.setCell ⟨w.heap.size + 2, 0, none⟩ (.slice va l.length vc)).setCell ⟨w.heap.size + 3, 0, none⟩ (.int .i64 (0 : Nat))).putObj (w.heap.size + 7) o) := fun o => (hch.mono (F' := [w.heap.size + 2, w.heap.size + 3, w.heap.size + 7]) (by simp)).trans (ch_put (L := [w.heap.size + 7]) (by simp)) (by simp)
    have y8 := fun o => (z8.ch (ch_put (o' := o) (l := w.heap.size + 7) (L := [w.heap.size + 7]) (by simp)) (by simp)).cell (i := 0) rfl
    have y9 := fun o => (z9.ch (ch_put (o' := o) (l := w.heap.size + 7) (L := [w.heap.size + 7]) (by simp)) (by simp)).cell (i := 0) rfl
    have HP := Lib.hid hp
    clear z8 z9 hK2 hp
    have hs := hE.sep hl
    have hch2 := HP.out (.deferred none)
    refine ⟨.tuple #[.slice va l.length vc, .int .i64 (0 : Nat)], res2 Try.results122 (by intro w; kernel_rfl) (by intro w; kernel_rfl) rfl rfl (y8 _) (y9 _), .slice va l.length vc, Gp, l, 0, rfl, ⟨fun _ => by rw [he]; exact ⟨rfl, rfl, rfl⟩, fun hn => by rw [he] at hn; exact absurd rfl hn, .inl (by rw [he]), o2, o1⟩, F', hE.gin.same hch2 (fun k hk hm => by have := hs k hk; simp at hm; omega), hE.ch.trans hch2 (fun k hk => .inr (by simp at hk; omega)), fun k hk => (hE.own k hk).imp id (by omega), hE.map, hE.row.ch hch2 (fun k hk hm => by have := (hE.fresh k hk).1; simp at hm; omega), fun k hk => ⟨by have := (hE.fresh k hk).1; omega, (hE.fresh k hk).2⟩⟩
  case stop =>
    rintro W ⟨⟨Gp, F', he, o1, o2, h1, h2, h3, h4, h5, h6⟩⟩ hK hWz
    have HK := Lib.hid hK; clear hK
    clear hb4 hb5 hb8 hb9 hb10 hp1 hp2 hseq
    gi_wp2
    refine ⟨by simp, .inl ⟨_, _, rfl, run_takeDeferred HK.out, ?_⟩⟩
    have hch2 : Ch [w.heap.size + 7] W (W.putObj (w.heap.size + 7) (.deferred none)) := ch_put (by simp)
    have y8 := (h5.ch hch2 (by simp)).cell (i := 0) rfl
    have y9 := (h6.ch hch2 (by simp)).cell (i := 0) rfl
    refine ⟨.tuple #[.slice none 0 0, .int .i64 (201 : Nat)], res2 Try.results122 (by intro w; kernel_rfl) (by intro w; kernel_rfl) rfl rfl y8 y9, .slice none 0 0, Gp, [], 201, rfl, ⟨fun h0 => (by rw [he] at h0; cases h0), fun _ => ⟨rfl, he.symm⟩, .inr he, o2, o1⟩, GVo.nil (F' := F') (h1.same hch2 (fun k hk hm => by have := h3 k hk; simp at hm; rcases this with e | e; have := hl k e; omega; omega)) (h2.trans hch2 (fun k hk => .inr (by simp at hk; omega))) (fun k hk => (h3 k hk).imp id (by omega)) h4⟩
end
end Go.Proofs.Ytchledddgmbndaa
namespace Go.Aig
/-- a word of references shifted -/
def shN (side : Nat) (x : List Nat) (n : Nat) : List Nat := (List.range x.length).map fun i => if side = 1 then (if n ≤ i then x.getD (i - n) 0 else 0) else x.getD (i + n) 0
@[simp] theorem shN_len (side : Nat) (x : List Nat) (n : Nat) : (shN side x n).length = x.length := by simp [shN]
theorem natInts_getD (x : List Nat) (i : Nat) : (natInts x).getD i 0 = ((x.getD i 0 : Nat) : Int) := by
  unfold natInts
  rw [List.getD_eq_getElem?_getD, List.getD_eq_getElem?_getD, List.getElem?_map]
  cases x[i]? <;> rfl
theorem shL_nat (side : Nat) (x : List Nat) (n : Nat) : shL side (natInts x) n = natInts (shN side x n) := by
  unfold shL shN
  simp only [natInts_getD, natInts_len]
  conv => rhs; unfold natInts
  rw [List.map_map]
  refine List.map_congr_left fun i _ => ?_
  simp only [Function.comp]
  split
  · split <;> rfl
  · rfl
theorem shN_lt {side : Nat} {x : List Nat} {n b : Nat} (h : ∀ r ∈ x, r < b) (hb : 0 < b) : ∀ r ∈ shN side x n, r < b := fun r hr => by
  have hd : ∀ j, x.getD j 0 < b := fun j => by
    rw [List.getD_eq_getElem?_getD]
    cases hj : x[j]? with
    | none => exact hb
    | some r => exact h r (List.mem_of_getElem? hj)
  obtain ⟨i, _, rfl⟩ := List.mem_map.1 hr
  split
  · split
    · exact hd _
    · exact hb
  · exact hd _
/-- one step of a shift by a word: by the bit c, that counts 2 ^ i -/
def movS (side : Nat) (q : Mk × List Nat) (p : Nat × Nat) : Mk × List Nat := eachF (rop (muxOf p.1)) q.1 (q.2.zip (shN side q.2 (2 ^ p.2)))
def movF (side : Nat) (s : Mk) (x cs : List Nat) : Mk × List Nat := cs.zipIdx.foldl (movS side) (s, x)
theorem movF_nil (side : Nat) (s : Mk) (x : List Nat) : movF side s x [] = (s, x) := rfl
theorem movF_snoc (side : Nat) (s : Mk) (x cs : List Nat) (c : Nat) : movF side s x (cs ++ [c]) = movS side (movF side s x cs) (c, cs.length) := by
  unfold movF
  rw [List.zipIdx_append, List.foldl_append]
  simp
theorem eachF_bad' (f : Gra → Nat → Nat → Res) {s : Mk} (h : s.2 ≠ 0) (l : List (Nat × Nat)) : (eachF (rop f) s l).1 = s := eachS_bad f l _ h
theorem movS_bad (side : Nat) : ∀ (l : List (Nat × Nat)) (q : Mk × List Nat), q.1.2 ≠ 0 → (l.foldl (movS side) q).1 = q.1
  | [], _, _ => rfl
  | p :: l, q, h => by
    rw [List.foldl_cons]
    have e : (movS side q p).1 = q.1 := eachF_bad' _ h _
    rw [movS_bad side l _ (by rw [e]; exact h), e]
theorem movF_bad (side : Nat) (s : Mk) (x cs ds : List Nat) (h : (movF side s x cs).1.2 ≠ 0) : (movF side s x (cs ++ ds)).1 = (movF side s x cs).1 := by
  unfold movF at h ⊢
  rw [List.zipIdx_append, List.foldl_append, movS_bad _ _ _ h]
/-- a shift by a word -/
def moveF (side : Nat) (s : Mk) (x y : List Nat) : Mk × List Nat :=
  let q := movF side s x (y.take (stepsN x.length y.length))
  if stepsN x.length y.length = y.length then q
  else
    let a := rstep q.1 (rAny q.1.1 (y.drop (stepsN x.length y.length)))
    eachF (rop and) a.1 (q.2.map fun r => (r, neg a.2))
theorem moveF_bad {side : Nat} {s : Mk} {x y : List Nat} (h : (movF side s x (y.take (stepsN x.length y.length))).1.2 ≠ 0) : (moveF side s x y).1 = (movF side s x (y.take (stepsN x.length y.length))).1 := by
  unfold moveF
  dsimp only
  split
  · rfl
  · rw [rstep_bad h, eachF_bad' _ h]
theorem moveF_full {side : Nat} {s : Mk} {x y : List Nat} (h : stepsN x.length y.length = y.length) : moveF side s x y = movF side s x (y.take (stepsN x.length y.length)) := by
  unfold moveF
  dsimp only
  rw [if_pos h]
theorem moveF_high {side : Nat} {s : Mk} {x y : List Nat} (h : stepsN x.length y.length ≠ y.length) {q : Mk × List Nat} (hq : movF side s x (y.take (stepsN x.length y.length)) = q) :
    moveF side s x y = eachF (rop and) (rstep q.1 (rAny q.1.1 (y.drop (stepsN x.length y.length)))).1 (q.2.map fun r => (r, neg (rstep q.1 (rAny q.1.1 (y.drop (stepsN x.length y.length)))).2)) := by
  unfold moveF
  dsimp only
  rw [if_neg h, hq]
theorem stepsN_le (w bits : Nat) : stepsN w bits ≤ bits := by
  unfold stepsN
  exact Nat.le_trans List.countP_le_length (by simp)
theorem zip_sh_lt {side : Nat} {x : List Nat} {n b : Nat} (h : ∀ r ∈ x, r < b) (hb : 0 < b) : ∀ p ∈ x.zip (shN side x n), p.1 < b ∧ p.2 < b := zip_lt h (shN_lt h hb)
theorem full_and2 : Full2 and := fun _ h _ _ ha hb => and_full h ha hb
theorem movS_lok {G : Gra} (hG : Ok G) {side c i : Nat} {x : List Nat} (hx : ∀ r ∈ x, r < 2 * G.nodes.length) : LOk G (movS side ((G, 0), x) (c, i)) :=
  eachF_lok hG (full_mux c) _ (zip_sh_lt hx (by have := hG.wf.pos; omega))
theorem movS_len (side : Nat) (q : Mk × List Nat) (p : Nat × Nat) : (movS side q p).2.length = q.2.length := by
  unfold movS
  rw [eachF_len, List.length_zip, shN_len]
  omega
theorem movF_len (side : Nat) (s : Mk) (x cs : List Nat) : (movF side s x cs).2.length = x.length := by
  have : ∀ (l : List (Nat × Nat)) (q : Mk × List Nat), (l.foldl (movS side) q).2.length = q.2.length := by
    intro l
    induction l with
    | nil => intro q; rfl
    | cons p l ih => intro q; rw [List.foldl_cons, ih, movS_len]
  exact this _ _
/-- all of a shift by a word is right -/
theorem movF_lok {G : Gra} (hG : Ok G) {side : Nat} {x cs : List Nat} (hx : ∀ r ∈ x, r < 2 * G.nodes.length) : LOk G (movF side (G, 0) x cs) := by
  have : ∀ (l : List (Nat × Nat)) (q : Mk × List Nat), LOk G q → LOk G (l.foldl (movS side) q) := by
    intro l
    induction l with
    | nil => intro q h; exact h
    | cons p l ih =>
      intro q h
      refine ih _ ?_
      by_cases h0 : q.1.2 = 0
      · obtain ⟨⟨G1, e1⟩, l1⟩ := q
        cases h0
        have h1 := movS_lok h.s.ok (side := side) (c := p.1) (i := p.2) h.lt
        exact ⟨⟨h1.s.ok, h.s.ext.trans h1.s.ext, h1.s.err⟩, h1.lt⟩
      · have e : (movS side q p).1 = q.1 := eachF_bad' _ h0 _
        refine ⟨by rw [e]; exact h.s, fun r hr => ?_⟩
        rw [e]
        have hz : ∀ (l : List (Nat × Nat)) (q : Mk × List Nat), q.1.2 ≠ 0 → (∀ r ∈ q.2, r < 2 * q.1.1.nodes.length) → 0 < q.1.1.nodes.length → ∀ r ∈ (l.foldl (eachS (rop (muxOf p.1))) q).2, r < 2 * q.1.1.nodes.length := by
          intro l
          induction l with
          | nil => intro q _ h2 _; exact h2
          | cons p l ih =>
            intro q h1 h2 h3 r hr
            rw [List.foldl_cons] at hr
            have e2 : ∀ c, (eachS (rop (muxOf c)) q p).1 = q.1 := fun c => by unfold eachS rop; rw [rstep_bad h1]
            have e3 : ∀ c, (eachS (rop (muxOf c)) q p).2 = q.2 ++ [0] := fun c => by unfold eachS rop; rw [rstep_bad h1]
            have := ih _ (by rw [e2]; exact h1) (by rw [e2, e3]; intro r hr; rcases List.mem_append.1 hr with hr | hr; exact h2 r hr; rw [List.mem_singleton.1 hr]; omega) (by rw [e2]; exact h3) r hr
            rw [e2] at this
            exact this
        exact hz _ (q.1, []) h0 (by simp) h.s.ok.wf.pos r hr
  exact this _ _ ⟨.start hG, hx⟩
theorem moveF_lok {G : Gra} (hG : Ok G) {side : Nat} {x y : List Nat} (hx : ∀ r ∈ x, r < 2 * G.nodes.length) (hy : ∀ r ∈ y, r < 2 * G.nodes.length) (h0 : (moveF side (G, 0) x y).1.2 = 0) : LOk G (moveF side (G, 0) x y) := by
  have h1 := movF_lok hG (side := side) (cs := y.take (stepsN x.length y.length)) hx
  by_cases hk : stepsN x.length y.length = y.length
  · rw [moveF_full hk]; exact h1
  · have hb : (movF side (G, 0) x (y.take (stepsN x.length y.length))).1.2 = 0 := by
      by_cases hz : (movF side (G, 0) x (y.take (stepsN x.length y.length))).1.2 = 0
      · exact hz
      · rw [moveF_bad hz] at h0; exact h0
    rw [moveF_high hk rfl] at h0 ⊢
    obtain ⟨a1, a2, a3⟩ := rstep_sok h1.s (Y := rAny (movF side (G, 0) x (y.take (stepsN x.length y.length))).1.1 (y.drop (stepsN x.length y.length))) (fun _ => rAny_full h1.s.ok (fun r hr => h1.s.ext.lt (hy r (List.mem_of_mem_drop hr))))
    generalize rstep (movF side (G, 0) x (y.take (stepsN x.length y.length))).1 (rAny (movF side (G, 0) x (y.take (stepsN x.length y.length))).1.1 (y.drop (stepsN x.length y.length))) = a at *
    obtain ⟨⟨G1, e1⟩, z⟩ := a
    by_cases he : e1 = 0
    · subst he
      have h2 := eachF_lok a1.ok full_and2 ((movF side (G, 0) x (y.take (stepsN x.length y.length))).2.map fun r => (r, neg z)) (fun p hp => by
        obtain ⟨r, hr, rfl⟩ := List.mem_map.1 hp
        exact ⟨a3.lt (h1.lt r hr), neg_lt a2⟩)
      exact ⟨⟨h2.s.ok, a1.ext.trans h2.s.ext, h2.s.err⟩, h2.lt⟩
    · rw [eachF_bad' _ he] at h0
      exact absurd h0 he
/-- what By finds wrong -/
def chkBy (G : Gra) (side : Nat) (x y : List Int) : Nat :=
  if side ≠ 1 ∧ side ≠ 2 then 251 else if rightB x.length = false ∨ rightB y.length = false then 250 else if badIn G x ∨ badIn G y then 200 else 0
/-- By -/
def byG (G : Gra) (side : Nat) (x y : List Int) : Gra × List Nat × Nat := if chkBy G side x y ≠ 0 then (G, [], chkBy G side x y) else wres G (moveF side (G, 0) (nats x) (nats y))
end Go.Aig
namespace Go.Proofs.Ytchledddgmbndaa
open Go.RowKit Go.Mem Go.Aig
theorem GVo.next {w w1 w2 : World} {g : Nat} {G1 : Gra} {F F' : List Nat} {v : Value} {l : List Nat} (hc : Ch F w w1) (hF : ∀ k ∈ F', k ∈ F ∨ w.heap.size ≤ k) (h2 : F'[2]? = F[2]?) (h : GVo w1 g G1 [] F' v l w2) : GVo w g G1 [] F v l w2 := by
  obtain ⟨F1, a1, a2, a3, a4, a5, a6⟩ := h
  refine ⟨F1, a1, hc.trans a2 (fun k hk => hF k hk), fun k hk => (a3 k hk).elim (hF k) (fun e => .inr (Nat.le_trans hc.size e)), a4.trans h2, a5, fun k hk => ⟨Nat.le_trans hc.size (a6 k hk).1, (a6 k hk).2⟩⟩
theorem badIn_nats {G : Gra} {x : List Int} (h : badIn G x = false) : natInts (nats x) = x ∧ ∀ r ∈ nats x, r < 2 * G.nodes.length := badIn_no h
/-- the word in which bits are taken back: what is known between two rounds -/
structure E8 (w : World) (g : Nat) (F : List Nat) (W : World) (b n c : Nat) (Gp : Gra) (l : List Nat) (F' : List Nat) : Prop where
  gin : GIn W g Gp F'
  ch : Ch F w W
  own : ∀ k ∈ F', k ∈ F ∨ w.heap.size ≤ k
  f2 : F'[2]? = F[2]?
  lo : w.heap.size ≤ b
  nb : b ∉ F'
  row : Go.Mem.row W 34 1 (.slice (some ⟨b, 0, none⟩) n c) n (refsCells l)
theorem E8.done {w W : World} {g : Nat} {F F' : List Nat} {b n c : Nat} {Gp : Gra} {l : List Nat} (h : E8 w g F W b n c Gp l F') (hn : l.length = n) : GVo w g Gp [] F (.slice (some ⟨b, 0, none⟩) n c) l W := by
  refine ⟨F', h.gin, h.ch, h.own, h.f2, by rw [hn]; exact h.row, fun k hk => ?_⟩
  cases hk
  exact ⟨h.lo, h.nb⟩
theorem E8.bad {w W : World} {g : Nat} {F F' : List Nat} {b n c : Nat} {Gp : Gra} {l : List Nat} (h : E8 w g F W b n c Gp l F') : GVo w g Gp [] F (.slice none 0 0) [] W := GVo.nil (F' := F') h.gin h.ch h.own h.f2
/-- the graph grows; the word stays -/
theorem E8.to {w W W' : World} {g : Nat} {F F' : List Nat} {b n c : Nat} {Gp G' : Gra} {l : List Nat} (h : E8 w g F W b n c Gp l F') (ht : GTo W g G' F' W') : ∃ F1, E8 w g F W' b n c G' l F1 := by
  obtain ⟨F1, a1, a2, a3, a4⟩ := ht
  have hbW : b < W.heap.size := (h.row.lt b rfl).2
  exact ⟨F1, a1, h.ch.trans a2 (fun q hq => h.own q hq), fun q hq => (a3 q hq).elim (h.own q) (fun e => .inr (Nat.le_trans h.ch.size e)), a4.trans h.f2, h.lo, fun hk => (a3 b hk).elim h.nb (fun e => by omega), h.row.ch a2 (fun q hq hq2 => by cases hq; exact h.nb hq2)⟩
theorem E8.put {w W : World} {g : Nat} {F F' : List Nat} {b n c : Nat} {Gp : Gra} {l : List Nat} (h : E8 w g F W b n c Gp l F') (k r : Nat) : E8 w g F (W.setCell ⟨b, k, none⟩ (.int .i64 r)) b n c Gp (l.set k r) F' := by
  have hcb : Ch [b] W (W.setCell ⟨b, k, none⟩ (.int .i64 r)) := (Ch.refl _ _).setCell (.inl (by simp)) _
  refine ⟨h.gin.same hcb (fun q hq hq2 => h.nb (by rw [List.mem_singleton.1 hq2] at hq; exact hq)), h.ch.setCell (.inr h.lo) _, h.own, h.f2, h.lo, h.nb, ?_⟩
  have e : refsCells (l.set k r) = (refsCells l).set k (.int .i64 r) := by unfold refsCells; rw [List.map_set]
  rw [e]
  exact row.set h.row _
theorem E8.at {w W : World} {g : Nat} {F F' : List Nat} {b n c : Nat} {Gp : Gra} {l : List Nat} (h : E8 w g F W b n c Gp l F') {k r : Nat} (hk : l[k]? = some r) (hn : 0 < n) : W.cell? ⟨b, k, none⟩ = some (.int .i64 r) ∧ W.frozen? ⟨b, k, none⟩ = false :=
  ⟨row_at2 h.row (by simp [refsCells, hk]), row_fz h.row hn k⟩
section
variable {w : World} {g : Nat} {G : Gra} {F : List Nat}
/-- one step of move: a shift by a number, and a choice -/
theorem step_in {wr : World} {Gp : Gra} {va : Option Addr} {vc : Nat} {l : List Nat} {n : Nat} (hn : l.length = n) (hnm : n ≤ 1000) (hv : GVo w g Gp [] F (.slice va n vc) l wr) {w2 : World} {side q : Nat} {ua : Option Addr} {uc : Nat} (hu : WNew wr (.slice ua n uc) (intCells (shL side (natInts l) q)) w2)
    {c : Nat} (hok : Ok Gp) (hc : c < 2 * Gp.nodes.length) (hlt : ∀ r ∈ l, r < 2 * Gp.nodes.length) :
    Calls Try.prog 122 #[.pointer (some ⟨g, 0, none⟩), .int .i64 c, .slice va n vc, .slice ua n uc] w2 fun e W' => ∃ (v : Value) (G1 : Gra) (l1 : List Nat) (e1 : Nat), e = .returned (.tuple #[v, .int .i64 e1]) ∧ Step5 Gp (eachF (rop (muxOf c)) (Gp, 0) (l.zip (shN side l q))) G1 l1 e1 ∧ GVo w g G1 [] F v l1 W' := by
  subst hn
  obtain ⟨F', h1, h2, h3, h4, h5, h6⟩ := hv
  obtain ⟨u1, u2, u3⟩ := hu
  have e1 : (intCells (shL side (natInts l) q)).length = l.length := by simp [intCells]
  rw [e1] at u1
  have hsl : Sl w2 va (l.map fun (r : Nat) => (r : Int)) := by
    have := h5.ch u3 (by simp)
    rw [refs_natInts] at this
    exact Sl.of_ints this (by omega)
  have hsu : Sl w2 ua ((shN side l q).map fun (r : Nat) => (r : Int)) := by
    rw [shL_nat] at u1
    exact Sl.of_ints u1 (by omega)
  refine (step25_is (h1.same u3 (by simp)) hc l.length vc uc rfl (by simp) hnm hsl hsu (fun k hk => ?_) (fun k hk => ?_) hlt (shN_lt hlt (by have := hok.wf.pos; omega))).mono ?_
  · cases va with
    | none => simp [ablk] at hk
    | some p =>
      simp only [ablk, List.mem_singleton] at hk
      subst hk
      exact ⟨(h6 p.block rfl).2, by have := (h5.lt p.block rfl).2; have := u3.size; omega⟩
  · cases ua with
    | none => simp [ablk] at hk
    | some p =>
      simp only [ablk, List.mem_singleton] at hk
      subst hk
      have hge := u2 p.block (by simp [Value.ownBlock])
      exact ⟨fun hk2 => by have := h1.lt p.block hk2; omega, (u1.lt p.block rfl).2⟩
  · rintro e W' ⟨v, G1, l1, e1, rfl, hs, hg⟩
    have hg2 := (GVo.since u3 hg).next h2 h3 h4
    exact ⟨v, G1, l1, e1, rfl, hs, hg2⟩
set_option maxRecDepth 100000 in
set_option maxHeartbeats 3000000 in
theorem move25_is (h : GIn w g G F) {side : Nat} (hs : side = 1 ∨ side = 2) {xa ya : Option Addr} {xl yl : List Int} {xc yc n m : Nat} (hx : WVin w F ⟨xa, xl, xc⟩) (hy : WVin w F ⟨ya, yl, yc⟩) (hn : xl.length = n) (hm : yl.length = m) (hn1 : 1 ≤ n) (hn16 : n ≤ 16) (hm1 : 1 ≤ m) (hm16 : m ≤ 16) (hyc : m ≤ yc) (hbx : badIn G xl = false) (hby : badIn G yl = false) :
    Calls Try.prog 90 #[.pointer (some ⟨g, 0, none⟩), .int .u8 side, .slice xa n xc, .slice ya m yc] w fun e W' => ∃ (v : Value) (G1 : Gra) (l1 : List Nat) (e1 : Nat), e = .returned (.tuple #[v, .int .i64 e1]) ∧ Step5 G (moveF side (G, 0) (nats xl) (nats yl)) G1 l1 e1 ∧ GVo w g G1 [] F v l1 W' := by
  have hl := h.lt
  have hok := h.ok
  have hG := hok.small
  obtain ⟨hxe, hxlt⟩ := badIn_nats hbx
  obtain ⟨hye, hylt⟩ := badIn_nats hby
  have hcl := Clref_w hx.ok n hn
  obtain ⟨yb, yo, hya, hyat⟩ := hy.ok.sl.at (by show 0 < yl.length; omega)
  simp only at hya
  subst hya
  have hyF := hy.apart yb (by simp [ablk])
  have hxn : (nats xl).length = n := by simp [hn]
  have hyn : (nats yl).length = m := by simp [hm]
  obtain ⟨X, hX⟩ : ∃ X, X = nats xl := ⟨_, rfl⟩
  obtain ⟨Y, hY⟩ : ∃ Y, Y = nats yl := ⟨_, rfl⟩
  rw [← hX] at hxe hxlt hxn ⊢
  rw [← hY] at hye hylt hyn ⊢
  clear hX hY
  have hst := fun W => steps25_is (w := W) n m (by omega) (by omega)
  have hsle := stepsN_le n m
  obtain ⟨K, hK⟩ : ∃ K, K = stepsN n m := ⟨_, rfl⟩
  have hmf := @moveF_full side (G, 0) X Y
  have hmh := @moveF_high side (G, 0) X Y
  have hmb := @moveF_bad side (G, 0) X Y
  rw [hxn, hyn, ← hK] at hmf hmh hmb
  rw [← hK] at hst hsle
  clear hK
  have hmF := fun cs => movF_lok hok (side := side) (x := X) (cs := cs) hxlt
  have hmL := fun cs => movF_len side (G, 0) X cs
  rw [hxn] at hmL
  have H := Lib.hid h; clear h
  have HL := Lib.hid hl; clear hl
  have HOK := Lib.hid hok; clear hok
  have HXE := Lib.hid hxe; clear hxe
  have HXLT := Lib.hid hxlt; clear hxlt
  have HYE := Lib.hid hye; clear hye
  have HYLT := Lib.hid hylt; clear hylt
  have HYAT := Lib.hid hyat; clear hyat
  have HYF := Lib.hid hyF; clear hyF
  have HXN := Lib.hid hxn; clear hxn
  have HYN := Lib.hid hyn; clear hyn
  have HMF := Lib.hid hmf; clear hmf
  have HMH := Lib.hid hmh; clear hmh
  have HMB := Lib.hid hmb; clear hmb
  have HLOK := Lib.hid hmF; clear hmF
  have HML := Lib.hid hmL; clear hmL
  have HHN := Lib.hid hn; clear hn
  have HHM := Lib.hid hm; clear hm
  have HHS := Lib.hid hs; clear hs
  have HST := Lib.hid hst; clear hst
  clear hx hy hbx hby
  go_enter Try.func90, Try.ntmps90
  go_wp2_with fail
  refine wp_scope_straight ?_
  go_wp2_with fail
  refine hcl.mono ?_
  rintro e w1 ⟨v, rfl, hv⟩
  have hv0 : GVo w g G [] F v X w1 := by
    refine ⟨F, H.out.same hv.2.2 (by simp), hv.2.2.mono (by simp), fun k hk => .inl hk, rfl, ?_, fun k hk => ?_⟩
    · have := hv.1
      rw [refs_natInts, HXE.out]
      simpa [intCells, HXN.out, HHN.out] using this
    · have h1 := hv.2.1 k (by simp [hk])
      exact ⟨h1, fun hk2 => by have := HL.out k hk2; omega⟩
  have HV0 := Lib.hid hv0; clear hv0 hv hcl
  go_wp2_with fail
  refine (HST.out _).mono ?_
  rintro e w1' ⟨rfl, rfl⟩
  go_wp2_with fail
  refine wp_label ?_
  go_wp2_with fail
  go_loopw [10, 11, 29] (fun o e i wr => ∃ (k : Nat) (va : Option Addr) (vc : Nat) (Gp : Gra) (l : List Nat), k ≤ K ∧ i = .int .i64 k ∧ o = .slice va n vc ∧ e = .int .i64 (0 : Nat) ∧ movF side (G, 0) X (Y.take k) = ((Gp, 0), l) ∧ GVo w g Gp [] F (.slice va n vc) l wr) (fun _ _ i _ => K - (intOf i).toNat)
  case atStart =>
    have hv0 := HV0.out
    obtain ⟨va, vc, hv⟩ := (show ∃ a c, v = .slice a X.length c from by obtain ⟨_, _, _, _, _, h5, _⟩ := hv0; exact row.shape h5)
    rw [HXN.out] at hv
    subst hv
    exact ⟨0, va, vc, G, X, by omega, rfl, rfl, rfl, rfl, hv0⟩
  case round =>
    obtain ⟨k, va, vc, Gp, l, hk, rfl, rfl, rfl, hmv, hv⟩ := hrel
    have hlok := HLOK.out (Y.take k)
    have hll := HML.out (Y.take k)
    rw [hmv] at hlok hll
    have hop : Ok Gp := hlok.s.ok
    have hext : Ext G Gp := hlok.s.ext
    have hlt : ∀ r ∈ l, r < 2 * Gp.nodes.length := hlok.lt
    simp only at hll
    clear hlok
    by_cases hkK : k < K
    · obtain ⟨c, hc⟩ : ∃ c, Y[k]? = some c := ⟨_, List.getElem?_eq_getElem (by have := HYN.out; omega)⟩
      have hclt := hext.lt (HYLT.out c (List.mem_of_getElem? hc))
      have hyk : yl[k]? = some (c : Int) := by rw [← HYE.out]; simp [natInts, hc]
      have c0 : wr.cell? ⟨yb, yo + k, none⟩ = some (.int .i64 c) := by
        have h0 := HYAT.out k c hyk
        obtain ⟨_, _, hch, _⟩ := hv
        exact (hch.cell (cell_lt h0) (by simpa using HYF.out.1)).trans h0
      have htk : Y.take (k + 1) = Y.take k ++ [c] := by rw [List.take_add_one, hc]; rfl
      have hnx := movF_snoc side (G, 0) X (Y.take k) c
      rw [← htk, hmv, show (Y.take k).length = k by rw [List.length_take]; have := HYN.out; omega] at hnx
      have hpw : (2 : Nat) ^ k ≤ 2 ^ 16 := Nat.pow_le_pow_right (by omega) (by omega)
      have hpc : ((2 ^ k : Nat) : Int) = (2 : Int) ^ k := by push_cast; rfl
      have hw : wrap64 ((2 : Int) ^ k) = ((2 ^ k : Nat) : Int) := by rw [← hpc]; exact IntWalk.wrap64_in _ ⟨Int.le_trans (by decide) (Int.natCast_nonneg _), Int.le_trans (Int.ofNat_le.2 hpw) (by decide)⟩
      have hsh : Calls Try.prog 86 #[.int .u8 side, .slice va n vc, .int .i64 ((2 ^ k : Nat) : Int)] wr fun e w' => ∃ v, e = .returned v ∧ WNew wr v (intCells (shL side (natInts l) (2 ^ k))) w' := by
        obtain ⟨_, _, _, _, _, h5, _⟩ := hv
        rw [refs_natInts, hll] at h5
        have := shifted_is HHS.out (xl := natInts l) vc (2 ^ k) (Sl.of_ints h5 (by omega)) (by simp; omega) (Nat.le_trans hpw (by decide))
        rw [natInts_len, hll] at this
        exact this
      rw [← hw] at hsh
      have HSH := Lib.hid hsh; clear hsh
      have HV := Lib.hid hv; clear hv
      have HNX := Lib.hid hnx; clear hnx
      have HMV := Lib.hid hmv; clear hmv
      have HLT := Lib.hid hlt; clear hlt
      have HLL := Lib.hid hll; clear hll
      have HOP := Lib.hid hop; clear hop
      have HEXT := Lib.hid hext; clear hext
      have HCLT := Lib.hid hclt; clear hclt
      have HTK := Lib.hid htk; clear htk
      clear hw hpc hpw hyk hc HV0 HST
      go_wp2_with fail
      refine HSH.out.mono ?_
      rintro e w2 ⟨u, rfl, hu⟩
      obtain ⟨ua, uc, rfl⟩ := (show ∃ a c, u = .slice a n c from by have := row.shape hu.1; simpa [intCells, HLL.out] using this)
      have hstep := step_in HLL.out (by omega) HV.out hu HOP.out HCLT.out HLT.out
      have HSTEP := Lib.hid hstep; clear hstep hu HSH
      go_wp2_with fail
      refine HSTEP.out.mono ?_
      rintro e w3 ⟨v3, G1, l1, e1, rfl, hst, hv3⟩
      have hR : movF side (G, 0) X (Y.take (k + 1)) = eachF (rop (muxOf c)) (Gp, 0) (l.zip (shN side l (2 ^ k))) := HNX.out
      rw [← hR] at hst
      clear HSTEP hR
      by_cases hz : (movF side (G, 0) X (Y.take (k + 1))).1.2 = 0
      · obtain ⟨a1, a2, rfl⟩ := hst.yes hz
        have hmv2 : movF side (G, 0) X (Y.take (k + 1)) = ((G1, 0), l1) := by rw [a1, a2]; exact Prod.ext (Prod.ext rfl hz) rfl
        have hll1 := HML.out (Y.take (k + 1))
        rw [← a2] at hll1
        obtain ⟨wa, wc, rfl⟩ := (show ∃ a c, v3 = .slice a n c from by obtain ⟨_, _, _, _, _, h5, _⟩ := hv3; rw [hll1] at h5; exact row.shape h5)
        have HMV2 := Lib.hid hmv2; clear hmv2 a1 a2 hz hst
        have HV3 := Lib.hid hv3; clear hv3
        go_wp2_with fail
        go_roundw
        case rel => exact ⟨k + 1, wa, wc, G1, l1, by omega, by go_num, rfl, by trivial, HMV2.out, HV3.out⟩
        case measure => simp [intOf]; omega
      · obtain ⟨rfl, h201⟩ := hst.no hz
        have herr := hst.err
        have he1 : e1 = 201 := by omega
        subst he1
        have hpre : Y.take (k + 1) ++ (Y.take K).drop (k + 1) = Y.take K := by
          have e0 : Y.take (k + 1) = (Y.take K).take (k + 1) := by rw [List.take_take]; congr 1; omega
          rw [e0, List.take_append_drop]
        have hb1 := movF_bad side (G, 0) X (Y.take (k + 1)) ((Y.take K).drop (k + 1)) hz
        rw [hpre] at hb1
        have hb2 := HMB.out (by rw [hb1]; exact hz)
        have hfin : Step5 G (moveF side (G, 0) X Y) G1 [] 201 := ⟨fun h0 => absurd (by rw [hb2, hb1] at h0; exact h0) hz, fun _ => ⟨rfl, by rw [hb2, hb1]; omega⟩, .inr (by rw [hb2, hb1]; omega), HEXT.out.trans hst.ext, hst.ok⟩
        obtain ⟨wa, wc, rfl⟩ := (show ∃ a c, v3 = .slice a 0 c from by obtain ⟨_, _, _, _, _, h5, _⟩ := hv3; exact row.shape h5)
        have HFIN := Lib.hid hfin; clear hfin hb1 hb2 hpre herr h201 hst hz
        have HV3 := Lib.hid hv3; clear hv3
        go_wp2_with fail
        rw [Exit.noGoto_ret]
        go_ret2
        exact ⟨_, _, _, _, rfl, HFIN.out, HV3.out⟩
    · have hkk : k = K := by omega
      subst hkk
      by_cases hKm : k = m
      · have hf := HMF.out hKm
        rw [hmv] at hf
        have hfin : Step5 G (moveF side (G, 0) X Y) Gp l 0 := by
          rw [hf]; exact ⟨fun _ => ⟨rfl, rfl, rfl⟩, fun h0 => absurd rfl h0, .inl rfl, hext, hop⟩
        have HFIN := Lib.hid hfin; clear hfin hf
        have HV := Lib.hid hv; clear hv
        have hkb : ((k : Int) == (m : Int)) = true := beqI (by omega)
        clear hmv hlt hkK
        go_wp2_with fail
        rw [Exit.noGoto_ret]
        go_ret2
        exact ⟨_, _, _, _, rfl, HFIN.out, HV.out⟩
      · have hkb : ((k : Int) == (m : Int)) = false := by rw [beq_eq_false_iff_ne]; omega
        have hf := HMH.out hKm hmv
        obtain ⟨HI, hHI⟩ : ∃ HI, HI = Y.drop k := ⟨_, rfl⟩
        rw [← hHI] at hf
        have hHIlt : ∀ r ∈ HI, r < 2 * Gp.nodes.length := fun r hr => by rw [hHI] at hr; exact hext.lt (HYLT.out r (List.mem_of_mem_drop hr))
        have hHIl : HI.length = m - k := by rw [hHI, List.length_drop, HYN.out]
        obtain ⟨F', h1, h2, h3, h4, h5, h6⟩ := hv
        have hany := Any_g h1 (a := some ⟨yb, yo + k, none⟩) (l := natInts HI) (m - k) (yc - k) (by simp [hHIl]) ⟨fun i x hx => by
          refine ⟨yb, yo + k, rfl, ?_⟩
          have hx2 : yl[k + i]? = some x := by
            rw [← HYE.out]
            rw [hHI] at hx
            simpa [natInts, List.getElem?_drop] using hx
          have h0 := HYAT.out (k + i) x hx2
          rw [Nat.add_assoc]
          exact (h2.cell (cell_lt h0) (by simpa using HYF.out.1)).trans h0, by simp; omega⟩ (fun x hx => by obtain ⟨r, hr, rfl⟩ := List.mem_map.1 hx; have := hHIlt r hr; have := hop.small; omega) (fun p hp => by
          cases hp
          exact ⟨Nat.lt_of_lt_of_le (show yb < w.heap.size from HYF.out.2) h2.size, fun hk2 => (h3 yb hk2).elim HYF.out.1 (fun e => by have : yb < w.heap.size := HYF.out.2; omega)⟩)
        rw [natInts, doAny_r hHIlt] at hany
        have hfull := rAny_full hop hHIlt
        have hvv : GVo w g Gp [] F (.slice va n vc) l wr := ⟨F', h1, h2, h3, h4, h5, h6⟩
        obtain ⟨R, hR⟩ : ∃ R, R = rAny Gp HI := ⟨_, rfl⟩
        rw [← hR] at hany hfull hf
        have HANY := Lib.hid hany; clear hany
        have HF := Lib.hid hf; clear hf
        have HFU := Lib.hid hfull; clear hfull
        have HVV := Lib.hid hvv; clear hvv
        have HOP := Lib.hid hop; clear hop
        have HEXT := Lib.hid hext; clear hext
        have HLT := Lib.hid hlt; clear hlt
        have HLL := Lib.hid hll; clear hll
        have HH5 := Lib.hid h5; clear h5
        have HH2 := Lib.hid h2; clear h2
        have HH6 := Lib.hid h6; clear h6
        have HH3 := Lib.hid h3; clear h3
        have HH1 := Lib.hid h1; clear h1
        have hkm : k < m := by omega
        clear hmv hHI hHIlt hHIl hR HV0 HST hKm hkK
        go_wp2_with fail
        refine HANY.out.mono ?_
        rintro e w3 ⟨rfl, hto⟩
        clear HANY
        obtain ⟨b, rfl⟩ : ∃ b, va = some ⟨b, 0, none⟩ := by
          obtain ⟨b, cap, e⟩ := row.parts HH5.out (by rw [HLL.out]; omega)
          cases e
          exact ⟨b, rfl⟩
        have hE0 : ∃ F1, E8 w g F w3 b n vc R.1 l F1 := by
          have h5 := HH5.out
          rw [HLL.out] at h5
          have hbb := HH6.out b rfl
          exact (E8.to ⟨HH1.out, HH2.out, HH3.out, h4, hbb.1, hbb.2, h5⟩ hto)
        obtain ⟨F1, hE0⟩ := hE0
        have HE0 := Lib.hid hE0; clear hE0 hto
        by_cases hq : R.2.2 = 0
        · have hz : ((R.2.2 : Int) != 0) = false := by rw [hq]; rfl
          have hf := HF.out
          rw [rstep_ok rfl hq] at hf
          simp only at hf
          have hRR : 2 * R.1.nodes.length ≤ 131072 := HFU.out.ok.ok.small
          have hRl := HFU.out.ok.lt
          obtain ⟨z, hzz⟩ : ∃ z, z = R.2.1 := ⟨_, rfl⟩
          have hNot := fun W => Not_any z W (by omega)
          rw [← hzz] at hf hRl ⊢
          have HNOT := Lib.hid hNot; clear hNot
          have hzlt : neg z < 2 * R.1.nodes.length := neg_lt hRl
          have hLl : ∀ r ∈ l, r < 2 * R.1.nodes.length := fun r hr => HFU.out.ok.ext.lt (HLT.out r hr)
          have hlokA := fun j => eachF_lok HFU.out.ok.ok full_and2 ((l.take j).map fun r => (r, neg z)) (fun p hp => by
            obtain ⟨r, hr, rfl⟩ := List.mem_map.1 hp
            exact ⟨hLl r (List.mem_of_mem_take hr), hzlt⟩)
          have hlenA := fun j => eachF_len (rop and) (R.1, 0) ((l.take j).map fun r => (r, neg z))
          have HF2 := Lib.hid hf; clear hf
          have HLOKA := Lib.hid hlokA; clear hlokA
          have HLENA := Lib.hid hlenA; clear hlenA
          have HZLT := Lib.hid hzlt; clear hzlt
          have HLL2 := Lib.hid hLl; clear hLl hRl HF hzz hRR
          go_wp2_with fail
          go_loopw [11, 72] (fun e i wr => ∃ (j : Nat) (Gq : Gra) (mm F2 : List Nat), j ≤ n ∧ i = .int .i64 j ∧ e = .int .i64 (0 : Nat) ∧ eachF (rop and) (R.1, 0) ((l.take j).map fun r => (r, neg z)) = ((Gq, 0), mm) ∧ E8 w g F wr b n vc Gq (mm ++ l.drop j) F2) (fun _ i _ => n - (intOf i).toNat)
          case atStart => exact ⟨0, R.1, [], F1, by omega, rfl, by simp, rfl, HE0.out⟩
          case round =>
            obtain ⟨j, Gq, mm, F2, hj, rfl, rfl, heq, hE⟩ := hrel
            have hlj := HLOKA.out j
            have hlnj := HLENA.out j
            rw [heq] at hlj hlnj
            simp only [List.length_map, List.length_take] at hlnj
            have hmm : mm.length = j := by rw [hlnj]; have := HLL.out; omega
            by_cases hjn : j < n
            · obtain ⟨a, ha⟩ : ∃ a, l[j]? = some a := ⟨_, List.getElem?_eq_getElem (by rw [HLL.out]; exact hjn)⟩
              have hat : (mm ++ l.drop j)[j]? = some a := by
                rw [List.getElem?_append_right (by omega), hmm, Nat.sub_self, List.getElem?_drop, Nat.add_zero, ha]
              obtain ⟨c0, c1⟩ := hE.at hat (by omega)
              have halt := hlj.s.ext.lt (HLL2.out a (List.mem_of_getElem? ha))
              have hzl := hlj.s.ext.lt HZLT.out
              have hAnd := And_r hE.gin halt hzl
              have hfa := and_full hlj.s.ok halt hzl
              have hsn : (l.take (j + 1)).map (fun r => (r, neg z)) = (l.take j).map (fun r => (r, neg z)) ++ [(a, neg z)] := by rw [List.take_add_one, ha]; simp
              have hnx := eachF_snoc (rop and) (R.1, 0) ((l.take j).map fun r => (r, neg z)) (a, neg z)
              rw [heq, ← hsn] at hnx
              have hset : ∀ r, (mm ++ l.drop j).set j r = (mm ++ [r]) ++ l.drop (j + 1) := fun r => by
                rw [List.set_append_right _ _ (by omega), hmm, Nat.sub_self]
                have hd : l.drop j = a :: l.drop (j + 1) := by
                  have hlt := (List.getElem?_eq_some_iff.1 ha).1
                  rw [List.drop_eq_getElem_cons hlt]
                  congr 1
                  exact (List.getElem?_eq_some_iff.1 ha).2
                rw [hd, List.set_cons_zero, List.append_assoc]
                rfl
              obtain ⟨Q, hQ⟩ : ∃ Q, Q = and Gq a (neg z) := ⟨_, rfl⟩
              have hopq : rop and (Gq, 0) a (neg z) = rstep (Gq, 0) Q := by rw [hQ]; rfl
              rw [← hQ] at hAnd hfa
              have HAND := Lib.hid hAnd; clear hAnd
              have HFA := Lib.hid hfa; clear hfa
              have HNX := Lib.hid hnx; clear hnx
              have HSET := Lib.hid hset; clear hset
              have HE := Lib.hid hE; clear hE
              have HEQ := Lib.hid heq; clear heq
              have HOPQ := Lib.hid hopq; clear hopq
              have HLJ := Lib.hid hlj; clear hlj
              have HSN := Lib.hid hsn; clear hsn
              clear hat halt hzl hQ hlnj hmm HE0
              go_wp2_with fail
              refine (HNOT.out _).mono ?_
              rintro e w5 ⟨rfl, rfl⟩
              go_wp2_with fail
              refine HAND.out.mono ?_
              rintro e w6 ⟨rfl, hto⟩
              obtain ⟨F3, hE3⟩ := HE.out.to hto
              obtain ⟨d0, d1⟩ := hE3.at (show (mm ++ l.drop j)[j]? = some a by
                have := congrArg List.length (congrArg Prod.snd HEQ.out)
                rw [HLENA.out j] at this
                simp only [List.length_map, List.length_take] at this
                rw [List.getElem?_append_right (by have := HLL.out; omega), show j - mm.length = 0 by have := HLL.out; omega, List.getElem?_drop, Nat.add_zero, ha]) (by omega)
              have hE4 := hE3.put j Q.2.1
              rw [HSET.out] at hE4
              have HE4 := Lib.hid hE4; clear hE4 hto hE3
              by_cases hq2 : Q.2.2 = 0
              · have hz2 : ((Q.2.2 : Int) != 0) = false := by rw [hq2]; rfl
                have hnx := HNX.out
                unfold eachS at hnx
                simp only [HOPQ.out, rstep_ok (s := (Gq, 0)) rfl hq2] at hnx
                have HNX2 := Lib.hid hnx; clear hnx
                have HQ2 := Lib.hid hq2; clear hq2
                clear ha
                go_wp2_with fail
                go_roundw
                case rel => exact ⟨j + 1, Q.1, mm ++ [Q.2.1], F3, by omega, by go_num, by rw [HQ2.out], HNX2.out, HE4.out⟩
                case measure => simp [intOf]; omega
              · have hQ := HFA.out.keep hq2
                subst hQ
                have hnx := HNX.out
                unfold eachS at hnx
                simp only [HOPQ.out, rstep_no (s := (Gq, 0)) rfl hq2] at hnx
                have hb2 := eachF_bad and (R.1, 0) ((l.take (j + 1)).map fun r => (r, neg z)) ((l.drop (j + 1)).map fun r => (r, neg z)) (by rw [hnx]; simp)
                rw [← List.map_append, List.take_append_drop, hnx] at hb2
                have hf := HF2.out
                have hfin : Step5 G (moveF side (G, 0) X Y) Gq [] 201 := by
                  rw [hf]
                  refine ⟨fun h0 => ?_, fun _ => ⟨rfl, ?_⟩, .inr ?_, (HEXT.out.trans HFU.out.ok.ext).trans HLJ.out.s.ext, HLJ.out.s.ok⟩
                  · rw [hb2] at h0; cases h0
                  · rw [hb2]
                  · rw [hb2]
                have HFIN := Lib.hid hfin
                clear hfin hf hb2 hnx hq2 ha
                go_wp2_with fail
                rw [Exit.noGoto_ret]
                go_ret2
                exact ⟨_, _, _, _, rfl, HFIN.out, HE4.out.bad⟩
            · have hjn2 : j = n := by omega
              have hall : l.take j = l := List.take_of_length_le (by have := HLL.out; omega)
              have hdr : l.drop j = [] := List.drop_eq_nil_of_le (by have := HLL.out; omega)
              rw [hall] at heq
              rw [hdr, List.append_nil] at hE
              have hf := HF2.out
              rw [heq] at hf
              have hfin : Step5 G (moveF side (G, 0) X Y) Gq mm 0 := by
                rw [hf]; exact ⟨fun _ => ⟨rfl, rfl, rfl⟩, fun h0 => absurd rfl h0, .inl rfl, (HEXT.out.trans HFU.out.ok.ext).trans hlj.s.ext, hlj.s.ok⟩
              have HFIN := Lib.hid hfin
              have HDONE := Lib.hid (hE.done (by omega))
              clear hfin hf hE heq hall hdr hlj hlnj HE0
              go_wp2_with fail
              rw [Exit.noGoto_ret]
              go_ret2
              exact ⟨_, _, _, _, rfl, HFIN.out, HDONE.out⟩
        · have hQ := HFU.out.keep hq
          subst hQ
          have hf := HF.out
          rw [rstep_no (s := (Gp, 0)) rfl hq] at hf
          have hb2 := eachF_bad' and (s := (Gp, 201)) (by simp) (l.map fun r => (r, neg 0))
          have hfin : Step5 G (moveF side (G, 0) X Y) Gp [] 201 := by
            rw [hf]
            refine ⟨fun h0 => ?_, fun _ => ⟨rfl, ?_⟩, .inr ?_, HEXT.out, HOP.out⟩
            · rw [hb2] at h0; cases h0
            · rw [hb2]
            · rw [hb2]
          have HFIN := Lib.hid hfin
          clear hfin hf hb2 hq
          go_wp2_with fail
          rw [Exit.noGoto_ret]
          go_ret2
          exact ⟨_, _, _, _, rfl, HFIN.out, HE0.out.bad⟩
end
end Go.Proofs.Ytchledddgmbndaa
namespace Go.Proofs.Ytchledddgmbndaa
open Go.RowKit Go.Mem Go.Aig
section
variable {w : World} {g : Nat} {G : Gra} {F : List Nat}
theorem fnvBy1 : Fnv 87 := fnv_of Try.func87 (by simp [Try.f87]) (by simp [Try.f87])
set_option maxRecDepth 100000 in
set_option maxHeartbeats 1000000 in
theorem By1_is (h : GIn w g G F) {bx : Nat} (hb : w.cell? ⟨bx, 0, none⟩ = some (.pointer (some ⟨g, 0, none⟩))) (r : Int) (hr : r ≤ 9223372036854775807) :
    Calls Try.prog 87 (#[.int .i64 r] ++ #[.pointer (some ⟨bx, 0, none⟩)]) w fun e w' => e = .returned (.bool (!right G.nodes r)) ∧ w = w' := by
  show Calls Try.prog 87 #[.int .i64 r, .pointer (some ⟨bx, 0, none⟩)] w _
  have HR := Right_g h r hr
  clear h
  generalize right G.nodes r = q at *
  go_enter Try.func87, Try.ntmps87
  go_wp2_with fail
  refine HR.mono ?_
  rintro e w' ⟨rfl, rfl⟩
  go_wp2_with fail
  go_ret
  exact ⟨ret_bool rfl, rfl⟩
theorem byG_bad {side : Nat} {x y : List Int} {e : Nat} (h : chkBy G side x y = e) (he : e ≠ 0) : byG G side x y = (G, [], e) := by unfold byG; rw [h, if_pos he]
theorem byG_ok {side : Nat} {x y : List Int} (h : chkBy G side x y = 0) : byG G side x y = wres G (moveF side (G, 0) (nats x) (nats y)) := by unfold byG; rw [h, if_neg (by simp)]
set_option maxRecDepth 100000 in
set_option maxHeartbeats 4000000 in
theorem By_is (h : GIn w g G F) (side : Nat) {xa ya : Option Addr} {xl yl : List Int} {xc yc n m : Nat} (hx : WVin w F ⟨xa, xl, xc⟩) (hy : WVin w F ⟨ya, yl, yc⟩) (hn : xl.length = n) (hm : yl.length = m) (hyc : m ≤ yc) :
    Calls Try.prog 40 #[.pointer (some ⟨g, 0, none⟩), .int .u8 side, .slice xa n xc, .slice ya m yc] w fun e w' => ∃ v, e = .returned (.tuple #[v, .int .i64 (byG G side xl yl).2.2]) ∧ GVo w g (byG G side xl yl).1 [] F v (byG G side xl yl).2.1 w' := by
  have hok := h.ok
  have hpos := hok.wf.pos
  have hroom := hok.room
  have hmost := hok.most
  have hl := h.lt
  have hp0 : ((G.nodes.length : Int) == 0) = false := beqN (by omega)
  have hbad := fun e he => @byG_bad G side xl yl e he
  have hgood := @byG_ok G side xl yl
  have hck : chkBy G side xl yl = if side ≠ 1 ∧ side ≠ 2 then 251 else if rightB n = false ∨ rightB m = false then 250 else if badIn G xl = true ∨ badIn G yl = true then 200 else 0 := by unfold chkBy; rw [hn, hm]
  generalize hWW : byG G side xl yl = WW at *
  have HCK := Lib.hid hck; clear hck
  have HBAD := Lib.hid hbad; clear hbad
  have HGOOD := Lib.hid hgood; clear hgood
  have HWW := Lib.hid hWW; clear hWW
  have HOK := Lib.hid hok; clear hok
  have HL := Lib.hid hl; clear hl
  have H := Lib.hid h; clear h
  have HX := Lib.hid hx; clear hx
  have HY := Lib.hid hy; clear hy
  have HN := Lib.hid hn; clear hn
  have HM := Lib.hid hm; clear hm
  go_enter Try.func40, Try.ntmps40
  go_wp2_with fail
  refine moves25_is.mono ?_
  rintro e w1 ⟨mb, rfl, hum, hc1⟩
  have hc : Ch [] w w1 := ((Ch.refl [] w).alloc _).trans hc1 (by simp)
  have b1 : w1.cell? ⟨w.heap.size, 0, none⟩ = some (.pointer (some ⟨g, 0, none⟩)) := (hc1.cell (p := ⟨w.heap.size, 0, none⟩) (by simp) (by simp)).trans (by go_simp)
  have h1 := H.out.same hc (by simp)
  have hx1 := HX.out.ch hc
  have hy1 := HY.out.ch hc
  have hLen := Len_g h1
  have hR1 := right25_is (w := w1) n
  have hR2 := right25_is (w := w1) m
  have hC1 := CFref_is xc 87 #[.pointer (some ⟨w.heap.size, 0, none⟩)] (fun r => !right G.nodes r) hx1.ok.sl (fun r hr => By1_is h1 b1 r (hx1.ok.bd r hr).2) fnvBy1
  have hC2 := CFref_is yc 87 #[.pointer (some ⟨w.heap.size, 0, none⟩)] (fun r => !right G.nodes r) hy1.ok.sl (fun r hr => By1_is h1 b1 r (hy1.ok.bd r hr).2) fnvBy1
  simp only [HN.out, HM.out] at hC1 hC2
  rw [show xl.any (fun r => !right G.nodes r) = badIn G xl from rfl] at hC1
  rw [show yl.any (fun r => !right G.nodes r) = badIn G yl from rfl] at hC2
  have HC1 := Lib.hid hC1; clear hC1
  have HC2 := Lib.hid hC2; clear hC2
  have HR1 := Lib.hid hR1; clear hR1
  have HR2 := Lib.hid hR2; clear hR2
  have HLEN := Lib.hid hLen; clear hLen
  have HC := Lib.hid hc; clear hc hc1
  have H1 := Lib.hid h1; clear h1
  have HX1 := Lib.hid hx1; clear hx1
  have HY1 := Lib.hid hy1; clear hy1
  have hend : ∀ e, e ≠ 0 → chkBy G side xl yl = e → WW = (G, [], e) := fun e h1 h2 => HBAD.out e h2 h1
  have hnil : GVo w g G [] F (.slice none 0 0) [] w1 := GVo.nil (F' := F) H1.out (HC.out.mono (by simp)) (fun k hk => .inl hk) rfl
  have HNIL := Lib.hid hnil; clear hnil
  have HEND := Lib.hid hend; clear hend
  by_cases hs : side = 1 ∨ side = 2
  · have h7 := (sides_at hum hs).2
    generalize (if side = 1 then 119 else 120) = fid at h7
    have hck := HCK.out
    rw [if_neg (by omega)] at hck
    have HUM := Lib.hid hum; clear hum
    go_wp2_with fail
    refine HLEN.out.mono ?_
    rintro e w' ⟨rfl, rfl⟩
    go_wp2_with fail
    cases hr : rightB n
    · rw [if_pos (.inl hr)] at hck
      have hww := HEND.out 250 (by omega) hck
      have hR1 := HR1.out
      rw [hr] at hR1
      subst hww
      clear hck hr
      refine hR1.mono ?_
      rintro e w' ⟨rfl, rfl⟩
      go_wp2_with fail
      go_ret2
      exact ⟨_, rfl, HNIL.out⟩
    · have hR1 := HR1.out
      rw [hr] at hR1
      refine hR1.mono ?_
      rintro e w' ⟨rfl, rfl⟩
      clear hR1
      cases hr2 : rightB m
      · rw [if_pos (.inr hr2)] at hck
        have hww := HEND.out 250 (by omega) hck
        have hR2 := HR2.out
        rw [hr2] at hR2
        subst hww
        clear hck hr hr2
        go_wp2_with fail
        refine hR2.mono ?_
        rintro e w' ⟨rfl, rfl⟩
        go_wp2_with fail
        go_ret2
        exact ⟨_, rfl, HNIL.out⟩
      · rw [if_neg (by rw [hr, hr2]; simp)] at hck
        have hR2 := HR2.out
        rw [hr2] at hR2
        go_wp2_with fail
        refine hR2.mono ?_
        rintro e w' ⟨rfl, rfl⟩
        clear hR2
        cases hb : badIn G xl
        · have hC1 := HC1.out
          rw [hb] at hC1
          cases hb2 : badIn G yl
          · have hC2 := HC2.out
            rw [hb2] at hC2
            rw [if_neg (by rw [hb, hb2]; simp)] at hck
            have hww := HGOOD.out hck
            unfold rightB at hr hr2
            simp only [Bool.and_eq_true, decide_eq_true_eq] at hr hr2
            have hmv := move25_is H1.out hs HX1.out HY1.out HN.out HM.out (by omega) (by omega) (by omega) (by omega) hyc hb hb2
            have HMV := Lib.hid hmv; clear hmv
            have HWE := Lib.hid hww; clear hww
            clear hck hr hr2 hb hb2
            go_wp2_with fail
            refine hC1.mono ?_
            rintro e w' ⟨rfl, rfl⟩
            go_wp2_with fail
            refine hC2.mono ?_
            rintro e w' ⟨rfl, rfl⟩
            go_wp2_with fail
            refine HLEN.out.mono ?_
            rintro e w' ⟨rfl, rfl⟩
            go_wp2_with fail
            refine HMV.out.mono ?_
            rintro e w2 ⟨v, G1, l1, e1, rfl, hst, hv⟩
            have b2 : w2.cell? ⟨w.heap.size, 0, none⟩ = some (.pointer (some ⟨g, 0, none⟩)) := by
              obtain ⟨_, _, hch, _⟩ := hv
              exact (hch.cell (p := ⟨w.heap.size, 0, none⟩) (cell_lt b1) (by simp only [List.nil_append]; exact fun hk => by have := HL.out _ hk; omega)).trans b1
            obtain ⟨R, hR⟩ : ∃ R, R = moveF side (G, 0) (nats xl) (nats yl) := ⟨_, rfl⟩
            rw [← hR] at hst
            have hwe := HWE.out
            rw [← hR] at hwe
            have hsz1 := cell_lt b1
            simp only at hsz1
            clear hC1 hC2 b1 h7
            by_cases hz : R.1.2 = 0
            · obtain ⟨rfl, rfl, rfl⟩ := hst.yes hz
              have hw : wres G R = (R.1.1, R.2, 0) := by unfold wres; rw [if_neg (by simp [hz])]
              rw [hw] at hwe
              subst hwe
              have hv2 := GVo.since HC.out hv
              obtain ⟨va, vc, rfl⟩ := (show ∃ a c, v = .slice a R.2.length c from by obtain ⟨_, _, _, _, _, h5, _⟩ := hv; exact row.shape h5)
              have HV2 := Lib.hid hv2; clear hv2 hv hw hz hst hR
              go_wp2_with fail
              go_ret2
              exact ⟨_, rfl, HV2.out⟩
            · obtain ⟨rfl, he1⟩ := hst.no hz
              have h201 : e1 = 201 := by have := hst.err; omega
              subst h201
              have hw : wres G R = (G, [], 201) := by unfold wres; rw [if_pos hz, ← he1]
              rw [hw] at hwe
              subst hwe
              obtain ⟨F', k1, k2, k3, k4, k5, _⟩ := hv
              obtain ⟨va, vc, rfl⟩ := row.shape k5
              have hcut := Cut_g k1 G.nodes.length (by omega) (by omega)
              rw [doCut_back HOK.out hst.ext] at hcut
              have K2 := Lib.hid k2; clear k2
              have K3 := Lib.hid k3; clear k3
              have HCUT := Lib.hid hcut; clear hcut
              have hbF : w.heap.size ∉ F' := fun hk => (K3.out _ hk).elim (fun e => by have := HL.out _ e; omega) (fun e => by omega)
              have HBF := Lib.hid hbF; clear hbF
              clear hw hz hst hR k1 k5 he1
              go_wp2_with fail
              refine HCUT.out.mono ?_
              rintro e w4 ⟨rfl, F4, hg4, hc4, hF4, hF42⟩
              have hlast : GVo w g G [] F (.slice none 0 0) [] w4 := GVo.nil (F' := F4) hg4 ((HC.out.mono (by simp)).trans (K2.out.trans hc4 (fun k hk => by simpa using K3.out k hk)) (fun k hk => .inl hk)) (fun k hk => (hF4 k hk).elim (fun e => (K3.out k e).imp id (fun e => Nat.le_trans HC.out.size e)) (fun e => .inr (by have := HC.out.size; have := K2.out.size; omega))) (hF42.trans k4)
              have HLAST := Lib.hid hlast; clear hlast hg4 hc4 hF4 hF42
              go_wp2_with fail
              go_ret2
              exact ⟨_, rfl, HLAST.out⟩
          · have hC2 := HC2.out
            rw [hb2] at hC2
            rw [if_pos (.inr hb2)] at hck
            have hww := HEND.out 200 (by omega) hck
            subst hww
            clear hck hr hr2 hb hb2
            go_wp2_with fail
            refine hC1.mono ?_
            rintro e w' ⟨rfl, rfl⟩
            go_wp2_with fail
            refine hC2.mono ?_
            rintro e w' ⟨rfl, rfl⟩
            go_wp2_with fail
            go_ret2
            exact ⟨_, rfl, HNIL.out⟩
        · have hC1 := HC1.out
          rw [hb] at hC1
          rw [if_pos (.inl hb)] at hck
          have hww := HEND.out 200 (by omega) hck
          subst hww
          clear hck hr hr2 hb
          go_wp2_with fail
          refine hC1.mono ?_
          rintro e w' ⟨rfl, rfl⟩
          go_wp2_with fail
          go_ret2
          exact ⟨_, rfl, HNIL.out⟩
  · have h7 := (sides_no hum (side := side) (by omega)).2
    have hck := HCK.out
    rw [if_pos (by omega)] at hck
    have hww := HEND.out 251 (by omega) hck
    subst hww
    have HUM := Lib.hid hum; clear hum hck
    go_wp2_with fail
    refine HLEN.out.mono ?_
    rintro e w' ⟨rfl, rfl⟩
    go_wp2_with fail
    go_ret2
    exact ⟨_, rfl, HNIL.out⟩
set_option maxRecDepth 100000 in
set_option maxHeartbeats 1000000 in
theorem Shl_is (h : GIn w g G F) {xa ya : Option Addr} {xl yl : List Int} {xc yc n m : Nat} (hx : WVin w F ⟨xa, xl, xc⟩) (hy : WVin w F ⟨ya, yl, yc⟩) (hn : xl.length = n) (hm : yl.length = m) (hyc : m ≤ yc) :
    Calls Try.prog 41 #[.pointer (some ⟨g, 0, none⟩), .slice xa n xc, .slice ya m yc] w fun e w' => ∃ v, e = .returned (.tuple #[v, .int .i64 (byG G 1 xl yl).2.2]) ∧ GVo w g (byG G 1 xl yl).1 [] F v (byG G 1 xl yl).2.1 w' := by
  have hB := By_is h 1 hx hy hn hm hyc
  generalize byG G 1 xl yl = WW at *
  clear h hx hy hn hm
  have HB := Lib.hid hB; clear hB
  go_enter Try.func41, Try.ntmps41
  go_wp2_with fail
  refine HB.out.mono ?_
  rintro e w2 ⟨v, rfl, hv⟩
  obtain ⟨va, vc, rfl⟩ := (show ∃ a c, v = .slice a WW.2.1.length c from by obtain ⟨_, _, _, _, _, h5, _⟩ := hv; exact row.shape h5)
  have HV := Lib.hid hv; clear hv
  go_wp2_with fail
  go_ret2
  exact ⟨_, rfl, HV.out⟩
set_option maxRecDepth 100000 in
set_option maxHeartbeats 1000000 in
theorem Shr_is (h : GIn w g G F) {xa ya : Option Addr} {xl yl : List Int} {xc yc n m : Nat} (hx : WVin w F ⟨xa, xl, xc⟩) (hy : WVin w F ⟨ya, yl, yc⟩) (hn : xl.length = n) (hm : yl.length = m) (hyc : m ≤ yc) :
    Calls Try.prog 42 #[.pointer (some ⟨g, 0, none⟩), .slice xa n xc, .slice ya m yc] w fun e w' => ∃ v, e = .returned (.tuple #[v, .int .i64 (byG G 2 xl yl).2.2]) ∧ GVo w g (byG G 2 xl yl).1 [] F v (byG G 2 xl yl).2.1 w' := by
  have hB := By_is h 2 hx hy hn hm hyc
  generalize byG G 2 xl yl = WW at *
  clear h hx hy hn hm
  have HB := Lib.hid hB; clear hB
  go_enter Try.func42, Try.ntmps42
  go_wp2_with fail
  refine HB.out.mono ?_
  rintro e w2 ⟨v, rfl, hv⟩
  obtain ⟨va, vc, rfl⟩ := (show ∃ a c, v = .slice a WW.2.1.length c from by obtain ⟨_, _, _, _, _, h5, _⟩ := hv; exact row.shape h5)
  have HV := Lib.hid hv; clear hv
  go_wp2_with fail
  go_ret2
  exact ⟨_, rfl, HV.out⟩
end
end Go.Proofs.Ytchledddgmbndaa
namespace Go.Aig
theorem turnL_k {x : List Int} (hx : 0 < x.length) (n : Int) : ∃ k : Nat, k < x.length ∧ (k : Int) = n % x.length ∧ turnL x n = x.drop k ++ x.take k := by
  have h1 := Int.emod_nonneg n (show (x.length : Int) ≠ 0 by omega)
  have h2 := Int.emod_lt_of_pos n (show (0 : Int) < x.length by omega)
  refine ⟨(n % x.length).toNat, by omega, by omega, ?_⟩
  unfold turnL
  rfl
@[simp] theorem turnL_len (x : List Int) (n : Int) : (turnL x n).length = x.length := by
  unfold turnL
  dsimp only
  by_cases hx : 0 < x.length
  · have h1 := Int.emod_nonneg n (show (x.length : Int) ≠ 0 by omega)
    have h2 := Int.emod_lt_of_pos n (show (0 : Int) < x.length by omega)
    have e : n.emod x.length = n % x.length := rfl
    rw [List.length_append, List.length_drop, List.length_take]
    omega
  · have : x = [] := List.eq_nil_of_length_eq_zero (by omega)
    subst this
    simp
theorem turnL_at {x : List Int} {n : Int} {i : Nat} (hi : i < x.length) : (turnL x n)[i]? = x[((i + n) % x.length).toNat]? := by
  obtain ⟨k, hk, he, ht⟩ := turnL_k (Nat.lt_of_le_of_lt (Nat.zero_le _) hi) n
  rw [ht]
  have hx : (0 : Int) < x.length := by omega
  by_cases hik : i < x.length - k
  · rw [List.getElem?_append_left (by rw [List.length_drop]; omega), List.getElem?_drop]
    congr 1
    have : ((i : Int) + n) % x.length = i + k := by
      rw [← Int.add_emod_emod, ← he]
      exact Int.emod_eq_of_lt (by omega) (by omega)
    omega
  · rw [List.getElem?_append_right (by rw [List.length_drop]; omega), List.length_drop, List.getElem?_take_of_lt (by omega)]
    congr 1
    have : ((i : Int) + n) % x.length = i + k - x.length := by
      rw [← Int.add_emod_emod, ← he, ← Int.sub_emod_right]
      exact Int.emod_eq_of_lt (by omega) (by omega)
    omega
theorem turnL_congr {x : List Int} {n m : Int} (h : n % x.length = m % x.length) : turnL x n = turnL x m := by
  have e : ∀ q : Int, q.emod x.length = q % x.length := fun _ => rfl
  unfold turnL
  rw [e, e, h]
theorem turnL_turnL (x : List Int) (n m : Int) : turnL (turnL x n) m = turnL x (n + m) := by
  refine List.ext_getElem? fun i => ?_
  by_cases hi : i < x.length
  · have hx : (0 : Int) < x.length := by omega
    have h1 := Int.emod_nonneg ((i : Int) + m) (show (x.length : Int) ≠ 0 by omega)
    have h2 := Int.emod_lt_of_pos ((i : Int) + m) hx
    rw [turnL_at (by simpa using hi), turnL_at hi]
    simp only [turnL_len]
    rw [turnL_at (by omega)]
    congr 2
    rw [Int.toNat_of_nonneg h1, Int.emod_add_emod]
    congr 1
    omega
  · rw [List.getElem?_eq_none (by simp; omega), List.getElem?_eq_none (by simp; omega)]
theorem turnL_zero (x : List Int) : turnL x 0 = x := by
  unfold turnL
  have e : (0 : Int).emod x.length = 0 := Int.zero_emod _
  dsimp only
  rw [e]
  simp
theorem turnL_perm (x : List Int) (n : Int) : (turnL x n).Perm x := by
  unfold turnL
  dsimp only
  exact (List.perm_append_comm).trans (by rw [List.take_append_drop])
/-! ### shifts by constants -/
instance : DecidableEq Gra := fun a b => decidable_of_iff (a.most = b.most ∧ a.nodes = b.nodes) ⟨fun h => by cases a; cases b; simp_all, fun h => by subst h; exact ⟨rfl, rfl⟩⟩
def fixedB (n k side : Nat) : Bool := decide (byG (gIn 4000 (n + 1)) side (natInts (rIn 0 n)) (natInts (constL k 6)) = (gIn 4000 (n + 1), shN side (rIn 0 n) (min k n), 0))
set_option maxRecDepth 100000 in
theorem fixed_all : (List.range 9).all (fun n => (List.range 21).all fun k => fixedB (n + 1) k 1 && fixedB (n + 1) k 2) = true := by decide +kernel
theorem fixed_facts {n k side : Nat} (h1 : 1 ≤ n) (h9 : n ≤ 9) (hk : k ≤ 20) (hs : side = 1 ∨ side = 2) : byG (gIn 4000 (n + 1)) side (natInts (rIn 0 n)) (natInts (constL k 6)) = (gIn 4000 (n + 1), shN side (rIn 0 n) (min k n), 0) := by
  have h := List.all_eq_true.1 fixed_all (n - 1) (List.mem_range.2 (by omega))
  have h := List.all_eq_true.1 h k (List.mem_range.2 (by omega))
  rw [show n - 1 + 1 = n by omega, Bool.and_eq_true] at h
  rcases hs with rfl | rfl
  · exact of_decide_eq_true h.1
  · exact of_decide_eq_true h.2
/-- shifted twice to one side -/
theorem shL_shL {side : Nat} (x : List Int) (n m : Nat) : shL side (shL side x (min n x.length)) (min m x.length) = shL side x (min (n + m) x.length) := by
  refine List.ext_getElem? fun i => ?_
  by_cases hi : i < x.length
  · have g : ∀ (y : List Int) (j k : Nat), (shL side y k).getD j 0 = if j < y.length then (if side = 1 then (if k ≤ j then y.getD (j - k) 0 else 0) else y.getD (j + k) 0) else 0 := fun y j k => by
      rw [List.getD_eq_getElem?_getD]
      split
      · rename_i h; rw [shL_at h]; rfl
      · rename_i h; rw [List.getElem?_eq_none (by simp; omega)]; rfl
    have z : ∀ j, x.length ≤ j → x.getD j 0 = 0 := fun j hj => by rw [List.getD_eq_getElem?_getD, List.getElem?_eq_none hj]; rfl
    rw [shL_at (by simpa using hi), shL_at hi]
    congr 1
    rw [g, g]
    split
    · by_cases h1 : min (n + m) x.length ≤ i
      · rw [if_pos h1, if_pos (by omega), if_pos (by omega), if_pos (by omega)]
        congr 1; omega
      · rw [if_neg h1]
        split
        · rw [if_pos (by omega), if_neg (by omega)]
        · rfl
    · by_cases h1 : i + (n + m) < x.length
      · rw [if_pos (by omega)]
        congr 1; omega
      · rw [z (i + min (n + m) x.length) (by omega)]
        split
        · exact z _ (by omega)
        · rfl
  · rw [List.getElem?_eq_none (by simp; omega), List.getElem?_eq_none (by simp; omega)]
end Go.Aig
namespace Go.Proofs.Ytchledddgmbndaa
open Go.RowKit Go.Mem Go.Aig
section
variable {w0 : Base} {w : World} {g : Nat} {G : Gra} {F : List Nat} {L : List (Value × List Int)}
theorem By_h (h : Hold w0 w g G F L) (side : Nat) {xa ya : Option Addr} {xl yl : List Int} {n m xc yc : Nat} (hx : (.slice xa n xc, xl) ∈ L) (hxn : xl.length = n) (hy : (.slice ya m yc, yl) ∈ L) (hym : yl.length = m) {G' : Gra} {l : List Nat} {e k : Nat} (hR : byG G side xl yl = (G', l, e)) (hk : l.length = k) (hb : ∀ r ∈ l, r ≤ 1000000) (hl : k ≤ 1000000) :
    Calls Try.prog 40 #[.pointer (some ⟨g, 0, none⟩), .int .u8 side, .slice xa n xc, .slice ya m yc] w fun en w' => ∃ a c F', en = .returned (.tuple #[.slice a k c, .int .i64 e]) ∧ Hold w0 w' g G' F' ((.slice a k c, natInts l) :: L) := by
  have hc := By_is h.own.gin side (h.at hx hxn) (h.at hy hym) hxn hym (h.held _ hy).cap
  exact Calls.word h hc hR hk hb hl
theorem Shl_h (h : Hold w0 w g G F L) {xa ya : Option Addr} {xl yl : List Int} {n m xc yc : Nat} (hx : (.slice xa n xc, xl) ∈ L) (hxn : xl.length = n) (hy : (.slice ya m yc, yl) ∈ L) (hym : yl.length = m) {G' : Gra} {l : List Nat} {e k : Nat} (hR : byG G 1 xl yl = (G', l, e)) (hk : l.length = k) (hb : ∀ r ∈ l, r ≤ 1000000) (hl : k ≤ 1000000) :
    Calls Try.prog 41 #[.pointer (some ⟨g, 0, none⟩), .slice xa n xc, .slice ya m yc] w fun en w' => ∃ a c F', en = .returned (.tuple #[.slice a k c, .int .i64 e]) ∧ Hold w0 w' g G' F' ((.slice a k c, natInts l) :: L) := by
  have hc := Shl_is h.own.gin (h.at hx hxn) (h.at hy hym) hxn hym (h.held _ hy).cap
  exact Calls.word h hc hR hk hb hl
theorem Shr_h (h : Hold w0 w g G F L) {xa ya : Option Addr} {xl yl : List Int} {n m xc yc : Nat} (hx : (.slice xa n xc, xl) ∈ L) (hxn : xl.length = n) (hy : (.slice ya m yc, yl) ∈ L) (hym : yl.length = m) {G' : Gra} {l : List Nat} {e k : Nat} (hR : byG G 2 xl yl = (G', l, e)) (hk : l.length = k) (hb : ∀ r ∈ l, r ≤ 1000000) (hl : k ≤ 1000000) :
    Calls Try.prog 42 #[.pointer (some ⟨g, 0, none⟩), .slice xa n xc, .slice ya m yc] w fun en w' => ∃ a c F', en = .returned (.tuple #[.slice a k c, .int .i64 e]) ∧ Hold w0 w' g G' F' ((.slice a k c, natInts l) :: L) := by
  have hc := Shr_is h.own.gin (h.at hx hxn) (h.at hy hym) hxn hym (h.held _ hy).cap
  exact Calls.word h hc hR hk hb hl
theorem Fixed_h (h : Hold w0 w g G F L) (side : Nat) {xa : Option Addr} {xl : List Int} {n xc : Nat} (hx : (.slice xa n xc, xl) ∈ L) (hxn : xl.length = n) (z : Int) {l : List Int} {e k : Nat} (hE : fixE side xl z = e) (hR : (if e = 0 then shL side xl (min z.toNat xl.length) else []) = l) (hk : l.length = k) :
    Calls Try.prog 39 #[.int .u8 side, .slice xa n xc, .int .i64 z] w fun en w' => ∃ a c, en = .returned (.tuple #[.slice a k c, .int .i64 e]) ∧ Hold w0 w' g G F ((.slice a k c, l) :: L) := by
  have hi := (h.at hx hxn).ok
  have hc := Fixed_is (side := side) xc z hi.sl hi.len
  simp only [hE, hR] at hc
  rw [hxn] at hc
  refine Calls.wnew h hc hk ?_ ?_
  · subst hR
    split
    · exact shL_bd hi.bd
    · simp
  · subst hR
    rw [← hk]
    split
    · rw [shL_len]; exact hi.len
    · simp
theorem Fixed_n (side : Nat) (z : Int) {e : Nat} (hE : fixE side [] z = e) (he : e ≠ 0) :
    Calls Try.prog 39 #[.int .u8 side, .slice none 0 0, .int .i64 z] w fun en w' => ∃ v, en = .returned (.tuple #[v, .int .i64 e]) ∧ Ch [] w w' := by
  have hc := Fixed_is (w := w) (side := side) (xa := none) (xl := []) 0 z ⟨fun i x hx => (by simp at hx), by simp⟩ (by simp)
  simp only [hE, if_neg he] at hc
  refine hc.mono ?_
  rintro en w' ⟨v, rfl, hv⟩
  exact ⟨v, rfl, hv.2.2⟩
theorem Turn_h (h : Hold w0 w g G F L) {xa : Option Addr} {xl : List Int} {n xc : Nat} (hx : (.slice xa n xc, xl) ∈ L) (hxn : xl.length = n) (z : Int) (hz : -9223372036854775808 ≤ z ∧ z ≤ 9223372036854775807) (hr : rightB n = true) {l : List Int} (hR : turnL xl z = l) :
    Calls Try.prog 43 #[.slice xa n xc, .int .i64 z] w fun en w' => ∃ a c, en = .returned (.tuple #[.slice a n c, .int .i64 0]) ∧ Hold w0 w' g G F ((.slice a n c, l) :: L) := by
  have hi := (h.at hx hxn).ok
  have hcap := (h.held _ hx).cap
  have hc := Turn_yes xc z hi.sl (by rw [hxn]; exact hcap) (by rw [hxn]; exact hr) hz
  rw [hR, hxn] at hc
  subst hR
  refine Calls.wnew (e := 0) h hc (by rw [turnL_len, hxn]) (fun r hr => hi.bd r ((turnL_perm xl z).mem_iff.1 hr)) (by rw [← hxn]; exact hi.len)
end
end Go.Proofs.Ytchledddgmbndaa
namespace Go.Proofs.Ytchledddgmbndaa
open Go.RowKit Go.Mem Go.Aig
set_option maxRecDepth 100000 in
set_option maxHeartbeats 4000000 in
theorem two25_is (w : World) (wd vd : Nat) (hw : wd ≤ 255) (hv : vd ≤ 255) : Calls Try.prog 38 #[.int .u8 wd, .int .u8 vd] w fun e w' => ∃ g F xa xc ya yc, e = .returned (.tuple #[.pointer (some ⟨g, 0, none⟩), .slice xa (wd % 9 + 1) xc, .slice ya (vd % 5 + 1) yc]) ∧
    Hold w w' g (gIn 4000 (wd % 9 + 1 + (vd % 5 + 1))) F [(.slice ya (vd % 5 + 1) yc, natInts (rIn (wd % 9 + 1) (vd % 5 + 1))), (.slice xa (wd % 9 + 1) xc, natInts (rIn 0 (wd % 9 + 1)))] := by
  obtain ⟨n, hn, hn9⟩ : ∃ n, wd % 9 + 1 = n ∧ n ≤ 9 := ⟨_, rfl, by omega⟩
  have hn1 : 1 ≤ n := by omega
  obtain ⟨m, hm, hm5⟩ : ∃ m, vd % 5 + 1 = m ∧ m ≤ 5 := ⟨_, rfl, by omega⟩
  have hm1 : 1 ≤ m := by omega
  rw [hn, hm]
  have hq : 1 + (wd : Int) % 9 = n := by omega
  have hq2 : 1 + (vd : Int) % 5 = m := by omega
  have hN := New_h (w := w) 4000 (by decide) (by decide)
  have HN := Lib.hid hN; clear hN
  clear hn hm
  go_enter Try.func38, Try.ntmps38
  go_wp2_with fail
  refine HN.out.mono ?_
  rintro e w1 ⟨g, F1, rfl, ho⟩
  have HO := Lib.hid ho; clear ho HN
  go_wp2_with fail
  refine (sInput_h HO.out n (G' := gIn 4000 n) (l := rIn 0 n) (e := 0) (k := n) (by have := inG_gIn (most := 4000) (s := 0) hn1 (by omega) (by omega); rw [Nat.zero_add] at this; exact this) (by simp) (fun r hr => by have := rIn_le hr; omega) (by omega)).mono ?_
  rintro e w2 ⟨xa, xc, F2, rfl, ho⟩
  clear HO; have HO := Lib.hid ho; clear ho
  go_wp2_with fail
  refine (sInput_h HO.out m (G' := gIn 4000 (n + m)) (l := rIn n m) (e := 0) (k := m) (inG_gIn (most := 4000) (s := n) hm1 (by omega) (by omega)) (by simp) (fun r hr => by have := rIn_le hr; omega) (by omega)).mono ?_
  rintro e w3 ⟨ya, yc, F3, rfl, ho⟩
  clear HO; have HO := Lib.hid ho; clear ho
  go_wp2_with fail
  go_ret3
  exact ⟨g, F3, xa, xc, ya, yc, rfl, HO.out⟩
end Go.Proofs.Ytchledddgmbndaa
namespace Go.Proofs.Ytchledddgmbndaa
open Go.RowKit Go.Mem Go.Aig
/-- words that are held, with no graph -/
structure Keeps (w0 w : World) (L : List (Value × List Int)) : Prop where
  ch : Ch [] w0 w
  held : ∀ p ∈ L, Held w0 w [] p.1 p.2
section
variable {w0 w : World} {L : List (Value × List Int)}
theorem Keeps.start (w : World) : Keeps w w [] := ⟨Ch.refl _ _, by simp⟩
theorem Keeps.same {w' : World} (h : Keeps w0 w L) (hc : Ch [] w w') : Keeps w0 w' L := ⟨h.ch.trans hc (by simp), fun p hp => (h.held p hp).keep hc (fun _ hk => by cases hk)⟩
theorem Keeps.new {w' : World} {v : Value} {l : List Int} (h : Keeps w0 w L) (ht : WNew w v (intCells l) w') (hb : ∀ r ∈ l, -9223372036854775808 ≤ r ∧ r ≤ 9223372036854775807) (hl : l.length ≤ 1000000) : ∃ a c, v = .slice a l.length c ∧ Keeps w0 w' ((.slice a l.length c, l) :: L) := by
  obtain ⟨h5, h6, h2⟩ := ht
  have e : (intCells l).length = l.length := by simp [intCells]
  rw [e] at h5
  obtain ⟨a, c, rfl⟩ := row.shape h5
  refine ⟨a, c, rfl, (h.same h2).ch, fun p hp => ?_⟩
  rcases List.mem_cons.1 hp with rfl | hp
  · exact ⟨h5, hl, hb, fun k hk => ⟨Nat.le_trans h.ch.size (h6 k (by simpa using hk)), by simp⟩⟩
  · exact (h.same h2).held p hp
theorem Keeps.fresh (h : Keeps w0 w L) {l : List Int} {n : Nat} (hn : l.length = n) (hb : ∀ r ∈ l, -9223372036854775808 ≤ r ∧ r ≤ 9223372036854775807) (hl : n ≤ 1000000) :
    Keeps w0 (w.alloc (.cells (intCells l).toArray 34)) ((.slice (some ⟨w.heap.size, 0, none⟩) n n, l) :: L) := by
  have hx : (w.alloc (.cells (intCells l).toArray 34)).heap[w.heap.size]? = some (.cells (intCells l).toArray 34 (0, 0)) := heap_alloc_new w _
  have hs := h.same ((Ch.refl [] w).alloc (.cells (intCells l).toArray 34))
  subst hn
  refine ⟨hs.ch, fun p hp => ?_⟩
  rcases List.mem_cons.1 hp with rfl | hp
  · refine ⟨⟨by simp [intCells], .inr ⟨w.heap.size, l.length, (intCells l).toArray, rfl, by simp, hx, Nat.le_refl _, by unfold maxLen; omega, by simp [intCells], by rw [Nat.mul_one]; exact List.take_of_length_le (by simp [intCells])⟩⟩, hl, hb, fun k hk => ?_⟩
    simp at hk; subst hk
    exact ⟨h.ch.size, by simp⟩
  · exact hs.held p hp
theorem Keeps.at (h : Keeps w0 w L) {a : Option Addr} {n c : Nat} {l : List Int} (hp : (.slice a n c, l) ∈ L) (hn : l.length = n) : WVin w [] ⟨a, l, c⟩ := (h.held _ hp).in hn
theorem Keeps.sl (h : Keeps w0 w L) {a : Option Addr} {n c : Nat} {l : List Int} (hp : (.slice a n c, l) ∈ L) (hn : l.length = n) : Sl w a l := (h.at hp hn).ok.sl
theorem Keeps.nil (h : Keeps w0 w L) : Keeps w0 w ((.slice none 0 0, []) :: L) := ⟨h.ch, fun p hp => by
  rcases List.mem_cons.1 hp with rfl | hp
  · exact ⟨⟨rfl, .inl ⟨rfl, rfl⟩⟩, by simp, by simp, fun k hk => by simp at hk⟩
  · exact h.held p hp⟩
theorem Keeps.sub {L' : List (Value × List Int)} (h : Keeps w0 w L) (hs : ∀ p ∈ L', p ∈ L) : Keeps w0 w L' := ⟨h.ch, fun q hq => h.held q (hs q hq)⟩
theorem Hold.keeps {B : Base} {g : Nat} {G : Gra} {F : List Nat} (h : Hold B w g G F L) : Keeps B.w w L := ⟨h.own.ch, fun p hp => ⟨(h.held p hp).row, (h.held p hp).len, (h.held p hp).bd, fun k hk => ⟨((h.held p hp).own k hk).1, by simp⟩⟩⟩
/-- a graph that is made beside words that are held -/
theorem Keeps.join {w' : World} {g : Nat} {G : Gra} {F : List Nat} {L' : List (Value × List Int)} (h : Keeps w0 w L) (h2 : Hold (w : Base) w' g G F L') : Hold (w0 : Base) w' g G F (L' ++ L) := by
  have hF : ∀ k ∈ F, w.heap.size ≤ k := h2.own.own
  refine ⟨⟨h2.own.gin, fun k hk => Nat.le_trans h.ch.size (hF k hk), h.ch.trans h2.own.ch (by simp)⟩, fun p hp => ?_, fun p hp => by cases hp⟩
  rcases List.mem_append.1 hp with hp | hp
  · have := h2.held p hp
    exact ⟨this.row, this.len, this.bd, fun k hk => ⟨Nat.le_trans h.ch.size (this.own k hk).1, (this.own k hk).2⟩⟩
  · exact (h.held p hp).keep h2.own.ch (fun k hk => .inr (hF k hk))
theorem Calls.wnewK {fid : FuncId} {args : Array Value} (h : Keeps w0 w L) {l : List Int} {e : Nat} (hC : Calls Try.prog fid args w fun en w' => ∃ v, en = .returned (.tuple #[v, .int .i64 e]) ∧ WNew w v (intCells l) w') {k : Nat} (hk : l.length = k) (hb : ∀ r ∈ l, -9223372036854775808 ≤ r ∧ r ≤ 9223372036854775807) (hl : k ≤ 1000000) :
    Calls Try.prog fid args w fun en w' => ∃ a c, en = .returned (.tuple #[.slice a k c, .int .i64 e]) ∧ Keeps w0 w' ((.slice a k c, l) :: L) := by
  subst hk
  refine hC.mono ?_
  rintro en w' ⟨v, rfl, hg⟩
  obtain ⟨a, c, rfl, hh⟩ := h.new hg hb hl
  exact ⟨a, c, rfl, hh⟩
theorem Fixed_k (h : Keeps w0 w L) (side : Nat) {xa : Option Addr} {xl : List Int} {n xc : Nat} (hx : (.slice xa n xc, xl) ∈ L) (hxn : xl.length = n) (z : Int) {l : List Int} {e k : Nat} (hE : fixE side xl z = e) (hR : (if e = 0 then shL side xl (min z.toNat xl.length) else []) = l) (hk : l.length = k) :
    Calls Try.prog 39 #[.int .u8 side, .slice xa n xc, .int .i64 z] w fun en w' => ∃ a c, en = .returned (.tuple #[.slice a k c, .int .i64 e]) ∧ Keeps w0 w' ((.slice a k c, l) :: L) := by
  have hi := (h.at hx hxn).ok
  have hc := Fixed_is (side := side) xc z hi.sl hi.len
  simp only [hE, hR] at hc
  rw [hxn] at hc
  refine Calls.wnewK h hc hk ?_ ?_
  · subst hR
    split
    · exact shL_bd hi.bd
    · simp
  · subst hR
    rw [← hk]
    split
    · rw [shL_len]; exact hi.len
    · simp
theorem Turn_k (h : Keeps w0 w L) {xa : Option Addr} {xl : List Int} {n xc : Nat} (hx : (.slice xa n xc, xl) ∈ L) (hxn : xl.length = n) (z : Int) (hz : -9223372036854775808 ≤ z ∧ z ≤ 9223372036854775807) (hr : rightB n = true) {l : List Int} (hR : turnL xl z = l) :
    Calls Try.prog 43 #[.slice xa n xc, .int .i64 z] w fun en w' => ∃ a c, en = .returned (.tuple #[.slice a n c, .int .i64 (0 : Nat)]) ∧ Keeps w0 w' ((.slice a n c, l) :: L) := by
  have hi := (h.at hx hxn).ok
  have hcap := (h.held _ hx).cap
  have hc := Turn_yes xc z hi.sl (by rw [hxn]; exact hcap) (by rw [hxn]; exact hr) hz
  rw [hR, hxn] at hc
  subst hR
  exact Calls.wnewK (e := 0) h hc (by rw [turnL_len, hxn]) (fun r hr => hi.bd r ((turnL_perm xl z).mem_iff.1 hr)) (by rw [← hxn]; exact hi.len)
theorem Eqref_k (h : Keeps w0 w L) {xa ya : Option Addr} {xl yl : List Int} {n m xc yc : Nat} (hx : (.slice xa n xc, xl) ∈ L) (hxn : xl.length = n) (hy : (.slice ya m yc, yl) ∈ L) (hym : yl.length = m) {q : Bool} (hq : decide (xl = yl) = q) : Calls Try.prog 34 #[.slice xa n xc, .slice ya m yc] w fun e w' => e = .returned (.bool q) ∧ Keeps w0 w' L := by
  subst hq
  have hc := Eqref_is (w := w) xc yc (h.sl hx hxn) (h.sl hy hym)
  simp only [hxn, hym] at hc
  refine hc.mono ?_
  rintro e w' ⟨rfl, hc⟩
  exact ⟨rfl, h.same hc⟩
theorem Steps_k (h : Keeps w0 w L) (n m : Int) {k e : Nat} (hk : (if rightB n && rightB m then stepsN n.toNat m.toNat else 0 : Nat) = k) (he : (if rightB n && rightB m then 0 else 250 : Nat) = e) :
    Calls Try.prog 44 #[.int .i64 n, .int .i64 m] w fun en w' => en = .returned (.tuple #[.int .i64 k, .int .i64 e]) ∧ Keeps w0 w' L := by
  subst hk he
  exact (Steps_is n m).mono fun en w' ⟨h1, h2⟩ => ⟨h1, h2 ▸ h⟩
end
end Go.Proofs.Ytchledddgmbndaa
namespace Go.Proofs.Ytchledddgmbndaa
open Go.RowKit Go.Mem Go.Aig
def ta1 : Gra := ⟨4000, [⟨1, 0, 0, 0⟩, ⟨2, 0, 0, 0⟩, ⟨2, 0, 0, 0⟩, ⟨3, 2, 5, 1⟩]⟩
theorem Not4_is (w : World) : Calls Try.prog 64 #[.int .i64 4] w fun e w' => e = .returned (.int .i64 5) ∧ w = w' := Not_any 4 w (by omega)
theorem Pair0_is (w : World) : Calls Try.prog 14 #[.int .u8 0] w fun e w' => ∃ g F xa xc ya yc, e = .returned (.tuple #[.pointer (some ⟨g, 0, none⟩), .slice xa 1 xc, .slice ya 1 yc]) ∧
    Hold w w' g (gIn 4000 2) F [(.slice ya 1 yc, natInts (rIn 1 1)), (.slice xa 1 xc, natInts (rIn 0 1))] := Pair_is w 0 (by decide)
theorem Pair2_is (w : World) : Calls Try.prog 14 #[.int .u8 2] w fun e w' => ∃ g F xa xc ya yc, e = .returned (.tuple #[.pointer (some ⟨g, 0, none⟩), .slice xa 3 xc, .slice ya 3 yc]) ∧
    Hold w w' g (gIn 4000 6) F [(.slice ya 3 yc, natInts (rIn 3 3)), (.slice xa 3 xc, natInts (rIn 0 3))] := Pair_is w 2 (by decide)
set_option maxRecDepth 100000 in
set_option maxHeartbeats 8000000 in
theorem awake25_is (w : World) : Calls Try.prog 37 #[] w fun e w' => e = .returned (.bool true) ∧ Ch [] w w' := by
  have HO := Lib.hid (Keeps.start w)
  go_enter Try.func37, Try.ntmps37
  go_wp2_with fail
  have ho := HO.out.fresh (l := [2, 4, 6]) (n := 3) rfl (by decide) (by decide)
  simp only [intCells, List.map_cons, List.map_nil] at ho
  clear HO; have HO := Lib.hid ho; clear ho
  go_wp2_with fail
  refine (Fixed_k HO.out 1 (xa := (some ⟨w.heap.size, 0, none⟩)) (xc := 3) (n := 3) (xl := [2, 4, 6]) (by simp) rfl 1 (l := [0, 2, 4]) (e := 0) (k := 3) (by decide) (by decide) rfl).mono ?_
  rintro e w1 ⟨aa, ac, rfl, ho⟩
  clear HO; have HO := Lib.hid ho; clear ho
  go_wp2_with fail
  refine (Fixed_k HO.out 2 (xa := (some ⟨w.heap.size, 0, none⟩)) (xc := 3) (n := 3) (xl := [2, 4, 6]) (by simp) rfl 2 (l := [6, 0, 0]) (e := 0) (k := 3) (by decide) (by decide) rfl).mono ?_
  rintro e w2 ⟨ba, bc, rfl, ho⟩
  clear HO; have HO := Lib.hid ho; clear ho
  go_wp2_with fail
  refine (Fixed_k HO.out 1 (xa := (some ⟨w.heap.size, 0, none⟩)) (xc := 3) (n := 3) (xl := [2, 4, 6]) (by simp) rfl 9 (l := [0, 0, 0]) (e := 0) (k := 3) (by decide) (by decide) rfl).mono ?_
  rintro e w3 ⟨ca, cc, rfl, ho⟩
  clear HO; have HO := Lib.hid ho; clear ho
  go_wp2_with fail
  refine (Turn_k HO.out (xa := (some ⟨w.heap.size, 0, none⟩)) (xc := 3) (n := 3) (xl := [2, 4, 6]) (by simp) rfl 1 (by decide) (by decide) (l := [4, 6, 2]) (by decide)).mono ?_
  rintro e w4 ⟨da, dc, rfl, ho⟩
  clear HO; have HO := Lib.hid ho; clear ho
  go_wp2_with fail
  refine (Turn_k HO.out (xa := (some ⟨w.heap.size, 0, none⟩)) (xc := 3) (n := 3) (xl := [2, 4, 6]) (by simp) rfl (-1) (by decide) (by decide) (l := [6, 2, 4]) (by decide)).mono ?_
  rintro e w5 ⟨fa, fc, rfl, ho⟩
  clear HO; have HO := Lib.hid ho; clear ho
  go_wp2_with fail
  refine (Steps_k HO.out 5 8 (k := 3) (e := 0) (by decide) (by decide)).mono ?_
  rintro e w6 ⟨rfl, ho⟩
  clear HO; have HO := Lib.hid ho; clear ho
  go_wp2_with fail
  refine (Steps_k HO.out 1 3 (k := 0) (e := 0) (by decide) (by decide)).mono ?_
  rintro e w7 ⟨rfl, ho⟩
  clear HO; have HO := Lib.hid ho; clear ho
  go_wp2_with fail
  have ho := HO.out.fresh (l := [0, 2, 4]) (n := 3) rfl (by decide) (by decide)
  simp only [intCells, List.map_cons, List.map_nil] at ho
  clear HO; have HO := Lib.hid ho; clear ho
  refine (Eqref_k HO.out (xa := aa) (xc := ac) (n := 3) (xl := [0, 2, 4]) (by simp) rfl (ya := (some ⟨w7.heap.size, 0, none⟩)) (yc := 3) (m := 3) (yl := [0, 2, 4]) (by simp) rfl (q := true) (by decide)).mono ?_
  rintro e w8 ⟨rfl, ho⟩
  clear HO; have HO := Lib.hid ho; clear ho
  go_wp2_with fail
  have ho := HO.out.fresh (l := [6, 0, 0]) (n := 3) rfl (by decide) (by decide)
  simp only [intCells, List.map_cons, List.map_nil] at ho
  clear HO; have HO := Lib.hid ho; clear ho
  refine (Eqref_k HO.out (xa := ba) (xc := bc) (n := 3) (xl := [6, 0, 0]) (by simp) rfl (ya := (some ⟨w8.heap.size, 0, none⟩)) (yc := 3) (m := 3) (yl := [6, 0, 0]) (by simp) rfl (q := true) (by decide)).mono ?_
  rintro e w9 ⟨rfl, ho⟩
  clear HO; have HO := Lib.hid ho; clear ho
  go_wp2_with fail
  have ho := HO.out.fresh (l := [0, 0, 0]) (n := 3) rfl (by decide) (by decide)
  simp only [intCells, List.map_cons, List.map_nil] at ho
  clear HO; have HO := Lib.hid ho; clear ho
  refine (Eqref_k HO.out (xa := ca) (xc := cc) (n := 3) (xl := [0, 0, 0]) (by simp) rfl (ya := (some ⟨w9.heap.size, 0, none⟩)) (yc := 3) (m := 3) (yl := [0, 0, 0]) (by simp) rfl (q := true) (by decide)).mono ?_
  rintro e w10 ⟨rfl, ho⟩
  clear HO; have HO := Lib.hid ho; clear ho
  go_wp2_with fail
  have ho := HO.out.fresh (l := [4, 6, 2]) (n := 3) rfl (by decide) (by decide)
  simp only [intCells, List.map_cons, List.map_nil] at ho
  clear HO; have HO := Lib.hid ho; clear ho
  refine (Eqref_k HO.out (xa := da) (xc := dc) (n := 3) (xl := [4, 6, 2]) (by simp) rfl (ya := (some ⟨w10.heap.size, 0, none⟩)) (yc := 3) (m := 3) (yl := [4, 6, 2]) (by simp) rfl (q := true) (by decide)).mono ?_
  rintro e w11 ⟨rfl, ho⟩
  clear HO; have HO := Lib.hid ho; clear ho
  go_wp2_with fail
  have ho := HO.out.fresh (l := [6, 2, 4]) (n := 3) rfl (by decide) (by decide)
  simp only [intCells, List.map_cons, List.map_nil] at ho
  clear HO; have HO := Lib.hid ho; clear ho
  refine (Eqref_k HO.out (xa := fa) (xc := fc) (n := 3) (xl := [6, 2, 4]) (by simp) rfl (ya := (some ⟨w11.heap.size, 0, none⟩)) (yc := 3) (m := 3) (yl := [6, 2, 4]) (by simp) rfl (q := true) (by decide)).mono ?_
  rintro e w12 ⟨rfl, ho⟩
  clear HO; have HO := Lib.hid ho; clear ho
  go_wp2_with fail
  refine (Pair0_is _).mono ?_
  rintro e w13 ⟨g, F1, pa, pc, qa, qc, rfl, ho0⟩
  have ho := HO.out.join ho0
  clear HO; have HO := Lib.hid ho; clear ho ho0
  go_wp2_with fail
  refine (Shr_h HO.out (xa := pa) (xc := pc) (n := 1) (xl := natInts (rIn 0 1)) (by simp) rfl (ya := qa) (yc := qc) (m := 1) (yl := natInts (rIn 1 1)) (by simp) rfl (G' := ta1) (l := [6]) (e := 0) (k := 1) (by kernel_rfl) rfl (by decide) (by decide)).mono ?_
  rintro e w14 ⟨ra, rc, F2, rfl, ho⟩
  clear HO; have HO := Lib.hid ho; clear ho
  obtain ⟨pb, po, rfl, hpc⟩ := (HO.out.sl (a := pa) (n := 1) (c := pc) (l := natInts (rIn 0 1)) (by simp) rfl).cells 0 2 rfl
  obtain ⟨qb, qo, rfl, hqc⟩ := (HO.out.sl (a := qa) (n := 1) (c := qc) (l := natInts (rIn 1 1)) (by simp) rfl).cells 0 4 rfl
  rw [Nat.add_zero] at hpc hqc
  have ho := HO.out.same (Ch.refl [] w14).drew
  have hA := And_h ho 2 5 (by decide) (by decide) (G' := ta1) (r := 6) (e := 0) (by kernel_rfl)
  have HA := Lib.hid hA; clear hA ho
  go_wp2_with fail
  refine Ord.St.door (fun _ => True) [.fl, .fl, .fl, .rd, .fl, .fl, .rd, .rd, .ef, .fl, .fl, .fl, .fl, .fl] [0, 0, 2, 6, 0, 16, 48, 112, 255, 511, 1023, 1023, 2047, 8191] [0, 1, 2, 3, 4, 5, 6, 7, 8, 9, 10, 11, 12, 13] mixed (by kernel_rfl) rfl ?_
  refine Ord.St.fl2 (T' := ?_) 0 [1, 2, 3, 4, 5, 6, 7, 8, 9, 10, 11, 12, 13] _ _ rfl (by kernel_rfl) rfl rfl rfl rfl (fun K w' hk => ?_) ?_
  rotate_left
  · go_step; exact hk
  refine Ord.St.fl2 (T' := ?_) 1 [2, 3, 4, 5, 6, 7, 8, 9, 10, 11, 12, 13] _ _ rfl (by kernel_rfl) rfl rfl rfl rfl (fun K w' hk => ?_) ?_
  rotate_left
  · go_step; exact hk
  refine Ord.St.fl2 (T' := ?_) 2 [3, 4, 5, 6, 7, 8, 9, 10, 11, 12, 13] _ _ rfl (by kernel_rfl) rfl rfl rfl rfl (fun K w' hk => ?_) ?_
  rotate_left
  · go_step; exact hk
  refine Ord.St.rd2 (T' := ?_) 3 [4, 5, 6, 7, 8, 9, 10, 11, 12, 13] _ _ rfl (by kernel_rfl) rfl rfl rfl rfl (fun K hk => ?_) ?_
  rotate_left
  · go_step; exact hk
  refine Ord.St.fl2 (T' := ?_) 4 [5, 6, 7, 8, 9, 10, 11, 12, 13] _ _ rfl (by kernel_rfl) rfl rfl rfl rfl (fun K w' hk => ?_) ?_
  rotate_left
  · go_step; exact hk
  refine Ord.St.fl2 (T' := ?_) 5 [6, 7, 8, 9, 10, 11, 12, 13] _ _ rfl (by kernel_rfl) rfl rfl rfl rfl (fun K w' hk => ?_) ?_
  rotate_left
  · go_step; exact hk
  refine Ord.St.rd2 (T' := ?_) 6 [7, 8, 9, 10, 11, 12, 13] _ _ rfl (by kernel_rfl) rfl rfl rfl rfl (fun K hk => ?_) ?_
  rotate_left
  · go_step; exact hk
  refine Ord.St.rd2 (T' := ?_) 7 [8, 9, 10, 11, 12, 13] _ _ rfl (by kernel_rfl) rfl rfl rfl rfl (fun K hk => ?_) ?_
  rotate_left
  · go_step; refine (Not4_is _).mono ?_; rintro e w'' ⟨rfl, rfl⟩; exact hk
  refine Ord.St.ef 8 [9, 10, 11, 12, 13] _ rfl (by kernel_rfl) (fun K hK => ?_)
  go_wp2_with fail
  refine HA.out.mono ?_
  rintro e wA ⟨F3, rfl, ho⟩
  clear HO; have HO := Lib.hid ho; clear ho
  go_wp2_with fail
  refine ⟨rfl, hK _ _ ?_⟩; clear hK K
  refine Ord.St.fl2 (T' := ?_) 9 [10, 11, 12, 13] _ _ rfl (by kernel_rfl) rfl rfl rfl rfl (fun K w' hk => ?_) ?_
  rotate_left
  · go_step; exact hk
  refine Ord.St.fl2 (T' := ?_) 10 [11, 12, 13] _ _ rfl (by kernel_rfl) rfl rfl rfl rfl (fun K w' hk => ?_) ?_
  rotate_left
  · go_step; exact hk
  refine Ord.St.fl2 (T' := ?_) 11 [12, 13] _ _ rfl (by kernel_rfl) rfl rfl rfl rfl (fun K w' hk => ?_) ?_
  rotate_left
  · go_step; exact hk
  refine Ord.St.fl2 (T' := ?_) 12 [13] _ _ rfl (by kernel_rfl) rfl rfl rfl rfl (fun K w' hk => ?_) ?_
  rotate_left
  · go_step; exact hk
  refine Ord.St.fl2 (T' := ?_) 13 [] _ _ rfl (by kernel_rfl) rfl rfl rfl rfl (fun K w' hk => ?_) ?_
  rotate_left
  · go_step; exact hk
  refine Ord.St.nil ?_
  clear HA hpc hqc
  go_wp2_with fail
  refine (Pair2_is _).mono ?_
  rintro e w15 ⟨h, F4, ya, yc, za, zc, rfl, ho0⟩
  have ho := HO.out.keeps.join ho0
  clear HO; have HO := Lib.hid ho; clear ho ho0
  go_wp2_with fail
  refine (sConst_h HO.out 1 (by decide) 3 rfl).mono ?_
  rintro e w16 ⟨oa, oc, rfl, ho⟩
  clear HO; have HO := Lib.hid ho; clear ho
  go_wp2_with fail
  refine (Shl_h HO.out (xa := ya) (xc := yc) (n := 3) (xl := natInts (rIn 0 3)) (by simp) rfl (ya := oa) (yc := oc) (m := 3) (yl := natInts (constL 1 3)) (by simp) rfl (G' := gIn 4000 6) (l := [0, 2, 4]) (e := 0) (k := 3) (by kernel_rfl) rfl (by decide) (by decide)).mono ?_
  rintro e w17 ⟨ta, tc, F5, rfl, ho⟩
  clear HO; have HO := Lib.hid ho; clear ho
  go_wp2_with fail
  refine (Fixed_h HO.out 1 (xa := ya) (xc := yc) (n := 3) (xl := natInts (rIn 0 3)) (by simp) rfl 1 (l := [0, 2, 4]) (e := 0) (k := 3) (by decide) (by decide) rfl).mono ?_
  rintro e w18 ⟨ua, uc, rfl, ho⟩
  clear HO; have HO := Lib.hid ho; clear ho
  go_wp2_with fail
  have ho := HO.out.same ((Ch.refl [] w18).alloc (.cells #[.int .i64 6] 34))
  clear HO; have HO := Lib.hid ho; clear ho
  refine (Eqref_c HO.out (xa := ra) (xc := rc) (n := 1) (xl := natInts [6]) (by simp) rfl (b := w18.heap.size) (m := 1) (ys := [6]) (blk.new' _ _ rfl) rfl (by decide) (q := true) (by decide)).mono ?_
  rintro e w19 ⟨rfl, ho⟩
  clear HO; have HO := Lib.hid ho; clear ho
  go_wp2_with fail
  refine (Eqref_h HO.out (xa := ta) (xc := tc) (n := 3) (xl := natInts [0, 2, 4]) (by simp) rfl (ya := ua) (yc := uc) (m := 3) (yl := [0, 2, 4]) (by simp) rfl (q := true) (by decide)).mono ?_
  rintro e w20 ⟨rfl, ho⟩
  clear HO; have HO := Lib.hid ho; clear ho
  go_wp2_with fail
  go_ret
  exact ⟨rfl, HO.out.ch⟩
end Go.Proofs.Ytchledddgmbndaa
