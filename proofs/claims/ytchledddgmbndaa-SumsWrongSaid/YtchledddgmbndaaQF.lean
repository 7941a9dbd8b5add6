/-
  Words that are refused: what check says of them, and what the functions of sums do with them. Conditions: a graph in memory, words that are held.
  New words that are changed, or grown, before they are held. Conditions: none beyond the hypotheses.
  Walk over SumsWrong: true, whatever comes in. Conditions: none.
-/
import Derived.Test.YtchledddgmbndaaQD
namespace Go.Aig
theorem chk2_w {G : Gra} {x y : List Int} (h : rightW x.length = false) : chk G [x, y] = 230 := by
  unfold chk badAs
  simp [h]
theorem chk2_d {G : Gra} {x y : List Int} (h : y.length ≠ x.length) : chk G [x, y] = 230 := by
  unfold chk badAs
  have e : ((y.length : Int) != (x.length : Int)) = true := bne_iff_ne.2 (by omega)
  simp [e]
theorem chk2_r {G : Gra} {x y : List Int} (h : rightW x.length = true) (hd : y.length = x.length) (hb : badIn G x = true ∨ badIn G y = true) : chk G [x, y] = 200 := by
  unfold chk badAs
  rcases hb with hb | hb <;> simp [h, hd, hb]
theorem chk1_w {G : Gra} {x : List Int} (h : rightW x.length = false) : chk G [x] = 230 := by
  unfold chk badAs
  simp [h]
theorem chk1_r {G : Gra} {x : List Int} (h : rightW x.length = true) (hb : badIn G x = true) : chk G [x] = 200 := by
  unfold chk badAs
  simp [h, hb]
theorem badIn_set {G : Gra} {x : List Int} {i : Nat} {r : Int} (hi : i < x.length) (hr : right G.nodes r = false) : badIn G (x.set i r) = true := by
  unfold badIn
  rw [List.any_eq_true]
  exact ⟨r, List.mem_of_getElem? (i := i) (by rw [List.getElem?_set_self hi]), by simp [hr]⟩
theorem wordG_no {G : Gra} {ws : List (List Int)} (R : Mk × List Nat) {e : Nat} (he : chk G ws = e) (h0 : e ≠ 0) : wordG G ws R = (G, [], e) := by
  subst he
  unfold wordG
  rw [if_pos h0]
theorem refG_no {G : Gra} {ws : List (List Int)} (R : Mk × Nat) {e : Nat} (he : chk G ws = e) (h0 : e ≠ 0) : refG G ws R = (G, 0, e) := by
  subst he
  unfold refG
  rw [if_pos h0]
theorem negG_no (G : Gra) {e : Nat} (h0 : e ≠ 0) : negG (G, 0, e) = (G, 0, e) := by
  unfold negG
  rw [if_pos h0]
end Go.Aig
namespace Go.Proofs.Ytchledddgmbndaa
open Go.RowKit Go.Mem Go.Aig
section
variable {w0 : Base} {w : World} {g : Nat} {G : Gra} {F : List Nat} {L : List (Value × List Int)}
theorem Hold.tail {p : Value × List Int} (h : Hold w0 w g G F (p :: L)) : Hold w0 w g G F L := ⟨h.own, fun q hq => h.held q (List.mem_cons_of_mem _ hq), h.kept⟩
theorem Hold.sub {L' : List (Value × List Int)} (h : Hold w0 w g G F L) (hs : ∀ p ∈ L', p ∈ L) : Hold w0 w g G F L' := ⟨h.own, fun q hq => h.held q (hs q hq), h.kept⟩
theorem Hold.nil (h : Hold w0 w g G F L) : Hold w0 w g G F ((.slice none 0 0, []) :: L) := ⟨h.own, fun p hp => by
  rcases List.mem_cons.1 hp with rfl | hp
  · exact ⟨⟨rfl, .inl ⟨rfl, rfl⟩⟩, by simp, by simp, fun k hk => by simp at hk⟩
  · exact h.held p hp, h.kept⟩
theorem wno {fid : FuncId} {args : Array Value} {e : Nat} (h : Calls Try.prog fid args w fun en w' => ∃ a c F', en = .returned (.tuple #[.slice a 0 c, .int .i64 e]) ∧ Hold w0 w' g G F' ((.slice a 0 c, natInts []) :: L)) :
    Calls Try.prog fid args w fun en w' => ∃ a c F', en = .returned (.tuple #[.slice a 0 c, .int .i64 e]) ∧ Hold w0 w' g G F' L := by
  refine h.mono ?_
  rintro en w' ⟨a, c, F', rfl, hh⟩
  exact ⟨a, c, F', rfl, hh.tail⟩
theorem sAnd_no (h : Hold w0 w g G F L) {xa ya : Option Addr} {xl yl : List Int} {n m xc yc : Nat} (hx : (.slice xa n xc, xl) ∈ L) (hxn : xl.length = n) (hy : (.slice ya m yc, yl) ∈ L) (hym : yl.length = m) {e : Nat} (he : chk G [xl, yl] = e) (h0 : e ≠ 0) :
    Calls Try.prog 17 #[.pointer (some ⟨g, 0, none⟩), .slice xa n xc, .slice ya m yc] w fun en w' => ∃ a c F', en = .returned (.tuple #[.slice a 0 c, .int .i64 e]) ∧ Hold w0 w' g G F' L := wno (sAnd_h h hx hxn hy hym (wordG_no _ he h0) rfl (by simp) (by omega))
theorem sOr_no (h : Hold w0 w g G F L) {xa ya : Option Addr} {xl yl : List Int} {n m xc yc : Nat} (hx : (.slice xa n xc, xl) ∈ L) (hxn : xl.length = n) (hy : (.slice ya m yc, yl) ∈ L) (hym : yl.length = m) {e : Nat} (he : chk G [xl, yl] = e) (h0 : e ≠ 0) :
    Calls Try.prog 18 #[.pointer (some ⟨g, 0, none⟩), .slice xa n xc, .slice ya m yc] w fun en w' => ∃ a c F', en = .returned (.tuple #[.slice a 0 c, .int .i64 e]) ∧ Hold w0 w' g G F' L := wno (sOr_h h hx hxn hy hym (wordG_no _ he h0) rfl (by simp) (by omega))
theorem sXor_no (h : Hold w0 w g G F L) {xa ya : Option Addr} {xl yl : List Int} {n m xc yc : Nat} (hx : (.slice xa n xc, xl) ∈ L) (hxn : xl.length = n) (hy : (.slice ya m yc, yl) ∈ L) (hym : yl.length = m) {e : Nat} (he : chk G [xl, yl] = e) (h0 : e ≠ 0) :
    Calls Try.prog 19 #[.pointer (some ⟨g, 0, none⟩), .slice xa n xc, .slice ya m yc] w fun en w' => ∃ a c F', en = .returned (.tuple #[.slice a 0 c, .int .i64 e]) ∧ Hold w0 w' g G F' L := wno (sXor_h h hx hxn hy hym (wordG_no _ he h0) rfl (by simp) (by omega))
theorem sAdd_no (h : Hold w0 w g G F L) {xa ya : Option Addr} {xl yl : List Int} {n m xc yc : Nat} (hx : (.slice xa n xc, xl) ∈ L) (hxn : xl.length = n) (hy : (.slice ya m yc, yl) ∈ L) (hym : yl.length = m) {e : Nat} (he : chk G [xl, yl] = e) (h0 : e ≠ 0) :
    Calls Try.prog 20 #[.pointer (some ⟨g, 0, none⟩), .slice xa n xc, .slice ya m yc] w fun en w' => ∃ a c F', en = .returned (.tuple #[.slice a 0 c, .int .i64 e]) ∧ Hold w0 w' g G F' L := wno (sAdd_h h hx hxn hy hym (wordG_no _ he h0) rfl (by simp) (by omega))
theorem sSub_no (h : Hold w0 w g G F L) {xa ya : Option Addr} {xl yl : List Int} {n m xc yc : Nat} (hx : (.slice xa n xc, xl) ∈ L) (hxn : xl.length = n) (hy : (.slice ya m yc, yl) ∈ L) (hym : yl.length = m) {e : Nat} (he : chk G [xl, yl] = e) (h0 : e ≠ 0) :
    Calls Try.prog 21 #[.pointer (some ⟨g, 0, none⟩), .slice xa n xc, .slice ya m yc] w fun en w' => ∃ a c F', en = .returned (.tuple #[.slice a 0 c, .int .i64 e]) ∧ Hold w0 w' g G F' L := wno (sSub_h h hx hxn hy hym (by unfold subG; exact wordG_no _ he h0) rfl (by simp) (by omega))
theorem sNe_no (h : Hold w0 w g G F L) {xa ya : Option Addr} {xl yl : List Int} {n m xc yc : Nat} (hx : (.slice xa n xc, xl) ∈ L) (hxn : xl.length = n) (hy : (.slice ya m yc, yl) ∈ L) (hym : yl.length = m) {e : Nat} (he : chk G [xl, yl] = e) (h0 : e ≠ 0) :
    Calls Try.prog 23 #[.pointer (some ⟨g, 0, none⟩), .slice xa n xc, .slice ya m yc] w fun en w' => ∃ F', en = .returned (.tuple #[.int .i64 (0 : Nat), .int .i64 e]) ∧ Hold w0 w' g G F' L := sNe_h h hx hxn hy hym (refG_no _ he h0)
theorem sLt_no (h : Hold w0 w g G F L) {xa ya : Option Addr} {xl yl : List Int} {n m xc yc : Nat} (hx : (.slice xa n xc, xl) ∈ L) (hxn : xl.length = n) (hy : (.slice ya m yc, yl) ∈ L) (hym : yl.length = m) {e : Nat} (he : chk G [xl, yl] = e) (h0 : e ≠ 0) :
    Calls Try.prog 24 #[.pointer (some ⟨g, 0, none⟩), .slice xa n xc, .slice ya m yc] w fun en w' => ∃ F', en = .returned (.tuple #[.int .i64 (0 : Nat), .int .i64 e]) ∧ Hold w0 w' g G F' L := sLt_h h hx hxn hy hym (refG_no _ he h0)
theorem sEq_no (h : Hold w0 w g G F L) {xa ya : Option Addr} {xl yl : List Int} {n m xc yc : Nat} (hx : (.slice xa n xc, xl) ∈ L) (hxn : xl.length = n) (hy : (.slice ya m yc, yl) ∈ L) (hym : yl.length = m) {e : Nat} (he : chk G [xl, yl] = e) (h0 : e ≠ 0) :
    Calls Try.prog 22 #[.pointer (some ⟨g, 0, none⟩), .slice xa n xc, .slice ya m yc] w fun en w' => ∃ F', en = .returned (.tuple #[.int .i64 (0 : Nat), .int .i64 e]) ∧ Hold w0 w' g G F' L := sEq_h h hx hxn hy hym (by rw [refG_no _ he h0, negG_no _ h0])
theorem sLe_no (h : Hold w0 w g G F L) {xa ya : Option Addr} {xl yl : List Int} {n m xc yc : Nat} (hx : (.slice xa n xc, xl) ∈ L) (hxn : xl.length = n) (hy : (.slice ya m yc, yl) ∈ L) (hym : yl.length = m) {e : Nat} (he : chk G [yl, xl] = e) (h0 : e ≠ 0) :
    Calls Try.prog 25 #[.pointer (some ⟨g, 0, none⟩), .slice xa n xc, .slice ya m yc] w fun en w' => ∃ F', en = .returned (.tuple #[.int .i64 (0 : Nat), .int .i64 e]) ∧ Hold w0 w' g G F' L := sLe_h h hx hxn hy hym (by rw [refG_no _ he h0, negG_no _ h0])
theorem sNot_no (h : Hold w0 w g G F L) {xa : Option Addr} {xl : List Int} {n xc : Nat} (hx : (.slice xa n xc, xl) ∈ L) (hxn : xl.length = n) {e : Nat} (he : chk G [xl] = e) (h0 : e ≠ 0) :
    Calls Try.prog 26 #[.pointer (some ⟨g, 0, none⟩), .slice xa n xc] w fun en w' => ∃ a c F', en = .returned (.tuple #[.slice a 0 c, .int .i64 e]) ∧ Hold w0 w' g G F' L := wno (sNot_h h hx hxn (wordG_no _ he h0) rfl (by simp) (by omega))
theorem sNeg_no (h : Hold w0 w g G F L) {xa : Option Addr} {xl : List Int} {n xc : Nat} (hx : (.slice xa n xc, xl) ∈ L) (hxn : xl.length = n) {e : Nat} (he : chk G [List.replicate n 0, xl] = e) (h0 : e ≠ 0) :
    Calls Try.prog 27 #[.pointer (some ⟨g, 0, none⟩), .slice xa n xc] w fun en w' => ∃ a c F', en = .returned (.tuple #[.slice a 0 c, .int .i64 e]) ∧ Hold w0 w' g G F' L := wno (sNeg_h h hx hxn (by unfold subG; exact wordG_no _ he h0) rfl (by simp) (by omega))
theorem sAny_no (h : Hold w0 w g G F L) {xa : Option Addr} {xl : List Int} {n xc : Nat} (hx : (.slice xa n xc, xl) ∈ L) (hxn : xl.length = n) {e : Nat} (he : chk G [xl] = e) (h0 : e ≠ 0) :
    Calls Try.prog 28 #[.pointer (some ⟨g, 0, none⟩), .slice xa n xc] w fun en w' => ∃ F', en = .returned (.tuple #[.int .i64 (0 : Nat), .int .i64 e]) ∧ Hold w0 w' g G F' L := sAny_h h hx hxn (refG_no _ he h0)
theorem sInput_no (h : Hold w0 w g G F L) (i : Int) (hi : rightW i = false) :
    Calls Try.prog 30 #[.pointer (some ⟨g, 0, none⟩), .int .i64 i] w fun en w' => ∃ a c F', en = .returned (.tuple #[.slice a 0 c, .int .i64 (230 : Nat)]) ∧ Hold w0 w' g G F' L := wno (sInput_h h i (by unfold inG; rw [hi]; rfl) rfl (by simp) (by omega))
theorem sConst_no (h : Hold w0 w g G F L) (x : Nat) (hx : x < 4294967296) (i : Int) (hi : rightW i = false) :
    Calls Try.prog 29 #[.int .u32 x, .int .i64 i] w fun en w' => ∃ a c F', en = .returned (.tuple #[.slice a 0 c, .int .i64 (230 : Nat)]) ∧ Hold w0 w' g G F' L := by
  have hc := sConst_is (w := w) x hx i
  rw [hi] at hc
  refine (Calls.wnew (l := []) (k := 0) h hc rfl (by simp) (by omega)).mono ?_
  rintro en w' ⟨a, c, rfl, hh⟩
  exact ⟨a, c, F, rfl, hh.tail⟩
theorem sCast_no (h : Hold w0 w g G F L) {xa : Option Addr} {xl : List Int} {n xc : Nat} (hx : (.slice xa n xc, xl) ∈ L) (hxn : xl.length = n) (i : Int) (hi : (rightW i && rightW n) = false) :
    Calls Try.prog 31 #[.slice xa n xc, .int .i64 i] w fun en w' => ∃ a c F', en = .returned (.tuple #[.slice a 0 c, .int .i64 (230 : Nat)]) ∧ Hold w0 w' g G F' L := by
  have hc := sCast_is (h.at hx hxn).ok (by have := (h.held _ hx).cap; simp only [hxn]; omega) i
  simp only [WV.val, hxn, hi] at hc
  refine (Calls.wnew (l := []) (k := 0) h hc rfl (by simp) (by omega)).mono ?_
  rintro en w' ⟨a, c, rfl, hh⟩
  exact ⟨a, c, F, rfl, hh.tail⟩
end
end Go.Proofs.Ytchledddgmbndaa
namespace Go.Proofs.Ytchledddgmbndaa
open Go.RowKit Go.Mem Go.Aig
theorem max_ii (z q : Int) (ats : Array TypeId) (ty : TypeId) : Builtin.max_ ats ty #[.int .i64 z, .int .i64 q] = pure (.int .i64 (max z q)) := by
  have e : (if z < q then q else z) = max z q := by split <;> omega
  rw [← e]
  simp [Builtin.max_, Builtin.max2]
theorem min_ii (z q : Int) (ats : Array TypeId) (ty : TypeId) : Builtin.min_ ats ty #[.int .i64 z, .int .i64 q] = pure (.int .i64 (min z q)) := by
  have e : (if q < z then q else z) = min z q := by split <;> omega
  rw [← e]
  simp [Builtin.min_, Builtin.min2]
theorem WNew.set {w w' : World} {b n c i : Nat} {l : List Int} (h : WNew w (.slice (some ⟨b, 0, none⟩) n c) (intCells l) w') (hn : l.length = n) (r : Int) : WNew w (.slice (some ⟨b, 0, none⟩) n c) (intCells (l.set i r)) (w'.setCell ⟨b, i, none⟩ (.int .i64 r)) := by
  obtain ⟨h1, h2, h3⟩ := h
  have e : intCells (l.set i r) = (intCells l).set i (.int .i64 r) := by unfold intCells; rw [List.map_set]
  refine ⟨?_, h2, h3.setCell (.inr (h2 b (by simp))) _⟩
  have e2 : (intCells l).length = n := by simp [intCells, hn]
  have e3 : (intCells (l.set i r)).length = n := by simp [intCells, hn]
  rw [e3, e]
  rw [e2] at h1
  exact row.set h1 (.int .i64 r)
theorem WNew.app {w w1 w2 w3 : World} {v v' : Value} {l : List Int} {n : Nat} (h : WNew w v (intCells l) w1) (hc : Ch [] w1 w2) {r : Int} (hn : l.length = n) (hr : row w3 34 1 v' (n + 1) (intCells l ++ [.int .i64 r])) (h23 : Ch v.ownBlock.toList w2 w3) (hf : ∀ k, v'.ownBlock = some k → v.ownBlock = some k ∨ w2.heap.size ≤ k) : WNew w v' (intCells (l ++ [r])) w3 := by
  obtain ⟨h1, h2, h3⟩ := h
  have e : intCells (l ++ [r]) = intCells l ++ [.int .i64 r] := by simp [intCells]
  have e3 : (intCells (l ++ [r])).length = n + 1 := by simp [intCells, hn]
  have h02 := h3.trans hc (by simp)
  refine ⟨by rw [e3, e]; exact hr, fun q hq => ?_, h02.trans h23 (fun k hk => .inr (h2 k hk))⟩
  rcases hf q (by simpa using hq) with h | h
  · exact h2 q (by simpa using h)
  · have := h02.size; omega
theorem bd_set {l : List Int} {i : Nat} {r : Int} (h : ∀ x ∈ l, -9223372036854775808 ≤ x ∧ x ≤ 9223372036854775807) (hr : -9223372036854775808 ≤ r ∧ r ≤ 9223372036854775807) : ∀ x ∈ l.set i r, -9223372036854775808 ≤ x ∧ x ≤ 9223372036854775807 := fun x hx => by
  rcases List.mem_or_eq_of_mem_set hx with hx | rfl
  · exact h x hx
  · exact hr
theorem bd_app {l : List Int} {r : Int} (h : ∀ x ∈ l, -9223372036854775808 ≤ x ∧ x ≤ 9223372036854775807) (hr : -9223372036854775808 ≤ r ∧ r ≤ 9223372036854775807) : ∀ x ∈ l ++ [r], -9223372036854775808 ≤ x ∧ x ≤ 9223372036854775807 := fun x hx => by
  rcases List.mem_append.1 hx with hx | hx
  · exact h x hx
  · rw [List.mem_singleton.1 hx]; exact hr
theorem row_at2 {w : World} {e : TypeId} {b n c : Nat} {vs : List Value} (h : row w e 1 (.slice (some ⟨b, 0, none⟩) n c) n vs) {k : Nat} {v : Value} (hk : vs[k]? = some v) : w.cell? ⟨b, k, none⟩ = some v := by
  have := h.cells (g := b) rfl k v hk
  rw [Addr.add_lit] at this
  simpa using this
theorem row_fz {w : World} {e : TypeId} {b n c : Nat} {vs : List Value} (h : row w e 1 (.slice (some ⟨b, 0, none⟩) n c) n vs) (hn : 0 < n) (k : Nat) : w.frozen? ⟨b, k, none⟩ = false := by
  obtain ⟨b', ys, e1, hb, _⟩ := rowBlk h 0 hn
  cases e1
  exact hb.frozen
theorem WNew.at {w w' : World} {b n c k : Nat} {l : List Int} (h : WNew w (.slice (some ⟨b, 0, none⟩) n c) (intCells l) w') (hn : l.length = n) {r : Int} (hk : l[k]? = some r) : w'.cell? ⟨b, k, none⟩ = some (.int .i64 r) ∧ w'.frozen? ⟨b, k, none⟩ = false := by
  have h1 := h.1
  have e : (intCells l).length = n := by simp [intCells, hn]
  rw [e] at h1
  have hlt := (List.getElem?_eq_some_iff.1 hk).1
  exact ⟨row_at2 h1 (by simp [intCells, hk]), row_fz h1 (by omega) k⟩
theorem sValue_nil {w : World} : Calls Try.prog 32 #[.slice none 0 0, .slice none 0 0] w fun en w' => en = .returned (.tuple #[.int .u32 0, .int .i64 230]) ∧ w = w' := by
  have hc := sValue_is (w := w) (x := ⟨none, [], 0⟩) (by simp) (a := none) (l := []) 0 (by simp) ⟨fun i x hx => by simp at hx, by simp⟩
  exact hc
theorem Hold.fresh {w0 : Base} {w : World} {g : Nat} {G : Gra} {F : List Nat} {L : List (Value × List Int)} (h : Hold w0 w g G F L) {l : List Int} {n : Nat} (hn : l.length = n) (hb : ∀ r ∈ l, -9223372036854775808 ≤ r ∧ r ≤ 9223372036854775807) (hl : n ≤ 1000000) :
    Hold w0 (w.alloc (.cells (intCells l).toArray 34)) g G F ((.slice (some ⟨w.heap.size, 0, none⟩) n n, l) :: L) := by
  subst hn
  have hk : blk (w.alloc (.cells (intCells l).toArray 34)) w.heap.size (intCells l) := blk.new _ _ _
  have e : (intCells l).length = l.length := by simp [intCells]
  have hx : (w.alloc (.cells (intCells l).toArray 34)).heap[w.heap.size]? = some (.cells (intCells l).toArray 34 (0, 0)) := heap_alloc_new w _
  refine ⟨(h.same ((Ch.refl [] _).alloc _)).own, fun p hp => ?_, (h.same ((Ch.refl [] _).alloc _)).kept⟩
  rcases List.mem_cons.1 hp with rfl | hp
  · refine ⟨⟨by simp [intCells], .inr ⟨w.heap.size, l.length, (intCells l).toArray, rfl, by simp, hx, Nat.le_refl _, by unfold maxLen; omega, by simp [intCells], by rw [Nat.mul_one]; exact List.take_of_length_le (by simp [intCells])⟩⟩, hl, hb, fun k hk => ?_⟩
    · simp at hk; subst hk
      exact ⟨h.own.ch.size, fun hin => Nat.lt_irrefl _ (h.own.gin.lt _ hin)⟩
  · exact (h.same ((Ch.refl [] _).alloc _)).held p hp
end Go.Proofs.Ytchledddgmbndaa
namespace Go.Proofs.Ytchledddgmbndaa
open Go.RowKit Go.Mem Go.Aig
theorem make_long (w : World) (n : Nat) (hn : n ≤ 1000000) (q : Int) (hq : q = n) (l : List Int) (hl : l = List.replicate n 0) : (Instr.makeSlice 29 (.int .i64 q) (.int .i64 q)).run Try.prog w = .ok (.slice (some ⟨w.heap.size, 0, none⟩) n n) (w.alloc (.cells (intCells l).toArray 34)) := by
  subst hl hq
  have e : intCells (List.replicate n 0) = refsCells (List.replicate n 0) := by simp [intCells, refsCells]
  rw [e]
  exact run_make_refs w n hn
theorem make_longB (w : World) (n : Nat) (hn : n ≤ 65536) (q : Int) (hq : q = n) (l : List Bool) (hl : l = List.replicate n false) : (Instr.makeSlice 25 (.int .i64 q) (.int .i64 q)).run Try.prog w = .ok (.slice (some ⟨w.heap.size, 0, none⟩) n n) (w.alloc (.cells (l.map Value.bool).toArray 4)) := by
  subst hl hq
  exact run_make_bools w n hn
set_option maxRecDepth 100000 in
set_option maxHeartbeats 8000000 in
theorem SumsWrong_walk {w : World} (wd : Nat) (hw : wd ≤ 255) (z : Int) (hz : (Lit.int .i64 z).wf = true) : Calls Try.prog 4 #[.int .u8 wd, .int .i64 z] w fun e w' => e = .returned (.bool true) ∧ Ch [] w w' := by
  have HP := fun W => Pair_is W wd hw
  obtain ⟨m, hm, hm5⟩ : ∃ m, wd % 5 = m ∧ m < 5 := ⟨_, rfl, by omega⟩
  rw [hm] at HP
  clear hm
  have HA := fun W => awake23_is W
  go_enter Try.func4, Try.ntmps4
  go_wp2_with fail
  refine (HA _).mono ?_
  rintro e w1 ⟨rfl, hc1⟩
  have HC1 := Lib.hid hc1; clear hc1
  go_wp2_with fail
  refine (HP _).mono ?_
  rintro e w2 ⟨g, F2, xa, xc, ya, yc, rfl, ho⟩
  have HO := Lib.hid ho; clear ho HP
  go_wp2_with fail
  refine (Len_h HO.out (n := 2 * m + 3) (by simp [gIn]; omega)).mono ?_
  rintro e w3 ⟨rfl, ho⟩
  clear HO; have HO := Lib.hid ho; clear ho
  go_wp2_with fail
  obtain ⟨lg, hlg⟩ : ∃ lg : List Int, lg = List.replicate 18 0 := ⟨_, rfl⟩
  have hlgn : lg.length = 18 := by rw [hlg]; rfl
  have hlg0 : ∀ r ∈ lg, r = 0 := fun r hr => by rw [hlg] at hr; exact (List.mem_replicate.1 hr).2
  have hmk := make_long w3 18 (by omega) 18 rfl lg hlg
  have HLG := Lib.hid hlg; clear hlg
  have HLGN := Lib.hid hlgn; clear hlgn
  go_wp2_with fail
  rw [hmk]
  go_wp2_with fail
  have ho := HO.out.fresh HLGN.out (fun r hr => by rw [hlg0 r hr]; omega) (by omega)
  clear HO hmk; have HO := Lib.hid ho; clear ho
  generalize hw4 : w3.alloc (.cells (intCells lg).toArray 34) = w4 at HO ⊢
  generalize w3.heap.size = lb at HO ⊢
  clear hw4
  have hX := HO.out.at (a := xa) (c := xc) (n := m + 1) (l := natInts (rIn 0 (m + 1))) (by simp) (by simp)
  have hC := Clref_w hX.ok (m + 1) (by simp)
  have HC := Lib.hid hC; clear hC hX
  go_wp2_with fail
  refine HC.out.mono ?_
  rintro e w5 ⟨v, rfl, hwn⟩
  obtain ⟨bb, bc, hv⟩ := row.parts hwn.1 (by simp [intCells])
  simp only [intCells, List.length_map, natInts_len, rIn_len] at hv
  subst hv
  obtain ⟨zb, hzb⟩ : ∃ zb : Int, zb = max z (2 * (2 * (m : Int) + 3)) := ⟨_, rfl⟩
  have hmx := max_ii z (2 * (2 * (m : Int) + 3))
  rw [← hzb] at hmx
  have HZB := Lib.hid hzb; clear hzb
  obtain ⟨q0, q1⟩ := hwn.at (k := m) (by simp) (List.getElem?_eq_getElem (by simp))
  generalize (natInts (rIn 0 (m + 1)))[m] = r0 at q0
  have HWN := Lib.hid (hwn.set (i := m) (by simp) zb); clear hwn
  go_wp2_with fail
  clear q0 q1 hmx HC
  have hz2 : -9223372036854775808 ≤ z ∧ z ≤ 9223372036854775807 := wf_i64 hz
  obtain ⟨a5, c5, he5, ho⟩ := HO.out.new HWN.out (bd_set (HO.out.at (a := xa) (c := xc) (n := m + 1) (l := natInts (rIn 0 (m + 1))) (by simp) (by simp)).ok.bd (by have := HZB.out; omega)) (by simp; omega)
  simp only [List.length_set, natInts_len, rIn_len] at he5 ho
  cases he5
  generalize hw6 : w5.setCell ⟨bb, m, none⟩ (.int .i64 zb) = w6 at ho ⊢
  clear HO HWN hw6; have HO := Lib.hid ho; clear ho
  have hX := HO.out.at (a := ya) (c := yc) (n := m + 1) (l := natInts (rIn (m + 1) (m + 1))) (by simp) (by simp)
  have hC := Clref_w hX.ok (m + 1) (by simp)
  have HC := Lib.hid hC; clear hC hX
  go_wp2_with fail
  refine HC.out.mono ?_
  rintro e w7 ⟨v, rfl, hwn⟩
  obtain ⟨lb2, lc2, hv⟩ := row.parts hwn.1 (by simp [intCells])
  simp only [intCells, List.length_map, natInts_len, rIn_len] at hv
  subst hv
  obtain ⟨zl, hzl⟩ : ∃ zl : Int, zl = min z (-1) := ⟨_, rfl⟩
  have hmx := min_ii z (-1)
  rw [← hzl] at hmx
  have HZL := Lib.hid hzl; clear hzl
  obtain ⟨q0, q1⟩ := hwn.at (k := 0) (by simp) (List.getElem?_eq_getElem (by simp))
  generalize (natInts (rIn (m + 1) (m + 1)))[0] = r0 at q0
  have HWN := Lib.hid (hwn.set (i := 0) (by simp) zl); clear hwn
  go_wp2_with fail
  clear q0 q1 hmx HC
  obtain ⟨a5, c5, he5, ho⟩ := HO.out.new HWN.out (bd_set (HO.out.at (a := ya) (c := yc) (n := m + 1) (l := natInts (rIn (m + 1) (m + 1))) (by simp) (by simp)).ok.bd (by have := HZL.out; omega)) (by simp; omega)
  simp only [List.length_set, natInts_len, rIn_len] at he5 ho
  cases he5
  generalize hw8 : w7.setCell ⟨lb2, 0, none⟩ (.int .i64 zl) = w8 at ho ⊢
  clear HO HWN hw8; have HO := Lib.hid ho; clear ho
  have hX := HO.out.at (a := ya) (c := yc) (n := m + 1) (l := natInts (rIn (m + 1) (m + 1))) (by simp) (by simp)
  have hC := Clref_w hX.ok (m + 1) (by simp)
  have HC := Lib.hid hC; clear hC hX
  go_wp2_with fail
  refine HC.out.mono ?_
  rintro e w9 ⟨v, rfl, hwn⟩
  obtain ⟨bbp, bcp, hv⟩ := row.parts hwn.1 (by simp [intCells])
  simp only [intCells, List.length_map, natInts_len, rIn_len] at hv
  subst hv
  have hro := hwn.1.ch (F := []) ((Ch.refl [] _).alloc (.cells #[.int .i64 0] 34)) (by simp)
  rw [show (intCells (natInts (rIn (m + 1) (m + 1)))).length = m + 1 from by simp [intCells]] at hro
  have HRO := Lib.hid hro; clear hro
  have HWN := Lib.hid hwn; clear hwn HC
  go_wp2_with (at_builtin; go_loud (refine wpList_append_row slRefs rfl _ _ rfl (v := .slice (some ⟨bbp, 0, none⟩) (m + 1) bcp) (n := m + 1) (xs := intCells (natInts (rIn (m + 1) (m + 1)))) rfl HRO.out (ad := ⟨w9.heap.size, 0, none⟩) (m := 1) (c := 1) (news := [.int .i64 0]) rfl rfl (news_blk (blk.new' _ _ rfl)) (by simp [Value.oneCell']) (by omega) (by omega) ?_; intro v' wq hown4 hC4 hf4; have HWA := Lib.hid (HWN.out.app ((Ch.refl [] _).alloc _) (by simp) hown4 hC4 hf4); obtain ⟨gbp, gcp, rfl⟩ := row.parts hown4 (by omega); have HO4 := Lib.hid hown4; clear hown4; have HC4 := Lib.hid hC4; clear hC4; have HF4 := Lib.hid hf4; clear hf4))
  have hap := HO.out.new (HWN.out.app ((Ch.refl [] _).alloc _) (by simp) HO4.out HC4.out HF4.out) (bd_app (HO.out.at (a := ya) (c := yc) (n := m + 1) (l := natInts (rIn (m + 1) (m + 1))) (by simp) (by simp)).ok.bd (by omega)) (by simp; omega)
  simp only [List.length_append, natInts_len, rIn_len, List.length_cons, List.length_nil] at hap
  obtain ⟨ap, cp, hap1, ho⟩ := hap
  cases hap1
  clear HO HWN HO4 HC4 HF4 HRO; have HO := Lib.hid ho; clear ho
  have hX := HO.out.at (a := ya) (c := yc) (n := m + 1) (l := natInts (rIn (m + 1) (m + 1))) (by simp) (by simp)
  have hC := Clref_w hX.ok (m + 1) (by simp)
  have HC := Lib.hid hC; clear hC hX
  go_wp2_with fail
  refine HC.out.mono ?_
  rintro e w10 ⟨v, rfl, hwn⟩
  obtain ⟨bbq, bcq, hv⟩ := row.parts hwn.1 (by simp [intCells])
  simp only [intCells, List.length_map, natInts_len, rIn_len] at hv
  subst hv
  have hro := hwn.1.ch (F := []) ((Ch.refl [] _).alloc (.cells #[.int .i64 0] 34)) (by simp)
  rw [show (intCells (natInts (rIn (m + 1) (m + 1)))).length = m + 1 from by simp [intCells]] at hro
  have HRO := Lib.hid hro; clear hro
  have HWN := Lib.hid hwn; clear hwn HC
  go_wp2_with (at_builtin; go_loud (refine wpList_append_row slRefs rfl _ _ rfl (v := .slice (some ⟨bbq, 0, none⟩) (m + 1) bcq) (n := m + 1) (xs := intCells (natInts (rIn (m + 1) (m + 1)))) rfl HRO.out (ad := ⟨w10.heap.size, 0, none⟩) (m := 1) (c := 1) (news := [.int .i64 0]) rfl rfl (news_blk (blk.new' _ _ rfl)) (by simp [Value.oneCell']) (by omega) (by omega) ?_; intro v' wr hown4 hC4 hf4; have HWA := Lib.hid (HWN.out.app ((Ch.refl [] _).alloc _) (by simp) hown4 hC4 hf4); obtain ⟨gbq, gcq, rfl⟩ := row.parts hown4 (by omega); have HO4 := Lib.hid hown4; clear hown4; have HC4 := Lib.hid hC4; clear hC4; have HF4 := Lib.hid hf4; clear hf4))
  have hap := HO.out.new (HWN.out.app ((Ch.refl [] _).alloc _) (by simp) HO4.out HC4.out HF4.out) (bd_app (HO.out.at (a := ya) (c := yc) (n := m + 1) (l := natInts (rIn (m + 1) (m + 1))) (by simp) (by simp)).ok.bd (by omega)) (by simp; omega)
  simp only [List.length_append, natInts_len, rIn_len, List.length_cons, List.length_nil] at hap
  obtain ⟨aq, cq, hap1, ho⟩ := hap
  cases hap1
  clear HO HWN HO4 HC4 HF4 HRO; have HO := Lib.hid ho; clear ho
  have ho := HO.out.nil
  clear HO; have HO := Lib.hid ho; clear ho
  go_wp2_with fail
  refine wp_alw ?_
  intro W0 hW0
  have hcells := alw_blk (xs := [.slice none 0 0, .slice none 0 0, .slice (some ⟨lb, 0, none⟩) 18 18, .slice (some ⟨lb, 0, none⟩) 18 18, .slice xa (m + 1) xc, .slice (some ⟨gbp, 0, none⟩) (m + 1 + 1) gcp, .slice (some ⟨bb, 0, none⟩) (m + 1) bc, .slice (some ⟨gbq, 0, none⟩) (m + 1 + 1) gcq, .slice (some ⟨bb, 0, none⟩) (m + 1) bc, .slice ya (m + 1) yc, .slice xa (m + 1) xc, .slice (some ⟨lb2, 0, none⟩) (m + 1) lc2]) hW0
  have ho := HO.out.keepN (alw_ch hW0) hcells
  clear hW0 hcells
  clear HO; have HO := Lib.hid ho; clear ho
  generalize wr.heap.size = pb at HO ⊢
  have hXn : (natInts (rIn 0 (m + 1))).length = m + 1 := by simp
  have hYn : (natInts (rIn (m + 1) (m + 1))).length = m + 1 := by simp
  obtain ⟨X, hX⟩ : ∃ X, X = natInts (rIn 0 (m + 1)) := ⟨_, rfl⟩
  obtain ⟨Y, hY⟩ : ∃ Y, Y = natInts (rIn (m + 1) (m + 1)) := ⟨_, rfl⟩
  rw [← hX] at hXn HO
  rw [← hY] at hYn HO
  have hW1 : rightW (m + 1 : Nat) = true := by unfold rightW; simp; omega
  have hW2 : rightW (18 : Nat) = false := by decide
  have hW3 : rightW (0 : Nat) = false := by decide
  have hr1 : right (gIn 4000 (2 * (m + 1))).nodes zb = false := by have := HZB.out; unfold right; apply decide_eq_false; simp [gIn]; omega
  have hr2 : right (gIn 4000 (2 * (m + 1))).nodes zl = false := by have := HZL.out; unfold right; apply decide_eq_false; omega
  have hb1 : badIn (gIn 4000 (2 * (m + 1))) (X.set m zb) = true := badIn_set (by omega) hr1
  have hb2 : badIn (gIn 4000 (2 * (m + 1))) (Y.set 0 zl) = true := badIn_set (by omega) hr2
  have hlgn := HLGN.out
  have hmem := fun (j : Nat) (hj : j < 6) => show ∃ ua uc un ul ta tc tn tl, [.slice none 0 0, .slice none 0 0, .slice (some ⟨lb, 0, none⟩) 18 18, .slice (some ⟨lb, 0, none⟩) 18 18, .slice xa (m + 1) xc, .slice (some ⟨gbp, 0, none⟩) (m + 1 + 1) gcp, .slice (some ⟨bb, 0, none⟩) (m + 1) bc, .slice (some ⟨gbq, 0, none⟩) (m + 1 + 1) gcq, .slice (some ⟨bb, 0, none⟩) (m + 1) bc, .slice ya (m + 1) yc, .slice xa (m + 1) xc, .slice (some ⟨lb2, 0, none⟩) (m + 1) lc2][j * 2]? = some (Value.slice ua un uc) ∧ [.slice none 0 0, .slice none 0 0, .slice (some ⟨lb, 0, none⟩) 18 18, .slice (some ⟨lb, 0, none⟩) 18 18, .slice xa (m + 1) xc, .slice (some ⟨gbp, 0, none⟩) (m + 1 + 1) gcp, .slice (some ⟨bb, 0, none⟩) (m + 1) bc, .slice (some ⟨gbq, 0, none⟩) (m + 1 + 1) gcq, .slice (some ⟨bb, 0, none⟩) (m + 1) bc, .slice ya (m + 1) yc, .slice xa (m + 1) xc, .slice (some ⟨lb2, 0, none⟩) (m + 1) lc2][j * 2 + 1]? = some (Value.slice ta tn tc) ∧
      (Value.slice ua un uc, ul) ∈ [(.slice none 0 0, []), (.slice (some ⟨gbq, 0, none⟩) (m + 1 + 1) gcq, Y ++ [0]), (.slice (some ⟨gbp, 0, none⟩) (m + 1 + 1) gcp, Y ++ [0]), (.slice (some ⟨lb2, 0, none⟩) (m + 1) lc2, Y.set 0 zl), (.slice (some ⟨bb, 0, none⟩) (m + 1) bc, X.set m zb), (.slice (some ⟨lb, 0, none⟩) 18 18, lg), (.slice ya (m + 1) yc, Y), (.slice xa (m + 1) xc, X)] ∧
      (Value.slice ta tn tc, tl) ∈ [(.slice none 0 0, []), (.slice (some ⟨gbq, 0, none⟩) (m + 1 + 1) gcq, Y ++ [0]), (.slice (some ⟨gbp, 0, none⟩) (m + 1 + 1) gcp, Y ++ [0]), (.slice (some ⟨lb2, 0, none⟩) (m + 1) lc2, Y.set 0 zl), (.slice (some ⟨bb, 0, none⟩) (m + 1) bc, X.set m zb), (.slice (some ⟨lb, 0, none⟩) 18 18, lg), (.slice ya (m + 1) yc, Y), (.slice xa (m + 1) xc, X)] ∧
      ul.length = un ∧ tl.length = tn ∧ chk (gIn 4000 (2 * (m + 1))) [ul, tl] = (if 3 < j then 200 else 230) ∧ chk (gIn 4000 (2 * (m + 1))) [tl, ul] = (if 3 < j then 200 else 230) from by
    rcases (by omega : j = 0 ∨ j = 1 ∨ j = 2 ∨ j = 3 ∨ j = 4 ∨ j = 5) with rfl | rfl | rfl | rfl | rfl | rfl
    · exact ⟨_, _, _, [], _, _, _, [], rfl, rfl, by simp, by simp, rfl, rfl, chk2_w hW3, chk2_w hW3⟩
    · exact ⟨_, _, _, lg, _, _, _, lg, rfl, rfl, by simp, by simp, hlgn, hlgn, chk2_w (by rw [hlgn]; exact hW2), chk2_w (by rw [hlgn]; exact hW2)⟩
    · exact ⟨_, _, _, X, _, _, _, Y ++ [0], rfl, rfl, by simp, by simp, hXn, by simp [hYn], chk2_d (by simp [hXn, hYn]), chk2_d (by simp [hXn, hYn])⟩
    · exact ⟨_, _, _, X.set m zb, _, _, _, Y ++ [0], rfl, rfl, by simp, by simp, by simp [hXn], by simp [hYn], chk2_d (by simp [hXn, hYn]), chk2_d (by simp [hXn, hYn])⟩
    · exact ⟨_, _, _, X.set m zb, _, _, _, Y, rfl, rfl, by simp, by simp, by simp [hXn], hYn, chk2_r (by rw [List.length_set, hXn]; exact hW1) (by simp [hXn, hYn]) (.inl hb1), chk2_r (by rw [hYn]; exact hW1) (by simp [hXn, hYn]) (.inr hb1)⟩
    · exact ⟨_, _, _, X, _, _, _, Y.set 0 zl, rfl, rfl, by simp, by simp, hXn, by simp [hYn], chk2_r (by rw [hXn]; exact hW1) (by simp [hXn, hYn]) (.inr hb2), chk2_r (by rw [List.length_set, hYn]; exact hW1) (by simp [hXn, hYn]) (.inl hb2)⟩
  have HMEM := Lib.hid hmem; clear hmem
  have hmem4 := fun (j : Nat) (hj : j < 4) => show ∃ ua uc un ul, [.slice none 0 0, .slice (some ⟨lb, 0, none⟩) 18 18, .slice (some ⟨bb, 0, none⟩) (m + 1) bc, .slice (some ⟨lb2, 0, none⟩) (m + 1) lc2][j]? = some (Value.slice ua un uc) ∧
      (Value.slice ua un uc, ul) ∈ [(.slice none 0 0, []), (.slice (some ⟨gbq, 0, none⟩) (m + 1 + 1) gcq, Y ++ [0]), (.slice (some ⟨gbp, 0, none⟩) (m + 1 + 1) gcp, Y ++ [0]), (.slice (some ⟨lb2, 0, none⟩) (m + 1) lc2, Y.set 0 zl), (.slice (some ⟨bb, 0, none⟩) (m + 1) bc, X.set m zb), (.slice (some ⟨lb, 0, none⟩) 18 18, lg), (.slice ya (m + 1) yc, Y), (.slice xa (m + 1) xc, X)] ∧
      ul.length = un ∧ chk (gIn 4000 (2 * (m + 1))) [ul] = (if 1 < j then 200 else 230) ∧ chk (gIn 4000 (2 * (m + 1))) [List.replicate un 0, ul] = (if 1 < j then 200 else 230) from by
    rcases (by omega : j = 0 ∨ j = 1 ∨ j = 2 ∨ j = 3) with rfl | rfl | rfl | rfl
    · exact ⟨_, _, _, [], rfl, by simp, rfl, chk1_w hW3, chk2_w hW3⟩
    · exact ⟨_, _, _, lg, rfl, by simp, hlgn, chk1_w (by rw [hlgn]; exact hW2), chk2_w (by rw [List.length_replicate]; exact hW2)⟩
    · exact ⟨_, _, _, X.set m zb, rfl, by simp, by simp [hXn], chk1_r (by rw [List.length_set, hXn]; exact hW1) hb1, chk2_r (by rw [List.length_replicate]; exact hW1) (by simp [hXn]) (.inr hb1)⟩
    · exact ⟨_, _, _, Y.set 0 zl, rfl, by simp, by simp [hYn], chk1_r (by rw [List.length_set, hYn]; exact hW1) hb2, chk2_r (by rw [List.length_replicate]; exact hW1) (by simp [hYn]) (.inr hb2)⟩
  have HMEM4 := Lib.hid hmem4; clear hmem4
  have HW1 := Lib.hid hW1
  have hmX : (Value.slice xa (m + 1) xc, X) ∈ [(Value.slice none 0 0, ([] : List Int)), (.slice (some ⟨gbq, 0, none⟩) (m + 1 + 1) gcq, Y ++ [0]), (.slice (some ⟨gbp, 0, none⟩) (m + 1 + 1) gcp, Y ++ [0]), (.slice (some ⟨lb2, 0, none⟩) (m + 1) lc2, Y.set 0 zl), (.slice (some ⟨bb, 0, none⟩) (m + 1) bc, X.set m zb), (.slice (some ⟨lb, 0, none⟩) 18 18, lg), (.slice ya (m + 1) yc, Y), (.slice xa (m + 1) xc, X)] := by simp
  have hmN : (Value.slice none 0 0, ([] : List Int)) ∈ [(Value.slice none 0 0, ([] : List Int)), (.slice (some ⟨gbq, 0, none⟩) (m + 1 + 1) gcq, Y ++ [0]), (.slice (some ⟨gbp, 0, none⟩) (m + 1 + 1) gcp, Y ++ [0]), (.slice (some ⟨lb2, 0, none⟩) (m + 1) lc2, Y.set 0 zl), (.slice (some ⟨bb, 0, none⟩) (m + 1) bc, X.set m zb), (.slice (some ⟨lb, 0, none⟩) 18 18, lg), (.slice ya (m + 1) yc, Y), (.slice xa (m + 1) xc, X)] := List.mem_cons_self ..
  clear hb1 hb2 hr1 hr2 hW1 hW2 hW3 hlgn hlg0
  generalize hCL : [.slice none 0 0, .slice none 0 0, .slice (some ⟨lb, 0, none⟩) 18 18, .slice (some ⟨lb, 0, none⟩) 18 18, .slice xa (m + 1) xc, .slice (some ⟨gbp, 0, none⟩) (m + 1 + 1) gcp, .slice (some ⟨bb, 0, none⟩) (m + 1) bc, .slice (some ⟨gbq, 0, none⟩) (m + 1 + 1) gcq, .slice (some ⟨bb, 0, none⟩) (m + 1) bc, .slice ya (m + 1) yc, .slice xa (m + 1) xc, Value.slice (some ⟨lb2, 0, none⟩) (m + 1) lc2] = CL at HO HMEM
  generalize hLL : [(Value.slice none 0 0, ([] : List Int)), (.slice (some ⟨gbq, 0, none⟩) (m + 1 + 1) gcq, Y ++ [0]), (.slice (some ⟨gbp, 0, none⟩) (m + 1 + 1) gcp, Y ++ [0]), (.slice (some ⟨lb2, 0, none⟩) (m + 1) lc2, Y.set 0 zl), (.slice (some ⟨bb, 0, none⟩) (m + 1) bc, X.set m zb), (.slice (some ⟨lb, 0, none⟩) 18 18, lg), (.slice ya (m + 1) yc, Y), (.slice xa (m + 1) xc, X)] = LL at HO HMEM HMEM4 hmX hmN
  have HLL := Lib.hid hLL; clear hLL hCL
  go_loopw [112] (fun i wq => ∃ (j : Nat) (FQ : List Nat), j ≤ 6 ∧ i = .int .i64 j ∧ Hold ((Base.mk w1 []).add pb CL) wq g (gIn 4000 (2 * (m + 1))) FQ LL) (fun i _ => 6 - (intOf i).toNat)
  case atStart => exact ⟨0, _, by omega, rfl, HO.out⟩
  case round =>
    obtain ⟨j, FQ, hj, rfl, ho⟩ := hrel
    clear HO; have HO := Lib.hid ho; clear ho
    by_cases hj6 : j < 6
    · obtain ⟨ua, uc, un, ul, ta, tc, tn, tl, hk0, hk1, hmx, hmy, hxn, hyn, hck, hck2⟩ := HMEM.out j hj6
      have k0 := (HO.out.kb0).cell hk0
      have k1 := (HO.out.kb0).cell hk1
      clear hk0 hk1
      by_cases hj3 : 3 < j
      · have d3 : decide ((3 : Int) < j) = true := decide_eq_true (by omega)
        rw [if_pos hj3] at hck hck2
        clear hj3
        go_wp2_with fail
        refine calls_named fun W1 hW1 => ?_
        have ho := HO.out.keepN (alw_ch hW1) (alw_blk (xs := [.slice ua un uc, .slice ta tn tc]) hW1)
        clear hW1 k0 k1 HO; have HO := Lib.hid ho; clear ho
        generalize wr.heap.size = qb at HO ⊢
        have kc0 := (HO.out.kb0).cell (i := 0) rfl
        have kc1 := (HO.out.kb0).cell (i := 1) rfl
        go_wp2_with fail
        refine (sAnd_no HO.out hmx hxn hmy hyn hck (by decide)).mono ?_
        rintro e v0 ⟨a0, c0, G0, rfl, ho⟩
        clear HO kc0 kc1; have HO := Lib.hid ho; clear ho
        have kc0 := (HO.out.kb0).cell (i := 0) rfl
        have kc1 := (HO.out.kb0).cell (i := 1) rfl
        go_wp2_with fail
        refine (sOr_no HO.out hmx hxn hmy hyn hck (by decide)).mono ?_
        rintro e v1 ⟨a1, c1, G1, rfl, ho⟩
        clear HO kc0 kc1; have HO := Lib.hid ho; clear ho
        have kc0 := (HO.out.kb0).cell (i := 0) rfl
        have kc1 := (HO.out.kb0).cell (i := 1) rfl
        go_wp2_with fail
        refine (sXor_no HO.out hmx hxn hmy hyn hck (by decide)).mono ?_
        rintro e v2 ⟨a2, c2, G2, rfl, ho⟩
        clear HO kc0 kc1; have HO := Lib.hid ho; clear ho
        have kc0 := (HO.out.kb0).cell (i := 0) rfl
        have kc1 := (HO.out.kb0).cell (i := 1) rfl
        go_wp2_with fail
        refine (sAdd_no HO.out hmx hxn hmy hyn hck (by decide)).mono ?_
        rintro e v3 ⟨a3, c3, G3, rfl, ho⟩
        clear HO kc0 kc1; have HO := Lib.hid ho; clear ho
        have kc0 := (HO.out.kb0).cell (i := 0) rfl
        have kc1 := (HO.out.kb0).cell (i := 1) rfl
        go_wp2_with fail
        refine (sSub_no HO.out hmx hxn hmy hyn hck (by decide)).mono ?_
        rintro e v4 ⟨a4, c4, G4, rfl, ho⟩
        clear HO kc0 kc1; have HO := Lib.hid ho; clear ho
        have kc0 := (HO.out.kb0).cell (i := 0) rfl
        have kc1 := (HO.out.kb0).cell (i := 1) rfl
        go_wp2_with fail
        refine (sEq_no HO.out hmx hxn hmy hyn hck (by decide)).mono ?_
        rintro e v5 ⟨G5, rfl, ho⟩
        clear HO kc0 kc1; have HO := Lib.hid ho; clear ho
        have kc0 := (HO.out.kb0).cell (i := 0) rfl
        have kc1 := (HO.out.kb0).cell (i := 1) rfl
        go_wp2_with fail
        refine (sNe_no HO.out hmx hxn hmy hyn hck (by decide)).mono ?_
        rintro e v6 ⟨G6, rfl, ho⟩
        clear HO kc0 kc1; have HO := Lib.hid ho; clear ho
        have kc0 := (HO.out.kb0).cell (i := 0) rfl
        have kc1 := (HO.out.kb0).cell (i := 1) rfl
        go_wp2_with fail
        refine (sLt_no HO.out hmx hxn hmy hyn hck (by decide)).mono ?_
        rintro e v7 ⟨G7, rfl, ho⟩
        clear HO kc0 kc1; have HO := Lib.hid ho; clear ho
        have kc0 := (HO.out.kb0).cell (i := 0) rfl
        have kc1 := (HO.out.kb0).cell (i := 1) rfl
        go_wp2_with fail
        refine (sLe_no HO.out hmx hxn hmy hyn hck2 (by decide)).mono ?_
        rintro e v8 ⟨G8, rfl, ho⟩
        clear HO kc0 kc1; have HO := Lib.hid ho; clear ho
        go_wp2_with fail
        refine wp_alw ?_
        intro W2 hW2
        have ho := HO.out.keepN (alw_ch hW2) (alw_blk (xs := List.replicate 9 (.int .i64 200)) hW2)
        clear hW2 HO; have HO := Lib.hid ho; clear ho
        generalize v8.heap.size = eb at HO ⊢
        go_loopw [211] (fun i wt => ∃ k : Nat, k ≤ 9 ∧ i = .int .i64 k ∧ Hold (((Base.mk w1 []).add pb CL).add qb [.slice ua un uc, .slice ta tn tc] |>.add eb (List.replicate 9 (.int .i64 200))) wt g (gIn 4000 (2 * (m + 1))) G8 LL) (fun i _ => 9 - (intOf i).toNat)
        case atStart => exact ⟨0, by omega, rfl, HO.out⟩
        case round =>
          obtain ⟨k, hk, rfl, ho⟩ := hrel
          clear HO; have HO := Lib.hid ho; clear ho
          by_cases hk9 : k < 9
          · have c0 := (HO.out.kb0).cell (i := k) (v := .int .i64 200) (by rw [List.getElem?_replicate, if_pos hk9])
            go_wp2_with fail
            go_roundw
            case rel => exact ⟨k + 1, by omega, by go_num, HO.out⟩
            case measure => simp [intOf] <;> omega
          · go_wp2_with fail
            go_roundw
            case rel => exact ⟨j + 1, G8, by omega, by go_num, HO.out.dropB.dropB⟩
            case measure => simp [intOf] <;> omega
      · have d3 : decide ((3 : Int) < j) = false := decide_eq_false (by omega)
        rw [if_neg hj3] at hck hck2
        clear hj3
        go_wp2_with fail
        refine calls_named fun W1 hW1 => ?_
        have ho := HO.out.keepN (alw_ch hW1) (alw_blk (xs := [.slice ua un uc, .slice ta tn tc]) hW1)
        clear hW1 k0 k1 HO; have HO := Lib.hid ho; clear ho
        generalize wr.heap.size = qb at HO ⊢
        have kc0 := (HO.out.kb0).cell (i := 0) rfl
        have kc1 := (HO.out.kb0).cell (i := 1) rfl
        go_wp2_with fail
        refine (sAnd_no HO.out hmx hxn hmy hyn hck (by decide)).mono ?_
        rintro e v0 ⟨a0, c0, G0, rfl, ho⟩
        clear HO kc0 kc1; have HO := Lib.hid ho; clear ho
        have kc0 := (HO.out.kb0).cell (i := 0) rfl
        have kc1 := (HO.out.kb0).cell (i := 1) rfl
        go_wp2_with fail
        refine (sOr_no HO.out hmx hxn hmy hyn hck (by decide)).mono ?_
        rintro e v1 ⟨a1, c1, G1, rfl, ho⟩
        clear HO kc0 kc1; have HO := Lib.hid ho; clear ho
        have kc0 := (HO.out.kb0).cell (i := 0) rfl
        have kc1 := (HO.out.kb0).cell (i := 1) rfl
        go_wp2_with fail
        refine (sXor_no HO.out hmx hxn hmy hyn hck (by decide)).mono ?_
        rintro e v2 ⟨a2, c2, G2, rfl, ho⟩
        clear HO kc0 kc1; have HO := Lib.hid ho; clear ho
        have kc0 := (HO.out.kb0).cell (i := 0) rfl
        have kc1 := (HO.out.kb0).cell (i := 1) rfl
        go_wp2_with fail
        refine (sAdd_no HO.out hmx hxn hmy hyn hck (by decide)).mono ?_
        rintro e v3 ⟨a3, c3, G3, rfl, ho⟩
        clear HO kc0 kc1; have HO := Lib.hid ho; clear ho
        have kc0 := (HO.out.kb0).cell (i := 0) rfl
        have kc1 := (HO.out.kb0).cell (i := 1) rfl
        go_wp2_with fail
        refine (sSub_no HO.out hmx hxn hmy hyn hck (by decide)).mono ?_
        rintro e v4 ⟨a4, c4, G4, rfl, ho⟩
        clear HO kc0 kc1; have HO := Lib.hid ho; clear ho
        have kc0 := (HO.out.kb0).cell (i := 0) rfl
        have kc1 := (HO.out.kb0).cell (i := 1) rfl
        go_wp2_with fail
        refine (sEq_no HO.out hmx hxn hmy hyn hck (by decide)).mono ?_
        rintro e v5 ⟨G5, rfl, ho⟩
        clear HO kc0 kc1; have HO := Lib.hid ho; clear ho
        have kc0 := (HO.out.kb0).cell (i := 0) rfl
        have kc1 := (HO.out.kb0).cell (i := 1) rfl
        go_wp2_with fail
        refine (sNe_no HO.out hmx hxn hmy hyn hck (by decide)).mono ?_
        rintro e v6 ⟨G6, rfl, ho⟩
        clear HO kc0 kc1; have HO := Lib.hid ho; clear ho
        have kc0 := (HO.out.kb0).cell (i := 0) rfl
        have kc1 := (HO.out.kb0).cell (i := 1) rfl
        go_wp2_with fail
        refine (sLt_no HO.out hmx hxn hmy hyn hck (by decide)).mono ?_
        rintro e v7 ⟨G7, rfl, ho⟩
        clear HO kc0 kc1; have HO := Lib.hid ho; clear ho
        have kc0 := (HO.out.kb0).cell (i := 0) rfl
        have kc1 := (HO.out.kb0).cell (i := 1) rfl
        go_wp2_with fail
        refine (sLe_no HO.out hmx hxn hmy hyn hck2 (by decide)).mono ?_
        rintro e v8 ⟨G8, rfl, ho⟩
        clear HO kc0 kc1; have HO := Lib.hid ho; clear ho
        go_wp2_with fail
        refine wp_alw ?_
        intro W2 hW2
        have ho := HO.out.keepN (alw_ch hW2) (alw_blk (xs := List.replicate 9 (.int .i64 230)) hW2)
        clear hW2 HO; have HO := Lib.hid ho; clear ho
        generalize v8.heap.size = eb at HO ⊢
        go_loopw [211] (fun i wt => ∃ k : Nat, k ≤ 9 ∧ i = .int .i64 k ∧ Hold (((Base.mk w1 []).add pb CL).add qb [.slice ua un uc, .slice ta tn tc] |>.add eb (List.replicate 9 (.int .i64 230))) wt g (gIn 4000 (2 * (m + 1))) G8 LL) (fun i _ => 9 - (intOf i).toNat)
        case atStart => exact ⟨0, by omega, rfl, HO.out⟩
        case round =>
          obtain ⟨k, hk, rfl, ho⟩ := hrel
          clear HO; have HO := Lib.hid ho; clear ho
          by_cases hk9 : k < 9
          · have c0 := (HO.out.kb0).cell (i := k) (v := .int .i64 230) (by rw [List.getElem?_replicate, if_pos hk9])
            go_wp2_with fail
            go_roundw
            case rel => exact ⟨k + 1, by omega, by go_num, HO.out⟩
            case measure => simp [intOf] <;> omega
          · go_wp2_with fail
            go_roundw
            case rel => exact ⟨j + 1, G8, by omega, by go_num, HO.out.dropB.dropB⟩
            case measure => simp [intOf] <;> omega
    · have HO2 := Lib.hid HO.out.dropB; clear HO
      go_wp2_with fail
      refine wp_alw ?_
      intro W1 hW1
      have ho := HO2.out.keepN (alw_ch hW1) (alw_blk (xs := [.slice none 0 0, .slice (some ⟨lb, 0, none⟩) 18 18, .slice (some ⟨bb, 0, none⟩) (m + 1) bc, .slice (some ⟨lb2, 0, none⟩) (m + 1) lc2]) hW1)
      clear hW1 HO2; have HO := Lib.hid ho; clear ho
      generalize hCL4 : [.slice none 0 0, .slice (some ⟨lb, 0, none⟩) 18 18, .slice (some ⟨bb, 0, none⟩) (m + 1) bc, Value.slice (some ⟨lb2, 0, none⟩) (m + 1) lc2] = CL4 at HO HMEM4
      clear hCL4 HMEM
      generalize wr.heap.size = qb at HO ⊢
      go_loopw [225] (fun i wq => ∃ (j : Nat) (FQ : List Nat), j ≤ 4 ∧ i = .int .i64 j ∧ Hold ((Base.mk w1 []).add qb CL4) wq g (gIn 4000 (2 * (m + 1))) FQ LL) (fun i _ => 4 - (intOf i).toNat)
      case atStart => exact ⟨0, _, by omega, rfl, HO.out⟩
      case round =>
        obtain ⟨j, FQ, hj, rfl, ho⟩ := hrel
        clear HO; have HO := Lib.hid ho; clear ho
        by_cases hj4 : j < 4
        · obtain ⟨ua, uc, un, ul, hk0, hmx, hxn, hck, hck2⟩ := HMEM4.out j hj4
          have k0 := (HO.out.kb0).cell hk0
          clear hk0
          by_cases hj1 : 1 < j
          · have d3 : decide ((1 : Int) < j) = true := decide_eq_true (by omega)
            rw [if_pos hj1] at hck hck2
            clear hj1
            go_wp2_with fail
            refine (sNot_no HO.out hmx hxn hck (by decide)).mono ?_
            rintro e v1 ⟨a1, c1, G1, rfl, ho⟩
            clear HO k0; have HO := Lib.hid ho; clear ho
            go_wp2_with fail
            refine (sNeg_no HO.out hmx hxn hck2 (by decide)).mono ?_
            rintro e v2 ⟨a2, c2, G2, rfl, ho⟩
            clear HO; have HO := Lib.hid ho; clear ho
            go_wp2_with fail
            refine (sAny_no HO.out hmx hxn hck (by decide)).mono ?_
            rintro e v3 ⟨G3, rfl, ho⟩
            clear HO; have HO := Lib.hid ho; clear ho
            go_wp2_with fail
            go_roundw
            case rel => exact ⟨j + 1, G3, by omega, by go_num, HO.out⟩
            case measure => simp [intOf] <;> omega
          · have d3 : decide ((1 : Int) < j) = false := decide_eq_false (by omega)
            rw [if_neg hj1] at hck hck2
            clear hj1
            go_wp2_with fail
            refine (sNot_no HO.out hmx hxn hck (by decide)).mono ?_
            rintro e v1 ⟨a1, c1, G1, rfl, ho⟩
            clear HO k0; have HO := Lib.hid ho; clear ho
            go_wp2_with fail
            refine (sNeg_no HO.out hmx hxn hck2 (by decide)).mono ?_
            rintro e v2 ⟨a2, c2, G2, rfl, ho⟩
            clear HO; have HO := Lib.hid ho; clear ho
            go_wp2_with fail
            refine (sAny_no HO.out hmx hxn hck (by decide)).mono ?_
            rintro e v3 ⟨G3, rfl, ho⟩
            clear HO; have HO := Lib.hid ho; clear ho
            go_wp2_with fail
            go_roundw
            case rel => exact ⟨j + 1, G3, by omega, by go_num, HO.out⟩
            case measure => simp [intOf] <;> omega
        · have HO2 := Lib.hid HO.out.dropB; clear HO
          have hmn := min_ii z 0
          have hmx := max_ii z 18
          obtain ⟨z1, hz1⟩ : ∃ z1 : Int, z1 = min z 0 := ⟨_, rfl⟩
          obtain ⟨z2, hz2⟩ : ∃ z2 : Int, z2 = max z 18 := ⟨_, rfl⟩
          rw [← hz1] at hmn
          rw [← hz2] at hmx
          have hzz := fun (j : Nat) (hj : j < 2) => show ∃ y : Int, [Value.int .i64 z1, .int .i64 z2][j]? = some (.int .i64 y) ∧ rightW y = false from by
            rcases (by omega : j = 0 ∨ j = 1) with rfl | rfl
            · exact ⟨z1, rfl, by unfold rightW; simp; omega⟩
            · exact ⟨z2, rfl, by unfold rightW; simp; omega⟩
          have HZZ := Lib.hid hzz; clear hzz hz1 hz2
          go_wp2_with fail
          refine wp_alw ?_
          intro W2 hW2
          have ho := HO2.out.keepN (alw_ch hW2) (alw_blk (xs := [.int .i64 z1, .int .i64 z2]) hW2)
          clear hW2 HO2 hmn hmx; have HO := Lib.hid ho; clear ho
          generalize wr.heap.size = ib at HO ⊢
          go_loopw [270] (fun i wq => ∃ (j : Nat) (FQ : List Nat), j ≤ 2 ∧ i = .int .i64 j ∧ Hold ((Base.mk w1 []).add ib [.int .i64 z1, .int .i64 z2]) wq g (gIn 4000 (2 * (m + 1))) FQ LL) (fun i _ => 2 - (intOf i).toNat)
          case atStart => exact ⟨0, _, by omega, rfl, HO.out⟩
          case round =>
            obtain ⟨j, FQ, hj, rfl, ho⟩ := hrel
            clear HO; have HO := Lib.hid ho; clear ho
            by_cases hj2 : j < 2
            · obtain ⟨y, hk0, hy⟩ := HZZ.out j hj2
              have k0 := (HO.out.kb0).cell hk0
              clear hk0
              go_wp2_with fail
              refine (sConst_no HO.out 1 (by omega) y hy).mono ?_
              rintro e v1 ⟨a1, c1, G1, rfl, ho⟩
              clear HO k0; have HO := Lib.hid ho; clear ho
              go_wp2_with fail
              refine (sInput_no HO.out y hy).mono ?_
              rintro e v2 ⟨a2, c2, G2, rfl, ho⟩
              clear HO; have HO := Lib.hid ho; clear ho
              go_wp2_with fail
              refine (sCast_no HO.out hmX hXn y (by rw [hy]; rfl)).mono ?_
              rintro e v3 ⟨a3, c3, G3, rfl, ho⟩
              clear HO; have HO := Lib.hid ho; clear ho
              go_wp2_with fail
              go_roundw
              case rel => exact ⟨j + 1, G3, by omega, by go_num, HO.out⟩
              case measure => simp [intOf] <;> omega
            · have HO2 := Lib.hid HO.out.dropB; clear HO
              obtain ⟨lb9, hlb⟩ : ∃ l : List Bool, l = List.replicate (m + 2) false := ⟨_, rfl⟩
              have hlbn : lb9.length = m + 2 := by rw [hlb]; simp
              have hmk := make_longB wr (m + 2) (by omega) ((m : Int) + 1 + 1) (by omega) lb9 hlb
              clear hlb
              go_wp2_with fail
              try rw [hmk]
              go_wp2_with fail
              have ho := HO2.out.same ((Ch.refl [] wr).alloc (.cells (lb9.map Value.bool).toArray 4))
              refine (sValue_c ho hmX hXn (b := wr.heap.size) (m := m + 2) (l := lb9) (blk.new' _ _ rfl) hlbn (by omega) (v := 0) (e := 230) (by rw [hlbn, if_neg (by omega)]) (by rw [hlbn, if_neg (by omega)])).mono ?_
              rintro e v4 ⟨rfl, ho4⟩
              clear hmk HO2 ho; have HO := Lib.hid ho4; clear ho4
              go_wp2_with fail
              refine sValue_nil.mono ?_
              rintro e v5 ⟨rfl, rfl⟩
              go_wp2_with fail
              refine (sCast_no HO.out hmN rfl 3 (by decide)).mono ?_
              rintro e v6 ⟨a6, c6, G6, rfl, ho⟩
              clear HO; have HO := Lib.hid ho; clear ho
              go_wp2_with fail
              refine (Len_h HO.out (n := 2 * m + 3) (by simp [gIn]; omega)).mono ?_
              rintro e v7 ⟨rfl, ho⟩
              clear HO; have HO := Lib.hid ho; clear ho
              go_wp2_with fail
              go_ret
              exact ⟨rfl, HC1.out.trans HO.out.own.ch (by simp)⟩
end Go.Proofs.Ytchledddgmbndaa
