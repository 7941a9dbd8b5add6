/-
  Walks over slices.DeleteFunc of ints (nothing, or the first one alone, is deleted), tseitin's mapped and literals. Conditions: a graph in memory, roots that can be read.
  What the formula of a graph and of roots means: its models are the assignments for which the roots are true. No program in sight. Conditions: a graph that is right, roots of it.
  Walks over tseitin's mapped and literals. Conditions: a graph in memory, roots that can be read; a map in order.
  A range over a function whose iterator itself works on memory between its yields: the caller's law. The body goes on always.
  append of a piece to a row, behind a fence. Conditions: a row, and a piece that can be read.
  Walk over tseitin's written: the iterator over the clauses of a graph, a map and roots. Conditions: a graph in memory, a map that is closed, roots of the graph.
  Walk over tseitin's Size. Conditions: a graph in memory, roots that can be read.
  Walk over tseitin's Encode. Conditions: a graph in memory, roots that can be read.
  Walk over tseitin's Encode where it refuses. Conditions: a graph in memory, roots that can be read.
  Walks over slices.Equal, Index and Contains of maps and of clauses, and over same of chapter 27's laws (clauses that are the same). Conditions: slices that can be read.
  Walk over the chapter's examples (awake of tseitin): true. Conditions: none.
  Walks over tseitin's Model and Inputs. Conditions: a graph in memory, a map of any numbers and values that can be read.
  The models of the formula of a graph and of roots are counted by assignments of the inputs of the cone. No program in sight. Conditions: a graph that is right, roots of it.
  Walk over index of chapter 27's laws: a number modulo another one. Conditions: a modulus that is not zero.
  Plain facts of TseitinWrong: maps that are not of a graph; Clone of maps and of clauses, make of truths. Conditions: slices that can be read.
  The reference of chapter 21: True, Support. Conditions: a graph of the reference that can be read, at most 17 inputs.
  Walk over Begin of chapter 23's laws: a graph, and the same one of the reference. Conditions: numbers in range.
  Walks over build and inputs of chapter 21's laws: a graph, and the same one of the reference. Conditions: a slice of at most 61 nodes of any integers.
  Walks over index and build of chapter 27's laws: a graph, and the same one of the reference. Conditions: a slice of nodes of any integers.
-/
import Derived.Test.YtkedpifopclipaaQB
import Derived.OwnWalkIn
import Derived.Deep.DeepCutAuto
namespace Go.Proofs.Ytkedpifopclipaa
open Go.RowKit Go.Mem Go.Aig
theorem clear_rowI {w : World} {b cap n i : Nat} {xs : List Int} (h : row w 3 1 (.slice (some ⟨b, 0, none⟩) n cap) n (intCells xs)) (hi : i < n) :
    ∃ w2, (∀ (ty c : Nat), (Builtin.clear_ #[23] ty #[.slice (some ⟨b, i, none⟩) (n - i) c]).run Try.prog w = .ok (.tuple #[]) w2) ∧ row w2 3 1 (.slice (some ⟨b, 0, none⟩) i cap) i (intCells (xs.take i)) ∧ Ch [b] w w2 := by
  have hl := h.1
  rcases h.2 with ⟨e, _⟩ | ⟨g, cap', cur, e, hb, hg, hle, hm, hs, ht⟩
  · cases e
  · cases e
    simp only [Nat.mul_one] at hs ht
    have hc : ∀ j, j < n - i → (w.cell? ⟨b, i + j, none⟩).isSome = true := fun j hj => by
      have hlt : i + j < cur.size := by omega
      simp [World.cell?, hg, hlt]
    have hf : ∀ j, j < n - i → w.frozen? ⟨b, i + j, none⟩ = false := fun j hj => by simp [World.frozen?, hg]
    have hz : ∀ w, (zeroValue 3).run Try.prog w = .ok (.int .i64 0) w := fun w => by kernel_rfl
    refine ⟨_, fun ty c => Lib.run_clear_slice w 23 3 ty (.int .i64 0) Try.underlying23 hz rfl rfl b i (n - i) c (by omega) hc hf, ?_, setCells_ch _ _ (Ch.refl _ _)⟩
    obtain ⟨cur', h2, h3, h4⟩ := setCells_blk (e := 3) (List.replicate (n - i) (.int .i64 0)) i hg
    refine ⟨?_, .inr ⟨b, cap, cur', rfl, Nat.zero_le _, h2, by omega, hm, by omega, ?_⟩⟩
    · have : xs.length = n := by simpa [intCells] using hl
      simp [intCells, this]; omega
    · rw [Nat.mul_one, h4]
      have : (cur.toList.take n).take i = (intCells xs).take i := by rw [ht]
      rw [List.take_take, Nat.min_eq_left (by omega)] at this
      rw [this]
      simp [intCells, List.map_take]
section
set_option maxRecDepth 100000 in
set_option maxHeartbeats 1000000 in
theorem DFint_none {w : World} {a : Option Addr} {xs : List Int} (n cap fid : Nat) (caps : Array Value) (p : Int → Bool) (hn : xs.length = n) (h : Sl w a xs) (hf : ∀ x ∈ xs, Calls Try.prog fid (#[.int .i64 x] ++ caps) w fun e w' => e = .returned (.bool (p x)) ∧ w = w')
    (hfn : Fnv fid) (hno : ∀ x ∈ xs, p x = false) :
    Calls Try.prog 20 #[.slice a n cap, .func (.func fid) #[] caps] w fun e w' => e = .returned (.slice a n cap) ∧ w = w' := by
  subst hn
  have HI := IFint_is cap fid caps p h hf hfn
  have hi : idxOf p xs = -1 := by
    unfold idxOf
    rw [List.findIdx?_eq_none_iff.2 hno]
  rw [hi] at HI
  clear hf h hfn hno hi
  have HH := Lib.hid HI; clear HI
  go_enter Try.func20, Try.ntmps20
  go_wp2_with fail
  refine HH.out.mono ?_
  rintro e w' ⟨rfl, rfl⟩
  go_wp2_with fail
  go_ret
  exact ⟨rfl, rfl⟩
theorem del_at {x0 : Int} {xs : List Int} {k : Nat} (h1 : 1 ≤ k) {y : Int} (hy : (x0 :: xs)[k]? = some y) : (xs.take (k - 1) ++ (x0 :: xs).drop (k - 1))[k]? = some y := by
  have hlt := (List.getElem?_eq_some_iff.1 hy).1
  simp only [List.length_cons] at hlt
  rw [List.getElem?_append_right (by rw [List.length_take]; omega), List.getElem?_drop, List.length_take, show k - 1 + (k - min (k - 1) xs.length) = k by omega]
  exact hy
theorem del_set {x0 : Int} {xs : List Int} {k : Nat} (h1 : 1 ≤ k) {y : Int} (hy : (x0 :: xs)[k]? = some y) : (xs.take (k - 1) ++ (x0 :: xs).drop (k - 1)).set (k - 1) y = xs.take k ++ (x0 :: xs).drop k := by
  have hlt := (List.getElem?_eq_some_iff.1 hy).1
  simp only [List.length_cons] at hlt
  obtain ⟨j, rfl⟩ : ∃ j, k = j + 1 := ⟨k - 1, by omega⟩
  rw [List.getElem?_cons_succ] at hy
  have hl : (xs.take j).length = j := by rw [List.length_take]; omega
  rw [Nat.add_sub_cancel, List.set_append_right _ _ (by omega), hl, Nat.sub_self]
  have hd : (x0 :: xs).drop j = (x0 :: xs)[j]'(by simp; omega) :: (x0 :: xs).drop (j + 1) := List.drop_eq_getElem_cons (by simp; omega)
  rw [hd, List.set_cons_zero, List.take_add_one, hy]
  simp
set_option maxRecDepth 100000 in
set_option maxHeartbeats 2000000 in
theorem DFint_head {w : World} {b cap n : Nat} {x0 : Int} {xs : List Int} (fid : Nat) (caps : Array Value) (p : Int → Bool) (h : row w 3 1 (.slice (some ⟨b, 0, none⟩) (n + 1) cap) (n + 1) (intCells (x0 :: xs))) (hn : xs.length = n) (hnl : n + 1 ≤ 1000000)
    (hf : ∀ W, Ch [b] w W → ∀ x, Calls Try.prog fid (#[.int .i64 x] ++ caps) W fun e w' => e = .returned (.bool (p x)) ∧ W = w') (hfn : Fnv fid) (h0 : p x0 = true) (hno : ∀ x ∈ xs, p x = false) :
    Calls Try.prog 20 #[.slice (some ⟨b, 0, none⟩) (n + 1) cap, .func (.func fid) #[] caps] w fun e w' => e = .returned (.slice (some ⟨b, 0, none⟩) n cap) ∧ row w' 3 1 (.slice (some ⟨b, 0, none⟩) n cap) n (intCells xs) ∧ Ch [b] w w' := by
  have hs : Sl w (some ⟨b, 0, none⟩) (x0 :: xs) := Sl.of_ints (n := n + 1) (cap := cap) h (by omega)
  have HI := IFint_is cap fid caps p hs (fun x _ => hf w (Ch.refl _ _) x) hfn
  have hi : idxOf p (x0 :: xs) = 0 := by
    unfold idxOf
    rw [List.findIdx?_cons, h0]
    rfl
  rw [hi, List.length_cons, hn] at HI
  have hcap : n + 1 ≤ cap ∧ cap ≤ 9223372036854775807 := row.capLe' h
  have hcf : ∀ (args : Array Value) (w : World), (callFunc fid args).run Try.prog w = .ok (.enter fid args) w := hfn
  have HF := Lib.hid hf; clear hf
  have HNO := Lib.hid hno; clear hno
  have HH := Lib.hid HI; clear HI
  have HR := Lib.hid h; clear h
  have HN := Lib.hid hn; clear hn
  clear hs hi
  go_enter Try.func20, Try.ntmps20
  go_wp2_with fail
  refine HH.out.mono ?_
  rintro e w' ⟨rfl, rfl⟩
  go_wp2_with fail
  go_loopw [5, 6] (fun i5 i6 wr => ∃ k : Nat, 1 ≤ k ∧ k ≤ n + 1 ∧ i5 = .int .i64 (k - 1 : Nat) ∧ i6 = .int .i64 k ∧ row wr 3 1 (.slice (some ⟨b, 0, none⟩) (n + 1) cap) (n + 1) (intCells (xs.take (k - 1) ++ (x0 :: xs).drop (k - 1))) ∧ Ch [b] w wr) (fun _ i6 _ => n + 1 - (intOf i6).toNat)
  case atStart => exact ⟨1, by omega, by omega, rfl, by go_num, HR.out, Ch.refl _ _⟩
  case round =>
    obtain ⟨k, hk1, hk, rfl, rfl, hrow, hc⟩ := hrel
    by_cases hlt : k < n + 1
    · obtain ⟨y, hy⟩ : ∃ y, (x0 :: xs)[k]? = some y := ⟨_, List.getElem?_eq_getElem (by simp only [List.length_cons]; have := HN.out; omega)⟩
      have hyx : y ∈ xs := by
        obtain ⟨j, rfl⟩ : ∃ j, k = j + 1 := ⟨k - 1, by omega⟩
        rw [List.getElem?_cons_succ] at hy
        exact List.mem_of_getElem? hy
      have hp := HNO.out y hyx
      have hcall := HF.out wr hc y
      rw [hp] at hcall
      have c1 : wr.cell? ⟨b, k, none⟩ = some (.int .i64 y) := row_cell hrow (by unfold intCells; rw [List.getElem?_map, del_at hk1 hy]; rfl)
      obtain ⟨z, c2⟩ : ∃ z, wr.cell? ⟨b, k - 1, none⟩ = some z := by
        obtain ⟨v, hv⟩ : ∃ v, (intCells (xs.take (k - 1) ++ (x0 :: xs).drop (k - 1)))[k - 1]? = some v := ⟨_, List.getElem?_eq_getElem (by
          have := hrow.1
          rw [this]; omega)⟩
        exact ⟨v, row_cell hrow hv⟩
      have f0 : wr.frozen? ⟨b, k - 1, none⟩ = false := by
        rcases hrow.2 with ⟨e1, _⟩ | ⟨g, cap', cur, e1, h0, hg, _⟩
        · cases e1
        · cases e1; simp [World.frozen?, hg]
      have hset := row.set (i := k - 1) hrow (.int .i64 y)
      have e1 : (intCells (xs.take (k - 1) ++ (x0 :: xs).drop (k - 1))).set (k - 1) (.int .i64 y) = intCells (xs.take k ++ (x0 :: xs).drop k) := by
        rw [← del_set hk1 hy]
        unfold intCells
        rw [List.map_set]
      rw [e1] at hset
      have HSET := Lib.hid hset; clear hset e1
      have HC := Lib.hid hc; clear hc hrow hy hyx hp
      have HCALL := Lib.hid hcall; clear hcall
      obtain ⟨j, hj⟩ : ∃ j, k - 1 = j := ⟨_, rfl⟩
      rw [hj] at c2 f0 HSET ⊢
      have hjk : k = j + 1 := by omega
      clear hj
      subst hjk
      rw [show ((j + 1 : Nat) : Int) = (j : Int) + 1 by omega]
      go_wp2_with fail
      refine HCALL.out.mono ?_
      rintro e w' ⟨rfl, rfl⟩
      go_wp2_with fail
      go_roundw
      case rel => exact ⟨j + 2, by omega, by omega, by go_num, by go_num, HSET.out, HC.out.setCell (by simp) _⟩
      case measure => simp [intOf]; omega
    · have hkn : k = n + 1 := by omega
      subst hkn
      have e2 : xs.take (n + 1 - 1) ++ (x0 :: xs).drop (n + 1 - 1) = xs ++ (x0 :: xs).drop n := by
        rw [Nat.add_sub_cancel, List.take_of_length_le (by have := HN.out; omega)]
      rw [e2] at hrow
      obtain ⟨w2, hclr, hrow2, hch⟩ := clear_rowI (i := n) hrow (by omega)
      have e3 : (xs ++ (x0 :: xs).drop n).take n = xs := by rw [List.take_append_of_le_length (by have := HN.out; omega), List.take_of_length_le (by have := HN.out; omega)]
      rw [e3] at hrow2
      have HR2 := Lib.hid hrow2; clear hrow2 e2 e3 hrow
      have HC2 := Lib.hid (hc.trans hch (fun q hq => .inl hq)); clear hc hch
      rw [Nat.add_sub_cancel]
      rw [show n + 1 - n = 1 by omega] at hclr
      go_wp2_with fail
      go_ret
      exact ⟨rfl, HR2.out, HC2.out⟩
end
end Go.Proofs.Ytkedpifopclipaa
namespace Go.Aig
theorem side_of {ns : List Nd} (hw : WF ns) {n : Nat} {x : Nd} (hx : ns[n]? = some x) : isAndAt ns (2 * (n : Int)) = (x.k == 3) ∧ (x.k = 3 → lOf ns (2 * (n : Int)) = x.l ∧ rOf ns (2 * (n : Int)) = x.r ∧ 2 ≤ x.l ∧ 2 ≤ x.r ∧ x.l < 2 * n ∧ x.r < 2 * n) := by
  have hn : nodeAt ns (2 * (n : Int)) = some x := by
    unfold nodeAt
    rw [if_pos (by omega), show (2 * (n : Int)).toNat / 2 = n by omega, hx]
  refine ⟨by unfold isAndAt kindOf; rw [hn], fun h3 => ?_⟩
  unfold lOf rOf
  rw [hn]
  simp only [h3, if_true]
  have hpos : 0 < n := by
    rcases Nat.eq_zero_or_pos n with rfl | h
    · rw [hw.const] at hx; cases hx; simp at h3
    · exact h
  rcases hw.other n x hx hpos with rfl | ⟨_, h1, h2, _, h4, _⟩
  · simp at h3
  · exact ⟨trivial, trivial, h1, by omega, by omega, h4⟩
section
variable {ns : List Nd} (hw : WF ns) {m : List Nat} (hp : m.Pairwise (fun a b => a < b))
include hp
omit hw in
theorem nat_asc : (natInts m).Pairwise (fun a b => a < b) := by
  unfold natInts
  rw [List.pairwise_map]
  exact hp.imp (by intro a b h; omega)
omit hw in
theorem var_at {k n : Nat} (h : m[k]? = some n) : varOf (natInts m) n = k + 1 := varOf_at (nat_asc hp) (by unfold natInts; rw [List.getElem?_map, h]; rfl)
omit hw in
theorem var_mem {r : Nat} (h : r / 2 ∈ m) : ∃ k, m[k]? = some (r / 2) ∧ varOf (natInts m) ((r : Int) / 2) = k + 1 := by
  obtain ⟨k, hk⟩ := List.getElem?_of_mem h
  refine ⟨k, hk, ?_⟩
  have := var_at hp hk
  rwa [Int.natCast_ediv] at this
omit hw in
theorem lit_ne {r : Nat} (h : r / 2 ∈ m) : litOf (natInts m) r ≠ 0 := by
  obtain ⟨k, _, hk⟩ := var_mem hp h
  intro e
  rw [litOf_zero, hk] at e
  omega
end
/-- a map that is closed: both sides of each of its ands have variables -/
structure VarOk (ns : List Nd) (m : List Nat) : Prop where
  asc : m.Pairwise (fun a b => a < b)
  lt : ∀ n ∈ m, 0 < n ∧ n < ns.length
  cl : ∀ n ∈ m, ∀ x, ns[n]? = some x → x.k = 3 → x.l / 2 ∈ m ∧ x.r / 2 ∈ m
theorem mapN_ok {ns : List Nd} (hw : WF ns) (l : List Nat) : VarOk ns (mapN ns l) := by
  refine ⟨mapN_asc hw l, fun n h => mapN_lt hw h, fun n hn x hx h3 => ?_⟩
  have h := cone_closed hw (mem_mapN.1 hn).1 hx h3
  obtain ⟨_, h2⟩ := side_of hw hx
  obtain ⟨_, _, h5, h6, _⟩ := h2 h3
  exact ⟨mem_mapN.2 ⟨h.1, by omega⟩, mem_mapN.2 ⟨h.2, by omega⟩⟩
section
variable {ns : List Nd} (hw : WF ns) {m : List Nat} (hm : VarOk ns m)
include hw hm
end
end Go.Aig
namespace Go.Aig
theorem cone_cases {ns : List Nd} (hw : WF ns) (l : List Nat) : (∃ t, cone ns l = 0 :: t ∧ mapN ns l = t ∧ ∀ n ∈ t, n ≠ 0) ∨ (mapN ns l = cone ns l ∧ ∀ n ∈ cone ns l, n ≠ 0) := by
  have ha := cone_asc hw l
  unfold mapN
  generalize cone ns l = C at *
  cases C with
  | nil => exact .inr ⟨rfl, by simp⟩
  | cons a t =>
    rw [List.pairwise_cons] at ha
    have ht : ∀ n ∈ t, n ≠ 0 := fun n hn => by have := ha.1 n hn; omega
    have hf : t.filter (fun n => n != 0) = t := List.filter_eq_self.2 (fun n hn => by simpa using ht n hn)
    by_cases h0 : a = 0
    · subst h0
      exact .inl ⟨t, rfl, by simpa using hf, ht⟩
    · refine .inr ⟨by simp [h0, hf], fun n hn => ?_⟩
      rcases List.mem_cons.1 hn with rfl | hn
      · exact h0
      · exact ht n hn
end Go.Aig
namespace Go.Proofs.Ytkedpifopclipaa
open Go.RowKit Go.Mem Go.Aig
theorem fnvtsmapped1 : Fnv 160 := fnv_of Try.func160 (by simp [Try.f160]) (by simp [Try.f160])
theorem fnvtsliterals1 : Fnv 201 := fnv_of Try.func201 (by simp [Try.f201]) (by simp [Try.f201])
section
set_option maxRecDepth 100000 in
set_option maxHeartbeats 1000000 in
theorem tsmapped1_is (w : World) (n : Int) : Calls Try.prog 160 (#[.int .i64 n] ++ #[]) w fun e w' => e = .returned (.bool (n == 0)) ∧ w = w' := by
  show Calls Try.prog 160 #[.int .i64 n] w _
  go_enter Try.func160, Try.ntmps160
  go_wp2_with fail
  go_ret
  exact ⟨rfl, rfl⟩
set_option maxRecDepth 100000 in
set_option maxHeartbeats 1000000 in
theorem tsmapped_no {w : World} {g : Nat} {G : Gra} {F : List Nat} (h : GIn w g G F) {a : Option Addr} {l : List Int} (n c : Nat) (hn : l.length = n) (hl : Sl w a l) (hlb : ∀ x ∈ l, x ≤ 9223372036854775807) (halt : ∀ p, a = some p → p.block < w.heap.size) (hb : badIn G l = true) :
    Calls Try.prog 81 #[.pointer (some ⟨g, 0, none⟩), .slice a n c] w fun e w' => e = .returned (.tuple #[.slice none 0 0, .int .i64 200]) ∧ Ch [] w w' := by
  subst hn
  obtain ⟨_, _, _, _, h, rfl⟩ := h
  have HC := Cone_no h c hl hlb halt hb
  clear h hl hlb halt hb
  go_enter Try.func81, Try.ntmps81
  go_wp2_with fail
  refine HC.mono ?_
  rintro e w1 ⟨rfl, hc⟩
  have HCC := Lib.hid hc; clear hc
  go_wp2_with fail
  go_ret2
  exact ⟨rfl, HCC.out⟩
set_option maxRecDepth 100000 in
set_option maxHeartbeats 1000000 in
theorem tsmapped_yes {w : World} {g : Nat} {G : Gra} {F : List Nat} (h : GIn w g G F) {a : Option Addr} {l : List Nat} (n c : Nat) (hn : l.length = n) (hl : Sl w a (natInts l)) (halt : ∀ p, a = some p → p.block < w.heap.size) (hr : ∀ r ∈ l, r < 2 * G.nodes.length) :
    Calls Try.prog 81 #[.pointer (some ⟨g, 0, none⟩), .slice a n c] w fun e w' => ∃ v, e = .returned (.tuple #[v, .int .i64 0]) ∧ row w' 3 1 v (mapN G.nodes l).length (intCells (natInts (mapN G.nodes l))) ∧ (∀ k ∈ v.ownBlock.toList, w.heap.size ≤ k) ∧ Ch [] w w' := by
  have hC := Cone_g h n c hn hl halt hr
  have hok := h.ok
  have hlen : (cone G.nodes l).length ≤ 65536 := by
    unfold cone coneDown
    rw [List.length_reverse]
    have := coneFrom_len G.nodes G.nodes.length (met0 G.nodes.length l)
    have := hok.room
    have := hok.most
    omega
  have hcs := cone_cases hok.wf l
  clear h hl halt hr hn hok
  rw [show refsCells (cone G.nodes l) = intCells (natInts (cone G.nodes l)) from refs_natInts _] at hC
  rcases hcs with ⟨t, e1, e2, e3⟩ | ⟨e1, e2⟩
  · rw [e1] at hC hlen
    rw [e2]
    simp only [List.length_cons] at hC hlen
    have HE3 := Lib.hid e3
    have HC := Lib.hid hC; clear hC e1 e2 e3
    go_enter Try.func81, Try.ntmps81
    go_wp2_with fail
    refine HC.out.mono ?_
    rintro e w1 ⟨v, rfl, hrow, hv, hc⟩
    obtain ⟨vb, vc, rfl⟩ := hrow.parts (by omega)
    have hD := DFint_head (w := w1) (b := vb) (cap := vc) (n := t.length) (x0 := 0) (xs := natInts t) 160 #[] (fun n => n == 0) hrow (by simp) (by omega) (fun W _ x => tsmapped1_is W x) fnvtsmapped1 rfl (fun x hx => by
      unfold natInts at hx
      obtain ⟨k, hk, rfl⟩ := List.mem_map.1 hx
      have := HE3.out k hk
      simpa using this)
    have HD := Lib.hid hD; clear hD hrow
    have HCC := Lib.hid hc; clear hc HC
    have HV := Lib.hid (hv vb rfl); clear hv
    go_wp2_with fail
    refine HD.out.mono ?_
    rintro e w2 ⟨rfl, hrow2, hc2⟩
    have HR2 := Lib.hid hrow2; clear hrow2
    have HC2 := Lib.hid (HCC.out.trans hc2 (fun q hq => .inr (by rw [List.mem_singleton.1 hq]; exact HV.out))); clear hc2
    go_wp2_with fail
    go_ret2
    exact ⟨_, rfl, HR2.out, fun k hk => by simp [Value.ownBlock] at hk; rw [hk]; exact HV.out, HC2.out⟩
  · rw [e1]
    have HE2 := Lib.hid e2
    have HC := Lib.hid hC; clear hC e1 e2
    go_enter Try.func81, Try.ntmps81
    go_wp2_with fail
    refine HC.out.mono ?_
    rintro e w1 ⟨v, rfl, hrow, hv, hc⟩
    obtain ⟨va, vc, rfl⟩ := row.shape hrow
    have hD := DFint_none (w := w1) (a := va) (xs := natInts (cone G.nodes l)) (cone G.nodes l).length vc 160 #[] (fun n => n == 0) (by simp) (Sl.of_ints hrow (by omega)) (fun x _ => tsmapped1_is w1 x) fnvtsmapped1 (fun x hx => by
      unfold natInts at hx
      obtain ⟨k, hk, rfl⟩ := List.mem_map.1 hx
      have := HE2.out k hk
      simpa using this)
    have HD := Lib.hid hD; clear hD
    have HR := Lib.hid hrow; clear hrow
    have HCC := Lib.hid hc; clear hc HC
    have HV := Lib.hid hv; clear hv
    go_wp2_with fail
    refine HD.out.mono ?_
    rintro e w2 ⟨rfl, rfl⟩
    go_wp2_with fail
    go_ret2
    exact ⟨_, rfl, HR.out, fun k hk => HV.out k (by simpa using hk), HCC.out⟩
end
/-- the pairs of a map of variables -/
def varPairs (m : List Nat) (k : Nat) : List (Nat × Value) := (List.range k).map fun i => (m.getD i 0, .int .i64 (i + 1 : Nat))
theorem varPairs_succ (m : List Nat) (k : Nat) : varPairs m (k + 1) = varPairs m k ++ [(m.getD k 0, .int .i64 (k + 1 : Nat))] := by simp [varPairs, List.range_succ]
theorem getD_at {α : Type} {m : List α} {k : Nat} {n d : α} (h : m[k]? = some n) : m.getD k d = n := by rw [List.getD_eq_getElem?_getD, h]; rfl
theorem varPairs_new {m : List Nat} (hp : m.Pairwise (fun a b => a < b)) {k n : Nat} (h : m[k]? = some n) : n ∉ (varPairs m k).map Prod.fst := by
  intro hin
  unfold varPairs at hin
  rw [List.map_map] at hin
  obtain ⟨i, hi, e⟩ := List.mem_map.1 hin
  rw [List.mem_range] at hi
  have hk := (List.getElem?_eq_some_iff.1 h).1
  have h2 := List.pairwise_iff_getElem.1 hp i k (by omega) hk hi
  have e2 : m.getD i 0 = m[i]'(by omega) := getD_at (List.getElem?_eq_getElem _)
  have e3 := (List.getElem?_eq_some_iff.1 h).2
  simp only [Function.comp] at e
  omega
/-- the closure of literals: its map has the variables -/
structure LitFn (w : World) (bv mb : Nat) (m : List Nat) : Prop where
  box : blk w bv [.map (some mb)]
  map : NMap w mb (varPairs m m.length)
section
set_option maxRecDepth 100000 in
set_option maxHeartbeats 2000000 in
theorem tsliterals_is {w : World} {a : Option Addr} {m : List Nat} (hp : m.Pairwise (fun a b => a < b)) (n c : Nat) (hn : m.length = n) (hnl : n ≤ 1000000) (hS : Sl w a (natInts m)) :
    Calls Try.prog 162 #[.slice a n c] w fun e w' => ∃ bv mb, e = .returned (.func (.func 201) #[] #[.pointer (some ⟨bv, 0, none⟩)]) ∧ LitFn w' bv mb m ∧ w.heap.size ≤ bv ∧ w.heap.size ≤ mb ∧ Ch [] w w' := by
  have hmm := @run_makeMap Try.prog
  have HS := Lib.hid hS; clear hS
  have HN := Lib.hid hn; clear hn
  have HP := Lib.hid hp; clear hp
  go_enter Try.func162, Try.ntmps162
  go_wp2_with fail
  clear hmm
  obtain ⟨W2, hW2⟩ : ∃ W2, W2 = (w.alloc (Obj.map #[] 0)).alloc (Obj.cells #[Value.map (some w.heap.size)] 271) := ⟨_, rfl⟩
  rw [← hW2]
  have hc0 : Ch [] w W2 := by rw [hW2]; exact ((Ch.refl _ _).alloc _).alloc _
  have hb0 : blk W2 (w.heap.size + 1) [.map (some w.heap.size)] := by rw [hW2]; exact blk.new' _ _ (by simp)
  have hm0 : NMap W2 w.heap.size (varPairs m 0) := by
    have h1 : NMap (w.alloc (.map #[] 0)) w.heap.size [] := ⟨#[], 0, heap_alloc_new w _, rfl⟩
    rw [hW2]
    exact h1.ch (F := []) ((Ch.refl _ _).alloc _) (by simp)
  have HC0 := Lib.hid hc0; clear hc0
  have HB0 := Lib.hid hb0; clear hb0
  have HM0 := Lib.hid hm0; clear hm0 hW2
  go_loopw [9] (fun i wr => ∃ k : Nat, k ≤ n ∧ i = .int .i64 k ∧ blk wr (w.heap.size + 1) [.map (some w.heap.size)] ∧ NMap wr w.heap.size (varPairs m k) ∧ Ch [] w wr) (fun i _ => n - (intOf i).toNat)
  case atStart => exact ⟨0, by omega, rfl, HB0.out, HM0.out, HC0.out⟩
  case round =>
    obtain ⟨k, hk, rfl, hb, hm, hc⟩ := hrel
    clear HB0 HM0 HC0
    by_cases hlt : k < n
    · obtain ⟨nd, hnd⟩ : ∃ nd, m[k]? = some nd := ⟨_, List.getElem?_eq_getElem (by rw [HN.out]; exact hlt)⟩
      obtain ⟨xb, xo, rfl, d0⟩ := HS.out.cells k (nd : Int) (by unfold natInts; rw [List.getElem?_map, hnd]; rfl)
      have c0 := (hc.cell (cell_lt d0) (by simp)).trans d0
      have x0 := hb.cell (i := 0) rfl
      obtain ⟨W5, hup, hc5, hm5⟩ := NMap.set (P := Try.prog) (T := 271) (K := 3) (E := 3) Try.underlying271 Try.underlying3 hm (n := nd) (varPairs_new HP.out hnd) (.int .i64 (k + 1 : Nat))
      rw [← getD_at (d := 0) hnd, ← varPairs_succ] at hm5
      rw [show ((k + 1 : Nat) : Int) = (k : Int) + 1 by omega] at hup
      have hb5 := hb.ch hc5 (by simp)
      have HB5 := Lib.hid hb5; clear hb5 hb
      have HM5 := Lib.hid hm5; clear hm5 hm
      have HC5 := Lib.hid (hc.trans hc5 (fun q hq => .inr (by rw [List.mem_singleton.1 hq]; exact Nat.le_refl _))); clear hc hc5
      clear hnd d0
      go_wp2_with fail
      go_roundw
      case rel => exact ⟨k + 1, by omega, by go_num, HB5.out, HM5.out, HC5.out⟩
      case measure => simp [intOf]; omega
    · have hkn : k = n := by omega
      subst hkn
      have HB5 := Lib.hid hb; clear hb
      have HM5 := Lib.hid hm; clear hm
      have HC5 := Lib.hid hc; clear hc
      go_wp2_with fail
      go_ret
      exact ⟨_, _, rfl, ⟨HB5.out, by rw [HN.out]; exact HM5.out⟩, by omega, Nat.le_refl _, HC5.out⟩
set_option maxRecDepth 100000 in
set_option maxHeartbeats 2000000 in
theorem tsliterals1_is {w : World} {bv mb : Nat} {m : List Nat} (hp : m.Pairwise (fun a b => a < b)) (h : LitFn w bv mb m) (hml : m.length ≤ 1000000) (r : Nat) (hr : r ≤ 1000000) :
    Calls Try.prog 201 (#[.int .i64 r] ++ #[.pointer (some ⟨bv, 0, none⟩)]) w fun e w' => e = .returned (.int .i64 (litOf (natInts m) r)) ∧ w = w' := by
  show Calls Try.prog 201 #[.int .i64 r, .pointer (some ⟨bv, 0, none⟩)] w _
  have hv : varOf (natInts m) ((r : Int) / 2) ≤ 1000000 := Nat.le_trans (varOf_le (nat_asc hp) _) (by simpa using hml)
  have hl : (Instr.lookup 271 (.map (some mb)) (.int .i64 ((r : Int) / 2)) false).run Try.prog w = .ok (.int .i64 (varOf (natInts m) ((r : Int) / 2))) w := by
    by_cases hm : r / 2 ∈ m
    · obtain ⟨k, hk, e⟩ := var_mem hp hm
      have := (h.map.lookup_yes (P := Try.prog) (T := 271) (K := 3) (E := 3) Try.underlying271 Try.underlying3 (n := r / 2) (v := .int .i64 (k + 1 : Nat)) (by
        unfold varPairs
        exact List.mem_map.2 ⟨k, List.mem_range.2 (List.getElem?_eq_some_iff.1 hk).1, by rw [getD_at hk]⟩) (fun v' hv' => by
        unfold varPairs at hv'
        obtain ⟨i, hi, e2⟩ := List.mem_map.1 hv'
        rw [List.mem_range] at hi
        have e3 : m.getD i 0 = r / 2 := congrArg Prod.fst e2
        have e4 : Value.int .i64 (i + 1 : Nat) = v' := congrArg Prod.snd e2
        have hi2 : m[i]? = some (r / 2) := by rw [List.getElem?_eq_getElem hi, ← e3, getD_at (List.getElem?_eq_getElem hi)]
        have h1 := var_at hp hi2
        have h2 := var_at hp hk
        rw [← e4]
        congr 2
        omega)).1
      rw [e, show (r : Int) / 2 = ((r / 2 : Nat) : Int) by omega]
      exact this
    · have hno : varOf (natInts m) ((r : Int) / 2) = 0 := varOf_none (fun hin => by
        unfold natInts at hin
        obtain ⟨k, hk, e⟩ := List.mem_map.1 hin
        exact hm (by rw [show r / 2 = k by omega]; exact hk))
      have := (h.map.lookup_no (P := Try.prog) (T := 271) (K := 3) (E := 3) Try.underlying271 Try.underlying3 (z := .int .i64 0) zeroInt (n := r / 2) (fun hin => by
        unfold varPairs at hin
        rw [List.map_map] at hin
        obtain ⟨i, hi, e⟩ := List.mem_map.1 hin
        rw [List.mem_range] at hi
        simp only [Function.comp] at e
        exact hm (by rw [← e, getD_at (List.getElem?_eq_getElem hi)]; exact List.getElem_mem _))).1
      rw [hno, show (r : Int) / 2 = ((r / 2 : Nat) : Int) by omega]
      exact this
  have hx := h.box.cell (i := 0) rfl
  unfold litOf
  generalize varOf (natInts m) ((r : Int) / 2) = V at *
  have HL := Lib.hid hl
  clear h
  by_cases h1 : (r : Int) % 2 = 1
  · rw [if_pos h1]
    have d1 : ((r : Int) % 2 == 1) = true := by simpa using h1
    clear h1
    go_enter Try.func201, Try.ntmps201
    go_wp2_with fail
    go_ret
    exact ⟨rfl, rfl⟩
  · rw [if_neg h1]
    have d1 : ((r : Int) % 2 == 1) = false := by simpa using h1
    clear h1
    go_enter Try.func201, Try.ntmps201
    go_wp2_with fail
    go_ret
    exact ⟨rfl, rfl⟩
end
end Go.Proofs.Ytkedpifopclipaa
namespace Go
open Go.RowKit Go.Mem
section
variable {F : Fence} {n : Nat} {P : Program}
theorem wpIn_rangeFunc_Q {g : Operand} {ps : Array Tmp} {assign body : Code} {Q : Exit → Act → World → Prop} {a : Act} {w : World} (B : Nat) (hB : w.heap.size = B)
    (hro : F.round = none) (h1 : 1 ≤ n) {gf : Nat} {lb : Array Value} (hg : a.eval g = .func (.func gf) #[] lb) (hFg : F.fn gf) (eg : ∀ args w, (callFunc gf args).run P w = .ok (.enter gf args) w)
    {ι : Type} {encs : ι → Array Value} (hps : ∀ x, (encs x).size = ps.size) (J0 : World → Prop) (K J : ι → World → Prop) (D : World → Prop)
    (hseq : ∀ (l : Nat) (X : World → Prop), (∀ A A' L, X A → Ch L A A' → (∀ q ∈ L, q ≠ B ∧ q ≠ B + 1) → X A') → (∀ A, X A → B + 2 ≤ A.heap.size) →
      (∀ x W, K x W → X W → YieldAt F (n - 1 - 1) P l (encs x) W fun e W' => e = .returned (.bool true) ∧ J x W' ∧ X W') →
      ∀ W, J0 W → X W → CallsIn F (n - 1) P gf (#[.func (.yield l) #[] #[]] ++ lb) W fun e W' => (∃ v, e = .returned v) ∧ D W' ∧ X W')
    (hJ0 : ∀ A A', J0 A → Ch [B, B + 1] A A' → J0 A') (hK : ∀ x A A', K x A → Ch [B, B + 1] A A' → K x A') (hJ : ∀ x A A', J x A → Ch [B, B + 1] A A' → J x A') (hD : ∀ A A', D A → Ch [B, B + 1] A A' → D A')
    (h0 : J0 w) (a₁ : ι → Act)
    (hassign : ∀ (l : Nat) (x : ι) (W : World) (K : Act → World → Prop), K (a₁ x) W →
      assign.wpIn (F.inRound l) (n - 1 - 1) P (Exit.then K (fun _ _ _ => False)) { tmps := (ps.zip (encs x)).foldl (fun t (p, v) => t.setIfInBounds p v) a.tmps, defers := [] } W)
    (hbody : ∀ (l : Nat) (x : ι) (W : World), K x W → B + 2 ≤ W.heap.size → body.wpIn (F.inRound l) (n - 1 - 1) P (fun e _ W' => Books B W W' ∧ e = .normal ∧ J x W') (a₁ x) W)
    (hdone : ∀ (W : World), D W → W.heap[B]? = some (.deferred (some [])) → B + 2 ≤ W.heap.size → Q .normal { a with defers := { target := .collected B, args := #[] } :: a.defers } W) :
    (Code.rangeFunc g ps assign body).wpIn F n P Q a w := by
  subst hB
  refine wpIn_rangeFunc fun fn hfn => ?_
  rw [hro]
  let rec0 : LoopState → Option Code → Loop := fun st pe => { state := st, pending := pe, fn, tmps := a.tmps, params := ps, assign, body, defers := w.heap.size }
  obtain ⟨W1, hW1⟩ : ∃ W1, (w.alloc (.deferred (some []))).alloc (.loop (rec0 .ready none)) = W1 := ⟨_, rfl⟩
  have hz1 : W1.heap.size = w.heap.size + 2 := by rw [← hW1]; simp
  have hL1 : W1.heap[w.heap.size + 1]? = some (.loop (rec0 .ready none)) := by
    rw [← hW1]; have := World.alloc_heap_new (w.alloc (.deferred (some []))) (.loop (rec0 .ready none)); rwa [World.size_alloc] at this
  have hK1 : W1.heap[w.heap.size]? = some (.deferred (some [])) := by
    rw [← hW1]; exact (Below.heap_alloc _ _ _ (by simp)).trans (World.alloc_heap_new w _)
  have hc1 : Ch [] w W1 := by rw [← hW1]; exact ((Ch.refl _ _).alloc _).alloc _
  have hI1 : J0 W1 := hJ0 _ _ h0 (hc1.mono (by simp))
  refine ⟨w.heap.size + 1, [{ target := .collected w.heap.size, args := #[] }], W1, { target := .fn (.func gf) lb, args := #[.func (.yield (w.heap.size + 1)) #[] #[]] }, W1, gf,
    #[.func (.yield (w.heap.size + 1)) #[] #[]] ++ lb, W1, ?_, ?_, ?_, ?_, fun _ => h1, ?_⟩
  · rw [← hW1]; exact run_enterLoop_outer _ _ _ _ _
  · simp only [resolve, hg]
    simp [go_sem]
  · intro f' hf'; simp [Target.leads] at hf'; subst hf'; exact hFg
  · simp [invoke, go_sem, eg]
  · refine (hseq (w.heap.size + 1) (fun W => w.heap.size + 2 ≤ W.heap.size ∧ W.heap[w.heap.size + 1]? = some (.loop (rec0 .ready none)) ∧ W.heap[w.heap.size]? = some (.deferred (some [])))
      (fun A A' L hs hc hL => ⟨Nat.le_trans hs.1 hc.size, (hc.block _ (by have := hs.1; omega) (fun hin => (hL _ hin).2 rfl)).trans hs.2.1, (hc.block _ (by have := hs.1; omega) (fun hin => (hL _ hin).1 rfl)).trans hs.2.2⟩)
      (fun A hA => hA.1) ?_ W1 hI1 ⟨by omega, hL1, hK1⟩).mono ?_
    · rintro x W hi ⟨hz, hl, hk⟩
      have hlt : w.heap.size + 1 < W.heap.size := by omega
      refine ⟨fn, _, assign, body, run_yield (P := P) (args := encs x) hl (hps x), roundIn_of_wpIn hfn (hassign _ x W _ ⟨_, run_beginRound hl rfl, ?_⟩)⟩
      have hl2 : (W.putObj (w.heap.size + 1) (.loop (rec0 .busy none))).heap[w.heap.size + 1]? = some (.loop (rec0 .busy none)) := World.putObj_heap_same hlt
      have hk2 : (W.putObj (w.heap.size + 1) (.loop (rec0 .busy none))).heap[w.heap.size]? = some (.deferred (some [])) := (World.putObj_heap_other (by omega)).trans hk
      refine wpIn_mono (hbody _ x _ (hK _ _ _ hi (ch_put (by simp))) (by simp; omega)) ?_
      rintro e a3 W3 ⟨⟨hb0, hb1⟩, rfl, hi3⟩
      have hl3 := hb1.trans hl2
      have hlt3 := (Array.getElem?_eq_some_iff.1 hl3).1
      exact ⟨_, _, run_endRound (P := P) none hl3, rfl, hJ _ _ _ hi3 (ch_put (by simp)), by simp; omega, World.putObj_heap_same hlt3, (World.putObj_heap_other (by omega)).trans (hb0.trans hk2)⟩
    · rintro e W2 ⟨⟨v, rfl⟩, hi, hz, hl, hk⟩
      exact ⟨none, _, run_endLoop (P := P) hl (by simp [rec0]), hdone _ (hD _ _ hi (ch_put (by simp))) ((World.putObj_heap_other (by omega)).trans hk) (by simp; omega)⟩
end
end Go
namespace Go.Mem
theorem wpListIn_append_rowI {F : Fence} {nF : Nat} {P : Program} {w : World} {ops : Array Oper} {rest : List Oper} {o : Oper} {a : Act} {Q : Exit → Act → World → Prop} {t e : TypeId} {size bytes : Nat} {z : Value} (S : SliceTy P t e size bytes z) (hgd : o.guard = none) (s x : Operand)
    (ho : o.op = .call { callee := .builtin .append, args := #[s, x], argTypes := #[t, t] })
    {v : Value} {n : Nat} {xs : List Value} (hs : a.eval s = v) (hown : row w e size v n xs) {ad : Addr} {m c : Nat} {news : List Value} (hx : a.eval x = .slice (some ad) m c) (hl : news.length = m * size) (hnews : ∀ j u, news[j]? = some u → w.cell? (ad.add j) = some u) (h1 : ∀ u ∈ news, u.oneCell' = true)
    (hbytes : (n + m) * bytes ≤ 140737488355328) (h63 : n + m ≤ 9223372036854775807)
    (h : ∀ v' w', row w' e size v' (n + m) (xs ++ news) → Ch v.ownBlock.toList w w' → (∀ k, v'.ownBlock = some k → v.ownBlock = some k ∨ w.heap.size ≤ k) → wpListIn F nF P ops Q rest (a.put o.dst v') w') : wpListIn F nF P ops Q (o :: rest) a w := by
  refine wpListIn_plain hgd fun K hK => ?_
  obtain ⟨v', w', hr, h2, h3, h4⟩ := run_append_row (P := P) w S o.type v n xs hown ad m c news hl hnews h1 hbytes (by unfold maxLen; omega)
  unfold Oper.wpIn
  refine ⟨by simp [Oper.about, ho, resolve, Target.leads, Sem.run_pure], ?_⟩
  rw [Oper.semAt_plain F _ _ (by rw [ho]; intro c hc'; cases hc')]
  simp [execOp, ho, resolve, invoke, builtin, hs, hx, hr, Result.andThen]
  exact hK _ _ (h v' w' h2 h3 h4)
end Go.Mem
namespace Go.Proofs.Ytkedpifopclipaa
open Go.RowKit Go.Mem Go.Aig
/-- a clause that is yielded: which one, its slice, and the iterator's own blocks with what they hold -/
structure YC where
  k : Nat
  ca : Option Addr
  n : Nat
  c : Nat
  L : List Nat
  h : Nat → Option Obj
def ycEnc (x : YC) : Array Value := #[.slice x.ca x.n x.c]
/-- what is known when a clause is yielded, and what has to be known behind it; I k O: k clauses were taken, the blocks O are the consumer's -/
def YK (b0 : Nat) (cls : List (List Int)) (I : Nat → List Nat → World → Prop) (x : YC) (W : World) : Prop := ∃ O c, I x.k O W ∧ cls[x.k]? = some c ∧ c.length = x.n ∧ x.n ≤ x.c ∧ x.c ≤ 9223372036854775807 ∧ Sl W x.ca c ∧ (∀ p, x.ca = some p → p.block < W.heap.size ∧ p.block ∉ O ∧ p.block ≠ b0 ∧ p.block ≠ b0 + 1) ∧ ∀ q ∈ x.L, q < W.heap.size ∧ q ∉ O ∧ (q ≠ b0 ∧ q ≠ b0 + 1) ∧ W.heap[q]? = x.h q
def YJ (I : Nat → List Nat → World → Prop) (x : YC) (W : World) : Prop := ∃ O, I (x.k + 1) O W ∧ ∀ q ∈ x.L, W.heap[q]? = x.h q ∧ q ∉ O
/-- what a consumer's state has to stand -/
structure YI (Ks : List Nat) (W0 : World) (I : Nat → List Nat → World → Prop) : Prop where
  lt : ∀ k O W, I k O W → ∀ q ∈ O, q < W.heap.size
  ch : ∀ k O A A', I k O A → Ch [] A A' → I k O A'
  kept : ∀ k O W, I k O W → ∀ q ∈ Ks, W.heap[q]? = W0.heap[q]?
theorem cls_at {ns : List Nd} {m l : List Int} {k j : Nat} (hk : k < m.length) {n : Int} (hn : m[k]? = some n) {c : List Int} (hc : (nodeCls ns m k n)[j]? = some c) : (clsOf ns m l)[(nodesCls ns m k).length + j]? = some c := by
  have hpre : ∀ d, ∃ t, nodesCls ns m (k + d) = nodesCls ns m k ++ t := by
    intro d
    induction d with
    | zero => exact ⟨[], by simp⟩
    | succ d ih =>
      obtain ⟨t, e⟩ := ih
      exact ⟨t ++ nodeCls ns m (k + d) (m.getD (k + d) 0), by rw [← Nat.add_assoc, nodesCls_succ, e, List.append_assoc]⟩
  have hpre1 : ∃ t, nodesCls ns m m.length = nodesCls ns m k ++ nodeCls ns m k n ++ t := by
    have h1 : ∀ d, ∃ t, nodesCls ns m (k + 1 + d) = nodesCls ns m (k + 1) ++ t := by
      intro d
      induction d with
      | zero => exact ⟨[], by simp⟩
      | succ d ih =>
        obtain ⟨t, e⟩ := ih
        exact ⟨t ++ nodeCls ns m (k + 1 + d) (m.getD (k + 1 + d) 0), by rw [← Nat.add_assoc, nodesCls_succ, e, List.append_assoc]⟩
    obtain ⟨t, e⟩ := h1 (m.length - (k + 1))
    rw [show k + 1 + (m.length - (k + 1)) = m.length by omega, nodesCls_succ, getD_at hn] at e
    exact ⟨t, e⟩
  obtain ⟨t, e⟩ := hpre1
  have hj := (List.getElem?_eq_some_iff.1 hc).1
  unfold clsOf
  rw [e, List.append_assoc, List.append_assoc, List.getElem?_append_right (by omega), Nat.add_sub_cancel_left, List.getElem?_append_left hj]
  exact hc
theorem cls_root {ns : List Nd} {m l : List Int} {j : Nat} {r : Int} (hr : l[j]? = some r) {c : List Int} (hc : rootCls m r = [c]) : (clsOf ns m l)[(nodesCls ns m m.length).length + (rootsCls m (l.take j)).length]? = some c := by
  have hj := (List.getElem?_eq_some_iff.1 hr).1
  have e : rootsCls m l = rootsCls m (l.take j) ++ [c] ++ rootsCls m (l.drop (j + 1)) := by
    have h1 : l = l.take j ++ r :: l.drop (j + 1) := by
      conv => lhs; rw [← List.take_append_drop j l, drop_cons' hr]
    conv => lhs; rw [h1]
    unfold rootsCls
    rw [List.flatMap_append, List.flatMap_cons, hc, List.append_assoc]
  unfold clsOf
  rw [List.getElem?_append_right (by omega), Nat.add_sub_cancel_left, e, List.append_assoc, List.getElem?_append_right (Nat.le_refl _), Nat.sub_self]
  rfl
/-- what is known between two yields -/
structure YS (b0 : Nat) (I : Nat → List Nat → World → Prop) (X : World → Prop) (bv mb : Nat) (m : List Nat) (B : List (Nat × List Value)) (k : Nat) (O : List Nat) (W : World) : Prop where
  i : I k O W
  x : X W
  lf : LitFn W bv mb m
  bl : ∀ p ∈ B, blk W p.1 p.2
  o : ∀ q ∈ bv :: mb :: B.map Prod.fst, q ∉ O
  nb : ∀ q ∈ bv :: mb :: B.map Prod.fst, q ≠ b0 ∧ q ≠ b0 + 1
section
variable {b0 : Nat} {I : Nat → List Nat → World → Prop} {X : World → Prop} {bv mb : Nat} {m : List Nat} {B : List (Nat × List Value)} {k : Nat} {O : List Nat} {W W' : World}
theorem YS.lt (h : YS b0 I X bv mb m B k O W) : ∀ q ∈ bv :: mb :: B.map Prod.fst, q < W.heap.size := fun q hq => by
  simp only [List.mem_cons, List.mem_map] at hq
  rcases hq with rfl | rfl | ⟨p, hp, rfl⟩
  · exact h.lf.box.lt
  · exact h.lf.map.lt
  · exact (h.bl p hp).lt
theorem YS.next {O' : List Nat} (h : YS b0 I X bv mb m B k O W) {k' : Nat} (hi : I k' O' W') (hx : X W') (hk : ∀ q ∈ bv :: mb :: B.map Prod.fst, W'.heap[q]? = W.heap[q]? ∧ q ∉ O') : YS b0 I X bv mb m B k' O' W' :=
  ⟨hi, hx, ⟨h.lf.box.keep (hk bv (by simp)).1, h.lf.map.of_heap (hk mb (by simp)).1⟩, fun p hp => (h.bl p hp).keep (hk p.1 (by simp only [List.mem_cons, List.mem_map]; exact .inr (.inr ⟨p, hp, rfl⟩))).1, fun q hq => (hk q hq).2, h.nb⟩
theorem YS.ch {Ks : List Nat} {W0 : World} (hI : YI Ks W0 I) (hX : ∀ A A' L, X A → Ch L A A' → (∀ q ∈ L, q ≠ b0 ∧ q ≠ b0 + 1) → X A') (h : YS b0 I X bv mb m B k O W) (hc : Ch [] W W') : YS b0 I X bv mb m B k O W' :=
  h.next (hI.ch _ _ _ _ h.i hc) (hX _ _ _ h.x hc (by simp)) (fun q hq => ⟨hc.block q (h.lt q hq) (by simp), h.o q hq⟩)
theorem YS.add (h : YS b0 I X bv mb m B k O W) {b : Nat} {xs : List Value} (hb : blk W b xs) (hO : b ∉ O) (hbb : b ≠ b0 ∧ b ≠ b0 + 1) : YS b0 I X bv mb m ((b, xs) :: B) k O W :=
  ⟨h.i, h.x, h.lf, fun p hp => (List.mem_cons.1 hp).elim (fun e => by rw [e]; exact hb) (h.bl p), fun q hq => by
    simp only [List.map_cons, List.mem_cons] at hq
    rcases hq with e | e | e | hq
    · exact h.o q (by simp [e])
    · exact h.o q (by simp [e])
    · rw [e]; exact hO
    · exact h.o q (by simp only [List.mem_cons]; exact .inr (.inr hq)), fun q hq => by
    simp only [List.map_cons, List.mem_cons] at hq
    rcases hq with e | e | e | hq
    · exact h.nb q (by simp [e])
    · exact h.nb q (by simp [e])
    · rw [e]; exact hbb
    · exact h.nb q (by simp only [List.mem_cons]; exact .inr (.inr hq))⟩
theorem YS.drop {B' : List (Nat × List Value)} (h : YS b0 I X bv mb m B k O W) (hs : ∀ p ∈ B', p ∈ B) : YS b0 I X bv mb m B' k O W :=
  ⟨h.i, h.x, h.lf, fun p hp => h.bl p (hs p hp), fun q hq => h.o q (by
    simp only [List.mem_cons, List.mem_map] at hq ⊢
    rcases hq with e | e | ⟨p, hp, e⟩
    · exact .inl e
    · exact .inr (.inl e)
    · exact .inr (.inr ⟨p, hs p hp, e⟩)), fun q hq => h.nb q (by
    simp only [List.mem_cons, List.mem_map] at hq ⊢
    rcases hq with e | e | ⟨p, hp, e⟩
    · exact .inl e
    · exact .inr (.inl e)
    · exact .inr (.inr ⟨p, hs p hp, e⟩))⟩
end
theorem Sl.of_blk {w : World} {b : Nat} {c : List Int} (h : blk w b (intCells c)) (hn : c.length ≤ 1000000) : Sl w (some ⟨b, 0, none⟩) c :=
  ⟨fun i x hx => ⟨b, 0, rfl, by rw [Nat.zero_add]; exact h.cell (by unfold intCells; rw [List.getElem?_map, hx]; rfl)⟩, by omega⟩
theorem litOf_bd {m : List Nat} (hp : m.Pairwise (fun a b => a < b)) (hm : m.length ≤ 65536) (r : Int) : -65536 ≤ litOf (natInts m) r ∧ litOf (natInts m) r ≤ 65536 := by
  have := varOf_le (nat_asc hp) (r / 2)
  rw [natInts_len] at this
  unfold litOf
  split <;> omega
theorem empty_row (w : World) (T : TypeId) : row (w.alloc (.cells #[] T)) T 1 (.slice (some ⟨w.heap.size, 0, none⟩) 0 0) 0 [] :=
  ⟨rfl, .inr ⟨w.heap.size, 0, #[], rfl, Nat.zero_le _, heap_alloc_new w _, Nat.le_refl _, by decide, by simp, by simp⟩⟩
theorem infoLit : (Try.prog.info? 46).map (fun i => (i.zero, i.size, i.bytes)) = some (some (.int .i64 0), 1, 8) := by kernel_rfl
theorem slLits : SliceTy Try.prog 137 46 1 8 (.int .i64 0) := ⟨Try.underlying137, infoLit, rfl, by decide⟩
theorem fnvtswritten1 : Fnv 161 := fnv_of Try.func161 (by simp [Try.f161]) (by simp [Try.f161])
section
set_option maxRecDepth 100000 in
set_option maxHeartbeats 1000000 in
theorem tswritten_is (w : World) (g : Nat) (ma ra : Option Addr) (n mc k rc : Nat) : Calls Try.prog 82 #[.pointer (some ⟨g, 0, none⟩), .slice ma n mc, .slice ra k rc] w fun e w' => e = .returned (.func (.func 161) #[] #[.pointer (some ⟨w.heap.size + 1, 0, none⟩), .pointer (some ⟨w.heap.size, 0, none⟩), .pointer (some ⟨w.heap.size + 2, 0, none⟩)]) ∧
    Ch [] w w' ∧ blk w' w.heap.size [.pointer (some ⟨g, 0, none⟩)] ∧ blk w' (w.heap.size + 1) [.slice ma n mc] ∧ blk w' (w.heap.size + 2) [.slice ra k rc] ∧ w.heap.size + 3 ≤ w'.heap.size := by
  go_enter Try.func82, Try.ntmps82
  go_wp2_with fail
  go_ret
  exact ⟨rfl, (((Ch.refl _ _).alloc _).alloc _).alloc _, ((blk.new' _ _ (by simp)).alloc _).alloc _, (blk.new' _ _ (by simp)).alloc _, blk.new' _ _ (by simp), by simp⟩
set_option maxRecDepth 100000 in
set_option maxHeartbeats 8000000 in
theorem written1_seq {W0 : World} {g : Nat} {G : Gra} {F : List Nat} (h : GIn W0 g G F) {m l : List Nat} (hm : VarOk G.nodes m) (hl : ∀ r ∈ l, r < 2 * G.nodes.length) {ma ra : Option Addr} (n mc k rc : Nat) (hn : m.length = n) (hk : l.length = k) (hk6 : k ≤ 65536)
    {bg bm br : Nat} (hbg : blk W0 bg [.pointer (some ⟨g, 0, none⟩)]) (hbm : blk W0 bm [.slice ma n mc]) (hbr : blk W0 br [.slice ra k rc]) {Km Kr : List Nat} (hSm : ∀ W, (∀ q ∈ Km, W.heap[q]? = W0.heap[q]?) → Sl W ma (natInts m)) (hSr : ∀ W, (∀ q ∈ Kr, W.heap[q]? = W0.heap[q]?) → Sl W ra (natInts l))
    {I : Nat → List Nat → World → Prop} (hI : YI (bg :: bm :: br :: (F ++ (Km ++ Kr))) W0 I) (N : Nat) (hN : 1 ≤ N) (B : Nat) (lp : Nat) (X : World → Prop) (hX : ∀ A A' L, X A → Ch L A A' → (∀ q ∈ L, q ≠ B ∧ q ≠ B + 1) → X A')
    (hXB : ∀ A, X A → B + 2 ≤ A.heap.size)
    (hY : ∀ x W, YK B (clsOf G.nodes (natInts m) (natInts l)) I x W → X W → YieldAt Fence.wide (N - 1) Try.prog lp (ycEnc x) W fun e W' => e = .returned (.bool true) ∧ YJ I x W' ∧ X W')
    (W : World) (O0 : List Nat) (hI0 : I 0 O0 W) (hXW : X W) :
    CallsIn Fence.wide N Try.prog 161 #[.func (.yield lp) #[] #[], .pointer (some ⟨bm, 0, none⟩), .pointer (some ⟨bg, 0, none⟩), .pointer (some ⟨br, 0, none⟩)] W fun e W' => (∃ v, e = .returned v) ∧ (∃ O, I (clsOf G.nodes (natInts m) (natInts l)).length O W') ∧ X W' := by
  have hok := h.ok
  have hlen := hok.room
  have hmost := hok.most
  have hn6 : n ≤ 65536 := by
    rw [← hn]
    have h1 := rising_len (m := natInts m) (by
      rw [rising_iff]
      refine ⟨fun x hx => ?_, nat_asc hm.asc⟩
      unfold natInts at hx
      obtain ⟨d, hd, rfl⟩ := List.mem_map.1 hx
      have := hm.lt d hd
      exact ⟨by omega, by omega⟩)
    rw [natInts_len] at h1
    omega
  have hkp := fun (k : Nat) (O : List Nat) (W : World) (hi : I k O W) => hI.kept k O W hi
  have hgt := fun (k : Nat) (O : List Nat) (W : World) (hi : I k O W) => h.keep (W := W) (fun q hq => hkp k O W hi q (by simp [hq]))
  have hbt := fun (k : Nat) (O : List Nat) (W : World) (hi : I k O W) => hbg.keep (hkp k O W hi bg (by simp))
  have hmt := fun (k : Nat) (O : List Nat) (W : World) (hi : I k O W) => hbm.keep (hkp k O W hi bm (by simp))
  have hrt := fun (k : Nat) (O : List Nat) (W : World) (hi : I k O W) => hbr.keep (hkp k O W hi br (by simp))
  have hsm := fun (k : Nat) (O : List Nat) (W : World) (hi : I k O W) => hSm W (fun q hq => hkp k O W hi q (by simp [hq]))
  have hsr := fun (k : Nat) (O : List Nat) (W : World) (hi : I k O W) => hSr W (fun q hq => hkp k O W hi q (by simp [hq]))
  have y0 := (hmt _ _ _ hI0).cell (i := 0) rfl
  have y1 := (hbt _ _ _ hI0).cell (i := 0) rfl
  have y2 := (hrt _ _ _ hI0).cell (i := 0) rfl
  have hLI := tsliterals_is hm.asc n mc hn (by omega) (hsm _ _ _ hI0)
  have HLI := Lib.hid hLI; clear hLI
  have HI := Lib.hid hI; clear hI
  have HGT := Lib.hid hgt; clear hgt
  have HBT := Lib.hid hbt; clear hbt
  have HMT := Lib.hid hmt; clear hmt
  have HRT := Lib.hid hrt; clear hrt
  have HSM := Lib.hid hsm; clear hsm
  have HSR := Lib.hid hsr; clear hsr
  have HX := Lib.hid hX; clear hX
  have HY := Lib.hid hY; clear hY
  have HXB := Lib.hid hXB; clear hXB
  have HI0 := Lib.hid hI0; clear hI0
  have HXW := Lib.hid hXW; clear hXW
  have HM := Lib.hid hm; clear hm
  have HL := Lib.hid hl; clear hl
  have HN := Lib.hid hn; clear hn
  have HK := Lib.hid hk; clear hk
  have HOK := Lib.hid hok; clear hok
  clear hkp h hbg hbm hbr hSm hSr
  refine callsIn_of_wp Try.func161 rfl trivial ?_ rfl
  simp only [Try.ntmps161, List.size_toArray, List.length_cons, List.length_nil, Nat.reduceAdd, Nat.reduceSub, Array.replicate_succ, Array.replicate_zero, List.push_toArray, List.append_toArray, List.nil_append, List.cons_append]
  gi_wp2
  refine ⟨trivial, callsIn_wide.2 (HLI.out.mono ?_)⟩
  rintro e w1 ⟨bv, mb, rfl, hlf, hbv, hmb, hc1⟩
  have hys : YS B I X bv mb m [] 0 O0 w1 := ⟨HI.out.ch _ _ _ _ HI0.out hc1, HX.out _ _ _ HXW.out hc1 (by simp), hlf, by simp, fun q hq => by
    have := HI.out.lt _ _ _ HI0.out
    simp only [List.map_nil, List.mem_cons, List.not_mem_nil, or_false] at hq
    rcases hq with rfl | rfl
    · exact fun hin => by have := this _ hin; omega
    · exact fun hin => by have := this _ hin; omega, fun q hq => by
    have := HXB.out _ HXW.out
    simp only [List.map_nil, List.mem_cons, List.not_mem_nil, or_false] at hq
    rcases hq with rfl | rfl <;> omega⟩
  have y0 := (HMT.out _ _ _ hys.i).cell (i := 0) rfl
  have HYS := Lib.hid hys; clear hys
  clear hc1 HLI y1 y2 hlf hbv hmb HI0 HXW
  have hcf : ∀ args w, (callFunc 201 args).run Try.prog w = .ok (.enter 201 args) w := fnvtsliterals1
  gi_wp2
  clear y0
  gi_loopw [23] (fun i wr => ∃ (j : Nat) (O : List Nat), j ≤ n ∧ i = .int .i64 j ∧ YS B I X bv mb m [] (nodesCls G.nodes (natInts m) j).length O wr) (fun i _ => n - (intOf i).toNat)
  case atStart => exact ⟨0, O0, by omega, rfl, HYS.out⟩
  case round =>
    clear HYS
    obtain ⟨j, O, hj, rfl, hys⟩ := hrel
    by_cases hlt : j < n
    · obtain ⟨nd, hnd⟩ : ∃ nd, m[j]? = some nd := ⟨_, List.getElem?_eq_getElem (by rw [HN.out]; exact hlt)⟩
      have hndb := HM.out.lt nd (List.mem_of_getElem? hnd)
      have hndZ : (natInts m)[j]? = some (nd : Int) := by unfold natInts; rw [List.getElem?_map, hnd]; rfl
      obtain ⟨xb, xo, rfl, c0⟩ := (HSM.out _ _ _ hys.i).cells j (nd : Int) hndZ
      have y1 := (HBT.out _ _ _ hys.i).cell (i := 0) rfl
      have hSd := Sides_g (HGT.out _ _ _ hys.i) (2 * (nd : Int)) (by omega)
      obtain ⟨x, hxn⟩ : ∃ x, G.nodes[nd]? = some x := ⟨_, List.getElem?_eq_getElem hndb.2⟩
      obtain ⟨s1, s2⟩ := side_of HOK.out.wf hxn
      have hsucc : nodesCls G.nodes (natInts m) (j + 1) = nodesCls G.nodes (natInts m) j ++ nodeCls G.nodes (natInts m) j (nd : Int) := by rw [nodesCls_succ, getD_at hndZ]
      by_cases h3 : x.k = 3
      · obtain ⟨e1, e2, hl2, hr2, hl3, hr3⟩ := s2 h3
        have hcls : nodeCls G.nodes (natInts m) j (nd : Int) = andCls ((j : Int) + 1) (litOf (natInts m) x.l) (litOf (natInts m) x.r) := by
          unfold nodeCls
          rw [s1, e1, e2, if_pos (by simp [h3])]
        rw [s1, e1, e2, show (x.k == 3) = true by simp [h3]] at hSd
        have hat := fun (q : Nat) (c : List Int) (hc : (nodeCls G.nodes (natInts m) j (nd : Int))[q]? = some c) => cls_at (ns := G.nodes) (l := natInts l) (List.getElem?_eq_some_iff.1 hndZ).1 hndZ hc
        rw [hcls] at hat hsucc
        have hL1 := fun (W : World) (hW : LitFn W bv mb m) => tsliterals1_is HM.out.asc hW (by rw [HN.out]; omega) x.l (by omega)
        have hL2 := fun (W : World) (hW : LitFn W bv mb m) => tsliterals1_is HM.out.asc hW (by rw [HN.out]; omega) x.r (by omega)
        have hab := litOf_bd HM.out.asc (by rw [HN.out]; exact hn6) x.l
        have hbb := litOf_bd HM.out.asc (by rw [HN.out]; exact hn6) x.r
        generalize litOf (natInts m) x.l = A at *
        generalize litOf (natInts m) x.r = D at *
        have HL1 := Lib.hid hL1; clear hL1
        have HL2 := Lib.hid hL2; clear hL2
        have HSD := Lib.hid hSd; clear hSd
        have HAT := Lib.hid hat; clear hat
        have HSU := Lib.hid hsucc; clear hsucc
        have HYS := Lib.hid hys; clear hys
        clear s1 s2 h3 e1 e2 hnd hxn hcls hndZ
        generalize x.l = xl at *
        generalize x.r = xr at *
        gi_wp2
        refine ⟨trivial, callsIn_wide.2 (HSD.out.mono ?_)⟩
        rintro e w2 ⟨rfl, hc2⟩
        have hy2 := YS.ch HI.out HX.out HYS.out hc2
        have HY2 := Lib.hid hy2; clear hy2 HYS HSD hc2 c0 y1
        gi_wp2
        refine ⟨trivial, callsIn_wide.2 ((HL1.out _ HY2.out.lf).mono ?_)⟩
        rintro e w' ⟨rfl, rfl⟩
        gi_wp2
        refine ⟨trivial, callsIn_wide.2 ((HL2.out _ HY2.out.lf).mono ?_)⟩
        rintro e w' ⟨rfl, rfl⟩
        gi_wp2
        refine wpIn_named fun W7 hW7 => ?_
        have hc7 : Ch [] w2 W7 := by rw [hW7]; exact ((((Ch.refl _ _).alloc _).alloc _).alloc _).alloc _
        have k1 : blk W7 w2.heap.size (intCells [-((j : Int) + 1), A]) := by rw [hW7]; exact (((blk.new' _ _ rfl).alloc _).alloc _).alloc _
        have k2 : blk W7 (w2.heap.size + 1) (intCells [-((j : Int) + 1), D]) := by rw [hW7]; exact ((blk.new' _ _ (by simp)).alloc _).alloc _
        have k3 : blk W7 (w2.heap.size + 1 + 1) (intCells [(j : Int) + 1, -A, -D]) := by rw [hW7]; exact (blk.new' _ _ (by simp)).alloc _
        have k4 : blk W7 (w2.heap.size + 1 + 1 + 1) [.slice (some ⟨w2.heap.size, 0, none⟩) 2 2, .slice (some ⟨w2.heap.size + 1, 0, none⟩) 2 2, .slice (some ⟨w2.heap.size + 1 + 1, 0, none⟩) 3 3] := by rw [hW7]; exact blk.new' _ _ (by simp)
        have hno : ∀ d, w2.heap.size + d ∉ O := fun d hin => by have := HI.out.lt _ _ _ HY2.out.i _ hin; omega
        have hnb : ∀ d, w2.heap.size + d ≠ B ∧ w2.heap.size + d ≠ B + 1 := fun d => by have := HXB.out _ HY2.out.x; omega
        have hy7 := (((((HY2.out.ch HI.out HX.out hc7).add k4 (hno 3) (hnb 3)).add k3 (hno 2) (hnb 2)).add k2 (hno 1) (hnb 1)).add k1 (hno 0) (hnb 0))
        clear hW7 hc7 k1 k2 k3 k4 hno hnb HY2
        generalize w2.heap.size = b1 at *
        have HY7 := Lib.hid hy7; clear hy7
        gi_loopw [62] (fun i wr => ∃ (q : Nat) (O : List Nat), q ≤ 3 ∧ i = .int .i64 q ∧ YS B I X bv mb m [(b1, intCells [-((j : Int) + 1), A]), (b1 + 1, intCells [-((j : Int) + 1), D]), (b1 + 1 + 1, intCells [(j : Int) + 1, -A, -D]), (b1 + 1 + 1 + 1, [.slice (some ⟨b1, 0, none⟩) 2 2, .slice (some ⟨b1 + 1, 0, none⟩) 2 2, .slice (some ⟨b1 + 1 + 1, 0, none⟩) 3 3])] ((nodesCls G.nodes (natInts m) j).length + q) O wr) (fun i _ => 3 - (intOf i).toNat)
        case atStart => exact ⟨0, O, by omega, rfl, HY7.out⟩
        case round =>
          clear HY7
          obtain ⟨q, O, hq, rfl, hys⟩ := hrel
          by_cases hlt : q < 3
          · obtain ⟨bq, nq, c, cq, hnq, hn3, hbq, hbO, hlt2, hcc⟩ : ∃ (bq nq : Nat) (c : List Int), wr.cell? ⟨b1 + 1 + 1 + 1, q, none⟩ = some (.slice (some ⟨bq, 0, none⟩) nq nq) ∧ c.length = nq ∧ nq ≤ 3 ∧ blk wr bq (intCells c) ∧ (bq ∉ O ∧ bq ≠ B ∧ bq ≠ B + 1) ∧ bq < wr.heap.size ∧ (andCls ((j : Int) + 1) A D)[q]? = some c := by
              have k1 := hys.bl (b1, intCells [-((j : Int) + 1), A]) (by simp)
              have k2 := hys.bl (b1 + 1, intCells [-((j : Int) + 1), D]) (by simp)
              have k3 := hys.bl (b1 + 1 + 1, intCells [(j : Int) + 1, -A, -D]) (by simp)
              have k4 := hys.bl (b1 + 1 + 1 + 1, [.slice (some ⟨b1, 0, none⟩) 2 2, .slice (some ⟨b1 + 1, 0, none⟩) 2 2, .slice (some ⟨b1 + 1 + 1, 0, none⟩) 3 3]) (by simp)
              rcases (by omega : q = 0 ∨ q = 1 ∨ q = 2) with rfl | rfl | rfl
              · exact ⟨b1, 2, _, k4.cell rfl, rfl, by omega, k1, ⟨hys.o b1 (by simp), hys.nb b1 (by simp)⟩, k1.lt, rfl⟩
              · exact ⟨b1 + 1, 2, _, k4.cell rfl, rfl, by omega, k2, ⟨hys.o (b1 + 1) (by simp), hys.nb (b1 + 1) (by simp)⟩, k2.lt, rfl⟩
              · exact ⟨b1 + 1 + 1, 3, _, k4.cell rfl, rfl, by omega, k3, ⟨hys.o (b1 + 1 + 1) (by simp), hys.nb (b1 + 1 + 1) (by simp)⟩, k3.lt, rfl⟩
            have hat := HAT.out q c hcc
            have hY1 := HY.out ⟨(nodesCls G.nodes (natInts m) j).length + q, some ⟨bq, 0, none⟩, nq, nq, _, fun q => wr.heap[q]?⟩ wr ⟨O, c, hys.i, hat, hnq, Nat.le_refl _, (show nq ≤ 9223372036854775807 by omega), Sl.of_blk hbq (by omega), fun p hp => by cases hp; exact ⟨hlt2, hbO⟩, fun z hz => ⟨hys.lt z hz, hys.o z hz, hys.nb z hz, rfl⟩⟩ hys.x
            obtain ⟨fn, tmps, assign, body, hy1, hR⟩ := hY1
            simp only [ycEnc] at hy1
            have HYS := Lib.hid hys; clear hys
            clear hbq hbO hlt2 hcc hat hnq
            gi_wp2
            refine hR.mono ?_
            rintro e W2 ⟨rfl, ⟨O', hi', hkp⟩, hx'⟩
            have hys := HYS.out.next hi' hx' hkp
            have HYS := Lib.hid hys; clear hys hi' hkp hx' hR hy1
            gi_wp2
            go_roundw
            case rel => exact ⟨q + 1, O', by omega, by go_num, HYS.out⟩
            case measure => simp [intOf]; omega
          · have hq3 : q = 3 := by omega
            subst hq3
            have hys := hys.drop (B' := []) (by simp)
            rw [show (nodesCls G.nodes (natInts m) j).length + 3 = (nodesCls G.nodes (natInts m) (j + 1)).length by rw [HSU.out, List.length_append]; rfl] at hys
            have HYS := Lib.hid hys; clear hys
            gi_wp2
            go_roundw
            case rel => exact ⟨j + 1, O, by omega, by go_num, HYS.out⟩
            case measure => simp [intOf]; omega
      · rw [s1, show (x.k == 3) = false by simp [h3]] at hSd
        have hcls : nodeCls G.nodes (natInts m) j (nd : Int) = [] := by
          unfold nodeCls
          rw [s1, if_neg (by simp [h3])]
        rw [hcls, List.append_nil] at hsucc
        have HSD := Lib.hid hSd; clear hSd
        have HSU := Lib.hid hsucc; clear hsucc
        have HYS := Lib.hid hys; clear hys
        clear s1 s2 h3 hnd hxn hcls hndZ
        gi_wp2
        refine ⟨trivial, callsIn_wide.2 (HSD.out.mono ?_)⟩
        rintro e w2 ⟨rfl, hc2⟩
        have hy2 := YS.ch HI.out HX.out HYS.out hc2
        rw [← HSU.out] at hy2
        have HY2 := Lib.hid hy2; clear hy2 HYS HSD hc2 c0 y1
        gi_wp2
        go_roundw
        case rel => exact ⟨j + 1, O, by omega, by go_num, HY2.out⟩
        case measure => simp [intOf]; omega
    · have hjn : j = n := by omega
      subst hjn
      have y2 := (HRT.out _ _ _ hys.i).cell (i := 0) rfl
      have hml : (natInts m).length = j := by rw [natInts_len]; exact HN.out
      have HYS := Lib.hid hys; clear hys
      gi_wp2
      clear y2
      gi_loopw [74] (fun i wr => ∃ (q : Nat) (O : List Nat), q ≤ k ∧ i = .int .i64 q ∧ YS B I X bv mb m [] ((nodesCls G.nodes (natInts m) (natInts m).length).length + (rootsCls (natInts m) ((natInts l).take q)).length) O wr) (fun i _ => k - (intOf i).toNat)
      case atStart => exact ⟨0, O, by omega, rfl, by rw [hml]; exact HYS.out⟩
      case round =>
        clear HYS
        obtain ⟨q, O, hq, rfl, hys⟩ := hrel
        by_cases hltq : q < k
        · obtain ⟨r, hr⟩ : ∃ r, l[q]? = some r := ⟨_, List.getElem?_eq_getElem (by rw [HK.out]; exact hltq)⟩
          have hrb := HL.out r (List.mem_of_getElem? hr)
          have hrZ : (natInts l)[q]? = some (r : Int) := by unfold natInts; rw [List.getElem?_map, hr]; rfl
          obtain ⟨xb, xo, rfl, c0⟩ := (HSR.out _ _ _ hys.i).cells q (r : Int) hrZ
          have hsucc : rootsCls (natInts m) ((natInts l).take (q + 1)) = rootsCls (natInts m) ((natInts l).take q) ++ rootCls (natInts m) r := by
            rw [List.take_add_one, hrZ, ← rootsCls_snoc]; rfl
          have hcA : Ch [] wr (wr.alloc (.cells #[] 46)) := (Ch.refl _ _).alloc _
          have hyA := hys.ch HI.out HX.out hcA
          have hnO : wr.heap.size ∉ O ∧ wr.heap.size ≠ B ∧ wr.heap.size ≠ B + 1 := ⟨fun hin => by have := HI.out.lt _ _ _ hys.i _ hin; omega, by have := HXB.out _ hys.x; omega⟩
          by_cases h1 : r = 1
          · have d1 : ((r : Int) == 1) = true := by simp [h1]
            have e1 : rootCls (natInts m) r = [] := by unfold rootCls; rw [if_pos (by omega)]
            rw [e1, List.append_nil] at hsucc
            rw [← hsucc] at hyA
            have HYA := Lib.hid hyA; clear hyA hys hsucc hrZ hr e1 h1 hcA
            gi_wp2
            go_roundw
            case rel => exact ⟨q + 1, O, by omega, by go_num, HYA.out⟩
            case measure => simp [intOf]; omega
          · have d1 : ((r : Int) == 1) = false := by simp; omega
            by_cases h0 : r = 0
            · have d0 : ((r : Int) == 0) = true := by simp [h0]
              have e1 : rootCls (natInts m) r = [[]] := by unfold rootCls; rw [if_neg (by omega), if_pos (by omega)]
              have hcls := cls_root (ns := G.nodes) hrZ e1
              rw [e1] at hsucc
              have hY1 := HY.out ⟨(nodesCls G.nodes (natInts m) (natInts m).length).length + (rootsCls (natInts m) ((natInts l).take q)).length, some ⟨wr.heap.size, 0, none⟩, 0, 0, _, fun z => (wr.alloc (.cells #[] 46)).heap[z]?⟩ (wr.alloc (.cells #[] 46)) ⟨O, [], hyA.i, hcls, rfl, Nat.le_refl _, (show 0 ≤ 9223372036854775807 by omega), ⟨by simp, by simp⟩, fun p hp => by cases hp; exact ⟨by simp, hnO⟩, fun z hz => ⟨hyA.lt z hz, hyA.o z hz, hyA.nb z hz, rfl⟩⟩ hyA.x
              obtain ⟨fn, tmps, assign, body, hy1, hR⟩ := hY1
              simp only [ycEnc] at hy1
              have HYA := Lib.hid hyA; clear hyA hys
              have HSU := Lib.hid hsucc; clear hsucc
              clear hrZ hr e1 h1 h0 hcA hcls
              gi_wp2
              refine hR.mono ?_
              rintro e W2 ⟨rfl, ⟨O', hi', hkp⟩, hx'⟩
              have hy2 := HYA.out.next hi' hx' hkp
              have e2 : (nodesCls G.nodes (natInts m) (natInts m).length).length + (rootsCls (natInts m) ((natInts l).take q)).length + 1 = (nodesCls G.nodes (natInts m) (natInts m).length).length + (rootsCls (natInts m) ((natInts l).take (q + 1))).length := by rw [HSU.out, List.length_append]; rfl
              rw [e2] at hy2
              have HY2 := Lib.hid hy2; clear hy2 hi' hkp hx' hR hy1 HYA e2
              gi_wp2
              go_roundw
              case rel => exact ⟨q + 1, O', by omega, by go_num, HY2.out⟩
              case measure => simp [intOf]; omega
            · have d0 : ((r : Int) == 0) = false := by simp; omega
              have e1 : rootCls (natInts m) r = [[litOf (natInts m) r]] := by unfold rootCls; rw [if_neg (by omega), if_neg (by omega)]
              have hcls := cls_root (ns := G.nodes) hrZ e1
              rw [e1] at hsucc
              have hL1 := tsliterals1_is HM.out.asc hyA.lf (by rw [HN.out]; omega) r (by omega)
              have hrow0 := empty_row wr 46
              generalize litOf (natInts m) r = A at *
              have hrowB := hrow0.ch (F := []) ((Ch.refl [] _).alloc (.cells #[.int .i64 A] 46)) (by simp)
              have hnewB : blk ((wr.alloc (.cells #[] 46)).alloc (.cells #[.int .i64 A] 46)) (wr.heap.size + 1) [.int .i64 A] := blk.new' _ _ (by simp)
              have HL1 := Lib.hid hL1; clear hL1
              have HROWB := Lib.hid hrowB; clear hrowB hrow0
              have HNEWB := Lib.hid hnewB; clear hnewB
              have HYS := Lib.hid hys; clear hyA hys
              have HSU := Lib.hid hsucc; clear hsucc
              have HCLS := Lib.hid hcls; clear hcls
              have HNO := Lib.hid hnO; clear hnO
              clear hrZ hr e1 h1 h0 hcA
              gi_wp2
              refine ⟨trivial, callsIn_wide.2 (HL1.out.mono ?_)⟩
              rintro e w' ⟨rfl, rfl⟩
              gi_wp2_with (gi_at_builtin; go_loud (refine wpListIn_append_rowI slLits rfl _ _ rfl (v := .slice (some ⟨wr.heap.size, 0, none⟩) 0 0) (n := 0) (xs := []) rfl HROWB.out (ad := ⟨wr.heap.size + 1, 0, none⟩) (m := 1) (c := 1) (news := [.int .i64 A]) rfl rfl (news_blk HNEWB.out) (by simp [Value.oneCell']) (by omega) (by omega) ?_; intro v' w4 hown4 hC4 hf4; obtain ⟨gb, gc, rfl⟩ := hown4.parts (by omega); have HO4 := Lib.hid hown4; clear hown4; have HC4 := Lib.hid hC4; clear hC4; have HF4 := Lib.hid hf4; clear hf4))
              have hr4 : row w4 46 1 (.slice (some ⟨gb, 0, none⟩) 1 gc) 1 (intCells [A]) := HO4.out
              have hgb : wr.heap.size ≤ gb := by
                rcases HF4.out gb rfl with e | e
                · cases e; exact Nat.le_refl _
                · simp at e; omega
              have hc4 : Ch [] wr w4 := (((Ch.refl [] wr).alloc _).alloc _).trans HC4.out (fun z hz => .inr (by simp [Value.ownBlock] at hz; omega))
              have hy4 := HYS.out.ch HI.out HX.out hc4
              have hgO : gb ∉ O ∧ gb ≠ B ∧ gb ≠ B + 1 := ⟨fun hin => by have := HI.out.lt _ _ _ HYS.out.i _ hin; omega, by have := HXB.out _ HYS.out.x; omega⟩
              have hY1 := HY.out ⟨(nodesCls G.nodes (natInts m) (natInts m).length).length + (rootsCls (natInts m) ((natInts l).take q)).length, some ⟨gb, 0, none⟩, 1, gc, _, fun z => w4.heap[z]?⟩ w4 ⟨O, [A], hy4.i, HCLS.out, rfl, (row.capLe' hr4).1, (row.capLe' hr4).2, Sl.of_ints hr4 (by omega), fun p hp => by cases hp; exact ⟨(hr4.lt gb rfl).2, hgO⟩, fun z hz => ⟨hy4.lt z hz, hy4.o z hz, hy4.nb z hz, rfl⟩⟩ hy4.x
              obtain ⟨fn, tmps, assign, body, hy1, hR⟩ := hY1
              simp only [ycEnc] at hy1
              have HY4 := Lib.hid hy4; clear hy4 hgO hc4 hgb hr4 HO4 HC4 HF4 HYS HCLS HROWB HNEWB HL1
              rw [hy1]
              gi_wp2
              refine hR.mono ?_
              rintro e W2 ⟨rfl, ⟨O', hi', hkp⟩, hx'⟩
              have hy2 := HY4.out.next hi' hx' hkp
              have e2 : (nodesCls G.nodes (natInts m) (natInts m).length).length + (rootsCls (natInts m) ((natInts l).take q)).length + 1 = (nodesCls G.nodes (natInts m) (natInts m).length).length + (rootsCls (natInts m) ((natInts l).take (q + 1))).length := by rw [HSU.out, List.length_append]; rfl
              rw [e2] at hy2
              have HY2 := Lib.hid hy2; clear hy2 hi' hkp hx' hR hy1 HY4 e2
              gi_wp2
              go_roundw
              case rel => exact ⟨q + 1, O', by omega, by go_num, HY2.out⟩
              case measure => simp [intOf]; omega
        · have hqk : q = k := by omega
          subst hqk
          have e1 : (natInts l).take q = natInts l := List.take_of_length_le (by rw [natInts_len, HK.out]; exact Nat.le_refl _)
          rw [e1] at hys
          have HYS := Lib.hid hys; clear hys e1
          gi_wp2
          go_end0
          exact ⟨⟨_, rfl⟩, ⟨O, by unfold clsOf; rw [List.length_append]; exact HYS.out.i⟩, HYS.out.x⟩
end
end Go.Proofs.Ytkedpifopclipaa
namespace Go.Proofs.Ytkedpifopclipaa
open Go.RowKit Go.Mem Go.Aig
theorem mapN_len {G : Gra} (hok : Ok G) (l : List Nat) : (mapN G.nodes l).length ≤ 65536 := by
  have h1 := rising_len (mapN_rising hok.wf (by have := hok.room; have := hok.most; omega) l)
  rw [natInts_len] at h1
  omega
/-- what is known when Size has counted k clauses -/
structure SzI (B bn : Nat) (W0 : World) (k : Nat) (O : List Nat) (W : World) : Prop where
  o : O = [bn]
  b : blk W bn [.int .i64 k]
  ch : Ch [bn, B, B + 1] W0 W
theorem SzI.yi {B bn : Nat} {W0 : World} {Ks : List Nat} (hK : ∀ q ∈ Ks, q < B ∧ q ≠ bn ∧ q < W0.heap.size) : YI Ks W0 (SzI B bn W0) :=
  ⟨fun k O W h q hq => by rw [h.o] at hq; rw [List.mem_singleton.1 hq]; exact h.b.lt,
    fun k O A A' h hc => ⟨h.o, h.b.ch hc (by simp), h.ch.trans hc (by simp)⟩,
    fun k O W h q hq => h.ch.block q (hK q hq).2.2 (by have := hK q hq; simp; omega)⟩
theorem SzI.books {B bn : Nat} {W0 A A' : World} {k : Nat} {O : List Nat} (hb : bn < B) (h : SzI B bn W0 k O A) (hc : Ch [B, B + 1] A A') : SzI B bn W0 k O A' :=
  ⟨h.o, h.b.ch hc (by simp; omega), h.ch.trans hc (fun q hq => .inl (by simp only [List.mem_cons] at hq ⊢; exact .inr hq))⟩
theorem YK.books {B : Nat} {cls : List (List Int)} {I : Nat → List Nat → World → Prop} {x : YC} {A A' : World} (h : YK B cls I x A) (hc : Ch [B, B + 1] A A') (hI : ∀ O, I x.k O A → I x.k O A') : YK B cls I x A' := by
  obtain ⟨O, c, h1, h2, h3, h4, h5, h6, h7, h8⟩ := h
  refine ⟨O, c, hI O h1, h2, h3, h4, h5, h6.keep (fun q hq => ?_), fun p hp => ⟨Nat.lt_of_lt_of_le (h7 p hp).1 hc.size, (h7 p hp).2⟩, fun q hq => ⟨Nat.lt_of_lt_of_le (h8 q hq).1 hc.size, (h8 q hq).2.1, (h8 q hq).2.2.1, ?_⟩⟩
  · cases hx : x.ca with
    | none => rw [hx] at hq; simp [ablk] at hq
    | some p =>
      rw [hx] at hq
      simp only [ablk, List.mem_singleton] at hq
      obtain ⟨p1, _, p2, p3⟩ := h7 p hx
      rw [hq]
      exact hc.block _ p1 (by simp; omega)
  · obtain ⟨q1, q2, q3, q4⟩ := h8 q hq
    rw [← q4]
    exact hc.block q q1 (by simp; omega)
theorem YJ.books {B : Nat} {I : Nat → List Nat → World → Prop} {x : YC} {A A' : World} (h : YJ I x A) (hx : ∀ q ∈ x.L, q < A.heap.size ∧ q ≠ B ∧ q ≠ B + 1) (hc : Ch [B, B + 1] A A') (hI : ∀ O, I (x.k + 1) O A → I (x.k + 1) O A') : YJ I x A' := by
  obtain ⟨O, h1, h2⟩ := h
  refine ⟨O, hI O h1, fun q hq => ⟨?_, (h2 q hq).2⟩⟩
  rw [← (h2 q hq).1]
  exact hc.block q (hx q hq).1 (by have := hx q hq; simp; omega)
section
attribute [local go_sem] Oper.semAt_some
variable {w : World} {g : Nat} {G : Gra} {F : List Nat}
set_option maxRecDepth 100000 in
set_option maxHeartbeats 1000000 in
theorem tsSize_no (h : GIn w g G F) {a : Option Addr} {l : List Int} (n c : Nat) (hn : l.length = n) (hl : Sl w a l) (hlb : ∀ x ∈ l, x ≤ 9223372036854775807) (halt : ∀ p, a = some p → p.block < w.heap.size) (hb : badIn G l = true) :
    Calls Try.prog 16 #[.pointer (some ⟨g, 0, none⟩), .slice a n c] w fun e w' => e = .returned (.tuple #[.int .i64 0, .int .i64 0, .int .i64 200]) ∧ Ch [] w w' := by
  have hM := tsmapped_no h n c hn hl hlb halt hb
  clear h hl hlb halt hb
  go_enter Try.func16, Try.ntmps16
  go_wp2_with fail
  refine hM.mono ?_
  rintro e w1 ⟨rfl, hc⟩
  have HC := Lib.hid hc; clear hc
  go_wp2_with fail
  refine bodyPost_ret (results_tmp3 rfl _ _ _) rfl ?_
  exact ⟨rfl, HC.out⟩
set_option maxRecDepth 100000 in
set_option maxHeartbeats 4000000 in
theorem tsSize_yes (h : GIn w g G F) {a : Option Addr} {l : List Nat} (n c : Nat) (hn : l.length = n) (hn6 : n ≤ 65536) (hl : Sl w a (natInts l)) (halt : ∀ p, a = some p → p.block < w.heap.size) (hr : ∀ r ∈ l, r < 2 * G.nodes.length) :
    Calls Try.prog 16 #[.pointer (some ⟨g, 0, none⟩), .slice a n c] w fun e w' => e = .returned (.tuple #[.int .i64 (mapN G.nodes l).length, .int .i64 (clsOf G.nodes (natInts (mapN G.nodes l)) (natInts l)).length, .int .i64 0]) ∧ Ch [] w w' := by
  have hM := tsmapped_yes h n c hn hl halt hr
  have hok := mapN_ok h.ok.wf l
  have hml := mapN_len h.ok l
  have hcl := clsOf_len G.nodes (natInts (mapN G.nodes l)) (natInts l)
  rw [natInts_len, natInts_len, hn] at hcl
  have hFl := h.lt
  generalize mapN G.nodes l = m at *
  obtain ⟨cls, hcls⟩ : ∃ cls, clsOf G.nodes (natInts m) (natInts l) = cls := ⟨_, rfl⟩
  rw [hcls] at hcl ⊢
  have HM := Lib.hid hM; clear hM
  have HOK := Lib.hid hok; clear hok
  have H := Lib.hid h; clear h
  have HL := Lib.hid hl; clear hl
  have HR := Lib.hid hr; clear hr
  have HFL := Lib.hid hFl; clear hFl
  have HCL := Lib.hid hcls; clear hcls
  have HLN := Lib.hid hn; clear hn
  have HALT := Lib.hid halt; clear halt
  refine callsIn_wide (n := 4) |>.1 ?_
  refine callsIn_of_wp_marks Try.func16 rfl trivial ?_ rfl
  simp only [Try.ntmps16, List.size_toArray, List.length_cons, List.length_nil, Nat.reduceAdd, Nat.reduceSub, Array.replicate_succ, Array.replicate_zero, List.push_toArray, List.append_toArray, List.nil_append, List.cons_append]
  refine wpIn_wide.2 ?_
  go_wp2_with fail
  refine HM.out.mono ?_
  rintro e w1 ⟨v, rfl, hrow, hv, hc1⟩
  obtain ⟨ma, mc, rfl⟩ := row.shape hrow
  have HC1 := Lib.hid hc1; clear hc1 HM
  have HROW := Lib.hid hrow; clear hrow
  have HV := Lib.hid hv; clear hv
  go_upto_region 5 with fail
  refine wp_alw ?_
  intro W2 hW2
  have hb9 := alw_blk (xs := [.int .i64 0]) hW2
  have hc2 := HC1.out.trans (alw_ch hW2) (by simp)
  have hrow2 := HROW.out.ch (alw_ch hW2) (by simp)
  have hz1 := HC1.out.size
  have hvlt : ∀ q ∈ (Value.slice ma m.length mc).ownBlock.toList, q < w1.heap.size := fun q hq => (HROW.out.lt q (by simpa using hq)).2
  clear hW2 HROW HC1
  generalize w1.heap.size = bn at *
  have HB9 := Lib.hid hb9; clear hb9
  have HC2 := Lib.hid hc2; clear hc2
  have HROW := Lib.hid hrow2; clear hrow2
  have HVLT := Lib.hid hvlt; clear hvlt
  go_wp2_with fail
  refine (tswritten_is W2 g ma a m.length mc n c).mono ?_
  rintro e W3 ⟨rfl, hc3, hbg, hbm, hbr, hz3⟩
  have hb9 := HB9.out.ch hc3 (by simp)
  have hrow3 := HROW.out.ch hc3 (by simp)
  have hc4 := HC2.out.trans hc3 (by simp)
  have hz2 : bn < W2.heap.size := HB9.out.lt
  clear HB9 HROW HC2 hc3
  generalize W2.heap.size = b2 at *
  obtain ⟨B, hB⟩ : ∃ B, W3.heap.size = B := ⟨_, rfl⟩
  have hgin := H.out.same hc4 (by simp)
  have hsl := HL.out.ch hc4 (by simp)
  have hrsl : Sl W3 ma (natInts m) := Sl.of_ints hrow3 (by omega)
  have hKs : ∀ q ∈ (b2 :: (b2 + 1) :: (b2 + 2) :: (F ++ ((Value.slice ma m.length mc).ownBlock.toList ++ ablk a))), q < B ∧ q ≠ bn ∧ q < W3.heap.size := fun q hq => by
    simp only [List.mem_cons, List.mem_append] at hq
    rcases hq with rfl | rfl | rfl | hq | hq | hq
    · omega
    · omega
    · omega
    · have := HFL.out q hq; omega
    · have := HVLT.out q hq; omega
    · cases ha : a with
      | none => rw [ha] at hq; simp [ablk] at hq
      | some p =>
        rw [ha] at hq
        simp only [ablk, List.mem_singleton] at hq
        have := HALT.out p ha
        omega
  have hI : YI (b2 :: (b2 + 1) :: (b2 + 2) :: (F ++ ((Value.slice ma m.length mc).ownBlock.toList ++ ablk a))) W3 (SzI B bn W3) := SzI.yi hKs
  have hseq := fun (N : Nat) (hN : 1 ≤ N) => written1_seq hgin HOK.out HR.out (ma := ma) (ra := a) m.length mc n c rfl HLN.out hn6 hbg hbm hbr (Km := (Value.slice ma m.length mc).ownBlock.toList) (Kr := ablk a) (fun W hW => Sl.of_ints (hrow3.keep (fun k hk => hW k (by simpa using hk))) (by omega)) (fun W hW => hsl.keep hW) hI N hN B
  rw [HCL.out] at hseq
  have hI0 : SzI B bn W3 0 [bn] W3 := ⟨rfl, hb9, Ch.refl _ _⟩
  have hbB : bn < B := by omega
  have HSEQ := Lib.hid hseq; clear hseq
  have HI := Lib.hid hI; clear hI
  have HC4 := Lib.hid hc4; clear hc4
  clear hgin hsl hrsl hKs hb9 hrow3 hbg hbm hbr
  go_wp2_with fail
  refine (wpIn_wide (n := 4)).1 ?_
  refine wpIn_rangeFunc_Q (n := 4) B hB rfl (by omega) rfl trivial (fun args w => fnvtswritten1 args w) (encs := ycEnc) (fun _ => rfl)
    (fun W => ∃ O, SzI B bn W3 0 O W) (fun x W => (∀ q ∈ x.L, q < W.heap.size ∧ q ≠ B ∧ q ≠ B + 1) ∧ YK B cls (SzI B bn W3) x W) (fun x W => (∀ q ∈ x.L, q < W.heap.size ∧ q ≠ B ∧ q ≠ B + 1) ∧ YJ (SzI B bn W3) x W) (fun W => ∃ O, SzI B bn W3 cls.length O W) ?seq ?j0 ?k ?j ?d ⟨_, hI0⟩ ?a1 ?assign ?body ?done
  case assign =>
    intro q x W K hK
    simp only [ycEnc]
    gi_wp2
    exact hK
  case j0 =>
    rintro A A' ⟨O, h⟩ hc
    exact ⟨O, h.books hbB hc⟩
  case k =>
    rintro x A A' ⟨h0, h⟩ hc
    exact ⟨fun q hq => ⟨Nat.lt_of_lt_of_le (h0 q hq).1 hc.size, (h0 q hq).2⟩, h.books hc (fun O hO => hO.books hbB hc)⟩
  case j =>
    rintro x A A' ⟨h0, h⟩ hc
    exact ⟨fun q hq => ⟨Nat.lt_of_lt_of_le (h0 q hq).1 hc.size, (h0 q hq).2⟩, h.books h0 hc (fun O hO => hO.books hbB hc)⟩
  case d =>
    rintro A A' ⟨O, h⟩ hc
    exact ⟨O, h.books hbB hc⟩
  case seq =>
    rintro lp X hX hXB hY W ⟨O, hi⟩ hXW
    refine HSEQ.out 3 (by omega) lp X hX hXB (fun x W hk hx => (hY x W ⟨?_, hk⟩ hx).mono ?_) W O hi hXW
    · obtain ⟨O, c, _, _, _, _, _, _, _, h8⟩ := hk
      exact fun q hq => ⟨(h8 q hq).1, (h8 q hq).2.2.1⟩
    · rintro e W' ⟨h1, ⟨_, h2⟩, h3⟩
      exact ⟨h1, h2, h3⟩
  case body =>
    rintro lp x W ⟨hxl, O, cl, hi, hcx, h3, h4, h5, h6, h7, h8⟩ hWl
    clear h3 h4 h5 h6 h7
    have hkl := (List.getElem?_eq_some_iff.1 hcx).1
    obtain ⟨rfl, hb, hc⟩ := hi
    have c0 := hb.cell (i := 0) rfl
    have f0 := hb.frozen (i := 0)
    have HB := Lib.hid hb; clear hb
    have HCC := Lib.hid hc; clear hc
    have H8 := Lib.hid h8; clear h8 hcx
    have HXL := Lib.hid hxl; clear hxl
    have hlo : (x.k : Int) ≤ 1000000 := by omega
    gi_wp2
    have hwr : ((x.k : Nat) : Int) + 1 = ((x.k + 1 : Nat) : Int) := by omega
    have hcs : Ch [bn] W (W.setCell ⟨bn, 0, none⟩ (.int .i64 ((x.k : Int) + 1))) := (Ch.refl _ _).setCell (.inl (by simp)) _
    have hbs := HB.out.set (i := 0) (.int .i64 ((x.k : Int) + 1))
    refine ⟨Books.of_ch hcs hWl (by simp; omega), fun q hq => ⟨by simpa using (HXL.out q hq).1, (HXL.out q hq).2⟩, [bn], ⟨rfl, by rw [hwr] at hbs ⊢; simpa using hbs, HCC.out.trans hcs (fun q hq => .inl (by simp at hq; simp [hq]))⟩, fun q hq => ⟨(hcs.block q (H8.out q hq).1 (H8.out q hq).2.1).trans (H8.out q hq).2.2.2, (H8.out q hq).2.1⟩⟩
  case done =>
    rintro W ⟨O, rfl, hb, hc⟩ hK _
    have c0 := hb.cell (i := 0) rfl
    have HCC := Lib.hid hc; clear hc hb
    have HK := Lib.hid hK; clear hK
    go_wp2_with fail
    refine Ord.St.door (fun _ => True) [.fl, .rd, .rd, .fl, .fl, .fl] [0, 1, 0, 3, 15, 31] [0, 1, 2, 3, 4, 5] mixed (by kernel_rfl) rfl ?_
    refine Ord.St.fl2 (T' := ?_) 0 [1, 2, 3, 4, 5] _ _ rfl (by kernel_rfl) rfl rfl rfl rfl (fun K w' hk => ?_) ?_
    rotate_left
    · go_step; exact hk
    refine Ord.St.rd2 (T' := ?_) 1 [2, 3, 4, 5] _ _ rfl (by kernel_rfl) rfl rfl rfl rfl (fun K hk => ?_) ?_
    rotate_left
    · go_step; exact hk
    refine Ord.St.rd2 (T' := ?_) 2 [3, 4, 5] _ _ rfl (by kernel_rfl) rfl rfl rfl rfl (fun K hk => ?_) ?_
    rotate_left
    · go_step; exact hk
    refine Ord.St.fl2 (T' := ?_) 3 [4, 5] _ _ rfl (by kernel_rfl) rfl rfl rfl rfl (fun K w' hk => ?_) ?_
    rotate_left
    · go_step; exact hk
    refine Ord.St.fl2 (T' := ?_) 4 [5] _ _ rfl (by kernel_rfl) rfl rfl rfl rfl (fun K w' hk => ?_) ?_
    rotate_left
    · go_step; exact hk
    refine Ord.St.fl2 (T' := ?_) 5 [] _ _ rfl (by kernel_rfl) rfl rfl rfl rfl (fun K w' hk => ?_) ?_
    rotate_left
    · go_step; exact hk
    refine Ord.St.nil ?_
    trace_state
    go_wp2_with fail
    refine ⟨by simp, .inl ⟨_, _, rfl, run_takeDeferred HK.out, ?_⟩⟩
    refine ⟨_, results_tmp3 rfl _ _ _, rfl, ?_⟩
    exact HC4.out.trans (HCC.out.trans ((Ch.refl [B] W).drew.trans (ch_put (l := B) (L := [B]) (by simp)) (fun q hq => .inl hq)) (fun q hq => .inl (by simp at hq; simp [hq]))) (fun q hq => .inr (by have := HC4.out.size; simp only [List.mem_cons, List.not_mem_nil, or_false] at hq; omega))
end
end Go.Proofs.Ytkedpifopclipaa
namespace Go.Proofs.Ytkedpifopclipaa
open Go.RowKit Go.Mem Go.Aig
theorem infoCls : (Try.prog.info? 137).map (fun i => (i.zero, i.size, i.bytes)) = some (some (.slice none 0 0), 1, 24) := by kernel_rfl
theorem slCls : SliceTy Try.prog 34 137 1 24 (.slice none 0 0) := ⟨Try.underlying34, infoCls, rfl, by decide⟩
/-- clauses in memory: their slices, apart from the blocks O -/
structure ClsIn (w : World) (O : List Nat) (es : List Value) (cls : List (List Int)) : Prop where
  len : es.length = cls.length
  each : ∀ (i : Nat) (c : List Int), cls[i]? = some c → ∃ a cc, es[i]? = some (.slice a c.length cc) ∧ c.length ≤ cc ∧ cc ≤ 9223372036854775807 ∧ Sl w a c ∧ ∀ p, a = some p → p.block < w.heap.size ∧ p.block ∉ O
theorem Sl.chO {w w' : World} {a : Option Addr} {l : List Int} {F : List Nat} (h : Sl w a l) (hc : Ch F w w') (ha : ∀ p, a = some p → p.block < w.heap.size ∧ p.block ∉ F) : Sl w' a l := h.keep (fun q hq => by
  cases a with
  | none => simp [ablk] at hq
  | some p =>
    simp only [ablk, List.mem_singleton] at hq
    rw [hq]
    exact hc.block _ (ha p rfl).1 (ha p rfl).2)
theorem ClsIn.ch {w w' : World} {O O' F : List Nat} {es : List Value} {cls : List (List Int)} (h : ClsIn w O es cls) (hc : Ch F w w') (hF : ∀ q ∈ F, q ∈ O ∨ w.heap.size ≤ q) (hO : ∀ q ∈ O', q ∈ O ∨ w.heap.size ≤ q) : ClsIn w' O' es cls :=
  ⟨h.len, fun i c hi => by
    obtain ⟨a, cc, h1, h2, h3, h4, h5⟩ := h.each i c hi
    refine ⟨a, cc, h1, h2, h3, h4.chO hc (fun p hp => ⟨(h5 p hp).1, fun hin => ?_⟩), fun p hp => ⟨Nat.lt_of_lt_of_le (h5 p hp).1 hc.size, fun hin => ?_⟩⟩
    · have := h5 p hp
      rcases hF _ hin with e | e
      · exact this.2 e
      · omega
    · have := h5 p hp
      rcases hO _ hin with e | e
      · exact this.2 e
      · omega⟩
theorem ClsIn.snoc {w : World} {O : List Nat} {es : List Value} {cls : List (List Int)} (h : ClsIn w O es cls) {a : Option Addr} {c : List Int} {cc : Nat} (h2 : c.length ≤ cc) (h3 : cc ≤ 9223372036854775807) (h4 : Sl w a c) (h5 : ∀ p, a = some p → p.block < w.heap.size ∧ p.block ∉ O) : ClsIn w O (es ++ [.slice a c.length cc]) (cls ++ [c]) :=
  ⟨by simp [h.len], fun i d hi => by
    by_cases hlt : i < cls.length
    · rw [List.getElem?_append_left hlt] at hi
      obtain ⟨a', cc', q1, q2⟩ := h.each i d hi
      exact ⟨a', cc', by rw [List.getElem?_append_left (by rw [h.len]; exact hlt)]; exact q1, q2⟩
    · have hlt2 := (List.getElem?_eq_some_iff.1 hi).1
      rw [List.length_append] at hlt2
      have hie : i = cls.length := by simp at hlt2; omega
      subst hie
      rw [List.getElem?_append_right (Nat.le_refl _), Nat.sub_self] at hi
      have hd : c = d := by simpa using hi
      subst hd
      exact ⟨a, cc, by rw [List.getElem?_append_right (by rw [h.len]; exact Nat.le_refl _), h.len, Nat.sub_self]; rfl, h2, h3, h4, h5⟩⟩
/-- what is known when Encode has taken k clauses -/
structure EnI (B bf bx vars : Nat) (cls : List (List Int)) (W0 : World) (k : Nat) (O : List Nat) (W : World) : Prop where
  ex : ∃ (v : Value) (es : List Value), O = bf :: bx :: v.ownBlock.toList ∧ bx < bf ∧ blk W bf [.int .i64 vars, v] ∧ row W 137 1 v k es ∧ ClsIn W (B :: (B + 1) :: O) es (cls.take k) ∧ ∀ q ∈ v.ownBlock.toList, B + 2 ≤ q
  ch : Ch [bf, B, B + 1] W0 W
theorem EnI.lt {B bf bx vars : Nat} {cls : List (List Int)} {W0 W : World} {k : Nat} {O : List Nat} (h : EnI B bf bx vars cls W0 k O W) : ∀ q ∈ O, q < W.heap.size := fun q hq => by
  obtain ⟨v, es, h1, h0, h2, h3, _⟩ := h.ex
  have hbl := h2.lt
  rw [h1, List.mem_cons, List.mem_cons] at hq
  rcases hq with rfl | rfl | hq
  · exact h2.lt
  · omega
  · exact (h3.lt q (by simpa using hq)).2
theorem EnI.yi {B bf bx vars : Nat} {cls : List (List Int)} {W0 : World} {Ks : List Nat} (hK : ∀ q ∈ Ks, q < B ∧ q ≠ bf ∧ q < W0.heap.size) : YI Ks W0 (EnI B bf bx vars cls W0) :=
  ⟨fun k O W h => h.lt,
    fun k O A A' h hc => by
      obtain ⟨v, es, h1, h0, h2, h3, h4, h5⟩ := h.ex
      exact ⟨⟨v, es, h1, h0, h2.ch hc (by simp), h3.ch hc (by simp), h4.ch hc (by simp) (fun q hq => .inl hq), h5⟩, h.ch.trans hc (by simp)⟩,
    fun k O W h q hq => h.ch.block q (hK q hq).2.2 (by have := hK q hq; simp; omega)⟩
theorem EnI.books {B bf bx vars : Nat} {cls : List (List Int)} {W0 A A' : World} {k : Nat} {O : List Nat} (hb : bf < B) (h : EnI B bf bx vars cls W0 k O A) (hc : Ch [B, B + 1] A A') : EnI B bf bx vars cls W0 k O A' := by
  obtain ⟨v, es, h1, h0, h2, h3, h4, h5⟩ := h.ex
  exact ⟨⟨v, es, h1, h0, h2.ch hc (by simp; omega), h3.ch hc (fun q hq => by have := h5 q (by simpa using hq); simp; omega), h4.ch hc (fun q hq => .inl (by simp only [List.mem_cons, List.not_mem_nil, or_false] at hq ⊢; omega)) (fun q hq => .inl hq), h5⟩, h.ch.trans hc (fun q hq => .inl (by simp only [List.mem_cons] at hq ⊢; exact .inr hq))⟩
theorem EnI.step {B bf bx vars : Nat} {cls : List (List Int)} {W0 W : World} {k : Nat} {va : Option Addr} {vc : Nat} {es : List Value} (h0 : bx < bf) (hb : bf < B) (hWl : B + 2 ≤ W.heap.size) (h2 : blk W bf [.int .i64 vars, .slice va k vc]) (h3 : row W 137 1 (.slice va k vc) k es)
    (h4 : ClsIn W (B :: (B + 1) :: bf :: bx :: (Value.slice va k vc).ownBlock.toList) es (cls.take k)) (h5 : ∀ q ∈ (Value.slice va k vc).ownBlock.toList, B + 2 ≤ q) (hch : Ch [bf, B, B + 1] W0 W) (hW0 : W0.heap.size = B) {c : List Int} (hc : cls[k]? = some c) {ca : Option Addr} {cc : Nat} (hcc : c.length ≤ cc) (hcm : cc ≤ 9223372036854775807)
    (hS : Sl W ca c) (hp : ∀ p, ca = some p → p.block < W.heap.size ∧ p.block ∉ bf :: bx :: (Value.slice va k vc).ownBlock.toList ∧ p.block ≠ B ∧ p.block ≠ B + 1) {o : Obj} {w4 W' : World} {gb gc : Nat} (hrow : row w4 137 1 (.slice (some ⟨gb, 0, none⟩) (k + 1) gc) (k + 1) (es ++ [.slice ca c.length cc]))
    (hC4 : Ch (Value.slice va k vc).ownBlock.toList (W.alloc o) w4) (hf4 : ∀ q, (Value.slice (some ⟨gb, 0, none⟩) (k + 1) gc).ownBlock = some q → (Value.slice va k vc).ownBlock = some q ∨ (W.alloc o).heap.size ≤ q) (hW : W' = w4.setCell ⟨bf, 1, none⟩ (.slice (some ⟨gb, 0, none⟩) (k + 1 : Nat) gc)) :
    EnI B bf bx vars cls W0 (k + 1) (bf :: bx :: [gb]) W' ∧ Ch (bf :: (Value.slice va k vc).ownBlock.toList) W W' ∧ (gb ∈ (Value.slice va k vc).ownBlock.toList ∨ W.heap.size ≤ gb) := by
  have hA : Ch (Value.slice va k vc).ownBlock.toList W w4 := ((Ch.refl (Value.slice va k vc).ownBlock.toList W).alloc o).trans hC4 (fun q hq => .inl hq)
  have hbl := h2.lt
  have hvlt : ∀ q ∈ (Value.slice va k vc).ownBlock.toList, q < W.heap.size := fun q hq => (h3.lt q (by simpa using hq)).2
  have hgb : gb ∈ (Value.slice va k vc).ownBlock.toList ∨ W.heap.size ≤ gb := by
    rcases hf4 gb rfl with e | e
    · exact .inl (by simp [e])
    · rw [World.size_alloc] at e; exact .inr (by omega)
  have hgB : B + 2 ≤ gb := by rcases hgb with e | e; exact h5 _ e; omega
  have hS1 : Ch [bf] w4 W' := by rw [hW]; exact (Ch.refl _ _).setCell (.inl (by simp)) _
  have hF : Ch (bf :: (Value.slice va k vc).ownBlock.toList) W W' := (hA.mono (by intro q hq; exact .inl (List.mem_cons_of_mem _ hq))).trans hS1 (fun q hq => .inl (by rw [List.mem_singleton.1 hq]; simp))
  have hbo : bf ∉ (Value.slice va k vc).ownBlock.toList := fun hin => by have := h5 _ hin; omega
  refine ⟨⟨⟨.slice (some ⟨gb, 0, none⟩) (k + 1 : Nat) gc, es ++ [.slice ca c.length cc], rfl, h0, ?_, ?_, ?_, ?_⟩, ?_⟩, hF, hgb⟩
  · rw [hW]
    exact (h2.ch hA hbo).set (i := 1) _
  · exact hrow.ch hS1 (fun q hq => by simp [Value.ownBlock] at hq; simp; omega)
  · have h6 := (h4.ch (O' := B :: (B + 1) :: bf :: bx :: [gb]) hF (fun q hq => .inl (by
      simp only [List.mem_cons] at hq ⊢
      rcases hq with e | e
      · exact .inr (.inr (.inl e))
      · exact .inr (.inr (.inr (.inr e))))) (fun q hq => by
      simp only [List.mem_cons, List.not_mem_nil, or_false] at hq ⊢
      rcases hq with e | e | e | e | e
      · exact .inl (.inl e)
      · exact .inl (.inr (.inl e))
      · exact .inl (.inr (.inr (.inl e)))
      · exact .inl (.inr (.inr (.inr (.inl e))))
      · subst e
        rcases hgb with e | e
        · exact .inl (.inr (.inr (.inr (.inr e))))
        · exact .inr e)).snoc (a := ca) (c := c) (cc := cc) hcc hcm (hS.chO hF (fun p hpe => ⟨(hp p hpe).1, fun hin => (hp p hpe).2.1 (by
          simp only [List.mem_cons] at hin ⊢
          rcases hin with e | e
          · exact .inl e
          · exact .inr (.inr e))⟩)) (fun p hpe => ⟨Nat.lt_of_lt_of_le (hp p hpe).1 hF.size, fun hin => by
        obtain ⟨q1, q2, q3, q4⟩ := hp p hpe
        simp only [List.mem_cons, List.not_mem_nil, or_false, not_or] at hin q2
        rcases hin with e | e | e | e | e
        · exact q3 e
        · exact q4 e
        · exact q2.1 e
        · exact q2.2.1 e
        · rcases hgb with e2 | e2
          · exact q2.2.2 (by rw [e]; exact e2)
          · omega⟩)
    rw [List.take_add_one, hc]
    exact h6
  · intro q hq
    simp [Value.ownBlock] at hq
    omega
  · refine hch.trans hF (fun q hq => ?_)
    simp only [List.mem_cons, List.not_mem_nil, or_false] at hq ⊢
    rcases hq with e | e
    · exact .inl (.inl e)
    · have := h5 q e
      exact .inr (by omega)
/-- a new formula in memory -/
structure ForIn (w w' : World) (v : Value) (cls : List (List Int)) : Prop where
  ex : ∃ es, row w' 137 1 v cls.length es ∧ ClsIn w' [] es cls
  own : ∀ q ∈ v.ownBlock.toList, w.heap.size ≤ q
section
attribute [local go_sem] Oper.semAt_some
variable {w : World} {g : Nat} {G : Gra} {F : List Nat}
set_option maxRecDepth 100000 in
set_option maxHeartbeats 4000000 in
theorem tsEncode_yes (h : GIn w g G F) {a : Option Addr} {l : List Nat} (n c : Nat) (hn : l.length = n) (hn6 : n ≤ 65536) (hl : Sl w a (natInts l)) (halt : ∀ p, a = some p → p.block < w.heap.size) (hr : ∀ r ∈ l, r < 2 * G.nodes.length)
    (most : Int) (hm0 : 0 ≤ most) (hm1 : most ≤ 1048576) (hm2 : ((mapN G.nodes l).length : Int) ≤ most) :
    Calls Try.prog 17 #[.pointer (some ⟨g, 0, none⟩), .slice a n c, .int .i64 most] w fun e w' => ∃ cv mv, e = .returned (.tuple #[.agg #[.int .i64 (mapN G.nodes l).length, cv], mv, .int .i64 0]) ∧ ForIn w w' cv (clsOf G.nodes (natInts (mapN G.nodes l)) (natInts l)) ∧
      row w' 3 1 mv (mapN G.nodes l).length (intCells (natInts (mapN G.nodes l))) ∧ (∀ q ∈ mv.ownBlock.toList, w.heap.size ≤ q) ∧ Ch [] w w' := by
  have hM := fun (W : World) (hc : Ch [] w W) => tsmapped_yes (h.same hc (by simp)) n c hn (hl.ch hc (by simp)) (fun p hp => Nat.lt_of_lt_of_le (halt p hp) hc.size) hr
  have hok := mapN_ok h.ok.wf l
  have hml := mapN_len h.ok l
  have hcl := clsOf_len G.nodes (natInts (mapN G.nodes l)) (natInts l)
  rw [natInts_len, natInts_len, hn] at hcl
  have hFl := h.lt
  have d1 : decide (most < 0) = false := decide_eq_false (by omega)
  have d2 : decide (1048576 < most) = false := decide_eq_false (by omega)
  have d3 : decide (most < ((mapN G.nodes l).length : Int)) = false := decide_eq_false (by omega)
  generalize mapN G.nodes l = m at *
  obtain ⟨cls, hcls⟩ : ∃ cls, clsOf G.nodes (natInts m) (natInts l) = cls := ⟨_, rfl⟩
  rw [hcls] at hcl ⊢
  have HM := Lib.hid hM; clear hM
  have HOK := Lib.hid hok; clear hok
  have H := Lib.hid h; clear h
  have HL := Lib.hid hl; clear hl
  have HR := Lib.hid hr; clear hr
  have HFL := Lib.hid hFl; clear hFl
  have HCL := Lib.hid hcls; clear hcls
  have HLN := Lib.hid hn; clear hn
  have HALT := Lib.hid halt; clear halt
  refine callsIn_wide (n := 4) |>.1 ?_
  refine callsIn_of_wp_marks Try.func17 rfl trivial ?_ rfl
  simp only [Try.ntmps17, List.size_toArray, List.length_cons, List.length_nil, Nat.reduceAdd, Nat.reduceSub, Array.replicate_succ, Array.replicate_zero, List.push_toArray, List.append_toArray, List.nil_append, List.cons_append]
  refine wpIn_wide.2 ?_
  go_wp2_with fail
  refine calls_named fun W1 hW1 => ?_
  have hbx := alw_blk (xs := [.int .i64 0, .slice none 0 0]) hW1
  have hc01 := alw_ch hW1
  clear hW1
  refine (HM.out W1 hc01).mono ?_
  rintro e w1 ⟨v, rfl, hrow, hv, hc1⟩
  obtain ⟨ma, mc, rfl⟩ := row.shape hrow
  have hz0 : w.heap.size < W1.heap.size := hbx.lt
  have hbx := hbx.ch hc1 (by simp)
  have hbx1 : w.heap.size < w1.heap.size := hbx.lt
  have hc1 := hc01.trans hc1 (by simp)
  generalize hbxE : w.heap.size = bx at *
  have HBX := Lib.hid hbx; clear hbx
  have HC1 := Lib.hid hc1; clear hc1 hc01 HM
  have HROW := Lib.hid hrow; clear hrow
  have HV := Lib.hid hv; clear hv
  go_upto_region 9 with fail
  refine wp_alw ?_
  intro W2 hW2
  have hb9 := alw_blk (xs := [.int .i64 m.length, .slice none 0 0]) hW2
  have hc2 := HC1.out.trans (alw_ch hW2) (by simp)
  have hbx2 := HBX.out.ch (alw_ch hW2) (by simp)
  have hrow2 := HROW.out.ch (alw_ch hW2) (by simp)
  have hvlt : ∀ q ∈ (Value.slice ma m.length mc).ownBlock.toList, bx < q ∧ q < w1.heap.size := fun q hq => ⟨by have := HV.out q hq; omega, (HROW.out.lt q (by simpa using hq)).2⟩
  clear hW2 HROW HC1 HBX HV
  generalize w1.heap.size = bn at *
  have HB9 := Lib.hid hb9; clear hb9
  have HC2 := Lib.hid hc2; clear hc2
  have HROW := Lib.hid hrow2; clear hrow2
  have HBX := Lib.hid hbx2; clear hbx2
  have HVLT := Lib.hid hvlt; clear hvlt
  go_wp2_with fail
  refine (tswritten_is W2 g ma a m.length mc n c).mono ?_
  rintro e W3 ⟨rfl, hc3, hbg, hbm, hbr, hz3⟩
  have hb9 := HB9.out.ch hc3 (by simp)
  have hbx3 := HBX.out.ch hc3 (by simp)
  have hrow3 := HROW.out.ch hc3 (by simp)
  have hc4 := HC2.out.trans hc3 (by simp)
  have hz2 : bn < W2.heap.size := HB9.out.lt
  clear HB9 HROW HC2 hc3 HBX
  generalize W2.heap.size = b2 at *
  obtain ⟨B, hB⟩ : ∃ B, W3.heap.size = B := ⟨_, rfl⟩
  have hgin := H.out.same hc4 (by simp)
  have hsl := HL.out.ch hc4 (by simp)
  have hKs : ∀ q ∈ (b2 :: (b2 + 1) :: (b2 + 2) :: (F ++ ((Value.slice ma m.length mc).ownBlock.toList ++ ablk a))), q < B ∧ q ≠ bn ∧ q < W3.heap.size := fun q hq => by
    simp only [List.mem_cons, List.mem_append] at hq
    rcases hq with rfl | rfl | rfl | hq | hq | hq
    · omega
    · omega
    · omega
    · have := HFL.out q hq; omega
    · have := HVLT.out q hq; omega
    · cases ha : a with
      | none => rw [ha] at hq; simp [ablk] at hq
      | some p =>
        rw [ha] at hq
        simp only [ablk, List.mem_singleton] at hq
        have := HALT.out p ha
        omega
  have hI : YI (b2 :: (b2 + 1) :: (b2 + 2) :: (F ++ ((Value.slice ma m.length mc).ownBlock.toList ++ ablk a))) W3 (EnI B bn bx m.length cls W3) := EnI.yi hKs
  have hseq := fun (N : Nat) (hN : 1 ≤ N) => written1_seq hgin HOK.out HR.out (ma := ma) (ra := a) m.length mc n c rfl HLN.out hn6 hbg hbm hbr (Km := (Value.slice ma m.length mc).ownBlock.toList) (Kr := ablk a) (fun W hW => Sl.of_ints (hrow3.keep (fun k hk => hW k (by simpa using hk))) (by omega)) (fun W hW => hsl.keep hW) hI N hN B
  rw [HCL.out] at hseq
  have hI0 : EnI B bn bx m.length cls W3 0 [bn, bx] W3 := ⟨⟨.slice none 0 0, [], rfl, by omega, hb9, ⟨rfl, .inl ⟨rfl, rfl⟩⟩, ⟨rfl, by simp⟩, by simp [Value.ownBlock]⟩, Ch.refl _ _⟩
  have hbB : bn < B := by omega
  have HSEQ := Lib.hid hseq; clear hseq
  have HI := Lib.hid hI; clear hI
  have HC4 := Lib.hid hc4; clear hc4
  have HROW := Lib.hid hrow3; clear hrow3
  have HBX := Lib.hid hbx3; clear hbx3
  clear hgin hsl hKs hb9 hbg hbm hbr
  go_wp2_with fail
  refine (wpIn_wide (n := 4)).1 ?_
  refine wpIn_rangeFunc_Q (n := 4) B hB rfl (by omega) rfl trivial (fun args w => fnvtswritten1 args w) (encs := ycEnc) (fun _ => rfl)
    (fun W => ∃ O, EnI B bn bx m.length cls W3 0 O W) (fun x W => (∀ q ∈ x.L, q < W.heap.size ∧ q ≠ B ∧ q ≠ B + 1) ∧ YK B cls (EnI B bn bx m.length cls W3) x W) (fun x W => (∀ q ∈ x.L, q < W.heap.size ∧ q ≠ B ∧ q ≠ B + 1) ∧ YJ (EnI B bn bx m.length cls W3) x W) (fun W => ∃ O, EnI B bn bx m.length cls W3 cls.length O W) ?seq ?j0 ?k ?j ?d ⟨_, hI0⟩ ?a1 ?assign ?body ?done
  case assign =>
    intro q x W K hK
    simp only [ycEnc]
    gi_wp2
    exact hK
  case j0 =>
    rintro A A' ⟨O, h⟩ hc
    exact ⟨O, h.books hbB hc⟩
  case k =>
    rintro x A A' ⟨h0, h⟩ hc
    exact ⟨fun q hq => ⟨Nat.lt_of_lt_of_le (h0 q hq).1 hc.size, (h0 q hq).2⟩, h.books hc (fun O hO => hO.books hbB hc)⟩
  case j =>
    rintro x A A' ⟨h0, h⟩ hc
    exact ⟨fun q hq => ⟨Nat.lt_of_lt_of_le (h0 q hq).1 hc.size, (h0 q hq).2⟩, h.books h0 hc (fun O hO => hO.books hbB hc)⟩
  case d =>
    rintro A A' ⟨O, h⟩ hc
    exact ⟨O, h.books hbB hc⟩
  case seq =>
    rintro lp X hX hXB hY W ⟨O, hi⟩ hXW
    refine HSEQ.out 3 (by omega) lp X hX hXB (fun x W hk hx => (hY x W ⟨?_, hk⟩ hx).mono ?_) W O hi hXW
    · obtain ⟨O, c, _, _, _, _, _, _, _, h8⟩ := hk
      exact fun q hq => ⟨(h8 q hq).1, (h8 q hq).2.2.1⟩
    · rintro e W' ⟨h1, ⟨_, h2⟩, h3⟩
      exact ⟨h1, h2, h3⟩
  case body =>
    rintro lp ⟨xk, xa, xn, xc, xL, xh⟩ W ⟨hxl, O, cl, hi, hcx, h3, h4, h5, h6, h7, h8⟩ hWl
    simp only at hxl hcx h3 h4 h5 h6 h7 h8 hi
    have hkl := (List.getElem?_eq_some_iff.1 hcx).1
    obtain ⟨⟨v, es, rfl, hbxn, hb, hrow, hcl4, hown⟩, hch⟩ := hi
    obtain ⟨va, vc, rfl⟩ := row.shape hrow
    have c1 := hb.cell (i := 1) rfl
    have hcA : Ch [] W (W.alloc (.cells #[.slice xa xn xc] 137)) := (Ch.refl _ _).alloc _
    have hrowA := hrow.ch hcA (by simp)
    have hnewA : blk (W.alloc (.cells #[.slice xa xn xc] 137)) W.heap.size [.slice xa xn xc] := blk.new' _ _ rfl
    have hbA := hb.ch hcA (by simp)
    have hno : bn ∉ (Value.slice va xk vc).ownBlock.toList := fun hin => by have := hown _ hin; omega
    subst h3
    have hkb : xk ≤ 1000000 := by omega
    have HFIN := Lib.hid (fun (w4 : World) (gb gc : Nat) hr4 hC4 hf4 => EnI.step (vars := m.length) (W' := w4.setCell ⟨bn, 1, none⟩ (.slice (some ⟨gb, 0, none⟩) (xk + 1 : Nat) gc)) (gb := gb) (gc := gc) (o := .cells #[.slice xa cl.length xc] 137) hbxn hbB hWl hb hrow hcl4 hown hch hB hcx h4 h5 h6 h7 hr4 hC4 hf4 rfl)
    have HROWA := Lib.hid hrowA; clear hrowA
    have HNEWA := Lib.hid hnewA; clear hnewA
    have HBA := Lib.hid hbA; clear hbA
    have HNO := Lib.hid hno; clear hno
    have HOWN := Lib.hid hown
    have H8 := Lib.hid h8; clear h8
    have HXL := Lib.hid hxl; clear hxl
    have HVL := Lib.hid (fun q (hq : q ∈ (Value.slice va xk vc).ownBlock.toList) => (hrow.lt q (by simpa using hq)).2)
    clear hcx h4 h5 h6 h7 hb hrow hcl4 hown hch hcA
    gi_wp2_with (gi_at_builtin; go_loud (refine wpListIn_append_rowI slCls rfl _ _ rfl (v := .slice va xk vc) (n := xk) (xs := es) rfl HROWA.out (ad := ⟨W.heap.size, 0, none⟩) (m := 1) (c := 1) (news := [.slice xa cl.length xc]) rfl rfl (news_blk HNEWA.out) (by simp [Value.oneCell']) (by omega) (by omega) ?_; intro v' w4 hown4 hC4 hf4; obtain ⟨gb, gc, rfl⟩ := hown4.parts (by omega); have hb4 := HBA.out.ch hC4 HNO.out; have k1 := hb4.cell (i := 1) rfl; have k2 := hb4.frozen (i := 1); have HO4 := Lib.hid hown4; clear hown4; have HC4' := Lib.hid hC4; clear hC4; have HF4 := Lib.hid hf4; clear hf4; clear hb4))
    obtain ⟨q1, q2, q3⟩ := HFIN.out w4 gb gc HO4.out HC4'.out HF4.out
    have hbs : Ch [bn] w4 (w4.setCell ⟨bn, 1, none⟩ (.slice (some ⟨gb, 0, none⟩) (xk + 1 : Nat) gc)) := (Ch.refl _ _).setCell (.inl (by simp)) _
    refine ⟨Books.of_ch q2 hWl (fun q hq => ?_), fun q hq => ⟨by have := q2.size; have := (HXL.out q hq).1; simp at *; omega, (HXL.out q hq).2⟩, _, q1, fun q hq => ⟨(q2.block q (H8.out q hq).1 (fun hin => (H8.out q hq).2.1 ?_)).trans (H8.out q hq).2.2.2, fun hin => ?_⟩⟩
    · simp only [List.mem_cons] at hq
      rcases hq with e | hq
      · omega
      · have := HOWN.out q hq; omega
    · simp only [List.mem_cons] at hin ⊢
      rcases hin with e | e
      · exact .inl e
      · exact .inr (.inr e)
    · have h9 := H8.out q hq
      simp only [List.mem_cons, List.not_mem_nil, or_false, not_or] at hin h9
      rcases hin with e | e | e
      · exact h9.2.1.1 e
      · exact h9.2.1.2.1 e
      · rcases q3 with e2 | e2
        · exact h9.2.1.2.2 (by rw [e]; exact e2)
        · omega
  case done =>
    rintro W ⟨O, ⟨⟨v, es, rfl, hbxn, hb, hrow, hcl4, hown⟩, hch⟩⟩ hK hWl
    rw [List.take_of_length_le (Nat.le_refl _)] at hcl4
    obtain ⟨va, vc, rfl⟩ := row.shape hrow
    have c0 := hb.cell (i := 0) rfl
    have c1 := hb.cell (i := 1) rfl
    have hbxW := HBX.out.ch hch (by simp; omega)
    have z0 := hbxW.cell (i := 0) rfl
    have z1 := hbxW.cell (i := 1) rfl
    have f0 := hbxW.frozen (i := 0)
    have f1 := hbxW.frozen (i := 1)
    have HBW := Lib.hid hbxW; clear hbxW hb
    have HROWC := Lib.hid hrow; clear hrow
    have HCL4 := Lib.hid hcl4; clear hcl4
    have HOWN := Lib.hid hown; clear hown
    have HCH := Lib.hid hch; clear hch
    have HK := Lib.hid hK; clear hK
    go_wp2_with fail
    obtain ⟨Wf, hWf⟩ : ∃ Wf, Wf = (W.setCell ⟨bx, 0, none⟩ (.int .i64 m.length)).setCell ⟨bx, 1, none⟩ (.slice va cls.length vc) := ⟨_, rfl⟩
    rw [← hWf]
    have hcf : Ch [bx] W Wf := by rw [hWf]; exact ((Ch.refl _ _).setCell (.inl (by simp)) _).setCell (.inl (by simp)) _
    have hbf : blk Wf bx [.int .i64 m.length, .slice va cls.length vc] := by rw [hWf]; exact (HBW.out.set (i := 0) _).set (i := 1) _
    have hKf := (hcf.block B (by omega) (by simp; omega)).trans HK.out
    clear hWf
    refine ⟨by simp, .inl ⟨_, _, rfl, run_takeDeferred hKf, ?_⟩⟩
    obtain ⟨WF, hWF⟩ : ∃ WF, WF = Wf.putObj B (Obj.deferred none) := ⟨_, rfl⟩
    rw [← hWF]
    have hcp : Ch [B] Wf WF := by rw [hWF]; exact ch_put (by simp)
    have hbF := hbf.ch hcp (by simp; omega)
    have y0 := hbF.cell (i := 0) rfl
    have y1 := hbF.cell (i := 1) rfl
    have hcc : Ch [bx, B] W WF := (hcf.mono (by simp)).trans hcp (fun q hq => .inl (by simp at hq; simp [hq]))
    refine ⟨.tuple #[.agg #[.int .i64 m.length, .slice va cls.length vc], .slice ma m.length mc, .int .i64 0], by simp [results, Try.results17, go_sem, y0, y1], ?_⟩
    refine ⟨_, _, rfl, ⟨⟨es, HROWC.out.ch hcc (fun q hq => by have := HOWN.out q (by simpa using hq); simp; omega), HCL4.out.ch hcc (fun q hq => .inl (by simp only [List.mem_cons, List.not_mem_nil, or_false] at hq ⊢; rcases hq with e | e; exact .inr (.inr (.inr (.inl e))); exact .inl e)) (by simp)⟩, fun q hq => by have := HOWN.out q hq; omega⟩,
      (HROW.out.ch HCH.out (fun q hq => by have := HVLT.out q (by simpa using hq); simp; omega)).ch hcc (fun q hq => by have := HVLT.out q (by simpa using hq); simp; omega), fun q hq => (by rw [hbxE]; exact Nat.le_of_lt (HVLT.out q hq).1), ?_⟩
    exact (HC4.out.trans HCH.out (fun q hq => .inr (by have := HC4.out.size; simp only [List.mem_cons, List.not_mem_nil, or_false] at hq; omega))).trans hcc (fun q hq => .inr (by have e9 := hbxE; have e8 := HC4.out.size; simp only [List.mem_cons, List.not_mem_nil, or_false] at hq; omega))
end
end Go.Proofs.Ytkedpifopclipaa
namespace Go.Proofs.Ytkedpifopclipaa
open Go.RowKit Go.Mem Go.Aig
section
variable {w : World} {g : Nat} {G : Gra} {F : List Nat}
/-- what Encode returns where it refuses -/
def EncNo (w : World) (e : Nat) (en : Ending) (w' : World) : Prop := en = .returned (.tuple #[.agg #[.int .i64 0, .slice none 0 0], .slice none 0 0, .int .i64 e]) ∧ Ch [] w w'
set_option maxRecDepth 100000 in
set_option maxHeartbeats 2000000 in
theorem tsEncode_ref (h : GIn w g G F) {a : Option Addr} {l : List Int} (n c : Nat) (hn : l.length = n) (hl : Sl w a l) (hlb : ∀ x ∈ l, x ≤ 9223372036854775807) (halt : ∀ p, a = some p → p.block < w.heap.size) (hb : badIn G l = true) (most : Int) :
    Calls Try.prog 17 #[.pointer (some ⟨g, 0, none⟩), .slice a n c, .int .i64 most] w (EncNo w 200) := by
  have hM := fun (W : World) (hc : Ch [] w W) => tsmapped_no (h.same hc (by simp)) n c hn (hl.ch hc (by simp)) hlb (fun p hp => Nat.lt_of_lt_of_le (halt p hp) hc.size) hb
  have HM := Lib.hid hM; clear hM
  clear h hl hlb halt hb
  unfold EncNo
  go_enter Try.func17, Try.ntmps17
  go_wp2_with fail
  refine calls_named fun W1 hW1 => ?_
  have hbx := alw_blk (xs := [.int .i64 0, .slice none 0 0]) hW1
  have hc01 := alw_ch hW1
  clear hW1
  refine (HM.out W1 hc01).mono ?_
  rintro e w1 ⟨rfl, hc⟩
  have hbx := hbx.ch hc (by simp)
  have z0 := hbx.cell (i := 0) rfl
  have z1 := hbx.cell (i := 1) rfl
  have f0 := hbx.frozen (i := 0)
  have f1 := hbx.frozen (i := 1)
  have HC := Lib.hid (hc01.trans hc (by simp)); clear hc hc01 HM hbx
  go_wp2_with fail
  refine bodyPost_ret (v := .tuple #[.agg #[.int .i64 0, .slice none 0 0], .slice none 0 0, .int .i64 200]) (by simp [results, Try.results17, go_sem, z0, z1]) rfl ?_
  exact ⟨rfl, HC.out.trans (((Ch.refl [w.heap.size] _).setCell (.inl (by simp)) _).setCell (.inl (by simp)) _) (fun q hq => .inr (by rw [List.mem_singleton.1 hq]; exact Nat.le_refl _))⟩
set_option maxRecDepth 100000 in
set_option maxHeartbeats 4000000 in
theorem tsEncode_most (h : GIn w g G F) {a : Option Addr} {l : List Nat} (n c : Nat) (hn : l.length = n) (hl : Sl w a (natInts l)) (halt : ∀ p, a = some p → p.block < w.heap.size) (hr : ∀ r ∈ l, r < 2 * G.nodes.length) (most : Int) {e : Nat}
    (he : (most < 0 ∨ 1048576 < most) ∧ e = 2 ∨ (0 ≤ most ∧ most ≤ 1048576 ∧ most < ((mapN G.nodes l).length : Int)) ∧ e = 270) :
    Calls Try.prog 17 #[.pointer (some ⟨g, 0, none⟩), .slice a n c, .int .i64 most] w (EncNo w e) := by
  have hM := fun (W : World) (hc : Ch [] w W) => tsmapped_yes (h.same hc (by simp)) n c hn (hl.ch hc (by simp)) (fun p hp => Nat.lt_of_lt_of_le (halt p hp) hc.size) hr
  have hml := mapN_len h.ok l
  generalize mapN G.nodes l = m at *
  have HM := Lib.hid hM; clear hM
  clear h hl halt hr
  unfold EncNo
  rcases he with ⟨h1, rfl⟩ | ⟨⟨h1, h2, h3⟩, rfl⟩
  · by_cases h0 : most < 0
    · have d1 : decide (most < 0) = true := decide_eq_true h0
      clear h1
      go_enter Try.func17, Try.ntmps17
      go_wp2_with fail
      refine calls_named fun W1 hW1 => ?_
      have hbx := alw_blk (xs := [.int .i64 0, .slice none 0 0]) hW1
      have hc01 := alw_ch hW1
      clear hW1
      refine (HM.out W1 hc01).mono ?_
      rintro e w1 ⟨v, rfl, hrow, _, hc⟩
      obtain ⟨ma, mc, rfl⟩ := row.shape hrow
      have hbx := hbx.ch hc (by simp)
      have z0 := hbx.cell (i := 0) rfl
      have z1 := hbx.cell (i := 1) rfl
      have f0 := hbx.frozen (i := 0)
      have f1 := hbx.frozen (i := 1)
      have HC := Lib.hid (hc01.trans hc (by simp)); clear hc hc01 HM hbx hrow
      go_wp2_with fail
      refine bodyPost_ret (v := .tuple #[.agg #[.int .i64 0, .slice none 0 0], .slice none 0 0, .int .i64 2]) (by simp [results, Try.results17, go_sem, z0, z1]) rfl ?_
      exact ⟨rfl, HC.out.trans (((Ch.refl [w.heap.size] _).setCell (.inl (by simp)) _).setCell (.inl (by simp)) _) (fun q hq => .inr (by rw [List.mem_singleton.1 hq]; exact Nat.le_refl _))⟩
    · have d1 : decide (most < 0) = false := decide_eq_false h0
      have d2 : decide (1048576 < most) = true := decide_eq_true (by omega)
      clear h1 h0
      go_enter Try.func17, Try.ntmps17
      go_wp2_with fail
      refine calls_named fun W1 hW1 => ?_
      have hbx := alw_blk (xs := [.int .i64 0, .slice none 0 0]) hW1
      have hc01 := alw_ch hW1
      clear hW1
      refine (HM.out W1 hc01).mono ?_
      rintro e w1 ⟨v, rfl, hrow, _, hc⟩
      obtain ⟨ma, mc, rfl⟩ := row.shape hrow
      have hbx := hbx.ch hc (by simp)
      have z0 := hbx.cell (i := 0) rfl
      have z1 := hbx.cell (i := 1) rfl
      have f0 := hbx.frozen (i := 0)
      have f1 := hbx.frozen (i := 1)
      have HC := Lib.hid (hc01.trans hc (by simp)); clear hc hc01 HM hbx hrow
      go_wp2_with fail
      refine bodyPost_ret (v := .tuple #[.agg #[.int .i64 0, .slice none 0 0], .slice none 0 0, .int .i64 2]) (by simp [results, Try.results17, go_sem, z0, z1]) rfl ?_
      exact ⟨rfl, HC.out.trans (((Ch.refl [w.heap.size] _).setCell (.inl (by simp)) _).setCell (.inl (by simp)) _) (fun q hq => .inr (by rw [List.mem_singleton.1 hq]; exact Nat.le_refl _))⟩
  · have d1 : decide (most < 0) = false := decide_eq_false (by omega)
    have d2 : decide (1048576 < most) = false := decide_eq_false (by omega)
    have d3 : decide (most < (m.length : Int)) = true := decide_eq_true h3
    clear h3
    go_enter Try.func17, Try.ntmps17
    go_wp2_with fail
    refine calls_named fun W1 hW1 => ?_
    have hbx := alw_blk (xs := [.int .i64 0, .slice none 0 0]) hW1
    have hc01 := alw_ch hW1
    clear hW1
    refine (HM.out W1 hc01).mono ?_
    rintro e w1 ⟨v, rfl, hrow, _, hc⟩
    obtain ⟨ma, mc, rfl⟩ := row.shape hrow
    have hbx := hbx.ch hc (by simp)
    have z0 := hbx.cell (i := 0) rfl
    have z1 := hbx.cell (i := 1) rfl
    have f0 := hbx.frozen (i := 0)
    have f1 := hbx.frozen (i := 1)
    have HC := Lib.hid (hc01.trans hc (by simp)); clear hc hc01 HM hbx hrow
    go_wp2_with fail
    refine bodyPost_ret (v := .tuple #[.agg #[.int .i64 0, .slice none 0 0], .slice none 0 0, .int .i64 270]) (by simp [results, Try.results17, go_sem, z0, z1]) rfl ?_
    exact ⟨rfl, HC.out.trans (((Ch.refl [w.heap.size] _).setCell (.inl (by simp)) _).setCell (.inl (by simp)) _) (fun q hq => .inr (by rw [List.mem_singleton.1 hq]; exact Nat.le_refl _))⟩
end
end Go.Proofs.Ytkedpifopclipaa
namespace Go.Proofs.Ytkedpifopclipaa
open Go.RowKit Go.Mem Go.Aig
section
variable {w : World}
set_option maxRecDepth 100000 in
set_option maxHeartbeats 1000000 in
theorem EQmap_is {a b : Option Addr} {xs ys : List Int} (ca cb : Nat) (hx : Sl w a xs) (hy : Sl w b ys) :
    Calls Try.prog 19 #[.slice a xs.length ca, .slice b ys.length cb] w fun e w' => e = .returned (.bool (decide (xs = ys))) ∧ Ch [] w w' := by
  have hbx := hx.bd
  have hby := hy.bd
  have HX := Lib.hid hx; clear hx
  have HY := Lib.hid hy; clear hy
  by_cases hl : xs.length = ys.length
  · have hne : ((xs.length : Int) != (ys.length : Int)) = false := by simp [hl]
    generalize hd : decide (xs = ys) = d
    have HD := Lib.hid hd; clear hd
    have HL := Lib.hid hl; clear hl
    go_enter Try.func19, Try.ntmps19
    go_wp2_with fail
    go_loopw [13] (fun i wr => ∃ k : Nat, k ≤ xs.length ∧ i = .int .i64 k ∧ xs.take k = ys.take k ∧ Ch [] w wr) (fun i _ => xs.length - (intOf i).toNat)
    case atStart => exact ⟨0, Nat.zero_le _, rfl, rfl, Ch.refl _ _⟩
    case round =>
      obtain ⟨k, hk, rfl, ht, hc⟩ := hrel
      have HT := Lib.hid ht; clear ht
      by_cases hlt : k < xs.length
      · have hlt2 : k < ys.length := by have := HL.out; omega
        have hxk : xs[k]? = some xs[k] := List.getElem?_eq_getElem hlt
        have hyk : ys[k]? = some ys[k] := List.getElem?_eq_getElem hlt2
        obtain ⟨b1, o1, rfl, c1⟩ := (HX.out.ch hc (by simp)).cells k _ hxk
        obtain ⟨b2, o2, rfl, c2⟩ := (HY.out.ch hc (by simp)).cells k _ hyk
        generalize xs[k] = x at *
        generalize ys[k] = y at *
        have HXK := Lib.hid hxk; clear hxk
        have HYK := Lib.hid hyk; clear hyk
        have HC := Lib.hid hc; clear hc
        by_cases hxy : x = y
        · have hb : (x != y) = false := by simp [hxy]
          have HE := Lib.hid hxy; clear hxy
          go_wp2_with fail
          refine Ord.St.door (fun _ => True) [.fl, .fl, .fl, .rd, .fl, .fl, .fl, .rd, .fl] [0, 0, 3, 7, 0, 0, 48, 112, 255] [0, 1, 2, 3, 4, 5, 6, 7, 8] mixed (by kernel_rfl) rfl ?_
          refine Ord.St.fl2 (T' := ?_) 0 [1, 2, 3, 4, 5, 6, 7, 8] _ _ rfl (by kernel_rfl) rfl rfl rfl rfl (fun K w' hk => ?_) ?_
          rotate_left
          · go_step; exact hk
          refine Ord.St.fl2 (T' := ?_) 1 [2, 3, 4, 5, 6, 7, 8] _ _ rfl (by kernel_rfl) rfl rfl rfl rfl (fun K w' hk => ?_) ?_
          rotate_left
          · go_step; exact hk
          refine Ord.St.fl2 (T' := ?_) 2 [3, 4, 5, 6, 7, 8] _ _ rfl (by kernel_rfl) rfl rfl rfl rfl (fun K w' hk => ?_) ?_
          rotate_left
          · go_step; exact hk
          refine Ord.St.rd2 (T' := ?_) 3 [4, 5, 6, 7, 8] _ _ rfl (by kernel_rfl) rfl rfl rfl rfl (fun K hk => ?_) ?_
          rotate_left
          · go_step; exact hk
          refine Ord.St.fl2 (T' := ?_) 4 [5, 6, 7, 8] _ _ rfl (by kernel_rfl) rfl rfl rfl rfl (fun K w' hk => ?_) ?_
          rotate_left
          · go_step; exact hk
          refine Ord.St.fl2 (T' := ?_) 5 [6, 7, 8] _ _ rfl (by kernel_rfl) rfl rfl rfl rfl (fun K w' hk => ?_) ?_
          rotate_left
          · go_step; exact hk
          refine Ord.St.fl2 (T' := ?_) 6 [7, 8] _ _ rfl (by kernel_rfl) rfl rfl rfl rfl (fun K w' hk => ?_) ?_
          rotate_left
          · go_step; exact hk
          refine Ord.St.rd2 (T' := ?_) 7 [8] _ _ rfl (by kernel_rfl) rfl rfl rfl rfl (fun K hk => ?_) ?_
          rotate_left
          · go_step; exact hk
          refine Ord.St.fl2 (T' := ?_) 8 [] _ _ rfl (by kernel_rfl) rfl rfl rfl rfl (fun K w' hk => ?_) ?_
          rotate_left
          · go_step; exact hk
          refine Ord.St.nil ?_
          go_wp2_with fail
          go_roundw
          case rel => exact ⟨k + 1, by omega, by go_num, take_eq_succ HT.out HXK.out HYK.out HE.out, HC.out.drew⟩
          case measure => simp [intOf]; omega
        · have hb : (x != y) = true := by simp [hxy]
          have hdf : d = false := by
            rw [← HD.out]
            refine decide_eq_false fun e => hxy ?_
            have h1 := HXK.out
            rw [e, HYK.out] at h1
            cases h1; rfl
          have HDF := Lib.hid hdf; clear hdf
          clear hxy
          go_wp2_with fail
          refine Ord.St.door (fun _ => True) [.fl, .fl, .fl, .rd, .fl, .fl, .fl, .rd, .fl] [0, 0, 3, 7, 0, 0, 48, 112, 255] [0, 1, 2, 3, 4, 5, 6, 7, 8] mixed (by kernel_rfl) rfl ?_
          refine Ord.St.fl2 (T' := ?_) 0 [1, 2, 3, 4, 5, 6, 7, 8] _ _ rfl (by kernel_rfl) rfl rfl rfl rfl (fun K w' hk => ?_) ?_
          rotate_left
          · go_step; exact hk
          refine Ord.St.fl2 (T' := ?_) 1 [2, 3, 4, 5, 6, 7, 8] _ _ rfl (by kernel_rfl) rfl rfl rfl rfl (fun K w' hk => ?_) ?_
          rotate_left
          · go_step; exact hk
          refine Ord.St.fl2 (T' := ?_) 2 [3, 4, 5, 6, 7, 8] _ _ rfl (by kernel_rfl) rfl rfl rfl rfl (fun K w' hk => ?_) ?_
          rotate_left
          · go_step; exact hk
          refine Ord.St.rd2 (T' := ?_) 3 [4, 5, 6, 7, 8] _ _ rfl (by kernel_rfl) rfl rfl rfl rfl (fun K hk => ?_) ?_
          rotate_left
          · go_step; exact hk
          refine Ord.St.fl2 (T' := ?_) 4 [5, 6, 7, 8] _ _ rfl (by kernel_rfl) rfl rfl rfl rfl (fun K w' hk => ?_) ?_
          rotate_left
          · go_step; exact hk
          refine Ord.St.fl2 (T' := ?_) 5 [6, 7, 8] _ _ rfl (by kernel_rfl) rfl rfl rfl rfl (fun K w' hk => ?_) ?_
          rotate_left
          · go_step; exact hk
          refine Ord.St.fl2 (T' := ?_) 6 [7, 8] _ _ rfl (by kernel_rfl) rfl rfl rfl rfl (fun K w' hk => ?_) ?_
          rotate_left
          · go_step; exact hk
          refine Ord.St.rd2 (T' := ?_) 7 [8] _ _ rfl (by kernel_rfl) rfl rfl rfl rfl (fun K hk => ?_) ?_
          rotate_left
          · go_step; exact hk
          refine Ord.St.fl2 (T' := ?_) 8 [] _ _ rfl (by kernel_rfl) rfl rfl rfl rfl (fun K w' hk => ?_) ?_
          rotate_left
          · go_step; exact hk
          refine Ord.St.nil ?_
          go_wp2_with fail
          go_ret
          rw [HDF.out]
          exact ⟨rfl, HC.out.drew⟩
      · have hdt : d = true := by
          rw [← HD.out]
          have h1 := HT.out
          rw [List.take_of_length_le (by omega), List.take_of_length_le (by have := HL.out; omega)] at h1
          exact decide_eq_true h1
        have HDT := Lib.hid hdt; clear hdt
        have HC := Lib.hid hc; clear hc
        go_wp2_with fail
        go_ret
        rw [HDT.out]
        exact ⟨rfl, HC.out⟩
  · have hne : ((xs.length : Int) != (ys.length : Int)) = true := by rw [bne_iff_ne]; omega
    have hd : decide (xs = ys) = false := decide_eq_false fun e => hl (by rw [e])
    rw [hd]
    clear hd
    go_enter Try.func19, Try.ntmps19
    go_wp2_with fail
    go_ret
    exact ⟨rfl, Ch.refl _ _⟩
set_option maxRecDepth 100000 in
set_option maxHeartbeats 1000000 in
theorem EQcls_is {a b : Option Addr} {xs ys : List Int} (ca cb : Nat) (hx : Sl w a xs) (hy : Sl w b ys) :
    Calls Try.prog 79 #[.slice a xs.length ca, .slice b ys.length cb] w fun e w' => e = .returned (.bool (decide (xs = ys))) ∧ Ch [] w w' := by
  have hbx := hx.bd
  have hby := hy.bd
  have HX := Lib.hid hx; clear hx
  have HY := Lib.hid hy; clear hy
  by_cases hl : xs.length = ys.length
  · have hne : ((xs.length : Int) != (ys.length : Int)) = false := by simp [hl]
    generalize hd : decide (xs = ys) = d
    have HD := Lib.hid hd; clear hd
    have HL := Lib.hid hl; clear hl
    go_enter Try.func79, Try.ntmps79
    go_wp2_with fail
    go_loopw [13] (fun i wr => ∃ k : Nat, k ≤ xs.length ∧ i = .int .i64 k ∧ xs.take k = ys.take k ∧ Ch [] w wr) (fun i _ => xs.length - (intOf i).toNat)
    case atStart => exact ⟨0, Nat.zero_le _, rfl, rfl, Ch.refl _ _⟩
    case round =>
      obtain ⟨k, hk, rfl, ht, hc⟩ := hrel
      have HT := Lib.hid ht; clear ht
      by_cases hlt : k < xs.length
      · have hlt2 : k < ys.length := by have := HL.out; omega
        have hxk : xs[k]? = some xs[k] := List.getElem?_eq_getElem hlt
        have hyk : ys[k]? = some ys[k] := List.getElem?_eq_getElem hlt2
        obtain ⟨b1, o1, rfl, c1⟩ := (HX.out.ch hc (by simp)).cells k _ hxk
        obtain ⟨b2, o2, rfl, c2⟩ := (HY.out.ch hc (by simp)).cells k _ hyk
        generalize xs[k] = x at *
        generalize ys[k] = y at *
        have HXK := Lib.hid hxk; clear hxk
        have HYK := Lib.hid hyk; clear hyk
        have HC := Lib.hid hc; clear hc
        by_cases hxy : x = y
        · have hb : (x != y) = false := by simp [hxy]
          have HE := Lib.hid hxy; clear hxy
          go_wp2_with fail
          refine Ord.St.door (fun _ => True) [.fl, .fl, .fl, .rd, .fl, .fl, .fl, .rd, .fl] [0, 0, 3, 7, 0, 0, 48, 112, 255] [0, 1, 2, 3, 4, 5, 6, 7, 8] mixed (by kernel_rfl) rfl ?_
          refine Ord.St.fl2 (T' := ?_) 0 [1, 2, 3, 4, 5, 6, 7, 8] _ _ rfl (by kernel_rfl) rfl rfl rfl rfl (fun K w' hk => ?_) ?_
          rotate_left
          · go_step; exact hk
          refine Ord.St.fl2 (T' := ?_) 1 [2, 3, 4, 5, 6, 7, 8] _ _ rfl (by kernel_rfl) rfl rfl rfl rfl (fun K w' hk => ?_) ?_
          rotate_left
          · go_step; exact hk
          refine Ord.St.fl2 (T' := ?_) 2 [3, 4, 5, 6, 7, 8] _ _ rfl (by kernel_rfl) rfl rfl rfl rfl (fun K w' hk => ?_) ?_
          rotate_left
          · go_step; exact hk
          refine Ord.St.rd2 (T' := ?_) 3 [4, 5, 6, 7, 8] _ _ rfl (by kernel_rfl) rfl rfl rfl rfl (fun K hk => ?_) ?_
          rotate_left
          · go_step; exact hk
          refine Ord.St.fl2 (T' := ?_) 4 [5, 6, 7, 8] _ _ rfl (by kernel_rfl) rfl rfl rfl rfl (fun K w' hk => ?_) ?_
          rotate_left
          · go_step; exact hk
          refine Ord.St.fl2 (T' := ?_) 5 [6, 7, 8] _ _ rfl (by kernel_rfl) rfl rfl rfl rfl (fun K w' hk => ?_) ?_
          rotate_left
          · go_step; exact hk
          refine Ord.St.fl2 (T' := ?_) 6 [7, 8] _ _ rfl (by kernel_rfl) rfl rfl rfl rfl (fun K w' hk => ?_) ?_
          rotate_left
          · go_step; exact hk
          refine Ord.St.rd2 (T' := ?_) 7 [8] _ _ rfl (by kernel_rfl) rfl rfl rfl rfl (fun K hk => ?_) ?_
          rotate_left
          · go_step; exact hk
          refine Ord.St.fl2 (T' := ?_) 8 [] _ _ rfl (by kernel_rfl) rfl rfl rfl rfl (fun K w' hk => ?_) ?_
          rotate_left
          · go_step; exact hk
          refine Ord.St.nil ?_
          go_wp2_with fail
          go_roundw
          case rel => exact ⟨k + 1, by omega, by go_num, take_eq_succ HT.out HXK.out HYK.out HE.out, HC.out.drew⟩
          case measure => simp [intOf]; omega
        · have hb : (x != y) = true := by simp [hxy]
          have hdf : d = false := by
            rw [← HD.out]
            refine decide_eq_false fun e => hxy ?_
            have h1 := HXK.out
            rw [e, HYK.out] at h1
            cases h1; rfl
          have HDF := Lib.hid hdf; clear hdf
          clear hxy
          go_wp2_with fail
          refine Ord.St.door (fun _ => True) [.fl, .fl, .fl, .rd, .fl, .fl, .fl, .rd, .fl] [0, 0, 3, 7, 0, 0, 48, 112, 255] [0, 1, 2, 3, 4, 5, 6, 7, 8] mixed (by kernel_rfl) rfl ?_
          refine Ord.St.fl2 (T' := ?_) 0 [1, 2, 3, 4, 5, 6, 7, 8] _ _ rfl (by kernel_rfl) rfl rfl rfl rfl (fun K w' hk => ?_) ?_
          rotate_left
          · go_step; exact hk
          refine Ord.St.fl2 (T' := ?_) 1 [2, 3, 4, 5, 6, 7, 8] _ _ rfl (by kernel_rfl) rfl rfl rfl rfl (fun K w' hk => ?_) ?_
          rotate_left
          · go_step; exact hk
          refine Ord.St.fl2 (T' := ?_) 2 [3, 4, 5, 6, 7, 8] _ _ rfl (by kernel_rfl) rfl rfl rfl rfl (fun K w' hk => ?_) ?_
          rotate_left
          · go_step; exact hk
          refine Ord.St.rd2 (T' := ?_) 3 [4, 5, 6, 7, 8] _ _ rfl (by kernel_rfl) rfl rfl rfl rfl (fun K hk => ?_) ?_
          rotate_left
          · go_step; exact hk
          refine Ord.St.fl2 (T' := ?_) 4 [5, 6, 7, 8] _ _ rfl (by kernel_rfl) rfl rfl rfl rfl (fun K w' hk => ?_) ?_
          rotate_left
          · go_step; exact hk
          refine Ord.St.fl2 (T' := ?_) 5 [6, 7, 8] _ _ rfl (by kernel_rfl) rfl rfl rfl rfl (fun K w' hk => ?_) ?_
          rotate_left
          · go_step; exact hk
          refine Ord.St.fl2 (T' := ?_) 6 [7, 8] _ _ rfl (by kernel_rfl) rfl rfl rfl rfl (fun K w' hk => ?_) ?_
          rotate_left
          · go_step; exact hk
          refine Ord.St.rd2 (T' := ?_) 7 [8] _ _ rfl (by kernel_rfl) rfl rfl rfl rfl (fun K hk => ?_) ?_
          rotate_left
          · go_step; exact hk
          refine Ord.St.fl2 (T' := ?_) 8 [] _ _ rfl (by kernel_rfl) rfl rfl rfl rfl (fun K w' hk => ?_) ?_
          rotate_left
          · go_step; exact hk
          refine Ord.St.nil ?_
          go_wp2_with fail
          go_ret
          rw [HDF.out]
          exact ⟨rfl, HC.out.drew⟩
      · have hdt : d = true := by
          rw [← HD.out]
          have h1 := HT.out
          rw [List.take_of_length_le (by omega), List.take_of_length_le (by have := HL.out; omega)] at h1
          exact decide_eq_true h1
        have HDT := Lib.hid hdt; clear hdt
        have HC := Lib.hid hc; clear hc
        go_wp2_with fail
        go_ret
        rw [HDT.out]
        exact ⟨rfl, HC.out⟩
  · have hne : ((xs.length : Int) != (ys.length : Int)) = true := by rw [bne_iff_ne]; omega
    have hd : decide (xs = ys) = false := decide_eq_false fun e => hl (by rw [e])
    rw [hd]
    clear hd
    go_enter Try.func79, Try.ntmps79
    go_wp2_with fail
    go_ret
    exact ⟨rfl, Ch.refl _ _⟩
theorem fnvsame271 : Fnv 155 := fnv_of Try.func155 (by simp [Try.f155]) (by simp [Try.f155])
theorem fnvsame2711 : Fnv 157 := fnv_of Try.func157 (by simp [Try.f157]) (by simp [Try.f157])
set_option maxRecDepth 100000 in
theorem same2711_is (x : Int) : Calls Try.prog 157 #[.int .i64 x, .int .i64 x] w fun e w' => e = .returned (.bool true) ∧ w = w' := by
  go_enter Try.func157, Try.ntmps157
  go_wp2_with fail
  go_ret
  exact ⟨ret_bool (by simp), rfl⟩
set_option maxRecDepth 100000 in
set_option maxHeartbeats 1000000 in
theorem EFlit_yes {a b : Option Addr} {xs : List Int} (n ca cb : Nat) (hn : xs.length = n) (hm : n ≤ 1000000) (hA : Sl w a xs) (hB : Sl w b xs) :
    Calls Try.prog 156 #[.slice a n ca, .slice b n cb, .func (.func 157) #[] #[]] w fun e w' => e = .returned (.bool true) ∧ Ch [] w w' := by
  have hcf : ∀ args w, (callFunc 157 args).run Try.prog w = .ok (.enter 157 args) w := fnvsame2711
  have HA := Lib.hid hA; clear hA
  have HB := Lib.hid hB; clear hB
  have HN := Lib.hid hn; clear hn
  go_enter Try.func156, Try.ntmps156
  go_wp2_with fail
  go_loopw [17] (fun i wr => ∃ k : Nat, k ≤ n ∧ i = .int .i64 k ∧ Ch [] w wr) (fun i _ => n - (intOf i).toNat)
  case atStart => exact ⟨0, Nat.zero_le _, rfl, Ch.refl _ _⟩
  case round =>
    obtain ⟨k, hk, rfl, hc⟩ := hrel
    by_cases hlt : k < n
    · obtain ⟨x, hx⟩ : ∃ x, xs[k]? = some x := ⟨_, List.getElem?_eq_getElem (by rw [HN.out]; exact hlt)⟩
      obtain ⟨b1, o1, rfl, c1⟩ := (HA.out.ch hc (by simp)).cells k _ hx
      obtain ⟨b2, o2, rfl, c2⟩ := (HB.out.ch hc (by simp)).cells k _ hx
      have HE := Lib.hid (same2711_is (w := wr) x)
      have HC := Lib.hid hc; clear hc hx
      go_wp2_with fail
      refine HE.out.mono ?_
      rintro e w1 ⟨rfl, rfl⟩
      go_wp2_with fail
      go_roundw
      case rel => exact ⟨k + 1, by omega, by go_num, HC.out⟩
      case measure => simp [intOf]; omega
    · have HC := Lib.hid hc; clear hc
      go_wp2_with fail
      go_ret
      exact ⟨rfl, HC.out⟩
set_option maxRecDepth 100000 in
set_option maxHeartbeats 1000000 in
theorem same271_is {a b : Option Addr} {xs : List Int} (n ca cb : Nat) (hn : xs.length = n) (hm : n ≤ 1000000) (hA : Sl w a xs) (hB : Sl w b xs) :
    Calls Try.prog 155 #[.slice a n ca, .slice b n cb] w fun e w' => e = .returned (.bool true) ∧ Ch [] w w' := by
  have HE := Lib.hid (EFlit_yes n ca cb hn hm hA hB)
  clear hA hB hn
  go_enter Try.func155, Try.ntmps155
  go_wp2_with fail
  refine HE.out.mono ?_
  rintro e w1 ⟨rfl, hc⟩
  have HC := Lib.hid hc; clear hc
  go_wp2_with fail
  go_ret
  exact ⟨rfl, HC.out⟩
set_option maxRecDepth 100000 in
set_option maxHeartbeats 2000000 in
theorem EFcls_yes {a b : Option Addr} {es1 es2 : List Value} {cls : List (List Int)} {O1 O2 : List Nat} (n ca cb : Nat) (hn : cls.length = n) (hm : n ≤ 1000000) (hl : ∀ c ∈ cls, c.length ≤ 1000000) (hA : Sv w a es1) (hB : Sv w b es2) (h1 : ClsIn w O1 es1 cls) (h2 : ClsIn w O2 es2 cls) :
    Calls Try.prog 154 #[.slice a n ca, .slice b n cb, .func (.func 155) #[] #[]] w fun e w' => e = .returned (.bool true) ∧ Ch [] w w' := by
  have hcf : ∀ args w, (callFunc 155 args).run Try.prog w = .ok (.enter 155 args) w := fnvsame271
  have HA := Lib.hid hA; clear hA
  have HB := Lib.hid hB; clear hB
  have H1 := Lib.hid h1; clear h1
  have H2 := Lib.hid h2; clear h2
  have HN := Lib.hid hn; clear hn
  have HL := Lib.hid hl; clear hl
  go_enter Try.func154, Try.ntmps154
  go_wp2_with fail
  go_loopw [17] (fun i wr => ∃ k : Nat, k ≤ n ∧ i = .int .i64 k ∧ Ch [] w wr) (fun i _ => n - (intOf i).toNat)
  case atStart => exact ⟨0, Nat.zero_le _, rfl, Ch.refl _ _⟩
  case round =>
    obtain ⟨k, hk, rfl, hc⟩ := hrel
    by_cases hlt : k < n
    · obtain ⟨c, hx⟩ : ∃ c, cls[k]? = some c := ⟨_, List.getElem?_eq_getElem (by rw [HN.out]; exact hlt)⟩
      have hcl := HL.out c (List.mem_of_getElem? hx)
      obtain ⟨x1, y1, e1, _, _, s1, p1⟩ := H1.out.each k c hx
      obtain ⟨x2, y2, e2, _, _, s2, p2⟩ := H2.out.each k c hx
      obtain ⟨b1, o1, rfl, c1⟩ := (HA.out.ch hc (by simp)).cells k _ e1
      obtain ⟨b2, o2, rfl, c2⟩ := (HB.out.ch hc (by simp)).cells k _ e2
      have HE := Lib.hid (same271_is (w := wr) c.length y1 y2 rfl hcl (s1.chO hc (fun p hp => ⟨(p1 p hp).1, by simp⟩)) (s2.chO hc (fun p hp => ⟨(p2 p hp).1, by simp⟩)))
      have HC := Lib.hid hc; clear hc hx e1 e2 s1 s2 p1 p2
      go_wp2_with fail
      refine HE.out.mono ?_
      rintro e w1 ⟨rfl, hc1⟩
      have HC1 := Lib.hid hc1; clear hc1 HE
      go_wp2_with fail
      go_roundw
      case rel => exact ⟨k + 1, by omega, by go_num, HC.out.trans HC1.out (by simp)⟩
      case measure => simp [intOf]; omega
    · have HC := Lib.hid hc; clear hc
      go_wp2_with fail
      go_ret
      exact ⟨rfl, HC.out⟩
set_option maxRecDepth 100000 in
set_option maxHeartbeats 2000000 in
theorem same27_yes {ca la : Option Addr} {es1 es2 : List Value} {cls : List (List Int)} {O1 O2 : List Nat} (vars : Int) (n cc lc : Nat) (hn : cls.length = n) (hm : n ≤ 1000000) (hl : ∀ c ∈ cls, c.length ≤ 1000000) (hA : Sv w ca es1) (hB : Sv w la es2) (h1 : ClsIn w O1 es1 cls) (h2 : ClsIn w O2 es2 cls) :
    Calls Try.prog 74 #[.agg #[.int .i64 vars, .slice ca n cc], .slice la n lc] w fun e w' => e = .returned (.bool true) ∧ Ch [] w w' := by
  have hE := fun (W : World) (hc : Ch [] w W) => EFcls_yes (w := W) n cc lc hn hm hl (hA.ch hc (by simp)) (hB.ch hc (by simp)) (h1.ch (O' := []) hc (by simp) (by simp)) (h2.ch (O' := []) hc (by simp) (by simp))
  have HE := Lib.hid hE; clear hE hA hB h1 h2 hn hl
  go_enter Try.func74, Try.ntmps74
  go_wp2_with fail
  refine calls_named fun W1 hW1 => ?_
  have hc1 := alw_ch hW1
  clear hW1
  refine (HE.out W1 hc1).mono ?_
  rintro e w1 ⟨rfl, hc⟩
  have HC := Lib.hid (hc1.trans hc (by simp)); clear hc hc1
  go_wp2_with fail
  go_ret
  exact ⟨rfl, HC.out⟩
end
end Go.Proofs.Ytkedpifopclipaa
namespace Go.Aig
def sb27 : Gra := ⟨9, [⟨1, 0, 0, 0⟩, ⟨2, 0, 0, 0⟩, ⟨2, 0, 0, 0⟩, ⟨3, 2, 4, 1⟩]⟩
theorem m27a : mapN sb27.nodes [6] = [1, 2, 3] := by decide +kernel
theorem m27b : mapN sb27.nodes [7] = [1, 2, 3] := by decide +kernel
theorem m27c : mapN sb27.nodes [2, 1] = [1] := by decide +kernel
theorem m27d : mapN sb27.nodes [0] = [] := by decide +kernel
theorem c27a : clsOf sb27.nodes (natInts [1, 2, 3]) (natInts [6]) = [[-3, 1], [-3, 2], [3, -1, -2], [3]] := by decide +kernel
theorem c27b : clsOf sb27.nodes (natInts [1, 2, 3]) (natInts [7]) = [[-3, 1], [-3, 2], [3, -1, -2], [-3]] := by decide +kernel
theorem c27c : clsOf sb27.nodes (natInts [1]) (natInts [2, 1]) = [[1]] := by decide +kernel
theorem c27d : clsOf sb27.nodes (natInts []) (natInts [0]) = [[]] := by decide +kernel
end Go.Aig
namespace Go.Proofs.Ytkedpifopclipaa
open Go.RowKit Go.Mem Go.Aig
/-- a formula in a block -/
structure FBox (w : World) (b : Nat) (vars : Nat) (ca : Option Addr) (n cc : Nat) (cls : List (List Int)) : Prop where
  box : blk w b [.int .i64 vars, .slice ca n cc]
  len : cls.length = n
  ex : ∃ es, Sv w ca es ∧ ClsIn w [] es cls
theorem FBox.ch {w w' : World} {b vars n cc : Nat} {ca : Option Addr} {cls : List (List Int)} (h : FBox w b vars ca n cc cls) (hc : Ch [] w w') : FBox w' b vars ca n cc cls :=
  ⟨h.box.ch hc (by simp), h.len, h.ex.imp fun es ⟨h1, h2⟩ => ⟨h1.ch hc (by simp), h2.ch hc (by simp) (by simp)⟩⟩
theorem ForIn.box {w w' W : World} {ca : Option Addr} {n cc : Nat} {cls : List (List Int)} (h : ForIn w w' (.slice ca n cc) cls) (hn : cls.length = n) (hm : n ≤ 1000000) {vars : Nat} (hW : W = w'.alloc (.cells #[.int .i64 vars, .slice ca n cc] 36)) : FBox W w'.heap.size vars ca n cc cls := by
  obtain ⟨es, h1, h2⟩ := h.ex
  have hc : Ch [] w' W := alw_ch hW
  exact ⟨alw_blk (xs := [.int .i64 vars, .slice ca n cc]) hW, hn, es, (row.sv h1 rfl (by omega)).ch hc (by simp), h2.ch hc (by simp) (by simp)⟩
theorem ClsIn.nil (w : World) : ClsIn w [] [] [] := ⟨rfl, by simp⟩
theorem ClsIn.add {w : World} {es : List Value} {cls : List (List Int)} (h : ClsIn w [] es cls) {b : Nat} {c : List Int} (hb : blk w b (intCells c)) (hn : c.length ≤ 1000000) : ClsIn w [] (es ++ [.slice (some ⟨b, 0, none⟩) c.length c.length]) (cls ++ [c]) :=
  h.snoc (Nat.le_refl _) (by omega) (Sl.of_blk hb hn) (fun p hp => by cases hp; exact ⟨hb.lt, by simp⟩)
theorem Sv.of_blk {w : World} {b : Nat} {xs : List Value} (h : blk w b xs) (hn : xs.length ≤ 1000000) : Sv w (some ⟨b, 0, none⟩) xs :=
  ⟨fun i x hx => ⟨b, 0, rfl, by rw [Nat.zero_add]; exact h.cell hx⟩, by omega⟩
section
set_option maxRecDepth 100000 in
set_option maxHeartbeats 8000000 in
theorem awake27_is (w : World) : Calls Try.prog 14 #[] w fun e w' => e = .returned (.bool true) ∧ Ch [] w w' := by
  have HN := Lib.hid (New_yes (w := w) 9 (by decide) (by decide))
  go_enter Try.func14, Try.ntmps14
  go_wp2_with fail
  refine HN.out.mono ?_
  rintro e w1 ⟨g, F1, rfl, hg, hF, hc⟩
  have hown : Own w w1 g (gIn 9 0) F1 := ⟨hg, hF, hc⟩
  clear hg hF hc HN
  have HO := Lib.hid hown; clear hown
  have hI := Input_g HO.out.gin
  rw [show doInput (gIn 9 0) = (gIn 9 1, 2, 0) from rfl] at hI
  go_wp2_with fail
  refine hI.mono ?_
  rintro e w2 ⟨rfl, hto⟩
  obtain ⟨F2, ho⟩ := HO.out.to hto
  clear HO hto hI; have HO := Lib.hid ho; clear ho
  have hI := Input_g HO.out.gin
  rw [show doInput (gIn 9 1) = (gIn 9 2, 4, 0) from rfl] at hI
  go_wp2_with fail
  refine hI.mono ?_
  rintro e w3 ⟨rfl, hto⟩
  obtain ⟨F3, ho⟩ := HO.out.to hto
  clear HO hto hI; have HO := Lib.hid ho; clear ho
  have hA := And_g HO.out.gin 2 4 (by decide) (by decide)
  rw [show doAnd (gIn 9 2) 2 4 = (sb27, 6, 0) by kernel_rfl] at hA
  go_wp2_with fail
  refine hA.mono ?_
  rintro e w4 ⟨rfl, hto⟩
  obtain ⟨F, ho⟩ := HO.out.to hto
  clear HO hto hA
  have HCW := Lib.hid ho.ch
  have HG := Lib.hid ho.gin; clear ho
  have HC := Lib.hid (Ch.refl [] w4)
  go_wp2_with fail
  refine calls_named fun WA hWA => ?_
  have hlb := alw_blk (xs := [.int .i64 6]) hWA
  have hca := alw_ch hWA
  have hcc := HC.out.trans hca (by simp); clear HC; have HC := Lib.hid hcc; clear hcc
  clear hWA hca
  have hE := tsEncode_yes (HG.out.same HC.out (by simp)) (l := [6]) 1 1 rfl (by decide) (Sl.of_blk hlb (by simp [natInts])) (fun p hp => by cases hp; exact hlb.lt) (by decide) 3 (by decide) (by decide) (by rw [m27a]; decide)
  rw [m27a, c27a] at hE
  have HE := Lib.hid hE; clear hE hlb
  refine HE.out.mono ?_
  rintro e WB ⟨cv, mv, rfl, hfor, hrm, _, hcb⟩
  obtain ⟨c1a, c1c, rfl⟩ := row.shape hfor.ex.choose_spec.1
  obtain ⟨m1a, m1c, rfl⟩ := row.shape hrm
  have hcc := HC.out.trans hcb (by simp); clear HC; have HC := Lib.hid hcc; clear hcc
  clear hcb HE
  have HM1 := Lib.hid hrm; clear hrm
  have HFO := Lib.hid hfor; clear hfor
  go_upto_region 8 with fail
  refine wp_alw ?_
  intro WD hWD
  have hfb := HFO.out.box (vars := 3) (n := 4) rfl (by decide) hWD
  have hcd := alw_ch hWD
  have hq2 := HM1.out.ch hcd (by simp); clear HM1; have HM1 := Lib.hid hq2; clear hq2
  have hcc := HC.out.trans hcd (by simp); clear HC; have HC := Lib.hid hcc; clear hcc
  clear hWD hcd HFO
  generalize WB.heap.size = b1 at *
  have FB1 := Lib.hid hfb; clear hfb
  go_wp2_with fail
  refine calls_named fun WA hWA => ?_
  have hlb := alw_blk (xs := [.int .i64 1, .int .i64 2, .int .i64 3]) hWA
  have hca := alw_ch hWA
  have hq2 := HM1.out.ch hca (by simp); clear HM1; have HM1 := Lib.hid hq2; clear hq2
  have hq2 := FB1.out.ch hca; clear FB1; have FB1 := Lib.hid hq2; clear hq2
  have hcc := HC.out.trans hca (by simp); clear HC; have HC := Lib.hid hcc; clear hcc
  clear hWA hca
  have hE := EQmap_is (xs := natInts [1, 2, 3]) (ys := [1, 2, 3]) m1c 3 (Sl.of_ints HM1.out (by decide)) (Sl.of_blk hlb (by decide))
  rw [show decide (natInts [1, 2, 3] = ([1, 2, 3] : List Int)) = true by decide] at hE
  have HE := Lib.hid hE; clear hE hlb
  refine HE.out.mono ?_
  rintro e WB0 ⟨rfl, hcb⟩
  have hq2 := HM1.out.ch hcb (by simp); clear HM1; have HM1 := Lib.hid hq2; clear hq2
  have hq2 := FB1.out.ch hcb; clear FB1; have FB1 := Lib.hid hq2; clear hq2
  have hcc := HC.out.trans hcb (by simp); clear HC; have HC := Lib.hid hcc; clear hcc
  clear hcb HE
  have x10 := FB1.out.box.cell (i := 0) rfl
  have x11 := FB1.out.box.cell (i := 1) rfl
  go_wp2_with fail
  clear x10 x11
  refine calls_named fun WA hWA => ?_
  have hca : Ch [] WB0 WA := by rw [hWA]; exact (((((Ch.refl _ _).alloc _).alloc _).alloc _).alloc _).alloc _
  have k0 : blk WA (WB0.heap.size) (intCells [-3, 1]) := by rw [hWA]; exact ((((blk.new' _ _ (by simp)).alloc _).alloc _).alloc _).alloc _
  have k1 : blk WA (WB0.heap.size + 1) (intCells [-3, 2]) := by rw [hWA]; exact (((blk.new' _ _ (by simp)).alloc _).alloc _).alloc _
  have k2 : blk WA (WB0.heap.size + 1 + 1) (intCells [3, -1, -2]) := by rw [hWA]; exact ((blk.new' _ _ (by simp)).alloc _).alloc _
  have k3 : blk WA (WB0.heap.size + 1 + 1 + 1) (intCells [3]) := by rw [hWA]; exact (blk.new' _ _ (by simp)).alloc _
  have ko : blk WA (WB0.heap.size + 1 + 1 + 1 + 1) [.slice (some ⟨WB0.heap.size, 0, none⟩) 2 2, .slice (some ⟨WB0.heap.size + 1, 0, none⟩) 2 2, .slice (some ⟨WB0.heap.size + 1 + 1, 0, none⟩) 3 3, .slice (some ⟨WB0.heap.size + 1 + 1 + 1, 0, none⟩) 1 1] := by rw [hWA]; exact blk.new' _ _ (by simp)
  have hcls : ClsIn WA [] [.slice (some ⟨WB0.heap.size, 0, none⟩) 2 2, .slice (some ⟨WB0.heap.size + 1, 0, none⟩) 2 2, .slice (some ⟨WB0.heap.size + 1 + 1, 0, none⟩) 3 3, .slice (some ⟨WB0.heap.size + 1 + 1 + 1, 0, none⟩) 1 1] [[-3, 1], [-3, 2], [3, -1, -2], [3]] := ((((ClsIn.nil WA).add k0 (by decide)).add k1 (by decide)).add k2 (by decide)).add k3 (by decide)
  have hq2 := HM1.out.ch hca (by simp); clear HM1; have HM1 := Lib.hid hq2; clear hq2
  have hq2 := FB1.out.ch hca; clear FB1; have FB1 := Lib.hid hq2; clear hq2
  have hcc := HC.out.trans hca (by simp); clear HC; have HC := Lib.hid hcc; clear hcc
  clear hWA hca
  obtain ⟨es1, hs1, hd1⟩ := FB1.out.ex
  have hE := same27_yes 3 4 c1c 4 rfl (by decide) (by decide) hs1 (Sv.of_blk ko (by simp)) hd1 hcls
  have HE := Lib.hid hE; clear hE hs1 hd1 hcls ko k0 k1 k2 k3
  refine HE.out.mono ?_
  rintro e WB1 ⟨rfl, hcb⟩
  have hq2 := HM1.out.ch hcb (by simp); clear HM1; have HM1 := Lib.hid hq2; clear hq2
  have hq2 := FB1.out.ch hcb; clear FB1; have FB1 := Lib.hid hq2; clear hq2
  have hcc := HC.out.trans hcb (by simp); clear HC; have HC := Lib.hid hcc; clear hcc
  clear hcb HE
  go_wp2_with fail
  refine calls_named fun WA hWA => ?_
  have hlb := alw_blk (xs := [.int .i64 7]) hWA
  have hca := alw_ch hWA
  have hq2 := HM1.out.ch hca (by simp); clear HM1; have HM1 := Lib.hid hq2; clear hq2
  have hq2 := FB1.out.ch hca; clear FB1; have FB1 := Lib.hid hq2; clear hq2
  have hcc := HC.out.trans hca (by simp); clear HC; have HC := Lib.hid hcc; clear hcc
  clear hWA hca
  have hE := tsEncode_yes (HG.out.same HC.out (by simp)) (l := [7]) 1 1 rfl (by decide) (Sl.of_blk hlb (by simp [natInts])) (fun p hp => by cases hp; exact hlb.lt) (by decide) 3 (by decide) (by decide) (by rw [m27b]; decide)
  rw [m27b, c27b] at hE
  have HE := Lib.hid hE; clear hE hlb
  refine HE.out.mono ?_
  rintro e WB ⟨cv, mv, rfl, hfor, hrm, _, hcb⟩
  obtain ⟨c2a, c2c, rfl⟩ := row.shape hfor.ex.choose_spec.1
  obtain ⟨m2a, m2c, rfl⟩ := row.shape hrm
  have hq2 := HM1.out.ch hcb (by simp); clear HM1; have HM1 := Lib.hid hq2; clear hq2
  have hq2 := FB1.out.ch hcb; clear FB1; have FB1 := Lib.hid hq2; clear hq2
  have hcc := HC.out.trans hcb (by simp); clear HC; have HC := Lib.hid hcc; clear hcc
  clear hcb HE
  have HM2 := Lib.hid hrm; clear hrm
  have HFO := Lib.hid hfor; clear hfor
  go_upto_region 11 with fail
  refine wp_alw ?_
  intro WD hWD
  have hfb := HFO.out.box (vars := 3) (n := 4) rfl (by decide) hWD
  have hcd := alw_ch hWD
  have hq2 := HM1.out.ch hcd (by simp); clear HM1; have HM1 := Lib.hid hq2; clear hq2
  have hq2 := FB1.out.ch hcd; clear FB1; have FB1 := Lib.hid hq2; clear hq2
  have hq2 := HM2.out.ch hcd (by simp); clear HM2; have HM2 := Lib.hid hq2; clear hq2
  have hcc := HC.out.trans hcd (by simp); clear HC; have HC := Lib.hid hcc; clear hcc
  clear hWD hcd HFO
  generalize WB.heap.size = b2 at *
  have FB2 := Lib.hid hfb; clear hfb
  go_wp2_with fail
  refine calls_named fun WA hWA => ?_
  have hlb := alw_blk (xs := [.int .i64 2, .int .i64 1]) hWA
  have hca := alw_ch hWA
  have hq2 := HM1.out.ch hca (by simp); clear HM1; have HM1 := Lib.hid hq2; clear hq2
  have hq2 := FB1.out.ch hca; clear FB1; have FB1 := Lib.hid hq2; clear hq2
  have hq2 := HM2.out.ch hca (by simp); clear HM2; have HM2 := Lib.hid hq2; clear hq2
  have hq2 := FB2.out.ch hca; clear FB2; have FB2 := Lib.hid hq2; clear hq2
  have hcc := HC.out.trans hca (by simp); clear HC; have HC := Lib.hid hcc; clear hcc
  clear hWA hca
  have hE := tsEncode_yes (HG.out.same HC.out (by simp)) (l := [2, 1]) 2 2 rfl (by decide) (Sl.of_blk hlb (by simp [natInts])) (fun p hp => by cases hp; exact hlb.lt) (by decide) 3 (by decide) (by decide) (by rw [m27c]; decide)
  rw [m27c, c27c] at hE
  have HE := Lib.hid hE; clear hE hlb
  refine HE.out.mono ?_
  rintro e WB ⟨cv, mv, rfl, hfor, hrm, _, hcb⟩
  obtain ⟨c3a, c3c, rfl⟩ := row.shape hfor.ex.choose_spec.1
  obtain ⟨m3a, m3c, rfl⟩ := row.shape hrm
  have hq2 := HM1.out.ch hcb (by simp); clear HM1; have HM1 := Lib.hid hq2; clear hq2
  have hq2 := FB1.out.ch hcb; clear FB1; have FB1 := Lib.hid hq2; clear hq2
  have hq2 := HM2.out.ch hcb (by simp); clear HM2; have HM2 := Lib.hid hq2; clear hq2
  have hq2 := FB2.out.ch hcb; clear FB2; have FB2 := Lib.hid hq2; clear hq2
  have hcc := HC.out.trans hcb (by simp); clear HC; have HC := Lib.hid hcc; clear hcc
  clear hcb HE
  have HM3 := Lib.hid hrm; clear hrm
  have HFO := Lib.hid hfor; clear hfor
  go_upto_region 12 with fail
  refine wp_alw ?_
  intro WD hWD
  have hfb := HFO.out.box (vars := 1) (n := 1) rfl (by decide) hWD
  have hcd := alw_ch hWD
  have hq2 := HM1.out.ch hcd (by simp); clear HM1; have HM1 := Lib.hid hq2; clear hq2
  have hq2 := FB1.out.ch hcd; clear FB1; have FB1 := Lib.hid hq2; clear hq2
  have hq2 := HM2.out.ch hcd (by simp); clear HM2; have HM2 := Lib.hid hq2; clear hq2
  have hq2 := FB2.out.ch hcd; clear FB2; have FB2 := Lib.hid hq2; clear hq2
  have hq2 := HM3.out.ch hcd (by simp); clear HM3; have HM3 := Lib.hid hq2; clear hq2
  have hcc := HC.out.trans hcd (by simp); clear HC; have HC := Lib.hid hcc; clear hcc
  clear hWD hcd HFO
  generalize WB.heap.size = b3 at *
  have FB3 := Lib.hid hfb; clear hfb
  go_wp2_with fail
  refine calls_named fun WA hWA => ?_
  have hlb := alw_blk (xs := [.int .i64 0]) hWA
  have hca := alw_ch hWA
  have hq2 := HM1.out.ch hca (by simp); clear HM1; have HM1 := Lib.hid hq2; clear hq2
  have hq2 := FB1.out.ch hca; clear FB1; have FB1 := Lib.hid hq2; clear hq2
  have hq2 := HM2.out.ch hca (by simp); clear HM2; have HM2 := Lib.hid hq2; clear hq2
  have hq2 := FB2.out.ch hca; clear FB2; have FB2 := Lib.hid hq2; clear hq2
  have hq2 := HM3.out.ch hca (by simp); clear HM3; have HM3 := Lib.hid hq2; clear hq2
  have hq2 := FB3.out.ch hca; clear FB3; have FB3 := Lib.hid hq2; clear hq2
  have hcc := HC.out.trans hca (by simp); clear HC; have HC := Lib.hid hcc; clear hcc
  clear hWA hca
  have hE := tsEncode_yes (HG.out.same HC.out (by simp)) (l := [0]) 1 1 rfl (by decide) (Sl.of_blk hlb (by simp [natInts])) (fun p hp => by cases hp; exact hlb.lt) (by decide) 3 (by decide) (by decide) (by rw [m27d]; decide)
  rw [m27d, c27d] at hE
  have HE := Lib.hid hE; clear hE hlb
  refine HE.out.mono ?_
  rintro e WB ⟨cv, mv, rfl, hfor, hrm, _, hcb⟩
  obtain ⟨c4a, c4c, rfl⟩ := row.shape hfor.ex.choose_spec.1
  obtain ⟨m4a, m4c, rfl⟩ := row.shape hrm
  have hq2 := HM1.out.ch hcb (by simp); clear HM1; have HM1 := Lib.hid hq2; clear hq2
  have hq2 := FB1.out.ch hcb; clear FB1; have FB1 := Lib.hid hq2; clear hq2
  have hq2 := HM2.out.ch hcb (by simp); clear HM2; have HM2 := Lib.hid hq2; clear hq2
  have hq2 := FB2.out.ch hcb; clear FB2; have FB2 := Lib.hid hq2; clear hq2
  have hq2 := HM3.out.ch hcb (by simp); clear HM3; have HM3 := Lib.hid hq2; clear hq2
  have hq2 := FB3.out.ch hcb; clear FB3; have FB3 := Lib.hid hq2; clear hq2
  have hcc := HC.out.trans hcb (by simp); clear HC; have HC := Lib.hid hcc; clear hcc
  clear hcb HE
  have HM4 := Lib.hid hrm; clear hrm
  have HFO := Lib.hid hfor; clear hfor
  go_upto_region 13 with fail
  refine wp_alw ?_
  intro WD hWD
  have hfb := HFO.out.box (vars := 0) (n := 1) rfl (by decide) hWD
  have hcd := alw_ch hWD
  have hq2 := HM1.out.ch hcd (by simp); clear HM1; have HM1 := Lib.hid hq2; clear hq2
  have hq2 := FB1.out.ch hcd; clear FB1; have FB1 := Lib.hid hq2; clear hq2
  have hq2 := HM2.out.ch hcd (by simp); clear HM2; have HM2 := Lib.hid hq2; clear hq2
  have hq2 := FB2.out.ch hcd; clear FB2; have FB2 := Lib.hid hq2; clear hq2
  have hq2 := HM3.out.ch hcd (by simp); clear HM3; have HM3 := Lib.hid hq2; clear hq2
  have hq2 := FB3.out.ch hcd; clear FB3; have FB3 := Lib.hid hq2; clear hq2
  have hq2 := HM4.out.ch hcd (by simp); clear HM4; have HM4 := Lib.hid hq2; clear hq2
  have hcc := HC.out.trans hcd (by simp); clear HC; have HC := Lib.hid hcc; clear hcc
  clear hWD hcd HFO
  generalize WB.heap.size = b4 at *
  have FB4 := Lib.hid hfb; clear hfb
  have hL := tsLit_is (m := natInts [1, 2, 3]) 3 m1c rfl (by decide) (Sl.of_ints HM1.out (by decide)) 7 (by decide)
  rw [show litF (natInts [1, 2, 3]) 7 = -3 by decide] at hL
  go_wp2_with fail
  refine hL.mono ?_
  rintro e w' ⟨rfl, rfl⟩
  clear hL
  have hL := tsRef_is (m := natInts [1, 2, 3]) 3 m1c rfl (by decide) (Sl.of_ints HM1.out (by decide)) (-1) (by decide)
  rw [show refF (natInts [1, 2, 3]) (-1) = 3 by decide] at hL
  go_wp2_with fail
  refine hL.mono ?_
  rintro e w' ⟨rfl, rfl⟩
  clear hL
  obtain ⟨es2, hs2, hd2⟩ := FB2.out.ex
  obtain ⟨q2a, q2c, e2, _, _, hs3, hp3⟩ := hd2.each 3 [-3] rfl
  obtain ⟨h2b, h2o, h2e, h2c⟩ := hs2.cells 3 _ e2
  subst h2e
  have hqa : ∀ p, q2a = some p → p.block < WD.heap.size := fun p hp => (hp3 p hp).1
  clear hs2 hd2 e2 hp3
  have x20 := FB2.out.box.cell (i := 0) rfl
  have x21 := FB2.out.box.cell (i := 1) rfl
  go_wp2_with fail
  clear x20 x21
  clear h2c
  refine calls_named fun WA hWA => ?_
  have hlb := alw_blk (xs := [.int .i64 (-3)]) hWA
  have hca := alw_ch hWA
  have hs3 := hs3.ch hca (by simp)
  have hq2 := HM1.out.ch hca (by simp); clear HM1; have HM1 := Lib.hid hq2; clear hq2
  have hq2 := FB1.out.ch hca; clear FB1; have FB1 := Lib.hid hq2; clear hq2
  have hq2 := HM2.out.ch hca (by simp); clear HM2; have HM2 := Lib.hid hq2; clear hq2
  have hq2 := FB2.out.ch hca; clear FB2; have FB2 := Lib.hid hq2; clear hq2
  have hq2 := HM3.out.ch hca (by simp); clear HM3; have HM3 := Lib.hid hq2; clear hq2
  have hq2 := FB3.out.ch hca; clear FB3; have FB3 := Lib.hid hq2; clear hq2
  have hq2 := HM4.out.ch hca (by simp); clear HM4; have HM4 := Lib.hid hq2; clear hq2
  have hq2 := FB4.out.ch hca; clear FB4; have FB4 := Lib.hid hq2; clear hq2
  have hcc := HC.out.trans hca (by simp); clear HC; have HC := Lib.hid hcc; clear hcc
  clear hWA hca hqa
  have hE := EQcls_is (xs := [-3]) (ys := [-3]) q2c 1 hs3 (Sl.of_blk hlb (by decide))
  rw [show decide (([-3] : List Int) = [-3]) = true by decide] at hE
  have HE := Lib.hid hE; clear hE hlb hs3
  refine HE.out.mono ?_
  rintro e WBx ⟨rfl, hcb⟩
  have hq2 := HM1.out.ch hcb (by simp); clear HM1; have HM1 := Lib.hid hq2; clear hq2
  have hq2 := FB1.out.ch hcb; clear FB1; have FB1 := Lib.hid hq2; clear hq2
  have hq2 := HM2.out.ch hcb (by simp); clear HM2; have HM2 := Lib.hid hq2; clear hq2
  have hq2 := FB2.out.ch hcb; clear FB2; have FB2 := Lib.hid hq2; clear hq2
  have hq2 := HM3.out.ch hcb (by simp); clear HM3; have HM3 := Lib.hid hq2; clear hq2
  have hq2 := FB3.out.ch hcb; clear FB3; have FB3 := Lib.hid hq2; clear hq2
  have hq2 := HM4.out.ch hcb (by simp); clear HM4; have HM4 := Lib.hid hq2; clear hq2
  have hq2 := FB4.out.ch hcb; clear FB4; have FB4 := Lib.hid hq2; clear hq2
  have hcc := HC.out.trans hcb (by simp); clear HC; have HC := Lib.hid hcc; clear hcc
  clear hcb HE
  go_wp2_with fail
  refine calls_named fun WA hWA => ?_
  have hlb := alw_blk (xs := [.int .i64 1]) hWA
  have hca := alw_ch hWA
  have hq2 := HM1.out.ch hca (by simp); clear HM1; have HM1 := Lib.hid hq2; clear hq2
  have hq2 := FB1.out.ch hca; clear FB1; have FB1 := Lib.hid hq2; clear hq2
  have hq2 := HM2.out.ch hca (by simp); clear HM2; have HM2 := Lib.hid hq2; clear hq2
  have hq2 := FB2.out.ch hca; clear FB2; have FB2 := Lib.hid hq2; clear hq2
  have hq2 := HM3.out.ch hca (by simp); clear HM3; have HM3 := Lib.hid hq2; clear hq2
  have hq2 := FB3.out.ch hca; clear FB3; have FB3 := Lib.hid hq2; clear hq2
  have hq2 := HM4.out.ch hca (by simp); clear HM4; have HM4 := Lib.hid hq2; clear hq2
  have hq2 := FB4.out.ch hca; clear FB4; have FB4 := Lib.hid hq2; clear hq2
  have hcc := HC.out.trans hca (by simp); clear HC; have HC := Lib.hid hcc; clear hcc
  clear hWA hca
  have hE := EQmap_is (xs := natInts [1]) (ys := [1]) m3c 1 (Sl.of_ints HM3.out (by decide)) (Sl.of_blk hlb (by decide))
  rw [show decide (natInts [1] = ([1] : List Int)) = true by decide] at hE
  have HE := Lib.hid hE; clear hE hlb
  refine HE.out.mono ?_
  rintro e WB2 ⟨rfl, hcb⟩
  have hq2 := HM1.out.ch hcb (by simp); clear HM1; have HM1 := Lib.hid hq2; clear hq2
  have hq2 := FB1.out.ch hcb; clear FB1; have FB1 := Lib.hid hq2; clear hq2
  have hq2 := HM2.out.ch hcb (by simp); clear HM2; have HM2 := Lib.hid hq2; clear hq2
  have hq2 := FB2.out.ch hcb; clear FB2; have FB2 := Lib.hid hq2; clear hq2
  have hq2 := HM3.out.ch hcb (by simp); clear HM3; have HM3 := Lib.hid hq2; clear hq2
  have hq2 := FB3.out.ch hcb; clear FB3; have FB3 := Lib.hid hq2; clear hq2
  have hq2 := HM4.out.ch hcb (by simp); clear HM4; have HM4 := Lib.hid hq2; clear hq2
  have hq2 := FB4.out.ch hcb; clear FB4; have FB4 := Lib.hid hq2; clear hq2
  have hcc := HC.out.trans hcb (by simp); clear HC; have HC := Lib.hid hcc; clear hcc
  clear hcb HE
  have x30 := FB3.out.box.cell (i := 0) rfl
  have x31 := FB3.out.box.cell (i := 1) rfl
  go_wp2_with fail
  clear x30 x31
  refine calls_named fun WA hWA => ?_
  have hca : Ch [] WB2 WA := by rw [hWA]; exact ((Ch.refl _ _).alloc _).alloc _
  have k0 : blk WA (WB2.heap.size) (intCells [1]) := by rw [hWA]; exact (blk.new' _ _ (by simp)).alloc _
  have ko : blk WA (WB2.heap.size + 1) [.slice (some ⟨WB2.heap.size, 0, none⟩) 1 1] := by rw [hWA]; exact blk.new' _ _ (by simp)
  have hcls : ClsIn WA [] [.slice (some ⟨WB2.heap.size, 0, none⟩) 1 1] [[1]] := (ClsIn.nil WA).add k0 (by decide)
  have hq2 := HM1.out.ch hca (by simp); clear HM1; have HM1 := Lib.hid hq2; clear hq2
  have hq2 := FB1.out.ch hca; clear FB1; have FB1 := Lib.hid hq2; clear hq2
  have hq2 := HM2.out.ch hca (by simp); clear HM2; have HM2 := Lib.hid hq2; clear hq2
  have hq2 := FB2.out.ch hca; clear FB2; have FB2 := Lib.hid hq2; clear hq2
  have hq2 := HM3.out.ch hca (by simp); clear HM3; have HM3 := Lib.hid hq2; clear hq2
  have hq2 := FB3.out.ch hca; clear FB3; have FB3 := Lib.hid hq2; clear hq2
  have hq2 := HM4.out.ch hca (by simp); clear HM4; have HM4 := Lib.hid hq2; clear hq2
  have hq2 := FB4.out.ch hca; clear FB4; have FB4 := Lib.hid hq2; clear hq2
  have hcc := HC.out.trans hca (by simp); clear HC; have HC := Lib.hid hcc; clear hcc
  clear hWA hca
  obtain ⟨es1, hs1, hd1⟩ := FB3.out.ex
  have hE := same27_yes 1 1 c3c 1 rfl (by decide) (by decide) hs1 (Sv.of_blk ko (by simp)) hd1 hcls
  have HE := Lib.hid hE; clear hE hs1 hd1 hcls ko k0
  refine HE.out.mono ?_
  rintro e WB3 ⟨rfl, hcb⟩
  have hq2 := HM1.out.ch hcb (by simp); clear HM1; have HM1 := Lib.hid hq2; clear hq2
  have hq2 := FB1.out.ch hcb; clear FB1; have FB1 := Lib.hid hq2; clear hq2
  have hq2 := HM2.out.ch hcb (by simp); clear HM2; have HM2 := Lib.hid hq2; clear hq2
  have hq2 := FB2.out.ch hcb; clear FB2; have FB2 := Lib.hid hq2; clear hq2
  have hq2 := HM3.out.ch hcb (by simp); clear HM3; have HM3 := Lib.hid hq2; clear hq2
  have hq2 := FB3.out.ch hcb; clear FB3; have FB3 := Lib.hid hq2; clear hq2
  have hq2 := HM4.out.ch hcb (by simp); clear HM4; have HM4 := Lib.hid hq2; clear hq2
  have hq2 := FB4.out.ch hcb; clear FB4; have FB4 := Lib.hid hq2; clear hq2
  have hcc := HC.out.trans hcb (by simp); clear HC; have HC := Lib.hid hcc; clear hcc
  clear hcb HE
  have x40 := FB4.out.box.cell (i := 0) rfl
  have x41 := FB4.out.box.cell (i := 1) rfl
  go_wp2_with fail
  clear x40 x41
  refine calls_named fun WA hWA => ?_
  have hca : Ch [] WB3 WA := by rw [hWA]; exact ((Ch.refl _ _).alloc _).alloc _
  have k0 : blk WA (WB3.heap.size) (intCells []) := by rw [hWA]; exact (blk.new' _ _ (by simp)).alloc _
  have ko : blk WA (WB3.heap.size + 1) [.slice (some ⟨WB3.heap.size, 0, none⟩) 0 0] := by rw [hWA]; exact blk.new' _ _ (by simp)
  have hcls : ClsIn WA [] [.slice (some ⟨WB3.heap.size, 0, none⟩) 0 0] [[]] := (ClsIn.nil WA).add k0 (by decide)
  have hq2 := HM1.out.ch hca (by simp); clear HM1; have HM1 := Lib.hid hq2; clear hq2
  have hq2 := FB1.out.ch hca; clear FB1; have FB1 := Lib.hid hq2; clear hq2
  have hq2 := HM2.out.ch hca (by simp); clear HM2; have HM2 := Lib.hid hq2; clear hq2
  have hq2 := FB2.out.ch hca; clear FB2; have FB2 := Lib.hid hq2; clear hq2
  have hq2 := HM3.out.ch hca (by simp); clear HM3; have HM3 := Lib.hid hq2; clear hq2
  have hq2 := FB3.out.ch hca; clear FB3; have FB3 := Lib.hid hq2; clear hq2
  have hq2 := HM4.out.ch hca (by simp); clear HM4; have HM4 := Lib.hid hq2; clear hq2
  have hq2 := FB4.out.ch hca; clear FB4; have FB4 := Lib.hid hq2; clear hq2
  have hcc := HC.out.trans hca (by simp); clear HC; have HC := Lib.hid hcc; clear hcc
  clear hWA hca
  obtain ⟨es1, hs1, hd1⟩ := FB4.out.ex
  have hE := same27_yes 0 1 c4c 1 rfl (by decide) (by decide) hs1 (Sv.of_blk ko (by simp)) hd1 hcls
  have HE := Lib.hid hE; clear hE hs1 hd1 hcls ko k0
  refine HE.out.mono ?_
  rintro e WB4 ⟨rfl, hcb⟩
  have hq2 := HM1.out.ch hcb (by simp); clear HM1; have HM1 := Lib.hid hq2; clear hq2
  have hq2 := FB1.out.ch hcb; clear FB1; have FB1 := Lib.hid hq2; clear hq2
  have hq2 := HM2.out.ch hcb (by simp); clear HM2; have HM2 := Lib.hid hq2; clear hq2
  have hq2 := FB2.out.ch hcb; clear FB2; have FB2 := Lib.hid hq2; clear hq2
  have hq2 := HM3.out.ch hcb (by simp); clear HM3; have HM3 := Lib.hid hq2; clear hq2
  have hq2 := FB3.out.ch hcb; clear FB3; have FB3 := Lib.hid hq2; clear hq2
  have hq2 := HM4.out.ch hcb (by simp); clear HM4; have HM4 := Lib.hid hq2; clear hq2
  have hq2 := FB4.out.ch hcb; clear FB4; have FB4 := Lib.hid hq2; clear hq2
  have hcc := HC.out.trans hcb (by simp); clear HC; have HC := Lib.hid hcc; clear hcc
  clear hcb HE
  go_wp2_with fail
  go_ret
  exact ⟨rfl, HCW.out.trans HC.out (by simp)⟩
end
end Go.Proofs.Ytkedpifopclipaa
namespace Go.Aig
theorem natAbs_le {m : List Int} {r : Int} (hp : m.Pairwise (fun a b => a < b)) : (litOf m r).natAbs ≤ m.length := by
  have := varOf_le hp (r / 2)
  unfold litOf
  split <;> omega
theorem litF_abs (m : List Int) (r : Int) : (litF m r).natAbs ≤ m.length := by
  unfold litF
  split
  · rename_i h
    exact natAbs_le ((rising_iff m).1 h.1).2
  · simp
end Go.Aig
namespace Go.Proofs.Ytkedpifopclipaa
open Go.RowKit Go.Mem Go.Aig
section
variable {w : World} {g : Nat} {G : Gra} {F : List Nat}
end
end Go.Proofs.Ytkedpifopclipaa
namespace Go.Aig
section
variable {ns : List Nd} (hw : WF ns) (hn6 : ns.length ≤ 65536) {l : List Nat} (hl : ∀ r ∈ l, r < 2 * ns.length)
include hw hn6
theorem lit_in (r : Nat) : litF (natInts (mapN ns l)) r = litOf (natInts (mapN ns l)) r := by
  unfold litF
  rw [if_pos ⟨mapN_rising hw hn6 l, by omega⟩]
omit hn6 in
theorem roots_in : ∀ r ∈ l, r < 2 * ns.length → 2 ≤ r → r / 2 ∈ mapN ns l := fun r hr hlt h2 => mem_mapN.2 ⟨cone_has hw hr hlt, by omega⟩
include hl
end
end Go.Aig
namespace Go.Proofs.Ytkedpifopclipaa
open Go.RowKit Go.Mem Go.Aig
set_option maxRecDepth 100000 in
set_option maxHeartbeats 1000000 in
theorem index27_is (w : World) (n : Int) (_hn : -9223372036854775808 ≤ n ∧ n ≤ 9223372036854775807) (k : Nat) (hk : 1 ≤ k) (hk2 : k ≤ 1000000) :
    Calls Try.prog 80 #[.int .i64 n, .int .i64 k] w fun e w' => e = .returned (.int .i64 (n % k)) ∧ w = w' := by
  have hb := Int.emod_nonneg n (show (k : Int) ≠ 0 by omega)
  have hb2 := Int.emod_lt_of_pos n (show (0 : Int) < k by omega)
  have hk0 : ((k : Int) == 0) = false := beqN (by omega)
  have ht := Int.tmod_eq_emod (a := n) (b := (k : Int))
  obtain ⟨r, hr⟩ : ∃ r, Int.tmod n k = r := ⟨_, rfl⟩
  have hr1 : -(k : Int) < r ∧ r < k := by
    have := Int.natAbs_tmod n k
    have h2 : (Int.tmod n k).natAbs < k := by rw [this]; exact Nat.mod_lt _ (by omega)
    rw [hr] at h2
    omega
  have hres : n % k = if r < 0 then r + k else r := by
    rw [hr] at ht
    split at ht
    · split <;> omega
    · have : ((k : Int).natAbs : Int) = k := by simp
      rw [this] at ht
      split <;> omega
  by_cases h0 : r < 0
  · rw [if_pos h0] at hres
    rw [hres]
    have HH := Lib.hid hres
    clear hres ht hb hb2
    go_enter Try.func80, Try.ntmps80
    go_wp2_with fail
    go_ret
    exact ⟨rfl, rfl⟩
  · rw [if_neg h0] at hres
    rw [hres]
    clear hres ht hb hb2
    go_enter Try.func80, Try.ntmps80
    go_wp2_with fail
    go_ret
    exact ⟨rfl, rfl⟩
end Go.Proofs.Ytkedpifopclipaa
namespace Go.Aig
end Go.Aig
namespace Go.Proofs.Ytkedpifopclipaa
open Go.RowKit Go.Mem Go.Aig
theorem row.alt {w : World} {e : TypeId} {size n c : Nat} {a : Option Addr} {xs : List Value} (h : Mem.row w e size (.slice a n c) n xs) : ∀ p, a = some p → p.block < w.heap.size := fun p hp => by
  subst hp
  exact (h.lt p.block (by rcases h.2 with ⟨e, _⟩ | ⟨b, _, _, e, _⟩; cases e; cases e; rfl)).2
theorem eqSliceNil_CLmap (w : World) (a : Option Addr) (n c : Nat) : (binOp .eql 37 (.slice a n c) (.slice none 0 0)).run Try.prog w = .ok (.bool a.isNone) w := by
  have h : Try.prog.underlying 37 = some (.slice 3) := Try.underlying37
  simp only [binOp]
  simp [run_equal_slice_nil w _ _ a n c h]
theorem eqSliceNil_CLcls (w : World) (a : Option Addr) (n c : Nat) : (binOp .eql 137 (.slice a n c) (.slice none 0 0)).run Try.prog w = .ok (.bool a.isNone) w := by
  have h : Try.prog.underlying 137 = some (.slice 46) := Try.underlying137
  simp only [binOp]
  simp [run_equal_slice_nil w _ _ a n c h]
section
attribute [local go_sem] eqSliceNil_CLmap eqSliceNil_CLcls
variable {w : World}
end
end Go.Proofs.Ytkedpifopclipaa
namespace Go.Aig
/-- the numbers for which something is true -/
def trueL (n : Nat) (p : Nat → Bool) : List Nat := (List.range (2 ^ n)).filter p
end Go.Aig
namespace Go.Proofs.Ytkedpifopclipaa
open Go.RowKit Go.Mem Go.Aig
section
variable {w : World}
end
end Go.Proofs.Ytkedpifopclipaa
namespace Go.Proofs.Ytkedpifopclipaa
open Go.RowKit Go.Mem Go.Aig
/-- a graph, and the same one of the reference, apart from each other, made since a world -/
structure Both (w0 w : World) (g rb cap : Nat) (G : Gra) (F : List Nat) : Prop where
  gin : GIn w g G F
  rg : RG w rb cap G
  ap : rb ∉ F
  own : ∀ k ∈ F, w0.heap.size ≤ k
  rlo : w0.heap.size ≤ rb
  ch : Ch [] w0 w
theorem Both.same {w0 w w' : World} {g rb cap : Nat} {G : Gra} {F : List Nat} (h : Both w0 w g rb cap G F) (hc : Ch [] w w') : Both w0 w' g rb cap G F :=
  ⟨h.gin.same hc (by simp), h.rg.ch hc (by simp), h.ap, h.own, h.rlo, h.ch.trans hc (by simp)⟩
/-- both graphs are changed in the same way -/
theorem Both.next {w0 w w1 w2 : World} {g rb cap : Nat} {G G' : Gra} {F F' : List Nat} (h : Both w0 w g rb cap G F) (hg : GIn w1 g G' F') (hc1 : Ch F w w1) (hF : ∀ k ∈ F', k ∈ F ∨ w.heap.size ≤ k) {rb' cap' : Nat} (hr : RG w2 rb' cap' G') (hc2 : Ch [] w1 w2) (hb : rb' = rb ∨ w1.heap.size ≤ rb') : Both w0 w2 g rb' cap' G' F' := by
  have hrl := h.rg.lt
  have hz := hc1.size
  refine ⟨hg.same hc2 (by simp), hr, fun hin => ?_, fun k hk => (hF k hk).elim (h.own k) (fun e => Nat.le_trans h.ch.size e), ?_, (h.ch.trans hc1 (fun k hk => .inr (h.own k hk))).trans hc2 (by simp)⟩
  · have hlt := hg.lt _ hin
    rcases hb with rfl | e
    · rcases hF _ hin with e | e
      · exact h.ap e
      · omega
    · omega
  · rcases hb with rfl | e
    · exact h.rlo
    · have := h.ch.size; omega
theorem Both.set {w0 w w' : World} {g rb cap b : Nat} {G : Gra} {F : List Nat} (h : Both w0 w g rb cap G F) (hc : Ch [b] w w') (hb : b ∉ F) (hr : rb ≠ b) (hlo : w0.heap.size ≤ b) : Both w0 w' g rb cap G F :=
  ⟨h.gin.same hc (fun k hk hk2 => hb (by rw [List.mem_singleton.1 hk2] at hk; exact hk)), h.rg.ch hc (by simpa using hr), h.ap, h.own, h.rlo, h.ch.trans hc (fun k hk => .inr (by rw [List.mem_singleton.1 hk]; exact hlo))⟩
section
end
end Go.Proofs.Ytkedpifopclipaa
namespace Go.Proofs.Ytkedpifopclipaa
open Go.RowKit Go.Mem Go.Aig
/-- a graph of inputs alone -/
def inK : Nat → Gra
  | 0 => newG 200
  | k + 1 => (put (inK k) ⟨2, 0, 0, 0⟩).1
def AllI (l : List N21) (k : Nat) (G : Gra) : Prop := (∀ x ∈ l.take k, x.inp = true) → G = inK k
section
variable {w : World}
end
end Go.Proofs.Ytkedpifopclipaa
namespace Go.Proofs.Ytkedpifopclipaa
open Go.RowKit Go.Mem Go.Aig
section
variable {w : World}
set_option maxRecDepth 100000 in
set_option maxHeartbeats 8000000 in
theorem build27_full {a : Option Addr} {n ncap : Nat} {l : List N21} (hS : NodeS w a n ncap l) (hn : n ≤ 61) :
    Calls Try.prog 72 #[.slice a n ncap] w fun e w' => ∃ g F rb cap G, e = .returned (.tuple #[.pointer (some ⟨g, 0, none⟩), .agg #[.int .i64 G.most, .slice (some ⟨rb, 0, none⟩) G.nodes.length cap], .bool true]) ∧ Both w w' g rb cap G F ∧ G.most = 200 ∧ G.nodes.length ≤ n + 1 ∧ (inputs G.nodes).length = cntI l ∧ AllI l n G := by
  have hlen := hS.len
  have hbd := hS.bd
  have hN := fun W => New_yes (w := W) 200 (by decide) (by decide)
  have hR := fun W => rNew_yes W 200 (by decide) (by decide)
  have hcn : ∀ k x, l[k]? = some x → cntI (l.take (k + 1)) = cntI (l.take k) + x.inp.toNat := fun k x hx => by rw [List.take_add_one, hx]; exact cntI_snoc _ _
  have hfull : cntI (l.take n) = cntI l := by rw [List.take_of_length_le (by omega)]
  have HN := Lib.hid hN; clear hN
  have HR := Lib.hid hR; clear hR
  have HS := Lib.hid hS; clear hS
  have HLEN := Lib.hid hlen; clear hlen
  have HBD := Lib.hid hbd; clear hbd
  have HCN := Lib.hid hcn; clear hcn
  have HFULL := Lib.hid hfull; clear hfull
  go_enter Try.func72, Try.ntmps72
  go_wp2_with fail
  refine calls_named fun W hW => ?_
  have b3 : blk W w.heap.size [.int .i64 0, .slice none 0 0] := by rw [hW]; exact blk.new' _ _ (by simp)
  have hc : Ch [] w W := by rw [hW]; exact (Ch.refl _ _).alloc _
  have hz : W.heap.size = w.heap.size + 1 := by rw [hW]; simp
  clear hW
  refine (HN.out W).mono ?_
  rintro e w1 ⟨g, F1, rfl, hg1, hF1, hc1⟩
  have b3 := b3.ch hc1 (by simp)
  have hc := hc.trans hc1 (by simp)
  have hF2 : ∀ k ∈ F1, w.heap.size + 1 ≤ k ∧ k < w1.heap.size := fun k hk => ⟨by have := hF1 k hk; omega, hg1.lt k hk⟩
  have HF2 := Lib.hid hF2; clear hF2 hF1 hc1
  have HC := Lib.hid hc; clear hc
  have HG1 := Lib.hid hg1; clear hg1
  have B3 := Lib.hid b3; clear b3
  go_wp2_with fail
  refine (HR.out _).mono ?_
  rintro e w2 ⟨rb, cap, rfl, hrg, hc2, hlo⟩
  have hz2 := hc2.size
  have hz3 := B3.out.lt
  have hbt : Both w w2 g rb cap (newG 200) F1 := ⟨HG1.out.same hc2 (by simp), hrg, fun hin => by have := HF2.out _ hin; omega, fun k hk => by have := HF2.out k hk; omega, by omega, HC.out.trans hc2 (by simp)⟩
  have b3 := B3.out.ch hc2 (by simp)
  have hG0 : (newG 200).most = 200 ∧ (newG 200).nodes.length = 1 ∧ (inputs (newG 200).nodes).length = 0 ∧ newG 200 = inK 0 := ⟨rfl, rfl, rfl, rfl⟩
  generalize newG 200 = G0 at *
  have HBT := Lib.hid hbt; clear hbt hrg hc2 HC HG1
  clear B3
  have B3 := Lib.hid b3; clear b3
  go_upto_region 3 with fail
  refine wp_alw ?_
  intro W3 hW3
  have hb6 : blk W3 w2.heap.size [.int .i64 G0.most, .slice (some ⟨rb, 0, none⟩) G0.nodes.length cap] := by
    rw [hG0.1, hG0.2.1]
    exact alw_blk (xs := [.int .i64 200, .slice (some ⟨rb, 0, none⟩) 1 cap]) hW3
  have hc3 := alw_ch hW3
  have hbt := HBT.out.same hc3
  have b3 := B3.out.ch hc3 (by simp)
  have hrb6 : rb ≠ w2.heap.size := rg_ne HBT.out.rg
  have hlo2 : w.heap.size + 1 ≤ rb := by omega
  have h6F : w2.heap.size ∉ F1 := fun hin => by have := HF2.out _ hin; omega
  have h3F : w.heap.size ∉ F1 := fun hin => by have := HF2.out _ hin; omega
  have h6lo : w.heap.size + 1 ≤ w2.heap.size := by omega
  clear hW3 hc3 HBT B3 hlo
  generalize w2.heap.size = b6 at *
  have HBT := Lib.hid hbt; clear hbt
  have B6 := Lib.hid hb6; clear hb6
  have B3 := Lib.hid b3; clear b3
  have HG0 := Lib.hid hG0; clear hG0
  go_wp2_with fail
  go_loopw [31] (fun i wr => ∃ (k : Nat) (G : Gra) (F : List Nat) (rb cap : Nat), k ≤ n ∧ i = .int .i64 k ∧ Both w wr g rb cap G F ∧ b6 ∉ F ∧ w.heap.size ∉ F ∧ rb ≠ b6 ∧ w.heap.size + 1 ≤ rb ∧ blk wr b6 [.int .i64 G.most, .slice (some ⟨rb, 0, none⟩) G.nodes.length cap] ∧ blk wr w.heap.size [.int .i64 0, .slice none 0 0] ∧ G.most = 200 ∧ G.nodes.length ≤ k + 1 ∧ (inputs G.nodes).length = cntI (l.take k) ∧ AllI l k G) (fun i _ => n - (intOf i).toNat)
  case atStart => exact ⟨0, G0, F1, rb, cap, by omega, rfl, HBT.out, h6F, h3F, hrb6, hlo2, B6.out, B3.out, HG0.out.1, by rw [HG0.out.2.1]; omega, HG0.out.2.2.1, fun _ => HG0.out.2.2.2⟩
  case round =>
    clear HBT B6 B3 h6F h3F hrb6 hlo2 HN HR HF2 HG0
    obtain ⟨k, G, F, rb, cap, hk, rfl, hbt, h6F, h3F, hrb6, hlo2, b6c, b3, hm, hnl, hil⟩ := hrel
    have hwr6 := b6c.lt
    have HM := Lib.hid hm; clear hm
    have HIL := Lib.hid hil; clear hil
    by_cases hlt : k < n
    · obtain ⟨x, hx⟩ : ∃ x, l[k]? = some x := ⟨_, List.getElem?_eq_getElem (by rw [HLEN.out]; omega)⟩
      obtain ⟨ab, ao, rfl, d0, d1, d2⟩ := (HS.out.ch hbt.ch).cells k x hx
      have hxb := HBD.out x (List.mem_of_getElem? hx)
      have hcn := HCN.out k x hx
      have hmem : x ∈ l.take (k + 1) := by rw [List.take_add_one, hx]; simp
      have HMEM := Lib.hid hmem; clear hmem
      have HCNK := Lib.hid hcn; clear hcn hx
      obtain ⟨inp, xl, xr⟩ := x
      simp only at d0 d1 d2 hxb HCNK HMEM
      have HBT := Lib.hid hbt; clear hbt
      have B6 := Lib.hid b6c; clear b6c
      have B3 := Lib.hid b3; clear b3
      go_upto_region 8 with fail
      refine wp_named fun W1 hW1 => ?_
      have hcA : Ch [] wr W1 := by rw [hW1]; exact (Ch.refl _ _).alloc _
      have hb1 : blk W1 wr.heap.size [.bool inp, .int .i64 xl, .int .i64 xr] := by rw [hW1]; exact blk.new' _ _ rfl
      have e0 := hb1.cell (i := 0) rfl
      have hbt := HBT.out.same hcA
      have b6c := B6.out.ch hcA (by simp)
      have b3 := B3.out.ch hcA (by simp)
      have hzA := hcA.size
      clear hW1 d0 d1 d2 HBT B6 B3 hcA
      have HBT := Lib.hid hbt; clear hbt
      have B6 := Lib.hid b6c
      have B3 := Lib.hid b3; clear b3
      have y0 := b6c.cell (i := 0) rfl
      have y1 := b6c.cell (i := 1) rfl
      have hwr6 := b6c.lt
      have hpos := HBT.out.gin.ok.wf.pos
      clear b6c
      cases inp
      · obtain ⟨N, hN⟩ : ∃ N, G.nodes.length = N := ⟨_, rfl⟩
        rw [hN] at hnl hpos
        obtain ⟨p, hp, hpl⟩ : ∃ p : Nat, xl % ((2 * N : Nat) : Int) = p ∧ p < 2 * N := ⟨(xl % ((2 * N : Nat) : Int)).toNat, by
          have := Int.emod_nonneg xl (show ((2 * N : Nat) : Int) ≠ 0 by omega)
          omega, by
          have := Int.emod_nonneg xl (show ((2 * N : Nat) : Int) ≠ 0 by omega)
          have := Int.emod_lt_of_pos xl (show (0 : Int) < ((2 * N : Nat) : Int) by omega)
          omega⟩
        obtain ⟨q, hq, hql⟩ : ∃ q : Nat, xr % ((2 * N : Nat) : Int) = q ∧ q < 2 * N := ⟨(xr % ((2 * N : Nat) : Int)).toNat, by
          have := Int.emod_nonneg xr (show ((2 * N : Nat) : Int) ≠ 0 by omega)
          omega, by
          have := Int.emod_nonneg xr (show ((2 * N : Nat) : Int) ≠ 0 by omega)
          have := Int.emod_lt_of_pos xr (show (0 : Int) < ((2 * N : Nat) : Int) by omega)
          omega⟩
        have HI1 := fun W => index27_is W xl hxb.1 (2 * N) (by omega) (by omega)
        have HI2 := fun W => index27_is W xr hxb.2 (2 * N) (by omega) (by omega)
        simp only [hp] at HI1
        simp only [hq] at HI2
        rw [show ((2 * N : Nat) : Int) = 2 * (N : Int) by omega] at HI1 HI2
        have hroom := and_room21 (G := G) p q (by rw [hN, HM.out]; omega)
        have hand : doAnd G p q = Aig.and G p q := doAnd_r (by omega) (by omega)
        have HAN := fun (W : World) (hW : Ch [] W1 W) => And_g (HBT.out.same hW).gin p q (by omega) (by omega)
        simp only [hand, hroom.1] at HAN
        have HRA := fun (W : World) (F9 : List Nat) (hW : Ch F9 W1 W) (hF : rb ∉ F9) => rAnd_is (HBT.out.rg.ch hW hF) (a := p) (b := q) (by omega) (by omega)
        have HROOM := Lib.hid hroom; clear hroom
        have HI1 := Lib.hid HI1
        have HI2 := Lib.hid HI2
        have HAN := Lib.hid HAN
        have HRA := Lib.hid HRA
        have HBK := Lib.hid hb1; clear hb1
        have HNN := Lib.hid hN
        clear hand hp hq
        rw [hN] at y1
        clear hN
        have hp2 : p ≤ 1000 := by omega
        have hq2 : q ≤ 1000 := by omega
        go_wp2_with fail
        refine Ord.St.door (fun w' => w'.cell? ⟨wr.heap.size, 1, none⟩ = some (.int .i64 xl) ∧ w'.cell? ⟨wr.heap.size, 2, none⟩ = some (.int .i64 xr)) [.fl, .ho, .fl, .ef, .fl, .ho, .fl, .ef, .fl, .fl] [0, 1, 0, 7, 0, 16, 0, 127, 255, 511] [0, 1, 2, 3, 4, 5, 6, 7, 8, 9] mixed (by kernel_rfl) rfl ?_
        obtain ⟨Wc, hWc⟩ : ∃ Wc, Wc = W1.drew := ⟨_, rfl⟩
        rw [← hWc]
        have hcur : Ch [] W1 Wc := by rw [hWc]; exact (Ch.refl _ _).drew
        clear hWc
        have hbk := HBK.out.ch hcur (by simp)
        have HCUR := Lib.hid hcur
        refine Ord.St.fl2 (T' := ?_) 0 [1, 2, 3, 4, 5, 6, 7, 8, 9] _ _ rfl (by kernel_rfl) rfl rfl rfl rfl (fun K w' hk => ?_) ?_
        rotate_left
        · go_step; exact hk
        refine Ord.St.ho2 (T' := ?_) 1 [2, 3, 4, 5, 6, 7, 8, 9] _ _ rfl (by kernel_rfl) rfl rfl rfl rfl ?_ (fun K w' hw' hk => ?_) ?_
        rotate_left
        · exact ⟨hbk.cell rfl, hbk.cell rfl⟩
        · obtain ⟨q1, q2⟩ := hw'; go_step; exact hk
        refine Ord.St.fl2 (T' := ?_) 2 [3, 4, 5, 6, 7, 8, 9] _ _ rfl (by kernel_rfl) rfl rfl rfl rfl (fun K w' hk => ?_) ?_
        rotate_left
        · go_step; exact hk
        refine Ord.St.fl2 (T' := ?_) 4 [3, 5, 6, 7, 8, 9] _ _ rfl (by kernel_rfl) rfl rfl rfl rfl (fun K w' hk => ?_) ?_
        rotate_left
        · go_step; exact hk
        refine Ord.St.ho2 (T' := ?_) 5 [3, 6, 7, 8, 9] _ _ rfl (by kernel_rfl) rfl rfl rfl rfl ?_ (fun K w' hw' hk => ?_) ?_
        rotate_left
        · exact ⟨hbk.cell rfl, hbk.cell rfl⟩
        · obtain ⟨q1, q2⟩ := hw'; go_step; exact hk
        refine Ord.St.fl2 (T' := ?_) 6 [3, 7, 8, 9] _ _ rfl (by kernel_rfl) rfl rfl rfl rfl (fun K w' hk => ?_) ?_
        rotate_left
        · go_step; exact hk
        refine Ord.St.efC 3 [7, 8, 9] _ rfl (by kernel_rfl) (fun K hK => ?_)
        go_wp2_with fail
        refine (HI1.out _).mono ?_
        rintro e w' ⟨rfl, rfl⟩
        go_wp2_with fail
        refine ⟨rfl, hK _ _ ?_ ?_⟩
        · exact ⟨hbk.cell rfl, hbk.cell rfl⟩
        clear hK K
        refine Ord.St.ef 7 [8, 9] _ rfl (by kernel_rfl) (fun K hK => ?_)
        go_wp2_with fail
        refine (HI2.out _).mono ?_
        rintro e w' ⟨rfl, rfl⟩
        go_wp2_with fail
        refine ⟨rfl, hK _ _ ?_⟩; clear hK K
        refine Ord.St.fl2 (T' := ?_) 8 [9] _ _ rfl (by kernel_rfl) rfl rfl rfl rfl (fun K w' hk => ?_) ?_
        rotate_left
        · go_step; exact hk
        refine Ord.St.fl2 (T' := ?_) 9 [] _ _ rfl (by kernel_rfl) rfl rfl rfl rfl (fun K w' hk => ?_) ?_
        rotate_left
        · go_step; exact hk
        refine Ord.St.nil ?_
        have han := HAN.out Wc HCUR.out
        have HAN1 := Lib.hid han; clear han HAN
        have hbtc := HBT.out.same HCUR.out
        have B6c := Lib.hid (B6.out.ch HCUR.out (by simp))
        have B3c := Lib.hid (B3.out.ch HCUR.out (by simp))
        have hzc := HCUR.out.size
        have HBTc := Lib.hid hbtc; clear hbtc hbk
        go_wp2_with fail
        refine HAN1.out.mono ?_
        rintro e w5 ⟨rfl, F', hg5, hc5, hF5, _⟩
        have hB5 := HRA.out w5 F (HCUR.out.mono (by simp) |>.trans hc5 (fun k hk => .inl hk)) HBT.out.ap
        have b6c := B6c.out.ch hc5 h6F
        have b3 := B3c.out.ch hc5 h3F
        have y0 := b6c.cell (i := 0) rfl
        have y1 := b6c.cell (i := 1) rfl
        have h6F' : b6 ∉ F' := fun hin => by rcases hF5 _ hin with e | e; exact h6F e; have := B6c.out.lt; omega
        have h3F' : w.heap.size ∉ F' := fun hin => by rcases hF5 _ hin with e | e; exact h3F e; have := B3c.out.lt; omega
        have hz5 := b6c.lt
        have HB5 := Lib.hid hB5; clear hB5 HRA
        have HG5 := Lib.hid hg5; clear hg5
        have HC5 := Lib.hid hc5; clear hc5
        have HF5 := Lib.hid hF5; clear hF5
        have BB6 := Lib.hid b6c; clear b6c
        have BB3 := Lib.hid b3; clear b3
        clear B6 B3 B6c B3c HAN1
        go_wp2_with fail
        refine HB5.out.mono ?_
        rintro e w6 ⟨rb', cap', rfl, hrg6, hc6, hfr⟩
        have hbt6 := HBTc.out.next (G' := (Aig.and G p q).1) HG5.out HC5.out HF5.out hrg6 hc6 hfr
        clear HB5 HG5 HC5 HF5 HBTc HBT
        obtain ⟨G1, hG1⟩ : ∃ G1, (Aig.and G p q).1 = G1 := ⟨_, rfl⟩
        have hrm := HROOM.out
        rw [hG1] at hbt6 hrg6 hrm ⊢
        have HRM := Lib.hid hrm; clear hrm HROOM hG1
        have hrb' : rb' ≠ b6 := by rcases hfr with e | e <;> omega
        have hlo' : w.heap.size + 1 ≤ rb' := by rcases hfr with e | e <;> omega
        have b6c := BB6.out.ch hc6 (by simp)
        have b3 := BB3.out.ch hc6 (by simp)
        have f0 := b6c.frozen (i := 0)
        have f1 := b6c.frozen (i := 1)
        have y0 := b6c.cell (i := 0) rfl
        have y1 := b6c.cell (i := 1) rfl
        have HBT6 := Lib.hid hbt6; clear hbt6
        have BC6 := Lib.hid b6c; clear b6c
        have BC3 := Lib.hid b3; clear b3
        clear BB6 BB3 hrg6 hc6 hfr
        go_upto_region 15 with fail
        refine wp_named fun W7 hW7 => ?_
        have hcs : Ch [b6] w6 W7 := set2_ch (u := .int .i64 G1.most) (v := .slice (some ⟨rb', 0, none⟩) G1.nodes.length cap') hW7
        have hbt7 := HBT6.out.set hcs h6F' hrb' (by omega)
        have b67 : blk W7 b6 [.int .i64 G1.most, .slice (some ⟨rb', 0, none⟩) G1.nodes.length cap'] := by rw [hW7]; exact (BC6.out.set (i := 0) _).set (i := 1) _
        have b37 := BC3.out.ch hcs (by simp; omega)
        clear hW7 hcs y0 y1 f0 f1 BC6 BC3 HBT6
        have y1 := b67.cell (i := 1) rfl
        have HBT7 := Lib.hid hbt7; clear hbt7
        have B67 := Lib.hid b67; clear b67
        have B37 := Lib.hid b37; clear b37
        have hLn := fun (W : World) (hW : Ch [] W7 W) => Len_g (HBT7.out.same hW).gin
        have HLN := Lib.hid hLn; clear hLn
        obtain ⟨N1, hN1⟩ : ∃ N1, G1.nodes.length = N1 := ⟨_, rfl⟩
        rw [hN1] at HLN y1
        have e9 : ((N1 : Int) != (N1 : Int)) = false := by simp
        have HN1 := Lib.hid hN1; clear hN1
        refine Ord.St.door (fun _ => True) [.fl, .fl, .fl, .fl, .rd, .fl, .rd, .rd, .fl, .fl] [0, 1, 3, 7, 15, 7, 39, 103, 255, 511] [0, 1, 2, 3, 4, 5, 6, 7, 8, 9] mixed (by kernel_rfl) rfl ?_
        refine Ord.St.fl2 (T' := ?_) 0 [1, 2, 3, 4, 5, 6, 7, 8, 9] _ _ rfl (by kernel_rfl) rfl rfl rfl rfl (fun K w' hk => ?_) ?_
        rotate_left
        · go_step; exact hk
        refine Ord.St.fl2 (T' := ?_) 1 [2, 3, 4, 5, 6, 7, 8, 9] _ _ rfl (by kernel_rfl) rfl rfl rfl rfl (fun K w' hk => ?_) ?_
        rotate_left
        · go_step; exact hk
        refine Ord.St.fl2 (T' := ?_) 2 [3, 4, 5, 6, 7, 8, 9] _ _ rfl (by kernel_rfl) rfl rfl rfl rfl (fun K w' hk => ?_) ?_
        rotate_left
        · go_step; exact hk
        first | (refine Ord.St.fl2 (T' := ?_) 3 [4, 5, 6, 7, 8, 9] _ _ rfl (by kernel_rfl) ?_ rfl rfl rfl (fun K w' hk => ?_) ?_; rotate_left; (first | rfl | (simp [Region.wanted, yielded, *]; done)); focus (go_step; exact hk)) | (refine Ord.St.skip 3 [4, 5, 6, 7, 8, 9] _ rfl (by kernel_rfl) ?_ (fun K hK => ?_); (first | rfl | (simp [Region.wanted, yielded, *]; done)); go_simp; refine hK _ ?_; clear hK K)
        first | (refine Ord.St.rd2 (T' := ?_) 4 [5, 6, 7, 8, 9] _ _ rfl (by kernel_rfl) ?_ rfl rfl rfl (fun K hk => ?_) ?_; rotate_left; (first | rfl | (simp [Region.wanted, yielded, *]; done)); focus (go_step; refine (HLN.out _ (Ch.refl _ _).drew).mono ?_; rintro e w' ⟨rfl, rfl⟩; exact hk)) | (refine Ord.St.skipr 4 [5, 6, 7, 8, 9] _ rfl (by kernel_rfl) ?_ (fun K hK => ?_); (first | rfl | (simp [Region.wanted, yielded, *]; done)); go_simp; refine hK _ ?_; clear hK K)
        first | (refine Ord.St.fl2 (T' := ?_) 5 [6, 7, 8, 9] _ _ rfl (by kernel_rfl) ?_ rfl rfl rfl (fun K w' hk => ?_) ?_; rotate_left; (first | rfl | (simp [Region.wanted, yielded, *]; done)); focus (go_step; exact hk)) | (refine Ord.St.skip 5 [6, 7, 8, 9] _ rfl (by kernel_rfl) ?_ (fun K hK => ?_); (first | rfl | (simp [Region.wanted, yielded, *]; done)); go_simp; refine hK _ ?_; clear hK K)
        first | (refine Ord.St.rd2 (T' := ?_) 6 [7, 8, 9] _ _ rfl (by kernel_rfl) ?_ rfl rfl rfl (fun K hk => ?_) ?_; rotate_left; (first | rfl | (simp [Region.wanted, yielded, *]; done)); focus (go_step; exact hk)) | (refine Ord.St.skipr 6 [7, 8, 9] _ rfl (by kernel_rfl) ?_ (fun K hK => ?_); (first | rfl | (simp [Region.wanted, yielded, *]; done)); go_simp; refine hK _ ?_; clear hK K)
        first | (refine Ord.St.rd2 (T' := ?_) 7 [8, 9] _ _ rfl (by kernel_rfl) ?_ rfl rfl rfl (fun K hk => ?_) ?_; rotate_left; (first | rfl | (simp [Region.wanted, yielded, *]; done)); focus (go_step; exact hk)) | (refine Ord.St.skipr 7 [8, 9] _ rfl (by kernel_rfl) ?_ (fun K hK => ?_); (first | rfl | (simp [Region.wanted, yielded, *]; done)); go_simp; refine hK _ ?_; clear hK K)
        first | (refine Ord.St.fl2 (T' := ?_) 8 [9] _ _ rfl (by kernel_rfl) ?_ rfl rfl rfl (fun K w' hk => ?_) ?_; rotate_left; (first | rfl | (simp [Region.wanted, yielded, *]; done)); focus (go_step; exact hk)) | (refine Ord.St.skip 8 [9] _ rfl (by kernel_rfl) ?_ (fun K hK => ?_); (first | rfl | (simp [Region.wanted, yielded, *]; done)); go_simp; refine hK _ ?_; clear hK K)
        refine Ord.St.fl2 (T' := ?_) 9 [] _ _ rfl (by kernel_rfl) rfl rfl rfl rfl (fun K w' hk => ?_) ?_
        rotate_left
        · go_step; exact hk
        refine Ord.St.nil ?_
        go_wp2_with fail
        go_roundw
        case rel => exact ⟨k + 1, G1, F', rb', cap', by omega, by go_num, HBT7.out.same (Ch.refl _ _).drew, h6F', h3F', hrb', hlo', B67.out.ch (Ch.refl [] _).drew (by simp), B37.out.ch (Ch.refl [] _).drew (by simp), by rw [HRM.out.2.1]; exact HM.out, by have := HRM.out.2.2.1; have := HNN.out; omega, by rw [HRM.out.2.2.2, HCNK.out, HIL.out.1]; rfl, fun hh => by have := hh _ HMEM.out; simp at this⟩
        case measure => simp [intOf]; omega
      · have hroom := input_room (G := G) (by rw [HM.out]; omega)
        have hI := Input_g HBT.out.gin
        rw [hroom.1] at hI
        have HI := Lib.hid hI; clear hI
        have HROOM := Lib.hid hroom; clear hroom hb1
        go_wp2_with fail
        refine HI.out.mono ?_
        rintro e w5 ⟨rfl, F', hg5, hc5, hF5, _⟩
        have hB5 := rPut_is (HBT.out.rg.ch hc5 HBT.out.ap) ⟨2, 0, 0, 0⟩ (fun hm => by
          have hok := hg5.ok
          unfold doInput put at hok
          rw [if_neg (by omega)] at hok
          exact hok)
        have b6c := B6.out.ch hc5 h6F
        have b3 := B3.out.ch hc5 h3F
        have y0 := b6c.cell (i := 0) rfl
        have y1 := b6c.cell (i := 1) rfl
        have h6F' : b6 ∉ F' := fun hin => by rcases hF5 _ hin with e | e; exact h6F e; have := B6.out.lt; omega
        have h3F' : w.heap.size ∉ F' := fun hin => by rcases hF5 _ hin with e | e; exact h3F e; have := B3.out.lt; omega
        have hz5 := b6c.lt
        have HB5 := Lib.hid hB5; clear hB5
        have HG5 := Lib.hid hg5; clear hg5
        have HC5 := Lib.hid hc5; clear hc5
        have HF5 := Lib.hid hF5; clear hF5
        have BB6 := Lib.hid b6c; clear b6c
        have BB3 := Lib.hid b3; clear b3
        clear B6 B3 HI
        go_wp2_with fail
        refine HB5.out.mono ?_
        rintro e w6 ⟨rb', cap', rfl, hrg6, hc6, hfr⟩
        have hbt6 := HBT.out.next (G' := (put G ⟨2, 0, 0, 0⟩).1) HG5.out HC5.out HF5.out hrg6 hc6 hfr
        clear HB5 HG5 HC5 HF5 HBT
        obtain ⟨G1, hG1⟩ : ∃ G1, (put G ⟨2, 0, 0, 0⟩).1 = G1 := ⟨_, rfl⟩
        have hrm := HROOM.out
        change (put G ⟨2, 0, 0, 0⟩).2.2 = 0 ∧ (put G ⟨2, 0, 0, 0⟩).1.most = G.most ∧ (put G ⟨2, 0, 0, 0⟩).1.nodes.length = G.nodes.length + 1 ∧ (inputs (put G ⟨2, 0, 0, 0⟩).1.nodes).length = (inputs G.nodes).length + 1 at hrm
        rw [hG1] at hbt6 hrg6 hrm ⊢
        have HPG := Lib.hid hG1
        have HRM := Lib.hid hrm; clear hrm HROOM hG1
        have hrb' : rb' ≠ b6 := by rcases hfr with e | e <;> omega
        have hlo' : w.heap.size + 1 ≤ rb' := by rcases hfr with e | e <;> omega
        have b6c := BB6.out.ch hc6 (by simp)
        have b3 := BB3.out.ch hc6 (by simp)
        have f0 := b6c.frozen (i := 0)
        have f1 := b6c.frozen (i := 1)
        have y0 := b6c.cell (i := 0) rfl
        have y1 := b6c.cell (i := 1) rfl
        have HBT6 := Lib.hid hbt6; clear hbt6
        have BC6 := Lib.hid b6c; clear b6c
        have BC3 := Lib.hid b3; clear b3
        clear BB6 BB3 hrg6 hc6 hfr
        go_upto_region 15 with fail
        refine wp_named fun W7 hW7 => ?_
        have hcs : Ch [b6] w6 W7 := set2_ch (u := .int .i64 G1.most) (v := .slice (some ⟨rb', 0, none⟩) G1.nodes.length cap') hW7
        have hbt7 := HBT6.out.set hcs h6F' hrb' (by omega)
        have b67 : blk W7 b6 [.int .i64 G1.most, .slice (some ⟨rb', 0, none⟩) G1.nodes.length cap'] := by rw [hW7]; exact (BC6.out.set (i := 0) _).set (i := 1) _
        have b37 := BC3.out.ch hcs (by simp; omega)
        clear hW7 hcs y0 y1 f0 f1 BC6 BC3 HBT6
        have y1 := b67.cell (i := 1) rfl
        have HBT7 := Lib.hid hbt7; clear hbt7
        have B67 := Lib.hid b67; clear b67
        have B37 := Lib.hid b37; clear b37
        have hLn := fun (W : World) (hW : Ch [] W7 W) => Len_g (HBT7.out.same hW).gin
        have HLN := Lib.hid hLn; clear hLn
        obtain ⟨N1, hN1⟩ : ∃ N1, G1.nodes.length = N1 := ⟨_, rfl⟩
        rw [hN1] at HLN y1
        have e9 : ((N1 : Int) != (N1 : Int)) = false := by simp
        have HN1 := Lib.hid hN1; clear hN1
        refine Ord.St.door (fun _ => True) [.fl, .fl, .fl, .fl, .rd, .fl, .rd, .rd, .fl, .fl] [0, 1, 3, 7, 15, 7, 39, 103, 255, 511] [0, 1, 2, 3, 4, 5, 6, 7, 8, 9] mixed (by kernel_rfl) rfl ?_
        refine Ord.St.fl2 (T' := ?_) 0 [1, 2, 3, 4, 5, 6, 7, 8, 9] _ _ rfl (by kernel_rfl) rfl rfl rfl rfl (fun K w' hk => ?_) ?_
        rotate_left
        · go_step; exact hk
        refine Ord.St.fl2 (T' := ?_) 1 [2, 3, 4, 5, 6, 7, 8, 9] _ _ rfl (by kernel_rfl) rfl rfl rfl rfl (fun K w' hk => ?_) ?_
        rotate_left
        · go_step; exact hk
        refine Ord.St.fl2 (T' := ?_) 2 [3, 4, 5, 6, 7, 8, 9] _ _ rfl (by kernel_rfl) rfl rfl rfl rfl (fun K w' hk => ?_) ?_
        rotate_left
        · go_step; exact hk
        first | (refine Ord.St.fl2 (T' := ?_) 3 [4, 5, 6, 7, 8, 9] _ _ rfl (by kernel_rfl) ?_ rfl rfl rfl (fun K w' hk => ?_) ?_; rotate_left; (first | rfl | (simp [Region.wanted, yielded, *]; done)); focus (go_step; exact hk)) | (refine Ord.St.skip 3 [4, 5, 6, 7, 8, 9] _ rfl (by kernel_rfl) ?_ (fun K hK => ?_); (first | rfl | (simp [Region.wanted, yielded, *]; done)); go_simp; refine hK _ ?_; clear hK K)
        first | (refine Ord.St.rd2 (T' := ?_) 4 [5, 6, 7, 8, 9] _ _ rfl (by kernel_rfl) ?_ rfl rfl rfl (fun K hk => ?_) ?_; rotate_left; (first | rfl | (simp [Region.wanted, yielded, *]; done)); focus (go_step; refine (HLN.out _ (Ch.refl _ _).drew).mono ?_; rintro e w' ⟨rfl, rfl⟩; exact hk)) | (refine Ord.St.skipr 4 [5, 6, 7, 8, 9] _ rfl (by kernel_rfl) ?_ (fun K hK => ?_); (first | rfl | (simp [Region.wanted, yielded, *]; done)); go_simp; refine hK _ ?_; clear hK K)
        first | (refine Ord.St.fl2 (T' := ?_) 5 [6, 7, 8, 9] _ _ rfl (by kernel_rfl) ?_ rfl rfl rfl (fun K w' hk => ?_) ?_; rotate_left; (first | rfl | (simp [Region.wanted, yielded, *]; done)); focus (go_step; exact hk)) | (refine Ord.St.skip 5 [6, 7, 8, 9] _ rfl (by kernel_rfl) ?_ (fun K hK => ?_); (first | rfl | (simp [Region.wanted, yielded, *]; done)); go_simp; refine hK _ ?_; clear hK K)
        first | (refine Ord.St.rd2 (T' := ?_) 6 [7, 8, 9] _ _ rfl (by kernel_rfl) ?_ rfl rfl rfl (fun K hk => ?_) ?_; rotate_left; (first | rfl | (simp [Region.wanted, yielded, *]; done)); focus (go_step; exact hk)) | (refine Ord.St.skipr 6 [7, 8, 9] _ rfl (by kernel_rfl) ?_ (fun K hK => ?_); (first | rfl | (simp [Region.wanted, yielded, *]; done)); go_simp; refine hK _ ?_; clear hK K)
        first | (refine Ord.St.rd2 (T' := ?_) 7 [8, 9] _ _ rfl (by kernel_rfl) ?_ rfl rfl rfl (fun K hk => ?_) ?_; rotate_left; (first | rfl | (simp [Region.wanted, yielded, *]; done)); focus (go_step; exact hk)) | (refine Ord.St.skipr 7 [8, 9] _ rfl (by kernel_rfl) ?_ (fun K hK => ?_); (first | rfl | (simp [Region.wanted, yielded, *]; done)); go_simp; refine hK _ ?_; clear hK K)
        first | (refine Ord.St.fl2 (T' := ?_) 8 [9] _ _ rfl (by kernel_rfl) ?_ rfl rfl rfl (fun K w' hk => ?_) ?_; rotate_left; (first | rfl | (simp [Region.wanted, yielded, *]; done)); focus (go_step; exact hk)) | (refine Ord.St.skip 8 [9] _ rfl (by kernel_rfl) ?_ (fun K hK => ?_); (first | rfl | (simp [Region.wanted, yielded, *]; done)); go_simp; refine hK _ ?_; clear hK K)
        refine Ord.St.fl2 (T' := ?_) 9 [] _ _ rfl (by kernel_rfl) rfl rfl rfl rfl (fun K w' hk => ?_) ?_
        rotate_left
        · go_step; exact hk
        refine Ord.St.nil ?_
        go_wp2_with fail
        go_roundw
        case rel => exact ⟨k + 1, G1, F', rb', cap', by omega, by go_num, HBT7.out.same (Ch.refl _ _).drew, h6F', h3F', hrb', hlo', B67.out.ch (Ch.refl [] _).drew (by simp), B37.out.ch (Ch.refl [] _).drew (by simp), by rw [HRM.out.2.1]; exact HM.out, by have := HRM.out.2.2.1; omega, by rw [HRM.out.2.2.2, HCNK.out, HIL.out.1]; rfl, fun hh => by rw [← HPG.out, HIL.out.2 (fun x hx => hh x (by rw [List.take_add_one]; exact List.mem_append_left _ hx))]; rfl⟩
        case measure => simp [intOf]; omega
    · have hkn : k = n := by omega
      have HBT := Lib.hid hbt; clear hbt
      have z0 := b3.cell (i := 0) rfl
      have z1 := b3.cell (i := 1) rfl
      have g0 := b3.frozen (i := 0)
      have g1 := b3.frozen (i := 1)
      have y0 := b6c.cell (i := 0) rfl
      have y1 := b6c.cell (i := 1) rfl
      clear b6c b3
      go_wp2_with fail
      refine Ord.St.door (fun _ => True) [.fl, .rd, .fl, .ef, .fl] [0, 0, 1, 7, 15] [0, 1, 2, 3, 4] mixed (by kernel_rfl) rfl ?_
      refine Ord.St.fl2 (T' := ?_) 0 [1, 2, 3, 4] _ _ rfl (by kernel_rfl) rfl rfl rfl rfl (fun K w' hk => ?_) ?_
      rotate_left
      · go_step; exact hk
      refine Ord.St.rd2 (T' := ?_) 1 [2, 3, 4] _ _ rfl (by kernel_rfl) rfl rfl rfl rfl (fun K hk => ?_) ?_
      rotate_left
      · go_step; exact hk
      refine Ord.St.fl2 (T' := ?_) 2 [3, 4] _ _ rfl (by kernel_rfl) rfl rfl rfl rfl (fun K w' hk => ?_) ?_
      rotate_left
      · go_step; exact hk
      refine Ord.St.ef 3 [4] _ rfl (by kernel_rfl) (fun K hK => ?_)
      go_wp2_with fail
      refine ⟨rfl, hK _ _ ?_⟩; clear hK K
      refine Ord.St.fl2 (T' := ?_) 4 [] _ _ rfl (by kernel_rfl) rfl rfl rfl rfl (fun K w' hk => ?_) ?_
      rotate_left
      · go_step; exact hk
      refine Ord.St.nil ?_
      go_wp2_with fail
      have hcs : Ch [w.heap.size] wr ((wr.setCell ⟨w.heap.size, 0, none⟩ (.int .i64 G.most)).setCell ⟨w.heap.size, 1, none⟩ (.slice (some ⟨rb, 0, none⟩) G.nodes.length cap)).drew := (((Ch.refl _ _).setCell (by simp) _).setCell (by simp) _).drew
      refine bodyPost_ret (v := .tuple #[.pointer (some ⟨g, 0, none⟩), .agg #[.int .i64 G.most, .slice (some ⟨rb, 0, none⟩) G.nodes.length cap], .bool true]) (by simp [results, Try.results72, go_sem, z0, z1]) rfl ?_
      refine ⟨g, F, rb, cap, G, rfl, HBT.out.set hcs h3F (by omega) (by omega), HM.out, by omega, ?_, ?_⟩
      · rw [HIL.out.1, hkn, HFULL.out]
      · rw [← hkn]; exact HIL.out.2
theorem build27_is {a : Option Addr} {n ncap : Nat} {l : List N21} (hS : NodeS w a n ncap l) (hn : n ≤ 61) :
    Calls Try.prog 72 #[.slice a n ncap] w fun e w' => ∃ g F rb cap G, e = .returned (.tuple #[.pointer (some ⟨g, 0, none⟩), .agg #[.int .i64 G.most, .slice (some ⟨rb, 0, none⟩) G.nodes.length cap], .bool true]) ∧ Both w w' g rb cap G F ∧ G.most = 200 ∧ G.nodes.length ≤ n + 1 ∧ (inputs G.nodes).length = cntI l :=
  (build27_full hS hn).mono (by rintro e w' ⟨g, F, rb, cap, G, h1, h2, h3, h4, h5, _⟩; exact ⟨g, F, rb, cap, G, h1, h2, h3, h4, h5⟩)
end
end Go.Proofs.Ytkedpifopclipaa
