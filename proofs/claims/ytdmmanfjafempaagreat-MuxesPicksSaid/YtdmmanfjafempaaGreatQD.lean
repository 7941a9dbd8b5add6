/-
  Walks over Cast, Value, Input of sums. Conditions: numbers in range, a graph in memory.
  Walk over the chapter's examples (awake): true. Conditions: none.
  A graph in memory with words that are held beside it: what is known along a law's walk. Conditions: none beyond the hypotheses.
  The functions of sums beside a graph and words that are held. Conditions: none beyond the hypotheses.
  Walk over the chapter's examples (awake of sums): true. Conditions: none.
  Walk over Pair of chapter 23's law: a graph with two words of new inputs. Conditions: none.
  Walks over the small functions of chapter 23's laws: Refs, Ints, Clone of truths, and the reference's Right, Const, Cast. Conditions: numbers in range.
  Walks: the reference's Cast, Equal of truths, Ints. Conditions: numbers in range.
  From a law's arguments to what the walks say: numbers, slices of numbers and of truths. Conditions: those of the given row.
  From a law's arguments to what the walks say: slices of numbers of 32 bits. Conditions: those of the given row.
  Walks over right, array, note and build of muxes. Conditions: a graph in memory; what is called makes.
  Words that are refused: what check says of them, and what the functions of sums do with them. Conditions: a graph in memory, words that are held.
  New words that are changed, or grown, before they are held. Conditions: none beyond the hypotheses.
  Walk over choose of muxes' maker: word by guard. Conditions: a maker in memory, a guard and two words of its graph.
  Walks over fit and is of muxes. Conditions: a maker in memory, a word of its graph.
  Words of many assignments at once, plainly: what the nodes of a graph are for the words of its inputs, bit by bit. No program in sight. Conditions: none beyond the hypotheses.
  Numbers and their bits: plain. No program in sight. Conditions: none beyond the hypotheses.
  What the makers of ands mean, and how many nodes they make at most: plain. No program in sight. Conditions: a right graph with room.
  What the makers of ands make holds no input: plain. No program in sight. Conditions: none beyond the hypotheses.
  What the functions of sums mean, plainly, for all values of the inputs at once, and how many nodes they make at most. No program in sight. Conditions: a right graph with room.
  A range over a function whose iterator itself works on memory between its yields: the caller's law. The body goes on always.
  Walks over fitting of muxes: the iterator that makes whether a word is a number, number by number. Conditions: a maker in memory, a word of its graph.
  What is known between two rounds of Read of muxes; the walk over its closure. Conditions: a maker in memory, an array of words of its graph, an index.
  The iterator of muxes beside the reference's fold: what is known before and behind each step. Conditions: a state that stands what the maker does.
  Walk over Read's closure of muxes. Conditions: a maker in memory, an array of words of its graph, an index.
  Walks over the closures of made (chapter 23's law): a result is noted; what is known while results are noted. Conditions: a graph in memory, words that are held.
  Walks over slices.Concat and slices.Grow, of references and of words, also with pieces that are nil. Conditions: pieces that can be read.
  Walk over check of muxes. Conditions: a graph in memory, lists of words of any integers that can be read.
  Walks over Fit, Choose and Is of muxes. Conditions: a graph in memory, words of any integers.
-/
import Derived.Test.YtdmmanfjafempaaGreatQC
import Derived.Test.YtdmmanfjafempaaGreatQB
import Derived.Test.YtdmmanfjafempaaGreatRows
import Derived.WalkKit
import Derived.ProofKit
import Derived.OpenShut
import Derived.ChangeOld
import Derived.Below
import Derived.Carry
import Derived.Deep.Slices
import Derived.Deep.Fields
import Derived.Test.YtdmmanfjafempaaGreatQA
import Derived.Lib.AppendZeros
import Derived.ArgAppend
namespace Go.Proofs.YtdmmanfjafempaaGreat
open Go.RowKit Go.Mem Go.Aig
section
variable {w : World}
set_option maxRecDepth 100000 in
set_option maxHeartbeats 1000000 in
theorem sValue_is {x : WV} (hx : x.l.length ≤ 1000000) {a : Option Addr} {l : List Bool} (c : Nat) (hm : l.length ≤ 1000000) (hS : Sb w a l) :
    Calls Tryz.prog 90 #[x.val, .slice a l.length c] w fun e w' => e = .returned (.tuple #[.int .u32 (if 1 ≤ l.length ∧ l.length ≤ 16 ∧ l.length = x.l.length then bitsVal l else 0 : Nat), .int .i64 (if 1 ≤ l.length ∧ l.length ≤ 16 ∧ l.length = x.l.length then 0 else 230 : Nat)]) ∧ w = w' := by
  obtain ⟨xa, xl, xc⟩ := x
  simp only [WV.val] at *
  by_cases h1 : 1 ≤ l.length ∧ l.length ≤ 16
  · have HF := FromBits_is (w := w) l.length c rfl h1.1 h1.2 hS
    by_cases h2 : l.length = xl.length
    · have hq : ((l.length : Int) != (xl.length : Int)) = false := by rw [h2]; simp
      rw [if_pos ⟨h1.1, h1.2, h2⟩, if_pos ⟨h1.1, h1.2, h2⟩]
      clear h1 h2 hS
      go_enter Tryz.func90, Tryz.ntmps90
      go_wp2_with fail
      refine HF.mono ?_
      rintro e w' ⟨rfl, rfl⟩
      go_wp2_with fail
      go_ret2
      exact ⟨rfl, rfl⟩
    · have hq : ((l.length : Int) != (xl.length : Int)) = true := by simp; omega
      rw [if_neg (fun h => h2 h.2.2), if_neg (fun h => h2 h.2.2)]
      clear h1 h2 hS
      go_enter Tryz.func90, Tryz.ntmps90
      go_wp2_with fail
      refine HF.mono ?_
      rintro e w' ⟨rfl, rfl⟩
      go_wp2_with fail
      go_ret2
      exact ⟨rfl, rfl⟩
  · have HF := FromBits_no (w := w) (a := a) l.length c (by omega) hm
    rw [if_neg (fun h => h1 ⟨h.1, h.2.1⟩), if_neg (fun h => h1 ⟨h.1, h.2.1⟩)]
    clear h1 hS
    go_enter Tryz.func90, Tryz.ntmps90
    go_wp2_with fail
    refine HF.mono ?_
    rintro e w' ⟨rfl, rfl⟩
    go_wp2_with fail
    go_ret2
    exact ⟨rfl, rfl⟩
set_option maxRecDepth 100000 in
set_option maxHeartbeats 1000000 in
theorem sInput_is {g : Nat} {G : Gra} {F : List Nat} (h : GIn w g G F) (n : Int) : Calls Tryz.prog 37 #[.pointer (some ⟨g, 0, none⟩), .int .i64 n] w fun e w' => ∃ v, e = .returned (.tuple #[v, .int .i64 (inG G n).2.2]) ∧ GVo w g (inG G n).1 [] F v (inG G n).2.1 w' := by
  have hpos := h.ok.wf.pos
  have hFl := h.lt
  have hp0 : ((G.nodes.length : Int) == 0) = false := beqN (by omega)
  have hL : ∀ W, Ch [] w W → Calls Tryz.prog 75 #[.pointer (some ⟨g, 0, none⟩)] W fun e w' => e = .returned (.int .i64 G.nodes.length) ∧ W = w' := fun W hW => Len_g (h.same hW (by simp))
  have hr1 := h.ok.room
  have hr2 := h.ok.most
  unfold inG
  have HR := fun W => sright_is (w := W) n
  cases hr : rightW n
  · rw [hr] at HR
    clear hr
    simp only [Bool.false_eq_true, if_false]
    have H := Lib.hid h; clear h
    go_enter Tryz.func37, Tryz.ntmps37
    go_wp2_with fail
    refine calls_named fun W0 hW0 => ?_
    have hc0 : Ch [] w W0 := by rw [hW0]; exact ((Ch.refl _ _).alloc _).alloc _
    have hbn : blk W0 (w.heap.size + 1) [.int .i64 n] := by rw [hW0]; exact blk.new' _ _ (by simp)
    have hn0 := hbn.cell (i := 0) rfl
    clear hW0
    refine (hL W0 hc0).mono ?_
    rintro e w' ⟨rfl, rfl⟩
    have HC0 := Lib.hid hc0; clear hc0
    go_wp2_with fail
    refine (HR _).mono ?_
    rintro e w' ⟨rfl, rfl⟩
    go_wp2_with fail
    go_ret2
    exact ⟨_, rfl, GVo.none H.out HC0.out⟩
  · rw [hr] at HR
    obtain ⟨k0, rfl, hk0⟩ : ∃ k0 : Nat, n = k0 ∧ k0 ≤ 17 := by
      unfold rightW at hr
      simp at hr
      exact ⟨n.toNat, by omega, by omega⟩
    clear hr
    simp only [if_true, Int.toNat_natCast]
    have hB : ∀ W, Ch [] w W → blk W w.heap.size [.pointer (some ⟨g, 0, none⟩)] → blk W (w.heap.size + 1) [.int .i64 k0] → Calls Tryz.prog 103 #[.pointer (some ⟨g, 0, none⟩), .func (.func 104) #[] #[.pointer (some ⟨w.heap.size + 1, 0, none⟩), .pointer (some ⟨w.heap.size, 0, none⟩)]] W fun e w' => ∃ v, e = .returned (.tuple #[v, .int .i64 (wres G (inF (G, 0) k0)).2.2]) ∧ GVo W g (wres G (inF (G, 0) k0)).1 [] F v (wres G (inF (G, 0) k0)).2.1 w' := fun W hW hbg hbn =>
      sbuildW_is (h.same hW (by simp)) 104 _ fnvsInput1 _ [] (fun W2 m hm hW2 hM => sInput1_is hM (by omega) ((hbn.ch hW2 (by simp)).cell (i := 0) rfl) ((hbg.ch hW2 (by simp)).cell (i := 0) rfl) (fun hk => by
        have h1 := hbg.lt
        simp only [List.mem_cons] at hk
        rcases hk with e | e
        · omega
        · have := hFl _ e; omega))
    have HB := Lib.hid hB; clear hB
    generalize wres G (inF (G, 0) k0) = R at *
    have H := Lib.hid h; clear h
    go_enter Tryz.func37, Tryz.ntmps37
    go_wp2_with fail
    refine calls_named fun W0 hW0 => ?_
    have hc0 : Ch [] w W0 := by rw [hW0]; exact ((Ch.refl _ _).alloc _).alloc _
    have hbg : blk W0 w.heap.size [.pointer (some ⟨g, 0, none⟩)] := by rw [hW0]; exact (blk.new' _ _ (by simp)).alloc _
    have hbn : blk W0 (w.heap.size + 1) [.int .i64 k0] := by rw [hW0]; exact blk.new' _ _ (by simp)
    have hn0 := hbn.cell (i := 0) rfl
    have hg0 := hbg.cell (i := 0) rfl
    clear hW0
    refine (hL W0 hc0).mono ?_
    rintro e w' ⟨rfl, rfl⟩
    have HBB := HB.out W0 hc0 hbg hbn
    have HC0 := Lib.hid hc0; clear hc0
    clear hbg hbn
    go_wp2_with fail
    refine (HR _).mono ?_
    rintro e w' ⟨rfl, rfl⟩
    go_wp2_with fail
    refine HBB.mono ?_
    rintro e w1 ⟨v, rfl, hg⟩
    have HG := Lib.hid hg; clear hg
    go_wp2_with fail
    go_ret2
    exact ⟨v, rfl, GVo.since HC0.out HG.out⟩
end
end Go.Proofs.YtdmmanfjafempaaGreat
namespace Go.Proofs.YtdmmanfjafempaaGreat
open Go.RowKit Go.Mem Go.Aig
section
variable {w0 w : World} {g : Nat} {G : Gra} {F : List Nat}
theorem row.slN {e : TypeId} {v : Value} {n : Nat} {l : List Nat} {a : Option Addr} {m c : Nat} (h : row w e 1 v n (refsCells l)) (hv : v = .slice a m c) (hn : n ≤ 1000000) : Sl w a (l.map fun (r : Nat) => (r : Int)) := by
  subst hv
  have h1 := h.1
  simp [refsCells] at h1
  refine ⟨fun i x hx => ?_, by simp; omega⟩
  rcases h.2 with ⟨e1, e2⟩ | ⟨b, cap, cur, e1, _⟩
  · subst e2
    have hl : l = [] := List.length_eq_zero_iff.1 h1
    subst hl
    simp at hx
  · cases e1
    refine ⟨b, 0, rfl, ?_⟩
    have := h.cells (g := b) rfl i (.int .i64 x) (by
      simp only [refsCells, List.getElem?_map, Option.map_eq_some_iff] at hx ⊢
      obtain ⟨r, hr, rfl⟩ := hx
      exact ⟨r, hr, rfl⟩)
    rw [Addr.add_lit] at this
    simpa using this
theorem New_c (n : Nat) (h1 : 1 ≤ n) (h2 : n ≤ 65536) (hc : Ch [] w0 w) :
    Calls Tryz.prog 71 #[.int .i64 n] w fun e w' => ∃ g F, e = .returned (.tuple #[.pointer (some ⟨g, 0, none⟩), .int .i64 0]) ∧ Own w0 w' g (newG n) F := by
  refine (New_yes n h1 h2).mono ?_
  rintro e w' ⟨g, F, rfl, hg, hF, hch⟩
  exact ⟨g, F, rfl, hg, fun k hk => Nat.le_trans hc.size (hF k hk), hc.trans hch (by simp)⟩
theorem Input_c (h : Own w0 w g G F) {G' : Gra} {r e : Int} (hr : ((doInput G).2.1 : Int) = r) (he : ((doInput G).2.2 : Int) = e) (hG : (doInput G).1 = G') :
    Calls Tryz.prog 15 #[.pointer (some ⟨g, 0, none⟩)] w fun en w' => en = .returned (.tuple #[.int .i64 r, .int .i64 e]) ∧ ∃ F', Own w0 w' g G' F' := by
  subst hr he hG
  exact (Input_g h.gin).mono fun en w' ⟨h1, h2⟩ => ⟨h1, h.to h2⟩
theorem And_c (h : Own w0 w g G F) (a b : Int) (ba : a ≤ 9223372036854775807) (bb : b ≤ 9223372036854775807) {G' : Gra} {r e : Int} (hr : ((doAnd G a b).2.1 : Int) = r) (he : ((doAnd G a b).2.2 : Int) = e) (hG : (doAnd G a b).1 = G') :
    Calls Tryz.prog 97 #[.pointer (some ⟨g, 0, none⟩), .int .i64 a, .int .i64 b] w fun en w' => en = .returned (.tuple #[.int .i64 r, .int .i64 e]) ∧ ∃ F', Own w0 w' g G' F' := by
  subst hr he hG
  exact (And_g h.gin a b ba bb).mono fun en w' ⟨h1, h2⟩ => ⟨h1, h.to h2⟩
theorem Xor_c (h : Own w0 w g G F) (a b : Int) (ba : a ≤ 9223372036854775807) (bb : b ≤ 9223372036854775807) {G' : Gra} {r e : Int} (hr : ((doXor G a b).2.1 : Int) = r) (he : ((doXor G a b).2.2 : Int) = e) (hG : (doXor G a b).1 = G') :
    Calls Tryz.prog 185 #[.pointer (some ⟨g, 0, none⟩), .int .i64 a, .int .i64 b] w fun en w' => en = .returned (.tuple #[.int .i64 r, .int .i64 e]) ∧ ∃ F', Own w0 w' g G' F' := by
  subst hr he hG
  exact (Xor_g h.gin a b ba bb).mono fun en w' ⟨h1, h2⟩ => ⟨h1, h.to h2⟩
theorem Sides_c (h : Own w0 w g G F) (a : Int) (ba : a ≤ 9223372036854775807) {l r : Int} {b : Bool} (hl : (lOf G.nodes a : Int) = l) (hr : (rOf G.nodes a : Int) = r) (hb : isAndAt G.nodes a = b) :
    Calls Tryz.prog 118 #[.pointer (some ⟨g, 0, none⟩), .int .i64 a] w fun en w' => en = .returned (.tuple #[.int .i64 l, .int .i64 r, .bool b]) ∧ Own w0 w' g G F := by
  subst hl hr hb
  exact (Sides_g h.gin a ba).mono fun en w' ⟨h1, h2⟩ => ⟨h1, h.same h2⟩
def aw1 : Gra := ⟨99, [⟨1, 0, 0, 0⟩, ⟨2, 0, 0, 0⟩]⟩
def aw2 : Gra := ⟨99, [⟨1, 0, 0, 0⟩, ⟨2, 0, 0, 0⟩, ⟨2, 0, 0, 0⟩]⟩
def aw3 : Gra := ⟨99, [⟨1, 0, 0, 0⟩, ⟨2, 0, 0, 0⟩, ⟨2, 0, 0, 0⟩, ⟨3, 2, 4, 1⟩]⟩
def aw4 : Gra := ⟨99, [⟨1, 0, 0, 0⟩, ⟨2, 0, 0, 0⟩, ⟨2, 0, 0, 0⟩, ⟨3, 2, 4, 1⟩, ⟨3, 3, 5, 1⟩]⟩
def aw5 : Gra := ⟨99, [⟨1, 0, 0, 0⟩, ⟨2, 0, 0, 0⟩, ⟨2, 0, 0, 0⟩, ⟨3, 2, 4, 1⟩, ⟨3, 3, 5, 1⟩, ⟨3, 2, 5, 1⟩, ⟨3, 3, 4, 1⟩, ⟨3, 11, 13, 2⟩]⟩
def ah1 : Gra := ⟨4, [⟨1, 0, 0, 0⟩, ⟨2, 0, 0, 0⟩]⟩
def ah2 : Gra := ⟨4, [⟨1, 0, 0, 0⟩, ⟨2, 0, 0, 0⟩, ⟨2, 0, 0, 0⟩]⟩
end
end Go.Proofs.YtdmmanfjafempaaGreat
namespace Go.Aig
def natInts (l : List Nat) : List Int := l.map fun (r : Nat) => (r : Int)
@[simp] theorem natInts_len (l : List Nat) : (natInts l).length = l.length := by simp [natInts]
end Go.Aig
namespace Go.Proofs.YtdmmanfjafempaaGreat
open Go.RowKit Go.Mem Go.Aig
theorem refs_natInts (l : List Nat) : refsCells l = intCells (natInts l) := by simp [refsCells, intCells, natInts]
/-- a word that is held: its own array, apart from the graph's blocks -/
structure Held (w0 w : World) (F : List Nat) (v : Value) (l : List Int) : Prop where
  row : row w 41 1 v l.length (intCells l)
  len : l.length ≤ 1000000
  bd : ∀ r ∈ l, -9223372036854775808 ≤ r ∧ r ≤ 9223372036854775807
  own : ∀ k, v.ownBlock = some k → w0.heap.size ≤ k ∧ k ∉ F
theorem Held.keep {w0 w w' : World} {F F' : List Nat} {v : Value} {l : List Int} (h : Held w0 w F v l) (hc : Ch F w w') (hF : ∀ k ∈ F', k ∈ F ∨ w.heap.size ≤ k) : Held w0 w' F' v l :=
  ⟨h.row.ch hc (fun k hk => (h.own k hk).2), h.len, h.bd, fun k hk => ⟨(h.own k hk).1, fun hk2 => (hF k hk2).elim (h.own k hk).2 (fun e => by have := (h.row.lt k hk).2; omega)⟩⟩
theorem Held.in {w0 w : World} {F : List Nat} {a : Option Addr} {c n : Nat} {l : List Int} (h : Held w0 w F (.slice a n c) l) (hn : l.length = n) : WVin w F ⟨a, l, c⟩ := by
  have hr := h.row
  rw [hn] at hr
  refine ⟨⟨?_, h.bd, h.len⟩, fun k hk => ?_⟩
  · exact Sl.of_ints hr (by have := h.len; omega)
  · cases a with
    | none => simp [ablk] at hk
    | some p =>
      simp only [ablk, List.mem_singleton] at hk
      subst hk
      exact ⟨(h.own p.block rfl).2, (h.row.lt p.block rfl).2⟩
theorem Held.cap {w0 w : World} {F : List Nat} {a : Option Addr} {c n : Nat} {l : List Int} (h : Held w0 w F (.slice a n c) l) : n ≤ c := by
  rcases h.row.2 with ⟨e, _⟩ | ⟨g, cap, cur, e, _, _, hle, _⟩
  · cases e; omega
  · cases e; exact hle
/-- where a walk began, and blocks that are kept as they are -/
structure Base where
  w : World
  K : List (Nat × List Value) := []
instance : Coe World Base := ⟨fun w => ⟨w, []⟩⟩
def Base.add (B : Base) (b : Nat) (xs : List Value) : Base := ⟨B.w, (b, xs) :: B.K⟩
/-- what is known along a walk: the graph, the words that are held, the blocks that are kept -/
structure Hold (w0 : Base) (w : World) (g : Nat) (G : Gra) (F : List Nat) (L : List (Value × List Int)) : Prop where
  own : Own w0.w w g G F
  held : ∀ p ∈ L, Held w0.w w F p.1 p.2
  kept : ∀ p ∈ w0.K, blk w p.1 p.2 ∧ w0.w.heap.size ≤ p.1 ∧ p.1 ∉ F
section
variable {w0 : Base} {w : World} {g : Nat} {G : Gra} {F : List Nat} {L : List (Value × List Int)}
theorem Hold.same {w' : World} (h : Hold w0 w g G F L) (hc : Ch [] w w') : Hold w0 w' g G F L :=
  ⟨h.own.same hc, fun p hp => (h.held p hp).keep (hc.mono (by simp)) (fun _ hk => .inl hk), fun p hp => ⟨(h.kept p hp).1.ch hc (by simp), (h.kept p hp).2⟩⟩
theorem Hold.keptTo {w' : World} {F' : List Nat} (h : Hold w0 w g G F L) (h2 : Ch F w w') (h3 : ∀ k ∈ F', k ∈ F ∨ w.heap.size ≤ k) : ∀ p ∈ w0.K, blk w' p.1 p.2 ∧ w0.w.heap.size ≤ p.1 ∧ p.1 ∉ F' := fun p hp => by
  obtain ⟨k1, k2, k3⟩ := h.kept p hp
  exact ⟨k1.ch h2 k3, k2, fun hin => (h3 _ hin).elim k3 (fun e => by have := k1.lt; omega)⟩
theorem Hold.to {w' : World} {G' : Gra} (h : Hold w0 w g G F L) (ht : GTo w g G' F w') : ∃ F', Hold w0 w' g G' F' L := by
  obtain ⟨F', h1, h2, h3, _⟩ := ht
  exact ⟨F', ⟨h1, fun k hk => (h3 k hk).elim (h.own.own k) (fun e => Nat.le_trans h.own.ch.size e), h.own.ch.trans h2 (fun k hk => .inr (h.own.own k hk))⟩, fun p hp => (h.held p hp).keep h2 h3, h.keptTo h2 h3⟩
theorem Hold.word {w' : World} {G' : Gra} {v : Value} {l : List Nat} (h : Hold w0 w g G F L) (ht : GVo w g G' [] F v l w') (hb : ∀ r ∈ l, r ≤ 1000000) (hl : l.length ≤ 1000000) : ∃ a c F', v = .slice a l.length c ∧ Hold w0 w' g G' F' ((.slice a l.length c, natInts l) :: L) := by
  obtain ⟨F', h1, h2, h3, h4, h5, h6⟩ := ht
  obtain ⟨a, c, rfl⟩ := row.shape h5
  obtain ⟨k1, k2⟩ := (h.to (G' := G') ⟨F', h1, h2, h3, h4⟩ : ∃ F', Hold w0 w' g G' F' L)
  refine ⟨a, c, F', rfl, ⟨⟨h1, fun k hk => (h3 k hk).elim (h.own.own k) (fun e => Nat.le_trans h.own.ch.size e), h.own.ch.trans h2 (fun k hk => .inr (h.own.own k hk))⟩, fun p hp => ?_, h.keptTo h2 h3⟩⟩
  rcases List.mem_cons.1 hp with rfl | hp
  · refine ⟨?_, by simpa using hl, fun r hr => ?_, fun k hk => ⟨Nat.le_trans h.own.ch.size (h6 k hk).1, (h6 k hk).2⟩⟩
    · simp only [natInts_len]
      rw [← refs_natInts]
      exact h5
    · obtain ⟨q, hq, rfl⟩ := List.mem_map.1 hr
      have := hb q hq
      omega
  · exact (h.held p hp).keep h2 h3
theorem Hold.new {w' : World} {v : Value} {l : List Int} (h : Hold w0 w g G F L) (ht : WNew w v (intCells l) w') (hb : ∀ r ∈ l, -9223372036854775808 ≤ r ∧ r ≤ 9223372036854775807) (hl : l.length ≤ 1000000) : ∃ a c, v = .slice a l.length c ∧ Hold w0 w' g G F ((.slice a l.length c, l) :: L) := by
  obtain ⟨h5, h6, h2⟩ := ht
  have e : (intCells l).length = l.length := by simp [intCells]
  rw [e] at h5
  obtain ⟨a, c, rfl⟩ := row.shape h5
  refine ⟨a, c, rfl, (h.same h2).own, fun p hp => ?_, (h.same h2).kept⟩
  rcases List.mem_cons.1 hp with rfl | hp
  · exact ⟨h5, hl, hb, fun k hk => ⟨Nat.le_trans h.own.ch.size (h6 k (by simpa using hk)), fun hk2 => by have := h.own.gin.lt k hk2; have := h6 k (by simpa using hk); omega⟩⟩
  · exact (h.same h2).held p hp
theorem Hold.at (h : Hold w0 w g G F L) {a : Option Addr} {n c : Nat} {l : List Int} (hp : (.slice a n c, l) ∈ L) (hn : l.length = n) : WVin w F ⟨a, l, c⟩ := (h.held _ hp).in hn
theorem Hold.sl (h : Hold w0 w g G F L) {a : Option Addr} {n c : Nat} {l : List Int} (hp : (.slice a n c, l) ∈ L) (hn : l.length = n) : Sl w a l := (h.at hp hn).ok.sl
theorem Hold.start {w0 : World} (h : Own w0 w g G F) : Hold w0 w g G F [] := ⟨h, by simp, fun p hp => by cases hp⟩
/-- a block is kept from now on -/
theorem Hold.keepB {b : Nat} {xs : List Value} (h : Hold w0 w g G F L) (hb : blk w b xs) (h0 : w0.w.heap.size ≤ b) (hF : b ∉ F) : Hold (w0.add b xs) w g G F L :=
  ⟨h.own, h.held, fun p hp => by
    rcases List.mem_cons.1 hp with rfl | hp
    · exact ⟨hb, h0, hF⟩
    · exact h.kept p hp⟩
theorem Hold.keepN {w' : World} {xs : List Value} (h : Hold w0 w g G F L) (hc : Ch [] w w') (hb : blk w' w.heap.size xs) : Hold (w0.add w.heap.size xs) w' g G F L :=
  (h.same hc).keepB hb h.own.ch.size (fun hin => Nat.lt_irrefl _ (h.own.gin.lt _ hin))
theorem Hold.dropB {b : Nat} {xs : List Value} (h : Hold (w0.add b xs) w g G F L) : Hold w0 w g G F L := ⟨h.own, h.held, fun p hp => h.kept p (List.mem_cons_of_mem _ hp)⟩
theorem Hold.kb0 {b : Nat} {xs : List Value} (h : Hold (w0.add b xs) w g G F L) : Go.Mem.blk w b xs := (h.kept (b, xs) (List.mem_cons_self ..)).1
theorem Hold.kb1 {b c : Nat} {xs ys : List Value} (h : Hold ((w0.add b xs).add c ys) w g G F L) : Go.Mem.blk w b xs := (h.kept (b, xs) (List.mem_cons_of_mem _ (List.mem_cons_self ..))).1
theorem Hold.kb {b : Nat} {xs : List Value} (h : Hold w0 w g G F L) (hm : (b, xs) ∈ w0.K) : blk w b xs := (h.kept _ hm).1
end
end Go.Proofs.YtdmmanfjafempaaGreat
namespace Go.Proofs.YtdmmanfjafempaaGreat
open Go.RowKit Go.Mem Go.Aig
section
variable {w0 : Base} {w : World} {g : Nat} {G : Gra} {F : List Nat} {L : List (Value × List Int)}
theorem Calls.word {fid : FuncId} {args : Array Value} (h : Hold w0 w g G F L) {R : Gra × List Nat × Nat} (hC : Calls Tryz.prog fid args w fun e w' => ∃ v, e = .returned (.tuple #[v, .int .i64 R.2.2]) ∧ GVo w g R.1 [] F v R.2.1 w') {G' : Gra} {l : List Nat} {e k : Nat} (hR : R = (G', l, e)) (hk : l.length = k) (hb : ∀ r ∈ l, r ≤ 1000000) (hl : k ≤ 1000000) :
    Calls Tryz.prog fid args w fun en w' => ∃ a c F', en = .returned (.tuple #[.slice a k c, .int .i64 e]) ∧ Hold w0 w' g G' F' ((.slice a k c, natInts l) :: L) := by
  subst hR hk
  refine hC.mono ?_
  rintro en w' ⟨v, rfl, hg⟩
  obtain ⟨a, c, F', rfl, hh⟩ := h.word hg hb hl
  exact ⟨a, c, F', rfl, hh⟩
theorem Calls.ref {fid : FuncId} {args : Array Value} (h : Hold w0 w g G F L) {R : Res} (hC : Calls Tryz.prog fid args w fun e w' => e = .returned (.tuple #[.int .i64 R.2.1, .int .i64 R.2.2]) ∧ GTo w g R.1 F w') {G' : Gra} {r e : Nat} (hR : R = (G', r, e)) :
    Calls Tryz.prog fid args w fun en w' => ∃ F', en = .returned (.tuple #[.int .i64 r, .int .i64 e]) ∧ Hold w0 w' g G' F' L := by
  subst hR
  refine hC.mono ?_
  rintro en w' ⟨rfl, hg⟩
  obtain ⟨F', hh⟩ := h.to hg
  exact ⟨F', rfl, hh⟩
theorem Calls.wnew {fid : FuncId} {args : Array Value} (h : Hold w0 w g G F L) {l : List Int} {e : Nat} (hC : Calls Tryz.prog fid args w fun en w' => ∃ v, en = .returned (.tuple #[v, .int .i64 e]) ∧ WNew w v (intCells l) w') {k : Nat} (hk : l.length = k) (hb : ∀ r ∈ l, -9223372036854775808 ≤ r ∧ r ≤ 9223372036854775807) (hl : k ≤ 1000000) :
    Calls Tryz.prog fid args w fun en w' => ∃ a c, en = .returned (.tuple #[.slice a k c, .int .i64 e]) ∧ Hold w0 w' g G F ((.slice a k c, l) :: L) := by
  subst hk
  refine hC.mono ?_
  rintro en w' ⟨v, rfl, hg⟩
  obtain ⟨a, c, rfl, hh⟩ := h.new hg hb hl
  exact ⟨a, c, rfl, hh⟩
theorem sNe_h (h : Hold w0 w g G F L) {xa ya : Option Addr} {xl yl : List Int} {n m xc yc : Nat} (hx : (.slice xa n xc, xl) ∈ L) (hxn : xl.length = n) (hy : (.slice ya m yc, yl) ∈ L) (hym : yl.length = m) {G' : Gra} {r e : Nat} (hR : refG G [xl, yl] (neF (G, 0) ((nats xl).zip (nats yl))) = (G', r, e)) :
    Calls Tryz.prog 130 #[.pointer (some ⟨g, 0, none⟩), .slice xa n xc, .slice ya m yc] w fun en w' => ∃ F', en = .returned (.tuple #[.int .i64 r, .int .i64 e]) ∧ Hold w0 w' g G' F' L := by
  have hc := sNe_is h.own.gin (h.at hx hxn) (h.at hy hym)
  simp only [WV.val, hxn, hym] at hc
  exact Calls.ref h hc (hR)
theorem sEq_h (h : Hold w0 w g G F L) {xa ya : Option Addr} {xl yl : List Int} {n m xc yc : Nat} (hx : (.slice xa n xc, xl) ∈ L) (hxn : xl.length = n) (hy : (.slice ya m yc, yl) ∈ L) (hym : yl.length = m) {G' : Gra} {r e : Nat} (hR : negG (refG G [xl, yl] (neF (G, 0) ((nats xl).zip (nats yl)))) = (G', r, e)) :
    Calls Tryz.prog 85 #[.pointer (some ⟨g, 0, none⟩), .slice xa n xc, .slice ya m yc] w fun en w' => ∃ F', en = .returned (.tuple #[.int .i64 r, .int .i64 e]) ∧ Hold w0 w' g G' F' L := by
  have hc := sEq_is h.own.gin (h.at hx hxn) (h.at hy hym)
  simp only [WV.val, hxn, hym] at hc
  exact Calls.ref h hc (hR)
theorem sInput_h (h : Hold w0 w g G F L) (i : Int) {G' : Gra} {l : List Nat} {e k : Nat} (hR : inG G i = (G', l, e)) (hk : l.length = k) (hb : ∀ r ∈ l, r ≤ 1000000) (hl : k ≤ 1000000) :
    Calls Tryz.prog 37 #[.pointer (some ⟨g, 0, none⟩), .int .i64 i] w fun en w' => ∃ a c F', en = .returned (.tuple #[.slice a k c, .int .i64 e]) ∧ Hold w0 w' g G' F' ((.slice a k c, natInts l) :: L) := Calls.word h (sInput_is h.own.gin i) hR hk hb hl
theorem sConst_h (h : Hold w0 w g G F L) (x : Nat) (hx : x < 4294967296) (n : Nat) (hn : rightW n = true) :
    Calls Tryz.prog 38 #[.int .u32 x, .int .i64 n] w fun en w' => ∃ a c, en = .returned (.tuple #[.slice a n c, .int .i64 0]) ∧ Hold w0 w' g G F ((.slice a n c, natInts (constL x n)) :: L) := by
  have hc := sConst_is (w := w) x hx n
  rw [hn] at hc
  simp only [if_true, refs_natInts, Int.toNat_natCast] at hc
  have hb : ∀ r ∈ natInts (constL x n), -9223372036854775808 ≤ r ∧ r ≤ 9223372036854775807 := fun r hr => by
    obtain ⟨q, hq, rfl⟩ := List.mem_map.1 hr
    obtain ⟨i, _, rfl⟩ := List.mem_map.1 hq
    cases x.testBit i <;> decide
  have hn2 : n ≤ 17 := by unfold rightW at hn; simp at hn; omega
  exact Calls.wnew h hc (by simp [constL]) hb (by omega)
theorem Eqref_h (h : Hold w0 w g G F L) {xa ya : Option Addr} {xl yl : List Int} {n m xc yc : Nat} (hx : (.slice xa n xc, xl) ∈ L) (hxn : xl.length = n) (hy : (.slice ya m yc, yl) ∈ L) (hym : yl.length = m) {q : Bool} (hq : decide (xl = yl) = q) : Calls Tryz.prog 40 #[.slice xa n xc, .slice ya m yc] w fun e w' => e = .returned (.bool q) ∧ Hold w0 w' g G F L := by
  subst hq
  have hc := Eqref_is (w := w) xc yc (h.sl hx hxn) (h.sl hy hym)
  simp only [hxn, hym] at hc
  refine hc.mono ?_
  rintro e w' ⟨rfl, hc⟩
  exact ⟨rfl, h.same hc⟩
theorem Eqref_c (h : Hold w0 w g G F L) {xa : Option Addr} {xl : List Int} {n xc : Nat} (hx : (.slice xa n xc, xl) ∈ L) (hxn : xl.length = n) {b m : Nat} {ys : List Int} (hb : blk w b (intCells ys)) (hm : ys.length = m) (hm2 : m ≤ 1000000) {q : Bool} (hq : decide (xl = ys) = q) : Calls Tryz.prog 40 #[.slice xa n xc, .slice (some ⟨b, 0, none⟩) m m] w fun e w' => e = .returned (.bool q) ∧ Hold w0 w' g G F L := by
  subst hq
  have hs : Sl w (some ⟨b, 0, none⟩) ys := ⟨fun i x hx => ⟨b, 0, rfl, by rw [Nat.zero_add]; exact hb.cell (by simp [intCells, hx])⟩, by omega⟩
  have hc := Eqref_is (w := w) xc m (h.sl hx hxn) hs
  simp only [hxn, hm] at hc
  refine hc.mono ?_
  rintro e w' ⟨rfl, hc⟩
  exact ⟨rfl, h.same hc⟩
theorem sValue_c (h : Hold w0 w g G F L) {xa : Option Addr} {xl : List Int} {n xc : Nat} (hx : (.slice xa n xc, xl) ∈ L) (hxn : xl.length = n) {b m : Nat} {l : List Bool} (hb : blk w b (l.map Value.bool)) (hm : l.length = m) (hm2 : m ≤ 1000000) {v e : Nat} (hv : (if 1 ≤ l.length ∧ l.length ≤ 16 ∧ l.length = n then bitsVal l else 0 : Nat) = v) (he : (if 1 ≤ l.length ∧ l.length ≤ 16 ∧ l.length = n then 0 else 230 : Nat) = e) :
    Calls Tryz.prog 90 #[.slice xa n xc, .slice (some ⟨b, 0, none⟩) m m] w fun en w' => en = .returned (.tuple #[.int .u32 v, .int .i64 e]) ∧ Hold w0 w' g G F L := by
  subst hv he
  have hs : Sb w (some ⟨b, 0, none⟩) l := ⟨fun i x hx => ⟨b, 0, rfl, by rw [Nat.zero_add]; exact hb.cell hx⟩, by rw [List.length_map]; omega⟩
  have hc := sValue_is (x := ⟨xa, xl, xc⟩) (h.at hx hxn).ok.len m (by omega) hs
  simp only [WV.val, hxn, hm] at hc ⊢
  refine hc.mono ?_
  rintro en w' ⟨rfl, rfl⟩
  exact ⟨rfl, h⟩
end
end Go.Proofs.YtdmmanfjafempaaGreat
namespace Go.Proofs.YtdmmanfjafempaaGreat
open Go.RowKit Go.Mem Go.Aig
def sa2 : Gra := ⟨50, [⟨1, 0, 0, 0⟩, ⟨2, 0, 0, 0⟩, ⟨2, 0, 0, 0⟩]⟩
def sa3 : Gra := ⟨50, [⟨1, 0, 0, 0⟩, ⟨2, 0, 0, 0⟩, ⟨2, 0, 0, 0⟩, ⟨2, 0, 0, 0⟩, ⟨2, 0, 0, 0⟩]⟩
def sa4 : Gra := ⟨50, [⟨1, 0, 0, 0⟩, ⟨2, 0, 0, 0⟩, ⟨2, 0, 0, 0⟩, ⟨2, 0, 0, 0⟩, ⟨2, 0, 0, 0⟩, ⟨3, 2, 7, 1⟩, ⟨3, 3, 6, 1⟩, ⟨3, 11, 13, 2⟩, ⟨3, 4, 9, 1⟩, ⟨3, 5, 8, 1⟩, ⟨3, 17, 19, 2⟩]⟩
def sa5 : Gra := ⟨50, [⟨1, 0, 0, 0⟩, ⟨2, 0, 0, 0⟩, ⟨2, 0, 0, 0⟩, ⟨2, 0, 0, 0⟩, ⟨2, 0, 0, 0⟩, ⟨3, 2, 7, 1⟩, ⟨3, 3, 6, 1⟩, ⟨3, 11, 13, 2⟩, ⟨3, 4, 9, 1⟩, ⟨3, 5, 8, 1⟩, ⟨3, 17, 19, 2⟩, ⟨3, 2, 4, 1⟩]⟩
section
theorem New_h {w : World} (n : Nat) (h1 : 1 ≤ n) (h2 : n ≤ 65536) :
    Calls Tryz.prog 71 #[.int .i64 n] w fun e w' => ∃ g F, e = .returned (.tuple #[.pointer (some ⟨g, 0, none⟩), .int .i64 0]) ∧ Hold w w' g (newG n) F [] := by
  refine (New_c (w0 := w) n h1 h2 (Ch.refl _ _)).mono ?_
  rintro e w' ⟨g, F, rfl, ho⟩
  exact ⟨g, F, rfl, .start ho⟩
theorem Hold.ch {w0 : Base} {w : World} {g : Nat} {G : Gra} {F : List Nat} {L : List (Value × List Int)} (h : Hold w0 w g G F L) : Ch [] w0.w w := h.own.ch
theorem Len_h {w0 : Base} {w : World} {g : Nat} {G : Gra} {F : List Nat} {L : List (Value × List Int)} (h : Hold w0 w g G F L) {n : Nat} (hn : G.nodes.length = n) : Calls Tryz.prog 75 #[.pointer (some ⟨g, 0, none⟩)] w fun e w' => e = .returned (.int .i64 n) ∧ Hold w0 w' g G F L := by
  subst hn
  exact (Len_g h.own.gin).mono fun e w' ⟨h1, h2⟩ => ⟨h1, h2 ▸ h⟩
theorem And_h {w0 : Base} {w : World} {g : Nat} {G : Gra} {F : List Nat} {L : List (Value × List Int)} (h : Hold w0 w g G F L) (a b : Int) (ba : a ≤ 9223372036854775807) (bb : b ≤ 9223372036854775807) {G' : Gra} {r e : Nat} (hR : doAnd G a b = (G', r, e)) :
    Calls Tryz.prog 97 #[.pointer (some ⟨g, 0, none⟩), .int .i64 a, .int .i64 b] w fun en w' => ∃ F', en = .returned (.tuple #[.int .i64 r, .int .i64 e]) ∧ Hold w0 w' g G' F' L := Calls.ref h (And_g h.own.gin a b ba bb) hR
end
end Go.Proofs.YtdmmanfjafempaaGreat
namespace Go.Aig
/-- a graph of inputs alone -/
def gIn (most n : Nat) : Gra := ⟨most, ⟨1, 0, 0, 0⟩ :: List.replicate n ⟨2, 0, 0, 0⟩⟩
/-- the references of n inputs behind s others -/
def rIn (s n : Nat) : List Nat := (List.range n).map fun i => 2 * (s + i + 1)
theorem inF_gIn (most s : Nat) : ∀ n, s + n < most → inF (gIn most s, 0) n = ((gIn most (s + n), 0), rIn s n)
  | 0, _ => rfl
  | n + 1, h => by
    rw [inF_succ, inF_gIn most s n (by omega)]
    unfold inS sPut put
    have hl : (gIn most (s + n)).nodes.length = s + n + 1 := by simp [gIn]
    dsimp only
    rw [if_neg (by rw [hl]; show ¬ most ≤ s + n + 1; omega), rstep_ok rfl rfl, hl]
    have h1 : ({ gIn most (s + n) with nodes := (gIn most (s + n)).nodes ++ [⟨2, 0, 0, 0⟩] } : Gra) = gIn most (s + (n + 1)) := by
      unfold gIn
      show (⟨most, _⟩ : Gra) = ⟨most, _⟩
      rw [List.cons_append, ← List.replicate_succ']
      rfl
    dsimp only
    rw [h1]
    congr 1
    unfold rIn
    rw [List.range_succ, List.map_append]
    rfl
theorem inG_gIn {most s n : Nat} (h1 : 1 ≤ n) (h2 : n ≤ 17) (h : s + n < most) : inG (gIn most s) n = (gIn most (s + n), rIn s n, 0) := by
  unfold inG
  have : rightW n = true := by unfold rightW; simp; omega
  rw [this, if_pos rfl]
  simp only [Int.toNat_natCast]
  rw [inF_gIn most s n h]
  rfl
@[simp] theorem rIn_len (s n : Nat) : (rIn s n).length = n := by simp [rIn]
theorem rIn_le {s n r : Nat} (h : r ∈ rIn s n) : r ≤ 2 * (s + n) ∧ 2 ≤ r ∧ r % 2 = 0 := by
  obtain ⟨i, hi, rfl⟩ := List.mem_map.1 h
  have := List.mem_range.1 hi
  omega
end Go.Aig
namespace Go.Proofs.YtdmmanfjafempaaGreat
open Go.RowKit Go.Mem Go.Aig
set_option maxRecDepth 100000 in
set_option maxHeartbeats 4000000 in
theorem Pair_is (w : World) (wd : Nat) (hw : wd ≤ 255) : Calls Tryz.prog 36 #[.int .u8 wd] w fun e w' => ∃ g F xa xc ya yc, e = .returned (.tuple #[.pointer (some ⟨g, 0, none⟩), .slice xa (wd % 5 + 1) xc, .slice ya (wd % 5 + 1) yc]) ∧
    Hold w w' g (gIn 4000 (2 * (wd % 5 + 1))) F [(.slice ya (wd % 5 + 1) yc, natInts (rIn (wd % 5 + 1) (wd % 5 + 1))), (.slice xa (wd % 5 + 1) xc, natInts (rIn 0 (wd % 5 + 1)))] := by
  obtain ⟨n, hn, hn5⟩ : ∃ n, wd % 5 + 1 = n ∧ n ≤ 5 := ⟨_, rfl, by omega⟩
  have hn1 : 1 ≤ n := by omega
  rw [hn]
  have hq : 1 + (wd : Int) % 5 = n := by omega
  have HQ := Lib.hid hq
  have hN := New_h (w := w) 4000 (by decide) (by decide)
  have HN := Lib.hid hN; clear hN
  clear hn
  go_enter Tryz.func36, Tryz.ntmps36
  go_wp2_with fail
  refine HN.out.mono ?_
  rintro e w1 ⟨g, F1, rfl, ho⟩
  have HO := Lib.hid ho; clear ho HN
  go_wp2_with fail
  refine (sInput_h HO.out n (G' := gIn 4000 n) (l := rIn 0 n) (e := 0) (k := n) (by have := inG_gIn (most := 4000) (s := 0) hn1 (by omega) (by omega); rw [Nat.zero_add] at this; exact this) (by simp) (fun r hr => by have := rIn_le hr; omega) (by omega)).mono ?_
  rintro e w2 ⟨xa, xc, F2, rfl, ho⟩
  clear HO; have HO := Lib.hid ho; clear ho
  go_wp2_with fail
  refine (sInput_h HO.out n (G' := gIn 4000 (2 * n)) (l := rIn n n) (e := 0) (k := n) (by have := inG_gIn (most := 4000) (s := n) hn1 (by omega) (by omega); rw [show n + n = 2 * n from by omega] at this; exact this) (by simp) (fun r hr => by have := rIn_le hr; omega) (by omega)).mono ?_
  rintro e w3 ⟨ya, yc, F3, rfl, ho⟩
  clear HO; have HO := Lib.hid ho; clear ho
  go_wp2_with fail
  go_ret3
  exact ⟨g, F3, xa, xc, ya, yc, rfl, HO.out⟩
end Go.Proofs.YtdmmanfjafempaaGreat
namespace Go.Aig
/-- the reference's constants: numbers that are halved -/
def rConstL (x : Int) : Nat → List Int
  | 0 => []
  | n + 1 => rConstL x n ++ [x.tdiv (2 ^ n) % 2]
def rCastL (l : List Int) (n : Nat) : List Int := (List.range n).map fun i => l.getD i 0
theorem rCastL_succ (l : List Int) (n : Nat) : rCastL l (n + 1) = rCastL l n ++ [l.getD n 0] := by
  unfold rCastL
  rw [List.range_succ, List.map_append]; rfl
def halved (x : Nat) (n : Nat) : Nat := x / 2 ^ n
def rConstN (x n : Nat) : List Nat := (List.range n).map fun i => x / 2 ^ i % 2
theorem rConstN_succ (x n : Nat) : rConstN x (n + 1) = rConstN x n ++ [x / 2 ^ n % 2] := by
  unfold rConstN
  rw [List.range_succ, List.map_append]; rfl
theorem rConstN_eq (x n : Nat) : rConstN x n = constL x n := by
  unfold rConstN constL
  refine List.map_congr_left fun i _ => ?_
  rw [Nat.testBit_eq_decide_div_mod_eq]
  rcases Nat.mod_two_eq_zero_or_one (x / 2 ^ i) with h | h <;> rw [h] <;> rfl
theorem castL_eq {l : List Int} {n : Nat} : castL l n = rCastL l n := by
  unfold castL rCastL
  apply List.ext_getElem?
  intro i
  rw [List.getElem?_append, List.length_take, List.getElem?_take, List.getElem?_replicate, List.getElem?_map]
  by_cases h : i < n
  · rw [List.getElem?_range h]
    by_cases h2 : i < l.length
    · rw [if_pos (by omega), if_pos h, List.getElem?_eq_getElem h2]
      simp [h2]
    · rw [if_neg (by omega), if_pos (by omega)]
      have h3 : l[i]? = none := List.getElem?_eq_none (by omega)
      simp [h3]
  · rw [if_neg (by omega), if_neg (by omega)]
    have : (List.range n)[i]? = none := List.getElem?_eq_none (by rw [List.length_range]; omega)
    rw [this]; rfl
end Go.Aig
namespace Go.Proofs.YtdmmanfjafempaaGreat
open Go.RowKit Go.Mem Go.Aig
theorem slBools : SliceTy Tryz.prog 55 4 1 1 (.bool false) := ⟨Tryz.underlying55, infoBool, rfl, by decide⟩
theorem eqSliceNilB (w : World) (a : Option Addr) (n c : Nat) : (binOp .eql 55 (.slice a n c) (.slice none 0 0)).run Tryz.prog w = .ok (.bool a.isNone) w := by
  have h : Tryz.prog.underlying 55 = some (.slice 4) := Tryz.underlying55
  simp only [binOp]
  simp [run_equal_slice_nil w _ _ a n c h]
attribute [local go_sem] eqSliceNilB
set_option maxRecDepth 100000 in
set_option maxHeartbeats 2000000 in
theorem Refs23_is {w : World} {a : Option Addr} {l : List Int} (n cap : Nat) (hn : l.length = n) (h : Sl w a l) (hm : n ≤ 1000000) : Calls Tryz.prog 112 #[.slice a n cap] w fun e w' => ∃ v, e = .returned v ∧ row w' 41 1 v n (intCells l) ∧ (∀ q ∈ v.ownBlock.toList, w.heap.size ≤ q) ∧ Ch [] w w' := by
  subst hn
  have H := Lib.hid h; clear h
  go_enter Tryz.func112, Tryz.ntmps112
  go_wp2_with fail
  go_loopw [3, 8] (fun o i wr => ∃ k : Nat, k ≤ l.length ∧ i = .int .i64 k ∧ Ch [] w wr ∧ row wr 41 1 o k (intCells (l.take k)) ∧ ∀ q ∈ o.ownBlock.toList, w.heap.size ≤ q) (fun _ i _ => l.length - (intOf i).toNat)
  case atStart => exact ⟨0, by omega, rfl, Ch.refl _ _, ⟨rfl, .inl ⟨rfl, rfl⟩⟩, by simp⟩
  case round =>
    obtain ⟨k, hk, rfl, hc, hrow, hlo⟩ := hrel
    obtain ⟨oa, oc, rfl⟩ := row.shape hrow
    by_cases hlt : k < l.length
    · obtain ⟨x, hx⟩ : ∃ x, l[k]? = some x := ⟨_, List.getElem?_eq_getElem hlt⟩
      have hsu : intCells (l.take (k + 1)) = intCells (l.take k) ++ [.int .i64 x] := by unfold intCells; rw [List.take_add_one, hx]; simp
      obtain ⟨xb, xo, rfl, hcl⟩ := H.out.cells k x hx
      have c0 := (hc.cell (cell_lt hcl) (by simp)).trans hcl
      have HSU := Lib.hid hsu; clear hsu hx hcl
      have hcA : Ch [] wr (wr.alloc (.cells #[.int .i64 x] 41)) := (Ch.refl _ _).alloc _
      have hrA := hrow.ch hcA (by simp)
      have hbA : blk (wr.alloc (.cells #[.int .i64 x] 41)) wr.heap.size [.int .i64 x] := blk.new' _ _ rfl
      have HRA := Lib.hid hrA; clear hrA hrow
      have HBA := Lib.hid hbA; clear hbA
      have HCA := Lib.hid hcA; clear hcA
      have HC := Lib.hid hc; clear hc
      have HLO := Lib.hid hlo; clear hlo
      go_wp2_with (at_builtin; go_loud (refine wpList_append_row slRefs rfl _ _ rfl (v := .slice oa k oc) (n := k) (xs := intCells (l.take k)) rfl HRA.out (ad := ⟨wr.heap.size, 0, none⟩) (m := 1) (c := 1) (news := [.int .i64 x]) rfl rfl (news_blk HBA.out) (by simp [Value.oneCell']) (by omega) (by omega) ?_; intro v' w4 hown4 hC4 hf4; have HO4 := Lib.hid hown4; clear hown4; have HC4 := Lib.hid hC4; clear hC4; have HF4 := Lib.hid hf4; clear hf4))
      go_roundw
      case rel =>
        obtain ⟨q1, q2⟩ := app_step HC.out HCA.out HLO.out HC4.out HF4.out
        refine ⟨k + 1, by omega, by go_num, q1, ?_, q2⟩
        rw [HSU.out]; exact HO4.out
      case measure => simp [intOf]; omega
    · have hkn : k = l.length := by omega
      rw [hkn, List.take_of_length_le (Nat.le_refl _)] at hrow
      rw [hkn] at hlo
      rw [hkn]
      have HROW := Lib.hid hrow; clear hrow
      have HLO := Lib.hid hlo; clear hlo
      have HC := Lib.hid hc; clear hc hkn
      go_wp2_with fail
      go_ret
      exact ⟨.slice oa l.length oc, rfl, HROW.out, HLO.out, HC.out⟩
set_option maxRecDepth 100000 in
set_option maxHeartbeats 2000000 in
theorem Ints23_is {w : World} {a : Option Addr} {l : List Int} (n cap : Nat) (hn : l.length = n) (h : Sl w a l) (hm : n ≤ 1000000) : Calls Tryz.prog 155 #[.slice a n cap] w fun e w' => ∃ v, e = .returned v ∧ row w' 3 1 v n (intCells l) ∧ (∀ q ∈ v.ownBlock.toList, w.heap.size ≤ q) ∧ Ch [] w w' := by
  subst hn
  have H := Lib.hid h; clear h
  go_enter Tryz.func155, Tryz.ntmps155
  go_wp2_with fail
  go_loopw [3, 8] (fun o i wr => ∃ k : Nat, k ≤ l.length ∧ i = .int .i64 k ∧ Ch [] w wr ∧ row wr 3 1 o k (intCells (l.take k)) ∧ ∀ q ∈ o.ownBlock.toList, w.heap.size ≤ q) (fun _ i _ => l.length - (intOf i).toNat)
  case atStart => exact ⟨0, by omega, rfl, Ch.refl _ _, ⟨rfl, .inl ⟨rfl, rfl⟩⟩, by simp⟩
  case round =>
    obtain ⟨k, hk, rfl, hc, hrow, hlo⟩ := hrel
    obtain ⟨oa, oc, rfl⟩ := row.shape hrow
    by_cases hlt : k < l.length
    · obtain ⟨x, hx⟩ : ∃ x, l[k]? = some x := ⟨_, List.getElem?_eq_getElem hlt⟩
      have hsu : intCells (l.take (k + 1)) = intCells (l.take k) ++ [.int .i64 x] := by unfold intCells; rw [List.take_add_one, hx]; simp
      obtain ⟨xb, xo, rfl, hcl⟩ := H.out.cells k x hx
      have c0 := (hc.cell (cell_lt hcl) (by simp)).trans hcl
      have HSU := Lib.hid hsu; clear hsu hx hcl
      have hcA : Ch [] wr (wr.alloc (.cells #[.int .i64 x] 3)) := (Ch.refl _ _).alloc _
      have hrA := hrow.ch hcA (by simp)
      have hbA : blk (wr.alloc (.cells #[.int .i64 x] 3)) wr.heap.size [.int .i64 x] := blk.new' _ _ rfl
      have HRA := Lib.hid hrA; clear hrA hrow
      have HBA := Lib.hid hbA; clear hbA
      have HCA := Lib.hid hcA; clear hcA
      have HC := Lib.hid hc; clear hc
      have HLO := Lib.hid hlo; clear hlo
      go_wp2_with (at_builtin; go_loud (refine wpList_append_row slInts rfl _ _ rfl (v := .slice oa k oc) (n := k) (xs := intCells (l.take k)) rfl HRA.out (ad := ⟨wr.heap.size, 0, none⟩) (m := 1) (c := 1) (news := [.int .i64 x]) rfl rfl (news_blk HBA.out) (by simp [Value.oneCell']) (by omega) (by omega) ?_; intro v' w4 hown4 hC4 hf4; have HO4 := Lib.hid hown4; clear hown4; have HC4 := Lib.hid hC4; clear hC4; have HF4 := Lib.hid hf4; clear hf4))
      go_roundw
      case rel =>
        obtain ⟨q1, q2⟩ := app_step HC.out HCA.out HLO.out HC4.out HF4.out
        refine ⟨k + 1, by omega, by go_num, q1, ?_, q2⟩
        rw [HSU.out]; exact HO4.out
      case measure => simp [intOf]; omega
    · have hkn : k = l.length := by omega
      rw [hkn, List.take_of_length_le (Nat.le_refl _)] at hrow
      rw [hkn] at hlo
      rw [hkn]
      have HROW := Lib.hid hrow; clear hrow
      have HLO := Lib.hid hlo; clear hlo
      have HC := Lib.hid hc; clear hc hkn
      go_wp2_with fail
      go_ret
      exact ⟨.slice oa l.length oc, rfl, HROW.out, HLO.out, HC.out⟩
section
variable {w : World}
set_option maxRecDepth 100000 in
set_option maxHeartbeats 2000000 in
theorem r23Const_is (x : Nat) (hx : x < 4294967296) (n : Nat) (hn : n ≤ 17) : Calls Tryz.prog 180 #[.int .i64 x, .int .i64 n] w fun e w' => ∃ v, e = .returned v ∧ row w' 3 1 v n (refsCells (rConstN x n)) ∧ (∀ q ∈ v.ownBlock.toList, w.heap.size ≤ q) ∧ Ch [] w w' := by
  go_enter Tryz.func180, Tryz.ntmps180
  go_wp2_with fail
  go_loopw [0, 5, 6] (fun y o i wr => ∃ k : Nat, k ≤ n ∧ i = .int .i64 k ∧ y = .int .i64 ((x / 2 ^ k : Nat) : Int) ∧ Ch [] w wr ∧ row wr 3 1 o k (refsCells (rConstN x k)) ∧ ∀ q ∈ o.ownBlock.toList, w.heap.size ≤ q) (fun _ _ i _ => n - (intOf i).toNat)
  case atStart => exact ⟨0, by omega, rfl, by simp, Ch.refl _ _, ⟨rfl, .inl ⟨rfl, rfl⟩⟩, by simp⟩
  case round =>
    obtain ⟨k, hk, rfl, rfl, hc, hrow, hlo⟩ := hrel
    obtain ⟨oa, oc, rfl⟩ := row.shape hrow
    by_cases hlt : k < n
    · have hsu : refsCells (rConstN x (k + 1)) = refsCells (rConstN x k) ++ [.int .i64 ((x / 2 ^ k % 2 : Nat) : Int)] := by rw [rConstN_succ]; simp [refsCells]
      have hy : x / 2 ^ k < 4294967296 := Nat.lt_of_le_of_lt (Nat.div_le_self _ _) hx
      have hy2 : x / 2 ^ (k + 1) = x / 2 ^ k / 2 := by rw [Nat.pow_succ, Nat.div_div_eq_div_mul]
      generalize hX : x / 2 ^ k = X at *
      clear hX
      have HSU := Lib.hid hsu; clear hsu
      have HY2 := Lib.hid hy2; clear hy2
      have HC := Lib.hid hc; clear hc
      have HLO := Lib.hid hlo; clear hlo
      have hcA : Ch [] wr (wr.alloc (.cells #[.int .i64 ((X : Int) % 2)] 3)) := (Ch.refl _ _).alloc _
      have hrA := hrow.ch hcA (by simp)
      have hbA : blk (wr.alloc (.cells #[.int .i64 ((X : Int) % 2)] 3)) wr.heap.size [.int .i64 ((X : Int) % 2)] := blk.new' _ _ rfl
      have HRA := Lib.hid hrA; clear hrA hrow
      have HBA := Lib.hid hbA; clear hbA
      have HCA := Lib.hid hcA; clear hcA
      go_wp2_with (at_builtin; go_loud (refine wpList_append_row slInts rfl _ _ rfl (v := .slice oa k oc) (n := k) (xs := refsCells (rConstN x k)) rfl HRA.out (ad := ⟨wr.heap.size, 0, none⟩) (m := 1) (c := 1) (news := [.int .i64 ((X : Int) % 2)]) rfl rfl (news_blk HBA.out) (by simp [Value.oneCell']) (by omega) (by omega) ?_; intro v' w4 hown4 hC4 hf4; have HO4 := Lib.hid hown4; clear hown4; have HC4 := Lib.hid hC4; clear hC4; have HF4 := Lib.hid hf4; clear hf4))
      go_roundw
      case rel =>
        obtain ⟨q1, q2⟩ := app_step HC.out HCA.out HLO.out HC4.out HF4.out
        refine ⟨k + 1, by omega, by go_num, by rw [HY2.out]; go_num, q1, ?_, q2⟩
        rw [HSU.out]; exact HO4.out
      case measure => simp [intOf]; omega
    · have hkn : k = n := by omega
      subst hkn
      have HROW := Lib.hid hrow; clear hrow
      have HLO := Lib.hid hlo; clear hlo
      have HC := Lib.hid hc; clear hc
      go_wp2_with fail
      go_ret
      exact ⟨.slice oa k oc, rfl, HROW.out, HLO.out, HC.out⟩
end
end Go.Proofs.YtdmmanfjafempaaGreat
namespace Go.Proofs.YtdmmanfjafempaaGreat
open Go.RowKit Go.Mem Go.Aig
theorem takeB_succ {xs ys : List Bool} {k : Nat} {x y : Bool} (h : xs.take k = ys.take k) (hx : xs[k]? = some x) (hy : ys[k]? = some y) (e : x = y) : xs.take (k + 1) = ys.take (k + 1) := by
  rw [List.take_add_one, List.take_add_one, h, hx, hy, e]
theorem rowBlk {w : World} {e : TypeId} {a : Option Addr} {n c : Nat} {xs : List Value} (h : row w e 1 (.slice a n c) n xs) : ∀ j, j < n → ∃ (b : Nat) (ys : List Value), a = some ⟨b, 0, none⟩ ∧ blk w b ys ∧ n ≤ ys.length := by
  intro j hj
  rcases h.2 with ⟨e1, _⟩ | ⟨b, cap, cur, e1, _, hg, hle, _, hs, _⟩
  · cases e1; omega
  · cases e1
    exact ⟨b, cur.toList, rfl, ⟨e, by simpa using hg⟩, by simp; omega⟩
section
variable {w : World}
end
end Go.Proofs.YtdmmanfjafempaaGreat
namespace Go.Proofs.YtdmmanfjafempaaGreat
open Go.ChangeShapes Go.WideShapes Go.ChangeAt Go.RowKit Go.Mem Go.Aig Go.Deep
theorem own : ownKnob Tryz.prog.godebug = none := by kernel_rfl
theorem laidOut : laidOutB Tryz.prog = true := by kernel_rfl
theorem list_of {α : Type} (P : Nat → α → Prop) : ∀ (n : Nat), (∀ i, i < n → ∃ x, P i x) → ∃ l : List α, l.length = n ∧ ∀ i x, l[i]? = some x → P i x
  | 0, _ => ⟨[], rfl, by simp⟩
  | n + 1, h => by
    obtain ⟨l, hl, hp⟩ := list_of P n (fun i hi => h i (by omega))
    obtain ⟨x, hx⟩ := h n (by omega)
    refine ⟨l ++ [x], by simp [hl], fun i y hy => ?_⟩
    by_cases hi : i < n
    · rw [List.getElem?_append_left (by omega)] at hy; exact hp i y hy
    · have hlt := (List.getElem?_eq_some_iff.1 hy).1
      simp at hlt
      have : i = n := by omega
      subst this
      rw [List.getElem?_append_right (by omega)] at hy
      simp [hl] at hy
      subst hy; exact hx
section
variable {H : Type} {enc : TypeId × Value → H} {W : World}
theorem wf_u8 {n : Int} (h : (Lit.int .u8 n).wf = true) : ∃ m : Nat, n = m ∧ m ≤ 255 := by
  have : 0 ≤ n ∧ n ≤ 255 := by simpa [Lit.wf, IntKind.min, IntKind.max, IntKind.signed, IntKind.bits] using h
  exact ⟨n.toNat, by omega, by omega⟩
theorem wf_i64 {z : Int} (h : (Lit.int .i64 z).wf = true) : -9223372036854775808 ≤ z ∧ z ≤ 9223372036854775807 := by
  simpa [Lit.wf, IntKind.min, IntKind.max, IntKind.signed, IntKind.bits] using h
theorem wf_u32 {n : Int} (h : (Lit.int .u32 n).wf = true) : ∃ m : Nat, n = m ∧ m < 4294967296 := by
  have : 0 ≤ n ∧ n ≤ 4294967295 := by simpa [Lit.wf, IntKind.min, IntKind.max, IntKind.signed, IntKind.bits] using h
  exact ⟨n.toNat, by omega, by omega⟩
/-- a slice of numbers that came in -/
structure IntS (w : World) (a : Option Addr) (n cap : Nat) (l : List Int) : Prop where
  sl : Sl w a l
  len : l.length = n
  bd : ∀ r ∈ l, -9223372036854775808 ≤ r ∧ r ≤ 9223372036854775807
  le : n ≤ cap
  max : cap ≤ 9223372036854775807
structure BoolS (w : World) (a : Option Addr) (n cap : Nat) (l : List Bool) : Prop where
  sl : Sb w a l
  len : l.length = n
  le : n ≤ cap
  max : cap ≤ 9223372036854775807
set_option maxRecDepth 100000 in
theorem ints_open {fuel : Nat} {c : Value} {x : DataW H × List MemPlace} (hf : DataW.trod enc Tryz.prog W 0 (fun _ => true) true fuel 26 [c] = some x) :
    ∃ (a : Option Addr) (len cap : Nat) (L : List Int), c = .slice a len cap ∧ Sl W a L ∧ L.length = len ∧ (∀ z ∈ L, -9223372036854775808 ≤ z ∧ z ≤ 9223372036854775807) ∧ len ≤ cap ∧ cap ≤ 9223372036854775807 := by
  rcases open_slice Tryz.underlying26 hf with ⟨hcs, _⟩ | ⟨y, l, cp, m, n, D, Pl, hcs, _, hl, hm, hmm, _, hi⟩
  · simp at hcs
    subst hcs
    exact ⟨none, 0, 0, [], rfl, ⟨by simp, by simp⟩, rfl, by simp, by omega, by omega⟩
  · simp at hcs
    subst hcs
    have hm' : cp ≤ 9223372036854775807 := by unfold maxLen at hm; exact hm
    have hC : Tryz.prog.cellsOf 3 = 1 := by kernel_rfl
    have hspot : 0 < l → y.spot = none := fun h0 => by
      obtain ⟨cs', hc, _⟩ := hi 0 (by rw [hmm]; simp; omega)
      rw [hC] at hc
      obtain ⟨_, hcl, hat⟩ := World.cells?_some hc
      have e0 := hat 0 (by omega)
      rw [List.getElem?_eq_getElem (by omega)] at e0
      simpa [Addr.add] using World.cell?_spot e0
    have key : ∀ i, i < l → ∃ z : Int, (∃ b o, (some y : Option Addr) = some ⟨b, o, none⟩ ∧ W.cell? ⟨b, o + i, none⟩ = some (.int .i64 z)) ∧ (-9223372036854775808 ≤ z ∧ z ≤ 9223372036854775807) := by
      intro i hlt
      obtain ⟨cs', hc, ht⟩ := hi i (by rw [hmm]; simp; omega)
      rw [hC] at hc
      obtain ⟨_, hcl, hat⟩ := World.cells?_some hc
      match cs', hcl with
      | [c0], _ =>
        obtain ⟨z, hz, _, hw⟩ := DataW.trod_int Tryz.underlying3 ht
        have hb := wf_i64 hw
        simp at hz
        subst hz
        have e0 := hat 0 (by omega)
        simp at e0
        obtain ⟨b, o, spot⟩ := y
        have hsp : spot = none := hspot (by omega)
        subst hsp
        simp only [Addr.add_lit] at e0
        exact ⟨z, ⟨b, o, rfl, by simpa using e0⟩, hb⟩
    obtain ⟨ll, hll, hp⟩ := list_of _ l key
    refine ⟨some y, l, cp, ll, rfl, ⟨fun i s hs => (hp i s hs).1, by omega⟩, hll, fun s hs => ?_, hl, hm'⟩
    obtain ⟨i, hi2⟩ := List.mem_iff_getElem?.1 hs
    exact (hp i s hi2).2
theorem intS_open {a : Option Addr} {len cap : Nat} {d : DataW H} {p : List MemPlace} (h : DataW.Trod enc Tryz.prog W 0 (fun _ => true) true 26 (.slice a len cap) d p) : ∃ l, IntS W a len cap l := by
  obtain ⟨fuel, hf⟩ := h
  obtain ⟨a', len', cap', L, e, h1, h2, h3, h4, h5⟩ := ints_open (c := .slice a len cap) (by simpa [Value.cells] using hf)
  cases e
  exact ⟨L, h1, h2, h3, h4, h5⟩
end
end Go.Proofs.YtdmmanfjafempaaGreat
namespace Go.Proofs.YtdmmanfjafempaaGreat
open Go.ChangeShapes Go.WideShapes Go.ChangeAt Go.RowKit Go.Mem Go.Aig Go.Deep
/-- a slice of numbers that came in -/
structure U32S (w : World) (a : Option Addr) (n cap : Nat) (l : List Nat) : Prop where
  sv : Sv w a (l.map fun (x : Nat) => .int .u32 x)
  len : l.length = n
  bd : ∀ x ∈ l, x < 4294967296
  le : n ≤ cap
  max : cap ≤ 9223372036854775807
section
variable {H : Type} {enc : TypeId × Value → H} {W : World}
set_option maxRecDepth 100000 in
theorem u32s_open {a : Option Addr} {len cap : Nat} {d : DataW H} {p : List MemPlace} (h : DataW.Trod enc Tryz.prog W 0 (fun _ => true) true 37 (.slice a len cap) d p) : ∃ l, U32S W a len cap l := by
  obtain ⟨fuel, hf⟩ := h
  rcases open_slice Tryz.underlying37 hf with ⟨hcs, _⟩ | ⟨y, l, cp, m, n, D, Pl, hcs, _, hl, hm, hmm, _, hi⟩
  · simp [Value.cells] at hcs
    obtain ⟨rfl, rfl, rfl⟩ := hcs
    exact ⟨[], ⟨by simp, by simp⟩, rfl, by simp, by omega, by omega⟩
  · simp [Value.cells] at hcs
    obtain ⟨rfl, rfl, rfl⟩ := hcs
    have hm' : cap ≤ 9223372036854775807 := by unfold maxLen at hm; exact hm
    have hC : Tryz.prog.cellsOf 27 = 1 := by kernel_rfl
    have hspot : 0 < len → y.spot = none := fun h0 => by
      obtain ⟨cs', hc, _⟩ := hi 0 (by rw [hmm]; simp; omega)
      rw [hC] at hc
      obtain ⟨_, hcl, hat⟩ := World.cells?_some hc
      have e0 := hat 0 (by omega)
      rw [List.getElem?_eq_getElem (by omega)] at e0
      simpa [Addr.add] using World.cell?_spot e0
    have key : ∀ i, i < len → ∃ z : Nat, (∃ b o, (some y : Option Addr) = some ⟨b, o, none⟩ ∧ W.cell? ⟨b, o + i, none⟩ = some (.int .u32 z)) ∧ z < 4294967296 := by
      intro i hlt
      obtain ⟨cs', hc, ht⟩ := hi i (by rw [hmm]; simp; omega)
      rw [hC] at hc
      obtain ⟨_, hcl, hat⟩ := World.cells?_some hc
      match cs', hcl with
      | [c0], _ =>
        obtain ⟨z, hz, _, hw⟩ := DataW.trod_int Tryz.underlying27 ht
        obtain ⟨m, rfl, hb⟩ := wf_u32 hw
        simp at hz
        subst hz
        have e0 := hat 0 (by omega)
        simp at e0
        obtain ⟨b, o, spot⟩ := y
        have hsp : spot = none := hspot (by omega)
        subst hsp
        simp only [Addr.add_lit] at e0
        exact ⟨m, ⟨b, o, rfl, by simpa using e0⟩, hb⟩
    obtain ⟨ll, hll, hp⟩ := list_of _ len key
    refine ⟨ll, ⟨fun i s hs => ?_, by rw [List.length_map]; omega⟩, hll, fun s hs => ?_, hl, hm'⟩
    · rw [List.getElem?_map, Option.map_eq_some_iff] at hs
      obtain ⟨q, hq, rfl⟩ := hs
      exact (hp i q hq).1
    · obtain ⟨i, hi2⟩ := List.mem_iff_getElem?.1 hs
      exact (hp i s hi2).2
end
end Go.Proofs.YtdmmanfjafempaaGreat
namespace Go.Aig
def right26 (n : Int) : Bool := decide (1 ≤ n) && decide (n ≤ 16)
def array26 (n : Int) : Bool := decide (1 ≤ n) && decide (n ≤ 256)
end Go.Aig
namespace Go.Proofs.YtdmmanfjafempaaGreat
open Go.RowKit Go.Mem Go.Aig
abbrev mzW : Value := .slice none 0 0
abbrev mzL : Value := .slice none 0 0
abbrev mzR : Value := .int .i64 0
/-- what build leaves: the graph as it was made, with what is made; or as it was -/
def MB (w : World) (g : Nat) (G : Gra) (F : List Nat) (s : Mk) (Post : Value → List Nat → World → Prop) (z v : Value) (w' : World) : Prop :=
  ∃ F', GIn w' g (if s.2 = 0 then s.1 else G) F' ∧ Ch F w w' ∧ (∀ k ∈ F', k ∈ F ∨ w.heap.size ≤ k) ∧ F'[2]? = F[2]? ∧ (s.2 = 0 → Post v F' w') ∧ (s.2 ≠ 0 → v = z)
section
variable {w : World} {g m : Nat} {G : Gra} {F : List Nat}
set_option maxRecDepth 100000 in
set_option maxHeartbeats 1000000 in
theorem mright_is (n : Int) : Calls Tryz.prog 92 #[.int .i64 n] w fun e w' => e = .returned (.bool (right26 n)) ∧ w = w' := by
  unfold right26
  by_cases h : 1 ≤ n
  · have h1 : decide ((1 : Int) ≤ n) = true := decide_eq_true h
    go_enter Tryz.func92, Tryz.ntmps92
    go_wp2_with fail
    go_ret
    exact ⟨by rw [h1]; rfl, rfl⟩
  · have h1 : decide ((1 : Int) ≤ n) = false := decide_eq_false h
    go_enter Tryz.func92, Tryz.ntmps92
    go_wp2_with fail
    go_ret
    exact ⟨rfl, rfl⟩
set_option maxRecDepth 100000 in
set_option maxHeartbeats 1000000 in
theorem marray_is (n : Int) : Calls Tryz.prog 76 #[.int .i64 n] w fun e w' => e = .returned (.bool (array26 n)) ∧ w = w' := by
  unfold array26
  by_cases h : 1 ≤ n
  · have h1 : decide ((1 : Int) ≤ n) = true := decide_eq_true h
    go_enter Tryz.func76, Tryz.ntmps76
    go_wp2_with fail
    go_ret
    exact ⟨by rw [h1]; rfl, rfl⟩
  · have h1 : decide ((1 : Int) ≤ n) = false := decide_eq_false h
    go_enter Tryz.func76, Tryz.ntmps76
    go_wp2_with fail
    go_ret
    exact ⟨rfl, rfl⟩
set_option maxRecDepth 100000 in
set_option maxHeartbeats 1000000 in
theorem mnote_is {e : Nat} (hb : blk w m [.pointer (some ⟨g, 0, none⟩), .int .i64 e]) (r : Int) (f : Nat) :
    Calls Tryz.prog 86 #[.pointer (some ⟨m, 0, none⟩), .int .i64 r, .int .i64 f] w fun x w' => x = .returned (.int .i64 r) ∧ blk w' m [.pointer (some ⟨g, 0, none⟩), .int .i64 ((if e = 0 then f else e : Nat) : Int)] ∧ Ch [m] w w' := by
  have m1 := hb.cell (i := 1) rfl
  have m1f := hb.frozen (i := 1)
  have HB := Lib.hid hb; clear hb
  by_cases he : e = 0
  · subst he
    rw [if_pos rfl]
    go_enter Tryz.func86, Tryz.ntmps86
    go_wp2_with fail
    go_ret
    exact ⟨rfl, HB.out.set (i := 1) _, (Ch.refl _ _).setCell (by simp) _⟩
  · have hq : ((e : Int) == 0) = false := beqN (by omega)
    rw [if_neg he]
    go_enter Tryz.func86, Tryz.ntmps86
    go_wp2_with fail
    go_ret
    exact ⟨rfl, HB.out, Ch.refl _ _⟩
set_option maxRecDepth 100000 in
set_option maxHeartbeats 2000000 in
theorem mbuildW_is (h : GIn w g G F) (fid : Nat) (caps : Array Value) (hfn : Fnv fid) (s : Mk) (Post : Value → List Nat → World → Prop)
    (hf : ∀ W m, w.heap.size ≤ m → Ch [] w W → MIn W g m (G, 0) F → Calls Tryz.prog fid (#[.pointer (some ⟨m, 0, none⟩)] ++ caps) W fun e W' => ∃ v P F', e = .returned v ∧ Sim G P s ∧ MIn W' g m P F' ∧ Ch (m :: F) W W' ∧ (∀ k ∈ F', k ∈ F ∨ W.heap.size ≤ k) ∧ F'[2]? = F[2]? ∧ (s.2 = 0 → Post v F' W')) :
    Calls Tryz.prog 78 #[.pointer (some ⟨g, 0, none⟩), .func (.func fid) #[] caps] w fun e w' => ∃ v, e = .returned (.tuple #[v, .int .i64 s.2]) ∧ MB w g G F s Post mzW v w' := by
  have HL := Len_g h
  have hg := h.lt
  have hok := h.ok
  have hroom := h.ok.room
  have hmost := h.ok.most
  have hms : MIn (w.alloc (.cells #[.pointer (some ⟨g, 0, none⟩), .int .i64 0] 177)) g w.heap.size (G, 0) F := ⟨h.same ((Ch.refl [] _).alloc _) (by simp), blk.new' _ _ rfl, fun hm => by have := hg _ hm; omega⟩
  have HF := hf _ w.heap.size (Nat.le_refl _) ((Ch.refl _ _).alloc _) hms
  have hcf : ∀ args w, (callFunc fid args).run Tryz.prog w = .ok (.enter fid args) w := hfn
  have H := Lib.hid h; clear h
  have HG := Lib.hid hg; clear hg
  have HOK := Lib.hid hok; clear hok
  clear hf hms
  go_enter Tryz.func78, Tryz.ntmps78
  go_wp2_with fail
  refine HL.mono ?_
  rintro e w' ⟨rfl, rfl⟩
  go_wp2_with fail
  refine HF.mono ?_
  rintro e w1 ⟨v, P, F', rfl, hsim, hm, hc, hF', hF2, hpost⟩
  have m1 := hm.bk.cell (i := 1) rfl
  have hc0 : Ch F w w1 := (((Ch.refl F w).alloc (.cells #[.pointer (some ⟨g, 0, none⟩), .int .i64 0] 177))).trans hc (fun k hk => by
    simp only [List.mem_cons] at hk
    rcases hk with rfl | hk
    · right; omega
    · exact .inl hk)
  have hz := hc0.size
  have hF0 : ∀ k ∈ F', k ∈ F ∨ w.heap.size ≤ k := fun k hk => (hF' k hk).imp id (fun e => by simp at e; omega)
  have hrel := hsim.rel
  have hext := hsim.ext
  have HPOST := Lib.hid hpost; clear hpost
  have HC0 := Lib.hid hc0; clear hc0
  have HF0 := Lib.hid hF0; clear hF0
  have HM := Lib.hid hm; clear hm
  have HEXT := Lib.hid hext; clear hext
  clear hc hF' hsim
  rcases hrel with ⟨he, rfl⟩ | ⟨he, hp⟩
  · rw [he] at m1
    clear HOK
    have HE := Lib.hid he; clear he
    go_wp2_with fail
    go_ret2
    exact ⟨_, by rw [HE.out]; rfl, F', by rw [if_pos HE.out]; exact HM.out.gin, HC0.out, HF0.out, hF2, fun _ => HPOST.out HE.out, fun h => absurd HE.out h⟩
  · rw [hp] at m1
    have hcut := Cut_g HM.out.gin G.nodes.length (by omega) (by omega)
    rw [doCut_back HOK.out HEXT.out] at hcut
    have hmlt := HM.out.bk.lt
    have hmF := HM.out.apart
    have HE := Lib.hid he; clear he
    have HP := Lib.hid hp; clear hp
    have HMF := Lib.hid hmF; clear hmF
    go_wp2_with fail
    refine hcut.mono ?_
    rintro e w4 ⟨rfl, F4, hg4, hc4, hF4, hF42⟩
    have hm4 : w4.cell? ⟨w.heap.size, 1, none⟩ = some (.int .i64 201) := (hc4.cell (p := ⟨w.heap.size, 1, none⟩) hmlt HMF.out).trans m1
    clear m1
    have HG4 := Lib.hid hg4; clear hg4
    have HC4 := Lib.hid hc4; clear hc4
    have HF4 := Lib.hid hF4; clear hF4
    go_wp2_with fail
    refine Ord.St.door (fun _ => True) [.fl, .fl, .fl, .fl, .rd, .fl, .fl] [0, 0, 2, 6, 14, 1, 63] [0, 1, 2, 3, 4, 5, 6] mixed (by kernel_rfl) rfl ?_
    refine Ord.St.fl2 (T' := ?_) 0 [1, 2, 3, 4, 5, 6] _ _ rfl (by kernel_rfl) rfl rfl rfl rfl (fun K w' hk => ?_) ?_
    rotate_left
    · go_step; exact hk
    refine Ord.St.fl2 (T' := ?_) 1 [2, 3, 4, 5, 6] _ _ rfl (by kernel_rfl) rfl rfl rfl rfl (fun K w' hk => ?_) ?_
    rotate_left
    · go_step; exact hk
    refine Ord.St.fl2 (T' := ?_) 2 [3, 4, 5, 6] _ _ rfl (by kernel_rfl) rfl rfl rfl rfl (fun K w' hk => ?_) ?_
    rotate_left
    · go_step; exact hk
    refine Ord.St.fl2 (T' := ?_) 3 [4, 5, 6] _ _ rfl (by kernel_rfl) rfl rfl rfl rfl (fun K w' hk => ?_) ?_
    rotate_left
    · go_step; exact hk
    refine Ord.St.rd2 (T' := ?_) 4 [5, 6] _ _ rfl (by kernel_rfl) rfl rfl rfl rfl (fun K hk => ?_) ?_
    rotate_left
    · go_step; exact hk
    refine Ord.St.fl2 (T' := ?_) 5 [6] _ _ rfl (by kernel_rfl) rfl rfl rfl rfl (fun K w' hk => ?_) ?_
    rotate_left
    · go_step; exact hk
    refine Ord.St.fl2 (T' := ?_) 6 [] _ _ rfl (by kernel_rfl) rfl rfl rfl rfl (fun K w' hk => ?_) ?_
    rotate_left
    · go_step; exact hk
    refine Ord.St.nil ?_
    go_wp2_with fail
    go_ret2
    refine ⟨_, by rw [HE.out]; rfl, F4, by rw [if_neg (by rw [HE.out]; omega)]; exact HG4.out.same (F' := []) (Ch.refl _ _).drew (by simp), HC0.out.trans HC4.out.drew (fun k hk => HF0.out k hk), fun k hk => ?_, hF42.trans hF2, fun h => absurd h (by rw [HE.out]; omega), fun _ => rfl⟩
    rcases HF4.out k hk with e | e
    · exact HF0.out k e
    · exact .inr (by omega)
set_option maxRecDepth 100000 in
set_option maxHeartbeats 2000000 in
theorem mbuildL_is (h : GIn w g G F) (fid : Nat) (caps : Array Value) (hfn : Fnv fid) (s : Mk) (Post : Value → List Nat → World → Prop)
    (hf : ∀ W m, w.heap.size ≤ m → Ch [] w W → MIn W g m (G, 0) F → Calls Tryz.prog fid (#[.pointer (some ⟨m, 0, none⟩)] ++ caps) W fun e W' => ∃ v P F', e = .returned v ∧ Sim G P s ∧ MIn W' g m P F' ∧ Ch (m :: F) W W' ∧ (∀ k ∈ F', k ∈ F ∨ W.heap.size ≤ k) ∧ F'[2]? = F[2]? ∧ (s.2 = 0 → Post v F' W')) :
    Calls Tryz.prog 95 #[.pointer (some ⟨g, 0, none⟩), .func (.func fid) #[] caps] w fun e w' => ∃ v, e = .returned (.tuple #[v, .int .i64 s.2]) ∧ MB w g G F s Post mzL v w' := by
  have HL := Len_g h
  have hg := h.lt
  have hok := h.ok
  have hroom := h.ok.room
  have hmost := h.ok.most
  have hms : MIn (w.alloc (.cells #[.pointer (some ⟨g, 0, none⟩), .int .i64 0] 177)) g w.heap.size (G, 0) F := ⟨h.same ((Ch.refl [] _).alloc _) (by simp), blk.new' _ _ rfl, fun hm => by have := hg _ hm; omega⟩
  have HF := hf _ w.heap.size (Nat.le_refl _) ((Ch.refl _ _).alloc _) hms
  have hcf : ∀ args w, (callFunc fid args).run Tryz.prog w = .ok (.enter fid args) w := hfn
  have H := Lib.hid h; clear h
  have HG := Lib.hid hg; clear hg
  have HOK := Lib.hid hok; clear hok
  clear hf hms
  go_enter Tryz.func95, Tryz.ntmps95
  go_wp2_with fail
  refine HL.mono ?_
  rintro e w' ⟨rfl, rfl⟩
  go_wp2_with fail
  refine HF.mono ?_
  rintro e w1 ⟨v, P, F', rfl, hsim, hm, hc, hF', hF2, hpost⟩
  have m1 := hm.bk.cell (i := 1) rfl
  have hc0 : Ch F w w1 := (((Ch.refl F w).alloc (.cells #[.pointer (some ⟨g, 0, none⟩), .int .i64 0] 177))).trans hc (fun k hk => by
    simp only [List.mem_cons] at hk
    rcases hk with rfl | hk
    · right; omega
    · exact .inl hk)
  have hz := hc0.size
  have hF0 : ∀ k ∈ F', k ∈ F ∨ w.heap.size ≤ k := fun k hk => (hF' k hk).imp id (fun e => by simp at e; omega)
  have hrel := hsim.rel
  have hext := hsim.ext
  have HPOST := Lib.hid hpost; clear hpost
  have HC0 := Lib.hid hc0; clear hc0
  have HF0 := Lib.hid hF0; clear hF0
  have HM := Lib.hid hm; clear hm
  have HEXT := Lib.hid hext; clear hext
  clear hc hF' hsim
  rcases hrel with ⟨he, rfl⟩ | ⟨he, hp⟩
  · rw [he] at m1
    clear HOK
    have HE := Lib.hid he; clear he
    go_wp2_with fail
    go_ret2
    exact ⟨_, by rw [HE.out]; rfl, F', by rw [if_pos HE.out]; exact HM.out.gin, HC0.out, HF0.out, hF2, fun _ => HPOST.out HE.out, fun h => absurd HE.out h⟩
  · rw [hp] at m1
    have hcut := Cut_g HM.out.gin G.nodes.length (by omega) (by omega)
    rw [doCut_back HOK.out HEXT.out] at hcut
    have hmlt := HM.out.bk.lt
    have hmF := HM.out.apart
    have HE := Lib.hid he; clear he
    have HP := Lib.hid hp; clear hp
    have HMF := Lib.hid hmF; clear hmF
    go_wp2_with fail
    refine hcut.mono ?_
    rintro e w4 ⟨rfl, F4, hg4, hc4, hF4, hF42⟩
    have hm4 : w4.cell? ⟨w.heap.size, 1, none⟩ = some (.int .i64 201) := (hc4.cell (p := ⟨w.heap.size, 1, none⟩) hmlt HMF.out).trans m1
    clear m1
    have HG4 := Lib.hid hg4; clear hg4
    have HC4 := Lib.hid hc4; clear hc4
    have HF4 := Lib.hid hF4; clear hF4
    go_wp2_with fail
    refine Ord.St.door (fun _ => True) [.fl, .fl, .fl, .fl, .rd, .fl, .fl] [0, 0, 2, 6, 14, 1, 63] [0, 1, 2, 3, 4, 5, 6] mixed (by kernel_rfl) rfl ?_
    refine Ord.St.fl2 (T' := ?_) 0 [1, 2, 3, 4, 5, 6] _ _ rfl (by kernel_rfl) rfl rfl rfl rfl (fun K w' hk => ?_) ?_
    rotate_left
    · go_step; exact hk
    refine Ord.St.fl2 (T' := ?_) 1 [2, 3, 4, 5, 6] _ _ rfl (by kernel_rfl) rfl rfl rfl rfl (fun K w' hk => ?_) ?_
    rotate_left
    · go_step; exact hk
    refine Ord.St.fl2 (T' := ?_) 2 [3, 4, 5, 6] _ _ rfl (by kernel_rfl) rfl rfl rfl rfl (fun K w' hk => ?_) ?_
    rotate_left
    · go_step; exact hk
    refine Ord.St.fl2 (T' := ?_) 3 [4, 5, 6] _ _ rfl (by kernel_rfl) rfl rfl rfl rfl (fun K w' hk => ?_) ?_
    rotate_left
    · go_step; exact hk
    refine Ord.St.rd2 (T' := ?_) 4 [5, 6] _ _ rfl (by kernel_rfl) rfl rfl rfl rfl (fun K hk => ?_) ?_
    rotate_left
    · go_step; exact hk
    refine Ord.St.fl2 (T' := ?_) 5 [6] _ _ rfl (by kernel_rfl) rfl rfl rfl rfl (fun K w' hk => ?_) ?_
    rotate_left
    · go_step; exact hk
    refine Ord.St.fl2 (T' := ?_) 6 [] _ _ rfl (by kernel_rfl) rfl rfl rfl rfl (fun K w' hk => ?_) ?_
    rotate_left
    · go_step; exact hk
    refine Ord.St.nil ?_
    go_wp2_with fail
    go_ret2
    refine ⟨_, by rw [HE.out]; rfl, F4, by rw [if_neg (by rw [HE.out]; omega)]; exact HG4.out.same (F' := []) (Ch.refl _ _).drew (by simp), HC0.out.trans HC4.out.drew (fun k hk => HF0.out k hk), fun k hk => ?_, hF42.trans hF2, fun h => absurd h (by rw [HE.out]; omega), fun _ => rfl⟩
    rcases HF4.out k hk with e | e
    · exact HF0.out k e
    · exact .inr (by omega)
set_option maxRecDepth 100000 in
set_option maxHeartbeats 2000000 in
theorem mbuildR_is (h : GIn w g G F) (fid : Nat) (caps : Array Value) (hfn : Fnv fid) (s : Mk) (Post : Value → List Nat → World → Prop)
    (hf : ∀ W m, w.heap.size ≤ m → Ch [] w W → MIn W g m (G, 0) F → Calls Tryz.prog fid (#[.pointer (some ⟨m, 0, none⟩)] ++ caps) W fun e W' => ∃ v P F', e = .returned v ∧ Sim G P s ∧ MIn W' g m P F' ∧ Ch (m :: F) W W' ∧ (∀ k ∈ F', k ∈ F ∨ W.heap.size ≤ k) ∧ F'[2]? = F[2]? ∧ (s.2 = 0 → Post v F' W')) :
    Calls Tryz.prog 83 #[.pointer (some ⟨g, 0, none⟩), .func (.func fid) #[] caps] w fun e w' => ∃ v, e = .returned (.tuple #[v, .int .i64 s.2]) ∧ MB w g G F s Post mzR v w' := by
  have HL := Len_g h
  have hg := h.lt
  have hok := h.ok
  have hroom := h.ok.room
  have hmost := h.ok.most
  have hms : MIn (w.alloc (.cells #[.pointer (some ⟨g, 0, none⟩), .int .i64 0] 177)) g w.heap.size (G, 0) F := ⟨h.same ((Ch.refl [] _).alloc _) (by simp), blk.new' _ _ rfl, fun hm => by have := hg _ hm; omega⟩
  have HF := hf _ w.heap.size (Nat.le_refl _) ((Ch.refl _ _).alloc _) hms
  have hcf : ∀ args w, (callFunc fid args).run Tryz.prog w = .ok (.enter fid args) w := hfn
  have H := Lib.hid h; clear h
  have HG := Lib.hid hg; clear hg
  have HOK := Lib.hid hok; clear hok
  clear hf hms
  go_enter Tryz.func83, Tryz.ntmps83
  go_wp2_with fail
  refine HL.mono ?_
  rintro e w' ⟨rfl, rfl⟩
  go_wp2_with fail
  refine HF.mono ?_
  rintro e w1 ⟨v, P, F', rfl, hsim, hm, hc, hF', hF2, hpost⟩
  have m1 := hm.bk.cell (i := 1) rfl
  have hc0 : Ch F w w1 := (((Ch.refl F w).alloc (.cells #[.pointer (some ⟨g, 0, none⟩), .int .i64 0] 177))).trans hc (fun k hk => by
    simp only [List.mem_cons] at hk
    rcases hk with rfl | hk
    · right; omega
    · exact .inl hk)
  have hz := hc0.size
  have hF0 : ∀ k ∈ F', k ∈ F ∨ w.heap.size ≤ k := fun k hk => (hF' k hk).imp id (fun e => by simp at e; omega)
  have hrel := hsim.rel
  have hext := hsim.ext
  have HPOST := Lib.hid hpost; clear hpost
  have HC0 := Lib.hid hc0; clear hc0
  have HF0 := Lib.hid hF0; clear hF0
  have HM := Lib.hid hm; clear hm
  have HEXT := Lib.hid hext; clear hext
  clear hc hF' hsim
  rcases hrel with ⟨he, rfl⟩ | ⟨he, hp⟩
  · rw [he] at m1
    clear HOK
    have HE := Lib.hid he; clear he
    go_wp2_with fail
    go_ret2
    exact ⟨_, by rw [HE.out]; rfl, F', by rw [if_pos HE.out]; exact HM.out.gin, HC0.out, HF0.out, hF2, fun _ => HPOST.out HE.out, fun h => absurd HE.out h⟩
  · rw [hp] at m1
    have hcut := Cut_g HM.out.gin G.nodes.length (by omega) (by omega)
    rw [doCut_back HOK.out HEXT.out] at hcut
    have hmlt := HM.out.bk.lt
    have hmF := HM.out.apart
    have HE := Lib.hid he; clear he
    have HP := Lib.hid hp; clear hp
    have HMF := Lib.hid hmF; clear hmF
    go_wp2_with fail
    refine hcut.mono ?_
    rintro e w4 ⟨rfl, F4, hg4, hc4, hF4, hF42⟩
    have hm4 : w4.cell? ⟨w.heap.size, 1, none⟩ = some (.int .i64 201) := (hc4.cell (p := ⟨w.heap.size, 1, none⟩) hmlt HMF.out).trans m1
    clear m1
    have HG4 := Lib.hid hg4; clear hg4
    have HC4 := Lib.hid hc4; clear hc4
    have HF4 := Lib.hid hF4; clear hF4
    go_wp2_with fail
    refine Ord.St.door (fun _ => True) [.fl, .fl, .fl, .fl, .rd, .fl, .fl] [0, 0, 2, 6, 14, 1, 63] [0, 1, 2, 3, 4, 5, 6] mixed (by kernel_rfl) rfl ?_
    refine Ord.St.fl2 (T' := ?_) 0 [1, 2, 3, 4, 5, 6] _ _ rfl (by kernel_rfl) rfl rfl rfl rfl (fun K w' hk => ?_) ?_
    rotate_left
    · go_step; exact hk
    refine Ord.St.fl2 (T' := ?_) 1 [2, 3, 4, 5, 6] _ _ rfl (by kernel_rfl) rfl rfl rfl rfl (fun K w' hk => ?_) ?_
    rotate_left
    · go_step; exact hk
    refine Ord.St.fl2 (T' := ?_) 2 [3, 4, 5, 6] _ _ rfl (by kernel_rfl) rfl rfl rfl rfl (fun K w' hk => ?_) ?_
    rotate_left
    · go_step; exact hk
    refine Ord.St.fl2 (T' := ?_) 3 [4, 5, 6] _ _ rfl (by kernel_rfl) rfl rfl rfl rfl (fun K w' hk => ?_) ?_
    rotate_left
    · go_step; exact hk
    refine Ord.St.rd2 (T' := ?_) 4 [5, 6] _ _ rfl (by kernel_rfl) rfl rfl rfl rfl (fun K hk => ?_) ?_
    rotate_left
    · go_step; exact hk
    refine Ord.St.fl2 (T' := ?_) 5 [6] _ _ rfl (by kernel_rfl) rfl rfl rfl rfl (fun K w' hk => ?_) ?_
    rotate_left
    · go_step; exact hk
    refine Ord.St.fl2 (T' := ?_) 6 [] _ _ rfl (by kernel_rfl) rfl rfl rfl rfl (fun K w' hk => ?_) ?_
    rotate_left
    · go_step; exact hk
    refine Ord.St.nil ?_
    go_wp2_with fail
    go_ret2
    refine ⟨_, by rw [HE.out]; rfl, F4, by rw [if_neg (by rw [HE.out]; omega)]; exact HG4.out.same (F' := []) (Ch.refl _ _).drew (by simp), HC0.out.trans HC4.out.drew (fun k hk => HF0.out k hk), fun k hk => ?_, hF42.trans hF2, fun h => absurd h (by rw [HE.out]; omega), fun _ => rfl⟩
    rcases HF4.out k hk with e | e
    · exact HF0.out k e
    · exact .inr (by omega)
end
end Go.Proofs.YtdmmanfjafempaaGreat
namespace Go.Aig
theorem chk2_w {G : Gra} {x y : List Int} (h : rightW x.length = false) : chk G [x, y] = 230 := by
  unfold chk badAs
  simp [h]
theorem chk2_d {G : Gra} {x y : List Int} (h : y.length ≠ x.length) : chk G [x, y] = 230 := by
  unfold chk badAs
  have e : ((y.length : Int) != (x.length : Int)) = true := bne_iff_ne.2 (by omega)
  simp [e]
theorem chk2_r {G : Gra} {x y : List Int} (h : rightW x.length = true) (hd : y.length = x.length) (hb : badIn G x = true ∨ badIn G y = true) : chk G [x, y] = 200 := by
  unfold chk badAs
  rcases hb with hb | hb <;> simp [h, hd, hb]
theorem chk1_w {G : Gra} {x : List Int} (h : rightW x.length = false) : chk G [x] = 230 := by
  unfold chk badAs
  simp [h]
theorem chk1_r {G : Gra} {x : List Int} (h : rightW x.length = true) (hb : badIn G x = true) : chk G [x] = 200 := by
  unfold chk badAs
  simp [h, hb]
theorem badIn_set {G : Gra} {x : List Int} {i : Nat} {r : Int} (hi : i < x.length) (hr : right G.nodes r = false) : badIn G (x.set i r) = true := by
  unfold badIn
  rw [List.any_eq_true]
  exact ⟨r, List.mem_of_getElem? (i := i) (by rw [List.getElem?_set_self hi]), by simp [hr]⟩
theorem wordG_no {G : Gra} {ws : List (List Int)} (R : Mk × List Nat) {e : Nat} (he : chk G ws = e) (h0 : e ≠ 0) : wordG G ws R = (G, [], e) := by
  subst he
  unfold wordG
  rw [if_pos h0]
theorem refG_no {G : Gra} {ws : List (List Int)} (R : Mk × Nat) {e : Nat} (he : chk G ws = e) (h0 : e ≠ 0) : refG G ws R = (G, 0, e) := by
  subst he
  unfold refG
  rw [if_pos h0]
theorem negG_no (G : Gra) {e : Nat} (h0 : e ≠ 0) : negG (G, 0, e) = (G, 0, e) := by
  unfold negG
  rw [if_pos h0]
end Go.Aig
namespace Go.Proofs.YtdmmanfjafempaaGreat
open Go.RowKit Go.Mem Go.Aig
section
variable {w0 : Base} {w : World} {g : Nat} {G : Gra} {F : List Nat} {L : List (Value × List Int)}
theorem Hold.tail {p : Value × List Int} (h : Hold w0 w g G F (p :: L)) : Hold w0 w g G F L := ⟨h.own, fun q hq => h.held q (List.mem_cons_of_mem _ hq), h.kept⟩
theorem Hold.sub {L' : List (Value × List Int)} (h : Hold w0 w g G F L) (hs : ∀ p ∈ L', p ∈ L) : Hold w0 w g G F L' := ⟨h.own, fun q hq => h.held q (hs q hq), h.kept⟩
theorem Hold.nil (h : Hold w0 w g G F L) : Hold w0 w g G F ((.slice none 0 0, []) :: L) := ⟨h.own, fun p hp => by
  rcases List.mem_cons.1 hp with rfl | hp
  · exact ⟨⟨rfl, .inl ⟨rfl, rfl⟩⟩, by simp, by simp, fun k hk => by simp at hk⟩
  · exact h.held p hp, h.kept⟩
theorem wno {fid : FuncId} {args : Array Value} {e : Nat} (h : Calls Tryz.prog fid args w fun en w' => ∃ a c F', en = .returned (.tuple #[.slice a 0 c, .int .i64 e]) ∧ Hold w0 w' g G F' ((.slice a 0 c, natInts []) :: L)) :
    Calls Tryz.prog fid args w fun en w' => ∃ a c F', en = .returned (.tuple #[.slice a 0 c, .int .i64 e]) ∧ Hold w0 w' g G F' L := by
  refine h.mono ?_
  rintro en w' ⟨a, c, F', rfl, hh⟩
  exact ⟨a, c, F', rfl, hh.tail⟩
theorem sNe_no (h : Hold w0 w g G F L) {xa ya : Option Addr} {xl yl : List Int} {n m xc yc : Nat} (hx : (.slice xa n xc, xl) ∈ L) (hxn : xl.length = n) (hy : (.slice ya m yc, yl) ∈ L) (hym : yl.length = m) {e : Nat} (he : chk G [xl, yl] = e) (h0 : e ≠ 0) :
    Calls Tryz.prog 130 #[.pointer (some ⟨g, 0, none⟩), .slice xa n xc, .slice ya m yc] w fun en w' => ∃ F', en = .returned (.tuple #[.int .i64 (0 : Nat), .int .i64 e]) ∧ Hold w0 w' g G F' L := sNe_h h hx hxn hy hym (refG_no _ he h0)
theorem sEq_no (h : Hold w0 w g G F L) {xa ya : Option Addr} {xl yl : List Int} {n m xc yc : Nat} (hx : (.slice xa n xc, xl) ∈ L) (hxn : xl.length = n) (hy : (.slice ya m yc, yl) ∈ L) (hym : yl.length = m) {e : Nat} (he : chk G [xl, yl] = e) (h0 : e ≠ 0) :
    Calls Tryz.prog 85 #[.pointer (some ⟨g, 0, none⟩), .slice xa n xc, .slice ya m yc] w fun en w' => ∃ F', en = .returned (.tuple #[.int .i64 (0 : Nat), .int .i64 e]) ∧ Hold w0 w' g G F' L := sEq_h h hx hxn hy hym (by rw [refG_no _ he h0, negG_no _ h0])
theorem sInput_no (h : Hold w0 w g G F L) (i : Int) (hi : rightW i = false) :
    Calls Tryz.prog 37 #[.pointer (some ⟨g, 0, none⟩), .int .i64 i] w fun en w' => ∃ a c F', en = .returned (.tuple #[.slice a 0 c, .int .i64 (230 : Nat)]) ∧ Hold w0 w' g G F' L := wno (sInput_h h i (by unfold inG; rw [hi]; rfl) rfl (by simp) (by omega))
theorem sConst_no (h : Hold w0 w g G F L) (x : Nat) (hx : x < 4294967296) (i : Int) (hi : rightW i = false) :
    Calls Tryz.prog 38 #[.int .u32 x, .int .i64 i] w fun en w' => ∃ a c F', en = .returned (.tuple #[.slice a 0 c, .int .i64 (230 : Nat)]) ∧ Hold w0 w' g G F' L := by
  have hc := sConst_is (w := w) x hx i
  rw [hi] at hc
  refine (Calls.wnew (l := []) (k := 0) h hc rfl (by simp) (by omega)).mono ?_
  rintro en w' ⟨a, c, rfl, hh⟩
  exact ⟨a, c, F, rfl, hh.tail⟩
end
end Go.Proofs.YtdmmanfjafempaaGreat
namespace Go.Proofs.YtdmmanfjafempaaGreat
open Go.RowKit Go.Mem Go.Aig
theorem max_ii (z q : Int) (ats : Array TypeId) (ty : TypeId) : Builtin.max_ ats ty #[.int .i64 z, .int .i64 q] = pure (.int .i64 (max z q)) := by
  have e : (if z < q then q else z) = max z q := by split <;> omega
  rw [← e]
  simp [Builtin.max_, Builtin.max2]
theorem min_ii (z q : Int) (ats : Array TypeId) (ty : TypeId) : Builtin.min_ ats ty #[.int .i64 z, .int .i64 q] = pure (.int .i64 (min z q)) := by
  have e : (if q < z then q else z) = min z q := by split <;> omega
  rw [← e]
  simp [Builtin.min_, Builtin.min2]
theorem WNew.set {w w' : World} {b n c i : Nat} {l : List Int} (h : WNew w (.slice (some ⟨b, 0, none⟩) n c) (intCells l) w') (hn : l.length = n) (r : Int) : WNew w (.slice (some ⟨b, 0, none⟩) n c) (intCells (l.set i r)) (w'.setCell ⟨b, i, none⟩ (.int .i64 r)) := by
  obtain ⟨h1, h2, h3⟩ := h
  have e : intCells (l.set i r) = (intCells l).set i (.int .i64 r) := by unfold intCells; rw [List.map_set]
  refine ⟨?_, h2, h3.setCell (.inr (h2 b (by simp))) _⟩
  have e2 : (intCells l).length = n := by simp [intCells, hn]
  have e3 : (intCells (l.set i r)).length = n := by simp [intCells, hn]
  rw [e3, e]
  rw [e2] at h1
  exact row.set h1 (.int .i64 r)
theorem WNew.app {w w1 w2 w3 : World} {v v' : Value} {l : List Int} {n : Nat} (h : WNew w v (intCells l) w1) (hc : Ch [] w1 w2) {r : Int} (hn : l.length = n) (hr : row w3 41 1 v' (n + 1) (intCells l ++ [.int .i64 r])) (h23 : Ch v.ownBlock.toList w2 w3) (hf : ∀ k, v'.ownBlock = some k → v.ownBlock = some k ∨ w2.heap.size ≤ k) : WNew w v' (intCells (l ++ [r])) w3 := by
  obtain ⟨h1, h2, h3⟩ := h
  have e : intCells (l ++ [r]) = intCells l ++ [.int .i64 r] := by simp [intCells]
  have e3 : (intCells (l ++ [r])).length = n + 1 := by simp [intCells, hn]
  have h02 := h3.trans hc (by simp)
  refine ⟨by rw [e3, e]; exact hr, fun q hq => ?_, h02.trans h23 (fun k hk => .inr (h2 k hk))⟩
  rcases hf q (by simpa using hq) with h | h
  · exact h2 q (by simpa using h)
  · have := h02.size; omega
theorem bd_set {l : List Int} {i : Nat} {r : Int} (h : ∀ x ∈ l, -9223372036854775808 ≤ x ∧ x ≤ 9223372036854775807) (hr : -9223372036854775808 ≤ r ∧ r ≤ 9223372036854775807) : ∀ x ∈ l.set i r, -9223372036854775808 ≤ x ∧ x ≤ 9223372036854775807 := fun x hx => by
  rcases List.mem_or_eq_of_mem_set hx with hx | rfl
  · exact h x hx
  · exact hr
theorem bd_app {l : List Int} {r : Int} (h : ∀ x ∈ l, -9223372036854775808 ≤ x ∧ x ≤ 9223372036854775807) (hr : -9223372036854775808 ≤ r ∧ r ≤ 9223372036854775807) : ∀ x ∈ l ++ [r], -9223372036854775808 ≤ x ∧ x ≤ 9223372036854775807 := fun x hx => by
  rcases List.mem_append.1 hx with hx | hx
  · exact h x hx
  · rw [List.mem_singleton.1 hx]; exact hr
theorem row_at2 {w : World} {e : TypeId} {b n c : Nat} {vs : List Value} (h : row w e 1 (.slice (some ⟨b, 0, none⟩) n c) n vs) {k : Nat} {v : Value} (hk : vs[k]? = some v) : w.cell? ⟨b, k, none⟩ = some v := by
  have := h.cells (g := b) rfl k v hk
  rw [Addr.add_lit] at this
  simpa using this
theorem row_fz {w : World} {e : TypeId} {b n c : Nat} {vs : List Value} (h : row w e 1 (.slice (some ⟨b, 0, none⟩) n c) n vs) (hn : 0 < n) (k : Nat) : w.frozen? ⟨b, k, none⟩ = false := by
  obtain ⟨b', ys, e1, hb, _⟩ := rowBlk h 0 hn
  cases e1
  exact hb.frozen
theorem WNew.at {w w' : World} {b n c k : Nat} {l : List Int} (h : WNew w (.slice (some ⟨b, 0, none⟩) n c) (intCells l) w') (hn : l.length = n) {r : Int} (hk : l[k]? = some r) : w'.cell? ⟨b, k, none⟩ = some (.int .i64 r) ∧ w'.frozen? ⟨b, k, none⟩ = false := by
  have h1 := h.1
  have e : (intCells l).length = n := by simp [intCells, hn]
  rw [e] at h1
  have hlt := (List.getElem?_eq_some_iff.1 hk).1
  exact ⟨row_at2 h1 (by simp [intCells, hk]), row_fz h1 (by omega) k⟩
theorem sValue_nil {w : World} : Calls Tryz.prog 90 #[.slice none 0 0, .slice none 0 0] w fun en w' => en = .returned (.tuple #[.int .u32 0, .int .i64 230]) ∧ w = w' := by
  have hc := sValue_is (w := w) (x := ⟨none, [], 0⟩) (by simp) (a := none) (l := []) 0 (by simp) ⟨fun i x hx => by simp at hx, by simp⟩
  exact hc
theorem Hold.fresh {w0 : Base} {w : World} {g : Nat} {G : Gra} {F : List Nat} {L : List (Value × List Int)} (h : Hold w0 w g G F L) {l : List Int} {n : Nat} (hn : l.length = n) (hb : ∀ r ∈ l, -9223372036854775808 ≤ r ∧ r ≤ 9223372036854775807) (hl : n ≤ 1000000) :
    Hold w0 (w.alloc (.cells (intCells l).toArray 41)) g G F ((.slice (some ⟨w.heap.size, 0, none⟩) n n, l) :: L) := by
  subst hn
  have hk : blk (w.alloc (.cells (intCells l).toArray 41)) w.heap.size (intCells l) := blk.new _ _ _
  have e : (intCells l).length = l.length := by simp [intCells]
  have hx : (w.alloc (.cells (intCells l).toArray 41)).heap[w.heap.size]? = some (.cells (intCells l).toArray 41 (0, 0)) := heap_alloc_new w _
  refine ⟨(h.same ((Ch.refl [] _).alloc _)).own, fun p hp => ?_, (h.same ((Ch.refl [] _).alloc _)).kept⟩
  rcases List.mem_cons.1 hp with rfl | hp
  · refine ⟨⟨by simp [intCells], .inr ⟨w.heap.size, l.length, (intCells l).toArray, rfl, by simp, hx, Nat.le_refl _, by unfold maxLen; omega, by simp [intCells], by rw [Nat.mul_one]; exact List.take_of_length_le (by simp [intCells])⟩⟩, hl, hb, fun k hk => ?_⟩
    · simp at hk; subst hk
      exact ⟨h.own.ch.size, fun hin => Nat.lt_irrefl _ (h.own.gin.lt _ hin)⟩
  · exact (h.same ((Ch.refl [] _).alloc _)).held p hp
end Go.Proofs.YtdmmanfjafempaaGreat
namespace Go.Aig
/-- a choice, bit by bit -/
def chF (c : Nat) (s : Mk) (l : List (Nat × Nat)) : Mk × List Nat := eachF (fun s a b => sMux s c a b) s l
theorem chF_snoc (c : Nat) (s : Mk) (l : List (Nat × Nat)) (p : Nat × Nat) : chF c s (l ++ [p]) = eachS (fun s a b => sMux s c a b) (chF c s l) p := eachF_snoc _ s l p
theorem chF_bad (c : Nat) (s : Mk) (a : List (Nat × Nat)) (h : (chF c s a).1.2 ≠ 0) : ∀ b, (chF c s (a ++ b)).1 = (chF c s a).1 := by
  intro b
  induction b generalizing a with
  | nil => rw [List.append_nil]
  | cons p b ih =>
    have e : (chF c s (a ++ [p])).1 = (chF c s a).1 := by
      rw [chF_snoc]
      show (sMux (chF c s a).1 c p.1 p.2).1 = _
      unfold sMux
      rw [rstep_bad h]
    rw [show a ++ p :: b = (a ++ [p]) ++ b by simp, ih (a ++ [p]) (by rw [e]; exact h), e]
end Go.Aig
namespace Go.Proofs.YtdmmanfjafempaaGreat
open Go.RowKit Go.Mem Go.Aig
attribute [local go_sem] Oper.semAt_some
/-- what a part that makes a word leaves, beside the reference's fold S -/
def CH (w : World) (g m : Nat) (G : Gra) (P : Mk) (F : List Nat) (S : Mk × List Nat) (n : Nat) (v : Value) (w' : World) : Prop :=
  ∃ P' l, Sim G P' S.1 ∧ (S.1.2 = 0 → l = S.2) ∧ l.length = n ∧ (∀ r ∈ l, r < 2 * P'.1.nodes.length) ∧ Ext P.1 P'.1 ∧ MVo w g m P' [] F v l w'
section
variable {w : World} {g m : Nat} {G : Gra} {F : List Nat}
theorem zeros_snoc {l : List Nat} {n k r : Nat} (h : l.length = k) (hk : k < n) : (refsCells (l ++ List.replicate (n - k) 0)).set k (.int .i64 r) = refsCells ((l ++ [r]) ++ List.replicate (n - (k + 1)) 0) := by
  unfold refsCells
  rw [show n - k = (n - (k + 1)) + 1 by omega, List.replicate_succ, List.map_append, List.map_append, List.map_append, List.map_cons, List.set_append_right _ _ (by simp [h]), List.length_map, h, Nat.sub_self]
  simp
set_option maxRecDepth 100000 in
set_option maxHeartbeats 4000000 in
theorem mchoose_is {P R : Mk} (h : MIn w g m P F) (hsim : Sim G P R) {c : Nat} (hc : c < 2 * P.1.nodes.length) {x y : List Nat} {xa ya : Option Addr} (n xc yc : Nat) (hxl : x.length = n) (hyl : y.length = n) (hn : n ≤ 1000)
    (hx : Sl w xa (x.map fun (r : Nat) => (r : Int))) (hy : Sl w ya (y.map fun (r : Nat) => (r : Int))) (hxa : ∀ k ∈ ablk xa, k ∉ m :: F ∧ k < w.heap.size) (hya : ∀ k ∈ ablk ya, k ∉ m :: F ∧ k < w.heap.size)
    (hxr : ∀ r ∈ x, r < 2 * P.1.nodes.length) (hyr : ∀ r ∈ y, r < 2 * P.1.nodes.length) :
    Calls Tryz.prog 82 #[.pointer (some ⟨m, 0, none⟩), .int .i64 c, .slice xa n xc, .slice ya n yc] w fun e w' => ∃ v, e = .returned v ∧ CH w g m G P F (chF c R (x.zip y)) n v w' := by
  have hml := h.bk.lt
  have hFl := h.gin.lt
  have hmk := run_make_refs w n (by omega)
  have hzl : (x.zip y).length = n := by rw [List.length_zip]; omega
  have HX := Lib.hid hx; clear hx
  have HY := Lib.hid hy; clear hy
  have HXA := Lib.hid hxa; clear hxa
  have HYA := Lib.hid hya; clear hya
  have HXR := Lib.hid hxr; clear hxr
  have HYR := Lib.hid hyr; clear hyr
  have H := Lib.hid h; clear h
  have HSIM := Lib.hid hsim; clear hsim
  have HCL := Lib.hid hc; clear hc
  have HXL := Lib.hid hxl; clear hxl
  have HYL := Lib.hid hyl; clear hyl
  have HZL := Lib.hid hzl; clear hzl
  have HFL := Lib.hid hFl; clear hFl
  go_enter Tryz.func82, Tryz.ntmps82
  go_upto_region 2 with fail
  refine wp_named fun W0 hW0 => ?_
  have hc0 : Ch [] w W0 := by rw [hW0]; exact (Ch.refl _ _).alloc _
  have hz0 : W0.heap.size = w.heap.size + 1 := by rw [hW0]; simp
  have hr0 : row W0 41 1 (.slice (some ⟨w.heap.size, 0, none⟩) n n) n (refsCells (List.replicate n 0)) := ⟨by simp [refsCells], .inr ⟨w.heap.size, n, _, rfl, by omega, by rw [hW0]; exact heap_alloc_new w _, by omega, by unfold maxLen; omega, by simp [refsCells], by simp [refsCells]⟩⟩
  clear hW0 hmk
  have HC0 := Lib.hid hc0; clear hc0
  have HR0 := Lib.hid hr0; clear hr0
  go_wp2_with fail
  go_loopw [19] (fun i wr => ∃ (k : Nat) (P' : Mk) (F' l : List Nat), k ≤ n ∧ i = .int .i64 k ∧ l.length = k ∧ Sim G P' (chF c R ((x.zip y).take k)).1 ∧ ((chF c R ((x.zip y).take k)).1.2 = 0 → l = (chF c R ((x.zip y).take k)).2) ∧ (∀ r ∈ l, r < 2 * P'.1.nodes.length) ∧ Ext P.1 P'.1 ∧ MIn wr g m P' F' ∧ Ch (m :: F) w wr ∧ (∀ q ∈ F', q ∈ F ∨ w.heap.size + 1 ≤ q) ∧ F'[2]? = F[2]? ∧ row wr 41 1 (.slice (some ⟨w.heap.size, 0, none⟩) n n) n (refsCells (l ++ List.replicate (n - k) 0)) ∧ w.heap.size + 1 ≤ wr.heap.size) (fun i _ => n - (intOf i).toNat)
  case atStart => exact ⟨0, P, F, [], Nat.zero_le _, rfl, rfl, HSIM.out, fun _ => rfl, by simp, .refl _, H.out.same HC0.out (by simp), HC0.out.mono (by simp), fun q hq => .inl hq, rfl, HR0.out, by omega⟩
  case round =>
    obtain ⟨k, P', F', l, hk, rfl, hll, hs, hout, hall, hext, hm, hch, hown, hmap, hrow, hsz⟩ := hrel
    have hobF : w.heap.size ∉ m :: F' := fun hin => by
      simp only [List.mem_cons] at hin
      rcases hin with e | hin
      · omega
      · rcases hown _ hin with e | e
        · have := HFL.out _ e; omega
        · omega
    have m1 := hm.bk.cell (i := 1) rfl
    have hfin : ∀ (W' : World) (a : Bool), W' = wr → True := fun _ _ _ => trivial
    clear hfin
    by_cases hlt : k < n
    · by_cases hP : P'.2 = 0
      · obtain ⟨a, ha⟩ : ∃ a, x[k]? = some a := ⟨_, List.getElem?_eq_getElem (by rw [HXL.out]; exact hlt)⟩
        obtain ⟨b, hb⟩ : ∃ b, y[k]? = some b := ⟨_, List.getElem?_eq_getElem (by rw [HYL.out]; exact hlt)⟩
        obtain ⟨xb, xo, rfl, hxc⟩ := HX.out.cells k (a : Int) (by simp [ha])
        obtain ⟨yb, yo, rfl, hyc⟩ := HY.out.cells k (b : Int) (by simp [hb])
        have d0 := (hch.cell (p := ⟨xb, xo + k, none⟩) (HXA.out xb (by simp [ablk])).2 (HXA.out xb (by simp [ablk])).1).trans hxc
        have d1 := (hch.cell (p := ⟨yb, yo + k, none⟩) (HYA.out yb (by simp [ablk])).2 (HYA.out yb (by simp [ablk])).1).trans hyc
        have hz : (x.zip y)[k]? = some (a, b) := by rw [List.getElem?_zip_eq_some]; exact ⟨ha, hb⟩
        have hsu : chF c R ((x.zip y).take (k + 1)) = eachS (fun s a b => sMux s c a b) (chF c R ((x.zip y).take k)) (a, b) := by rw [List.take_add_one, hz]; exact chF_snoc _ _ _ _
        have hca := hext.lt HCL.out
        have haa := hext.lt (HXR.out a (List.mem_of_getElem? ha))
        have hbb := hext.lt (HYR.out b (List.mem_of_getElem? hb))
        generalize chF c R ((x.zip y).take k) = R' at hs hout hsu
        have hst := hs.step (rMux_full hm.gin.ok hca haa hbb) (fun _ e => by rw [e])
        have hMX := fun (W : World) (hW : Ch [] wr W) => Mux_g (hm.gin.same hW (by simp)) c a b (by have := hm.gin.ok.small; omega) (by have := hm.gin.ok.small; omega) (by have := hm.gin.ok.small; omega)
        rw [doMux_r hca haa hbb] at hMX
        have m0 := hm.bk.cell (i := 0) rfl
        rw [hP] at m1
        have hbk := hm.bk
        obtain ⟨X, hX⟩ : ∃ X, rMux P'.1 c a b = X := ⟨_, rfl⟩
        have HXX := Lib.hid hX
        rw [hX] at hst hMX
        clear hX hxc hyc ha hb hz
        have HMX := Lib.hid hMX; clear hMX
        have HST := Lib.hid hst; clear hst
        have HSU := Lib.hid hsu; clear hsu
        have HS := Lib.hid hs; clear hs
        have HM := Lib.hid hm; clear hm
        have HCH := Lib.hid hch; clear hch
        have HROW := Lib.hid hrow; clear hrow
        have HOUT := Lib.hid hout; clear hout
        have HOB := Lib.hid hobF; clear hobF
        have HP := Lib.hid hP; clear hP
        have HBK := Lib.hid hbk; clear hbk
        go_upto_region 6 with fail
        refine Ord.St.door (fun _ => True) [.fl, .fl, .fl, .rd, .fl, .fl, .fl, .fl, .fl, .rd, .ef, .fl, .fl, .fl, .fl, .fl] [0, 1, 3, 7, 0, 0, 0, 0, 192, 448, 1023, 2047, 4095, 4095, 8191, 32767] [0, 1, 2, 3, 4, 5, 6, 7, 8, 9, 10, 11, 12, 13, 14, 15] mixed (by kernel_rfl) rfl ?_
        obtain ⟨Wc, hWc⟩ : ∃ Wc, Wc = wr.drew := ⟨_, rfl⟩
        rw [← hWc]
        have hcur : Ch [] wr Wc := by rw [hWc]; exact (Ch.refl _ _).drew
        have m0c : Wc.cell? ⟨m, 0, none⟩ = some (.pointer (some ⟨g, 0, none⟩)) := by rw [hWc]; exact m0
        have d1c : Wc.cell? ⟨yb, yo + k, none⟩ = some (.int .i64 b) := by rw [hWc]; exact d1
        clear hWc
        have han := HMX.out Wc hcur
        have HAN1 := Lib.hid han; clear han HMX
        have HCUR := Lib.hid hcur; clear hcur
        refine Ord.St.fl2 (T' := ?_) 0 [1, 2, 3, 4, 5, 6, 7, 8, 9, 10, 11, 12, 13, 14, 15] _ _ rfl (by kernel_rfl) rfl rfl rfl rfl (fun K w' hk => ?_) ?_
        rotate_left
        · go_step; exact hk
        refine Ord.St.fl2 (T' := ?_) 1 [2, 3, 4, 5, 6, 7, 8, 9, 10, 11, 12, 13, 14, 15] _ _ rfl (by kernel_rfl) rfl rfl rfl rfl (fun K w' hk => ?_) ?_
        rotate_left
        · go_step; exact hk
        refine Ord.St.fl2 (T' := ?_) 2 [3, 4, 5, 6, 7, 8, 9, 10, 11, 12, 13, 14, 15] _ _ rfl (by kernel_rfl) rfl rfl rfl rfl (fun K w' hk => ?_) ?_
        rotate_left
        · go_step; exact hk
        refine Ord.St.rd2 (T' := ?_) 3 [4, 5, 6, 7, 8, 9, 10, 11, 12, 13, 14, 15] _ _ rfl (by kernel_rfl) rfl rfl rfl rfl (fun K hk => ?_) ?_
        rotate_left
        · go_step; exact hk
        refine Ord.St.fl2 (T' := ?_) 4 [5, 6, 7, 8, 9, 10, 11, 12, 13, 14, 15] _ _ rfl (by kernel_rfl) rfl rfl rfl rfl (fun K w' hk => ?_) ?_
        rotate_left
        · go_step; exact hk
        refine Ord.St.fl2 (T' := ?_) 5 [6, 7, 8, 9, 10, 11, 12, 13, 14, 15] _ _ rfl (by kernel_rfl) rfl rfl rfl rfl (fun K w' hk => ?_) ?_
        rotate_left
        · go_step; exact hk
        refine Ord.St.fl2 (T' := ?_) 6 [7, 8, 9, 10, 11, 12, 13, 14, 15] _ _ rfl (by kernel_rfl) rfl rfl rfl rfl (fun K w' hk => ?_) ?_
        rotate_left
        · go_step; exact hk
        refine Ord.St.fl2 (T' := ?_) 7 [8, 9, 10, 11, 12, 13, 14, 15] _ _ rfl (by kernel_rfl) rfl rfl rfl rfl (fun K w' hk => ?_) ?_
        rotate_left
        · go_step; exact hk
        refine Ord.St.fl2 (T' := ?_) 8 [9, 10, 11, 12, 13, 14, 15] _ _ rfl (by kernel_rfl) rfl rfl rfl rfl (fun K w' hk => ?_) ?_
        rotate_left
        · go_step; exact hk
        refine Ord.St.rd2 (T' := ?_) 9 [10, 11, 12, 13, 14, 15] _ _ rfl (by kernel_rfl) rfl rfl rfl rfl (fun K hk => ?_) ?_
        rotate_left
        · go_step; exact hk
        refine Ord.St.ef 10 [11, 12, 13, 14, 15] _ rfl (by kernel_rfl) (fun K hK => ?_)
        go_wp2_with fail
        refine HAN1.out.mono ?_
        rintro e w5 ⟨rfl, hto⟩
        have hb5 := ((HBK.out.ch HCUR.out (by simp)).ch hto.choose_spec.2.1 HM.out.apart)
        have HTO := Lib.hid hto; clear hto
        have HNT := mnote_is hb5 X.2.1 X.2.2
        clear hb5
        go_wp2_with fail
        refine ⟨rfl, hK _ _ ?_⟩; clear hK K
        refine Ord.St.fl2 (T' := ?_) 11 [12, 13, 14, 15] _ _ rfl (by kernel_rfl) rfl rfl rfl rfl (fun K w' hk => ?_) ?_
        rotate_left
        · go_step; exact hk
        refine Ord.St.fl2 (T' := ?_) 12 [13, 14, 15] _ _ rfl (by kernel_rfl) rfl rfl rfl rfl (fun K w' hk => ?_) ?_
        rotate_left
        · go_step; exact hk
        refine Ord.St.fl2 (T' := ?_) 13 [14, 15] _ _ rfl (by kernel_rfl) rfl rfl rfl rfl (fun K w' hk => ?_) ?_
        rotate_left
        · go_step; exact hk
        refine Ord.St.fl2 (T' := ?_) 14 [15] _ _ rfl (by kernel_rfl) rfl rfl rfl rfl (fun K w' hk => ?_) ?_
        rotate_left
        · go_step; exact hk
        refine Ord.St.fl2 (T' := ?_) 15 [] _ _ rfl (by kernel_rfl) rfl rfl rfl rfl (fun K w' hk => ?_) ?_
        rotate_left
        · go_step; exact hk
        refine Ord.St.nil ?_
        go_wp2_with fail
        refine HNT.mono ?_
        rintro e w6 ⟨rfl, hb6, hc6⟩
        have hmc := HM.out.same HCUR.out (by simp)
        obtain ⟨F6, hm6, hc56, hown6, hmap6⟩ := MTo.of (P' := (mput P' X).1) hmc HTO.out (fun _ => hb6) hc6
        have hc06 := (HCUR.out.mono (by simp)).trans hc56 (fun q hq => .inl hq)
        have hrow6 := HROW.out.ch hc06 (by intro q hq; cases hq; exact HOB.out)
        have hch6 := HCH.out.trans hc06 (by
          intro q hq
          simp only [List.mem_cons] at hq ⊢
          rcases hq with e | hq
          · exact .inl (.inl e)
          · rcases hown q hq with e | e
            · exact .inl (.inr e)
            · exact .inr (by omega))
        have hz6 := hc06.size
        have hobl := (hrow6.lt _ rfl).2
        have hown6' : ∀ q ∈ F6, q ∈ F ∨ w.heap.size + 1 ≤ q := fun q hq => by
          rcases hown6 q hq with e | e
          · exact hown q e
          · have := HCUR.out.size; omega
        clear hb6 hc6 hc56 hc06 hmc HTO
        have HM6 := Lib.hid hm6; clear hm6
        have HROW6 := Lib.hid hrow6; clear hrow6
        have HCH6 := Lib.hid hch6; clear hch6
        have c6 : w6.cell? ⟨w.heap.size, k, none⟩ = some (.int .i64 0) := row_at2 HROW6.out (by simp [refsCells, hll, show n - k = (n - (k + 1)) + 1 by omega, List.replicate_succ])
        have f6 := row_fz HROW6.out (by omega) k
        go_wp2_with fail
        go_roundw
        case rel =>
          obtain ⟨k1, k2, k3, k4, k5, k6, k7⟩ := HST.out
          have hcs : Ch [w.heap.size] w6 (w6.setCell ⟨w.heap.size, k, none⟩ (.int .i64 X.2.1)) := (Ch.refl _ _).setCell (by simp) _
          refine ⟨k + 1, (mput P' X).1, F6, l ++ [X.2.1], by omega, by go_num, by simp [hll], by rw [HSU.out]; exact k1, fun hz => ?_, fun r hr => ?_, hext.trans k5, HM6.out.same hcs ?_, HCH6.out.trans hcs (fun q hq => .inr (by simp at hq; omega)), hown6', hmap6.trans hmap, ?_, by simp; omega⟩
          · rw [HSU.out] at hz ⊢
            show l ++ [X.2.1] = R'.2 ++ [(sMux R'.1 c a b).2]
            have hR0 : R'.1.2 = 0 := by
              by_cases h0 : R'.1.2 = 0
              · exact h0
              · exact absurd hz (k7 h0)
            rw [HOUT.out hR0]
            have := k4 hz
            exact congrArg (fun z => R'.2 ++ [z]) this
          · rcases List.mem_append.1 hr with hr | hr
            · exact k5.lt (hall r hr)
            · rw [List.mem_singleton.1 hr]; exact k2
          · intro q hq hq2
            rw [List.mem_singleton.1 hq2] at hq
            simp only [List.mem_cons] at hq
            rcases hq with e | hq
            · omega
            · rcases hown6' _ hq with e | e
              · have := HFL.out _ e; omega
              · omega
          · rw [← zeros_snoc (r := X.2.1) hll hlt]
            exact row.set HROW6.out _
        case measure => simp [intOf]; omega
      · have hR : (chF c R ((x.zip y).take k)).1.2 ≠ 0 := by
          rcases hs.rel with ⟨_, e⟩ | ⟨e, _⟩
          · rw [← e]; exact hP
          · omega
        have hbad := chF_bad c R _ hR ((x.zip y).drop k)
        rw [List.take_append_drop] at hbad
        have hq : ((P'.2 : Int) != 0) = true := by simp; omega
        have hpos := hm.gin.ok.wf.pos
        obtain ⟨xq, hxq⟩ : ∃ a, x[k]? = some a := ⟨_, List.getElem?_eq_getElem (by rw [HXL.out]; exact hlt)⟩
        obtain ⟨xb, xo, rfl, hxc⟩ := HX.out.cells k (xq : Int) (by simp [hxq])
        have d0 := (hch.cell (p := ⟨xb, xo + k, none⟩) (HXA.out xb (by simp [ablk])).2 (HXA.out xb (by simp [ablk])).1).trans hxc
        have HS := Lib.hid hs; clear hs
        have HM := Lib.hid hm; clear hm
        have HCH := Lib.hid hch; clear hch
        have HROW := Lib.hid hrow; clear hrow
        have HR := Lib.hid hR; clear hR
        have HBAD := Lib.hid hbad; clear hbad
        have HOUT := Lib.hid hout; clear hout
        have HOB := Lib.hid hobF; clear hobF
        clear hP hxc hxq
        go_wp2_with fail
        go_ret
        refine ⟨_, rfl, P', l ++ List.replicate (n - k) 0, by rw [HBAD.out]; exact HS.out, fun h0 => absurd (by rw [HBAD.out] at h0; exact h0) HR.out, by simp [hll]; omega, fun r hr => ?_, hext, F', HM.out, HCH.out, fun q hq => (hown q hq).imp id (fun e => by omega), hmap, ?_, ?_⟩
        · rcases List.mem_append.1 hr with hr | hr
          · exact hall r hr
          · rw [(List.mem_replicate.1 hr).2]; omega
        · have hlen : (l ++ List.replicate (n - k) 0).length = n := by simp [hll]; omega
          rw [hlen]; exact HROW.out
        · intro q hq
          cases hq
          have := HOB.out
          simp only [List.mem_cons, not_or] at this
          exact ⟨Nat.le_refl _, this.2, by show w.heap.size ≠ m; omega⟩
    · have hkn : k = n := by omega
      subst hkn
      rw [List.take_of_length_le (by rw [HZL.out]; omega)] at hs hout
      have HS := Lib.hid hs; clear hs
      have HM := Lib.hid hm; clear hm
      have HCH := Lib.hid hch; clear hch
      have HROW := Lib.hid hrow; clear hrow
      have HOUT := Lib.hid hout; clear hout
      have HOB := Lib.hid hobF; clear hobF
      go_wp2_with fail
      go_ret
      refine ⟨_, rfl, P', l, HS.out, HOUT.out, hll, hall, hext, F', HM.out, HCH.out, fun q hq => (hown q hq).imp id (fun e => by omega), hmap, ?_, ?_⟩
      · have := HROW.out
        rw [Nat.sub_self, List.replicate_zero, List.append_nil] at this
        rw [hll]; exact this
      · intro q hq
        cases hq
        have := HOB.out
        simp only [List.mem_cons, not_or] at this
        exact ⟨Nat.le_refl _, this.2, by show w.heap.size ≠ m; omega⟩
end
end Go.Proofs.YtdmmanfjafempaaGreat
namespace Go.Aig
/-- whether two words are the same -/
def eqW (G : Gra) (x y : List Nat) : Res := negG (refG G [natInts x, natInts y] (neF (G, 0) (x.zip y)))
theorem nats_natInts' (l : List Nat) : nats (natInts l) = l := Go.Proofs.YtdmmanfjafempaaGreat.toNats l
theorem chk2_ok {G : Gra} {x y : List Nat} {n : Nat} (hx : x.length = n) (hy : y.length = n) (h1 : 1 ≤ n) (h17 : n ≤ 17) (hxr : ∀ r ∈ x, r < 2 * G.nodes.length) (hyr : ∀ r ∈ y, r < 2 * G.nodes.length) : chk G [natInts x, natInts y] = 0 := by
  have h : rightW (n : Int) = true := by unfold rightW; simp; omega
  have hb : ∀ z : List Nat, (∀ r ∈ z, r < 2 * G.nodes.length) → badIn G (natInts z) = false := fun z hz => by
    unfold badIn natInts
    rw [List.any_map, List.any_eq_false]
    intro r hr
    have := hz r hr
    simp [right]; omega
  unfold chk
  simp only [List.any_cons, List.any_nil, Bool.or_false, List.headD_cons, hb x hxr, hb y hyr, badAs, natInts_len, hx, hy, h]
  simp
theorem eqW_full {G : Gra} (hG : Ok G) {x y : List Nat} {n : Nat} (hx : x.length = n) (hy : y.length = n) (h1 : 1 ≤ n) (h17 : n ≤ 17) (hxr : ∀ r ∈ x, r < 2 * G.nodes.length) (hyr : ∀ r ∈ y, r < 2 * G.nodes.length) : RFull G (eqW G x y) := by
  have hv := neF_vok hG (x.zip y) (zip_lt hxr hyr)
  have hc := chk2_ok hx hy h1 h17 hxr hyr
  have hp := hG.wf.pos
  unfold eqW refG
  rw [if_neg (by simpa using hc)]
  unfold rres
  split
  · rename_i he
    have e1 : (neF (G, 0) (x.zip y)).1.2 = 201 := hv.s.err.resolve_left he
    rw [e1]
    show RFull G (G, 0, 201)
    exact ⟨⟨hG, .refl _, by show 0 < 2 * G.nodes.length; omega, .inr rfl⟩, fun _ => rfl⟩
  · unfold negG
    rw [if_neg (by simp)]
    exact ⟨⟨hv.s.ok, hv.s.ext, neg_lt hv.lt, .inl rfl⟩, fun h => absurd rfl h⟩
theorem constL_len (x n : Nat) : (constL x n).length = n := by simp [constL]
theorem constL_le (x n : Nat) : ∀ r ∈ constL x n, r ≤ 1 := fun r hr => by
  unfold constL at hr
  obtain ⟨i, _, rfl⟩ := List.mem_map.1 hr
  cases x.testBit i <;> simp
/-- how many indices fit -/
def fitN (n bits : Nat) : Nat := min n (2 ^ bits)
end Go.Aig
namespace Go.Proofs.YtdmmanfjafempaaGreat
open Go.RowKit Go.Mem Go.Aig
section
variable {w : World} {g m : Nat} {G : Gra} {F : List Nat}
set_option maxRecDepth 100000 in
set_option maxHeartbeats 1000000 in
theorem mfit_is [Nonempty Unit] (n bits : Nat) (h16 : bits ≤ 16) (_hn : n ≤ 1000) :
    Calls Tryz.prog 107 #[.int .i64 n, .int .i64 bits] w fun e w' => e = .returned (.int .i64 (fitN n bits : Nat)) ∧ w = w' := by
  obtain ⟨m, hm, hmn⟩ : ∃ m, fitN n bits = m ∧ m ≤ n := ⟨_, rfl, Nat.min_le_left _ _⟩
  have hp : (2 : Nat) ^ bits ≤ 65536 := Nat.pow_le_pow_right (n := 2) (by omega) h16
  have hmin : ∀ ats ty, Builtin.min_ ats ty #[.int .i64 (n : Int), .int .i64 (wrap64 ((2 : Int) ^ bits))] = pure (.int .i64 (m : Int)) := fun ats ty => by
    have e : wrap64 ((2 : Int) ^ bits) = ((2 ^ bits : Nat) : Int) := by
      have : ((2 : Int) ^ bits) = ((2 ^ bits : Nat) : Int) := by simp
      rw [this]
      generalize (2 : Nat) ^ bits = D at hp
      exact IntWalk.wrap64_in _ (by omega)
    rw [e]
    exact min_nat n (2 ^ bits) m hm ats ty
  clear hp
  rw [hm]
  clear hm
  go_enter Tryz.func107, Tryz.ntmps107
  go_wp2_with fail
  go_ret
  exact ⟨rfl, rfl⟩
set_option maxRecDepth 100000 in
set_option maxHeartbeats 2000000 in
theorem mis_is {P : Mk} (h : MIn w g m P F) {y : List Nat} {ya : Option Addr} (n yc i : Nat) (hyl : y.length = n) (h1 : 1 ≤ n) (h17 : n ≤ 17) (hi : i < 4294967296) (hy : WVin w F ⟨ya, natInts y, yc⟩) (_hyr : ∀ r ∈ y, r < 2 * P.1.nodes.length) :
    Calls Tryz.prog 100 #[.pointer (some ⟨m, 0, none⟩), .slice ya n yc, .int .u32 i] w fun e w' => e = .returned (.int .i64 (mput P (eqW P.1 y (constL i n))).2) ∧ MTo w g m (mput P (eqW P.1 y (constL i n))).1 F w' := by
  have hC := sConst_is (w := w) i hi n
  have hr : rightW (n : Int) = true := by unfold rightW; simp; omega
  rw [hr] at hC
  simp only [if_true, Int.toNat_natCast] at hC
  have hlt := h.gin.lt
  have hpos := h.gin.ok.wf.pos
  have hE := fun (W : World) (hW : Ch [] w W) (ca : Option Addr) (cc : Nat) (hc : WVin W F ⟨ca, natInts (constL i n), cc⟩) => sEq_is (h.gin.same hW (by simp)) (hy.ch hW) hc
  simp only [nats_natInts', WV.val, natInts_len, constL_len, hyl] at hE
  obtain ⟨X, hX⟩ : ∃ X, eqW P.1 y (constL i n) = X := ⟨_, rfl⟩
  have hX2 := hX
  unfold eqW at hX2
  simp only [hX2] at hE
  rw [hX]
  have hml := h.bk.lt
  clear hX hX2 hr
  have H := Lib.hid h; clear h
  have HE := Lib.hid hE; clear hE
  have HY := Lib.hid hy; clear hy
  have HLT := Lib.hid hlt; clear hlt
  go_enter Tryz.func100, Tryz.ntmps100
  go_wp2_with fail
  refine hC.mono ?_
  rintro e w1 ⟨v, rfl, hrow, hown, hc1⟩
  have e1 : (refsCells (constL i n)).length = n := by simp [refsCells, constL_len]
  rw [e1] at hrow
  obtain ⟨va, vc, rfl⟩ := row.shape hrow
  have hm1 := H.out.same hc1 (by simp)
  have hwv : WVin w1 F ⟨va, natInts (constL i n), vc⟩ := by
    have hh : Held w w1 F (.slice va n vc) (natInts (constL i n)) := ⟨by rw [← refs_natInts, natInts_len, constL_len]; exact hrow, by rw [natInts_len, constL_len]; omega, fun r hr => by
      obtain ⟨q, hq, rfl⟩ := List.mem_map.1 hr
      have := constL_le i n q hq
      omega, fun k hk => ⟨hown k (by simpa using hk), fun hin => by have := HLT.out k hin; have := hown k (by simpa using hk); omega⟩⟩
    exact hh.in (by rw [natInts_len, constL_len])
  have hE1 := HE.out w1 hc1 va vc hwv
  have m0 := hm1.bk.cell (i := 0) rfl
  have HM1 := Lib.hid hm1; clear hm1
  have HC1 := Lib.hid hc1; clear hc1
  have HE1 := Lib.hid hE1; clear hE1 HE
  clear hrow hwv hown
  go_wp2_with fail
  refine HE1.out.mono ?_
  rintro e w2 ⟨rfl, hto⟩
  have hb2 := HM1.out.bk.ch hto.choose_spec.2.1 HM1.out.apart
  have HTO := Lib.hid hto; clear hto
  have HN := mnote_is hb2 X.2.1 X.2.2
  clear hb2 m0
  go_wp2_with fail
  refine HN.mono ?_
  rintro e w3 ⟨rfl, hb3, hc3⟩
  have HB := Lib.hid hb3; clear hb3
  have HC := Lib.hid hc3; clear hc3
  go_wp2_with fail
  go_ret
  obtain ⟨F', q1, q2, q3, q4⟩ := MTo.of (P' := (mput P X).1) HM1.out HTO.out (fun _ => HB.out) HC.out
  exact ⟨rfl, F', q1, (HC1.out.mono (by simp)).trans q2 (fun k hk => .inl hk), fun k hk => (q3 k hk).imp id (fun e => Nat.le_trans HC1.out.size e), q4⟩
end
end Go.Proofs.YtdmmanfjafempaaGreat
namespace Go.Aig
theorem List.snocRec {α : Type} {motive : List α → Prop} (nil : motive []) (snoc : ∀ l x, motive l → motive (l ++ [x])) (l : List α) : motive l := by
  have : ∀ n (l : List α), l.length = n → motive l := by
    intro n
    induction n with
    | zero => intro l hl; rw [List.eq_nil_of_length_eq_zero hl]; exact nil
    | succ n ih =>
      intro l hl
      have hne : l ≠ [] := by intro e; rw [e] at hl; simp at hl
      rw [← List.dropLast_concat_getLast hne]
      exact snoc _ _ (ih _ (by rw [List.length_dropLast]; omega))
  exact this l.length l rfl
/-- the word of a reference, over the words of the nodes; M has all bits -/
def wref (M : Nat) (vs : List Nat) (r : Nat) : Nat := if r % 2 = 1 then M ^^^ vs.getD (r / 2) 0 else vs.getD (r / 2) 0
def wvStep (M : Nat) (s : List Nat × List Nat) (x : Nd) : List Nat × List Nat :=
  if x.k = 3 then (s.1 ++ [wref M s.1 x.l &&& wref M s.1 x.r], s.2) else if x.k = 2 then (s.1 ++ [s.2.headD 0], s.2.tail) else (s.1 ++ [0], s.2)
/-- the words of the nodes, and those of the inputs that are left -/
def wvF (M : Nat) (ins : List Nat) (ns : List Nd) : List Nat × List Nat := ns.foldl (wvStep M) ([], ins)
theorem wvF_snoc (M : Nat) (ins : List Nat) (ns : List Nd) (x : Nd) : wvF M ins (ns ++ [x]) = wvStep M (wvF M ins ns) x := by unfold wvF; rw [List.foldl_append]; rfl
theorem wvF_len (M : Nat) (ins : List Nat) (ns : List Nd) : (wvF M ins ns).1.length = ns.length := by
  induction ns using List.snocRec with
  | nil => rfl
  | snoc ns x ih =>
    rw [wvF_snoc]
    unfold wvStep
    (repeat' split) <;> simp [ih]
theorem wvF_ext (M : Nat) (ins : List Nat) (ns : List Nd) (x : Nd) : ∃ v, (wvF M ins (ns ++ [x])).1 = (wvF M ins ns).1 ++ [v] := by
  rw [wvF_snoc]
  unfold wvStep
  (repeat' split) <;> exact ⟨_, rfl⟩
theorem wref_ext {M : Nat} {vs more : List Nat} {r : Nat} (h : r < 2 * vs.length) : wref M (vs ++ more) r = wref M vs r := by
  unfold wref
  rw [List.getD_eq_getElem?_getD, List.getD_eq_getElem?_getD, List.getElem?_append_left (by omega)]
theorem wref_bit {N k : Nat} (hk : k < N) (vs : List Nat) (r : Nat) : (wref (2 ^ N - 1) vs r).testBit k = rv (vs.map fun v => v.testBit k) r := by
  have hg : (vs.map fun v => v.testBit k).getD (r / 2) false = (vs.getD (r / 2) 0).testBit k := by
    rw [List.getD_eq_getElem?_getD, List.getD_eq_getElem?_getD, List.getElem?_map]
    cases vs[r / 2]? <;> simp
  unfold wref rv
  rw [hg]
  split
  · rename_i h
    rw [Nat.testBit_xor, Nat.testBit_two_pow_sub_one, decide_eq_true hk, decide_eq_true h, Bool.xor_comm]
  · rename_i h
    rw [decide_eq_false h, Bool.xor_false]
/-- bit by bit, the words are what the nodes are for one assignment -/
theorem wvF_bits {N k : Nat} (hk : k < N) (ins : List Nat) (ns : List Nd) :
    (wvF (2 ^ N - 1) ins ns).1.map (fun v => v.testBit k) = (nv (fun i => (ins.getD i 0).testBit k) ns).1 ∧ (wvF (2 ^ N - 1) ins ns).2 = ins.drop (nv (fun i => (ins.getD i 0).testBit k) ns).2 := by
  induction ns using List.snocRec with
  | nil => exact ⟨rfl, rfl⟩
  | snoc ns x ih =>
    obtain ⟨h1, h2⟩ := ih
    rw [wvF_snoc, nv_snoc]
    unfold wvStep nvStep
    split
    · refine ⟨?_, h2⟩
      simp only [List.map_append, List.map_cons, List.map_nil, h1, Nat.testBit_and, wref_bit hk]
    · split
      · refine ⟨?_, ?_⟩
        · simp only [List.map_append, List.map_cons, List.map_nil, h1, h2]
          congr 2
          rw [List.headD_eq_head?_getD, List.head?_drop, List.getD_eq_getElem?_getD]
        · simp only [h2, List.tail_drop]
      · refine ⟨?_, h2⟩
        simp only [List.map_append, List.map_cons, List.map_nil, h1, Nat.zero_testBit]
theorem wv_bv {N k : Nat} (hk : k < N) (ins : List Nat) (ns : List Nd) (r : Nat) : (wref (2 ^ N - 1) (wvF (2 ^ N - 1) ins ns).1 r).testBit k = bv (fun i => (ins.getD i 0).testBit k) ns r := by
  rw [wref_bit hk, (wvF_bits hk ins ns).1]
  rfl
theorem wref_lt {N : Nat} {vs : List Nat} (h : ∀ v ∈ vs, v < 2 ^ N) (r : Nat) : wref (2 ^ N - 1) vs r < 2 ^ N := by
  have hp : 0 < 2 ^ N := Nat.two_pow_pos N
  have hg : vs.getD (r / 2) 0 < 2 ^ N := by
    rw [List.getD_eq_getElem?_getD]
    cases hq : vs[r / 2]? with
    | none => exact hp
    | some v => exact h v (List.mem_of_getElem? hq)
  unfold wref
  split
  · exact Nat.xor_lt_two_pow (by omega) hg
  · exact hg
theorem wvF_lt {N : Nat} {ins : List Nat} (hi : ∀ v ∈ ins, v < 2 ^ N) (ns : List Nd) : (∀ v ∈ (wvF (2 ^ N - 1) ins ns).1, v < 2 ^ N) ∧ ∀ v ∈ (wvF (2 ^ N - 1) ins ns).2, v < 2 ^ N := by
  have hp : 0 < 2 ^ N := Nat.two_pow_pos N
  induction ns using List.snocRec with
  | nil => exact ⟨by simp [wvF], hi⟩
  | snoc ns x ih =>
    obtain ⟨h1, h2⟩ := ih
    rw [wvF_snoc]
    unfold wvStep
    split
    · refine ⟨fun v hv => ?_, h2⟩
      rcases List.mem_append.1 hv with hv | hv
      · exact h1 v hv
      · rw [List.mem_singleton.1 hv]
        exact Nat.and_lt_two_pow _ (wref_lt h1 _)
    · split
      · refine ⟨fun v hv => ?_, fun v hv => h2 v (List.mem_of_mem_tail hv)⟩
        rcases List.mem_append.1 hv with hv | hv
        · exact h1 v hv
        · rw [List.mem_singleton.1 hv]
          cases hq : (wvF (2 ^ N - 1) ins ns).2 with
          | nil => exact hp
          | cons a l => exact h2 a (by rw [hq]; exact List.mem_cons_self ..)
      · refine ⟨fun v hv => ?_, h2⟩
        rcases List.mem_append.1 hv with hv | hv
        · exact h1 v hv
        · rw [List.mem_singleton.1 hv]; exact hp
/-- how many inputs there are -/
theorem nv_count (env : Nat → Bool) (ns : List Nd) : (nv env ns).2 = (inputs ns).length := by
  have : ∀ (ns : List Nd) (n : Nat), (inputsFrom ns n).length = (ns.filter fun x => x.k == 2).length := by
    intro ns
    induction ns with
    | nil => intro n; rfl
    | cons x ns ih =>
      intro n
      unfold inputsFrom
      split
      · rename_i h; simp [h, ih]
      · rename_i h; simp [h, ih]
  unfold inputs
  rw [this]
  induction ns using List.snocRec with
  | nil => rfl
  | snoc ns x ih =>
    rw [nv_snoc, List.filter_append, List.length_append, ← ih]
    unfold nvStep
    split
    · rename_i h; simp [h]
    · split
      · rename_i h; simp [h]
      · rename_i h; simp [h]
end Go.Aig
namespace Go.Aig
theorem b_le (b : Bool) : b.toNat ≤ 1 := by cases b <;> decide
theorem bitsVal_inj : ∀ {x y : List Bool}, x.length = y.length → bitsVal x = bitsVal y → x = y
  | [], [], _, _ => rfl
  | [], _ :: _, h, _ => by simp at h
  | _ :: _, [], h, _ => by simp at h
  | a :: x, b :: y, h, e => by
    have e : a.toNat + 2 * bitsVal x = b.toNat + 2 * bitsVal y := e
    have ha := b_le a
    have hb := b_le b
    have h1 : a.toNat = b.toNat := by omega
    have h2 : bitsVal x = bitsVal y := by omega
    rw [bitsVal_inj (by simpa using h) h2]
    congr 1
    cases a <;> cases b <;> simp at h1 ⊢
theorem bitsVal_bit : ∀ (l : List Bool) (i : Nat), (bitsVal l).testBit i = l.getD i false
  | [], i => by simp [bitsVal]
  | b :: l, 0 => by
    show (b.toNat + 2 * bitsVal l).testBit 0 = b
    rw [Nat.testBit_zero]
    cases b <;> simp <;> omega
  | b :: l, i + 1 => by
    show (b.toNat + 2 * bitsVal l).testBit (i + 1) = _
    rw [Nat.testBit_succ, show (b.toNat + 2 * bitsVal l) / 2 = bitsVal l by have := b_le b; omega, bitsVal_bit l i]
    simp
theorem bits_val (a w : Nat) : bitsVal ((List.range w).map fun i => a.testBit i) = a % 2 ^ w := by
  apply Nat.eq_of_testBit_eq
  intro i
  rw [bitsVal_bit, Nat.testBit_mod_two_pow, List.getD_eq_getElem?_getD, List.getElem?_map]
  by_cases h : i < w
  · rw [List.getElem?_range h]; simp [h]
  · rw [List.getElem?_eq_none (by simp; omega)]; simp [h]
end Go.Aig
namespace Go.Aig
theorem and_room {G : Gra} {a b : Nat} (h : G.nodes.length < G.most) : (Aig.and G a b).2.2 = 0 ∧ (Aig.and G a b).1.nodes.length ≤ G.nodes.length + 1 := by
  unfold Aig.and
  split
  · exact ⟨rfl, by show G.nodes.length ≤ _; omega⟩
  · split
    · exact ⟨rfl, by show G.nodes.length ≤ _; omega⟩
    · unfold put
      rw [if_neg (by omega)]
      exact ⟨rfl, by simp⟩
theorem and_most (G : Gra) (a b : Nat) : (Aig.and G a b).1.most = G.most := by
  unfold Aig.and put; (repeat' split) <;> rfl
theorem mand_room {s : Mk} {a b : Nat} (he : s.2 = 0) (h : s.1.nodes.length < s.1.most) : (mand s a b).1.2 = 0 ∧ (mand s a b).1.1.nodes.length ≤ s.1.nodes.length + 1 ∧ (mand s a b).1.1.most = s.1.most := by
  unfold mand
  rw [if_neg (by omega)]
  obtain ⟨h1, h2⟩ := and_room (a := a) (b := b) h
  exact ⟨h1, h2, and_most _ _ _⟩
theorem mor_room {s : Mk} {a b : Nat} (he : s.2 = 0) (h : s.1.nodes.length < s.1.most) : (mor s a b).1.2 = 0 ∧ (mor s a b).1.1.nodes.length ≤ s.1.nodes.length + 1 ∧ (mor s a b).1.1.most = s.1.most := mand_room (a := neg a) (b := neg b) he h
theorem mmux_room {s : Mk} {c a b : Nat} (he : s.2 = 0) (h : s.1.nodes.length + 3 ≤ s.1.most) : (mmux s c a b).1.2 = 0 ∧ (mmux s c a b).1.1.nodes.length ≤ s.1.nodes.length + 3 ∧ (mmux s c a b).1.1.most = s.1.most := by
  obtain ⟨h1, h2, h3⟩ := mand_room (a := c) (b := a) he (by omega)
  obtain ⟨h4, h5, h6⟩ := mand_room (a := neg c) (b := b) h1 (by omega)
  obtain ⟨h7, h8, h9⟩ := mor_room (a := (mand s c a).2) (b := (mand (mand s c a).1 (neg c) b).2) h4 (by omega)
  exact ⟨h7, by show (mor _ _ _).1.1.nodes.length ≤ _; omega, by show (mor _ _ _).1.1.most = _; omega⟩
theorem mall_room : ∀ (l : List Nat) {s : Mk} {out : Nat}, s.2 = 0 → s.1.nodes.length + l.length ≤ s.1.most → (mall s out l).1.2 = 0 ∧ (mall s out l).1.1.nodes.length ≤ s.1.nodes.length + l.length ∧ (mall s out l).1.1.most = s.1.most
  | [], s, out, he, _ => ⟨he, by simp [mall], rfl⟩
  | r :: l, s, out, he, h => by
    simp only [List.length_cons] at h ⊢
    obtain ⟨h1, h2, h3⟩ := mand_room (a := out) (b := r) he (by omega)
    obtain ⟨h4, h5, h6⟩ := mall_room l (s := (mand s out r).1) (out := (mand s out r).2) h1 (by omega)
    refine ⟨h4, ?_, ?_⟩
    · show (mall (mand s out r).1 (mand s out r).2 l).1.1.nodes.length ≤ _; omega
    · show (mall (mand s out r).1 (mand s out r).2 l).1.1.most = _; omega
/-- what a maker is that keeps all in order -/
structure Good (f : Mk → Mk × Nat) (G : Gra) (k : Nat) (v : (Nat → Bool) → Bool) : Prop where
  ok : MOk (f (G, 0)).1
  ext : Ext G (f (G, 0)).1.1
  lt : (f (G, 0)).2 < 2 * (f (G, 0)).1.1.nodes.length
  sem : ∀ env, (f (G, 0)).1.2 = 0 → bv env (f (G, 0)).1.1.nodes (f (G, 0)).2 = v env
  room : G.nodes.length + k ≤ G.most → (f (G, 0)).1.2 = 0 ∧ (f (G, 0)).1.1.nodes.length ≤ G.nodes.length + k
theorem right_of {ns : List Nd} {r : Nat} (h : r < 2 * ns.length) : right ns (r : Int) = true := by unfold right; simp; omega
theorem whole_good {G : Gra} {l : List Nat} {f : Mk → Mk × Nat} {k : Nat} {v : (Nat → Bool) → Bool} (hl : ∀ r ∈ l, r < 2 * G.nodes.length) (h : Good f G k v) (hok : Ok G) :
    Ok (whole G (l.map fun (r : Nat) => (r : Int)) f).1 ∧ Ext G (whole G (l.map fun (r : Nat) => (r : Int)) f).1 ∧ (whole G (l.map fun (r : Nat) => (r : Int)) f).2.1 < 2 * (whole G (l.map fun (r : Nat) => (r : Int)) f).1.nodes.length ∧
      (∀ env, (whole G (l.map fun (r : Nat) => (r : Int)) f).2.2 = 0 → bv env (whole G (l.map fun (r : Nat) => (r : Int)) f).1.nodes (whole G (l.map fun (r : Nat) => (r : Int)) f).2.1 = v env) ∧
      (G.nodes.length + k ≤ G.most → (whole G (l.map fun (r : Nat) => (r : Int)) f).2.2 = 0 ∧ (whole G (l.map fun (r : Nat) => (r : Int)) f).1.nodes.length ≤ G.nodes.length + k) := by
  have hany : ((l.map fun (r : Nat) => (r : Int)).any fun r => !right G.nodes r) = false := by
    rw [List.any_eq_false]
    intro x hx
    obtain ⟨r, hr, rfl⟩ := List.mem_map.1 hx
    simp [right_of (hl r hr)]
  have hp := hok.wf.pos
  unfold whole
  rw [hany]
  simp only [Bool.false_eq_true, if_false]
  by_cases he : (f (G, 0)).1.2 = 0
  · rw [if_neg (by omega)]
    exact ⟨h.ok.ok, h.ext, h.lt, fun env _ => h.sem env he, fun hk => ⟨rfl, (h.room hk).2⟩⟩
  · rw [if_pos (by omega)]
    exact ⟨hok, Ext.refl _, by show 0 < 2 * G.nodes.length; omega, fun env hz => (he hz).elim, fun hk => (he (h.room hk).1).elim⟩
section
variable {G : Gra} (h : Ok G)
include h
theorem mok0 : MOk (G, 0) := ⟨h, .inl rfl⟩
theorem good_and {a b : Nat} (ha : a < 2 * G.nodes.length) (hb : b < 2 * G.nodes.length) : Good (fun s => mand s a b) G 1 (fun env => bv env G.nodes a && bv env G.nodes b) := by
  obtain ⟨h1, h2, h3⟩ := mand_ok (mok0 h) ha hb
  exact ⟨h1, h2, h3, fun env he => mand_sem env (mok0 h) ha hb he, fun hk => ⟨(mand_room (s := (G, 0)) rfl hk).1, (mand_room (s := (G, 0)) rfl hk).2.1⟩⟩
theorem good_or {a b : Nat} (ha : a < 2 * G.nodes.length) (hb : b < 2 * G.nodes.length) : Good (fun s => mor s a b) G 1 (fun env => bv env G.nodes a || bv env G.nodes b) := by
  obtain ⟨h1, h2, h3⟩ := mor_ok (mok0 h) ha hb
  exact ⟨h1, h2, h3, fun env he => mor_sem env (mok0 h) ha hb he, fun hk => ⟨(mor_room (s := (G, 0)) rfl hk).1, (mor_room (s := (G, 0)) rfl hk).2.1⟩⟩
theorem good_mux {c a b : Nat} (hc : c < 2 * G.nodes.length) (ha : a < 2 * G.nodes.length) (hb : b < 2 * G.nodes.length) : Good (fun s => mmux s c a b) G 3 (fun env => bv env G.nodes c && bv env G.nodes a || !bv env G.nodes c && bv env G.nodes b) := by
  obtain ⟨h1, h2, h3⟩ := mmux_ok (mok0 h) hc ha hb
  exact ⟨h1, h2, h3, fun env he => mmux_sem env (mok0 h) hc ha hb he, fun hk => ⟨(mmux_room (s := (G, 0)) rfl hk).1, (mmux_room (s := (G, 0)) rfl hk).2.1⟩⟩
theorem good_all {l : List Nat} (hl : ∀ r ∈ l, r < 2 * G.nodes.length) : Good (fun s => mall s 1 l) G l.length (fun env => l.all fun r => bv env G.nodes r) := by
  have hp := h.wf.pos
  obtain ⟨h1, h2, h3⟩ := mall_ok l (mok0 h) (show 1 < 2 * G.nodes.length by omega) hl
  refine ⟨h1, h2, h3, fun env he => ?_, fun hk => ⟨(mall_room l (s := (G, 0)) rfl hk).1, (mall_room l (s := (G, 0)) rfl hk).2.1⟩⟩
  have := mall_sem env l (mok0 h) (show 1 < 2 * G.nodes.length by omega) hl he
  rw [this]
  show (bv env G.nodes 1 && _) = _
  rw [bv_one env h.wf, Bool.true_and]
theorem good_any {l : List Nat} (hl : ∀ r ∈ l, r < 2 * G.nodes.length) : Good (fun s => many s l) G l.length (fun env => l.any fun r => bv env G.nodes r) := by
  have hl' : ∀ r ∈ l.map neg, r < 2 * G.nodes.length := fun r hr => by
    obtain ⟨x, hx, rfl⟩ := List.mem_map.1 hr
    exact neg_lt (hl x hx)
  have := good_all h hl'
  refine ⟨this.ok, this.ext, neg_lt this.lt, fun env he => ?_, fun hk => ?_⟩
  rotate_left
  · obtain ⟨h1, h2⟩ := this.room (by simpa using hk)
    exact ⟨h1, by simpa [many] using h2⟩
  have h2 := this.sem env he
  show bv env (mall (G, 0) 1 (l.map neg)).1.1.nodes (neg (mall (G, 0) 1 (l.map neg)).2) = _
  rw [bv_neg, h2]
  simp only [List.all_map, Function.comp_def, bv_neg]
  simp [List.any_eq_not_all_not]
end
end Go.Aig
namespace Go.Aig
/-- what the ands make holds no input -/
theorem and_noin {G : Gra} {a b : Nat} : ∃ more, (Aig.and G a b).1.nodes = G.nodes ++ more ∧ ∀ x ∈ more, x.k = 3 := by
  unfold Aig.and put
  (repeat' split)
  · exact ⟨[], by simp, by simp⟩
  · exact ⟨[], by simp, by simp⟩
  · exact ⟨[], by simp, by simp⟩
  · exact ⟨_, rfl, fun x hx => by simp at hx; subst hx; rfl⟩
def NoIn (G G' : Gra) : Prop := ∃ more, G'.nodes = G.nodes ++ more ∧ ∀ x ∈ more, x.k = 3
theorem NoIn.refl (G : Gra) : NoIn G G := ⟨[], by simp, by simp⟩
theorem NoIn.trans {a b c : Gra} (h : NoIn a b) (h' : NoIn b c) : NoIn a c := by
  obtain ⟨m, e, h1⟩ := h
  obtain ⟨m', e', h2⟩ := h'
  exact ⟨m ++ m', by rw [e', e, List.append_assoc], fun x hx => (List.mem_append.1 hx).elim (h1 x) (h2 x)⟩
theorem mand_noin (s : Mk) (a b : Nat) : NoIn s.1 (mand s a b).1.1 := by
  unfold mand
  split
  · exact .refl _
  · exact and_noin
theorem mall_noin : ∀ (l : List Nat) (s : Mk) (out : Nat), NoIn s.1 (mall s out l).1.1
  | [], _, _ => .refl _
  | r :: l, s, out => (mand_noin s out r).trans (mall_noin l _ _)
theorem whole_noin {G : Gra} {l : List Int} {f : Mk → Mk × Nat} (h : NoIn G (f (G, 0)).1.1) : NoIn G (whole G l f).1 := by
  unfold whole
  split
  · exact .refl _
  · dsimp only
    split
    · exact .refl _
    · exact h
end Go.Aig
namespace Go.Aig
/-- a state behind which there is room for k nodes -/
structure Sup (s : Mk) (k : Nat) : Prop where
  err : s.2 = 0
  ok : Ok s.1
  room : s.1.nodes.length + k ≤ s.1.most
/-- all went well: at most k ands are new -/
structure Ran (s s' : Mk) (k : Nat) : Prop where
  err : s'.2 = 0
  ok : Ok s'.1
  ext : Ext s.1 s'.1
  noin : NoIn s.1 s'.1
  len : s'.1.nodes.length ≤ s.1.nodes.length + k
theorem Sup.ran {s : Mk} {k : Nat} (h : Sup s k) (j : Nat) : Ran s s j := ⟨h.err, h.ok, .refl _, .refl _, by omega⟩
theorem Ran.trans {a b c : Mk} {j k : Nat} (h : Ran a b j) (h' : Ran b c k) : Ran a c (j + k) :=
  ⟨h'.err, h'.ok, h.ext.trans h'.ext, h.noin.trans h'.noin, by have := h.len; have := h'.len; omega⟩
theorem Ran.mono {a b : Mk} {j k : Nat} (h : Ran a b j) (hk : j ≤ k) : Ran a b k := ⟨h.err, h.ok, h.ext, h.noin, by have := h.len; omega⟩
theorem Sup.mono {s : Mk} {j k : Nat} (h : Sup s k) (hk : j ≤ k) : Sup s j := ⟨h.err, h.ok, by have := h.room; omega⟩
theorem Ran.sup {s s' : Mk} {n j k : Nat} (hr : Ran s s' j) (h : Sup s n) (hn : j + k ≤ n) : Sup s' k :=
  ⟨hr.err, hr.ok, by rw [hr.ext.most]; have := hr.len; have := h.room; omega⟩
theorem Ran.bv {s s' : Mk} {k : Nat} (h : Ran s s' k) (env : Nat → Bool) {r : Nat} (hr : r < 2 * s.1.nodes.length) : Aig.bv env s'.1.nodes r = Aig.bv env s.1.nodes r := bv_of env h.ext hr
theorem Ran.bvs {s s' : Mk} {k : Nat} (h : Ran s s' k) (env : Nat → Bool) {l : List Nat} (hl : ∀ r ∈ l, r < 2 * s.1.nodes.length) : l.map (Aig.bv env s'.1.nodes) = l.map (Aig.bv env s.1.nodes) := List.map_congr_left fun r hr => h.bv env (hl r hr)
/-- a state and a reference, which means v -/
structure Val (s : Mk) (k : Nat) (R : Mk × Nat) (v : (Nat → Bool) → Bool) : Prop where
  ran : Ran s R.1 k
  lt : R.2 < 2 * R.1.1.nodes.length
  val : ∀ env, bv env R.1.1.nodes R.2 = v env
/-- a state and a word, which means v -/
structure Vals (s : Mk) (k : Nat) (R : Mk × List Nat) (v : (Nat → Bool) → List Bool) : Prop where
  ran : Ran s R.1 k
  lt : ∀ r ∈ R.2, r < 2 * R.1.1.nodes.length
  val : ∀ env, R.2.map (bv env R.1.1.nodes) = v env
/-- a result, which means v -/
structure RVal (G : Gra) (k : Nat) (R : Res) (v : (Nat → Bool) → Bool) : Prop where
  err : R.2.2 = 0
  ok : Ok R.1
  ext : Ext G R.1
  noin : NoIn G R.1
  len : R.1.nodes.length ≤ G.nodes.length + k
  lt : R.2.1 < 2 * R.1.nodes.length
  val : ∀ env, bv env R.1.nodes R.2.1 = v env
theorem rstep_val {s : Mk} {k : Nat} {R : Res} {v : (Nat → Bool) → Bool} (h : s.2 = 0) (hR : RVal s.1 k R v) : Val s k (rstep s R) v := by
  rw [rstep_ok h hR.err]
  exact ⟨⟨rfl, hR.ok, hR.ext, hR.noin, hR.len⟩, hR.lt, hR.val⟩
theorem rval_good {G : Gra} {f : Mk → Mk × Nat} {k : Nat} {v : (Nat → Bool) → Bool} (h : Good f G k v) (hok : Ok G) (hn : NoIn G (f (G, 0)).1.1) (hr : G.nodes.length + k ≤ G.most) : RVal G k (whole G [] f) v := by
  obtain ⟨h1, h2, h3, h4, h5⟩ := whole_good (l := []) (by simp) h hok
  obtain ⟨h6, h7⟩ := h5 hr
  exact ⟨h6, h1, h2, whole_noin hn, h7, h3, fun env => h4 env h6⟩
theorem no_args {ns : List Nd} : ∀ x ∈ ([] : List Int), right ns x = true := by simp
section
variable {G : Gra} (h : Ok G)
include h
theorem and_rval {a b : Nat} (ha : a < 2 * G.nodes.length) (hb : b < 2 * G.nodes.length) (hr : G.nodes.length + 1 ≤ G.most) : RVal G 1 (and G a b) (fun env => bv env G.nodes a && bv env G.nodes b) := by
  have := rval_good (good_and h ha hb) h (mand_noin _ _ _) hr
  rwa [whole_and no_args] at this
theorem rOr_rval {a b : Nat} (ha : a < 2 * G.nodes.length) (hb : b < 2 * G.nodes.length) (hr : G.nodes.length + 1 ≤ G.most) : RVal G 1 (rOr G a b) (fun env => bv env G.nodes a || bv env G.nodes b) := by
  have := rval_good (good_or h ha hb) h (mand_noin _ _ _) hr
  rwa [whole_or no_args] at this
theorem rMux_rval {c a b : Nat} (hc : c < 2 * G.nodes.length) (ha : a < 2 * G.nodes.length) (hb : b < 2 * G.nodes.length) (hr : G.nodes.length + 3 ≤ G.most) : RVal G 3 (rMux G c a b) (fun env => bif bv env G.nodes c then bv env G.nodes a else bv env G.nodes b) := by
  have := rval_good (good_mux h hc ha hb) h (((mand_noin _ _ _).trans (mand_noin _ _ _)).trans (mand_noin _ _ _)) hr
  rw [whole_mux no_args] at this
  exact ⟨this.err, this.ok, this.ext, this.noin, this.len, this.lt, fun env => by rw [this.val]; cases bv env G.nodes c <;> simp⟩
theorem rXor_rval {a b : Nat} (ha : a < 2 * G.nodes.length) (hb : b < 2 * G.nodes.length) (hr : G.nodes.length + 3 ≤ G.most) : RVal G 3 (rXor G a b) (fun env => bv env G.nodes a != bv env G.nodes b) := by
  have := rMux_rval h ha (neg_lt hb) hb hr
  exact ⟨this.err, this.ok, this.ext, this.noin, this.len, this.lt, fun env => by
    have e := this.val env
    rw [bv_neg] at e
    refine e.trans ?_
    cases bv env G.nodes a <;> cases bv env G.nodes b <;> rfl⟩
theorem rAll_rval {l : List Nat} (hl : ∀ r ∈ l, r < 2 * G.nodes.length) (hr : G.nodes.length + l.length ≤ G.most) : RVal G l.length (rAll G l) (fun env => l.all (bv env G.nodes)) := by
  have := rval_good (good_all h hl) h (mall_noin _ _ _) hr
  rwa [whole_all no_args] at this
theorem rAny_rval {l : List Nat} (hl : ∀ r ∈ l, r < 2 * G.nodes.length) (hr : G.nodes.length + l.length ≤ G.most) : RVal G l.length (rAny G l) (fun env => l.any (bv env G.nodes)) := by
  have := rval_good (good_any h hl) h (mall_noin _ _ _) hr
  rwa [whole_any no_args] at this
end
theorem inputsFrom_ands : ∀ (ms : List Nd) (k : Nat), (∀ x ∈ ms, x.k = 3) → inputsFrom ms k = []
  | [], _, _ => rfl
  | x :: ms, k, h => by
    have hx := h x (List.mem_cons_self ..)
    unfold inputsFrom
    rw [if_neg (by simp [hx])]
    exact inputsFrom_ands ms _ (fun y hy => h y (List.mem_cons_of_mem _ hy))
theorem NoIn.inputs {G G' : Gra} (h : NoIn G G') : Aig.inputs G'.nodes = Aig.inputs G.nodes := by
  obtain ⟨ms, e, hm⟩ := h
  unfold Aig.inputs
  rw [e, inputsFrom_split, inputsFrom_ands ms _ hm, List.append_nil]
/-- one more bit -/
theorem Vals.snoc {s : Mk} {j k : Nat} {R : Mk × List Nat} {v : (Nat → Bool) → List Bool} {X : Mk × Nat} {u : (Nat → Bool) → Bool} (h : Vals s j R v) (hX : Val R.1 k X u) : Vals s (j + k) (X.1, R.2 ++ [X.2]) (fun env => v env ++ [u env]) := by
  refine ⟨h.ran.trans hX.ran, fun r hr => ?_, fun env => ?_⟩
  · rcases List.mem_append.1 hr with hr | hr
    · exact hX.ran.ext.lt (h.lt r hr)
    · rw [List.mem_singleton.1 hr]; exact hX.lt
  · show (R.2 ++ [X.2]).map (bv env X.1.1.nodes) = _
    rw [List.map_append, hX.ran.bvs env h.lt, h.val env]
    show v env ++ [bv env X.1.1.nodes X.2] = _
    rw [hX.val env]
/-- bit by bit -/
theorem eachF_vals {op : Mk → Nat → Nat → Mk × Nat} {j : Nat} {φ : (Nat → Bool) → Bool → Bool → Bool} {s : Mk}
    (hop : ∀ (s' : Mk) (a b : Nat), Ext s.1 s'.1 → Sup s' j → a < 2 * s'.1.nodes.length → b < 2 * s'.1.nodes.length → Val s' j (op s' a b) (fun env => φ env (bv env s'.1.nodes a) (bv env s'.1.nodes b))) (l : List (Nat × Nat)) :
    Sup s (j * l.length) → (∀ p ∈ l, p.1 < 2 * s.1.nodes.length ∧ p.2 < 2 * s.1.nodes.length) → Vals s (j * l.length) (eachF op s l) (fun env => l.map fun p => φ env (bv env s.1.nodes p.1) (bv env s.1.nodes p.2)) := by
  induction l using List.snocRec with
  | nil => exact fun hs _ => ⟨hs.ran _, by simp [eachF], fun _ => rfl⟩
  | snoc l p ih =>
    intro hs hl
    rw [List.length_append, List.length_singleton, Nat.mul_succ] at hs ⊢
    have h1 := ih (hs.mono (by omega)) (fun q hq => hl q (List.mem_append_left _ hq))
    obtain ⟨ha, hb⟩ := hl p (by simp)
    have h2 := hop _ p.1 p.2 h1.ran.ext (h1.ran.sup hs (by omega)) (h1.ran.ext.lt ha) (h1.ran.ext.lt hb)
    rw [eachF_snoc]
    have h3 := h1.snoc h2
    refine ⟨h3.ran, h3.lt, fun env => ?_⟩
    refine (h3.val env).trans ?_
    rw [List.map_append, h1.ran.bv env ha, h1.ran.bv env hb]
    rfl
theorem sXor_val (s : Mk) (a b : Nat) (hs : Sup s 3) (ha : a < 2 * s.1.nodes.length) (hb : b < 2 * s.1.nodes.length) : Val s 3 (rop rXor s a b) (fun env => bv env s.1.nodes a != bv env s.1.nodes b) := rstep_val hs.err (rXor_rval hs.ok ha hb hs.room)
theorem sMux_val (s : Mk) (c a b : Nat) (hs : Sup s 3) (hc : c < 2 * s.1.nodes.length) (ha : a < 2 * s.1.nodes.length) (hb : b < 2 * s.1.nodes.length) : Val s 3 (sMux s c a b) (fun env => bif bv env s.1.nodes c then bv env s.1.nodes a else bv env s.1.nodes b) := rstep_val hs.err (rMux_rval hs.ok hc ha hb hs.room)
theorem any_map_id {α : Type} (l : List α) (f : α → Bool) : l.any f = (l.map f).any id := by rw [List.any_map]; rfl
/-- whether two words are not the same -/
theorem neF_val {s : Mk} (l : List (Nat × Nat)) (hs : Sup s (4 * l.length)) (hl : ∀ p ∈ l, p.1 < 2 * s.1.nodes.length ∧ p.2 < 2 * s.1.nodes.length) :
    Val s (4 * l.length) (neF s l) (fun env => l.any fun p => bv env s.1.nodes p.1 != bv env s.1.nodes p.2) := by
  have h1 := eachF_vals (op := rop rXor) (j := 3) (φ := fun _ a b => a != b) (fun s' a b _ h ha hb => sXor_val s' a b h ha hb) l (hs.mono (by omega)) hl
  have hlen : (eachF (rop rXor) s l).2.length = l.length := by
    have := congrArg List.length (h1.val fun _ => false)
    simpa using this
  have h2 := rstep_val (h1.ran.err) (rAny_rval h1.ran.ok h1.lt (by have := h1.ran.len; have := h1.ran.ext.most; have := hs.room; omega))
  rw [hlen] at h2
  refine ⟨(h1.ran.trans h2.ran).mono (by omega), h2.lt, fun env => ?_⟩
  refine (h2.val env).trans ?_
  rw [any_map_id, h1.val env, List.any_map]
  rfl
theorem zip_map2 {α β γ : Type} (f : α → β) (g : α → γ) (x : List α) : ∀ (y : List α), (x.zip y).map (fun p => (f p.1, g p.2)) = (x.map f).zip (y.map g) := by
  induction x with
  | nil => intro y; simp
  | cons a x ih => intro y; cases y with
    | nil => simp
    | cons b y => simp [ih]
theorem zip_ne (f : Nat → Bool) : ∀ (x y : List Nat), x.length = y.length → ((x.zip y).any fun p => f p.1 != f p.2) = decide (x.map f ≠ y.map f)
  | [], [], _ => by simp
  | [], _ :: _, h => by simp at h
  | _ :: _, [], h => by simp at h
  | a :: x, b :: y, h => by
    rw [List.zip_cons_cons, List.any_cons, zip_ne f x y (by simpa using h)]
    simp only [List.map_cons, ne_eq, List.cons.injEq, Decidable.not_and_iff_not_or_not]
    by_cases h1 : f a = f b <;> by_cases h2 : x.map f = y.map f <;> simp [h1, h2]
/-- whether two words are the same -/
theorem eqW_rval {G : Gra} (hG : Ok G) {x y : List Nat} {n : Nat} (hx : x.length = n) (hy : y.length = n) (h1 : 1 ≤ n) (h17 : n ≤ 17) (hxr : ∀ r ∈ x, r < 2 * G.nodes.length) (hyr : ∀ r ∈ y, r < 2 * G.nodes.length) (hr : G.nodes.length + 4 * n ≤ G.most) :
    RVal G (4 * n) (eqW G x y) (fun env => decide (x.map (bv env G.nodes) = y.map (bv env G.nodes))) := by
  have hz : (x.zip y).length = n := by rw [List.length_zip, hx, hy, Nat.min_self]
  have hv := neF_val (s := (G, 0)) (x.zip y) ⟨rfl, hG, by rw [hz]; exact hr⟩ (zip_lt hxr hyr)
  rw [hz] at hv
  have hc := chk2_ok hx hy h1 h17 hxr hyr
  unfold eqW refG
  rw [if_neg (by simpa using hc)]
  unfold rres
  rw [if_neg (by simpa using hv.ran.err)]
  unfold negG
  rw [if_neg (by simp)]
  refine ⟨rfl, hv.ran.ok, hv.ran.ext, hv.ran.noin, hv.ran.len, neg_lt hv.lt, fun env => ?_⟩
  show bv env (neF (G, 0) (x.zip y)).1.1.nodes (neg (neF (G, 0) (x.zip y)).2) = _
  rw [bv_neg, hv.val env]
  show (!((x.zip y).any fun p => bv env G.nodes p.1 != bv env G.nodes p.2)) = _
  rw [zip_ne _ _ _ (hx.trans hy.symm)]
  simp
theorem constL_bv (env : Nat → Bool) {ns : List Nd} (h : WF ns) (i n : Nat) : (constL i n).map (bv env ns) = (List.range n).map i.testBit := by
  unfold constL
  rw [List.map_map]
  refine List.map_congr_left fun k _ => ?_
  show bv env ns (i.testBit k).toNat = _
  cases i.testBit k
  · exact bv_zero env h
  · exact bv_one env h
theorem constL_lt {ns : List Nd} (h : WF ns) (i n : Nat) : ∀ r ∈ constL i n, r < 2 * ns.length := fun r hr => by
  have := constL_le i n r hr
  have := h.pos
  omega
theorem bits_eq {l : List Bool} {n i : Nat} (hl : l.length = n) (hi : i < 2 ^ n) : decide (l = (List.range n).map i.testBit) = decide (bitsVal l = i) := by
  rw [decide_eq_decide]
  have e : bitsVal ((List.range n).map i.testBit) = i := by
    rw [show (List.range n).map i.testBit = (List.range n).map fun k => i.testBit k from rfl, bits_val, Nat.mod_eq_of_lt hi]
  constructor
  · rintro rfl; exact e
  · intro h; exact bitsVal_inj (by simp [hl]) (h.trans e.symm)
theorem zip_pick (f : Nat → Bool) (c : Bool) : ∀ (x y : List Nat), x.length = y.length → ((x.zip y).map fun p => bif c then f p.1 else f p.2) = if c = true then x.map f else y.map f
  | [], [], _ => by cases c <;> rfl
  | [], _ :: _, h => by simp at h
  | _ :: _, [], h => by simp at h
  | a :: x, b :: y, h => by
    rw [List.zip_cons_cons, List.map_cons, zip_pick f c x y (by simpa using h)]
    cases c <;> rfl
end Go.Aig
namespace Go
open Go.RowKit Go.Mem
section
variable {F : Fence} {n : Nat} {P : Program}
theorem wpIn_rangeFunc_Q {g : Operand} {ps : Array Tmp} {assign body : Code} {Q : Exit → Act → World → Prop} {a : Act} {w : World} (B : Nat) (hB : w.heap.size = B)
    (hro : F.round = none) (h1 : 1 ≤ n) {gf : Nat} {lb : Array Value} (hg : a.eval g = .func (.func gf) #[] lb) (hFg : F.fn gf) (eg : ∀ args w, (callFunc gf args).run P w = .ok (.enter gf args) w)
    {ι : Type} {encs : ι → Array Value} (hps : ∀ x, (encs x).size = ps.size) (J0 : World → Prop) (K J : ι → World → Prop) (D : World → Prop)
    (hseq : ∀ (l : Nat) (X : World → Prop), (∀ A A' L, X A → Ch L A A' → (∀ q ∈ L, q ≠ B ∧ q ≠ B + 1) → X A') → (∀ A, X A → B + 2 ≤ A.heap.size) →
      (∀ x W, K x W → X W → YieldAt F (n - 1 - 1) P l (encs x) W fun e W' => e = .returned (.bool true) ∧ J x W' ∧ X W') →
      ∀ W, J0 W → X W → CallsIn F (n - 1) P gf (#[.func (.yield l) #[] #[]] ++ lb) W fun e W' => (∃ v, e = .returned v) ∧ D W' ∧ X W')
    (hJ0 : ∀ A A', J0 A → Ch [B, B + 1] A A' → J0 A') (hK : ∀ x A A', K x A → Ch [B, B + 1] A A' → K x A') (hJ : ∀ x A A', J x A → Ch [B, B + 1] A A' → J x A') (hD : ∀ A A', D A → Ch [B, B + 1] A A' → D A')
    (h0 : J0 w) (a₁ : ι → Act)
    (hassign : ∀ (l : Nat) (x : ι) (W : World) (K : Act → World → Prop), K (a₁ x) W →
      assign.wpIn (F.inRound l) (n - 1 - 1) P (Exit.then K (fun _ _ _ => False)) { tmps := (ps.zip (encs x)).foldl (fun t (p, v) => t.setIfInBounds p v) a.tmps, defers := [] } W)
    (hbody : ∀ (l : Nat) (x : ι) (W : World), K x W → B + 2 ≤ W.heap.size → body.wpIn (F.inRound l) (n - 1 - 1) P (fun e _ W' => Books B W W' ∧ e = .normal ∧ J x W') (a₁ x) W)
    (hdone : ∀ (W : World), D W → W.heap[B]? = some (.deferred (some [])) → B + 2 ≤ W.heap.size → Q .normal { a with defers := { target := .collected B, args := #[] } :: a.defers } W) :
    (Code.rangeFunc g ps assign body).wpIn F n P Q a w := by
  subst hB
  refine wpIn_rangeFunc fun fn hfn => ?_
  rw [hro]
  let rec0 : LoopState → Option Code → Loop := fun st pe => { state := st, pending := pe, fn, tmps := a.tmps, params := ps, assign, body, defers := w.heap.size }
  obtain ⟨W1, hW1⟩ : ∃ W1, (w.alloc (.deferred (some []))).alloc (.loop (rec0 .ready none)) = W1 := ⟨_, rfl⟩
  have hz1 : W1.heap.size = w.heap.size + 2 := by rw [← hW1]; simp
  have hL1 : W1.heap[w.heap.size + 1]? = some (.loop (rec0 .ready none)) := by
    rw [← hW1]; have := World.alloc_heap_new (w.alloc (.deferred (some []))) (.loop (rec0 .ready none)); rwa [World.size_alloc] at this
  have hK1 : W1.heap[w.heap.size]? = some (.deferred (some [])) := by
    rw [← hW1]; exact (Below.heap_alloc _ _ _ (by simp)).trans (World.alloc_heap_new w _)
  have hc1 : Ch [] w W1 := by rw [← hW1]; exact ((Ch.refl _ _).alloc _).alloc _
  have hI1 : J0 W1 := hJ0 _ _ h0 (hc1.mono (by simp))
  refine ⟨w.heap.size + 1, [{ target := .collected w.heap.size, args := #[] }], W1, { target := .fn (.func gf) lb, args := #[.func (.yield (w.heap.size + 1)) #[] #[]] }, W1, gf,
    #[.func (.yield (w.heap.size + 1)) #[] #[]] ++ lb, W1, ?_, ?_, ?_, ?_, fun _ => h1, ?_⟩
  · rw [← hW1]; exact run_enterLoop_outer _ _ _ _ _
  · simp only [resolve, hg]
    simp [go_sem]
  · intro f' hf'; simp [Target.leads] at hf'; subst hf'; exact hFg
  · simp [invoke, go_sem, eg]
  · refine (hseq (w.heap.size + 1) (fun W => w.heap.size + 2 ≤ W.heap.size ∧ W.heap[w.heap.size + 1]? = some (.loop (rec0 .ready none)) ∧ W.heap[w.heap.size]? = some (.deferred (some [])))
      (fun A A' L hs hc hL => ⟨Nat.le_trans hs.1 hc.size, (hc.block _ (by have := hs.1; omega) (fun hin => (hL _ hin).2 rfl)).trans hs.2.1, (hc.block _ (by have := hs.1; omega) (fun hin => (hL _ hin).1 rfl)).trans hs.2.2⟩)
      (fun A hA => hA.1) ?_ W1 hI1 ⟨by omega, hL1, hK1⟩).mono ?_
    · rintro x W hi ⟨hz, hl, hk⟩
      have hlt : w.heap.size + 1 < W.heap.size := by omega
      refine ⟨fn, _, assign, body, run_yield (P := P) (args := encs x) hl (hps x), roundIn_of_wpIn hfn (hassign _ x W _ ⟨_, run_beginRound hl rfl, ?_⟩)⟩
      have hl2 : (W.putObj (w.heap.size + 1) (.loop (rec0 .busy none))).heap[w.heap.size + 1]? = some (.loop (rec0 .busy none)) := World.putObj_heap_same hlt
      have hk2 : (W.putObj (w.heap.size + 1) (.loop (rec0 .busy none))).heap[w.heap.size]? = some (.deferred (some [])) := (World.putObj_heap_other (by omega)).trans hk
      refine wpIn_mono (hbody _ x _ (hK _ _ _ hi (ch_put (by simp))) (by simp; omega)) ?_
      rintro e a3 W3 ⟨⟨hb0, hb1⟩, rfl, hi3⟩
      have hl3 := hb1.trans hl2
      have hlt3 := (Array.getElem?_eq_some_iff.1 hl3).1
      exact ⟨_, _, run_endRound (P := P) none hl3, rfl, hJ _ _ _ hi3 (ch_put (by simp)), by simp; omega, World.putObj_heap_same hlt3, (World.putObj_heap_other (by omega)).trans (hb0.trans hk2)⟩
    · rintro e W2 ⟨⟨v, rfl⟩, hi, hz, hl, hk⟩
      exact ⟨none, _, run_endLoop (P := P) hl (by simp [rec0]), hdone _ (hD _ _ hi (ch_put (by simp))) ((World.putObj_heap_other (by omega)).trans hk) (by simp; omega)⟩
end
end Go
namespace Go.Proofs.YtdmmanfjafempaaGreat
open Go.RowKit Go.Mem Go.Aig
def fitEnc (p : Nat × Nat) : Array Value := #[.int .i64 p.1, .int .i64 p.2]
/-- what a step makes: whether the word is i -/
abbrev isP (P : Mk) (y : List Nat) (i n : Nat) : Mk × Nat := mput P (eqW P.1 y (constL i n))
/-- what is known before step i of the iterator, and what follows of its step -/
def FS (g m bn b2 bm nn n yc : Nat) (ya : Option Addr) (y : List Nat) (B i : Nat) (W : World) (Kx : Nat × Nat → World → Prop) (D : World → Prop) : Prop :=
  ∃ P F', MIn W g m P F' ∧ WVin W F' ⟨ya, natInts y, yc⟩ ∧ (∀ r ∈ y, r < 2 * P.1.nodes.length) ∧ W.cell? ⟨bn, 0, none⟩ = some (.int .i64 nn) ∧ W.cell? ⟨b2, 0, none⟩ = some (.slice ya n yc) ∧ W.cell? ⟨bm, 0, none⟩ = some (.pointer (some ⟨m, 0, none⟩)) ∧ bm ∉ m :: F' ∧ (∀ q ∈ m :: F', q ≠ B ∧ q ≠ B + 1) ∧
    (∀ W', MTo W g m (isP P y i n).1 F' W' → ((isP P y i n).1.2 = 0 → Kx (i, (isP P y i n).2) W') ∧ ((isP P y i n).1.2 ≠ 0 → D W'))
theorem fnvmfitting1 : Fnv 139 := fnv_of Tryz.func139 (by simp [Tryz.f139]) (by simp [Tryz.f139])
set_option maxRecDepth 100000 in
set_option maxHeartbeats 4000000 in
theorem fitting1_seq [Nonempty Unit] (N : Nat) (hN : 1 ≤ N) {g m bn b2 bm nn n yc B : Nat} {y : List Nat} {ya : Option Addr} (hyl : y.length = n) (h1 : 1 ≤ n) (h16 : n ≤ 16) (hnn : nn ≤ 1000) (fitv : Nat) (hfit : fitN nn n = fitv)
    (Inv : Nat → World → Prop) (Kx : Nat × Nat → World → Prop) (D : World → Prop) (hInv : ∀ i W, i < fitv → Inv i W → B + 2 ≤ W.heap.size → FS g m bn b2 bm nn n yc ya y B i W Kx D)
    (hEnd : ∀ W, Inv fitv W → D W) (l : Nat) (X : World → Prop) (hX : ∀ A A' L, X A → Ch L A A' → (∀ q ∈ L, q ≠ B ∧ q ≠ B + 1) → X A') (hXB : ∀ A, X A → B + 2 ≤ A.heap.size)
    (hY : ∀ x W, Kx x W → X W → YieldAt Fence.wide (N - 1) Tryz.prog l (fitEnc x) W fun e W' => e = .returned (.bool true) ∧ Inv (x.1 + 1) W' ∧ X W')
    (W : World) (hI : Inv 0 W) (hXW : X W) (hcn : W.cell? ⟨bn, 0, none⟩ = some (.int .i64 nn)) (hcy : W.cell? ⟨b2, 0, none⟩ = some (.slice ya n yc)) :
    CallsIn Fence.wide N Tryz.prog 139 #[.func (.yield l) #[] #[], .pointer (some ⟨bn, 0, none⟩), .pointer (some ⟨b2, 0, none⟩), .pointer (some ⟨bm, 0, none⟩)] W fun e W' => (∃ v, e = .returned v) ∧ D W' ∧ X W' := by
  have HF := mfit_is (w := W) nn n h16 hnn
  have hfl : fitv ≤ 1000 := by rw [← hfit]; unfold fitN; omega
  rw [hfit] at HF
  have HY := Lib.hid hY; clear hY
  have HX := Lib.hid hX; clear hX
  have HXB := Lib.hid hXB; clear hXB
  have HINV := Lib.hid hInv; clear hInv
  have HEND := Lib.hid hEnd; clear hEnd
  have HI := Lib.hid hI; clear hI
  have HXW := Lib.hid hXW; clear hXW
  clear hfit
  refine callsIn_of_wp Tryz.func139 rfl trivial ?_ rfl
  simp only [Tryz.ntmps139, List.size_toArray, List.length_cons, List.length_nil, Nat.reduceAdd, Nat.reduceSub, Array.replicate_succ, Array.replicate_zero, List.push_toArray, List.append_toArray, List.nil_append, List.cons_append]
  refine wpIn_wide.2 ?_
  go_wp2_with fail
  refine HF.mono ?_
  rintro e w' ⟨rfl, rfl⟩
  go_wp2_with fail
  clear hcn hcy
  refine (wpIn_wide (n := N)).1 ?_
  gi_loopw [11] (fun i wr => ∃ k : Nat, k ≤ fitv ∧ i = .int .i64 k ∧ Inv k wr ∧ X wr) (fun i _ => fitv - (intOf i).toNat)
  case atStart => exact ⟨0, Nat.zero_le _, rfl, HI.out, HXW.out⟩
  case round =>
    obtain ⟨k, hk, rfl, hi, hx⟩ := hrel
    by_cases hlt : k < fitv
    · obtain ⟨P, F', hm, hwv, hyr, cn, cy, cm, hbm, hBs, hnext⟩ := HINV.out k wr hlt hi (HXB.out _ hx)
      have hIS := mis_is hm (ya := ya) n yc k hyl h1 (by omega) (by omega) hwv hyr
      unfold isP at hnext
      obtain ⟨⟨P', r⟩, hPr⟩ : ∃ q, mput P (eqW P.1 y (constL k n)) = q := ⟨_, rfl⟩
      rw [hPr] at hIS hnext
      simp only at hIS hnext
      have HNX := Lib.hid hnext; clear hnext
      have HXR := Lib.hid hx; clear hx
      have HBS := Lib.hid hBs; clear hBs
      have HBM := Lib.hid hbm; clear hbm
      have HIS := Lib.hid hIS; clear hIS
      clear hi hm hwv hyr hPr cn
      gi_wp2
      refine ⟨trivial, callsIn_wide.2 (HIS.out.mono ?_)⟩
      rintro e w1 ⟨rfl, hto⟩
      have hnx := HNX.out w1 hto
      obtain ⟨F1, hm1, hc1, _, _⟩ := hto
      have cm1 := (hc1.cell (cell_lt cm) HBM.out).trans cm
      have hx1 := HX.out _ _ _ HXR.out hc1 HBS.out
      have m1 := hm1.bk.cell (i := 1) rfl
      have HX1 := Lib.hid hx1; clear hx1
      clear hc1 hm1 cm cy HIS HNX
      by_cases hP : P'.2 = 0
      · rw [hP] at m1
        have hY1 := HY.out _ w1 (hnx.1 hP) HX1.out
        obtain ⟨fn, tmps, assign, body, hy1, hR⟩ := hY1
        simp only [fitEnc] at hy1
        clear hnx hP
        gi_wp2
        refine hR.mono ?_
        rintro e W2 ⟨rfl, hI2, hX2⟩
        have HI2 := Lib.hid hI2; clear hI2
        have HX2 := Lib.hid hX2; clear hX2
        gi_wp2
        go_roundw
        case rel => exact ⟨k + 1, by omega, by go_num, HI2.out, HX2.out⟩
        case measure => simp [intOf]; omega
      · have hq : ((P'.2 : Int) != 0) = true := by simp; omega
        have hD := hnx.2 hP
        have HD := Lib.hid hD; clear hD hnx
        gi_wp2
        refine ⟨fun f hf => (by cases hf), ?_⟩
        gi_wp2
        refine bodyPost_ret (results_none rfl _ _ _) rfl ?_
        exact ⟨⟨_, rfl⟩, HD.out, HX1.out⟩
    · have hkf : k = fitv := by omega
      have hD := HEND.out wr (by rw [← hkf]; exact hi)
      have HD := Lib.hid hD; clear hD hi
      have HXR := Lib.hid hx; clear hx
      gi_wp2
      go_end0
      exact ⟨⟨_, rfl⟩, HD.out, HXR.out⟩
end Go.Proofs.YtdmmanfjafempaaGreat
namespace Go.Aig
/-- whether the word is i, as a step of the reference -/
def isR (s : Mk) (y : List Nat) (n i : Nat) : Mk × Nat := rstep s (eqW s.1 y (constL i n))
def readS (L : List (List Nat)) (y : List Nat) (n : Nat) (q : Mk × List Nat) (i : Nat) : Mk × List Nat := chF (isR q.1 y n i).2 (isR q.1 y n i).1 ((L.getD i []).zip q.2)
/-- a read, index by index -/
def readF (G : Gra) (L : List (List Nat)) (y : List Nat) (n width k : Nat) : Mk × List Nat := (List.range k).foldl (readS L y n) ((G, 0), List.replicate width 0)
theorem readF_succ (G : Gra) (L : List (List Nat)) (y : List Nat) (n width k : Nat) : readF G L y n width (k + 1) = readS L y n (readF G L y n width k) k := by
  unfold readF; rw [List.range_succ, List.foldl_append]; rfl
theorem isR_bad {s : Mk} (h : s.2 ≠ 0) (y : List Nat) (n i : Nat) : (isR s y n i).1 = s := by unfold isR; rw [rstep_bad h]
theorem chF_bad0 {s : Mk} (h : s.2 ≠ 0) (c : Nat) (l : List (Nat × Nat)) : (chF c s l).1 = s := chF_bad c s [] h l
theorem readS_bad {L : List (List Nat)} {y : List Nat} {n : Nat} {q : Mk × List Nat} {i : Nat} (h : (isR q.1 y n i).1.2 ≠ 0) : (readS L y n q i).1 = (isR q.1 y n i).1 := chF_bad0 h _ _
/-- behind an error nothing more is made -/
theorem readF_bad {G : Gra} {L : List (List Nat)} {y : List Nat} {n width k : Nat} (h : (isR (readF G L y n width k).1 y n k).1.2 ≠ 0) : ∀ j, k < j → (readF G L y n width j).1 = (isR (readF G L y n width k).1 y n k).1 := by
  intro j hj
  induction j with
  | zero => omega
  | succ j ih =>
    rw [readF_succ]
    by_cases e : j = k
    · subst e; exact readS_bad h
    · have h1 := ih (by omega)
      have h2 : (isR (readF G L y n width j).1 y n j).1 = (isR (readF G L y n width k).1 y n k).1 := by rw [h1, isR_bad h]
      rw [readS_bad (by rw [h2]; exact h), h2]
end Go.Aig
namespace Go.Proofs.YtdmmanfjafempaaGreat
open Go.RowKit Go.Mem Go.Aig
/-- what is known between two rounds: W0 is the world at the loop's start, ob the box of the word that is made -/
structure RI (W0 : World) (lo g m : Nat) (G : Gra) (F : List Nat) (ob n : Nat) (R : Mk) (out : List Nat) (W : World) (v : Value) (P : Mk) (l F' : List Nat) : Prop where
  sim : Sim G P R
  out : R.2 = 0 → l = out
  len : l.length = n
  all : ∀ r ∈ l, r < 2 * P.1.nodes.length
  mem : MIn W g m P F'
  ch : Ch (m :: ob :: F) W0 W
  own : ∀ k ∈ F', k ∈ F ∨ W0.heap.size + 2 ≤ k
  map : F'[2]? = F[2]?
  bx : blk W ob [v]
  row : row W 41 1 v n (refsCells l)
  fresh : ∀ k, v.ownBlock = some k → lo ≤ k ∧ k ∉ m :: ob :: F' ∧ k ≠ W0.heap.size ∧ k ≠ W0.heap.size + 1
/-- the frame of a loop -/
structure FR (W0 : World) (m : Nat) (F : List Nat) (ob : Nat) : Prop where
  low : ∀ k ∈ m :: F, k < W0.heap.size
  lt : ob < W0.heap.size
  obm : ob ≠ m
  obF : ob ∉ F
section
variable {W0 : World} {lo g m : Nat} {G : Gra} {F : List Nat} {ob n : Nat} {R : Mk} {out : List Nat} {W A A' : World} {v : Value} {P : Mk} {l F' : List Nat}
theorem RI.obF (h : RI W0 lo g m G F ob n R out W v P l F') (e : FR W0 m F ob) : ob ∉ m :: F' := fun hin => by
  have := e.lt
  simp only [List.mem_cons] at hin
  rcases hin with hin | hin
  · exact e.obm hin
  · rcases h.own _ hin with h1 | h1
    · exact e.obF h1
    · omega
theorem RI.noB (h : RI W0 lo g m G F ob n R out W v P l F') (e : FR W0 m F ob) : ∀ q ∈ m :: F', q ≠ W0.heap.size ∧ q ≠ W0.heap.size + 1 := fun q hq => by
  simp only [List.mem_cons] at hq
  rcases hq with rfl | hq
  · have := e.low q (by simp); omega
  · rcases h.own _ hq with h1 | h1
    · have := e.low q (by simp [h1]); omega
    · omega
theorem RI.same (h : RI W0 lo g m G F ob n R out A v P l F') (e : FR W0 m F ob) (hc : Ch [W0.heap.size, W0.heap.size + 1] A A') : RI W0 lo g m G F ob n R out A' v P l F' := by
  have ho := e.lt
  have hs := h.noB e
  refine ⟨h.sim, h.out, h.len, h.all, h.mem.same hc (fun k hk => by have := hs k hk; simp; omega), h.ch.trans hc (by intro k hk; simp at hk; omega), h.own, h.map, h.bx.ch hc (by simp; omega), h.row.ch hc ?_, h.fresh⟩
  intro k hk
  have := (h.fresh k hk).2.2
  simp; omega
theorem RI.cell (h : RI W0 lo g m G F ob n R out W v P l F') {b i : Nat} {x : Value} (hx : W0.cell? ⟨b, i, none⟩ = some x) (hb : b ∉ m :: ob :: F) : W.cell? ⟨b, i, none⟩ = some x := (h.ch.cell (cell_lt hx) hb).trans hx
theorem RI.word (h : RI W0 lo g m G F ob n R out W v P l F') {x : WV} (hx : WVin W0 (m :: ob :: F) x) : WVin W F' x ∧ ∀ k ∈ ablk x.a, k ∉ m :: F' ∧ k < W.heap.size := by
  have hz := h.ch.size
  have key : ∀ k ∈ ablk x.a, k ∉ m :: F' ∧ k < W.heap.size := fun k hk => by
    obtain ⟨h1, h2⟩ := hx.apart k hk
    simp only [List.mem_cons, not_or] at h1
    refine ⟨?_, by omega⟩
    simp only [List.mem_cons, not_or]
    exact ⟨h1.1, fun hin => (h.own k hin).elim h1.2.2 (fun e => by omega)⟩
  exact ⟨⟨hx.ok.ch h.ch (fun p hp => (hx.apart p.block (ablk_of hp)).1), fun k hk => ⟨fun hin => (key k hk).1 (by simp [hin]), (key k hk).2⟩⟩, key⟩
/-- the maker works -/
theorem RI.to (h : RI W0 lo g m G F ob n R out W v P l F') (e : FR W0 m F ob) (hB : W0.heap.size + 2 ≤ W.heap.size) {P' R' : Mk} {W' : World} (ht : MTo W g m P' F' W') (hs : Sim G P' R') (hx : Ext P.1 P'.1) (hb : R.2 ≠ 0 → R'.2 ≠ 0) : ∃ F1, RI W0 lo g m G F ob n R' out W' v P' l F1 := by
  obtain ⟨F1, h1, h2, h3, h4⟩ := ht
  have ho := e.lt
  have hz := h.ch.size
  refine ⟨F1, hs, fun h0 => h.out (by by_cases h9 : R.2 = 0; exact h9; exact absurd h0 (hb h9)), h.len, fun r hr => hx.lt (h.all r hr), h1, h.ch.trans h2 (fun k hk => ?_), fun k hk => ?_, h4.trans h.map, h.bx.ch h2 (h.obF e), h.row.ch h2 (fun k hk => ?_), fun k hk => ?_⟩
  · simp only [List.mem_cons] at hk ⊢
    rcases hk with hk | hk
    · exact .inl (.inl hk)
    · rcases h.own k hk with h5 | h5
      · exact .inl (.inr (.inr h5))
      · exact .inr (by omega)
  · rcases h3 k hk with h5 | h5
    · exact h.own k h5
    · exact .inr (by omega)
  · have := (h.fresh k hk).2.1
    simp only [List.mem_cons, not_or] at this ⊢
    exact ⟨this.1, this.2.2⟩
  · obtain ⟨f1, f2, f3⟩ := h.fresh k hk
    refine ⟨f1, ?_, f3⟩
    simp only [List.mem_cons, not_or] at f2 ⊢
    refine ⟨f2.1, f2.2.1, fun hin => (h3 k hin).elim f2.2.2 (fun h5 => ?_)⟩
    have := (h.row.lt k hk).2
    omega
/-- a word is made, and put into the box -/
theorem RI.put (h : RI W0 lo g m G F ob n R out W v P l F') (e : FR W0 m F ob) (hB : W0.heap.size + 2 ≤ W.heap.size) (hlo : lo ≤ W0.heap.size) {S : Mk × List Nat} {va : Option Addr} {vc : Nat} {w1 : World} (hc : CH W g m G P F' S n (.slice va n vc) w1) :
    ∃ P1 l1 F1, RI W0 lo g m G F ob n S.1 S.2 (w1.setCell ⟨ob, 0, none⟩ (.slice va n vc)) (.slice va n vc) P1 l1 F1 ∧ Books W0.heap.size W (w1.setCell ⟨ob, 0, none⟩ (.slice va n vc)) := by
  obtain ⟨P1, l1, hs, ho1, hl, hall, hx, F1, hm, hc1, hF1, hmap, hrow, hfr⟩ := hc
  have hob := e.lt
  have hz := h.ch.size
  have hnB := h.noB e
  rw [hl] at hrow
  have hcs : Ch [ob] w1 (w1.setCell ⟨ob, 0, none⟩ (.slice va n vc)) := (Ch.refl _ _).setCell (by simp) _
  have hoF1 : ob ∉ m :: F1 := fun hin => by
    have h9 := h.obF e
    simp only [List.mem_cons, not_or] at hin h9
    rcases hin with hin | hin
    · exact h9.1 hin
    · rcases hF1 _ hin with h5 | h5
      · exact h9.2 h5
      · omega
  have hob1 := h.bx.ch hc1 (by have h9 := h.obF e; simpa using h9)
  refine ⟨P1, l1, F1, ⟨hs, ho1, hl, hall, hm.same hcs (fun k hk => ?_), (h.ch.trans hc1 (fun k hk => ?_)).trans hcs (by simp), fun k hk => ?_, hmap.trans h.map, hob1.set (i := 0) _, hrow.ch hcs (fun k hk => ?_), fun k hk => ?_⟩, (Books.of_ch hc1 hB (fun k hk => hnB k (by simpa using hk))).trans (Books.of_ch hcs (by have := hc1.size; omega) (by simp; omega))⟩
  · intro hk2
    rw [List.mem_singleton.1 hk2] at hk
    exact hoF1 hk
  · simp only [List.nil_append, List.mem_cons] at hk ⊢
    rcases hk with hk | hk
    · exact .inl (.inl hk)
    · rcases h.own k hk with h5 | h5
      · exact .inl (.inr (.inr h5))
      · exact .inr (by omega)
  · rcases hF1 k hk with h5 | h5
    · exact h.own k h5
    · exact .inr (by omega)
  · have := hfr k hk
    simp; omega
  · obtain ⟨f1, f2, f3⟩ := hfr k hk
    refine ⟨by omega, ?_, by omega, by omega⟩
    simp only [List.mem_cons, not_or]
    exact ⟨f3, by omega, f2⟩
end
section
variable {w : World} {g m : Nat} {G : Gra} {F : List Nat}
set_option maxRecDepth 100000 in
set_option maxHeartbeats 1000000 in
theorem mfitting_is {w : World} (n : Nat) (ya : Option Addr) (k yc : Nat) :
    Calls Tryz.prog 94 #[.pointer (some ⟨m, 0, none⟩), .int .i64 n, .slice ya k yc] w fun e w' => e = .returned (.func (.func 139) #[] #[.pointer (some ⟨w.heap.size + 1, 0, none⟩), .pointer (some ⟨w.heap.size + 2, 0, none⟩), .pointer (some ⟨w.heap.size, 0, none⟩)]) ∧ w' = ((w.alloc (.cells #[.pointer (some ⟨m, 0, none⟩)] 117)).alloc (.cells #[.int .i64 n] 3)).alloc (.cells #[.slice ya k yc] 40) := by
  go_enter Tryz.func94, Tryz.ntmps94
  go_wp2_with fail
  go_ret
  exact ⟨rfl, rfl⟩
end
end Go.Proofs.YtdmmanfjafempaaGreat
namespace Go.Proofs.YtdmmanfjafempaaGreat
open Go.RowKit Go.Mem Go.Aig
section
variable {g m : Nat} {G : Gra}
def FInv (T : Nat → Mk → World → Mk → List Nat → Prop) (RF : Nat → Mk) (i : Nat) (W : World) : Prop := ∃ P F', T i (RF i) W P F'
def FKx (T : Nat → Mk → World → Mk → List Nat → Prop) (IS : Nat → Mk × Nat) (fitv : Nat) (x : Nat × Nat) (W : World) : Prop :=
  x.1 < fitv ∧ ∃ P F', P.2 = 0 ∧ T x.1 (IS x.1).1 W P F' ∧ x.2 = (IS x.1).2 ∧ x.2 < 2 * P.1.nodes.length
/-- what a state has to stand -/
structure FT (g m : Nat) (G : Gra) (T : Nat → Mk → World → Mk → List Nat → Prop) (bn b2 bm nn n yc B : Nat) (ya : Option Addr) (y : List Nat) : Prop where
  mem : ∀ {i R W P F'}, T i R W P F' → MIn W g m P F' ∧ Sim G P R ∧ WVin W F' ⟨ya, natInts y, yc⟩ ∧ W.cell? ⟨bn, 0, none⟩ = some (.int .i64 nn) ∧ W.cell? ⟨b2, 0, none⟩ = some (.slice ya n yc) ∧ W.cell? ⟨bm, 0, none⟩ = some (.pointer (some ⟨m, 0, none⟩)) ∧ bm ∉ m :: F' ∧ (∀ q ∈ m :: F', q ≠ B ∧ q ≠ B + 1)
  to : ∀ {i R W P F' P' R' W'}, T i R W P F' → B + 2 ≤ W.heap.size → MTo W g m P' F' W' → Sim G P' R' → Ext P.1 P'.1 → (R.2 ≠ 0 → R'.2 ≠ 0) → ∃ F1, T i R' W' P' F1
  same : ∀ {i R A A' P F'}, T i R A P F' → Ch [B, B + 1] A A' → T i R A' P F'
theorem fit_seq [Nonempty Unit] (N : Nat) (hN : 1 ≤ N) {T : Nat → Mk → World → Mk → List Nat → Prop} {bn b2 bm nn n yc B : Nat} {y : List Nat} {ya : Option Addr} (hT : FT g m G T bn b2 bm nn n yc B ya y)
    (hyl : y.length = n) (h1 : 1 ≤ n) (h16 : n ≤ 16) (hnn : nn ≤ 1000) (hyr : ∀ r ∈ y, r < 2 * G.nodes.length) {fitv : Nat} (hfit : fitN nn n = fitv) {RF : Nat → Mk} {IS : Nat → Mk × Nat} (hIS : ∀ i, IS i = isR (RF i) y n i)
    (hbad : ∀ i, i < fitv → (IS i).1.2 ≠ 0 → ∀ W P F', T i (IS i).1 W P F' → T fitv (RF fitv) W P F')
    (l : Nat) (X : World → Prop) (hX : ∀ A A' L, X A → Ch L A A' → (∀ q ∈ L, q ≠ B ∧ q ≠ B + 1) → X A') (hXB : ∀ A, X A → B + 2 ≤ A.heap.size)
    (hY : ∀ x W, FKx T IS fitv x W → X W → YieldAt Fence.wide (N - 1) Tryz.prog l (fitEnc x) W fun e W' => e = .returned (.bool true) ∧ FInv T RF (x.1 + 1) W' ∧ X W')
    (W : World) (hI : FInv T RF 0 W) (hXW : X W) :
    CallsIn Fence.wide N Tryz.prog 139 #[.func (.yield l) #[] #[], .pointer (some ⟨bn, 0, none⟩), .pointer (some ⟨b2, 0, none⟩), .pointer (some ⟨bm, 0, none⟩)] W fun e W' => (∃ v, e = .returned v) ∧ FInv T RF fitv W' ∧ X W' := by
  have hI0 := hI
  obtain ⟨P0, F0, h0⟩ := hI0
  obtain ⟨_, _, _, cn, cy, _⟩ := hT.mem h0
  refine fitting1_seq N hN (g := g) (m := m) (B := B) (y := y) hyl h1 h16 hnn fitv hfit (FInv T RF) (FKx T IS fitv) (FInv T RF fitv) ?_ (fun W h => h) l X hX hXB hY W hI hXW cn cy
  rintro i W hi ⟨P, F', hri⟩ hBW
  obtain ⟨k1, k2, k3, k4, k5, k6, k7, k8⟩ := hT.mem hri
  have hyr2 : ∀ r ∈ y, r < 2 * P.1.nodes.length := fun r hr => k2.ext.lt (hyr r hr)
  have hfull := eqW_full k1.gin.ok hyl (constL_len i n) h1 (by omega) hyr2 (fun r hr => by have := constL_le i n r hr; have := k1.gin.ok.wf.pos; omega)
  have hst := k2.step hfull (Y := eqW (RF i).1 y (constL i n)) (fun _ e => by rw [e])
  refine ⟨P, F', k1, k3, hyr2, k4, k5, k6, k7, k8, fun W' ht => ?_⟩
  obtain ⟨q1, q2, q3, q4, q5, q6, q7⟩ := hst
  have e0 : rstep (RF i) (eqW (RF i).1 y (constL i n)) = IS i := (hIS i).symm
  rw [e0] at q1 q3 q4 q6 q7
  obtain ⟨F1, hr1⟩ := hT.to hri hBW ht q1 q5 q7
  refine ⟨fun h0 => ?_, fun h0 => ?_⟩
  · have hR0 : (IS i).1.2 = 0 := by
      rcases q1.rel with ⟨e, _⟩ | ⟨_, e⟩
      · exact e
      · exact absurd h0 (by rw [show (isP P y i n).1.2 = 201 from e]; omega)
    exact ⟨hi, _, F1, h0, hr1, q4 hR0, q2⟩
  · have hR0 : (IS i).1.2 ≠ 0 := by
      rcases q1.rel with ⟨_, e⟩ | ⟨e, _⟩
      · intro h9
        exact h0 (by rw [show (isP P y i n).1 = _ from e]; exact h9)
      · rw [e]; omega
    exact ⟨_, F1, hbad i hi hR0 _ _ _ hr1⟩
end
end Go.Proofs.YtdmmanfjafempaaGreat
namespace Go.Aig
/-- a word of references of a graph -/
structure WOf (G : Gra) (n : Nat) (x : List Int) : Prop where
  len : x.length = n
  cast : natInts (nats x) = x
  lt : ∀ r ∈ nats x, r < 2 * G.nodes.length
theorem readF_len {G : Gra} {L : List (List Nat)} {y : List Nat} {n width : Nat} : ∀ k, (∀ i, i < k → (L.getD i []).length = width) → (readF G L y n width k).2.length = width := by
  intro k hk
  induction k with
  | zero => show (List.replicate width 0).length = width; simp
  | succ k ih =>
    rw [readF_succ]
    unfold readS chF
    rw [show ∀ (op : Mk → Nat → Nat → Mk × Nat) (s : Mk) (l : List (Nat × Nat)), (eachF op s l).2.length = l.length from fun op s l => by
      unfold eachF
      have : ∀ (l : List (Nat × Nat)) (q : Mk × List Nat), (l.foldl (eachS op) q).2.length = q.2.length + l.length := by
        intro l
        induction l with
        | nil => intro q; simp
        | cons p l ih => intro q; rw [List.foldl_cons, ih]; simp [eachS]; omega
      rw [this]; simp]
    rw [List.length_zip, ih (fun i hi => hk i (by omega)), hk k (by omega), Nat.min_self]
end Go.Aig
namespace Go.Proofs.YtdmmanfjafempaaGreat
open Go.RowKit Go.Mem Go.Aig
attribute [local go_sem] Oper.semAt_some
theorem fnvmRead1 : Fnv 93 := fnv_of Tryz.func93 (by simp [Tryz.f93]) (by simp [Tryz.f93])
/-- what a closure that makes a word leaves -/
def RW (w : World) (g m : Nat) (G : Gra) (F : List Nat) (S : Mk × List Nat) (v : Value) (w' : World) : Prop := ∃ P l, Sim G P S.1 ∧ (S.1.2 = 0 → l = S.2) ∧ MVo w g m P [] F v l w'
/-- an array of words that goes in -/
structure WL (w : World) (F : List Nat) (lb n : Nat) (L : List WV) : Prop where
  len : L.length = n
  cells : ∀ i x, L[i]? = some x → w.cell? ⟨lb, i, none⟩ = some x.val
  words : ∀ x ∈ L, WVin w F x
  apart : lb ∉ F ∧ lb < w.heap.size
theorem WL.ch {w w' : World} {F : List Nat} {lb n : Nat} {L : List WV} (h : WL w F lb n L) (hc : Ch [] w w') : WL w' F lb n L :=
  ⟨h.len, fun i x hx => (hc.cell (cell_lt (h.cells i x hx)) (by simp)).trans (h.cells i x hx), fun x hx => (h.words x hx).ch hc, h.apart.1, Nat.lt_of_lt_of_le h.apart.2 hc.size⟩
theorem CH.shape {w : World} {g m : Nat} {G : Gra} {P : Mk} {F : List Nat} {S : Mk × List Nat} {n : Nat} {v : Value} {w' : World} (h : CH w g m G P F S n v w') : ∃ a c, v = .slice a n c := by
  obtain ⟨P', l, _, _, hl, _, _, F', _, _, _, _, hrow, _⟩ := h
  rw [hl] at hrow
  obtain ⟨a, c, e⟩ := row.shape hrow
  exact ⟨a, c, e⟩
/-- Read's state between two rounds -/
def RT (W0 : World) (lo g m : Nat) (G : Gra) (F : List Nat) (ob width : Nat) (O : Nat → List Nat) (i : Nat) (R : Mk) (W : World) (P : Mk) (F' : List Nat) : Prop := ∃ va vc l, RI W0 lo g m G F ob width R (O i) W (.slice va width vc) P l F'
theorem RT.ft {W0 : World} {lo g m : Nat} {G : Gra} {F : List Nat} {ob width : Nat} {O : Nat → List Nat} {bn b2 bm nn n yc : Nat} {ya : Option Addr} {y : List Nat} (e : FR W0 m F ob) (hy : WVin W0 (m :: ob :: F) ⟨ya, natInts y, yc⟩) (cn : W0.cell? ⟨bn, 0, none⟩ = some (.int .i64 nn)) (cy : W0.cell? ⟨b2, 0, none⟩ = some (.slice ya n yc)) (cm : W0.cell? ⟨bm, 0, none⟩ = some (.pointer (some ⟨m, 0, none⟩)))
    (hn : bn ∉ m :: ob :: F) (h2 : b2 ∉ m :: ob :: F) (hm : bm ∉ m :: ob :: F) : FT g m G (RT W0 lo g m G F ob width O) bn b2 bm nn n yc W0.heap.size ya y where
  mem := by
    rintro i R W P F' ⟨va, vc, l, h⟩
    refine ⟨h.mem, h.sim, (h.word hy).1, h.cell cn hn, h.cell cy h2, h.cell cm hm, fun hin => ?_, h.noB e⟩
    have h9 := cell_lt cm
    simp only at h9
    simp only [List.mem_cons, not_or] at hin hm
    rcases hin with hin | hin
    · exact hm.1 hin
    · rcases h.own _ hin with h5 | h5
      · exact hm.2.2 h5
      · omega
  to := by
    rintro i R W P F' P' R' W' ⟨va, vc, l, h⟩ hB ht hs hx hb
    obtain ⟨F1, h1⟩ := h.to e hB ht hs hx hb
    exact ⟨F1, va, vc, l, h1⟩
  same := by
    rintro i R A A' P F' ⟨va, vc, l, h⟩ hc
    exact ⟨va, vc, l, h.same e hc⟩
section
variable {w : World} {g m : Nat} {G : Gra} {F : List Nat}
set_option maxRecDepth 100000 in
set_option maxHeartbeats 4000000 in
theorem mRead1_is [Nonempty Unit] (h : MIn w g m (G, 0) F) {Ls : List WV} {lb nl lc n yc width fitv : Nat} {y : List Nat} {ya : Option Addr} (hL : WL w (m :: F) lb nl Ls) (hW : ∀ x ∈ Ls, WOf G width x.l) (hnl : 1 ≤ nl ∧ nl ≤ 256) (hw : width ≤ 16)
    (hy : WVin w (m :: F) ⟨ya, natInts y, yc⟩) (hyl : y.length = n) (h1 : 1 ≤ n) (h16 : n ≤ 16) (hyr : ∀ r ∈ y, r < 2 * G.nodes.length) (hfit : fitN nl n = fitv)
    {bl b2 : Nat} (hbl : w.cell? ⟨bl, 0, none⟩ = some (.slice (some ⟨lb, 0, none⟩) nl lc)) (hby : w.cell? ⟨b2, 0, none⟩ = some (.slice ya n yc)) (hblF : bl ∉ m :: F) (hbyF : b2 ∉ m :: F) :
    Calls Tryz.prog 93 (#[.pointer (some ⟨m, 0, none⟩)] ++ #[.pointer (some ⟨bl, 0, none⟩), .pointer (some ⟨b2, 0, none⟩)]) w fun e W' => ∃ v, e = .returned v ∧ RW w g m G F (readF G (Ls.map fun x => nats x.l) y n width fitv) v W' := by
  show Calls Tryz.prog 93 #[.pointer (some ⟨m, 0, none⟩), .pointer (some ⟨bl, 0, none⟩), .pointer (some ⟨b2, 0, none⟩)] w _
  have hml := h.bk.lt
  have hFl := h.gin.lt
  have hok := h.gin.ok
  have hpos := hok.wf.pos
  have hfl : fitv ≤ nl := by rw [← hfit]; exact Nat.min_le_left _ _
  obtain ⟨x0, hx0⟩ : ∃ x, Ls[0]? = some x := ⟨_, List.getElem?_eq_getElem (by rw [hL.len]; omega)⟩
  have hc00 := hL.cells 0 x0 hx0
  have hx0l := (hW x0 (List.mem_of_getElem? hx0)).len
  unfold WV.val at hc00
  rw [hx0l] at hc00
  have hmk := run_make_refs
  have hmk' := fun W => run_make_refs W width (by omega)
  clear hmk
  obtain ⟨x0a, x0l, x0c⟩ := x0
  simp only at hc00
  obtain ⟨LN, hLN⟩ : ∃ LN, LN = Ls.map fun x => nats x.l := ⟨_, rfl⟩
  rw [← hLN]
  have hLg : ∀ i x, Ls[i]? = some x → LN.getD i [] = nats x.l := fun i x hx => by rw [hLN, List.getD_eq_getElem?_getD, List.getElem?_map, hx]; rfl
  have hLw : ∀ i, i < nl → (LN.getD i []).length = width := fun i hi => by
    obtain ⟨x, hx⟩ : ∃ x, Ls[i]? = some x := ⟨_, List.getElem?_eq_getElem (by rw [hL.len]; exact hi)⟩
    rw [hLg i x hx, nats_len, (hW x (List.mem_of_getElem? hx)).len]
  have H := Lib.hid h; clear h
  have HL := Lib.hid hL; clear hL
  have HW := Lib.hid hW; clear hW
  have HYW := Lib.hid hy; clear hy
  have HLG := Lib.hid hLg; clear hLg
  have HLW := Lib.hid hLw; clear hLw
  have hbllt := cell_lt hbl
  have hbylt := cell_lt hby
  have hlblt := cell_lt hc00
  simp only at hbllt hbylt hlblt
  have HBL := Lib.hid hbl
  have HBY := Lib.hid hby
  have HOK := Lib.hid hok; clear hok
  obtain ⟨RQ, hRQ⟩ : ∃ RQ : Nat → Mk × List Nat, ∀ k, RQ k = readF G LN y n width k := ⟨_, fun _ => rfl⟩
  have hR0 : RQ 0 = ((G, 0), List.replicate width 0) := by rw [hRQ]; rfl
  have hRS : ∀ k, RQ (k + 1) = readS LN y n (RQ k) k := fun k => by rw [hRQ, hRQ, readF_succ]
  have hRB : ∀ k, (isR (RQ k).1 y n k).1.2 ≠ 0 → ∀ j, k < j → (RQ j).1 = (isR (RQ k).1 y n k).1 := fun k hk j hj => by
    rw [hRQ] at hk
    rw [hRQ, hRQ]; exact readF_bad hk j hj
  rw [← hRQ]
  have HR0 := Lib.hid hR0; clear hR0
  have HRS := Lib.hid hRS; clear hRS
  have HRB := Lib.hid hRB; clear hRB
  clear hLN hx0 hRQ
  refine (callsIn_wide (n := 4)).1 ?_
  refine callsIn_of_wp_marks Tryz.func93 rfl trivial ?_ rfl
  simp only [Tryz.ntmps93, List.size_toArray, List.length_cons, List.length_nil, Nat.reduceAdd, Nat.reduceSub, Array.replicate_succ, Array.replicate_zero, List.push_toArray, List.append_toArray, List.nil_append, List.cons_append]
  refine wpIn_wide.2 ?_
  go_upto_region 2 with fail
  refine wp_named fun W1 hW1 => ?_
  have hc1 : Ch [] w W1 := by rw [hW1]; exact (((Ch.refl _ _).alloc _).alloc _).alloc _
  have hz1 : W1.heap.size = w.heap.size + 3 := by rw [hW1]; simp
  have hbm : blk W1 w.heap.size [.pointer (some ⟨m, 0, none⟩)] := by rw [hW1]; exact ((blk.new' _ _ (by simp)).alloc _).alloc _
  have hr1 : row W1 41 1 (.slice (some ⟨w.heap.size + 1, 0, none⟩) width width) width (refsCells (List.replicate width 0)) := by
    have h0 : row ((w.alloc (.cells #[.pointer (some ⟨m, 0, none⟩)] 117)).alloc (.cells (refsCells (List.replicate width 0)).toArray 41)) 41 1 (.slice (some ⟨w.heap.size + 1, 0, none⟩) width width) width (refsCells (List.replicate width 0)) :=
      ⟨by simp [refsCells], .inr ⟨w.heap.size + 1, width, _, rfl, by omega, by have := heap_alloc_new (w.alloc (.cells #[.pointer (some ⟨m, 0, none⟩)] 117)) (.cells (refsCells (List.replicate width 0)).toArray 41); simpa using this, by omega, by unfold maxLen; omega, by simp [refsCells], by simp [refsCells]⟩⟩
    rw [hW1]
    exact h0.alloc _
  have hbo : blk W1 (w.heap.size + 2) [.slice (some ⟨w.heap.size + 1, 0, none⟩) width width] := by rw [hW1]; exact blk.new' _ _ (by simp)
  clear hW1 hmk' hbl hby hc00
  have c_l := (hc1.cell (cell_lt HBL.out) (by simp)).trans HBL.out
  have c_y := (hc1.cell (cell_lt HBY.out) (by simp)).trans HBY.out
  have c_m := hbm.cell (i := 0) rfl
  have HC1 := Lib.hid hc1; clear hc1
  have HBM := Lib.hid hbm; clear hbm
  have HR1 := Lib.hid hr1; clear hr1
  have HBO := Lib.hid hbo; clear hbo
  go_wp2_with fail
  refine (mfitting_is (m := m) nl ya n yc).mono ?_
  rintro e W0 ⟨rfl, hW0⟩
  have hc0 : Ch [] W1 W0 := by rw [hW0]; exact (((Ch.refl _ _).alloc _).alloc _).alloc _
  have hz0 : W0.heap.size = w.heap.size + 6 := by rw [hW0]; simp; omega
  have hbm0 : blk W0 W1.heap.size [.pointer (some ⟨m, 0, none⟩)] := by rw [hW0]; exact ((blk.new' _ _ (by simp)).alloc _).alloc _
  have hbn0 : blk W0 (W1.heap.size + 1) [.int .i64 nl] := by rw [hW0]; exact (blk.new' _ _ (by simp)).alloc _
  have hby0 : blk W0 (W1.heap.size + 2) [.slice ya n yc] := by rw [hW0]; exact blk.new' _ _ (by simp)
  clear hW0 c_l c_y c_m
  go_wp2_with fail
  have hbo0 : blk W0 (w.heap.size + 1 + 1) [.slice (some ⟨w.heap.size + 1, 0, none⟩) width width] := HBO.out.ch hc0 (by simp)
  clear HBO
  generalize hOBe : w.heap.size + 1 + 1 = ob at hbo0 ⊢
  have hob1 : w.heap.size + 1 < ob := by omega
  have hob2 : ob < w.heap.size + 3 := by omega
  clear hOBe
  have hFR : FR W0 m F ob := ⟨fun k hk => by
    simp only [List.mem_cons] at hk
    rcases hk with rfl | hk
    · omega
    · have := hFl k hk; omega, by omega, by omega, fun hin => by have := hFl _ hin; omega⟩
  have hc01 := HC1.out.trans hc0 (by simp)
  have hr0 := HR1.out.ch hc0 (by simp)
  have hmb0 := HBM.out.ch hc0 (by simp)
  have hL0 : WL W0 (m :: ob :: F) lb nl Ls := by
    have h0 := HL.out.ch hc01
    have key : ∀ k, k < w.heap.size → k ∉ m :: F → k ∉ m :: ob :: F := fun k hk hn => by
      simp only [List.mem_cons, not_or] at hn ⊢
      exact ⟨hn.1, by omega, hn.2⟩
    exact ⟨h0.len, h0.cells, fun x hx => ⟨(h0.words x hx).ok, fun k hk => ⟨key k ((HL.out.words x hx).apart k hk).2 ((h0.words x hx).apart k hk).1, ((h0.words x hx).apart k hk).2⟩⟩, key _ HL.out.apart.2 h0.apart.1, h0.apart.2⟩
  have hY0 : WVin W0 (m :: ob :: F) ⟨ya, natInts y, yc⟩ := ⟨(HYW.out.ch hc01).ok, fun k hk => ⟨by
    have h1 := ((HYW.out).apart k hk)
    simp only [List.mem_cons, not_or] at h1 ⊢
    exact ⟨h1.1.1, by omega, h1.1.2⟩, ((HYW.out.ch hc01).apart k hk).2⟩⟩
  have hbl0 := (hc01.cell (cell_lt HBL.out) (by simp)).trans HBL.out
  have hblN : bl ∉ m :: ob :: F := by
    simp only [List.mem_cons, not_or] at hblF ⊢
    exact ⟨hblF.1, by omega, hblF.2⟩
  have hRI0 : RT W0 w.heap.size g m G F ob width (fun i => (RQ i).2) 0 (RQ 0).1 W0 (G, 0) F := by
    rw [HR0.out]
    refine ⟨some ⟨w.heap.size + 1, 0, none⟩, width, List.replicate width 0, Sim.start HOK.out, fun _ => by show _ = (RQ 0).2; rw [HR0.out], by simp, fun r hr => by rw [(List.mem_replicate.1 hr).2]; show 0 < 2 * G.nodes.length; omega, (H.out.same HC1.out (by simp)).same hc0 (by simp), Ch.refl _ _, fun k hk => .inl hk, rfl, hbo0, hr0, fun k hk => ?_⟩
    cases hk
    refine ⟨by show w.heap.size ≤ w.heap.size + 1; omega, ?_, by show w.heap.size + 1 ≠ _; omega, by show w.heap.size + 1 ≠ _; omega⟩
    show w.heap.size + 1 ∉ _
    simp only [List.mem_cons, not_or]
    exact ⟨by omega, by omega, fun hin => by have := hFl _ hin; omega⟩
  have hnin : ∀ b, w.heap.size ≤ b → b ≠ ob → b ∉ m :: ob :: F := fun b hb hne => by
    simp only [List.mem_cons, not_or]
    exact ⟨by omega, hne, fun hin => by have := hFl _ hin; omega⟩
  rw [hz1] at hbm0 hbn0 hby0
  have hFT := RT.ft (lo := w.heap.size) (g := g) (G := G) (width := width) (O := fun i => (RQ i).2) hFR hY0 (hbn0.cell (i := 0) rfl) (hby0.cell (i := 0) rfl) (hbm0.cell (i := 0) rfl) (hnin _ (by omega) (by omega)) (hnin _ (by omega) (by omega)) (hnin _ (by omega) (by omega))
  have HFR := Lib.hid hFR; clear hFR
  have HFT := Lib.hid hFT; clear hFT
  have HL0 := Lib.hid hL0; clear hL0
  have HRI0 := Lib.hid hRI0; clear hRI0
  have HC01 := Lib.hid hc01; clear hc01
  have HMB0 := Lib.hid hmb0; clear hmb0
  have HNIN := Lib.hid hnin; clear hnin
  have HBL0 := Lib.hid hbl0; clear hbl0
  clear hbo0 hr0 hbm0 hbn0 hby0 hY0
  refine (wpIn_wide (n := 4)).1 ?_
  refine wpIn_rangeFunc_Q (n := 4) W0.heap.size rfl rfl (by omega) rfl trivial (fun args w => fnvmfitting1 args w) (encs := fitEnc) (fun _ => rfl)
    (FInv (RT W0 w.heap.size g m G F ob width (fun i => (RQ i).2)) (fun i => (RQ i).1) 0)
    (FKx (RT W0 w.heap.size g m G F ob width (fun i => (RQ i).2)) (fun i => isR (RQ i).1 y n i) fitv)
    (fun x => FInv (RT W0 w.heap.size g m G F ob width (fun i => (RQ i).2)) (fun i => (RQ i).1) (x.1 + 1))
    (FInv (RT W0 w.heap.size g m G F ob width (fun i => (RQ i).2)) (fun i => (RQ i).1) fitv)
    ?seq ?j0 ?k ?j ?d ⟨_, _, HRI0.out⟩ ?a1 ?assign ?body ?done
  case assign =>
    intro q x W K hK
    simp only [fitEnc]
    gi_wp2
    exact hK
  case j0 =>
    rintro A A' ⟨P, F', h⟩ hc
    exact ⟨P, F', HFT.out.same h hc⟩
  case k =>
    rintro x A A' ⟨hx, P, F', hp, h, h2⟩ hc
    exact ⟨hx, P, F', hp, HFT.out.same h hc, h2⟩
  case j =>
    rintro x A A' ⟨P, F', h⟩ hc
    exact ⟨P, F', HFT.out.same h hc⟩
  case d =>
    rintro A A' ⟨P, F', h⟩ hc
    exact ⟨P, F', HFT.out.same h hc⟩
  case seq =>
    intro lp X hX hXB hY W hI hXW
    refine fit_seq (T := RT W0 w.heap.size g m G F ob width (fun i => (RQ i).2)) (RF := fun i => (RQ i).1) (IS := fun i => isR (RQ i).1 y n i) 3 (by omega) HFT.out hyl h1 h16 (by omega) hyr hfit (fun _ => rfl) ?_ lp X hX hXB hY W hI hXW
    rintro i hi hb W P F' ⟨va, vc, l, h⟩
    have e := HRB.out i hb fitv hi
    refine ⟨va, vc, l, ?_⟩
    rw [e]
    exact ⟨h.sim, fun h9 => absurd h9 hb, h.len, h.all, h.mem, h.ch, h.own, h.map, h.bx, h.row, h.fresh⟩
  case body =>
    rintro q ⟨i, r⟩ W ⟨hxf, P, F', hP, ⟨va, vc, l, hE⟩, hr, hrl⟩ hWl
    simp only at hxf hE hr hrl
    obtain ⟨x, hx⟩ : ∃ x, Ls[i]? = some x := ⟨_, List.getElem?_eq_getElem (by rw [HL0.out.len]; omega)⟩
    have hmem := List.mem_of_getElem? hx
    have hwo := HW.out x hmem
    have hlg := HLG.out i x hx
    have hR0 : (isR (RQ i).1 y n i).1.2 = 0 := by
      rcases hE.sim.rel with ⟨e, _⟩ | ⟨_, e⟩
      · exact e
      · omega
    have hlo := hE.out hR0
    have hSe : chF r (isR (RQ i).1 y n i).1 ((nats x.l).zip l) = RQ (i + 1) := by
      rw [HRS.out, hr, hlo, ← hlg]; rfl
    have hCHO : ∀ Wc, RI W0 w.heap.size g m G F ob width (isR (RQ i).1 y n i).1 (RQ i).2 Wc (.slice va width vc) P l F' → Calls Tryz.prog 82 #[.pointer (some ⟨m, 0, none⟩), .int .i64 r, .slice x.a width x.c, .slice va width vc] Wc fun e w' => ∃ v, e = .returned v ∧ CH Wc g m G P F' (RQ (i + 1)) width v w' := fun Wc h => by
      rw [← hSe]
      obtain ⟨k1, k2⟩ := h.word (HL0.out.words x hmem)
      have hz := h.ch.size
      refine mchoose_is h.mem h.sim hrl (x := nats x.l) (y := l) width x.c vc (by rw [nats_len, hwo.len]) h.len (by omega) (by rw [show ((nats x.l).map fun (r : Nat) => (r : Int)) = x.l from hwo.cast]; exact k1.ok.sl) ?_ k2 ?_ (fun q hq => h.sim.ext.lt (hwo.lt q hq)) h.all
      · have := h.row
        rw [refs_natInts] at this
        exact Sl.of_ints this (by omega)
      · intro k hk
        cases va with
        | none => simp [ablk] at hk
        | some p =>
          simp only [ablk, List.mem_singleton] at hk
          subst hk
          have h3 := (h.fresh p.block rfl).2.1
          simp only [List.mem_cons, not_or] at h3 ⊢
          exact ⟨⟨h3.1, h3.2.2⟩, (h.row.lt p.block rfl).2⟩
    have c_x := hE.cell (HL0.out.cells i x hx) HL0.out.apart.1
    unfold WV.val at c_x
    rw [hwo.len] at c_x
    have c_l := hE.cell HBL0.out hblN
    have c_m := hE.cell (HMB0.out.cell (i := 0) rfl) (HNIN.out _ (by omega) (by omega))
    have HCHO := Lib.hid hCHO; clear hCHO
    have HE := Lib.hid hE; clear hE
    clear hx hmem hwo hlg hR0 hlo hSe hr hrl hP
    obtain ⟨xa, xl, xc⟩ := x
    simp only at c_x HCHO
    have hil : i < nl := by omega
    gi_wp2
    refine Ord.St.doorR (fun _ => True) [.rd, .fl, .rd, .fl, .fl, .rd, .rd, .ef, .ef] [0, 0, 0, 0, 12, 28, 0, 127, 255] [0, 1, 2, 3, 4, 5, 6, 7, 8] mixed (by kernel_rfl) (by kernel_rfl) rfl ?_
    obtain ⟨Wc, hWc⟩ : ∃ Wc, Wc = W.drew := ⟨_, rfl⟩
    rw [← hWc]
    have hcur : Ch [] W Wc := by rw [hWc]; exact (Ch.refl _ _).drew
    clear hWc
    have hE := HE.out.same HFR.out (hcur.mono (by simp))
    replace c_x := (hcur.cell (cell_lt c_x) (by simp)).trans c_x
    replace c_l := (hcur.cell (cell_lt c_l) (by simp)).trans c_l
    replace c_m := (hcur.cell (cell_lt c_m) (by simp)).trans c_m
    have c_o := hE.bx.cell (i := 0) rfl
    have HCC := Lib.hid (HCHO.out Wc hE)
    have hWc : W0.heap.size + 2 ≤ Wc.heap.size := Nat.le_trans hWl hcur.size
    clear HE HCHO
    have HE := Lib.hid hE; clear hE
    have HCUR := Lib.hid hcur; clear hcur
    refine Ord.St.rd2 (T' := ?_) 0 [1, 2, 3, 4, 5, 6, 7, 8] _ _ rfl (by kernel_rfl) rfl rfl rfl rfl (fun K hk => ?_) ?_
    rotate_left
    · go_step; exact hk
    refine Ord.St.fl2 (T' := ?_) 1 [2, 3, 4, 5, 6, 7, 8] _ _ rfl (by kernel_rfl) rfl rfl rfl rfl (fun K w' hk => ?_) ?_
    rotate_left
    · go_step; exact hk
    refine Ord.St.rd2 (T' := ?_) 2 [3, 4, 5, 6, 7, 8] _ _ rfl (by kernel_rfl) rfl rfl rfl rfl (fun K hk => ?_) ?_
    rotate_left
    · go_step; exact hk
    refine Ord.St.fl2 (T' := ?_) 3 [4, 5, 6, 7, 8] _ _ rfl (by kernel_rfl) rfl rfl rfl rfl (fun K w' hk => ?_) ?_
    rotate_left
    · go_step; exact hk
    refine Ord.St.fl2 (T' := ?_) 4 [5, 6, 7, 8] _ _ rfl (by kernel_rfl) rfl rfl rfl rfl (fun K w' hk => ?_) ?_
    rotate_left
    · go_step; exact hk
    refine Ord.St.rd2 (T' := ?_) 5 [6, 7, 8] _ _ rfl (by kernel_rfl) rfl rfl rfl rfl (fun K hk => ?_) ?_
    rotate_left
    · go_step; exact hk
    refine Ord.St.rd2 (T' := ?_) 6 [7, 8] _ _ rfl (by kernel_rfl) rfl rfl rfl rfl (fun K hk => ?_) ?_
    rotate_left
    · go_step; exact hk
    refine Ord.St.ef 7 [8] _ rfl (by kernel_rfl) (fun K hK => ?_)
    go_wp2_with fail
    refine HCC.out.mono ?_
    rintro e w1 ⟨v, rfl, hch⟩
    obtain ⟨va1, vc1, rfl⟩ := hch.shape
    have hp := HE.out.put HFR.out hWc (by omega) hch
    have hob1' := HE.out.bx.ch hch.choose_spec.choose_spec.2.2.2.2.2.choose_spec.2.1 (by have h9 := HE.out.obF HFR.out; simpa using h9)
    have HPUT := Lib.hid hp; clear hp hch HCC
    clear c_o
    have c_o := hob1'.cell (i := 0) rfl
    have f_o := hob1'.frozen (i := 0)
    go_wp2_with fail
    refine ⟨rfl, hK _ _ ?_⟩; clear hK K
    refine Ord.St.ef 8 [] _ rfl (by kernel_rfl) (fun K hK => ?_)
    go_wp2_with fail
    refine ⟨rfl, hK _ _ ?_⟩; clear hK K
    refine Ord.St.nil ?_
    gi_wp2
    obtain ⟨P1, l1, F1, hr1, hb1⟩ := HPUT.out
    rw [hz0] at hb1
    exact ⟨(Books.of_ch HCUR.out (by omega) (by simp)).trans hb1, P1, F1, va1, vc1, l1, hr1⟩
  case done =>
    rintro W ⟨P, F', va, vc, l, hE⟩ hK _
    have c_o := hE.bx.cell (i := 0) rfl
    have HE := Lib.hid hE; clear hE
    rw [hz0] at hK
    have HK := Lib.hid hK; clear hK
    go_wp2
    refine ⟨by simp, .inl ⟨_, _, rfl, run_takeDeferred HK.out, ?_⟩⟩
    have hE2 := HE.out.same HFR.out (A' := W.putObj (w.heap.size + 6) (.deferred none)) (by rw [hz0]; exact ch_put (by simp))
    have hz9 := HC01.out.size
    refine ⟨_, results_tmp rfl _ _ _, .slice va width vc, rfl, P, l, hE2.sim, hE2.out, F', hE2.mem, (HC01.out.mono (by simp)).trans hE2.ch (fun k hk => ?_), fun k hk => (hE2.own k hk).imp id (fun e => by omega), hE2.map, by rw [hE2.len]; exact hE2.row, fun k hk => ?_⟩
    · simp only [List.nil_append, List.mem_cons] at hk ⊢
      rcases hk with hk | hk | hk
      · exact .inl (.inl hk)
      · exact .inr (by omega)
      · exact .inl (.inr hk)
    · obtain ⟨f1, f2, _⟩ := hE2.fresh k hk
      simp only [List.mem_cons, not_or] at f2
      exact ⟨f1, f2.2.2, f2.1⟩
end
end Go.Proofs.YtdmmanfjafempaaGreat
namespace Go.Proofs.YtdmmanfjafempaaGreat
open Go.RowKit Go.Mem Go.Aig
theorem infoRefs : (Tryz.prog.info? 40).map (fun i => (i.zero, i.size, i.bytes)) = some (some (.slice none 0 0), 1, 24) := by kernel_rfl
theorem slRows : SliceTy Tryz.prog 39 40 1 24 (.slice none 0 0) := ⟨Tryz.underlying39, infoRefs, rfl, by decide⟩
section
variable {w : World}
end
end Go.Proofs.YtdmmanfjafempaaGreat
namespace Go.Proofs.YtdmmanfjafempaaGreat
open Go.RowKit Go.Mem Go.Aig
/-- pieces that lie in memory, side by side as the slice's elements -/
structure Pco (w : World) (q : Nat) (ps : List (Option Addr × List Value × Nat)) : Prop where
  hd : ∀ (k : Nat) (p : Option Addr) (l : List Value) (c : Nat), ps[k]? = some (p, l, c) → w.cell? ⟨q, k, none⟩ = some (.slice p l.length c)
  cl : ∀ (k : Nat) (p : Option Addr) (l : List Value) (c : Nat), ps[k]? = some (p, l, c) → ∀ j u, l[j]? = some u → ∃ a, p = some a ∧ w.cell? (a.add j) = some u
  o1 : ∀ (k : Nat) (p : Option Addr) (l : List Value) (c : Nat), ps[k]? = some (p, l, c) → ∀ u ∈ l, u.oneCell' = true
def pcoL (ps : List (Option Addr × List Value × Nat)) : List Value := ps.flatMap fun x => x.2.1
theorem pcoL_succ {ps : List (Option Addr × List Value × Nat)} {k : Nat} {p : Option Addr} {l : List Value} {c : Nat} (h : ps[k]? = some (p, l, c)) : pcoL (ps.take (k + 1)) = pcoL (ps.take k) ++ l := by
  unfold pcoL
  rw [List.take_add_one, h]
  simp
theorem pcoL_le (ps : List (Option Addr × List Value × Nat)) (k : Nat) : (pcoL (ps.take k)).length ≤ (pcoL ps).length := by
  have e : pcoL ps = pcoL (ps.take k) ++ pcoL (ps.drop k) := by
    unfold pcoL; rw [← List.flatMap_append, List.take_append_drop]
  rw [e, List.length_append]; omega
theorem Pco.ch {w W : World} {q : Nat} {ps : List (Option Addr × List Value × Nat)} (h : Pco w q ps) (hc : Ch [] w W) : Pco W q ps :=
  ⟨fun k p l c hk => (hc.cell (p := ⟨q, k, none⟩) (cell_lt (h.hd k p l c hk)) (by simp)).trans (h.hd k p l c hk), fun k p l c hk j u hu => by
    obtain ⟨a, e, h2⟩ := h.cl k p l c hk j u hu
    exact ⟨a, e, (hc.cell (cell_lt h2) (by simp)).trans h2⟩, h.o1⟩
theorem run_append_nilx {P : Program} (w : World) (t ty e : TypeId) (i : TypeInfo) (ht : P.underlying t = some (.slice e)) (hi : P.info? e = some i) (base : Option Addr) (n cap c : Nat) (h : n ≤ cap) : (Builtin.append_ #[t, t] ty #[.slice base n cap, .slice none 0 c]).run P w = .ok (.slice base n cap) w := by
  cases base <;> simp [Builtin.append_, run_underlying ht, sizeOf, typeInfo, hi, Builtin.lenOf, h, Builtin.firstCells, storeCells]
theorem row.cap {w : World} {e : TypeId} {size : Nat} {a : Option Addr} {n c : Nat} {xs : List Value} (h : row w e size (.slice a n c) n xs) : n ≤ c := by
  rcases h.2 with ⟨e, _⟩ | ⟨g, cap, cur, e, _, _, h1, _⟩
  · cases e; exact Nat.le_refl _
  · cases e; exact h1
abbrev zRef : Value := .int .i64 0
abbrev zLst : Value := .slice none 0 0
section
variable {w : World}
theorem run_zerosRef (w : World) (ty : TypeId) (n : Nat) (h0 : 0 < n) (hn : n ≤ 1000000) : ∃ c W, (Builtin.append_ #[40, 3] ty #[.slice none 0 0, .int .i64 n]).run Tryz.prog w = .ok (.slice (some ⟨w.heap.size, 0, none⟩) n c) W ∧ row W 41 1 (.slice (some ⟨w.heap.size, 0, none⟩) 0 c) 0 [] ∧ Ch [] w W ∧ n ≤ c ∧ c ≤ maxLen := by
  obtain ⟨i, hi, hz, hs, hb⟩ := info_parts infoRef
  have hr := Go.Lib.run_append_nil_zeros (P := Tryz.prog) w 40 3 ty 41 i zRef .i64 .i64 Tryz.underlying40 Tryz.underlying3 hi hz n h0 (by rw [hs]; omega) (by omega) (by rw [hb]; omega)
  have h1 := grownCap_ge w n 0 41
  have h2 := grownCap_le_maxLen w n 0 41 (by unfold maxLen; omega)
  refine ⟨_, _, hr, ⟨rfl, .inr ⟨_, _, _, rfl, Nat.zero_le _, heap_alloc_new w.drew _, Nat.zero_le _, h2, ?_, by simp⟩⟩, ((Ch.refl [] w).drew).alloc _, h1, h2⟩
  simp [Value.cells, Builtin.zeroCells]
  omega
set_option maxRecDepth 100000 in
set_option maxHeartbeats 2000000 in
theorem GrowRef_nil (n : Nat) (h0 : 0 < n) (hn : n ≤ 1000000) : Calls Tryz.prog 160 #[.slice none 0 0, .int .i64 n] w fun e w' => ∃ v, e = .returned v ∧ row w' 41 1 v 0 [] ∧ (∀ q ∈ v.ownBlock.toList, w.heap.size ≤ q) ∧ Ch [] w w' := by
  obtain ⟨c, W, hr, hrow, hch, h1, h2⟩ := run_zerosRef w 40 n h0 hn
  have HROW := Lib.hid hrow; clear hrow
  have HCH := Lib.hid hch; clear hch
  go_enter Tryz.func160, Tryz.ntmps160
  have HR := Lib.hid hr; clear hr
  go_wp2_with (at_builtin; go_loud (refine Go.Lib.wpList_append_run w rfl _ _ _ _ rfl (.slice none 0 0) (.int .i64 n) rfl rfl _ _ HR.out ?_))
  go_ret
  exact ⟨_, rfl, HROW.out, by simp, HCH.out⟩
set_option maxRecDepth 100000 in
set_option maxHeartbeats 4000000 in
theorem ConcatRef_is {q : Nat} {ps : List (Option Addr × List Value × Nat)} (n c : Nat) (h : Pco w q ps) (hn : ps.length = n) (hnc : n ≤ 1000) (h1 : 0 < (pcoL ps).length) (h2 : (pcoL ps).length ≤ 1000000) :
    Calls Tryz.prog 124 #[.slice (some ⟨q, 0, none⟩) n c] w fun e w' => ∃ v, e = .returned v ∧ row w' 41 1 v (pcoL ps).length (pcoL ps) ∧ (∀ q ∈ v.ownBlock.toList, w.heap.size ≤ q) ∧ Ch [] w w' := by
  have HN := fun W => GrowRef_nil (w := W) (pcoL ps).length h1 h2
  have H := Lib.hid h; clear h
  go_enter Tryz.func124, Tryz.ntmps124
  go_wp2_with fail
  go_loopw [3, 11] (fun s i wr => ∃ k : Nat, k ≤ n ∧ i = .int .i64 k ∧ s = .int .i64 (pcoL (ps.take k)).length ∧ wr = w) (fun _ i _ => n - (intOf i).toNat)
  case atStart => exact ⟨0, by omega, rfl, by simp [pcoL], rfl⟩
  case round =>
    obtain ⟨k, hk, rfl, rfl, hww⟩ := hrel
    subst wr
    have hle := pcoL_le ps k
    by_cases hlt : k < n
    · obtain ⟨⟨p, l, lc⟩, hp⟩ : ∃ x, ps[k]? = some x := ⟨_, List.getElem?_eq_getElem (by omega)⟩
      have c0 := H.out.hd k p l lc hp
      have hsu := pcoL_succ hp
      have hle2 := pcoL_le ps (k + 1)
      rw [hsu, List.length_append] at hle2
      have HSU := Lib.hid hsu; clear hsu
      generalize hA : (pcoL (ps.take k)).length = A at *
      have hnn : decide ((A : Int) + l.length < 0) = false := decide_eq_false (by omega)
      go_wp2_with fail
      go_roundw
      case rel => exact ⟨k + 1, by omega, by go_num, by rw [HSU.out, List.length_append, hA]; push_cast; rfl, by trivial⟩
      case measure => simp [intOf]; omega
    · have hkn : k = n := by omega
      have hall : ps.take k = ps := List.take_of_length_le (by omega)
      rw [hall] at hle ⊢
      clear hall hkn
      have HNN := Lib.hid HN; clear HN
      go_wp2_with fail
      refine (HNN.out _).mono ?_
      rintro e w1 ⟨v, rfl, hrow, hlo, hch⟩
      have HROW := Lib.hid hrow; clear hrow
      have HLO := Lib.hid hlo; clear hlo
      have HCH := Lib.hid hch; clear hch hle
      clear hlt
      go_wp2_with fail
      go_loopw [6, 27] (fun o i wr => ∃ k : Nat, k ≤ n ∧ i = .int .i64 k ∧ Ch [] w wr ∧ row wr 41 1 o (pcoL (ps.take k)).length (pcoL (ps.take k)) ∧ ∀ q ∈ o.ownBlock.toList, w.heap.size ≤ q) (fun _ i _ => n - (intOf i).toNat)
      case atStart => exact ⟨0, by omega, rfl, HCH.out, by simpa [pcoL] using HROW.out, HLO.out⟩
      case round =>
        obtain ⟨k, hk, rfl, hc, hrow, hlo⟩ := hrel
        obtain ⟨oa, oc, rfl⟩ := row.shape hrow
        by_cases hlt : k < n
        · obtain ⟨⟨p, l, lc⟩, hp⟩ : ∃ x, ps[k]? = some x := ⟨_, List.getElem?_eq_getElem (by omega)⟩
          have hP := H.out.ch hc
          have c0 := hP.hd k p l lc hp
          have hcl := hP.cl k p l lc hp
          have h1o := hP.o1 k p l lc hp
          have hsu := pcoL_succ hp
          have hle2 := pcoL_le ps (k + 1)
          rw [hsu, List.length_append] at hle2
          have HSU := Lib.hid hsu; clear hsu
          have H1O := Lib.hid h1o; clear h1o
          generalize hA : pcoL (ps.take k) = A at *
          have HA := Lib.hid hA; clear hA
          have HRA := Lib.hid hrow; clear hrow
          have HC := Lib.hid hc; clear hc
          have HLO2 := Lib.hid hlo; clear hlo
          clear hp hP
          cases p with
          | none =>
            have hl0 : l = [] := by
              cases l with
              | nil => rfl
              | cons u l =>
                obtain ⟨a, e, _⟩ := hcl 0 u rfl
                cases e
            subst hl0
            clear hcl
            have hrn : (Builtin.append_ #[40, 40] 40 #[.slice oa A.length oc, .slice none 0 lc]).run Tryz.prog wr = .ok (.slice oa A.length oc) wr := by
              obtain ⟨i, hi, _⟩ := info_parts infoRef
              exact run_append_nilx wr _ _ _ i Tryz.underlying40 hi oa A.length oc lc (row.cap HRA.out)
            have HRN := Lib.hid hrn; clear hrn
            go_wp2_with (at_builtin; go_loud (refine Go.Lib.wpList_append_run wr rfl _ _ _ _ rfl (.slice oa A.length oc) (.slice none 0 lc) rfl rfl _ _ HRN.out ?_))
            go_roundw
            case rel =>
              refine ⟨k + 1, by omega, by go_num, HC.out, ?_, HLO2.out⟩
              rw [HSU.out, List.append_nil]
              exact HRA.out
            case measure => simp [intOf]; omega
          | some p =>
            have hcl2 : ∀ j u, l[j]? = some u → wr.cell? (p.add j) = some u := fun j u hu => by
              obtain ⟨a, e, h⟩ := hcl j u hu
              cases e; exact h
            have HCL := Lib.hid hcl2; clear hcl2 hcl
            go_wp2_with (at_builtin; go_loud (refine wpList_append_row slRefs rfl _ _ rfl (v := .slice oa A.length oc) (n := A.length) (xs := A) rfl HRA.out (ad := p) (m := l.length) (c := lc) (news := l) rfl (by simp) HCL.out H1O.out (by omega) (by omega) ?_; intro v' w4 hown4 hC4 hf4; have HO4 := Lib.hid hown4; clear hown4; have HC4 := Lib.hid hC4; clear hC4; have HF4 := Lib.hid hf4; clear hf4))
            go_roundw
            case rel =>
              obtain ⟨q1, q2⟩ := app_step HC.out (Ch.refl [] wr) HLO2.out HC4.out HF4.out
              refine ⟨k + 1, by omega, by go_num, q1, ?_, q2⟩
              rw [HSU.out, List.length_append]
              exact HO4.out
            case measure => simp [intOf]; omega
        · have hkn : k = n := by omega
          have hall : ps.take k = ps := List.take_of_length_le (by omega)
          rw [hall] at hrow hlo ⊢
          have HRA := Lib.hid hrow; clear hrow hall hkn
          have HC := Lib.hid hc; clear hc
          have HLO2 := Lib.hid hlo; clear hlo
          go_wp2_with fail
          go_ret
          exact ⟨_, rfl, HRA.out, HLO2.out, HC.out⟩
theorem run_zerosLst (w : World) (ty : TypeId) (n : Nat) (h0 : 0 < n) (hn : n ≤ 1000000) : ∃ c W, (Builtin.append_ #[39, 3] ty #[.slice none 0 0, .int .i64 n]).run Tryz.prog w = .ok (.slice (some ⟨w.heap.size, 0, none⟩) n c) W ∧ row W 40 1 (.slice (some ⟨w.heap.size, 0, none⟩) 0 c) 0 [] ∧ Ch [] w W ∧ n ≤ c ∧ c ≤ maxLen := by
  obtain ⟨i, hi, hz, hs, hb⟩ := info_parts infoRefs
  have hr := Go.Lib.run_append_nil_zeros (P := Tryz.prog) w 39 3 ty 40 i zLst .i64 .i64 Tryz.underlying39 Tryz.underlying3 hi hz n h0 (by rw [hs]; omega) (by omega) (by rw [hb]; omega)
  have h1 := grownCap_ge w n 0 40
  have h2 := grownCap_le_maxLen w n 0 40 (by unfold maxLen; omega)
  refine ⟨_, _, hr, ⟨rfl, .inr ⟨_, _, _, rfl, Nat.zero_le _, heap_alloc_new w.drew _, Nat.zero_le _, h2, ?_, by simp⟩⟩, ((Ch.refl [] w).drew).alloc _, h1, h2⟩
  simp [Value.cells, Builtin.zeroCells]
  omega
set_option maxRecDepth 100000 in
set_option maxHeartbeats 2000000 in
theorem GrowLst_nil (n : Nat) (h0 : 0 < n) (hn : n ≤ 1000000) : Calls Tryz.prog 158 #[.slice none 0 0, .int .i64 n] w fun e w' => ∃ v, e = .returned v ∧ row w' 40 1 v 0 [] ∧ (∀ q ∈ v.ownBlock.toList, w.heap.size ≤ q) ∧ Ch [] w w' := by
  obtain ⟨c, W, hr, hrow, hch, h1, h2⟩ := run_zerosLst w 39 n h0 hn
  have HROW := Lib.hid hrow; clear hrow
  have HCH := Lib.hid hch; clear hch
  go_enter Tryz.func158, Tryz.ntmps158
  have HR := Lib.hid hr; clear hr
  go_wp2_with (at_builtin; go_loud (refine Go.Lib.wpList_append_run w rfl _ _ _ _ rfl (.slice none 0 0) (.int .i64 n) rfl rfl _ _ HR.out ?_))
  go_ret
  exact ⟨_, rfl, HROW.out, by simp, HCH.out⟩
set_option maxRecDepth 100000 in
set_option maxHeartbeats 4000000 in
theorem ConcatLst_is {q : Nat} {ps : List (Option Addr × List Value × Nat)} (n c : Nat) (h : Pco w q ps) (hn : ps.length = n) (hnc : n ≤ 1000) (h1 : 0 < (pcoL ps).length) (h2 : (pcoL ps).length ≤ 1000000) :
    Calls Tryz.prog 122 #[.slice (some ⟨q, 0, none⟩) n c] w fun e w' => ∃ v, e = .returned v ∧ row w' 40 1 v (pcoL ps).length (pcoL ps) ∧ (∀ q ∈ v.ownBlock.toList, w.heap.size ≤ q) ∧ Ch [] w w' := by
  have HN := fun W => GrowLst_nil (w := W) (pcoL ps).length h1 h2
  have H := Lib.hid h; clear h
  go_enter Tryz.func122, Tryz.ntmps122
  go_wp2_with fail
  go_loopw [3, 11] (fun s i wr => ∃ k : Nat, k ≤ n ∧ i = .int .i64 k ∧ s = .int .i64 (pcoL (ps.take k)).length ∧ wr = w) (fun _ i _ => n - (intOf i).toNat)
  case atStart => exact ⟨0, by omega, rfl, by simp [pcoL], rfl⟩
  case round =>
    obtain ⟨k, hk, rfl, rfl, hww⟩ := hrel
    subst wr
    have hle := pcoL_le ps k
    by_cases hlt : k < n
    · obtain ⟨⟨p, l, lc⟩, hp⟩ : ∃ x, ps[k]? = some x := ⟨_, List.getElem?_eq_getElem (by omega)⟩
      have c0 := H.out.hd k p l lc hp
      have hsu := pcoL_succ hp
      have hle2 := pcoL_le ps (k + 1)
      rw [hsu, List.length_append] at hle2
      have HSU := Lib.hid hsu; clear hsu
      generalize hA : (pcoL (ps.take k)).length = A at *
      have hnn : decide ((A : Int) + l.length < 0) = false := decide_eq_false (by omega)
      go_wp2_with fail
      go_roundw
      case rel => exact ⟨k + 1, by omega, by go_num, by rw [HSU.out, List.length_append, hA]; push_cast; rfl, by trivial⟩
      case measure => simp [intOf]; omega
    · have hkn : k = n := by omega
      have hall : ps.take k = ps := List.take_of_length_le (by omega)
      rw [hall] at hle ⊢
      clear hall hkn
      have HNN := Lib.hid HN; clear HN
      go_wp2_with fail
      refine (HNN.out _).mono ?_
      rintro e w1 ⟨v, rfl, hrow, hlo, hch⟩
      have HROW := Lib.hid hrow; clear hrow
      have HLO := Lib.hid hlo; clear hlo
      have HCH := Lib.hid hch; clear hch hle
      clear hlt
      go_wp2_with fail
      go_loopw [6, 27] (fun o i wr => ∃ k : Nat, k ≤ n ∧ i = .int .i64 k ∧ Ch [] w wr ∧ row wr 40 1 o (pcoL (ps.take k)).length (pcoL (ps.take k)) ∧ ∀ q ∈ o.ownBlock.toList, w.heap.size ≤ q) (fun _ i _ => n - (intOf i).toNat)
      case atStart => exact ⟨0, by omega, rfl, HCH.out, by simpa [pcoL] using HROW.out, HLO.out⟩
      case round =>
        obtain ⟨k, hk, rfl, hc, hrow, hlo⟩ := hrel
        obtain ⟨oa, oc, rfl⟩ := row.shape hrow
        by_cases hlt : k < n
        · obtain ⟨⟨p, l, lc⟩, hp⟩ : ∃ x, ps[k]? = some x := ⟨_, List.getElem?_eq_getElem (by omega)⟩
          have hP := H.out.ch hc
          have c0 := hP.hd k p l lc hp
          have hcl := hP.cl k p l lc hp
          have h1o := hP.o1 k p l lc hp
          have hsu := pcoL_succ hp
          have hle2 := pcoL_le ps (k + 1)
          rw [hsu, List.length_append] at hle2
          have HSU := Lib.hid hsu; clear hsu
          have H1O := Lib.hid h1o; clear h1o
          generalize hA : pcoL (ps.take k) = A at *
          have HA := Lib.hid hA; clear hA
          have HRA := Lib.hid hrow; clear hrow
          have HC := Lib.hid hc; clear hc
          have HLO2 := Lib.hid hlo; clear hlo
          clear hp hP
          cases p with
          | none =>
            have hl0 : l = [] := by
              cases l with
              | nil => rfl
              | cons u l =>
                obtain ⟨a, e, _⟩ := hcl 0 u rfl
                cases e
            subst hl0
            clear hcl
            have hrn : (Builtin.append_ #[39, 39] 39 #[.slice oa A.length oc, .slice none 0 lc]).run Tryz.prog wr = .ok (.slice oa A.length oc) wr := by
              obtain ⟨i, hi, _⟩ := info_parts infoRefs
              exact run_append_nilx wr _ _ _ i Tryz.underlying39 hi oa A.length oc lc (row.cap HRA.out)
            have HRN := Lib.hid hrn; clear hrn
            go_wp2_with (at_builtin; go_loud (refine Go.Lib.wpList_append_run wr rfl _ _ _ _ rfl (.slice oa A.length oc) (.slice none 0 lc) rfl rfl _ _ HRN.out ?_))
            go_roundw
            case rel =>
              refine ⟨k + 1, by omega, by go_num, HC.out, ?_, HLO2.out⟩
              rw [HSU.out, List.append_nil]
              exact HRA.out
            case measure => simp [intOf]; omega
          | some p =>
            have hcl2 : ∀ j u, l[j]? = some u → wr.cell? (p.add j) = some u := fun j u hu => by
              obtain ⟨a, e, h⟩ := hcl j u hu
              cases e; exact h
            have HCL := Lib.hid hcl2; clear hcl2 hcl
            go_wp2_with (at_builtin; go_loud (refine wpList_append_row slRows rfl _ _ rfl (v := .slice oa A.length oc) (n := A.length) (xs := A) rfl HRA.out (ad := p) (m := l.length) (c := lc) (news := l) rfl (by simp) HCL.out H1O.out (by omega) (by omega) ?_; intro v' w4 hown4 hC4 hf4; have HO4 := Lib.hid hown4; clear hown4; have HC4 := Lib.hid hC4; clear hC4; have HF4 := Lib.hid hf4; clear hf4))
            go_roundw
            case rel =>
              obtain ⟨q1, q2⟩ := app_step HC.out (Ch.refl [] wr) HLO2.out HC4.out HF4.out
              refine ⟨k + 1, by omega, by go_num, q1, ?_, q2⟩
              rw [HSU.out, List.length_append]
              exact HO4.out
            case measure => simp [intOf]; omega
        · have hkn : k = n := by omega
          have hall : ps.take k = ps := List.take_of_length_le (by omega)
          rw [hall] at hrow hlo ⊢
          have HRA := Lib.hid hrow; clear hrow hall hkn
          have HC := Lib.hid hc; clear hc
          have HLO2 := Lib.hid hlo; clear hlo
          go_wp2_with fail
          go_ret
          exact ⟨_, rfl, HRA.out, HLO2.out, HC.out⟩
end
end Go.Proofs.YtdmmanfjafempaaGreat
namespace Go.Aig
def bad26 (n0 : Nat) (x : List Int) : Bool := !right26 x.length || (x.length : Int) != n0
/-- what check finds wrong -/
def chk26 (G : Gra) (idx refs : List Int) (ws : List (List Int)) : Nat :=
  if ws.any (bad26 (ws.headD []).length) then 260 else if badIn G (refs ++ ws.flatten ++ idx) then 200 else 0
end Go.Aig
namespace Go.Proofs.YtdmmanfjafempaaGreat
open Go.RowKit Go.Mem Go.Aig
/-- 'append(s[:n:n], x..)': a copy -/
theorem run_append_copy {P : Program} (w : World) {t e : TypeId} {size bytes : Nat} {z : Value} (S : SliceTy P t e size bytes z) (ty : TypeId)
    (ra : Option Addr) (n : Nat) (olds : List Value) (hlo : olds.length = n * size) (holds : ∀ j u, olds[j]? = some u → ∃ b, ra = some b ∧ w.cell? (b.add j) = some u) (hn0 : ra = none → n = 0) (a : Addr) (m c : Nat) (h0 : 0 < m) (news : List Value) (hl : news.length = m * size) (hnews : ∀ j u, news[j]? = some u → w.cell? (a.add j) = some u) (h1 : ∀ u ∈ news, u.oneCell' = true)
    (hbytes : (n + m) * bytes ≤ 140737488355328) (h63 : n + m ≤ maxLen) :
    ∃ v' w', (Builtin.append_ #[t, t] ty #[.slice ra n n, .slice (some a) m c]).run P w = .ok v' w' ∧ row w' e size v' (n + m) (olds ++ news) ∧ Ch [] w w' ∧ (∀ k, v'.ownBlock = some k → w.heap.size ≤ k) := by
  cases ra with
  | none =>
    have hn := hn0 rfl
    subst hn
    have : olds = [] := List.length_eq_zero_iff.1 (by omega)
    subst this
    obtain ⟨v', w', hr, h2, h3, h4⟩ := run_append_row w S ty (.slice none 0 0) 0 [] ⟨by simp, .inl ⟨rfl, rfl⟩⟩ a m c news hl hnews h1 hbytes h63
    exact ⟨v', w', hr, h2, h3.mono (by simp), fun k hk => (h4 k hk).elim (fun e => by simp [Value.ownBlock] at e) id⟩
  | some b =>
    obtain ⟨i, hi, hz, hsize, hby⟩ := info_parts S.info
    obtain ⟨v', w', hr, h2, h3⟩ := run_append_arg_grows (P := P) (w := w) t ty e i z size bytes S.under hi hz hsize hby S.zs S.pos b n n olds hlo (fun j u hu => by
      obtain ⟨b', e, h⟩ := holds j u hu
      cases e; exact h) a m c news hl hnews (by omega) h63 hbytes
    exact ⟨v', w', hr, ⟨h2.1, h2.2.imp id (fun ⟨g, cap, cur, e, _, rest⟩ => ⟨g, cap, cur, e, Nat.zero_le _, rest⟩)⟩, (Ch.refl _ _).grown h3 (by simp), fun k hk => (h2.lt k hk).1⟩
theorem wpList_append_copy {P : Program} {w : World} {ops : Array Oper} {rest : List Oper} {o : Oper} {a : Act} {Q : Exit → Act → World → Prop} {t e : TypeId} {size bytes : Nat} {z : Value} (S : SliceTy P t e size bytes z) (hgd : o.guard = none) (s x : Operand)
    (ho : o.op = .call { callee := .builtin .append, args := #[s, x], argTypes := #[t, t] })
    {ra : Option Addr} {n : Nat} {olds : List Value} (hs : a.eval s = .slice ra n n) (hlo : olds.length = n * size) (holds : ∀ j u, olds[j]? = some u → ∃ b, ra = some b ∧ w.cell? (b.add j) = some u) (hn0 : ra = none → n = 0)
    {ad : Addr} {m c : Nat} {news : List Value} (h0 : 0 < m) (hx : a.eval x = .slice (some ad) m c) (hl : news.length = m * size) (hnews : ∀ j u, news[j]? = some u → w.cell? (ad.add j) = some u) (h1 : ∀ u ∈ news, u.oneCell' = true)
    (hbytes : (n + m) * bytes ≤ 140737488355328) (h63 : n + m ≤ 9223372036854775807)
    (h : ∀ v' w', row w' e size v' (n + m) (olds ++ news) → Ch [] w w' → (∀ k, v'.ownBlock = some k → w.heap.size ≤ k) → wpList P ops Q rest (a.put o.dst v') w') : wpList P ops Q (o :: rest) a w :=
  wpList_plain hgd fun K hK => by
    obtain ⟨v', w', hr, h2, h3, h4⟩ := run_append_copy (P := P) w S o.type ra n olds hlo holds hn0 ad m c h0 news hl hnews h1 hbytes (by unfold maxLen; omega)
    unfold Oper.wp execOp
    simp only [ho, resolve, invoke, builtin, Sem.run_bind, Sem.run_pure, Result.andThen_ok, List.map_toArray, List.map_cons, List.map_nil, hs, hx, hr]
    exact hK _ _ (h v' w' h2 h3 h4)
abbrev I64' (x : Int) : Prop := -9223372036854775808 ≤ x ∧ x ≤ 9223372036854775807
/-- the references that are gathered: a slice that can be read -/
structure RS (w : World) (ra : Option Addr) (n c : Nat) (R : List Int) : Prop where
  len : R.length = n
  le : n ≤ c
  cells : ∀ j u, (intCells R)[j]? = some u → ∃ b, ra = some b ∧ w.cell? (b.add j) = some u
  max : n ≤ 1000000
theorem RS.ch {w w' : World} {ra : Option Addr} {n c : Nat} {R : List Int} (h : RS w ra n c R) (hc : Ch [] w w') : RS w' ra n c R :=
  ⟨h.len, h.le, fun j u hu => by
    obtain ⟨b, e, h2⟩ := h.cells j u hu
    exact ⟨b, e, (hc.cell (cell_lt h2) (by simp)).trans h2⟩, h.max⟩
theorem RS.zero {w : World} {n c : Nat} {R : List Int} (h : RS w none n c R) : n = 0 := by
  have := h.len
  cases R with
  | nil => exact this.symm
  | cons x R =>
    obtain ⟨b, e, _⟩ := h.cells 0 (.int .i64 x) rfl
    cases e
theorem fnvmcheck1 : Fnv 125 := fnv_of Tryz.func125 (by simp [Tryz.f125]) (by simp [Tryz.f125])
section
variable {w : World} {g : Nat} {G : Gra} {F : List Nat}
set_option maxRecDepth 100000 in
set_option maxHeartbeats 1000000 in
theorem mcheck1_is (h : GIn w g G F) {bx : Nat} (hb : w.cell? ⟨bx, 0, none⟩ = some (.pointer (some ⟨g, 0, none⟩))) (r : Int) (hr : r ≤ 9223372036854775807) :
    Calls Tryz.prog 125 (#[.int .i64 r] ++ #[.pointer (some ⟨bx, 0, none⟩)]) w fun e w' => e = .returned (.bool (!right G.nodes r)) ∧ w = w' := by
  show Calls Tryz.prog 125 #[.int .i64 r, .pointer (some ⟨bx, 0, none⟩)] w _
  have HR := Right_g h r hr
  clear h
  generalize right G.nodes r = q at *
  go_enter Tryz.func125, Tryz.ntmps125
  go_wp2_with fail
  refine HR.mono ?_
  rintro e w' ⟨rfl, rfl⟩
  go_wp2_with fail
  go_ret
  exact ⟨ret_bool rfl, rfl⟩
/-- lists of words, side by side: where each lies, its capacity, its words -/
structure LS (w : World) (q n : Nat) (ls : List (Nat × Nat × List WV)) : Prop where
  len : ls.length = n
  hd : ∀ (j b c : Nat) (ws : List WV), ls[j]? = some (b, c, ws) → w.cell? ⟨q, j, none⟩ = some (.slice (some ⟨b, 0, none⟩) ws.length c)
  cells : ∀ (j b c : Nat) (ws : List WV), ls[j]? = some (b, c, ws) → ∀ (i : Nat) (x : WV), ws[i]? = some x → w.cell? ⟨b, i, none⟩ = some x.val ∧ WVok w x
def lsW (ls : List (Nat × Nat × List WV)) : List WV := ls.flatMap fun x => x.2.2
theorem LS.ch {w w' : World} {q n : Nat} {ls : List (Nat × Nat × List WV)} (h : LS w q n ls) (hc : Ch [] w w') : LS w' q n ls :=
  ⟨h.len, fun j b c ws hj => (hc.cell (cell_lt (h.hd j b c ws hj)) (by simp)).trans (h.hd j b c ws hj), fun j b c ws hj i x hx => ⟨(hc.cell (cell_lt (h.cells j b c ws hj i x hx).1) (by simp)).trans (h.cells j b c ws hj i x hx).1, (h.cells j b c ws hj i x hx).2.ch hc (by simp)⟩⟩
theorem lsW_succ {ls : List (Nat × Nat × List WV)} {j : Nat} {x : Nat × Nat × List WV} (h : ls[j]? = some x) : lsW (ls.take (j + 1)) = lsW (ls.take j) ++ x.2.2 := by
  unfold lsW
  rw [List.take_add_one, h]
  simp
theorem LS.pco {w : World} {q n : Nat} {ls : List (Nat × Nat × List WV)} (h : LS w q n ls) : Pco w q (ls.map fun x => (some ⟨x.1, 0, none⟩, x.2.2.map WV.val, x.2.1)) := by
  have key : ∀ (k : Nat) (p : Option Addr) (l : List Value) (c : Nat), (ls.map fun x => ((some ⟨x.1, 0, none⟩ : Option Addr), x.2.2.map WV.val, x.2.1))[k]? = some (p, l, c) → ∃ (b : Nat) (ws : List WV), ls[k]? = some (b, c, ws) ∧ p = some ⟨b, 0, none⟩ ∧ l = ws.map WV.val := fun k p l c hk => by
    rw [List.getElem?_map] at hk
    cases hx : ls[k]? with
    | none => rw [hx] at hk; cases hk
    | some x =>
      rw [hx] at hk
      obtain ⟨b, c', ws⟩ := x
      cases hk
      exact ⟨b, ws, rfl, rfl, rfl⟩
  refine ⟨fun k p l c hk => ?_, fun k p l c hk j u hu => ?_, fun k p l c hk u hu => ?_⟩
  · obtain ⟨b, ws, e, rfl, rfl⟩ := key k p l c hk
    rw [List.length_map]; exact h.hd k b c ws e
  · obtain ⟨b, ws, e, rfl, rfl⟩ := key k p l c hk
    rw [List.getElem?_map] at hu
    cases hx : ws[j]? with
    | none => rw [hx] at hu; cases hu
    | some x =>
      rw [hx] at hu
      cases hu
      refine ⟨_, rfl, ?_⟩
      rw [Addr.add_lit, Nat.zero_add]
      exact (h.cells k b c ws e j x hx).1
  · obtain ⟨b, ws, e, rfl, rfl⟩ := key k p l c hk
    obtain ⟨x, _, rfl⟩ := List.mem_map.1 hu
    rfl
theorem pco_lsW (ls : List (Nat × Nat × List WV)) : pcoL (ls.map fun x => ((some ⟨x.1, 0, none⟩ : Option Addr), x.2.2.map WV.val, x.2.1)) = (lsW ls).map WV.val := by
  unfold pcoL lsW
  rw [List.flatMap_map, List.map_flatMap]
/-- what is known of the words up to one -/
structure PS (n0 : Nat) (R : List Int) (all P : List WV) (w : World) (ra : Option Addr) (rn rc : Nat) : Prop where
  rs : RS w ra rn rc (R ++ (P.map WV.l).flatten)
  good : ∀ x ∈ P, bad26 n0 x.l = false
theorem bad26_no {n0 : Nat} {x : List Int} (h : bad26 n0 x = false) : right26 x.length = true ∧ x.length = n0 ∧ 1 ≤ x.length ∧ x.length ≤ 16 := by
  unfold bad26 at h
  simp at h
  obtain ⟨h1, h2⟩ := h
  have h3 := h1
  unfold right26 at h3
  simp at h3
  exact ⟨h1, by omega, by omega, by omega⟩
theorem flat_le {n0 : Nat} : ∀ {P : List WV}, (∀ x ∈ P, bad26 n0 x.l = false) → ((P.map WV.l).flatten).length ≤ 16 * P.length
  | [], _ => by simp
  | x :: P, h => by
    have h1 := (bad26_no (h x (by simp))).2.2.2
    have h2 := flat_le (P := P) (fun y hy => h y (by simp [hy]))
    simp only [List.map_cons, List.flatten_cons, List.length_append, List.length_cons]
    omega
set_option maxRecDepth 100000 in
set_option maxHeartbeats 8000000 in
theorem mcheck_is (h : GIn w g G F) {q n c : Nat} {ls : List (Nat × Nat × List WV)} (hls : LS w q n ls) (hn : n ≤ 4) (h1 : 1 ≤ (lsW ls).length) (h2 : (lsW ls).length ≤ 1000)
    {ia : Option Addr} {il ic : Nat} {I : List Int} (hI : RS w ia il ic I) {ra : Option Addr} {rl rc : Nat} {R : List Int} (hR : RS w ra rl rc R) (hrl : rl ≤ 10000) (hil : il ≤ 1000)
    (hb : ∀ z ∈ I ++ R, I64' z) :
    Calls Tryz.prog 77 #[.pointer (some ⟨g, 0, none⟩), .slice ia il ic, .slice ra rl rc, .slice (some ⟨q, 0, none⟩) n c] w fun e w' => e = .returned (.int .i64 (chk26 G I R ((lsW ls).map WV.l))) ∧ Ch [] w w' := by
  have hCL := fun (W : World) (hW : Ch [] w W) => ConcatLst_is n c ((hls.ch hW).pco) (by rw [List.length_map]; exact hls.len) (by omega) (by rw [pco_lsW, List.length_map]; omega) (by rw [pco_lsW, List.length_map]; omega)
  simp only [pco_lsW, List.length_map] at hCL
  obtain ⟨x0, hx0⟩ : ∃ x, (lsW ls)[0]? = some x := ⟨_, List.getElem?_eq_getElem (by omega)⟩
  generalize hWC : chk26 G I R ((lsW ls).map WV.l) = WC
  have HWC := Lib.hid hWC; clear hWC
  have HCL := Lib.hid hCL; clear hCL
  have HLS := Lib.hid hls; clear hls
  have HI := Lib.hid hI; clear hI
  have hR0 := hR.len
  have HRR0 := Lib.hid (show R.length ≤ 10000 by omega); clear hR0
  have HRR := Lib.hid hR; clear hR
  have HB := Lib.hid hb; clear hb
  have H := Lib.hid h; clear h
  have HX0 := Lib.hid hx0; clear hx0
  go_enter Tryz.func77, Tryz.ntmps77
  go_wp2_with fail
  refine wp_scope_straight ?_
  go_upto_region 2 with fail
  refine wp_alw ?_
  intro W1 hW1
  have hbg := alw_blk (xs := [.pointer (some ⟨g, 0, none⟩)]) hW1
  have hc1 := alw_ch hW1
  clear hW1
  have HBG := Lib.hid hbg; clear hbg
  have HCC := Lib.hid (HCL.out W1 hc1)
  have HC1 := Lib.hid hc1; clear hc1 HCL
  go_wp2_with fail
  refine HCC.out.mono ?_
  rintro e w2 ⟨v, rfl, hrow, _, hc2⟩
  obtain ⟨vb, vcap, rfl⟩ := hrow.parts (by omega)
  have c0 := row_at2 hrow (k := 0) (v := x0.val) (by rw [List.getElem?_map, HX0.out]; rfl)
  have HC2 := Lib.hid (HC1.out.trans hc2 (by simp)); 
  have HBG2 := Lib.hid (HBG.out.ch hc2 (by simp)); clear hc2 hrow HCC HBG HC1
  unfold WV.val at c0
  go_wp2_with fail
  refine wp_label ?_
  go_wp2_with fail
  have hN0 : (((lsW ls).map WV.l).headD []).length = x0.l.length := by
    have := HX0.out
    cases hh : lsW ls with
    | nil => rw [hh] at this; cases this
    | cons y l => rw [hh] at this; cases this; rfl
  have hbad : ∀ x ∈ lsW ls, bad26 x0.l.length x.l = true → WC = 260 := fun x hx hb => by
    rw [← HWC.out]
    unfold chk26
    rw [hN0, if_pos (List.any_eq_true.2 ⟨x.l, List.mem_map.2 ⟨x, hx, rfl⟩, hb⟩)]
  have hgood : (∀ x ∈ lsW ls, bad26 x0.l.length x.l = false) → WC = if badIn G (R ++ ((lsW ls).map WV.l).flatten ++ I) then 200 else 0 := fun hg => by
    rw [← HWC.out]
    unfold chk26
    rw [hN0, if_neg (by
      rw [Bool.not_eq_true, List.any_eq_false]
      intro z hz
      obtain ⟨x, hx, rfl⟩ := List.mem_map.1 hz
      rw [hg x hx]; simp)]
  clear hN0
  have HBAD := Lib.hid hbad; clear hbad
  have HGOOD := Lib.hid hgood; clear hgood
  generalize hn0 : x0.l.length = n0 at *
  clear hn0 HX0 c0
  go_loopw [2, 9, 22] (fun r e i wr => e = .int .i64 0 ∧ ∃ (j : Nat) (ra : Option Addr) (rn rc : Nat), j ≤ n ∧ i = .int .i64 j ∧ r = .slice ra rn rc ∧ Ch [] w wr ∧ blk wr w.heap.size [.pointer (some ⟨g, 0, none⟩)] ∧ PS n0 R (lsW ls) (lsW (ls.take j)) wr ra rn rc) (fun _ _ i _ => n - (intOf i).toNat)
  case atStart => exact ⟨rfl, 0, ra, rl, rc, by omega, rfl, rfl, HC2.out, HBG2.out, by simpa [lsW] using HRR.out.ch HC2.out, by simp [lsW]⟩
  case round =>
    obtain ⟨rfl, j, ra, rn, rc, hj, rfl, rfl, hc, hbg, hps⟩ := hrel
    clear HC2 HBG2 HRR
    by_cases hlt : j < n
    · obtain ⟨⟨lb, lc, ws⟩, hl⟩ : ∃ x, ls[j]? = some x := ⟨_, List.getElem?_eq_getElem (by rw [HLS.out.len]; exact hlt)⟩
      have hsu := lsW_succ hl
      simp only at hsu
      have c0 := (HLS.out.ch hc).hd j lb lc ws hl
      have hpre : ∀ x ∈ ws, x ∈ lsW ls := fun x hx => List.mem_flatMap.2 ⟨_, List.mem_of_getElem? hl, hx⟩
      have hcnt : (lsW (ls.take j)).length + ws.length ≤ 1000 := by
        have : (lsW (ls.take (j + 1))).length ≤ (lsW ls).length := by
          have e : lsW ls = lsW (ls.take (j + 1)) ++ lsW (ls.drop (j + 1)) := by unfold lsW; rw [← List.flatMap_append, List.take_append_drop]
          rw [e, List.length_append]; omega
        rw [hsu, List.length_append] at this
        omega
      have HSU := Lib.hid hsu; clear hsu
      have HPRE := Lib.hid hpre; clear hpre
      have HC := Lib.hid hc; clear hc
      have HBG := Lib.hid hbg; clear hbg
      have HPS := Lib.hid hps; clear hps
      have HL := Lib.hid hl; clear hl
      go_wp2_with fail
      go_loopw [2, 9, 28] (fun r e i wr' => e = .int .i64 0 ∧ ∃ (k : Nat) (ra : Option Addr) (rn rc : Nat), k ≤ ws.length ∧ i = .int .i64 k ∧ r = .slice ra rn rc ∧ Ch [] w wr' ∧ blk wr' w.heap.size [.pointer (some ⟨g, 0, none⟩)] ∧ PS n0 R (lsW ls) (lsW (ls.take j) ++ ws.take k) wr' ra rn rc) (fun _ _ i _ => ws.length - (intOf i).toNat)
      case atStart => exact ⟨rfl, 0, ra, rn, rc, by omega, rfl, rfl, HC.out, HBG.out, by simpa using HPS.out⟩
      case round =>
        clear HC HBG HPS c0
        obtain ⟨rfl, k, ra, rn, rc, hk, rfl, rfl, hc, hbg, hps⟩ := hrel
        by_cases hlt2 : k < ws.length
        · obtain ⟨x, hx⟩ : ∃ x, ws[k]? = some x := ⟨_, List.getElem?_eq_getElem hlt2⟩
          obtain ⟨c0, hxo⟩ := (HLS.out.ch hc).cells j lb lc ws HL.out k x hx
          have hxl := hxo.len
          have hmem := HPRE.out x (List.mem_of_getElem? hx)
          unfold WV.val at c0
          have HR := fun W => mright_is (w := W) x.l.length
          have hrl' := hps.rs.len
          have hle := hps.rs.le
          have hrm := hps.rs.max
          by_cases hbx : bad26 n0 x.l = true
          · have hwc := HBAD.out x hmem hbx
            unfold bad26 at hbx
            have HWC2 := Lib.hid hwc; clear hwc
            have HC := Lib.hid hc; clear hc
            clear hps hbg hmem hxo
            cases hr : right26 x.l.length
            · simp only [hr] at HR
              have HR := Lib.hid HR
              clear hbx hr
              go_wp2_with fail
              refine (HR.out _).mono ?_
              rintro e w' ⟨rfl, rfl⟩
              go_wp2_with fail
              rw [Exit.noGoto_ret]
              go_ret
              exact ⟨by rw [HWC2.out]; rfl, HC.out⟩
            · simp only [hr] at HR
              have HR := Lib.hid HR
              rw [hr] at hbx
              have hq : ((x.l.length : Int) != (n0 : Int)) = true := by simpa using hbx
              clear hbx hr
              go_wp2_with fail
              refine (HR.out _).mono ?_
              rintro e w' ⟨rfl, rfl⟩
              go_wp2_with fail
              rw [Exit.noGoto_ret]
              go_ret
              exact ⟨by rw [HWC2.out]; rfl, HC.out⟩
          · have hb0 : bad26 n0 x.l = false := by simpa using hbx
            obtain ⟨b1, b2, b3, b4⟩ := bad26_no hb0
            simp only [b1] at HR
            have hq : ((x.l.length : Int) != (n0 : Int)) = false := by rw [b2]; simp
            obtain ⟨xb, xo, hxa, hxc⟩ := hxo.sl.at (by omega)
            have hfl := flat_le hps.good
            have hpl : (lsW (ls.take j) ++ ws.take k).length ≤ 1000 := by rw [List.length_append, List.length_take]; omega
            have hrnb : rn ≤ 26000 := by
              have h9 := hps.rs.len
              rw [List.length_append] at h9
              have h8 := HRR0.out
              omega
            obtain ⟨xa, xl, xc⟩ := x
            simp only at hxa hxc hxl hb0 b1 b2 b3 b4 hq c0 HR hfl hpl
            have HR := Lib.hid HR
            subst hxa
            have HPS := Lib.hid hps; clear hps
            have HC := Lib.hid hc; clear hc
            have HBG := Lib.hid hbg; clear hbg
            have HX := Lib.hid hx; clear hx
            have hnews : ∀ (i : Nat) (u : Value), (intCells xl)[i]? = some u → wr.cell? ((⟨xb, xo, none⟩ : Addr).add i) = some u := fun i u hu => by
              unfold intCells at hu
              rw [List.getElem?_map] at hu
              cases hz : xl[i]? with
              | none => rw [hz] at hu; cases hu
              | some z =>
                rw [hz] at hu
                cases hu
                rw [Addr.add_lit]
                exact hxc i z hz
            have HNW := Lib.hid hnews; clear hnews hxc
            have HB0 := Lib.hid hb0; clear hb0
            have B2 := Lib.hid b2; clear b2 b1 hbx hmem hxo
            go_wp2_with fail
            refine (HR.out _).mono ?_
            rintro e w' ⟨rfl, rfl⟩
            clear HR
            have hol : (intCells (R ++ ((lsW (ls.take j) ++ ws.take k).map WV.l).flatten)).length = rn * 1 := by rw [Nat.mul_one]; unfold intCells; rw [List.length_map]; exact HPS.out.rs.len
            have HOL := Lib.hid hol; clear hol
            have hzr : ra = none → rn = 0 := fun e => by subst e; exact HPS.out.rs.zero
            have HZR := Lib.hid hzr; clear hzr
            go_wp2_with (at_builtin; go_loud (refine wpList_append_copy slRefs rfl _ _ rfl (ra := ra) (n := rn) (olds := intCells (R ++ ((lsW (ls.take j) ++ ws.take k).map WV.l).flatten)) rfl HOL.out HPS.out.rs.cells HZR.out (ad := ⟨xb, xo, none⟩) (m := xl.length) (c := xc) (news := intCells xl) (by omega) rfl (by simp [intCells]) HNW.out (by intro u hu; obtain ⟨r, _, rfl⟩ := List.mem_map.1 hu; rfl) (by omega) (by omega) ?_; intro v' w5 hrow5 hc5 _; obtain ⟨va, vc, rfl⟩ := row.shape hrow5; have HROW5 := Lib.hid hrow5; clear hrow5; have HC5 := Lib.hid hc5; clear hc5))
            go_roundw
            case rel =>
              have hps := HPS.out
              have hrow5 := HROW5.out
              have e1 : intCells (R ++ ((lsW (ls.take j) ++ ws.take k).map WV.l).flatten) ++ intCells xl = intCells (R ++ ((lsW (ls.take j) ++ ws.take (k + 1)).map WV.l).flatten) := by
                rw [List.take_add_one, HX.out]
                simp [intCells]
              rw [e1] at hrow5
              refine ⟨rfl, k + 1, va, rn + xl.length, vc, by omega, by go_num, rfl, HC.out.trans HC5.out (by simp), HBG.out.ch HC5.out (by simp), ⟨?_, row.cap hrow5, fun i u hu => ?_, by omega⟩, fun z hz => ?_⟩
              · have h9 := hrow5.1
                rw [Nat.mul_one] at h9
                unfold intCells at h9
                rw [List.length_map] at h9
                exact h9
              · obtain ⟨vb', vc', e⟩ := hrow5.parts (by omega)
                cases e
                exact ⟨_, rfl, by rw [Addr.add_lit, Nat.zero_add]; exact row_at2 hrow5 hu⟩
              · rw [List.take_add_one, HX.out] at hz
                rcases List.mem_append.1 hz with hz | hz
                · exact hps.good z (List.mem_append_left _ hz)
                · rcases List.mem_append.1 hz with hz | hz
                  · exact hps.good z (List.mem_append_right _ hz)
                  · simp at hz
                    subst hz
                    exact HB0.out
            case measure => simp [intOf]; omega
        · have hkn : ws.take k = ws := List.take_of_length_le (by omega)
          rw [hkn] at hps
          have HPS := Lib.hid hps; clear hps hkn
          have HC := Lib.hid hc; clear hc
          have HBG := Lib.hid hbg; clear hbg
          go_wp2_with fail
          go_roundw
          case rel => exact ⟨rfl, j + 1, ra, rn, rc, by omega, by go_num, rfl, HC.out, HBG.out, by rw [HSU.out]; exact HPS.out⟩
          case measure => simp [intOf]; omega
    · have hjn : ls.take j = ls := List.take_of_length_le (by rw [HLS.out.len]; omega)
      rw [hjn] at hps
      have hwc := HGOOD.out hps.good
      have hlen := hps.rs.len
      have hle := hps.rs.le
      have hrb : rn ≤ 26000 := by
        have h8 := HRR0.out
        have h7 := flat_le hps.good
        have h6 := hlen
        rw [List.length_append] at h6
        omega
      have hbd : ∀ r ∈ R ++ ((lsW ls).map WV.l).flatten, r ≤ 9223372036854775807 := fun r hr => by
        rcases List.mem_append.1 hr with hr | hr
        · exact (HB.out r (List.mem_append_right _ hr)).2
        · obtain ⟨l, hl, hrl⟩ := List.mem_flatten.1 hr
          obtain ⟨x, hx, rfl⟩ := List.mem_map.1 hl
          obtain ⟨y, hy, hxy⟩ := List.mem_flatMap.1 hx
          obtain ⟨jj, hjj⟩ := List.getElem?_of_mem hy
          obtain ⟨b, c', ws⟩ := y
          obtain ⟨ii, hii⟩ := List.getElem?_of_mem hxy
          exact ((HLS.out.cells jj b c' ws hjj ii x hii).2.bd r hrl).2
      have HRB := Lib.hid hrb; clear hrb
      have HBD := Lib.hid hbd; clear hbd
      have HPS := Lib.hid hps; clear hps hjn
      have HC := Lib.hid hc; clear hc
      have c_g := hbg.cell (i := 0) rfl
      have HBG := Lib.hid hbg; clear hbg
      have HWC2 := Lib.hid hwc; clear hwc
      go_wp2_with fail
      refine calls_named fun W6 hW6 => ?_
      have hb6 := alw_blk (xs := [.slice ra rn rc, .slice ia il ic]) hW6
      have hc6 := alw_ch hW6
      clear hW6
      generalize hAA : R ++ ((lsW ls).map WV.l).flatten = AA at *
      have hil2 := HI.out.len
      have hpos : 1 ≤ AA.length := by
        obtain ⟨y, hy⟩ : ∃ y, (lsW ls)[0]? = some y := ⟨_, List.getElem?_eq_getElem (by omega)⟩
        have hm := List.mem_of_getElem? hy
        have h3 := (bad26_no (HPS.out.good y hm)).2.2.1
        have h4 := (List.sublist_flatten_of_mem (List.mem_map.2 ⟨y, hm, rfl⟩ : y.l ∈ (lsW ls).map WV.l)).length_le
        rw [← hAA, List.length_append]
        omega
      have hrs := HPS.out.rs
      rw [hAA] at hrs
      have hP : Pco W6 wr.heap.size [(ra, intCells AA, rc), (ia, intCells I, ic)] := by
        have e1 : (intCells AA).length = rn := by rw [show (intCells AA).length = AA.length by simp [intCells]]; exact hrs.len
        have e2 : (intCells I).length = il := by rw [show (intCells I).length = I.length by simp [intCells]]; exact hil2
        have o1 : ∀ (l : List Int), ∀ u ∈ intCells l, u.oneCell' = true := fun l u hu => by obtain ⟨r, _, rfl⟩ := List.mem_map.1 hu; rfl
        refine ⟨fun k p l c hk => ?_, fun k p l c hk => ?_, fun k p l c hk => ?_⟩ <;> rcases k with _ | _ | k
        · cases hk; rw [e1]; exact hb6.cell rfl
        · cases hk; rw [e2]; exact hb6.cell rfl
        · simp at hk
        · cases hk; exact (hrs.ch hc6).cells
        · cases hk; exact ((HI.out.ch HC.out).ch hc6).cells
        · simp at hk
        · cases hk; exact o1 _
        · cases hk; exact o1 _
        · simp at hk
      have hall : pcoL [(ra, intCells AA, rc), (ia, intCells I, ic)] = intCells (AA ++ I) := by simp [pcoL, intCells]
      have hmx := hrs.max
      have hal : (intCells (AA ++ I)).length = rn + il := by simp [intCells, hrs.len, hil2]
      have hCC := ConcatRef_is 2 2 hP rfl (by omega) (by rw [hall, hal]; have := hrs.len; omega) (by rw [hall, hal]; have := HRB.out; omega)
      rw [hall, hal] at hCC
      refine hCC.mono ?_
      rintro e W7 ⟨v, rfl, hrow, _, hc7⟩
      obtain ⟨va, vc, rfl⟩ := row.shape hrow
      have hSl : Sl W7 va (AA ++ I) := Sl.of_ints hrow (by have := HRB.out; omega)
      have hgin := H.out.same (HC.out.trans (hc6.trans hc7 (by simp)) (by simp)) (by simp)
      have hbg7 := (HBG.out.ch hc6 (by simp)).ch hc7 (by simp)
      have hCF := CFref_is (w := W7) vc 125 #[.pointer (some ⟨w.heap.size, 0, none⟩)] (fun r => !right G.nodes r) hSl (fun r hr => mcheck1_is hgin (hbg7.cell (i := 0) rfl) r (by
        rcases List.mem_append.1 hr with hr | hr
        · exact HBD.out r hr
        · exact (HB.out r (List.mem_append_left _ hr)).2)) fnvmcheck1
      have hlx : (AA ++ I).length = rn + il := by rw [List.length_append, hrs.len, hil2]
      rw [hlx] at hCF
      have e9 : (AA ++ I).any (fun r => !right G.nodes r) = badIn G (AA ++ I) := rfl
      rw [e9] at hCF
      have HCC := Lib.hid ((HC.out.trans hc6 (by simp)).trans hc7 (by simp))
      have HCF := Lib.hid hCF; clear hCF
      clear hrow hSl hgin hbg7 hc6 hc7 hP hb6 hCC c_g
      cases hb : badIn G (AA ++ I)
      · rw [hb] at HWC2 HCF
        have HCF := Lib.hid HCF.out
        go_wp2_with fail
        refine HCF.out.mono ?_
        rintro e w9 ⟨rfl, rfl⟩
        go_wp2_with fail
        rw [Exit.noGoto_ret]
        go_ret
        exact ⟨by rw [HWC2.out]; rfl, HCC.out⟩
      · rw [hb] at HWC2 HCF
        have HCF := Lib.hid HCF.out
        go_wp2_with fail
        refine HCF.out.mono ?_
        rintro e w9 ⟨rfl, rfl⟩
        go_wp2_with fail
        rw [Exit.noGoto_ret]
        go_ret
        exact ⟨by rw [HWC2.out]; rfl, HCC.out⟩
end
end Go.Proofs.YtdmmanfjafempaaGreat
namespace Go.Aig
def fitG (n bits : Int) : Nat × Nat := if array26 n = false then (0, 261) else if right26 bits = false then (0, 260) else (fitN n.toNat bits.toNat, 0)
def chooseG (G : Gra) (c : Int) (x y : List Int) : Gra × List Nat × Nat := if chk26 G [] [c] [x, y] ≠ 0 then (G, [], chk26 G [] [c] [x, y]) else wres G (chF c.toNat (G, 0) ((nats x).zip (nats y)))
def isG (G : Gra) (y : List Int) (n : Nat) : Res := if chk26 G [] [] [y] ≠ 0 then (G, 0, chk26 G [] [] [y]) else rres G (isR (G, 0) (nats y) y.length n)
theorem badIn_app {G : Gra} {x y : List Int} : badIn G (x ++ y) = (badIn G x || badIn G y) := by unfold badIn; rw [List.any_append]
structure Chk26 (G : Gra) (idx refs : List Int) (n0 : Nat) (ws : List (List Int)) : Prop where
  wds : ∀ x ∈ ws, WOf G n0 x
  r1 : ws ≠ [] → 1 ≤ n0
  r2 : ws ≠ [] → n0 ≤ 16
  ix : WOf G idx.length idx
  rf : WOf G refs.length refs
theorem wof_of {G : Gra} {x : List Int} (h : badIn G x = false) : WOf G x.length x := by
  obtain ⟨h1, h2⟩ := badIn_no h
  exact ⟨rfl, h1, h2⟩
theorem chk26_ok {G : Gra} {idx refs : List Int} {ws : List (List Int)} (h : chk26 G idx refs ws = 0) : Chk26 G idx refs (ws.headD []).length ws := by
  unfold chk26 at h
  split at h
  · cases h
  · rename_i h1
    split at h
    · cases h
    · rename_i h2
      have h2 : badIn G (refs ++ ws.flatten ++ idx) = false := by simpa using h2
      rw [badIn_app, badIn_app, Bool.or_eq_false_iff, Bool.or_eq_false_iff] at h2
      obtain ⟨⟨h3, h4⟩, h5⟩ := h2
      have h6 : ∀ x ∈ ws, bad26 (ws.headD []).length x = false := fun x hx => by
        have := List.any_eq_false.1 (by simpa using h1) x hx
        simpa using this
      have h7 : ∀ x ∈ ws, badIn G x = false := fun x hx => by
        unfold badIn at h4 ⊢
        rw [List.any_eq_false] at h4 ⊢
        exact fun r hr => h4 r (List.mem_flatten.2 ⟨x, hx, hr⟩)
      refine ⟨fun x hx => ?_, fun hne => ?_, fun hne => ?_, wof_of h5, wof_of h3⟩
      · have h8 := wof_of (h7 x hx)
        exact ⟨(Go.Proofs.YtdmmanfjafempaaGreat.bad26_no (h6 x hx)).2.1, h8.cast, h8.lt⟩
      · cases ws with
        | nil => exact absurd rfl hne
        | cons x ws => exact (Go.Proofs.YtdmmanfjafempaaGreat.bad26_no (h6 x (by simp))).2.2.1
      · cases ws with
        | nil => exact absurd rfl hne
        | cons x ws => exact (Go.Proofs.YtdmmanfjafempaaGreat.bad26_no (h6 x (by simp))).2.2.2
theorem chk26_lt (G : Gra) (idx refs : List Int) (ws : List (List Int)) : chk26 G idx refs ws ≤ 260 := by unfold chk26; split; omega; split <;> omega
end Go.Aig
namespace Go.Proofs.YtdmmanfjafempaaGreat
open Go.RowKit Go.Mem Go.Aig
/-- a word that a closure made -/
def PostW (w : World) (l : List Nat) (v : Value) (F' : List Nat) (w' : World) : Prop := row w' 41 1 v l.length (refsCells l) ∧ ∀ k, v.ownBlock = some k → w.heap.size ≤ k ∧ k ∉ F'
theorem RW.post {w W : World} {g m : Nat} {G : Gra} {F : List Nat} {S : Mk × List Nat} {v : Value} {W' : World} (h : RW W g m G F S v W') (hc : Ch [] w W) : ∃ P F', Sim G P S.1 ∧ MIn W' g m P F' ∧ Ch (m :: F) W W' ∧ (∀ k ∈ F', k ∈ F ∨ W.heap.size ≤ k) ∧ F'[2]? = F[2]? ∧ (S.1.2 = 0 → PostW w S.2 v F' W') := by
  obtain ⟨P, l, hs, ho, F', k1, k2, k3, k4, k5, k6⟩ := h
  refine ⟨P, F', hs, k1, k2, k3, k4, fun h0 => ?_⟩
  have e := ho h0
  subst e
  exact ⟨k5, fun k hk => ⟨Nat.le_trans hc.size (k6 k hk).1, (k6 k hk).2.1⟩⟩
theorem MB.gvo {w w1 w' : World} {g : Nat} {G : Gra} {F : List Nat} {S : Mk × List Nat} {v : Value} (hc : Ch [] w w1) (h : MB w1 g G F S.1 (PostW w1 S.2) mzW v w') : GVo w g (wres G S).1 [] F v (wres G S).2.1 w' := by
  obtain ⟨F', k1, k2, k3, k4, k5, k6⟩ := h
  refine GVo.since hc ?_
  unfold wres
  by_cases h0 : S.1.2 = 0
  · rw [if_pos h0] at k1
    rw [if_neg (by simp [h0])]
    exact ⟨F', k1, by simpa using k2, k3, k4, (k5 h0).1, (k5 h0).2⟩
  · rw [if_neg h0] at k1
    rw [if_pos h0, k6 h0]
    exact GVo.nil k1 (by simpa using k2) k3 k4
theorem wres_e (G : Gra) (S : Mk × List Nat) : (wres G S).2.2 = S.1.2 := by
  unfold wres
  by_cases h0 : S.1.2 = 0
  · rw [if_neg (by simp [h0])]; exact h0.symm
  · rw [if_pos h0]
theorem CH.rw {w : World} {g m : Nat} {G : Gra} {P : Mk} {F : List Nat} {S : Mk × List Nat} {n : Nat} {v : Value} {w' : World} (h : CH w g m G P F S n v w') : RW w g m G F S v w' := by
  obtain ⟨P', l, h1, h2, _, _, _, h6⟩ := h
  exact ⟨P', l, h1, h2, h6⟩
section
variable {w : World} {g m : Nat} {G : Gra} {F : List Nat}
set_option maxRecDepth 100000 in
set_option maxHeartbeats 2000000 in
theorem mFit_is [Nonempty Unit] (n bits : Int) : Calls Tryz.prog 39 #[.int .i64 n, .int .i64 bits] w fun e w' => e = .returned (.tuple #[.int .i64 (fitG n bits).1, .int .i64 (fitG n bits).2]) ∧ w = w' := by
  have HA := marray_is (w := w) n
  have HR := mright_is (w := w) bits
  unfold fitG
  cases ha : array26 n
  · rw [ha] at HA
    clear HR
    simp only [if_true]
    go_enter Tryz.func39, Tryz.ntmps39
    go_wp2_with fail
    refine HA.mono ?_
    rintro e w' ⟨rfl, rfl⟩
    go_wp2_with fail
    go_ret2
    exact ⟨rfl, rfl⟩
  · rw [ha] at HA
    cases hr : right26 bits
    · rw [hr] at HR
      simp only [Bool.true_eq_false, if_false, if_true]
      go_enter Tryz.func39, Tryz.ntmps39
      go_wp2_with fail
      refine HA.mono ?_
      rintro e w' ⟨rfl, rfl⟩
      go_wp2_with fail
      refine HR.mono ?_
      rintro e w' ⟨rfl, rfl⟩
      go_wp2_with fail
      go_ret2
      exact ⟨rfl, rfl⟩
    · rw [hr] at HR
      obtain ⟨n', rfl, hn⟩ : ∃ n' : Nat, n = n' ∧ n' ≤ 256 := by
        unfold array26 at ha; simp at ha; exact ⟨n.toNat, by omega, by omega⟩
      obtain ⟨b', rfl, hb⟩ : ∃ b' : Nat, bits = b' ∧ b' ≤ 16 := by
        unfold right26 at hr; simp at hr; exact ⟨bits.toNat, by omega, by omega⟩
      have HF := mfit_is (w := w) n' b' hb (by omega)
      simp only [Bool.true_eq_false, if_false, Int.toNat_natCast]
      generalize fitN n' b' = k at *
      clear ha hr
      go_enter Tryz.func39, Tryz.ntmps39
      go_wp2_with fail
      refine HA.mono ?_
      rintro e w' ⟨rfl, rfl⟩
      go_wp2_with fail
      refine HR.mono ?_
      rintro e w' ⟨rfl, rfl⟩
      go_wp2_with fail
      refine HF.mono ?_
      rintro e w' ⟨rfl, rfl⟩
      go_wp2_with fail
      go_ret2
      exact ⟨rfl, rfl⟩
theorem fnvmChoose1 : Fnv 98 := fnv_of Tryz.func98 (by simp [Tryz.f98]) (by simp [Tryz.f98])
set_option maxRecDepth 100000 in
set_option maxHeartbeats 2000000 in
theorem mChoose1_is {m bc bx b2 c n xc yc : Nat} {xa ya : Option Addr} {Rs : Value → World → Prop} (hC : Calls Tryz.prog 82 #[.pointer (some ⟨m, 0, none⟩), .int .i64 c, .slice xa n xc, .slice ya n yc] w fun e w' => ∃ v, e = .returned v ∧ Rs v w')
    (c1 : w.cell? ⟨bc, 0, none⟩ = some (.int .i64 c)) (c2 : w.cell? ⟨bx, 0, none⟩ = some (.slice xa n xc)) (c3 : w.cell? ⟨b2, 0, none⟩ = some (.slice ya n yc)) :
    Calls Tryz.prog 98 (#[.pointer (some ⟨m, 0, none⟩)] ++ #[.pointer (some ⟨bc, 0, none⟩), .pointer (some ⟨bx, 0, none⟩), .pointer (some ⟨b2, 0, none⟩)]) w fun e w' => ∃ v, e = .returned v ∧ Rs v w' := by
  show Calls Tryz.prog 98 #[.pointer (some ⟨m, 0, none⟩), .pointer (some ⟨bc, 0, none⟩), .pointer (some ⟨bx, 0, none⟩), .pointer (some ⟨b2, 0, none⟩)] w _
  go_enter Tryz.func98, Tryz.ntmps98
  go_wp2_with fail
  refine hC.mono ?_
  rintro e w1 ⟨v, rfl, h⟩
  go_wp2_with fail
  go_ret
  exact ⟨_, rfl, h⟩
end
end Go.Proofs.YtdmmanfjafempaaGreat
