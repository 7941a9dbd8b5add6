/-
  What the functions of sums make, plainly: right graphs, references of them. No program in sight. Conditions: none beyond the hypotheses.
  Walks over the exported functions of sums: sums, negations, comparisons. Conditions: a graph in memory, words of any integers.
  Walks over the exported functions of sums: Eq, Le, Neg, Not, Any, Input. Conditions: a graph in memory, words of any integers.
  Walks over bitword: bits of words. Conditions: numbers in range.
  Walks over Const, Cast, Value, Input of sums, and the library's Clone of any word. Conditions: numbers in range.
  Walks over Cast, Value, Input of sums. Conditions: numbers in range, a graph in memory.
  Walk over the chapter's examples (awake): true. Conditions: none.
  A graph in memory with words that are held beside it: what is known along a law's walk. Conditions: none beyond the hypotheses.
  The functions of sums beside a graph and words that are held. Conditions: none beyond the hypotheses.
  Walk over the chapter's examples (awake of sums): true. Conditions: none.
  Walk over Pair of chapter 23's law: a graph with two words of new inputs. Conditions: none.
  Walks over the small functions of chapter 23's laws: Refs, Ints, Clone of truths, and the reference's Right, Const, Cast. Conditions: numbers in range.
  Walks: the reference's Cast, Equal of truths, Ints. Conditions: numbers in range.
  From a law's arguments to what the walks say: numbers, slices of numbers and of truths. Conditions: those of the given row.
  Words of many assignments at once, plainly: what the nodes of a graph are for the words of its inputs, bit by bit. No program in sight. Conditions: none beyond the hypotheses.
  Walks over small functions of the laws: words, value, pick. Conditions: slices that are read.
  Walks over Same and Begin of chapter 23's laws: two graphs that are the same, and such ones that are made. Conditions: none beyond the hypotheses.
  Walks over sim: of, nodes. Conditions: a graph in memory, as many words as inputs.
  Walks over sim: check, Words, Bits. Conditions: a graph in memory, references of any integers, words that can be read.
  Tables, plainly: the words of the inputs for 64 assignments at once, the table of what is told of the nodes, bit by bit. No program in sight. Conditions: none beyond the hypotheses.
  Counting the bits of a word, plainly: the lowest bit that is 1 goes with each step. No program in sight. Conditions: none beyond the hypotheses.
  A table's bits by their numbers, plainly: how many there are, which is the first. No program in sight. Conditions: none beyond the hypotheses.
  Tables by what is told of each assignment, plainly: how many, the first one, what parts two. No program in sight. Conditions: none beyond the hypotheses.
  Walks over sim: inputs, one. Conditions: at most 16 inputs, a block of a table of them.
  Drawn regions behind the widest fence, outside a round: calls, and rounds of a range over a function. Conditions: those of the steps.
  Walk over sim: Bits. Conditions: a graph in memory, references of any integers, values that can be read.
  Walks over the closures of made (chapter 23's law): a result is noted; what is known while results are noted. Conditions: a graph in memory, words that are held.
  What is known while results are noted (made of chapter 23's law). Conditions: none beyond the hypotheses.
  Walk over made of chapter 23's law: what each operation makes of two words. Conditions: a graph in memory, words that are held.
  What SumsAgain asks, plainly: for words of one to five bits, by evaluation. No program in sight. Conditions: none.
-/
import Derived.Test.YtkedpifopclipaaQC
import Derived.Laws.BitsAllLaws
import Derived.Test.YtkedpifopclipaaQB
import Derived.Test.YtkedpifopclipaaRows
import Derived.WalkKit
import Derived.ProofKit
import Derived.OpenShut
import Derived.ChangeOld
import Derived.Below
import Derived.Carry
import Derived.Deep.Slices
import Derived.Deep.Fields
import Derived.Laws.Bits64b
import Derived.RangeFuncCalls
import Derived.TacticsIn
namespace Go.Aig
/-- a state that is right -/
structure SOk (G : Gra) (s : Mk) : Prop where
  ok : Ok s.1
  ext : Ext G s.1
  err : s.2 = 0 ∨ s.2 = 201
theorem SOk.start {G : Gra} (h : Ok G) : SOk G (G, 0) := ⟨h, .refl _, .inl rfl⟩
theorem rstep_sok {G : Gra} {s : Mk} (h : SOk G s) {Y : Res} (hY : s.2 = 0 → RFull s.1 Y) : SOk G (rstep s Y).1 ∧ (rstep s Y).2 < 2 * (rstep s Y).1.1.nodes.length ∧ Ext s.1 (rstep s Y).1.1 := by
  have hp := h.ok.wf.pos
  by_cases h0 : s.2 = 0
  · have hF := hY h0
    by_cases h1 : Y.2.2 = 0
    · rw [rstep_ok h0 h1]
      exact ⟨⟨hF.ok.ok, h.ext.trans hF.ok.ext, .inl rfl⟩, hF.ok.lt, hF.ok.ext⟩
    · rw [rstep_no h0 h1, hF.keep h1]
      exact ⟨⟨h.ok, h.ext, .inr rfl⟩, by show 0 < 2 * s.1.nodes.length; omega, .refl _⟩
  · rw [rstep_bad h0]
    exact ⟨h, by show 0 < 2 * s.1.nodes.length; omega, .refl _⟩
/-- a state and a word that are right -/
structure LOk (G : Gra) (R : Mk × List Nat) : Prop where
  s : SOk G R.1
  lt : ∀ r ∈ R.2, r < 2 * R.1.1.nodes.length
structure VOk (G : Gra) (R : Mk × Nat) : Prop where
  s : SOk G R.1
  lt : R.2 < 2 * R.1.1.nodes.length
theorem LOk.snoc {G : Gra} {R : Mk × List Nat} (h : LOk G R) {s' : Mk} {r : Nat} (hs : SOk G s') (he : Ext R.1.1 s'.1) (hr : r < 2 * s'.1.nodes.length) : LOk G (s', R.2 ++ [r]) :=
  ⟨hs, fun q hq => by
    rcases List.mem_append.1 hq with hq | hq
    · exact he.lt (h.lt q hq)
    · rw [List.mem_singleton.1 hq]; exact hr⟩
theorem eachF_lok {G : Gra} (hG : Ok G) {f : Gra → Nat → Nat → Res} (hf : Full2 f) (l : List (Nat × Nat)) (hl : ∀ p ∈ l, p.1 < 2 * G.nodes.length ∧ p.2 < 2 * G.nodes.length) : LOk G (eachF (rop f) (G, 0) l) := by
  have : ∀ (l : List (Nat × Nat)) (q : Mk × List Nat), LOk G q → (∀ p ∈ l, p.1 < 2 * G.nodes.length ∧ p.2 < 2 * G.nodes.length) → LOk G (l.foldl (eachS (rop f)) q) := by
    intro l
    induction l with
    | nil => intro q h _; exact h
    | cons p l ih =>
      intro q h hl
      have hp := hl p (by simp)
      obtain ⟨h1, h2, h3⟩ := rstep_sok h.s (Y := f q.1.1 p.1 p.2) (fun _ => hf _ h.s.ok _ _ (h.s.ext.lt hp.1) (h.s.ext.lt hp.2))
      exact ih _ (h.snoc h1 h3 h2) (fun p hp => hl p (by simp [hp]))
  exact this l _ ⟨.start hG, by simp⟩ hl
theorem neF_vok {G : Gra} (hG : Ok G) (l : List (Nat × Nat)) (hl : ∀ p ∈ l, p.1 < 2 * G.nodes.length ∧ p.2 < 2 * G.nodes.length) : VOk G (neF (G, 0) l) := by
  have h := eachF_lok hG full_xor l hl
  obtain ⟨h1, h2, h3⟩ := rstep_sok h.s (Y := rAny (eachF (rop rXor) (G, 0) l).1.1 (eachF (rop rXor) (G, 0) l).2) (fun _ => rAny_full h.s.ok h.lt)
  exact ⟨h1, h2⟩
theorem ltF_vok {G : Gra} (hG : Ok G) (l : List (Nat × Nat)) (hl : ∀ p ∈ l, p.1 < 2 * G.nodes.length ∧ p.2 < 2 * G.nodes.length) : VOk G (ltF (G, 0) l) := by
  have : ∀ (l : List (Nat × Nat)) (q : Mk × Nat), VOk G q → (∀ p ∈ l, p.1 < 2 * G.nodes.length ∧ p.2 < 2 * G.nodes.length) → VOk G (l.foldl ltS q) := by
    intro l
    induction l with
    | nil => intro q h _; exact h
    | cons p l ih =>
      intro q h hl
      have hp := hl p (by simp)
      obtain ⟨h1, h2, h3⟩ := rstep_sok h.s (Y := rXor q.1.1 p.1 p.2) (fun _ => rXor_full h.s.ok (h.s.ext.lt hp.1) (h.s.ext.lt hp.2))
      obtain ⟨k1, k2, k3⟩ := rstep_sok h1 (Y := rMux (rstep q.1 (rXor q.1.1 p.1 p.2)).1.1 (rstep q.1 (rXor q.1.1 p.1 p.2)).2 p.2 q.2) (fun _ => rMux_full h1.ok h2 (h1.ext.lt hp.2) (h3.lt h.lt))
      exact ih _ ⟨k1, k2⟩ (fun p hp => hl p (by simp [hp]))
  exact this l _ ⟨.start hG, by have := hG.wf.pos; show 0 < 2 * G.nodes.length; omega⟩ hl
theorem inF_lok {G : Gra} (hG : Ok G) : ∀ n, LOk G (inF (G, 0) n)
  | 0 => ⟨.start hG, by intro r hr; cases hr⟩
  | n + 1 => by
    have h := inF_lok hG n
    obtain ⟨h1, h2, h3⟩ := rstep_sok h.s (Y := put (inF (G, 0) n).1.1 ⟨2, 0, 0, 0⟩) (fun _ => put_full h.s.ok)
    exact h.snoc h1 h3 h2
theorem sumF_lok {G : Gra} (hG : Ok G) (n : Nat) (l : List (Nat × Nat)) (hl : ∀ p ∈ l, p.1 < 2 * G.nodes.length ∧ p.2 < 2 * G.nodes.length) {c : Nat} (hc : c < 2 * G.nodes.length) : LOk G (sumW n (G, 0) l c) := by
  have : ∀ (l : List (Nat × Nat)) (q : Mk × List Nat × Nat), LOk G (q.1, q.2.1) → q.2.2 < 2 * q.1.1.nodes.length → (∀ p ∈ l, p.1 < 2 * G.nodes.length ∧ p.2 < 2 * G.nodes.length) → LOk G ((l.foldl (sumS n) q).1, (l.foldl (sumS n) q).2.1) := by
    intro l
    induction l with
    | nil => intro q h _ _; exact h
    | cons p l ih =>
      intro q h hq hl
      have hp := hl p (by simp)
      obtain ⟨h1, h2, h3⟩ := rstep_sok h.s (Y := rXor q.1.1 p.1 p.2) (fun _ => rXor_full h.s.ok (h.s.ext.lt hp.1) (h.s.ext.lt hp.2))
      obtain ⟨k1, k2, k3⟩ := rstep_sok h1 (Y := rXor (sXor q.1 p.1 p.2).1.1 (sXor q.1 p.1 p.2).2 q.2.2) (fun _ => rXor_full h1.ok h2 (h3.lt hq))
      have hl2 : ∀ p ∈ l, p.1 < 2 * G.nodes.length ∧ p.2 < 2 * G.nodes.length := fun p hp => hl p (by simp [hp])
      rw [List.foldl_cons]
      unfold sumS
      dsimp only
      split
      · obtain ⟨a1, a2, a3⟩ := rstep_sok k1 (Y := and (sXor (sXor q.1 p.1 p.2).1 (sXor q.1 p.1 p.2).2 q.2.2).1.1 p.1 p.2) (fun _ => and_full k1.ok (k1.ext.lt hp.1) (k1.ext.lt hp.2))
        obtain ⟨b1, b2, b3⟩ := rstep_sok a1 (Y := and (sAnd (sXor (sXor q.1 p.1 p.2).1 (sXor q.1 p.1 p.2).2 q.2.2).1 p.1 p.2).1.1 (sXor q.1 p.1 p.2).2 q.2.2) (fun _ => and_full a1.ok (a3.lt (k3.lt h2)) (a3.lt (k3.lt (h3.lt hq))))
        obtain ⟨c1, c2, c3⟩ := rstep_sok b1 (Y := rOr (sAnd (sAnd (sXor (sXor q.1 p.1 p.2).1 (sXor q.1 p.1 p.2).2 q.2.2).1 p.1 p.2).1 (sXor q.1 p.1 p.2).2 q.2.2).1.1 (sAnd (sXor (sXor q.1 p.1 p.2).1 (sXor q.1 p.1 p.2).2 q.2.2).1 p.1 p.2).2 (sAnd (sAnd (sXor (sXor q.1 p.1 p.2).1 (sXor q.1 p.1 p.2).2 q.2.2).1 p.1 p.2).1 (sXor q.1 p.1 p.2).2 q.2.2).2) (fun _ => rOr_full b1.ok (b3.lt a2) b2)
        exact ih _ (h.snoc c1 ((((h3.trans k3).trans a3).trans b3).trans c3) (((a3.trans b3).trans c3).lt k2)) c2 hl2
      · exact ih _ (h.snoc k1 (h3.trans k3) k2) (k3.lt (h3.lt hq)) hl2
  exact this l _ ⟨.start hG, by simp⟩ hc hl
/-- a result that is right -/
structure WOk (G : Gra) (R : Gra × List Nat × Nat) : Prop where
  ok : Ok R.1
  ext : Ext G R.1
  lt : ∀ r ∈ R.2.1, r < 2 * R.1.nodes.length
theorem LOk.res {G : Gra} (hG : Ok G) {R : Mk × List Nat} (h : LOk G R) : WOk G (wres G R) := by
  unfold wres
  split
  · exact ⟨hG, .refl _, by simp⟩
  · exact ⟨h.s.ok, h.s.ext, h.lt⟩
theorem VOk.res {G : Gra} (hG : Ok G) {R : Mk × Nat} (h : VOk G R) : Ok (rres G R).1 ∧ Ext G (rres G R).1 ∧ (rres G R).2.1 < 2 * (rres G R).1.nodes.length := by
  have := hG.wf.pos
  unfold rres
  split
  · exact ⟨hG, .refl _, by show 0 < 2 * G.nodes.length; omega⟩
  · exact ⟨h.s.ok, h.s.ext, h.lt⟩
theorem wordG_ok {G : Gra} (hG : Ok G) {ws : List (List Int)} {R : Mk × List Nat} (h : chk G ws = 0 → LOk G R) : WOk G (wordG G ws R) := by
  unfold wordG
  split
  · exact ⟨hG, .refl _, by simp⟩
  · rename_i hc
    exact (h (by simpa using hc)).res hG
theorem refG_ok {G : Gra} (hG : Ok G) {ws : List (List Int)} {R : Mk × Nat} (h : chk G ws = 0 → VOk G R) : Ok (refG G ws R).1 ∧ Ext G (refG G ws R).1 ∧ (refG G ws R).2.1 < 2 * (refG G ws R).1.nodes.length := by
  have := hG.wf.pos
  unfold refG
  split
  · exact ⟨hG, .refl _, by show 0 < 2 * G.nodes.length; omega⟩
  · rename_i hc
    exact (h (by simpa using hc)).res hG
theorem chk_zip {G : Gra} {x y : List Int} (h : chk G [x, y] = 0) : ∀ p ∈ (nats x).zip (nats y), p.1 < 2 * G.nodes.length ∧ p.2 < 2 * G.nodes.length :=
  zip_lt (chk_ok h x (by simp)).lt (chk_ok h y (by simp)).lt
theorem Ok.small {G : Gra} (h : Ok G) : 2 * G.nodes.length ≤ 131072 := by have := h.room; have := h.most; omega
/-- the negation of what is made -/
def negG (R : Res) : Res := if R.2.2 ≠ 0 then (R.1, 0, R.2.2) else (R.1, neg R.2.1, 0)
end Go.Aig
namespace Go.Proofs.Ytkedpifopclipaa
open Go.RowKit Go.Mem Go.Aig
section
variable {w : World} {g : Nat} {G : Gra} {F : List Nat}
set_option maxRecDepth 100000 in
set_option maxHeartbeats 2000000 in
theorem sturned_is {a : Option Addr} {l : List Nat} (n cap : Nat) (hn : l.length = n) (hm : n ≤ 1000000) (h : Sl w a (l.map fun (r : Nat) => (r : Int))) (hs : ∀ r ∈ l, r ≤ 1000000) : Calls Try.prog 209 #[.slice a n cap] w fun e w' => ∃ v, e = .returned v ∧ row w' 45 1 v n (refsCells (l.map neg)) ∧ (∀ q ∈ v.ownBlock.toList, w.heap.size ≤ q) ∧ Ch [] w w' := by
  subst hn
  have H := Lib.hid h; clear h
  go_enter Try.func209, Try.ntmps209
  go_wp2_with fail
  go_loopw [3, 8] (fun o i wr => ∃ k : Nat, k ≤ l.length ∧ i = .int .i64 k ∧ Ch [] w wr ∧ row wr 45 1 o k (refsCells ((l.take k).map neg)) ∧ ∀ q ∈ o.ownBlock.toList, w.heap.size ≤ q) (fun _ i _ => l.length - (intOf i).toNat)
  case atStart => exact ⟨0, by omega, rfl, Ch.refl _ _, ⟨rfl, .inl ⟨rfl, rfl⟩⟩, by simp⟩
  case round =>
    obtain ⟨k, hk, rfl, hc, hrow, hlo⟩ := hrel
    obtain ⟨oa, oc, rfl⟩ := row.shape hrow
    by_cases hlt : k < l.length
    · obtain ⟨x, hx⟩ : ∃ x, l[k]? = some x := ⟨_, List.getElem?_eq_getElem hlt⟩
      have hsu : refsCells ((l.take (k + 1)).map neg) = refsCells ((l.take k).map neg) ++ [.int .i64 (neg x)] := by unfold refsCells; rw [List.take_add_one, hx]; simp
      obtain ⟨xb, xo, rfl, hcl⟩ := H.out.cells k x (by simp [hx])
      have c0 := (hc.cell (cell_lt hcl) (by simp)).trans hcl
      have HN := Not_any x wr (hs x (List.mem_of_getElem? hx))
      have HSU := Lib.hid hsu; clear hsu hx hcl
      have hcA : Ch [] wr (wr.alloc (.cells #[.int .i64 (neg x)] 45)) := (Ch.refl _ _).alloc _
      have hrA := hrow.ch hcA (by simp)
      have hbA : blk (wr.alloc (.cells #[.int .i64 (neg x)] 45)) wr.heap.size [.int .i64 (neg x)] := blk.new' _ _ rfl
      have HRA := Lib.hid hrA; clear hrA hrow
      have HBA := Lib.hid hbA; clear hbA
      have HCA := Lib.hid hcA; clear hcA
      have HC := Lib.hid hc; clear hc
      have HLO := Lib.hid hlo; clear hlo
      go_wp2_with fail
      refine HN.mono ?_
      rintro e w2 ⟨rfl, rfl⟩
      go_wp2_with (at_builtin; go_loud (refine wpList_append_row slRefs rfl _ _ rfl (v := .slice oa k oc) (n := k) (xs := refsCells ((l.take k).map neg)) rfl HRA.out (ad := ⟨wr.heap.size, 0, none⟩) (m := 1) (c := 1) (news := [.int .i64 (neg x)]) rfl rfl (news_blk HBA.out) (by simp [Value.oneCell']) (by omega) (by omega) ?_; intro v' w4 hown4 hC4 hf4; have HO4 := Lib.hid hown4; clear hown4; have HC4 := Lib.hid hC4; clear hC4; have HF4 := Lib.hid hf4; clear hf4))
      go_roundw
      case rel =>
        obtain ⟨q1, q2⟩ := app_step HC.out HCA.out HLO.out HC4.out HF4.out
        refine ⟨k + 1, by omega, by go_num, q1, ?_, q2⟩
        rw [HSU.out]; exact HO4.out
      case measure => simp [intOf]; omega
    · have hkn : k = l.length := by omega
      rw [hkn, List.take_of_length_le (Nat.le_refl _)] at hrow
      rw [hkn] at hlo
      rw [hkn]
      have HROW := Lib.hid hrow; clear hrow
      have HLO := Lib.hid hlo; clear hlo
      have HC := Lib.hid hc; clear hc hkn
      go_wp2_with fail
      go_ret
      exact ⟨.slice oa l.length oc, rfl, HROW.out, HLO.out, HC.out⟩
set_option maxRecDepth 100000 in
set_option maxHeartbeats 2000000 in
theorem ssum_is (h : GIn w g G F) {x y : List Nat} {xa ya : Option Addr} {c0 : Nat} (len xc yc : Nat) (hxl : x.length = len) (hyl : y.length = len) (hlen : len ≤ 1000) (hc0 : c0 < 2 * G.nodes.length)
    (hx : Sl w xa (x.map fun (r : Nat) => (r : Int))) (hy : Sl w ya (y.map fun (r : Nat) => (r : Int))) (hxa : ∀ k ∈ ablk xa, k ∉ F ∧ k < w.heap.size) (hya : ∀ k ∈ ablk ya, k ∉ F ∧ k < w.heap.size) (hxr : ∀ r ∈ x, r < 2 * G.nodes.length) (hyr : ∀ r ∈ y, r < 2 * G.nodes.length) :
    Calls Try.prog 132 #[.pointer (some ⟨g, 0, none⟩), .slice xa len xc, .slice ya len yc, .int .i64 c0] w fun e w' => ∃ v, e = .returned (.tuple #[v, .int .i64 (wres G (sumW len (G, 0) (x.zip y) c0)).2.2]) ∧ GVo w g (wres G (sumW len (G, 0) (x.zip y) c0)).1 [] F v (wres G (sumW len (G, 0) (x.zip y) c0)).2.1 w' := by
  have hFl := h.lt
  have hB : ∀ W, Ch [] w W → W.heap.size = w.heap.size + 4 → blk W w.heap.size [.pointer (some ⟨g, 0, none⟩)] → blk W (w.heap.size + 1) [.slice xa len xc] → blk W (w.heap.size + 2) [.slice ya len yc] → blk W (w.heap.size + 3) [.int .i64 c0] →
      Calls Try.prog 121 #[.pointer (some ⟨g, 0, none⟩), .func (.func 191) #[] #[.pointer (some ⟨w.heap.size + 1, 0, none⟩), .pointer (some ⟨w.heap.size + 2, 0, none⟩), .pointer (some ⟨w.heap.size + 3, 0, none⟩), .pointer (some ⟨w.heap.size, 0, none⟩)]] W fun e w' => ∃ v, e = .returned (.tuple #[v, .int .i64 (wres G (sumW len (G, 0) (x.zip y) c0)).2.2]) ∧ GVo W g (wres G (sumW len (G, 0) (x.zip y) c0)).1 [w.heap.size + 3] F v (wres G (sumW len (G, 0) (x.zip y) c0)).2.1 w' := by
    intro W hW hz bg bx b2 bc
    refine sbuildW_is (h.same hW (by simp)) 191 _ fnvssum1 _ [w.heap.size + 3] (fun W2 m hm hW2 hM => ?_)
    have hall := hW.trans hW2 (by simp)
    have hz2 := hall.size
    have hnot : ∀ k, k < w.heap.size + 3 → k ∉ F → k ∉ m :: (w.heap.size + 3) :: F := fun k hk hkF => by
      simp only [List.mem_cons, not_or]
      exact ⟨by omega, by omega, hkF⟩
    refine ssum1_is hM (x := x) (y := y) (xa := xa) (ya := ya) len xc yc hxl hyl hlen ((bx.ch hW2 (by simp)).cell (i := 0) rfl) ((b2.ch hW2 (by simp)).cell (i := 0) rfl) (bc.ch hW2 (by simp)) ((bg.ch hW2 (by simp)).cell (i := 0) rfl) hc0 (hnot _ (by omega) (fun hk => by have := hFl _ hk; omega)) (hnot _ (by omega) (fun hk => by have := hFl _ hk; omega)) (fun hk => ?_) (hx.ch hall (by simp)) (hy.ch hall (by simp)) (fun k hk => ⟨hnot k (by have := (hxa k hk).2; omega) (hxa k hk).1, by have := (hxa k hk).2; omega⟩) (fun k hk => ⟨hnot k (by have := (hya k hk).2; omega) (hya k hk).1, by have := (hya k hk).2; omega⟩) hxr hyr
    simp only [List.mem_cons] at hk
    rcases hk with e | e
    · omega
    · have := hFl _ e; omega
  have HB := Lib.hid hB; clear hB
  generalize wres G (sumW len (G, 0) (x.zip y) c0) = R at *
  clear hx hy hxa hya hxr hyr h
  go_enter Try.func132, Try.ntmps132
  go_wp2_with fail
  refine calls_named fun W0 hW0 => ?_
  have hcW : Ch [] w W0 := by rw [hW0]; exact ((((Ch.refl _ _).alloc _).alloc _).alloc _).alloc _
  have hz : W0.heap.size = w.heap.size + 4 := by rw [hW0]; simp
  have hbg : blk W0 w.heap.size [.pointer (some ⟨g, 0, none⟩)] := by rw [hW0]; exact (((blk.new' _ _ (by simp)).alloc _).alloc _).alloc _
  have hbx : blk W0 (w.heap.size + 1) [.slice xa len xc] := by rw [hW0]; exact ((blk.new' _ _ (by simp)).alloc _).alloc _
  have hby : blk W0 (w.heap.size + 2) [.slice ya len yc] := by rw [hW0]; exact (blk.new' _ _ (by simp)).alloc _
  have hbc : blk W0 (w.heap.size + 3) [.int .i64 c0] := by rw [hW0]; exact blk.new' _ _ (by simp)
  clear hW0
  refine (HB.out W0 hcW hz hbg hbx hby hbc).mono ?_
  rintro e w1 ⟨v, rfl, hg⟩
  have HG := Lib.hid hg; clear hg
  have HCW := Lib.hid hcW; clear hcW
  go_wp2_with fail
  go_ret2
  obtain ⟨F', k1, k2, k3, k4, k5, k6⟩ := HG.out
  have hs := HCW.out.size
  exact ⟨v, rfl, F', k1, (HCW.out.mono (F' := F) (by simp)).trans k2 (fun k hk => by
    simp only [List.cons_append, List.nil_append, List.mem_cons] at hk
    rcases hk with e | e
    · right; omega
    · exact .inl e), fun k hk => (k3 k hk).imp id (fun e => by omega), k4, k5, fun k hk => ⟨by have := (k6 k hk).1; omega, (k6 k hk).2⟩⟩
set_option maxRecDepth 100000 in
set_option maxHeartbeats 2000000 in
theorem sAdd_is (h : GIn w g G F) {x y : WV} (hx : WVin w F x) (hy : WVin w F y) :
    Calls Try.prog 65 #[.pointer (some ⟨g, 0, none⟩), x.val, y.val] w fun e w' => ∃ v, e = .returned (.tuple #[v, .int .i64 (wordG G [x.l, y.l] (sumW x.l.length (G, 0) ((nats x.l).zip (nats y.l)) 0)).2.2]) ∧ GVo w g (wordG G [x.l, y.l] (sumW x.l.length (G, 0) ((nats x.l).zip (nats y.l)) 0)).1 [] F v (wordG G [x.l, y.l] (sumW x.l.length (G, 0) ((nats x.l).zip (nats y.l)) 0)).2.1 w' := by
  have hFl := h.lt
  have hxlen := hx.ok.len
  have hylen := hy.ok.len
  obtain ⟨xa, xl, xc⟩ := x
  obtain ⟨ya, yl, yc⟩ := y
  simp only [WV.val] at *
  unfold wordG
  have hch := chk_ok (G := G) (x0 := xl) (ws := [yl])
  have hcs := chk_small G [xl, yl]
  generalize hR : sumW xl.length (G, 0) ((nats xl).zip (nats yl)) 0 = R
  generalize hc : chk G [xl, yl] = cc at *
  have hC : ∀ W, Ch [] w W → ∀ b, blk W b [.slice xa xl.length xc, .slice ya yl.length yc] → Calls Try.prog 131 #[.pointer (some ⟨g, 0, none⟩), .slice (some ⟨b, 0, none⟩) 2 2] W fun e w' => e = .returned (.int .i64 cc) ∧ Ch [] W w' := fun W hW b hb => by
    have := chk2_at (h.same hW (by simp)) (x := ⟨xa, xl, xc⟩) (y := ⟨ya, yl, yc⟩) hb (hx.ch hW).ok (hy.ch hW).ok
    rw [hc] at this
    exact this
  have HC := Lib.hid hC; clear hC
  have HCC := Lib.hid hc; clear hc
  have HX := Lib.hid hx; clear hx
  have HY := Lib.hid hy; clear hy
  have H := Lib.hid h; clear h
  have HCH := Lib.hid hch; clear hch
  generalize hWW : (if cc ≠ 0 then (G, [], cc) else wres G R : Gra × List Nat × Nat) = WW
  have HWW := Lib.hid hWW; clear hWW
  have HR := Lib.hid hR; clear hR
  go_enter Try.func65, Try.ntmps65
  go_wp2_with fail
  refine calls_named fun W0 hW0 => ?_
  have hc0 : Ch [] w W0 := by rw [hW0]; exact (Ch.refl _ _).alloc _
  have hbl : blk W0 w.heap.size [.slice xa xl.length xc, .slice ya yl.length yc] := by rw [hW0]; exact blk.new' _ _ (by simp)
  clear hW0
  refine (HC.out W0 hc0 _ hbl).mono ?_
  rintro e w1 ⟨rfl, hc1⟩
  have HC01 := Lib.hid (hc0.trans hc1 (by simp))
  clear hbl hc0 hc1
  by_cases hcc : cc = 0
  · subst hcc
    obtain ⟨h1, h2⟩ : (∃ _ : ChkOk G xl.length xl, ChkOk G xl.length yl) := ⟨HCH.out rfl xl (by simp), HCH.out rfl yl (by simp)⟩
    have hww := HWW.out
    rw [if_neg (by simp)] at hww
    have hB := ssum_is (H.out.same HC01.out (by simp)) (x := nats xl) (y := nats yl) (xa := xa) (ya := ya) (c0 := 0) xl.length xc yc (by simp) (by simp [h2.len]) (by have := h1.r2; omega) (by have := H.out.ok.wf.pos; omega) (by rw [h1.cast]; exact (HX.out.ok.sl.ch HC01.out (by simp))) (by rw [h2.cast]; exact (HY.out.ok.sl.ch HC01.out (by simp))) (HX.out.ch HC01.out).apart (HY.out.ch HC01.out).apart h1.lt h2.lt
    rw [HR.out, hww] at hB
    have hB2 : Calls Try.prog 132 #[.pointer (some ⟨g, 0, none⟩), .slice xa xl.length xc, .slice ya yl.length yc, .int .i64 0] w1 fun e w' => ∃ v, e = .returned (.tuple #[v, .int .i64 WW.2.2]) ∧ GVo w1 g WW.1 [] F v WW.2.1 w' := by rw [h2.len]; exact hB
    have HB := Lib.hid hB2; clear hB hB2
    clear hww h1 h2 HX HY hxlen hylen HCH HC
    go_wp2_with fail
    refine HB.out.mono ?_
    rintro e w2 ⟨v, rfl, hg⟩
    have HG := Lib.hid hg; clear hg
    go_wp2_with fail
    go_ret2
    exact ⟨v, rfl, GVo.since HC01.out HG.out⟩
  · have hww := HWW.out
    rw [if_pos (by simpa using hcc)] at hww
    subst hww
    have hq : ((cc : Int) != 0) = true := by simp; omega
    have HQ := Lib.hid hcc; clear hcc
    go_wp2_with fail
    go_ret2
    exact ⟨_, rfl, GVo.none H.out HC01.out⟩
set_option maxRecDepth 100000 in
set_option maxHeartbeats 2000000 in
theorem sSub_is (h : GIn w g G F) {x y : WV} (hx : WVin w F x) (hy : WVin w F y) :
    Calls Try.prog 188 #[.pointer (some ⟨g, 0, none⟩), x.val, y.val] w fun e w' => ∃ v, e = .returned (.tuple #[v, .int .i64 (wordG G [x.l, y.l] (sumW x.l.length (G, 0) ((nats x.l).zip ((nats y.l).map neg)) 1)).2.2]) ∧ GVo w g (wordG G [x.l, y.l] (sumW x.l.length (G, 0) ((nats x.l).zip ((nats y.l).map neg)) 1)).1 [] F v (wordG G [x.l, y.l] (sumW x.l.length (G, 0) ((nats x.l).zip ((nats y.l).map neg)) 1)).2.1 w' := by
  have hFl := h.lt
  have hxlen := hx.ok.len
  have hylen := hy.ok.len
  obtain ⟨xa, xl, xc⟩ := x
  obtain ⟨ya, yl, yc⟩ := y
  simp only [WV.val] at *
  unfold wordG
  have hch := chk_ok (G := G) (x0 := xl) (ws := [yl])
  have hcs := chk_small G [xl, yl]
  generalize hR : sumW xl.length (G, 0) ((nats xl).zip ((nats yl).map neg)) 1 = R
  generalize hc : chk G [xl, yl] = cc at *
  have hC : ∀ W, Ch [] w W → ∀ b, blk W b [.slice xa xl.length xc, .slice ya yl.length yc] → Calls Try.prog 131 #[.pointer (some ⟨g, 0, none⟩), .slice (some ⟨b, 0, none⟩) 2 2] W fun e w' => e = .returned (.int .i64 cc) ∧ Ch [] W w' := fun W hW b hb => by
    have := chk2_at (h.same hW (by simp)) (x := ⟨xa, xl, xc⟩) (y := ⟨ya, yl, yc⟩) hb (hx.ch hW).ok (hy.ch hW).ok
    rw [hc] at this
    exact this
  have HC := Lib.hid hC; clear hC
  have HCC := Lib.hid hc; clear hc
  have HX := Lib.hid hx; clear hx
  have HY := Lib.hid hy; clear hy
  have H := Lib.hid h; clear h
  have HCH := Lib.hid hch; clear hch
  generalize hWW : (if cc ≠ 0 then (G, [], cc) else wres G R : Gra × List Nat × Nat) = WW
  have HWW := Lib.hid hWW; clear hWW
  have HR := Lib.hid hR; clear hR
  go_enter Try.func188, Try.ntmps188
  go_wp2_with fail
  refine calls_named fun W0 hW0 => ?_
  have hc0 : Ch [] w W0 := by rw [hW0]; exact (Ch.refl _ _).alloc _
  have hbl : blk W0 w.heap.size [.slice xa xl.length xc, .slice ya yl.length yc] := by rw [hW0]; exact blk.new' _ _ (by simp)
  clear hW0
  refine (HC.out W0 hc0 _ hbl).mono ?_
  rintro e w1 ⟨rfl, hc1⟩
  have HC01 := Lib.hid (hc0.trans hc1 (by simp))
  clear hbl hc0 hc1
  by_cases hcc : cc = 0
  · subst hcc
    obtain ⟨h1, h2⟩ : (∃ _ : ChkOk G xl.length xl, ChkOk G xl.length yl) := ⟨HCH.out rfl xl (by simp), HCH.out rfl yl (by simp)⟩
    have hww := HWW.out
    rw [if_neg (by simp)] at hww
    have hT := sturned_is (w := w1) (a := ya) (l := nats yl) yl.length yc (by simp) hylen (by rw [h2.cast]; exact (HY.out.ok.sl.ch HC01.out (by simp))) (fun r hr => by have := h2.lt r hr; have := H.out.ok.small; omega)
    have hyl := h2.len
    have H1 := Lib.hid h1; clear h1
    have H2 := Lib.hid h2; clear h2
    have HWR := Lib.hid hww; clear hww
    have HYL := Lib.hid hyl; clear hyl
    go_wp2_with fail
    refine hT.mono ?_
    rintro e w2 ⟨v, rfl, hrow, hlo, hc2⟩
    obtain ⟨ta, tc, rfl⟩ := row.shape hrow
    have hsl := Sl.of_row' hrow (by simp) hylen
    have hcc := HC01.out.trans hc2 (by simp)
    have hz01 := HC01.out.size
    have hB := ssum_is (H.out.same hcc (by simp)) (x := nats xl) (y := (nats yl).map neg) (xa := xa) (ya := ta) (c0 := 1) xl.length xc tc (by simp) (by simp [HYL.out]) (by have := H1.out.r2; omega) (by have := H.out.ok.wf.pos; omega) (by rw [H1.out.cast]; exact (HX.out.ok.sl.ch hcc (by simp))) hsl (HX.out.ch hcc).apart (fun k hk => by
      cases ta with
      | none => simp [ablk] at hk
      | some p =>
        simp only [ablk, List.mem_singleton] at hk
        subst hk
        have h1 := hlo p.block (by simp)
        have h2 := (hrow.lt p.block rfl).2
        exact ⟨fun hk => by have := hFl _ hk; omega, h2⟩) H1.out.lt (fun r hr => by
      obtain ⟨q, hq, rfl⟩ := List.mem_map.1 hr
      exact neg_lt (H2.out.lt q hq))
    rw [HR.out, HWR.out] at hB
    have hB2 : Calls Try.prog 132 #[.pointer (some ⟨g, 0, none⟩), .slice xa xl.length xc, .slice ta yl.length tc, .int .i64 1] w2 fun e w' => ∃ v, e = .returned (.tuple #[v, .int .i64 WW.2.2]) ∧ GVo w2 g WW.1 [] F v WW.2.1 w' := by rw [HYL.out]; exact hB
    have HB := Lib.hid hB2; clear hB hB2
    have HCC := Lib.hid hcc; clear hcc
    clear hrow hlo hc2 hsl hT
    go_wp2_with fail
    refine HB.out.mono ?_
    rintro e w3 ⟨v, rfl, hg⟩
    have HG := Lib.hid hg; clear hg
    go_wp2_with fail
    go_ret2
    exact ⟨v, rfl, GVo.since HCC.out HG.out⟩
  · have hww := HWW.out
    rw [if_pos (by simpa using hcc)] at hww
    subst hww
    have hq : ((cc : Int) != 0) = true := by simp; omega
    have HQ := Lib.hid hcc; clear hcc
    go_wp2_with fail
    go_ret2
    exact ⟨_, rfl, GVo.none H.out HC01.out⟩
end
end Go.Proofs.Ytkedpifopclipaa
namespace Go.Aig
/-- the difference -/
def subG (G : Gra) (x y : List Int) : Gra × List Nat × Nat := wordG G [x, y] (sumW x.length (G, 0) ((nats x).zip ((nats y).map neg)) 1)
end Go.Aig
namespace Go.Proofs.Ytkedpifopclipaa
open Go.RowKit Go.Mem Go.Aig
section
variable {w : World} {g : Nat} {G : Gra} {F : List Nat}
set_option maxRecDepth 100000 in
set_option maxHeartbeats 2000000 in
theorem sEq_is (h : GIn w g G F) {x y : WV} (hx : WVin w F x) (hy : WVin w F y) :
    Calls Try.prog 66 #[.pointer (some ⟨g, 0, none⟩), x.val, y.val] w fun e w' => e = .returned (.tuple #[.int .i64 (negG (refG G [x.l, y.l] (neF (G, 0) ((nats x.l).zip (nats y.l))))).2.1, .int .i64 (negG (refG G [x.l, y.l] (neF (G, 0) ((nats x.l).zip (nats y.l))))).2.2]) ∧ GTo w g (negG (refG G [x.l, y.l] (neF (G, 0) ((nats x.l).zip (nats y.l))))).1 F w' := by
  have HE := sNe_is h hx hy
  have hlt : (refG G [x.l, y.l] (neF (G, 0) ((nats x.l).zip (nats y.l)))).2.1 ≤ 1000000 := by
    have h1 := refG_ok h.ok (ws := [x.l, y.l]) (R := neF (G, 0) ((nats x.l).zip (nats y.l))) (fun hc => neF_vok h.ok _ (chk_zip hc))
    have := h1.1.small
    omega
  generalize refG G [x.l, y.l] (neF (G, 0) ((nats x.l).zip (nats y.l))) = R at *
  obtain ⟨xa, xl, xc⟩ := x
  obtain ⟨ya, yl, yc⟩ := y
  simp only [WV.val] at *
  clear hx hy h
  have HN := fun W => Not_any R.2.1 W hlt
  unfold negG
  by_cases he : R.2.2 = 0
  · have hE := HE.mono (R' := fun e w' => e = .returned (.tuple #[.int .i64 R.2.1, .int .i64 0]) ∧ GTo w g R.1 F w') (by rintro e w' ⟨rfl, hg⟩; exact ⟨by rw [he]; rfl, hg⟩)
    rw [if_neg (by simp [he])]
    have HEE := Lib.hid he; clear he HE
    go_enter Try.func66, Try.ntmps66
    go_wp2_with fail
    refine hE.mono ?_
    rintro e w1 ⟨rfl, hg⟩
    have HG := Lib.hid hg; clear hg
    go_wp2_with fail
    refine (HN _).mono ?_
    rintro e w2 ⟨rfl, rfl⟩
    go_wp2_with fail
    go_ret2
    exact ⟨rfl, HG.out⟩
  · have hq : ((R.2.2 : Int) != 0) = true := by simp; omega
    rw [if_pos he]
    have HEE := Lib.hid he; clear he
    go_enter Try.func66, Try.ntmps66
    go_wp2_with fail
    refine HE.mono ?_
    rintro e w1 ⟨rfl, hg⟩
    have HG := Lib.hid hg; clear hg
    go_wp2_with fail
    go_ret2
    exact ⟨rfl, HG.out⟩
set_option maxRecDepth 100000 in
set_option maxHeartbeats 2000000 in
theorem sLe_is (h : GIn w g G F) {x y : WV} (hx : WVin w F x) (hy : WVin w F y) :
    Calls Try.prog 187 #[.pointer (some ⟨g, 0, none⟩), x.val, y.val] w fun e w' => e = .returned (.tuple #[.int .i64 (negG (refG G [y.l, x.l] (ltF (G, 0) ((nats y.l).zip (nats x.l))))).2.1, .int .i64 (negG (refG G [y.l, x.l] (ltF (G, 0) ((nats y.l).zip (nats x.l))))).2.2]) ∧ GTo w g (negG (refG G [y.l, x.l] (ltF (G, 0) ((nats y.l).zip (nats x.l))))).1 F w' := by
  have HE := sLt_is h hy hx
  have hlt : (refG G [y.l, x.l] (ltF (G, 0) ((nats y.l).zip (nats x.l)))).2.1 ≤ 1000000 := by
    have h1 := refG_ok h.ok (ws := [y.l, x.l]) (R := ltF (G, 0) ((nats y.l).zip (nats x.l))) (fun hc => ltF_vok h.ok _ (chk_zip hc))
    have := h1.1.small
    omega
  generalize refG G [y.l, x.l] (ltF (G, 0) ((nats y.l).zip (nats x.l))) = R at *
  obtain ⟨xa, xl, xc⟩ := x
  obtain ⟨ya, yl, yc⟩ := y
  simp only [WV.val] at *
  clear hx hy h
  have HN := fun W => Not_any R.2.1 W hlt
  unfold negG
  by_cases he : R.2.2 = 0
  · have hE := HE.mono (R' := fun e w' => e = .returned (.tuple #[.int .i64 R.2.1, .int .i64 0]) ∧ GTo w g R.1 F w') (by rintro e w' ⟨rfl, hg⟩; exact ⟨by rw [he]; rfl, hg⟩)
    rw [if_neg (by simp [he])]
    have HEE := Lib.hid he; clear he HE
    go_enter Try.func187, Try.ntmps187
    go_wp2_with fail
    refine hE.mono ?_
    rintro e w1 ⟨rfl, hg⟩
    have HG := Lib.hid hg; clear hg
    go_wp2_with fail
    refine (HN _).mono ?_
    rintro e w2 ⟨rfl, rfl⟩
    go_wp2_with fail
    go_ret2
    exact ⟨rfl, HG.out⟩
  · have hq : ((R.2.2 : Int) != 0) = true := by simp; omega
    rw [if_pos he]
    have HEE := Lib.hid he; clear he
    go_enter Try.func187, Try.ntmps187
    go_wp2_with fail
    refine HE.mono ?_
    rintro e w1 ⟨rfl, hg⟩
    have HG := Lib.hid hg; clear hg
    go_wp2_with fail
    go_ret2
    exact ⟨rfl, HG.out⟩
set_option maxRecDepth 100000 in
set_option maxHeartbeats 2000000 in
theorem sAny_is (h : GIn w g G F) {x : WV} (hx : WVin w F x) :
    Calls Try.prog 68 #[.pointer (some ⟨g, 0, none⟩), x.val] w fun e w' => e = .returned (.tuple #[.int .i64 (refG G [x.l] (sAny (G, 0) (nats x.l))).2.1, .int .i64 (refG G [x.l] (sAny (G, 0) (nats x.l))).2.2]) ∧ GTo w g (refG G [x.l] (sAny (G, 0) (nats x.l))).1 F w' := by
  have hFl := h.lt
  have hxlen := hx.ok.len
  obtain ⟨xa, xl, xc⟩ := x
  simp only [WV.val] at *
  unfold refG
  have hch := chk_ok (G := G) (x0 := xl) (ws := [])
  have hcs := chk_small G [xl]
  generalize hR : sAny (G, 0) (nats xl) = R
  generalize hc : chk G [xl] = cc at *
  have hC : ∀ W, Ch [] w W → ∀ b, blk W b [.slice xa xl.length xc] → Calls Try.prog 131 #[.pointer (some ⟨g, 0, none⟩), .slice (some ⟨b, 0, none⟩) 1 1] W fun e w' => e = .returned (.int .i64 cc) ∧ Ch [] W w' := fun W hW b hb => by
    have := chk1_at (h.same hW (by simp)) (x := ⟨xa, xl, xc⟩) hb (hx.ch hW).ok
    rw [hc] at this
    exact this
  have HC := Lib.hid hC; clear hC
  have HCC := Lib.hid hc; clear hc
  have HX := Lib.hid hx; clear hx
  have H := Lib.hid h; clear h
  have HCH := Lib.hid hch; clear hch
  generalize hWW : (if cc ≠ 0 then (G, 0, cc) else rres G R : Res) = WW
  have HWW := Lib.hid hWW; clear hWW
  have HR := Lib.hid hR; clear hR
  go_enter Try.func68, Try.ntmps68
  go_wp2_with fail
  refine calls_named fun W0 hW0 => ?_
  have hc0 : Ch [] w W0 := by rw [hW0]; exact (Ch.refl _ _).alloc _
  have hbl : blk W0 w.heap.size [.slice xa xl.length xc] := by rw [hW0]; exact blk.new' _ _ (by simp)
  clear hW0
  refine (HC.out W0 hc0 _ hbl).mono ?_
  rintro e w1 ⟨rfl, hc1⟩
  have HC01 := Lib.hid (hc0.trans hc1 (by simp))
  clear hbl hc0 hc1
  by_cases hcc : cc = 0
  · subst hcc
    have h1 : ChkOk G xl.length xl := HCH.out rfl xl (by simp)
    have hww := HWW.out
    rw [if_neg (by simp)] at hww
    have hA := Any_g (H.out.same HC01.out (by simp)) (l := xl) xl.length xc rfl (HX.out.ok.sl.ch HC01.out (by simp)) (fun r hr => (HX.out.ok.bd r hr).2) (fun p hp => by have := (HX.out.ch HC01.out).apart p.block (ablk_of hp); exact ⟨this.2, this.1⟩)
    have hd : doAny G xl = rAny G (nats xl) := by
      have := doAny_r (G := G) (l := nats xl) h1.lt
      rw [h1.cast] at this
      exact this
    have hfull := rAny_full H.out.ok h1.lt
    have hwr : WW = rAny G (nats xl) := by
      rw [← hww, ← HR.out]
      unfold rres sAny
      by_cases h0 : (rAny G (nats xl)).2.2 = 0
      · rw [rstep_ok rfl h0, if_neg (by simp), ← h0]
      · rw [rstep_no rfl h0, if_pos h0, hfull.keep h0]
    rw [hd, ← hwr] at hA
    clear hww h1 hwr hd hfull
    have HA := Lib.hid hA; clear hA
    go_wp2_with fail
    refine HA.out.mono ?_
    rintro e w2 ⟨rfl, hg⟩
    have HG := Lib.hid hg; clear hg
    go_wp2_with fail
    go_ret2
    exact ⟨rfl, GTo.since HC01.out HG.out⟩
  · have hww := HWW.out
    rw [if_pos (by simpa using hcc)] at hww
    subst hww
    have hq : ((cc : Int) != 0) = true := by simp; omega
    have HQ := Lib.hid hcc; clear hcc
    go_wp2_with fail
    go_ret2
    exact ⟨rfl, GTo.same H.out HC01.out⟩
theorem run_make_refs (w : World) (n : Nat) (hn : n ≤ 1000000) : (Instr.makeSlice 28 (.int .i64 n) (.int .i64 n)).run Try.prog w = .ok (.slice (some ⟨w.heap.size, 0, none⟩) n n) (w.alloc (.cells (refsCells (List.replicate n 0)).toArray 45)) := by
  obtain ⟨i, hi, hz, hs, hb⟩ := info_parts infoRef
  have := run_make (P := Try.prog) w 28 45 i (.int .i64 0) Try.underlying28 hi hz .i64 .i64 n n (by omega) (by omega) (by rw [hb]; omega) (by omega)
  rw [this, hs]
  have e : madeCells (Value.int .i64 0).cells ((n : Int).toNat * 1) = (refsCells (List.replicate n 0)).toArray := by
    apply Array.ext'
    have h := toList_madeCells_one (Value.int .i64 0) ((n : Int).toNat * 1)
    simpa [refsCells, Value.cells] using h
  rw [e]; simp
theorem zeros_row {w W : World} {n : Nat} (hn : n ≤ 1000000) (h : W = w.alloc (.cells (refsCells (List.replicate n 0)).toArray 45)) : Sl W (some ⟨w.heap.size, 0, none⟩) (List.replicate n (0 : Int)) := by
  have hb : blk W w.heap.size (refsCells (List.replicate n 0)) := by rw [h]; exact blk.new' _ _ rfl
  refine ⟨fun i x hx => ⟨_, _, rfl, ?_⟩, ?_⟩
  · have hx2 := List.getElem?_replicate (a := (0 : Int)) (n := n) (i := i)
    rw [hx] at hx2
    split at hx2
    · rename_i hlt
      cases hx2
      have := hb.cell (i := i) (v := .int .i64 0) (by simp [refsCells, hlt])
      simpa using this
    · cases hx2
  · simp; omega
end
end Go.Proofs.Ytkedpifopclipaa
namespace Go.Aig
/-- the number that some bits are -/
def bitsVal : List Bool → Nat
  | [] => 0
  | b :: l => b.toNat + 2 * bitsVal l
theorem bitsVal_lt : ∀ (l : List Bool), bitsVal l < 2 ^ l.length
  | [] => by simp [bitsVal]
  | b :: l => by
    have := bitsVal_lt l
    have hb : b.toNat ≤ 1 := by cases b <;> decide
    show b.toNat + 2 * bitsVal l < 2 ^ (l.length + 1)
    rw [Nat.pow_succ]; omega
theorem bitsVal_snoc : ∀ (l : List Bool) (b : Bool), bitsVal (l ++ [b]) = bitsVal l + b.toNat * 2 ^ l.length
  | [], b => by simp [bitsVal]
  | c :: l, b => by
    show c.toNat + 2 * bitsVal (l ++ [b]) = c.toNat + 2 * bitsVal l + b.toNat * 2 ^ (l.length + 1)
    rw [bitsVal_snoc l b, Nat.pow_succ, Nat.mul_add, ← Nat.mul_assoc, Nat.mul_comm 2 b.toNat, Nat.add_assoc]
    congr 2
    rw [Nat.mul_comm (2 ^ l.length) 2, Nat.mul_assoc]
theorem bitsVal_succ {l : List Bool} {k : Nat} {b : Bool} (h : l[k]? = some b) (hk : k < 32) : bits .or .u32 (bitsVal (l.take k) : Int) ((b.toNat * 2 ^ k : Nat) : Int) = (bitsVal (l.take (k + 1)) : Int) ∧ b.toNat * 2 ^ k < 4294967296 := by
  have hlt := (List.getElem?_eq_some_iff.1 h).1
  have hlen : (l.take k).length = k := by rw [List.length_take]; omega
  have h1 := bitsVal_lt (l.take k)
  rw [hlen] at h1
  have h2 : (2 : Nat) ^ k ≤ 2 ^ 31 := Nat.pow_le_pow_right (by omega) (by omega)
  have hb : b.toNat ≤ 1 := by cases b <;> decide
  have h3 : b.toNat * 2 ^ k < 4294967296 := by
    have : b.toNat * 2 ^ k ≤ 1 * 2 ^ k := Nat.mul_le_mul_right _ hb
    omega
  refine ⟨?_, h3⟩
  rw [u32_or_nat _ _ (by omega) h3, List.take_add_one, h]
  show ((bitsVal (l.take k) ||| b.toNat * 2 ^ k : Nat) : Int) = (bitsVal (l.take k ++ [b]) : Int)
  rw [bitsVal_snoc, hlen, Nat.or_comm, Nat.mul_comm, ← Nat.two_pow_add_eq_or_of_lt h1, Nat.add_comm]
end Go.Aig
namespace Go.Proofs.Ytkedpifopclipaa
open Go.RowKit Go.Mem Go.Aig
section
variable {w : World}
set_option maxRecDepth 100000 in
set_option maxHeartbeats 1000000 in
theorem Bit_is (x i : Nat) (hx : x < 4294967296) (hi : i < 32) : Calls Try.prog 178 #[.int .u32 x, .int .i64 i] w fun e w' => e = .returned (.bool (x.testBit i)) ∧ w = w' := by
  have h1 : decide ((0 : Int) ≤ i) = true := decide_eq_true (by omega)
  have h2 : decide ((i : Int) < 32) = true := decide_eq_true (by omega)
  go_enter Try.func178, Try.ntmps178
  go_wp2_with fail
  go_ret
  refine ⟨?_, rfl⟩
  have e : bits .and .u32 ((x : Int) / 2 ^ i) 1 = ((x / 2 ^ i % 2 : Nat) : Int) := by
    have h3 : x / 2 ^ i < 4294967296 := Nat.lt_of_le_of_lt (Nat.div_le_self _ _) hx
    have h4 := u32_and_nat (x / 2 ^ i) 1 h3 (by omega)
    rw [Nat.and_one_is_mod] at h4
    have h5 : ((x / 2 ^ i : Nat) : Int) = (x : Int) / 2 ^ i := by rw [Int.natCast_ediv]; simp
    rw [← h5]
    exact h4
  show Ending.returned (.bool (bits .and .u32 ((x : Int) / 2 ^ i) 1 == 1)) = _
  rw [e, Nat.testBit_eq_decide_div_mod_eq]
  rcases Nat.mod_two_eq_zero_or_one (x / 2 ^ i) with h3 | h3 <;> rw [h3] <;> rfl
set_option maxRecDepth 100000 in
set_option maxHeartbeats 1000000 in
theorem Most_is (n : Nat) (h1 : 1 ≤ n) (h2 : n ≤ 16) : Calls Try.prog 215 #[.int .i64 n] w fun e w' => e = .returned (.tuple #[.int .u32 (2 ^ n - 1 : Nat), .int .i64 0]) ∧ w = w' := by
  go_enter Try.func215, Try.ntmps215
  go_wp2_with fail
  go_ret2
  refine ⟨?_, rfl⟩
  have h3 : 2 ^ n ≤ 2 ^ 16 := Nat.pow_le_pow_right (by omega) h2
  have h4 : 1 ≤ 2 ^ n := Nat.one_le_two_pow
  have e : ((2 : Int) ^ n % 4294967296 - 1) % 4294967296 = ((2 ^ n - 1 : Nat) : Int) := by
    have h5 : (2 : Int) ^ n = ((2 ^ n : Nat) : Int) := by simp
    rw [h5]
    omega
  show Ending.returned (.tuple #[.int .u32 (((2 : Int) ^ n % 4294967296 - 1) % 4294967296), .int .i64 0]) = _
  rw [e]
set_option maxRecDepth 100000 in
set_option maxHeartbeats 1000000 in
theorem Most_no (n : Int) (h1 : n < 1 ∨ 16 < n) : Calls Try.prog 215 #[.int .i64 n] w fun e w' => e = .returned (.tuple #[.int .u32 0, .int .i64 220]) ∧ w = w' := by
  by_cases h0 : n < 1
  · have hd : decide (n < 1) = true := decide_eq_true h0
    go_enter Try.func215, Try.ntmps215
    go_wp2_with fail
    go_ret2
    exact ⟨rfl, rfl⟩
  · have hd : decide (n < 1) = false := decide_eq_false h0
    have hd2 : decide (16 < n) = true := decide_eq_true (by omega)
    go_enter Try.func215, Try.ntmps215
    go_wp2_with fail
    go_ret2
    exact ⟨rfl, rfl⟩
set_option maxRecDepth 100000 in
set_option maxHeartbeats 1000000 in
theorem btruth_is (b : Bool) : Calls Try.prog 216 #[.bool b] w fun e w' => e = .returned (.int .u32 b.toNat) ∧ w = w' := by
  cases b
  · go_enter Try.func216, Try.ntmps216
    go_wp2_with fail
    go_ret
    exact ⟨rfl, rfl⟩
  · go_enter Try.func216, Try.ntmps216
    go_wp2_with fail
    go_ret
    exact ⟨rfl, rfl⟩
/-- a slice of truths that is read -/
abbrev Sb (w : World) (a : Option Addr) (l : List Bool) : Prop := Sv w a (l.map Value.bool)
set_option maxRecDepth 100000 in
set_option maxHeartbeats 1000000 in
theorem FromBits_no {a : Option Addr} (n c : Nat) (h : n < 1 ∨ 16 < n) (hm : n ≤ 1000000) : Calls Try.prog 205 #[.slice a n c] w fun e w' => e = .returned (.tuple #[.int .u32 0, .int .i64 220]) ∧ w = w' := by
  have HM := Most_no (w := w) n (by omega)
  go_enter Try.func205, Try.ntmps205
  go_wp2_with fail
  refine HM.mono ?_
  rintro e w' ⟨rfl, rfl⟩
  go_wp2_with fail
  go_ret2
  exact ⟨rfl, rfl⟩
set_option maxRecDepth 100000 in
set_option maxHeartbeats 2000000 in
theorem FromBits_is {a : Option Addr} {l : List Bool} (n c : Nat) (hn : l.length = n) (h1 : 1 ≤ n) (h2 : n ≤ 16) (hS : Sb w a l) : Calls Try.prog 205 #[.slice a n c] w fun e w' => e = .returned (.tuple #[.int .u32 (bitsVal l), .int .i64 0]) ∧ w = w' := by
  subst hn
  have HM := Most_is (w := w) l.length h1 h2
  have HS := Lib.hid hS; clear hS
  go_enter Try.func205, Try.ntmps205
  go_wp2_with fail
  refine HM.mono ?_
  rintro e w' ⟨rfl, rfl⟩
  go_wp2_with fail
  go_loopw [6, 20] (fun x i wr => ∃ k : Nat, k ≤ l.length ∧ i = .int .i64 k ∧ wr = w ∧ x = .int .u32 (bitsVal (l.take k))) (fun _ i _ => l.length - (intOf i).toNat)
  case atStart => exact ⟨0, by omega, rfl, rfl, rfl⟩
  case round =>
    obtain ⟨k, hk, rfl, rfl, rfl⟩ := hrel
    by_cases hlt : k < l.length
    · obtain ⟨b, hb⟩ : ∃ b, l[k]? = some b := ⟨_, List.getElem?_eq_getElem hlt⟩
      obtain ⟨xb, xo, rfl, hcl⟩ := HS.out.cells k (.bool b) (by simp [hb])
      have HT := btruth_is (w := wr) b
      have hs := bitsVal_succ hb (by omega)
      generalize hX : bitsVal (l.take k) = X at *
      generalize hX2 : bitsVal (l.take (k + 1)) = X2 at *
      have HX2 := Lib.hid hX2; clear hX2
      have HSS := Lib.hid hs; clear hs hX hb
      go_wp2_with fail
      refine HT.mono ?_
      rintro e w2 ⟨rfl, rfl⟩
      go_wp2_with fail
      go_roundw
      case rel =>
        refine ⟨k + 1, by omega, by go_num, trivial, ?_⟩
        have h3 := HSS.out.1
        have h4 := HSS.out.2
        rw [HX2.out, ← h3]
        have h5 : ((b.toNat * 2 ^ k : Nat) : Int) = (b.toNat : Int) * 2 ^ k := by simp
        have h6 : (b.toNat : Int) * 2 ^ k % 4294967296 = ((b.toNat * 2 ^ k : Nat) : Int) := by rw [← h5]; omega
        rw [h6]
      case measure => simp [intOf]; omega
    · have hkn : l.take k = l := List.take_of_length_le (by omega)
      rw [hkn]
      clear hkn
      go_wp2_with fail
      go_ret2
      exact ⟨rfl, rfl⟩
end
end Go.Proofs.Ytkedpifopclipaa
namespace Go.Aig
def constL (x n : Nat) : List Nat := (List.range n).map fun i => (x.testBit i).toNat
def castL (l : List Int) (n : Nat) : List Int := l.take n ++ List.replicate (n - l.length) 0
def inG (G : Gra) (n : Int) : Gra × List Nat × Nat := if rightW n then wres G (inF (G, 0) n.toNat) else (G, [], 230)
theorem constL_succ (x n : Nat) : constL x (n + 1) = constL x n ++ [(x.testBit n).toNat] := by
  unfold constL
  rw [List.range_succ, List.map_append]; rfl
end Go.Aig
namespace Go.Proofs.Ytkedpifopclipaa
open Go.RowKit Go.Mem Go.Aig
section
variable {w : World}
/-- what makes a word out of nothing leaves -/
def WNew (w : World) (v : Value) (xs : List Value) (w' : World) : Prop := row w' 45 1 v xs.length xs ∧ (∀ q ∈ v.ownBlock.toList, w.heap.size ≤ q) ∧ Ch [] w w'
theorem WNew.nil {w w' : World} (h : Ch [] w w') : WNew w (.slice none 0 0) [] w' := ⟨⟨rfl, .inl ⟨rfl, rfl⟩⟩, by simp, h⟩
set_option maxRecDepth 100000 in
set_option maxHeartbeats 2000000 in
theorem sConst_is (x : Nat) (hx : x < 4294967296) (n : Int) : Calls Try.prog 116 #[.int .u32 x, .int .i64 n] w fun e w' => ∃ v, e = .returned (.tuple #[v, .int .i64 (if rightW n then 0 else 230 : Nat)]) ∧ WNew w v (if rightW n then refsCells (constL x n.toNat) else []) w' := by
  have HR := sright_is (w := w) n
  cases hr : rightW n
  · rw [hr] at HR
    have H := Lib.hid hr; clear hr
    simp only [Bool.false_eq_true, if_false]
    go_enter Try.func116, Try.ntmps116
    go_wp2_with fail
    refine HR.mono ?_
    rintro e w' ⟨rfl, rfl⟩
    go_wp2_with fail
    go_ret2
    exact ⟨_, rfl, WNew.nil (Ch.refl _ _)⟩
  · rw [hr] at HR
    obtain ⟨k0, rfl, hk0⟩ : ∃ k0 : Nat, n = k0 ∧ k0 ≤ 17 := by
      unfold rightW at hr
      simp at hr
      exact ⟨n.toNat, by omega, by omega⟩
    have H := Lib.hid hr; clear hr
    simp only [if_true, Int.toNat_natCast]
    go_enter Try.func116, Try.ntmps116
    go_wp2_with fail
    refine HR.mono ?_
    rintro e w' ⟨rfl, rfl⟩
    clear HR
    go_wp2_with fail
    go_loopw [6, 13] (fun o i wr => ∃ k : Nat, k ≤ k0 ∧ i = .int .i64 k ∧ Ch [] w wr ∧ row wr 45 1 o k (refsCells (constL x k)) ∧ ∀ q ∈ o.ownBlock.toList, w.heap.size ≤ q) (fun _ i _ => k0 - (intOf i).toNat)
    case atStart => exact ⟨0, by omega, rfl, Ch.refl _ _, ⟨rfl, .inl ⟨rfl, rfl⟩⟩, by simp⟩
    case round =>
      obtain ⟨k, hk, rfl, hc, hrow, hlo⟩ := hrel
      obtain ⟨oa, oc, rfl⟩ := row.shape hrow
      by_cases hlt : k < k0
      · have HB := Bit_is (w := wr) x k hx (by omega)
        have hsu : refsCells (constL x (k + 1)) = refsCells (constL x k) ++ [.int .i64 ((x.testBit k).toNat : Nat)] := by rw [constL_succ]; simp [refsCells]
        have HSU := Lib.hid hsu; clear hsu
        have HC := Lib.hid hc; clear hc
        have HLO := Lib.hid hlo; clear hlo
        cases hb : x.testBit k
        · rw [hb] at HB HSU
          clear hb
          have hcA : Ch [] wr (wr.alloc (.cells #[.int .i64 0] 45)) := (Ch.refl _ _).alloc _
          have hrA := hrow.ch hcA (by simp)
          have hbA : blk (wr.alloc (.cells #[.int .i64 0] 45)) wr.heap.size [.int .i64 0] := blk.new' _ _ rfl
          have HRA := Lib.hid hrA; clear hrA hrow
          have HBA := Lib.hid hbA; clear hbA
          have HCA := Lib.hid hcA; clear hcA
          go_wp2_with fail
          refine HB.mono ?_
          rintro e w2 ⟨rfl, rfl⟩
          go_wp2_with (at_builtin; go_loud (refine wpList_append_row slRefs rfl _ _ rfl (v := .slice oa k oc) (n := k) (xs := refsCells (constL x k)) rfl HRA.out (ad := ⟨wr.heap.size, 0, none⟩) (m := 1) (c := 1) (news := [.int .i64 0]) rfl rfl (news_blk HBA.out) (by simp [Value.oneCell']) (by omega) (by omega) ?_; intro v' w4 hown4 hC4 hf4; have HO4 := Lib.hid hown4; clear hown4; have HC4 := Lib.hid hC4; clear hC4; have HF4 := Lib.hid hf4; clear hf4))
          go_roundw
          case rel =>
            obtain ⟨q1, q2⟩ := app_step HC.out HCA.out HLO.out HC4.out HF4.out
            refine ⟨k + 1, by omega, by go_num, q1, ?_, q2⟩
            rw [HSU.out]; exact HO4.out
          case measure => simp [intOf]; omega
        · rw [hb] at HB HSU
          clear hb
          have hcA : Ch [] wr (wr.alloc (.cells #[.int .i64 1] 45)) := (Ch.refl _ _).alloc _
          have hrA := hrow.ch hcA (by simp)
          have hbA : blk (wr.alloc (.cells #[.int .i64 1] 45)) wr.heap.size [.int .i64 1] := blk.new' _ _ rfl
          have HRA := Lib.hid hrA; clear hrA hrow
          have HBA := Lib.hid hbA; clear hbA
          have HCA := Lib.hid hcA; clear hcA
          go_wp2_with fail
          refine HB.mono ?_
          rintro e w2 ⟨rfl, rfl⟩
          go_wp2_with (at_builtin; go_loud (refine wpList_append_row slRefs rfl _ _ rfl (v := .slice oa k oc) (n := k) (xs := refsCells (constL x k)) rfl HRA.out (ad := ⟨wr.heap.size, 0, none⟩) (m := 1) (c := 1) (news := [.int .i64 1]) rfl rfl (news_blk HBA.out) (by simp [Value.oneCell']) (by omega) (by omega) ?_; intro v' w4 hown4 hC4 hf4; have HO4 := Lib.hid hown4; clear hown4; have HC4 := Lib.hid hC4; clear hC4; have HF4 := Lib.hid hf4; clear hf4))
          go_roundw
          case rel =>
            obtain ⟨q1, q2⟩ := app_step HC.out HCA.out HLO.out HC4.out HF4.out
            refine ⟨k + 1, by omega, by go_num, q1, ?_, q2⟩
            rw [HSU.out]; exact HO4.out
          case measure => simp [intOf]; omega
      · have hkn : k = k0 := by omega
        subst hkn
        have HROW := Lib.hid hrow; clear hrow
        have HLO := Lib.hid hlo; clear hlo
        have HC := Lib.hid hc; clear hc
        go_wp2_with fail
        go_ret2
        refine ⟨.slice oa k oc, rfl, ?_, HLO.out, HC.out⟩
        have := HROW.out
        simpa [refsCells, constL] using this
set_option maxRecDepth 100000 in
set_option maxHeartbeats 1000000 in
theorem Clref_w {x : WV} (h : WVok w x) (n : Nat) (hn : x.l.length = n) : Calls Try.prog 29 #[.slice x.a n x.c] w fun e w' => ∃ v, e = .returned v ∧ WNew w v (intCells x.l) w' := by
  obtain ⟨xa, xl, xc⟩ := x
  subst hn
  have hlen := h.len
  simp only at *
  cases xa with
  | none =>
    have hl : xl = [] := by
      cases xl with
      | nil => rfl
      | cons y l =>
        obtain ⟨b, o, e, _⟩ := h.sl.cells 0 y rfl
        cases e
    subst hl
    clear h
    go_enter Try.func29, Try.ntmps29
    go_wp2_with fail
    go_ret
    exact ⟨_, rfl, WNew.nil (Ch.refl _ _)⟩
  | some p =>
    have hO : row (w.alloc (.cells #[] 45)) 45 1 (.slice (some ⟨w.heap.size, 0, none⟩) 0 0) 0 [] := ⟨rfl, .inr ⟨w.heap.size, 0, #[], rfl, by omega, heap_alloc_new w _, by omega, by unfold maxLen; omega, rfl, rfl⟩⟩
    have hN : ∀ j u, (intCells xl)[j]? = some u → (w.alloc (.cells #[] 45)).cell? (p.add j) = some u := fun j u hu => by
      simp only [intCells, List.getElem?_map, Option.map_eq_some_iff] at hu
      obtain ⟨y, hy, rfl⟩ := hu
      obtain ⟨b, o, e, hc⟩ := h.sl.cells j y hy
      cases e
      rw [Addr.add_lit]
      exact (((Ch.refl [] w).alloc _).cell (cell_lt hc) (by simp)).trans hc
    have h1 : ∀ u ∈ intCells xl, u.oneCell' = true := fun u hu => by
      obtain ⟨r, _, rfl⟩ := List.mem_map.1 hu
      rfl
    have HO := Lib.hid hO; clear hO
    have HN := Lib.hid hN; clear hN h
    have H1 := Lib.hid h1; clear h1
    go_enter Try.func29, Try.ntmps29
    go_wp2_with (at_builtin; go_loud (refine wpList_append_row slRefs rfl _ _ rfl (v := .slice (some ⟨w.heap.size, 0, none⟩) 0 0) (n := 0) (xs := []) rfl HO.out (ad := p) (m := xl.length) (c := xc) (news := intCells xl) rfl (by simp [intCells]) HN.out H1.out (by omega) (by omega) ?_; intro v' w2 hown hC2 hfresh; have HOWN := Lib.hid hown; clear hown; have HC2 := Lib.hid hC2; clear hC2; have HFR := Lib.hid hfresh; clear hfresh))
    go_ret
    have hown := HOWN.out
    rw [Nat.zero_add, List.nil_append] at hown
    refine ⟨_, rfl, by simpa [intCells] using hown, fun k hk => ?_, (((Ch.refl [] w).alloc (.cells #[] 45))).trans HC2.out (by simp)⟩
    rcases HFR.out k (by simpa using hk) with e | e
    · simp at e; omega
    · simp at e; omega
end
end Go.Proofs.Ytkedpifopclipaa
namespace Go.Proofs.Ytkedpifopclipaa
open Go.RowKit Go.Mem Go.Aig
section
variable {w : World}
set_option maxRecDepth 100000 in
set_option maxHeartbeats 1000000 in
theorem sValue_is {x : WV} (hx : x.l.length ≤ 1000000) {a : Option Addr} {l : List Bool} (c : Nat) (hm : l.length ≤ 1000000) (hS : Sb w a l) :
    Calls Try.prog 179 #[x.val, .slice a l.length c] w fun e w' => e = .returned (.tuple #[.int .u32 (if 1 ≤ l.length ∧ l.length ≤ 16 ∧ l.length = x.l.length then bitsVal l else 0 : Nat), .int .i64 (if 1 ≤ l.length ∧ l.length ≤ 16 ∧ l.length = x.l.length then 0 else 230 : Nat)]) ∧ w = w' := by
  obtain ⟨xa, xl, xc⟩ := x
  simp only [WV.val] at *
  by_cases h1 : 1 ≤ l.length ∧ l.length ≤ 16
  · have HF := FromBits_is (w := w) l.length c rfl h1.1 h1.2 hS
    by_cases h2 : l.length = xl.length
    · have hq : ((l.length : Int) != (xl.length : Int)) = false := by rw [h2]; simp
      rw [if_pos ⟨h1.1, h1.2, h2⟩, if_pos ⟨h1.1, h1.2, h2⟩]
      clear h1 h2 hS
      go_enter Try.func179, Try.ntmps179
      go_wp2_with fail
      refine HF.mono ?_
      rintro e w' ⟨rfl, rfl⟩
      go_wp2_with fail
      go_ret2
      exact ⟨rfl, rfl⟩
    · have hq : ((l.length : Int) != (xl.length : Int)) = true := by simp; omega
      rw [if_neg (fun h => h2 h.2.2), if_neg (fun h => h2 h.2.2)]
      clear h1 h2 hS
      go_enter Try.func179, Try.ntmps179
      go_wp2_with fail
      refine HF.mono ?_
      rintro e w' ⟨rfl, rfl⟩
      go_wp2_with fail
      go_ret2
      exact ⟨rfl, rfl⟩
  · have HF := FromBits_no (w := w) (a := a) l.length c (by omega) hm
    rw [if_neg (fun h => h1 ⟨h.1, h.2.1⟩), if_neg (fun h => h1 ⟨h.1, h.2.1⟩)]
    clear h1 hS
    go_enter Try.func179, Try.ntmps179
    go_wp2_with fail
    refine HF.mono ?_
    rintro e w' ⟨rfl, rfl⟩
    go_wp2_with fail
    go_ret2
    exact ⟨rfl, rfl⟩
set_option maxRecDepth 100000 in
set_option maxHeartbeats 1000000 in
theorem sInput_is {g : Nat} {G : Gra} {F : List Nat} (h : GIn w g G F) (n : Int) : Calls Try.prog 55 #[.pointer (some ⟨g, 0, none⟩), .int .i64 n] w fun e w' => ∃ v, e = .returned (.tuple #[v, .int .i64 (inG G n).2.2]) ∧ GVo w g (inG G n).1 [] F v (inG G n).2.1 w' := by
  have hpos := h.ok.wf.pos
  have hFl := h.lt
  have hp0 : ((G.nodes.length : Int) == 0) = false := beqN (by omega)
  have hL : ∀ W, Ch [] w W → Calls Try.prog 26 #[.pointer (some ⟨g, 0, none⟩)] W fun e w' => e = .returned (.int .i64 G.nodes.length) ∧ W = w' := fun W hW => Len_g (h.same hW (by simp))
  have hr1 := h.ok.room
  have hr2 := h.ok.most
  unfold inG
  have HR := fun W => sright_is (w := W) n
  cases hr : rightW n
  · rw [hr] at HR
    clear hr
    simp only [Bool.false_eq_true, if_false]
    have H := Lib.hid h; clear h
    go_enter Try.func55, Try.ntmps55
    go_wp2_with fail
    refine calls_named fun W0 hW0 => ?_
    have hc0 : Ch [] w W0 := by rw [hW0]; exact ((Ch.refl _ _).alloc _).alloc _
    have hbn : blk W0 (w.heap.size + 1) [.int .i64 n] := by rw [hW0]; exact blk.new' _ _ (by simp)
    have hn0 := hbn.cell (i := 0) rfl
    clear hW0
    refine (hL W0 hc0).mono ?_
    rintro e w' ⟨rfl, rfl⟩
    have HC0 := Lib.hid hc0; clear hc0
    go_wp2_with fail
    refine (HR _).mono ?_
    rintro e w' ⟨rfl, rfl⟩
    go_wp2_with fail
    go_ret2
    exact ⟨_, rfl, GVo.none H.out HC0.out⟩
  · rw [hr] at HR
    obtain ⟨k0, rfl, hk0⟩ : ∃ k0 : Nat, n = k0 ∧ k0 ≤ 17 := by
      unfold rightW at hr
      simp at hr
      exact ⟨n.toNat, by omega, by omega⟩
    clear hr
    simp only [if_true, Int.toNat_natCast]
    have hB : ∀ W, Ch [] w W → blk W w.heap.size [.pointer (some ⟨g, 0, none⟩)] → blk W (w.heap.size + 1) [.int .i64 k0] → Calls Try.prog 121 #[.pointer (some ⟨g, 0, none⟩), .func (.func 122) #[] #[.pointer (some ⟨w.heap.size + 1, 0, none⟩), .pointer (some ⟨w.heap.size, 0, none⟩)]] W fun e w' => ∃ v, e = .returned (.tuple #[v, .int .i64 (wres G (inF (G, 0) k0)).2.2]) ∧ GVo W g (wres G (inF (G, 0) k0)).1 [] F v (wres G (inF (G, 0) k0)).2.1 w' := fun W hW hbg hbn =>
      sbuildW_is (h.same hW (by simp)) 122 _ fnvsInput1 _ [] (fun W2 m hm hW2 hM => sInput1_is hM (by omega) ((hbn.ch hW2 (by simp)).cell (i := 0) rfl) ((hbg.ch hW2 (by simp)).cell (i := 0) rfl) (fun hk => by
        have h1 := hbg.lt
        simp only [List.mem_cons] at hk
        rcases hk with e | e
        · omega
        · have := hFl _ e; omega))
    have HB := Lib.hid hB; clear hB
    generalize wres G (inF (G, 0) k0) = R at *
    have H := Lib.hid h; clear h
    go_enter Try.func55, Try.ntmps55
    go_wp2_with fail
    refine calls_named fun W0 hW0 => ?_
    have hc0 : Ch [] w W0 := by rw [hW0]; exact ((Ch.refl _ _).alloc _).alloc _
    have hbg : blk W0 w.heap.size [.pointer (some ⟨g, 0, none⟩)] := by rw [hW0]; exact (blk.new' _ _ (by simp)).alloc _
    have hbn : blk W0 (w.heap.size + 1) [.int .i64 k0] := by rw [hW0]; exact blk.new' _ _ (by simp)
    have hn0 := hbn.cell (i := 0) rfl
    have hg0 := hbg.cell (i := 0) rfl
    clear hW0
    refine (hL W0 hc0).mono ?_
    rintro e w' ⟨rfl, rfl⟩
    have HBB := HB.out W0 hc0 hbg hbn
    have HC0 := Lib.hid hc0; clear hc0
    clear hbg hbn
    go_wp2_with fail
    refine (HR _).mono ?_
    rintro e w' ⟨rfl, rfl⟩
    go_wp2_with fail
    refine HBB.mono ?_
    rintro e w1 ⟨v, rfl, hg⟩
    have HG := Lib.hid hg; clear hg
    go_wp2_with fail
    go_ret2
    exact ⟨v, rfl, GVo.since HC0.out HG.out⟩
end
end Go.Proofs.Ytkedpifopclipaa
namespace Go.Proofs.Ytkedpifopclipaa
open Go.RowKit Go.Mem Go.Aig
section
variable {w0 w : World} {g : Nat} {G : Gra} {F : List Nat}
theorem row.slN {e : TypeId} {v : Value} {n : Nat} {l : List Nat} {a : Option Addr} {m c : Nat} (h : row w e 1 v n (refsCells l)) (hv : v = .slice a m c) (hn : n ≤ 1000000) : Sl w a (l.map fun (r : Nat) => (r : Int)) := by
  subst hv
  have h1 := h.1
  simp [refsCells] at h1
  refine ⟨fun i x hx => ?_, by simp; omega⟩
  rcases h.2 with ⟨e1, e2⟩ | ⟨b, cap, cur, e1, _⟩
  · subst e2
    have hl : l = [] := List.length_eq_zero_iff.1 h1
    subst hl
    simp at hx
  · cases e1
    refine ⟨b, 0, rfl, ?_⟩
    have := h.cells (g := b) rfl i (.int .i64 x) (by
      simp only [refsCells, List.getElem?_map, Option.map_eq_some_iff] at hx ⊢
      obtain ⟨r, hr, rfl⟩ := hx
      exact ⟨r, hr, rfl⟩)
    rw [Addr.add_lit] at this
    simpa using this
theorem New_c (n : Nat) (h1 : 1 ≤ n) (h2 : n ≤ 65536) (hc : Ch [] w0 w) :
    Calls Try.prog 54 #[.int .i64 n] w fun e w' => ∃ g F, e = .returned (.tuple #[.pointer (some ⟨g, 0, none⟩), .int .i64 0]) ∧ Own w0 w' g (newG n) F := by
  refine (New_yes n h1 h2).mono ?_
  rintro e w' ⟨g, F, rfl, hg, hF, hch⟩
  exact ⟨g, F, rfl, hg, fun k hk => Nat.le_trans hc.size (hF k hk), hc.trans hch (by simp)⟩
theorem Input_c (h : Own w0 w g G F) {G' : Gra} {r e : Int} (hr : ((doInput G).2.1 : Int) = r) (he : ((doInput G).2.2 : Int) = e) (hG : (doInput G).1 = G') :
    Calls Try.prog 78 #[.pointer (some ⟨g, 0, none⟩)] w fun en w' => en = .returned (.tuple #[.int .i64 r, .int .i64 e]) ∧ ∃ F', Own w0 w' g G' F' := by
  subst hr he hG
  exact (Input_g h.gin).mono fun en w' ⟨h1, h2⟩ => ⟨h1, h.to h2⟩
theorem And_c (h : Own w0 w g G F) (a b : Int) (ba : a ≤ 9223372036854775807) (bb : b ≤ 9223372036854775807) {G' : Gra} {r e : Int} (hr : ((doAnd G a b).2.1 : Int) = r) (he : ((doAnd G a b).2.2 : Int) = e) (hG : (doAnd G a b).1 = G') :
    Calls Try.prog 69 #[.pointer (some ⟨g, 0, none⟩), .int .i64 a, .int .i64 b] w fun en w' => en = .returned (.tuple #[.int .i64 r, .int .i64 e]) ∧ ∃ F', Own w0 w' g G' F' := by
  subst hr he hG
  exact (And_g h.gin a b ba bb).mono fun en w' ⟨h1, h2⟩ => ⟨h1, h.to h2⟩
theorem Or_c (h : Own w0 w g G F) (a b : Int) (ba : a ≤ 9223372036854775807) (bb : b ≤ 9223372036854775807) {G' : Gra} {r e : Int} (hr : ((doOr G a b).2.1 : Int) = r) (he : ((doOr G a b).2.2 : Int) = e) (hG : (doOr G a b).1 = G') :
    Calls Try.prog 70 #[.pointer (some ⟨g, 0, none⟩), .int .i64 a, .int .i64 b] w fun en w' => en = .returned (.tuple #[.int .i64 r, .int .i64 e]) ∧ ∃ F', Own w0 w' g G' F' := by
  subst hr he hG
  exact (Or_g h.gin a b ba bb).mono fun en w' ⟨h1, h2⟩ => ⟨h1, h.to h2⟩
theorem Xor_c (h : Own w0 w g G F) (a b : Int) (ba : a ≤ 9223372036854775807) (bb : b ≤ 9223372036854775807) {G' : Gra} {r e : Int} (hr : ((doXor G a b).2.1 : Int) = r) (he : ((doXor G a b).2.2 : Int) = e) (hG : (doXor G a b).1 = G') :
    Calls Try.prog 194 #[.pointer (some ⟨g, 0, none⟩), .int .i64 a, .int .i64 b] w fun en w' => en = .returned (.tuple #[.int .i64 r, .int .i64 e]) ∧ ∃ F', Own w0 w' g G' F' := by
  subst hr he hG
  exact (Xor_g h.gin a b ba bb).mono fun en w' ⟨h1, h2⟩ => ⟨h1, h.to h2⟩
theorem Sides_c (h : Own w0 w g G F) (a : Int) (ba : a ≤ 9223372036854775807) {l r : Int} {b : Bool} (hl : (lOf G.nodes a : Int) = l) (hr : (rOf G.nodes a : Int) = r) (hb : isAndAt G.nodes a = b) :
    Calls Try.prog 102 #[.pointer (some ⟨g, 0, none⟩), .int .i64 a] w fun en w' => en = .returned (.tuple #[.int .i64 l, .int .i64 r, .bool b]) ∧ Own w0 w' g G F := by
  subst hl hr hb
  exact (Sides_g h.gin a ba).mono fun en w' ⟨h1, h2⟩ => ⟨h1, h.same h2⟩
def aw1 : Gra := ⟨99, [⟨1, 0, 0, 0⟩, ⟨2, 0, 0, 0⟩]⟩
def aw2 : Gra := ⟨99, [⟨1, 0, 0, 0⟩, ⟨2, 0, 0, 0⟩, ⟨2, 0, 0, 0⟩]⟩
def aw3 : Gra := ⟨99, [⟨1, 0, 0, 0⟩, ⟨2, 0, 0, 0⟩, ⟨2, 0, 0, 0⟩, ⟨3, 2, 4, 1⟩]⟩
def aw4 : Gra := ⟨99, [⟨1, 0, 0, 0⟩, ⟨2, 0, 0, 0⟩, ⟨2, 0, 0, 0⟩, ⟨3, 2, 4, 1⟩, ⟨3, 3, 5, 1⟩]⟩
def aw5 : Gra := ⟨99, [⟨1, 0, 0, 0⟩, ⟨2, 0, 0, 0⟩, ⟨2, 0, 0, 0⟩, ⟨3, 2, 4, 1⟩, ⟨3, 3, 5, 1⟩, ⟨3, 2, 5, 1⟩, ⟨3, 3, 4, 1⟩, ⟨3, 11, 13, 2⟩]⟩
def ah1 : Gra := ⟨4, [⟨1, 0, 0, 0⟩, ⟨2, 0, 0, 0⟩]⟩
def ah2 : Gra := ⟨4, [⟨1, 0, 0, 0⟩, ⟨2, 0, 0, 0⟩, ⟨2, 0, 0, 0⟩]⟩
end
end Go.Proofs.Ytkedpifopclipaa
namespace Go.Aig
def natInts (l : List Nat) : List Int := l.map fun (r : Nat) => (r : Int)
@[simp] theorem natInts_len (l : List Nat) : (natInts l).length = l.length := by simp [natInts]
end Go.Aig
namespace Go.Proofs.Ytkedpifopclipaa
open Go.RowKit Go.Mem Go.Aig
theorem refs_natInts (l : List Nat) : refsCells l = intCells (natInts l) := by simp [refsCells, intCells, natInts]
/-- a word that is held: its own array, apart from the graph's blocks -/
structure Held (w0 w : World) (F : List Nat) (v : Value) (l : List Int) : Prop where
  row : row w 45 1 v l.length (intCells l)
  len : l.length ≤ 1000000
  bd : ∀ r ∈ l, -9223372036854775808 ≤ r ∧ r ≤ 9223372036854775807
  own : ∀ k, v.ownBlock = some k → w0.heap.size ≤ k ∧ k ∉ F
theorem Held.keep {w0 w w' : World} {F F' : List Nat} {v : Value} {l : List Int} (h : Held w0 w F v l) (hc : Ch F w w') (hF : ∀ k ∈ F', k ∈ F ∨ w.heap.size ≤ k) : Held w0 w' F' v l :=
  ⟨h.row.ch hc (fun k hk => (h.own k hk).2), h.len, h.bd, fun k hk => ⟨(h.own k hk).1, fun hk2 => (hF k hk2).elim (h.own k hk).2 (fun e => by have := (h.row.lt k hk).2; omega)⟩⟩
theorem Held.in {w0 w : World} {F : List Nat} {a : Option Addr} {c n : Nat} {l : List Int} (h : Held w0 w F (.slice a n c) l) (hn : l.length = n) : WVin w F ⟨a, l, c⟩ := by
  have hr := h.row
  rw [hn] at hr
  refine ⟨⟨?_, h.bd, h.len⟩, fun k hk => ?_⟩
  · exact Sl.of_ints hr (by have := h.len; omega)
  · cases a with
    | none => simp [ablk] at hk
    | some p =>
      simp only [ablk, List.mem_singleton] at hk
      subst hk
      exact ⟨(h.own p.block rfl).2, (h.row.lt p.block rfl).2⟩
theorem Held.cap {w0 w : World} {F : List Nat} {a : Option Addr} {c n : Nat} {l : List Int} (h : Held w0 w F (.slice a n c) l) : n ≤ c := by
  rcases h.row.2 with ⟨e, _⟩ | ⟨g, cap, cur, e, _, _, hle, _⟩
  · cases e; omega
  · cases e; exact hle
/-- where a walk began, and blocks that are kept as they are -/
structure Base where
  w : World
  K : List (Nat × List Value) := []
instance : Coe World Base := ⟨fun w => ⟨w, []⟩⟩
def Base.add (B : Base) (b : Nat) (xs : List Value) : Base := ⟨B.w, (b, xs) :: B.K⟩
/-- what is known along a walk: the graph, the words that are held, the blocks that are kept -/
structure Hold (w0 : Base) (w : World) (g : Nat) (G : Gra) (F : List Nat) (L : List (Value × List Int)) : Prop where
  own : Own w0.w w g G F
  held : ∀ p ∈ L, Held w0.w w F p.1 p.2
  kept : ∀ p ∈ w0.K, blk w p.1 p.2 ∧ w0.w.heap.size ≤ p.1 ∧ p.1 ∉ F
section
variable {w0 : Base} {w : World} {g : Nat} {G : Gra} {F : List Nat} {L : List (Value × List Int)}
theorem Hold.same {w' : World} (h : Hold w0 w g G F L) (hc : Ch [] w w') : Hold w0 w' g G F L :=
  ⟨h.own.same hc, fun p hp => (h.held p hp).keep (hc.mono (by simp)) (fun _ hk => .inl hk), fun p hp => ⟨(h.kept p hp).1.ch hc (by simp), (h.kept p hp).2⟩⟩
theorem Hold.keptTo {w' : World} {F' : List Nat} (h : Hold w0 w g G F L) (h2 : Ch F w w') (h3 : ∀ k ∈ F', k ∈ F ∨ w.heap.size ≤ k) : ∀ p ∈ w0.K, blk w' p.1 p.2 ∧ w0.w.heap.size ≤ p.1 ∧ p.1 ∉ F' := fun p hp => by
  obtain ⟨k1, k2, k3⟩ := h.kept p hp
  exact ⟨k1.ch h2 k3, k2, fun hin => (h3 _ hin).elim k3 (fun e => by have := k1.lt; omega)⟩
theorem Hold.to {w' : World} {G' : Gra} (h : Hold w0 w g G F L) (ht : GTo w g G' F w') : ∃ F', Hold w0 w' g G' F' L := by
  obtain ⟨F', h1, h2, h3, _⟩ := ht
  exact ⟨F', ⟨h1, fun k hk => (h3 k hk).elim (h.own.own k) (fun e => Nat.le_trans h.own.ch.size e), h.own.ch.trans h2 (fun k hk => .inr (h.own.own k hk))⟩, fun p hp => (h.held p hp).keep h2 h3, h.keptTo h2 h3⟩
theorem Hold.word {w' : World} {G' : Gra} {v : Value} {l : List Nat} (h : Hold w0 w g G F L) (ht : GVo w g G' [] F v l w') (hb : ∀ r ∈ l, r ≤ 1000000) (hl : l.length ≤ 1000000) : ∃ a c F', v = .slice a l.length c ∧ Hold w0 w' g G' F' ((.slice a l.length c, natInts l) :: L) := by
  obtain ⟨F', h1, h2, h3, h4, h5, h6⟩ := ht
  obtain ⟨a, c, rfl⟩ := row.shape h5
  obtain ⟨k1, k2⟩ := (h.to (G' := G') ⟨F', h1, h2, h3, h4⟩ : ∃ F', Hold w0 w' g G' F' L)
  refine ⟨a, c, F', rfl, ⟨⟨h1, fun k hk => (h3 k hk).elim (h.own.own k) (fun e => Nat.le_trans h.own.ch.size e), h.own.ch.trans h2 (fun k hk => .inr (h.own.own k hk))⟩, fun p hp => ?_, h.keptTo h2 h3⟩⟩
  rcases List.mem_cons.1 hp with rfl | hp
  · refine ⟨?_, by simpa using hl, fun r hr => ?_, fun k hk => ⟨Nat.le_trans h.own.ch.size (h6 k hk).1, (h6 k hk).2⟩⟩
    · simp only [natInts_len]
      rw [← refs_natInts]
      exact h5
    · obtain ⟨q, hq, rfl⟩ := List.mem_map.1 hr
      have := hb q hq
      omega
  · exact (h.held p hp).keep h2 h3
theorem Hold.new {w' : World} {v : Value} {l : List Int} (h : Hold w0 w g G F L) (ht : WNew w v (intCells l) w') (hb : ∀ r ∈ l, -9223372036854775808 ≤ r ∧ r ≤ 9223372036854775807) (hl : l.length ≤ 1000000) : ∃ a c, v = .slice a l.length c ∧ Hold w0 w' g G F ((.slice a l.length c, l) :: L) := by
  obtain ⟨h5, h6, h2⟩ := ht
  have e : (intCells l).length = l.length := by simp [intCells]
  rw [e] at h5
  obtain ⟨a, c, rfl⟩ := row.shape h5
  refine ⟨a, c, rfl, (h.same h2).own, fun p hp => ?_, (h.same h2).kept⟩
  rcases List.mem_cons.1 hp with rfl | hp
  · exact ⟨h5, hl, hb, fun k hk => ⟨Nat.le_trans h.own.ch.size (h6 k (by simpa using hk)), fun hk2 => by have := h.own.gin.lt k hk2; have := h6 k (by simpa using hk); omega⟩⟩
  · exact (h.same h2).held p hp
theorem Hold.at (h : Hold w0 w g G F L) {a : Option Addr} {n c : Nat} {l : List Int} (hp : (.slice a n c, l) ∈ L) (hn : l.length = n) : WVin w F ⟨a, l, c⟩ := (h.held _ hp).in hn
theorem Hold.sl (h : Hold w0 w g G F L) {a : Option Addr} {n c : Nat} {l : List Int} (hp : (.slice a n c, l) ∈ L) (hn : l.length = n) : Sl w a l := (h.at hp hn).ok.sl
theorem Hold.start {w0 : World} (h : Own w0 w g G F) : Hold w0 w g G F [] := ⟨h, by simp, fun p hp => by cases hp⟩
/-- a block is kept from now on -/
theorem Hold.keepB {b : Nat} {xs : List Value} (h : Hold w0 w g G F L) (hb : blk w b xs) (h0 : w0.w.heap.size ≤ b) (hF : b ∉ F) : Hold (w0.add b xs) w g G F L :=
  ⟨h.own, h.held, fun p hp => by
    rcases List.mem_cons.1 hp with rfl | hp
    · exact ⟨hb, h0, hF⟩
    · exact h.kept p hp⟩
theorem Hold.keepN {w' : World} {xs : List Value} (h : Hold w0 w g G F L) (hc : Ch [] w w') (hb : blk w' w.heap.size xs) : Hold (w0.add w.heap.size xs) w' g G F L :=
  (h.same hc).keepB hb h.own.ch.size (fun hin => Nat.lt_irrefl _ (h.own.gin.lt _ hin))
theorem Hold.dropB {b : Nat} {xs : List Value} (h : Hold (w0.add b xs) w g G F L) : Hold w0 w g G F L := ⟨h.own, h.held, fun p hp => h.kept p (List.mem_cons_of_mem _ hp)⟩
theorem Hold.kb0 {b : Nat} {xs : List Value} (h : Hold (w0.add b xs) w g G F L) : Go.Mem.blk w b xs := (h.kept (b, xs) (List.mem_cons_self ..)).1
theorem Hold.kb1 {b c : Nat} {xs ys : List Value} (h : Hold ((w0.add b xs).add c ys) w g G F L) : Go.Mem.blk w b xs := (h.kept (b, xs) (List.mem_cons_of_mem _ (List.mem_cons_self ..))).1
theorem Hold.kb {b : Nat} {xs : List Value} (h : Hold w0 w g G F L) (hm : (b, xs) ∈ w0.K) : blk w b xs := (h.kept _ hm).1
end
end Go.Proofs.Ytkedpifopclipaa
namespace Go.Proofs.Ytkedpifopclipaa
open Go.RowKit Go.Mem Go.Aig
section
variable {w0 : Base} {w : World} {g : Nat} {G : Gra} {F : List Nat} {L : List (Value × List Int)}
theorem Calls.word {fid : FuncId} {args : Array Value} (h : Hold w0 w g G F L) {R : Gra × List Nat × Nat} (hC : Calls Try.prog fid args w fun e w' => ∃ v, e = .returned (.tuple #[v, .int .i64 R.2.2]) ∧ GVo w g R.1 [] F v R.2.1 w') {G' : Gra} {l : List Nat} {e k : Nat} (hR : R = (G', l, e)) (hk : l.length = k) (hb : ∀ r ∈ l, r ≤ 1000000) (hl : k ≤ 1000000) :
    Calls Try.prog fid args w fun en w' => ∃ a c F', en = .returned (.tuple #[.slice a k c, .int .i64 e]) ∧ Hold w0 w' g G' F' ((.slice a k c, natInts l) :: L) := by
  subst hR hk
  refine hC.mono ?_
  rintro en w' ⟨v, rfl, hg⟩
  obtain ⟨a, c, F', rfl, hh⟩ := h.word hg hb hl
  exact ⟨a, c, F', rfl, hh⟩
theorem Calls.ref {fid : FuncId} {args : Array Value} (h : Hold w0 w g G F L) {R : Res} (hC : Calls Try.prog fid args w fun e w' => e = .returned (.tuple #[.int .i64 R.2.1, .int .i64 R.2.2]) ∧ GTo w g R.1 F w') {G' : Gra} {r e : Nat} (hR : R = (G', r, e)) :
    Calls Try.prog fid args w fun en w' => ∃ F', en = .returned (.tuple #[.int .i64 r, .int .i64 e]) ∧ Hold w0 w' g G' F' L := by
  subst hR
  refine hC.mono ?_
  rintro en w' ⟨rfl, hg⟩
  obtain ⟨F', hh⟩ := h.to hg
  exact ⟨F', rfl, hh⟩
theorem Calls.wnew {fid : FuncId} {args : Array Value} (h : Hold w0 w g G F L) {l : List Int} {e : Nat} (hC : Calls Try.prog fid args w fun en w' => ∃ v, en = .returned (.tuple #[v, .int .i64 e]) ∧ WNew w v (intCells l) w') {k : Nat} (hk : l.length = k) (hb : ∀ r ∈ l, -9223372036854775808 ≤ r ∧ r ≤ 9223372036854775807) (hl : k ≤ 1000000) :
    Calls Try.prog fid args w fun en w' => ∃ a c, en = .returned (.tuple #[.slice a k c, .int .i64 e]) ∧ Hold w0 w' g G F ((.slice a k c, l) :: L) := by
  subst hk
  refine hC.mono ?_
  rintro en w' ⟨v, rfl, hg⟩
  obtain ⟨a, c, rfl, hh⟩ := h.new hg hb hl
  exact ⟨a, c, rfl, hh⟩
theorem sAdd_h (h : Hold w0 w g G F L) {xa ya : Option Addr} {xl yl : List Int} {n m xc yc : Nat} (hx : (.slice xa n xc, xl) ∈ L) (hxn : xl.length = n) (hy : (.slice ya m yc, yl) ∈ L) (hym : yl.length = m) {G' : Gra} {l : List Nat} {e k : Nat} (hR : wordG G [xl, yl] (sumW xl.length (G, 0) ((nats xl).zip (nats yl)) 0) = (G', l, e)) (hk : l.length = k) (hb : ∀ r ∈ l, r ≤ 1000000) (hl : k ≤ 1000000) :
    Calls Try.prog 65 #[.pointer (some ⟨g, 0, none⟩), .slice xa n xc, .slice ya m yc] w fun en w' => ∃ a c F', en = .returned (.tuple #[.slice a k c, .int .i64 e]) ∧ Hold w0 w' g G' F' ((.slice a k c, natInts l) :: L) := by
  have hc := sAdd_is h.own.gin (h.at hx hxn) (h.at hy hym)
  simp only [WV.val, hxn, hym] at hc
  exact Calls.word h hc (by simpa only [hxn] using hR) hk hb hl
theorem sSub_h (h : Hold w0 w g G F L) {xa ya : Option Addr} {xl yl : List Int} {n m xc yc : Nat} (hx : (.slice xa n xc, xl) ∈ L) (hxn : xl.length = n) (hy : (.slice ya m yc, yl) ∈ L) (hym : yl.length = m) {G' : Gra} {l : List Nat} {e k : Nat} (hR : subG G xl yl = (G', l, e)) (hk : l.length = k) (hb : ∀ r ∈ l, r ≤ 1000000) (hl : k ≤ 1000000) :
    Calls Try.prog 188 #[.pointer (some ⟨g, 0, none⟩), .slice xa n xc, .slice ya m yc] w fun en w' => ∃ a c F', en = .returned (.tuple #[.slice a k c, .int .i64 e]) ∧ Hold w0 w' g G' F' ((.slice a k c, natInts l) :: L) := by
  have hc := sSub_is h.own.gin (h.at hx hxn) (h.at hy hym)
  simp only [WV.val, hxn, hym] at hc
  exact Calls.word h hc (by simpa only [subG, hxn] using hR) hk hb hl
theorem sNe_h (h : Hold w0 w g G F L) {xa ya : Option Addr} {xl yl : List Int} {n m xc yc : Nat} (hx : (.slice xa n xc, xl) ∈ L) (hxn : xl.length = n) (hy : (.slice ya m yc, yl) ∈ L) (hym : yl.length = m) {G' : Gra} {r e : Nat} (hR : refG G [xl, yl] (neF (G, 0) ((nats xl).zip (nats yl))) = (G', r, e)) :
    Calls Try.prog 133 #[.pointer (some ⟨g, 0, none⟩), .slice xa n xc, .slice ya m yc] w fun en w' => ∃ F', en = .returned (.tuple #[.int .i64 r, .int .i64 e]) ∧ Hold w0 w' g G' F' L := by
  have hc := sNe_is h.own.gin (h.at hx hxn) (h.at hy hym)
  simp only [WV.val, hxn, hym] at hc
  exact Calls.ref h hc (hR)
theorem sLt_h (h : Hold w0 w g G F L) {xa ya : Option Addr} {xl yl : List Int} {n m xc yc : Nat} (hx : (.slice xa n xc, xl) ∈ L) (hxn : xl.length = n) (hy : (.slice ya m yc, yl) ∈ L) (hym : yl.length = m) {G' : Gra} {r e : Nat} (hR : refG G [xl, yl] (ltF (G, 0) ((nats xl).zip (nats yl))) = (G', r, e)) :
    Calls Try.prog 67 #[.pointer (some ⟨g, 0, none⟩), .slice xa n xc, .slice ya m yc] w fun en w' => ∃ F', en = .returned (.tuple #[.int .i64 r, .int .i64 e]) ∧ Hold w0 w' g G' F' L := by
  have hc := sLt_is h.own.gin (h.at hx hxn) (h.at hy hym)
  simp only [WV.val, hxn, hym] at hc
  exact Calls.ref h hc (hR)
theorem sEq_h (h : Hold w0 w g G F L) {xa ya : Option Addr} {xl yl : List Int} {n m xc yc : Nat} (hx : (.slice xa n xc, xl) ∈ L) (hxn : xl.length = n) (hy : (.slice ya m yc, yl) ∈ L) (hym : yl.length = m) {G' : Gra} {r e : Nat} (hR : negG (refG G [xl, yl] (neF (G, 0) ((nats xl).zip (nats yl)))) = (G', r, e)) :
    Calls Try.prog 66 #[.pointer (some ⟨g, 0, none⟩), .slice xa n xc, .slice ya m yc] w fun en w' => ∃ F', en = .returned (.tuple #[.int .i64 r, .int .i64 e]) ∧ Hold w0 w' g G' F' L := by
  have hc := sEq_is h.own.gin (h.at hx hxn) (h.at hy hym)
  simp only [WV.val, hxn, hym] at hc
  exact Calls.ref h hc (hR)
theorem sLe_h (h : Hold w0 w g G F L) {xa ya : Option Addr} {xl yl : List Int} {n m xc yc : Nat} (hx : (.slice xa n xc, xl) ∈ L) (hxn : xl.length = n) (hy : (.slice ya m yc, yl) ∈ L) (hym : yl.length = m) {G' : Gra} {r e : Nat} (hR : negG (refG G [yl, xl] (ltF (G, 0) ((nats yl).zip (nats xl)))) = (G', r, e)) :
    Calls Try.prog 187 #[.pointer (some ⟨g, 0, none⟩), .slice xa n xc, .slice ya m yc] w fun en w' => ∃ F', en = .returned (.tuple #[.int .i64 r, .int .i64 e]) ∧ Hold w0 w' g G' F' L := by
  have hc := sLe_is h.own.gin (h.at hx hxn) (h.at hy hym)
  simp only [WV.val, hxn, hym] at hc
  exact Calls.ref h hc (hR)
theorem sAny_h (h : Hold w0 w g G F L) {xa : Option Addr} {xl : List Int} {n xc : Nat} (hx : (.slice xa n xc, xl) ∈ L) (hxn : xl.length = n) {G' : Gra} {r e : Nat} (hR : refG G [xl] (sAny (G, 0) (nats xl)) = (G', r, e)) :
    Calls Try.prog 68 #[.pointer (some ⟨g, 0, none⟩), .slice xa n xc] w fun en w' => ∃ F', en = .returned (.tuple #[.int .i64 r, .int .i64 e]) ∧ Hold w0 w' g G' F' L := by
  have hc := sAny_is h.own.gin (h.at hx hxn)
  simp only [WV.val, hxn] at hc
  exact Calls.ref h hc hR
theorem sInput_h (h : Hold w0 w g G F L) (i : Int) {G' : Gra} {l : List Nat} {e k : Nat} (hR : inG G i = (G', l, e)) (hk : l.length = k) (hb : ∀ r ∈ l, r ≤ 1000000) (hl : k ≤ 1000000) :
    Calls Try.prog 55 #[.pointer (some ⟨g, 0, none⟩), .int .i64 i] w fun en w' => ∃ a c F', en = .returned (.tuple #[.slice a k c, .int .i64 e]) ∧ Hold w0 w' g G' F' ((.slice a k c, natInts l) :: L) := Calls.word h (sInput_is h.own.gin i) hR hk hb hl
theorem sConst_h (h : Hold w0 w g G F L) (x : Nat) (hx : x < 4294967296) (n : Nat) (hn : rightW n = true) :
    Calls Try.prog 116 #[.int .u32 x, .int .i64 n] w fun en w' => ∃ a c, en = .returned (.tuple #[.slice a n c, .int .i64 0]) ∧ Hold w0 w' g G F ((.slice a n c, natInts (constL x n)) :: L) := by
  have hc := sConst_is (w := w) x hx n
  rw [hn] at hc
  simp only [if_true, refs_natInts, Int.toNat_natCast] at hc
  have hb : ∀ r ∈ natInts (constL x n), -9223372036854775808 ≤ r ∧ r ≤ 9223372036854775807 := fun r hr => by
    obtain ⟨q, hq, rfl⟩ := List.mem_map.1 hr
    obtain ⟨i, _, rfl⟩ := List.mem_map.1 hq
    cases x.testBit i <;> decide
  have hn2 : n ≤ 17 := by unfold rightW at hn; simp at hn; omega
  exact Calls.wnew h hc (by simp [constL]) hb (by omega)
theorem Eqref_h (h : Hold w0 w g G F L) {xa ya : Option Addr} {xl yl : List Int} {n m xc yc : Nat} (hx : (.slice xa n xc, xl) ∈ L) (hxn : xl.length = n) (hy : (.slice ya m yc, yl) ∈ L) (hym : yl.length = m) {q : Bool} (hq : decide (xl = yl) = q) : Calls Try.prog 59 #[.slice xa n xc, .slice ya m yc] w fun e w' => e = .returned (.bool q) ∧ Hold w0 w' g G F L := by
  subst hq
  have hc := Eqref_is (w := w) xc yc (h.sl hx hxn) (h.sl hy hym)
  simp only [hxn, hym] at hc
  refine hc.mono ?_
  rintro e w' ⟨rfl, hc⟩
  exact ⟨rfl, h.same hc⟩
theorem Eqref_c (h : Hold w0 w g G F L) {xa : Option Addr} {xl : List Int} {n xc : Nat} (hx : (.slice xa n xc, xl) ∈ L) (hxn : xl.length = n) {b m : Nat} {ys : List Int} (hb : blk w b (intCells ys)) (hm : ys.length = m) (hm2 : m ≤ 1000000) {q : Bool} (hq : decide (xl = ys) = q) : Calls Try.prog 59 #[.slice xa n xc, .slice (some ⟨b, 0, none⟩) m m] w fun e w' => e = .returned (.bool q) ∧ Hold w0 w' g G F L := by
  subst hq
  have hs : Sl w (some ⟨b, 0, none⟩) ys := ⟨fun i x hx => ⟨b, 0, rfl, by rw [Nat.zero_add]; exact hb.cell (by simp [intCells, hx])⟩, by omega⟩
  have hc := Eqref_is (w := w) xc m (h.sl hx hxn) hs
  simp only [hxn, hm] at hc
  refine hc.mono ?_
  rintro e w' ⟨rfl, hc⟩
  exact ⟨rfl, h.same hc⟩
theorem sValue_c (h : Hold w0 w g G F L) {xa : Option Addr} {xl : List Int} {n xc : Nat} (hx : (.slice xa n xc, xl) ∈ L) (hxn : xl.length = n) {b m : Nat} {l : List Bool} (hb : blk w b (l.map Value.bool)) (hm : l.length = m) (hm2 : m ≤ 1000000) {v e : Nat} (hv : (if 1 ≤ l.length ∧ l.length ≤ 16 ∧ l.length = n then bitsVal l else 0 : Nat) = v) (he : (if 1 ≤ l.length ∧ l.length ≤ 16 ∧ l.length = n then 0 else 230 : Nat) = e) :
    Calls Try.prog 179 #[.slice xa n xc, .slice (some ⟨b, 0, none⟩) m m] w fun en w' => en = .returned (.tuple #[.int .u32 v, .int .i64 e]) ∧ Hold w0 w' g G F L := by
  subst hv he
  have hs : Sb w (some ⟨b, 0, none⟩) l := ⟨fun i x hx => ⟨b, 0, rfl, by rw [Nat.zero_add]; exact hb.cell hx⟩, by rw [List.length_map]; omega⟩
  have hc := sValue_is (x := ⟨xa, xl, xc⟩) (h.at hx hxn).ok.len m (by omega) hs
  simp only [WV.val, hxn, hm] at hc ⊢
  refine hc.mono ?_
  rintro en w' ⟨rfl, rfl⟩
  exact ⟨rfl, h⟩
end
end Go.Proofs.Ytkedpifopclipaa
namespace Go.Proofs.Ytkedpifopclipaa
open Go.RowKit Go.Mem Go.Aig
def sa2 : Gra := ⟨50, [⟨1, 0, 0, 0⟩, ⟨2, 0, 0, 0⟩, ⟨2, 0, 0, 0⟩]⟩
def sa3 : Gra := ⟨50, [⟨1, 0, 0, 0⟩, ⟨2, 0, 0, 0⟩, ⟨2, 0, 0, 0⟩, ⟨2, 0, 0, 0⟩, ⟨2, 0, 0, 0⟩]⟩
def sa4 : Gra := ⟨50, [⟨1, 0, 0, 0⟩, ⟨2, 0, 0, 0⟩, ⟨2, 0, 0, 0⟩, ⟨2, 0, 0, 0⟩, ⟨2, 0, 0, 0⟩, ⟨3, 2, 7, 1⟩, ⟨3, 3, 6, 1⟩, ⟨3, 11, 13, 2⟩, ⟨3, 4, 9, 1⟩, ⟨3, 5, 8, 1⟩, ⟨3, 17, 19, 2⟩]⟩
def sa5 : Gra := ⟨50, [⟨1, 0, 0, 0⟩, ⟨2, 0, 0, 0⟩, ⟨2, 0, 0, 0⟩, ⟨2, 0, 0, 0⟩, ⟨2, 0, 0, 0⟩, ⟨3, 2, 7, 1⟩, ⟨3, 3, 6, 1⟩, ⟨3, 11, 13, 2⟩, ⟨3, 4, 9, 1⟩, ⟨3, 5, 8, 1⟩, ⟨3, 17, 19, 2⟩, ⟨3, 2, 4, 1⟩]⟩
section
theorem New_h {w : World} (n : Nat) (h1 : 1 ≤ n) (h2 : n ≤ 65536) :
    Calls Try.prog 54 #[.int .i64 n] w fun e w' => ∃ g F, e = .returned (.tuple #[.pointer (some ⟨g, 0, none⟩), .int .i64 0]) ∧ Hold w w' g (newG n) F [] := by
  refine (New_c (w0 := w) n h1 h2 (Ch.refl _ _)).mono ?_
  rintro e w' ⟨g, F, rfl, ho⟩
  exact ⟨g, F, rfl, .start ho⟩
theorem Hold.ch {w0 : Base} {w : World} {g : Nat} {G : Gra} {F : List Nat} {L : List (Value × List Int)} (h : Hold w0 w g G F L) : Ch [] w0.w w := h.own.ch
theorem Len_h {w0 : Base} {w : World} {g : Nat} {G : Gra} {F : List Nat} {L : List (Value × List Int)} (h : Hold w0 w g G F L) {n : Nat} (hn : G.nodes.length = n) : Calls Try.prog 26 #[.pointer (some ⟨g, 0, none⟩)] w fun e w' => e = .returned (.int .i64 n) ∧ Hold w0 w' g G F L := by
  subst hn
  exact (Len_g h.own.gin).mono fun e w' ⟨h1, h2⟩ => ⟨h1, h2 ▸ h⟩
theorem And_h {w0 : Base} {w : World} {g : Nat} {G : Gra} {F : List Nat} {L : List (Value × List Int)} (h : Hold w0 w g G F L) (a b : Int) (ba : a ≤ 9223372036854775807) (bb : b ≤ 9223372036854775807) {G' : Gra} {r e : Nat} (hR : doAnd G a b = (G', r, e)) :
    Calls Try.prog 69 #[.pointer (some ⟨g, 0, none⟩), .int .i64 a, .int .i64 b] w fun en w' => ∃ F', en = .returned (.tuple #[.int .i64 r, .int .i64 e]) ∧ Hold w0 w' g G' F' L := Calls.ref h (And_g h.own.gin a b ba bb) hR
end
end Go.Proofs.Ytkedpifopclipaa
namespace Go.Aig
/-- a graph of inputs alone -/
def gIn (most n : Nat) : Gra := ⟨most, ⟨1, 0, 0, 0⟩ :: List.replicate n ⟨2, 0, 0, 0⟩⟩
/-- the references of n inputs behind s others -/
def rIn (s n : Nat) : List Nat := (List.range n).map fun i => 2 * (s + i + 1)
theorem inF_gIn (most s : Nat) : ∀ n, s + n < most → inF (gIn most s, 0) n = ((gIn most (s + n), 0), rIn s n)
  | 0, _ => rfl
  | n + 1, h => by
    rw [inF_succ, inF_gIn most s n (by omega)]
    unfold inS sPut put
    have hl : (gIn most (s + n)).nodes.length = s + n + 1 := by simp [gIn]
    dsimp only
    rw [if_neg (by rw [hl]; show ¬ most ≤ s + n + 1; omega), rstep_ok rfl rfl, hl]
    have h1 : ({ gIn most (s + n) with nodes := (gIn most (s + n)).nodes ++ [⟨2, 0, 0, 0⟩] } : Gra) = gIn most (s + (n + 1)) := by
      unfold gIn
      show (⟨most, _⟩ : Gra) = ⟨most, _⟩
      rw [List.cons_append, ← List.replicate_succ']
      rfl
    dsimp only
    rw [h1]
    congr 1
    unfold rIn
    rw [List.range_succ, List.map_append]
    rfl
theorem inG_gIn {most s n : Nat} (h1 : 1 ≤ n) (h2 : n ≤ 17) (h : s + n < most) : inG (gIn most s) n = (gIn most (s + n), rIn s n, 0) := by
  unfold inG
  have : rightW n = true := by unfold rightW; simp; omega
  rw [this, if_pos rfl]
  simp only [Int.toNat_natCast]
  rw [inF_gIn most s n h]
  rfl
@[simp] theorem rIn_len (s n : Nat) : (rIn s n).length = n := by simp [rIn]
theorem rIn_le {s n r : Nat} (h : r ∈ rIn s n) : r ≤ 2 * (s + n) ∧ 2 ≤ r ∧ r % 2 = 0 := by
  obtain ⟨i, hi, rfl⟩ := List.mem_map.1 h
  have := List.mem_range.1 hi
  omega
end Go.Aig
namespace Go.Proofs.Ytkedpifopclipaa
open Go.RowKit Go.Mem Go.Aig
set_option maxRecDepth 100000 in
set_option maxHeartbeats 4000000 in
theorem Pair_is (w : World) (wd : Nat) (hw : wd ≤ 255) : Calls Try.prog 49 #[.int .u8 wd] w fun e w' => ∃ g F xa xc ya yc, e = .returned (.tuple #[.pointer (some ⟨g, 0, none⟩), .slice xa (wd % 5 + 1) xc, .slice ya (wd % 5 + 1) yc]) ∧
    Hold w w' g (gIn 4000 (2 * (wd % 5 + 1))) F [(.slice ya (wd % 5 + 1) yc, natInts (rIn (wd % 5 + 1) (wd % 5 + 1))), (.slice xa (wd % 5 + 1) xc, natInts (rIn 0 (wd % 5 + 1)))] := by
  obtain ⟨n, hn, hn5⟩ : ∃ n, wd % 5 + 1 = n ∧ n ≤ 5 := ⟨_, rfl, by omega⟩
  have hn1 : 1 ≤ n := by omega
  rw [hn]
  have hq : 1 + (wd : Int) % 5 = n := by omega
  have HQ := Lib.hid hq
  have hN := New_h (w := w) 4000 (by decide) (by decide)
  have HN := Lib.hid hN; clear hN
  clear hn
  go_enter Try.func49, Try.ntmps49
  go_wp2_with fail
  refine HN.out.mono ?_
  rintro e w1 ⟨g, F1, rfl, ho⟩
  have HO := Lib.hid ho; clear ho HN
  go_wp2_with fail
  refine (sInput_h HO.out n (G' := gIn 4000 n) (l := rIn 0 n) (e := 0) (k := n) (by have := inG_gIn (most := 4000) (s := 0) hn1 (by omega) (by omega); rw [Nat.zero_add] at this; exact this) (by simp) (fun r hr => by have := rIn_le hr; omega) (by omega)).mono ?_
  rintro e w2 ⟨xa, xc, F2, rfl, ho⟩
  clear HO; have HO := Lib.hid ho; clear ho
  go_wp2_with fail
  refine (sInput_h HO.out n (G' := gIn 4000 (2 * n)) (l := rIn n n) (e := 0) (k := n) (by have := inG_gIn (most := 4000) (s := n) hn1 (by omega) (by omega); rw [show n + n = 2 * n from by omega] at this; exact this) (by simp) (fun r hr => by have := rIn_le hr; omega) (by omega)).mono ?_
  rintro e w3 ⟨ya, yc, F3, rfl, ho⟩
  clear HO; have HO := Lib.hid ho; clear ho
  go_wp2_with fail
  go_ret3
  exact ⟨g, F3, xa, xc, ya, yc, rfl, HO.out⟩
end Go.Proofs.Ytkedpifopclipaa
namespace Go.Aig
/-- the reference's constants: numbers that are halved -/
def rConstL (x : Int) : Nat → List Int
  | 0 => []
  | n + 1 => rConstL x n ++ [x.tdiv (2 ^ n) % 2]
def rCastL (l : List Int) (n : Nat) : List Int := (List.range n).map fun i => l.getD i 0
theorem rCastL_succ (l : List Int) (n : Nat) : rCastL l (n + 1) = rCastL l n ++ [l.getD n 0] := by
  unfold rCastL
  rw [List.range_succ, List.map_append]; rfl
def halved (x : Nat) (n : Nat) : Nat := x / 2 ^ n
def rConstN (x n : Nat) : List Nat := (List.range n).map fun i => x / 2 ^ i % 2
theorem rConstN_succ (x n : Nat) : rConstN x (n + 1) = rConstN x n ++ [x / 2 ^ n % 2] := by
  unfold rConstN
  rw [List.range_succ, List.map_append]; rfl
theorem rConstN_eq (x n : Nat) : rConstN x n = constL x n := by
  unfold rConstN constL
  refine List.map_congr_left fun i _ => ?_
  rw [Nat.testBit_eq_decide_div_mod_eq]
  rcases Nat.mod_two_eq_zero_or_one (x / 2 ^ i) with h | h <;> rw [h] <;> rfl
theorem castL_eq {l : List Int} {n : Nat} : castL l n = rCastL l n := by
  unfold castL rCastL
  apply List.ext_getElem?
  intro i
  rw [List.getElem?_append, List.length_take, List.getElem?_take, List.getElem?_replicate, List.getElem?_map]
  by_cases h : i < n
  · rw [List.getElem?_range h]
    by_cases h2 : i < l.length
    · rw [if_pos (by omega), if_pos h, List.getElem?_eq_getElem h2]
      simp [h2]
    · rw [if_neg (by omega), if_pos (by omega)]
      have h3 : l[i]? = none := List.getElem?_eq_none (by omega)
      simp [h3]
  · rw [if_neg (by omega), if_neg (by omega)]
    have : (List.range n)[i]? = none := List.getElem?_eq_none (by rw [List.length_range]; omega)
    rw [this]; rfl
end Go.Aig
namespace Go.Proofs.Ytkedpifopclipaa
open Go.RowKit Go.Mem Go.Aig
theorem slBools : SliceTy Try.prog 56 4 1 1 (.bool false) := ⟨Try.underlying56, infoBool, rfl, by decide⟩
theorem eqSliceNilB (w : World) (a : Option Addr) (n c : Nat) : (binOp .eql 56 (.slice a n c) (.slice none 0 0)).run Try.prog w = .ok (.bool a.isNone) w := by
  have h : Try.prog.underlying 56 = some (.slice 4) := Try.underlying56
  simp only [binOp]
  simp [run_equal_slice_nil w _ _ a n c h]
attribute [local go_sem] eqSliceNilB
section
variable {w : World}
set_option maxRecDepth 100000 in
set_option maxHeartbeats 1000000 in
theorem Clbool_is {a : Option Addr} {l : List Bool} (n c : Nat) (hn : l.length = n) (h : Sb w a l) (hm : n ≤ 1000000) : Calls Try.prog 96 #[.slice a n c] w fun e w' => ∃ v, e = .returned v ∧ row w' 4 1 v n (l.map Value.bool) ∧ (∀ q ∈ v.ownBlock.toList, w.heap.size ≤ q) ∧ Ch [] w w' := by
  subst hn
  cases a with
  | none =>
    have hl : l = [] := by
      cases l with
      | nil => rfl
      | cons y l =>
        obtain ⟨b, o, e, _⟩ := h.cells 0 (.bool y) rfl
        cases e
    subst hl
    clear h
    go_enter Try.func96, Try.ntmps96
    go_wp2_with fail
    go_ret
    exact ⟨_, rfl, ⟨rfl, .inl ⟨rfl, rfl⟩⟩, by simp, Ch.refl _ _⟩
  | some p =>
    have hO : row (w.alloc (.cells #[] 4)) 4 1 (.slice (some ⟨w.heap.size, 0, none⟩) 0 0) 0 [] := ⟨rfl, .inr ⟨w.heap.size, 0, #[], rfl, by omega, heap_alloc_new w _, by omega, by unfold maxLen; omega, rfl, rfl⟩⟩
    have hN : ∀ j u, (l.map Value.bool)[j]? = some u → (w.alloc (.cells #[] 4)).cell? (p.add j) = some u := fun j u hu => by
      obtain ⟨b, o, e, hc⟩ := h.cells j u hu
      cases e
      rw [Addr.add_lit]
      exact (((Ch.refl [] w).alloc _).cell (cell_lt hc) (by simp)).trans hc
    have h1 : ∀ u ∈ l.map Value.bool, u.oneCell' = true := fun u hu => by
      obtain ⟨r, _, rfl⟩ := List.mem_map.1 hu
      rfl
    have HO := Lib.hid hO; clear hO
    have HN := Lib.hid hN; clear hN h
    have H1 := Lib.hid h1; clear h1
    go_enter Try.func96, Try.ntmps96
    go_wp2_with (at_builtin; go_loud (refine wpList_append_row slBools rfl _ _ rfl (v := .slice (some ⟨w.heap.size, 0, none⟩) 0 0) (n := 0) (xs := []) rfl HO.out (ad := p) (m := l.length) (c := c) (news := l.map Value.bool) rfl (by simp) HN.out H1.out (by omega) (by omega) ?_; intro v' w2 hown hC2 hfresh; have HOWN := Lib.hid hown; clear hown; have HC2 := Lib.hid hC2; clear hC2; have HFR := Lib.hid hfresh; clear hfresh))
    go_ret
    have hown := HOWN.out
    rw [Nat.zero_add, List.nil_append] at hown
    refine ⟨_, rfl, hown, fun k hk => ?_, (((Ch.refl [] w).alloc (.cells #[] 4))).trans HC2.out (by simp)⟩
    rcases HFR.out k (by simpa using hk) with e | e
    · simp at e; omega
    · simp at e; omega
end
end Go.Proofs.Ytkedpifopclipaa
namespace Go.Proofs.Ytkedpifopclipaa
open Go.RowKit Go.Mem Go.Aig
theorem takeB_succ {xs ys : List Bool} {k : Nat} {x y : Bool} (h : xs.take k = ys.take k) (hx : xs[k]? = some x) (hy : ys[k]? = some y) (e : x = y) : xs.take (k + 1) = ys.take (k + 1) := by
  rw [List.take_add_one, List.take_add_one, h, hx, hy, e]
theorem rowBlk {w : World} {e : TypeId} {a : Option Addr} {n c : Nat} {xs : List Value} (h : row w e 1 (.slice a n c) n xs) : ∀ j, j < n → ∃ (b : Nat) (ys : List Value), a = some ⟨b, 0, none⟩ ∧ blk w b ys ∧ n ≤ ys.length := by
  intro j hj
  rcases h.2 with ⟨e1, _⟩ | ⟨b, cap, cur, e1, _, hg, hle, _, hs, _⟩
  · cases e1; omega
  · cases e1
    exact ⟨b, cur.toList, rfl, ⟨e, by simpa using hg⟩, by simp; omega⟩
section
variable {w : World}
set_option maxRecDepth 100000 in
set_option maxHeartbeats 1000000 in
theorem Eqbool_is {a b : Option Addr} {xs ys : List Bool} (ca cb : Nat) (hx : Sb w a xs) (hy : Sb w b ys) :
    Calls Try.prog 47 #[.slice a xs.length ca, .slice b ys.length cb] w fun e w' => e = .returned (.bool (decide (xs = ys))) ∧ Ch [] w w' := by
  have hbx : xs.length ≤ 9223372036854775807 := by have := hx.bd; simpa using this
  have hby : ys.length ≤ 9223372036854775807 := by have := hy.bd; simpa using this
  have HX := Lib.hid hx; clear hx
  have HY := Lib.hid hy; clear hy
  by_cases hl : xs.length = ys.length
  · have hne : ((xs.length : Int) != (ys.length : Int)) = false := by simp [hl]
    generalize hd : decide (xs = ys) = d
    have HD := Lib.hid hd; clear hd
    have HL := Lib.hid hl; clear hl
    go_enter Try.func47, Try.ntmps47
    go_wp2_with fail
    go_loopw [13] (fun i wr => ∃ k : Nat, k ≤ xs.length ∧ i = .int .i64 k ∧ xs.take k = ys.take k ∧ Ch [] w wr) (fun i _ => xs.length - (intOf i).toNat)
    case atStart => exact ⟨0, Nat.zero_le _, rfl, rfl, Ch.refl _ _⟩
    case round =>
      obtain ⟨k, hk, rfl, ht, hc⟩ := hrel
      have HT := Lib.hid ht; clear ht
      by_cases hlt : k < xs.length
      · have hlt2 : k < ys.length := by have := HL.out; omega
        have hxk : xs[k]? = some xs[k] := List.getElem?_eq_getElem hlt
        have hyk : ys[k]? = some ys[k] := List.getElem?_eq_getElem hlt2
        obtain ⟨b1, o1, rfl, c1⟩ := (HX.out.ch hc (by simp)).cells k (.bool xs[k]) (by simp [hxk])
        obtain ⟨b2, o2, rfl, c2⟩ := (HY.out.ch hc (by simp)).cells k (.bool ys[k]) (by simp [hyk])
        generalize xs[k] = x at *
        generalize ys[k] = y at *
        have HXK := Lib.hid hxk; clear hxk
        have HYK := Lib.hid hyk; clear hyk
        have HC := Lib.hid hc; clear hc
        by_cases hxy : x = y
        · have hb : (!(x == y)) = false := by simp [hxy]
          have HE := Lib.hid hxy; clear hxy
          go_wp2_with fail
          refine Ord.St.door (fun _ => True) [.fl, .fl, .fl, .rd, .fl, .fl, .fl, .rd, .fl] [0, 0, 3, 7, 0, 0, 48, 112, 255] [0, 1, 2, 3, 4, 5, 6, 7, 8] mixed (by kernel_rfl) rfl ?_
          refine Ord.St.fl2 (T' := ?_) 0 [1, 2, 3, 4, 5, 6, 7, 8] _ _ rfl (by kernel_rfl) rfl rfl rfl rfl (fun K w' hk => ?_) ?_
          rotate_left
          · go_step; exact hk
          refine Ord.St.fl2 (T' := ?_) 1 [2, 3, 4, 5, 6, 7, 8] _ _ rfl (by kernel_rfl) rfl rfl rfl rfl (fun K w' hk => ?_) ?_
          rotate_left
          · go_step; exact hk
          refine Ord.St.fl2 (T' := ?_) 2 [3, 4, 5, 6, 7, 8] _ _ rfl (by kernel_rfl) rfl rfl rfl rfl (fun K w' hk => ?_) ?_
          rotate_left
          · go_step; exact hk
          refine Ord.St.rd2 (T' := ?_) 3 [4, 5, 6, 7, 8] _ _ rfl (by kernel_rfl) rfl rfl rfl rfl (fun K hk => ?_) ?_
          rotate_left
          · go_step; exact hk
          refine Ord.St.fl2 (T' := ?_) 4 [5, 6, 7, 8] _ _ rfl (by kernel_rfl) rfl rfl rfl rfl (fun K w' hk => ?_) ?_
          rotate_left
          · go_step; exact hk
          refine Ord.St.fl2 (T' := ?_) 5 [6, 7, 8] _ _ rfl (by kernel_rfl) rfl rfl rfl rfl (fun K w' hk => ?_) ?_
          rotate_left
          · go_step; exact hk
          refine Ord.St.fl2 (T' := ?_) 6 [7, 8] _ _ rfl (by kernel_rfl) rfl rfl rfl rfl (fun K w' hk => ?_) ?_
          rotate_left
          · go_step; exact hk
          refine Ord.St.rd2 (T' := ?_) 7 [8] _ _ rfl (by kernel_rfl) rfl rfl rfl rfl (fun K hk => ?_) ?_
          rotate_left
          · go_step; exact hk
          refine Ord.St.fl2 (T' := ?_) 8 [] _ _ rfl (by kernel_rfl) rfl rfl rfl rfl (fun K w' hk => ?_) ?_
          rotate_left
          · go_step; exact hk
          refine Ord.St.nil ?_
          go_wp2_with fail
          go_roundw
          case rel => exact ⟨k + 1, by omega, by go_num, takeB_succ HT.out HXK.out HYK.out HE.out, HC.out.drew⟩
          case measure => simp [intOf]; omega
        · have hb : (!(x == y)) = true := by simp [hxy]
          have hdf : d = false := by
            rw [← HD.out]
            refine decide_eq_false fun e => hxy ?_
            have h1 := HXK.out
            rw [e, HYK.out] at h1
            cases h1; rfl
          have HDF := Lib.hid hdf; clear hdf
          clear hxy
          go_wp2_with fail
          refine Ord.St.door (fun _ => True) [.fl, .fl, .fl, .rd, .fl, .fl, .fl, .rd, .fl] [0, 0, 3, 7, 0, 0, 48, 112, 255] [0, 1, 2, 3, 4, 5, 6, 7, 8] mixed (by kernel_rfl) rfl ?_
          refine Ord.St.fl2 (T' := ?_) 0 [1, 2, 3, 4, 5, 6, 7, 8] _ _ rfl (by kernel_rfl) rfl rfl rfl rfl (fun K w' hk => ?_) ?_
          rotate_left
          · go_step; exact hk
          refine Ord.St.fl2 (T' := ?_) 1 [2, 3, 4, 5, 6, 7, 8] _ _ rfl (by kernel_rfl) rfl rfl rfl rfl (fun K w' hk => ?_) ?_
          rotate_left
          · go_step; exact hk
          refine Ord.St.fl2 (T' := ?_) 2 [3, 4, 5, 6, 7, 8] _ _ rfl (by kernel_rfl) rfl rfl rfl rfl (fun K w' hk => ?_) ?_
          rotate_left
          · go_step; exact hk
          refine Ord.St.rd2 (T' := ?_) 3 [4, 5, 6, 7, 8] _ _ rfl (by kernel_rfl) rfl rfl rfl rfl (fun K hk => ?_) ?_
          rotate_left
          · go_step; exact hk
          refine Ord.St.fl2 (T' := ?_) 4 [5, 6, 7, 8] _ _ rfl (by kernel_rfl) rfl rfl rfl rfl (fun K w' hk => ?_) ?_
          rotate_left
          · go_step; exact hk
          refine Ord.St.fl2 (T' := ?_) 5 [6, 7, 8] _ _ rfl (by kernel_rfl) rfl rfl rfl rfl (fun K w' hk => ?_) ?_
          rotate_left
          · go_step; exact hk
          refine Ord.St.fl2 (T' := ?_) 6 [7, 8] _ _ rfl (by kernel_rfl) rfl rfl rfl rfl (fun K w' hk => ?_) ?_
          rotate_left
          · go_step; exact hk
          refine Ord.St.rd2 (T' := ?_) 7 [8] _ _ rfl (by kernel_rfl) rfl rfl rfl rfl (fun K hk => ?_) ?_
          rotate_left
          · go_step; exact hk
          refine Ord.St.fl2 (T' := ?_) 8 [] _ _ rfl (by kernel_rfl) rfl rfl rfl rfl (fun K w' hk => ?_) ?_
          rotate_left
          · go_step; exact hk
          refine Ord.St.nil ?_
          go_wp2_with fail
          go_ret
          rw [HDF.out]
          exact ⟨rfl, HC.out.drew⟩
      · have hdt : d = true := by
          rw [← HD.out]
          have h1 := HT.out
          rw [List.take_of_length_le (by omega), List.take_of_length_le (by have := HL.out; omega)] at h1
          exact decide_eq_true h1
        have HDT := Lib.hid hdt; clear hdt
        have HC := Lib.hid hc; clear hc
        go_wp2_with fail
        go_ret
        rw [HDT.out]
        exact ⟨rfl, HC.out⟩
  · have hne : ((xs.length : Int) != (ys.length : Int)) = true := by rw [bne_iff_ne]; omega
    have hd : decide (xs = ys) = false := decide_eq_false fun e => hl (by rw [e])
    rw [hd]
    clear hd
    go_enter Try.func47, Try.ntmps47
    go_wp2_with fail
    go_ret
    exact ⟨rfl, Ch.refl _ _⟩
end
end Go.Proofs.Ytkedpifopclipaa
namespace Go.Proofs.Ytkedpifopclipaa
open Go.ChangeShapes Go.WideShapes Go.ChangeAt Go.RowKit Go.Mem Go.Aig Go.Deep
theorem own : ownKnob Try.prog.godebug = none := by kernel_rfl
theorem laidOut : laidOutB Try.prog = true := by kernel_rfl
theorem list_of {α : Type} (P : Nat → α → Prop) : ∀ (n : Nat), (∀ i, i < n → ∃ x, P i x) → ∃ l : List α, l.length = n ∧ ∀ i x, l[i]? = some x → P i x
  | 0, _ => ⟨[], rfl, by simp⟩
  | n + 1, h => by
    obtain ⟨l, hl, hp⟩ := list_of P n (fun i hi => h i (by omega))
    obtain ⟨x, hx⟩ := h n (by omega)
    refine ⟨l ++ [x], by simp [hl], fun i y hy => ?_⟩
    by_cases hi : i < n
    · rw [List.getElem?_append_left (by omega)] at hy; exact hp i y hy
    · have hlt := (List.getElem?_eq_some_iff.1 hy).1
      simp at hlt
      have : i = n := by omega
      subst this
      rw [List.getElem?_append_right (by omega)] at hy
      simp [hl] at hy
      subst hy; exact hx
section
variable {H : Type} {enc : TypeId × Value → H} {W : World}
theorem wf_u8 {n : Int} (h : (Lit.int .u8 n).wf = true) : ∃ m : Nat, n = m ∧ m ≤ 255 := by
  have : 0 ≤ n ∧ n ≤ 255 := by simpa [Lit.wf, IntKind.min, IntKind.max, IntKind.signed, IntKind.bits] using h
  exact ⟨n.toNat, by omega, by omega⟩
theorem wf_i64 {z : Int} (h : (Lit.int .i64 z).wf = true) : -9223372036854775808 ≤ z ∧ z ≤ 9223372036854775807 := by
  simpa [Lit.wf, IntKind.min, IntKind.max, IntKind.signed, IntKind.bits] using h
theorem wf_u32 {n : Int} (h : (Lit.int .u32 n).wf = true) : ∃ m : Nat, n = m ∧ m < 4294967296 := by
  have : 0 ≤ n ∧ n ≤ 4294967295 := by simpa [Lit.wf, IntKind.min, IntKind.max, IntKind.signed, IntKind.bits] using h
  exact ⟨n.toNat, by omega, by omega⟩
/-- a slice of numbers that came in -/
structure IntS (w : World) (a : Option Addr) (n cap : Nat) (l : List Int) : Prop where
  sl : Sl w a l
  len : l.length = n
  bd : ∀ r ∈ l, -9223372036854775808 ≤ r ∧ r ≤ 9223372036854775807
  le : n ≤ cap
  max : cap ≤ 9223372036854775807
structure BoolS (w : World) (a : Option Addr) (n cap : Nat) (l : List Bool) : Prop where
  sl : Sb w a l
  len : l.length = n
  le : n ≤ cap
  max : cap ≤ 9223372036854775807
set_option maxRecDepth 100000 in
theorem ints_open {fuel : Nat} {c : Value} {x : DataW H × List MemPlace} (hf : DataW.trod enc Try.prog W 0 (fun _ => true) true fuel 23 [c] = some x) :
    ∃ (a : Option Addr) (len cap : Nat) (L : List Int), c = .slice a len cap ∧ Sl W a L ∧ L.length = len ∧ (∀ z ∈ L, -9223372036854775808 ≤ z ∧ z ≤ 9223372036854775807) ∧ len ≤ cap ∧ cap ≤ 9223372036854775807 := by
  rcases open_slice Try.underlying23 hf with ⟨hcs, _⟩ | ⟨y, l, cp, m, n, D, Pl, hcs, _, hl, hm, hmm, _, hi⟩
  · simp at hcs
    subst hcs
    exact ⟨none, 0, 0, [], rfl, ⟨by simp, by simp⟩, rfl, by simp, by omega, by omega⟩
  · simp at hcs
    subst hcs
    have hm' : cp ≤ 9223372036854775807 := by unfold maxLen at hm; exact hm
    have hC : Try.prog.cellsOf 3 = 1 := by kernel_rfl
    have hspot : 0 < l → y.spot = none := fun h0 => by
      obtain ⟨cs', hc, _⟩ := hi 0 (by rw [hmm]; simp; omega)
      rw [hC] at hc
      obtain ⟨_, hcl, hat⟩ := World.cells?_some hc
      have e0 := hat 0 (by omega)
      rw [List.getElem?_eq_getElem (by omega)] at e0
      simpa [Addr.add] using World.cell?_spot e0
    have key : ∀ i, i < l → ∃ z : Int, (∃ b o, (some y : Option Addr) = some ⟨b, o, none⟩ ∧ W.cell? ⟨b, o + i, none⟩ = some (.int .i64 z)) ∧ (-9223372036854775808 ≤ z ∧ z ≤ 9223372036854775807) := by
      intro i hlt
      obtain ⟨cs', hc, ht⟩ := hi i (by rw [hmm]; simp; omega)
      rw [hC] at hc
      obtain ⟨_, hcl, hat⟩ := World.cells?_some hc
      match cs', hcl with
      | [c0], _ =>
        obtain ⟨z, hz, _, hw⟩ := DataW.trod_int Try.underlying3 ht
        have hb := wf_i64 hw
        simp at hz
        subst hz
        have e0 := hat 0 (by omega)
        simp at e0
        obtain ⟨b, o, spot⟩ := y
        have hsp : spot = none := hspot (by omega)
        subst hsp
        simp only [Addr.add_lit] at e0
        exact ⟨z, ⟨b, o, rfl, by simpa using e0⟩, hb⟩
    obtain ⟨ll, hll, hp⟩ := list_of _ l key
    refine ⟨some y, l, cp, ll, rfl, ⟨fun i s hs => (hp i s hs).1, by omega⟩, hll, fun s hs => ?_, hl, hm'⟩
    obtain ⟨i, hi2⟩ := List.mem_iff_getElem?.1 hs
    exact (hp i s hi2).2
theorem intS_open {a : Option Addr} {len cap : Nat} {d : DataW H} {p : List MemPlace} (h : DataW.Trod enc Try.prog W 0 (fun _ => true) true 23 (.slice a len cap) d p) : ∃ l, IntS W a len cap l := by
  obtain ⟨fuel, hf⟩ := h
  obtain ⟨a', len', cap', L, e, h1, h2, h3, h4, h5⟩ := ints_open (c := .slice a len cap) (by simpa [Value.cells] using hf)
  cases e
  exact ⟨L, h1, h2, h3, h4, h5⟩
set_option maxRecDepth 100000 in
theorem bools_open {fuel : Nat} {c : Value} {x : DataW H × List MemPlace} (hf : DataW.trod enc Try.prog W 0 (fun _ => true) true fuel 56 [c] = some x) :
    ∃ (a : Option Addr) (len cap : Nat) (L : List Bool), c = .slice a len cap ∧ Sb W a L ∧ L.length = len ∧ len ≤ cap ∧ cap ≤ 9223372036854775807 := by
  rcases open_slice Try.underlying56 hf with ⟨hcs, _⟩ | ⟨y, l, cp, m, n, D, Pl, hcs, _, hl, hm, hmm, _, hi⟩
  · simp at hcs
    subst hcs
    exact ⟨none, 0, 0, [], rfl, ⟨by simp, by simp⟩, rfl, by omega, by omega⟩
  · simp at hcs
    subst hcs
    have hm' : cp ≤ 9223372036854775807 := by unfold maxLen at hm; exact hm
    have hC : Try.prog.cellsOf 4 = 1 := by kernel_rfl
    have hspot : 0 < l → y.spot = none := fun h0 => by
      obtain ⟨cs', hc, _⟩ := hi 0 (by rw [hmm]; simp; omega)
      rw [hC] at hc
      obtain ⟨_, hcl, hat⟩ := World.cells?_some hc
      have e0 := hat 0 (by omega)
      rw [List.getElem?_eq_getElem (by omega)] at e0
      simpa [Addr.add] using World.cell?_spot e0
    have key : ∀ i, i < l → ∃ z : Bool, (∃ b o, (some y : Option Addr) = some ⟨b, o, none⟩ ∧ W.cell? ⟨b, o + i, none⟩ = some (.bool z)) := by
      intro i hlt
      obtain ⟨cs', hc, ht⟩ := hi i (by rw [hmm]; simp; omega)
      rw [hC] at hc
      obtain ⟨_, hcl, hat⟩ := World.cells?_some hc
      match cs', hcl with
      | [c0], _ =>
        obtain ⟨z, hz, _⟩ := DataW.trod_bool Try.underlying4 ht
        simp at hz
        subst hz
        have e0 := hat 0 (by omega)
        simp at e0
        obtain ⟨b, o, spot⟩ := y
        have hsp : spot = none := hspot (by omega)
        subst hsp
        simp only [Addr.add_lit] at e0
        exact ⟨z, b, o, rfl, by simpa using e0⟩
    obtain ⟨ll, hll, hp⟩ := list_of _ l key
    refine ⟨some y, l, cp, ll, rfl, ⟨fun i s hs => ?_, by rw [List.length_map]; omega⟩, hll, hl, hm'⟩
    rw [List.getElem?_map, Option.map_eq_some_iff] at hs
    obtain ⟨q, hq, rfl⟩ := hs
    exact hp i q hq
theorem boolS_open {a : Option Addr} {len cap : Nat} {d : DataW H} {p : List MemPlace} (h : DataW.Trod enc Try.prog W 0 (fun _ => true) true 56 (.slice a len cap) d p) : ∃ l, BoolS W a len cap l := by
  obtain ⟨fuel, hf⟩ := h
  obtain ⟨a', len', cap', L, e, h1, h2, h4, h5⟩ := bools_open (c := .slice a len cap) (by simpa [Value.cells] using hf)
  cases e
  exact ⟨L, h1, h2, h4, h5⟩
end
end Go.Proofs.Ytkedpifopclipaa
namespace Go.Aig
theorem List.snocRec {α : Type} {motive : List α → Prop} (nil : motive []) (snoc : ∀ l x, motive l → motive (l ++ [x])) (l : List α) : motive l := by
  have : ∀ n (l : List α), l.length = n → motive l := by
    intro n
    induction n with
    | zero => intro l hl; rw [List.eq_nil_of_length_eq_zero hl]; exact nil
    | succ n ih =>
      intro l hl
      have hne : l ≠ [] := by intro e; rw [e] at hl; simp at hl
      rw [← List.dropLast_concat_getLast hne]
      exact snoc _ _ (ih _ (by rw [List.length_dropLast]; omega))
  exact this l.length l rfl
/-- the word of a reference, over the words of the nodes; M has all bits -/
def wref (M : Nat) (vs : List Nat) (r : Nat) : Nat := if r % 2 = 1 then M ^^^ vs.getD (r / 2) 0 else vs.getD (r / 2) 0
def wvStep (M : Nat) (s : List Nat × List Nat) (x : Nd) : List Nat × List Nat :=
  if x.k = 3 then (s.1 ++ [wref M s.1 x.l &&& wref M s.1 x.r], s.2) else if x.k = 2 then (s.1 ++ [s.2.headD 0], s.2.tail) else (s.1 ++ [0], s.2)
/-- the words of the nodes, and those of the inputs that are left -/
def wvF (M : Nat) (ins : List Nat) (ns : List Nd) : List Nat × List Nat := ns.foldl (wvStep M) ([], ins)
theorem wvF_snoc (M : Nat) (ins : List Nat) (ns : List Nd) (x : Nd) : wvF M ins (ns ++ [x]) = wvStep M (wvF M ins ns) x := by unfold wvF; rw [List.foldl_append]; rfl
theorem wvF_len (M : Nat) (ins : List Nat) (ns : List Nd) : (wvF M ins ns).1.length = ns.length := by
  induction ns using List.snocRec with
  | nil => rfl
  | snoc ns x ih =>
    rw [wvF_snoc]
    unfold wvStep
    (repeat' split) <;> simp [ih]
theorem wvF_ext (M : Nat) (ins : List Nat) (ns : List Nd) (x : Nd) : ∃ v, (wvF M ins (ns ++ [x])).1 = (wvF M ins ns).1 ++ [v] := by
  rw [wvF_snoc]
  unfold wvStep
  (repeat' split) <;> exact ⟨_, rfl⟩
theorem wref_ext {M : Nat} {vs more : List Nat} {r : Nat} (h : r < 2 * vs.length) : wref M (vs ++ more) r = wref M vs r := by
  unfold wref
  rw [List.getD_eq_getElem?_getD, List.getD_eq_getElem?_getD, List.getElem?_append_left (by omega)]
theorem wref_bit {N k : Nat} (hk : k < N) (vs : List Nat) (r : Nat) : (wref (2 ^ N - 1) vs r).testBit k = rv (vs.map fun v => v.testBit k) r := by
  have hg : (vs.map fun v => v.testBit k).getD (r / 2) false = (vs.getD (r / 2) 0).testBit k := by
    rw [List.getD_eq_getElem?_getD, List.getD_eq_getElem?_getD, List.getElem?_map]
    cases vs[r / 2]? <;> simp
  unfold wref rv
  rw [hg]
  split
  · rename_i h
    rw [Nat.testBit_xor, Nat.testBit_two_pow_sub_one, decide_eq_true hk, decide_eq_true h, Bool.xor_comm]
  · rename_i h
    rw [decide_eq_false h, Bool.xor_false]
/-- bit by bit, the words are what the nodes are for one assignment -/
theorem wvF_bits {N k : Nat} (hk : k < N) (ins : List Nat) (ns : List Nd) :
    (wvF (2 ^ N - 1) ins ns).1.map (fun v => v.testBit k) = (nv (fun i => (ins.getD i 0).testBit k) ns).1 ∧ (wvF (2 ^ N - 1) ins ns).2 = ins.drop (nv (fun i => (ins.getD i 0).testBit k) ns).2 := by
  induction ns using List.snocRec with
  | nil => exact ⟨rfl, rfl⟩
  | snoc ns x ih =>
    obtain ⟨h1, h2⟩ := ih
    rw [wvF_snoc, nv_snoc]
    unfold wvStep nvStep
    split
    · refine ⟨?_, h2⟩
      simp only [List.map_append, List.map_cons, List.map_nil, h1, Nat.testBit_and, wref_bit hk]
    · split
      · refine ⟨?_, ?_⟩
        · simp only [List.map_append, List.map_cons, List.map_nil, h1, h2]
          congr 2
          rw [List.headD_eq_head?_getD, List.head?_drop, List.getD_eq_getElem?_getD]
        · simp only [h2, List.tail_drop]
      · refine ⟨?_, h2⟩
        simp only [List.map_append, List.map_cons, List.map_nil, h1, Nat.zero_testBit]
theorem wv_bv {N k : Nat} (hk : k < N) (ins : List Nat) (ns : List Nd) (r : Nat) : (wref (2 ^ N - 1) (wvF (2 ^ N - 1) ins ns).1 r).testBit k = bv (fun i => (ins.getD i 0).testBit k) ns r := by
  rw [wref_bit hk, (wvF_bits hk ins ns).1]
  rfl
theorem wref_lt {N : Nat} {vs : List Nat} (h : ∀ v ∈ vs, v < 2 ^ N) (r : Nat) : wref (2 ^ N - 1) vs r < 2 ^ N := by
  have hp : 0 < 2 ^ N := Nat.two_pow_pos N
  have hg : vs.getD (r / 2) 0 < 2 ^ N := by
    rw [List.getD_eq_getElem?_getD]
    cases hq : vs[r / 2]? with
    | none => exact hp
    | some v => exact h v (List.mem_of_getElem? hq)
  unfold wref
  split
  · exact Nat.xor_lt_two_pow (by omega) hg
  · exact hg
theorem wvF_lt {N : Nat} {ins : List Nat} (hi : ∀ v ∈ ins, v < 2 ^ N) (ns : List Nd) : (∀ v ∈ (wvF (2 ^ N - 1) ins ns).1, v < 2 ^ N) ∧ ∀ v ∈ (wvF (2 ^ N - 1) ins ns).2, v < 2 ^ N := by
  have hp : 0 < 2 ^ N := Nat.two_pow_pos N
  induction ns using List.snocRec with
  | nil => exact ⟨by simp [wvF], hi⟩
  | snoc ns x ih =>
    obtain ⟨h1, h2⟩ := ih
    rw [wvF_snoc]
    unfold wvStep
    split
    · refine ⟨fun v hv => ?_, h2⟩
      rcases List.mem_append.1 hv with hv | hv
      · exact h1 v hv
      · rw [List.mem_singleton.1 hv]
        exact Nat.and_lt_two_pow _ (wref_lt h1 _)
    · split
      · refine ⟨fun v hv => ?_, fun v hv => h2 v (List.mem_of_mem_tail hv)⟩
        rcases List.mem_append.1 hv with hv | hv
        · exact h1 v hv
        · rw [List.mem_singleton.1 hv]
          cases hq : (wvF (2 ^ N - 1) ins ns).2 with
          | nil => exact hp
          | cons a l => exact h2 a (by rw [hq]; exact List.mem_cons_self ..)
      · refine ⟨fun v hv => ?_, h2⟩
        rcases List.mem_append.1 hv with hv | hv
        · exact h1 v hv
        · rw [List.mem_singleton.1 hv]; exact hp
/-- how many inputs there are -/
theorem nv_count (env : Nat → Bool) (ns : List Nd) : (nv env ns).2 = (inputs ns).length := by
  have : ∀ (ns : List Nd) (n : Nat), (inputsFrom ns n).length = (ns.filter fun x => x.k == 2).length := by
    intro ns
    induction ns with
    | nil => intro n; rfl
    | cons x ns ih =>
      intro n
      unfold inputsFrom
      split
      · rename_i h; simp [h, ih]
      · rename_i h; simp [h, ih]
  unfold inputs
  rw [this]
  induction ns using List.snocRec with
  | nil => rfl
  | snoc ns x ih =>
    rw [nv_snoc, List.filter_append, List.length_append, ← ih]
    unfold nvStep
    split
    · rename_i h; simp [h]
    · split
      · rename_i h; simp [h]
      · rename_i h; simp [h]
end Go.Aig
namespace Go.Proofs.Ytkedpifopclipaa
open Go.RowKit Go.Mem Go.Aig
def u64s (l : List Nat) : List Value := l.map fun (r : Nat) => .int .u64 r
/-- the words of the four inputs -/
def inWords : List Nat := [43690, 52428, 61680, 65280]
/-- the word of a reference, over the words of the nodes -/
def wv (vs : List Nat) (r : Nat) : Nat := if r % 2 = 1 then vs.getD (r / 2) 0 ^^^ 65535 else vs.getD (r / 2) 0
theorem not_word (x : Nat) (hx : x < 65536) : bits .and .u64 (bits .xor .u64 18446744073709551615 (x : Int)) 65535 = ((x ^^^ 65535 : Nat) : Int) := by
  have h1 := bits_xor_u64_nat 18446744073709551615 x (by omega) (by omega)
  have h2 : 18446744073709551615 ^^^ x < 2 ^ 64 := Nat.xor_lt_two_pow (by omega) (by omega)
  have h3 := bits_and_u64_nat (18446744073709551615 ^^^ x) 65535 (by omega) (by omega)
  rw [show (18446744073709551615 : Int) = ((18446744073709551615 : Nat) : Int) from rfl, h1, show (65535 : Int) = ((65535 : Nat) : Int) from rfl, h3]
  congr 1
  apply Nat.eq_of_testBit_eq
  intro i
  rw [Nat.testBit_and, Nat.testBit_xor, Nat.testBit_xor, show (18446744073709551615 : Nat) = 2 ^ 64 - 1 from rfl, show (65535 : Nat) = 2 ^ 16 - 1 from rfl, Nat.testBit_two_pow_sub_one, Nat.testBit_two_pow_sub_one]
  by_cases hi : i < 16
  · have : i < 64 := by omega
    simp [hi, this]
  · have hx' : x.testBit i = false := Nat.testBit_lt_two_pow (Nat.lt_of_lt_of_le hx (by show 2 ^ 16 ≤ 2 ^ i; exact Nat.pow_le_pow_right (by omega) (by omega)))
    simp [hi, hx']
theorem not_word' (x : Nat) (hx : x < 65536) : bits .and .u64 (bits .xor .u64 IntKind.u64.max (x : Int)) 65535 = ((x ^^^ 65535 : Nat) : Int) := by
  rw [show IntKind.u64.max = (18446744073709551615 : Int) from by decide]; exact not_word x hx
end Go.Proofs.Ytkedpifopclipaa
namespace Go.Aig
/-- what the program tells of a node -/
theorem node_tells {G : Gra} (h : Ok G) {n : Nat} {x : Nd} (hx : G.nodes[n]? = some x) : kindOf G.nodes ((2 * n : Nat) : Int) = x.k ∧ lOf G.nodes ((2 * n : Nat) : Int) = x.l ∧ rOf G.nodes ((2 * n : Nat) : Int) = x.r ∧ x.k ≤ 3 := by
  have hn : nodeAt G.nodes ((2 * n : Nat) : Int) = some x := by
    unfold nodeAt
    rw [if_pos (by omega), Int.toNat_natCast, show 2 * n / 2 = n by omega, hx]
  unfold kindOf lOf rOf
  rw [hn]
  refine ⟨rfl, ?_, ?_, ?_⟩
  · show (if x.k = 3 then x.l else 0) = x.l
    by_cases h0 : n = 0
    · subst h0; rw [h.wf.const] at hx; cases hx; rfl
    · rcases h.wf.other n x hx (by omega) with e | e
      · rw [e]; rfl
      · rw [if_pos e.1]
  · show (if x.k = 3 then x.r else 0) = x.r
    by_cases h0 : n = 0
    · subst h0; rw [h.wf.const] at hx; cases hx; rfl
    · rcases h.wf.other n x hx (by omega) with e | e
      · rw [e]; rfl
      · rw [if_pos e.1]
  · by_cases h0 : n = 0
    · subst h0; rw [h.wf.const] at hx; cases hx; decide
    · rcases h.wf.other n x hx (by omega) with e | e
      · rw [e]; decide
      · omega
end Go.Aig
namespace Go.Proofs.Ytkedpifopclipaa
open Go.RowKit Go.Mem Go.Aig
section
variable {w : World} {g : Nat} {G : Gra} {F : List Nat}
theorem Room_j (h : GIn w g G F) : Calls Try.prog 60 #[.pointer (some ⟨g, 0, none⟩)] w fun e w' => e = .returned (.int .i64 ((G.most : Int) - G.nodes.length)) ∧ Ch [] w w' := by
  have hr := h.ok.room
  have hc := Room_g h
  rw [show ((G.most - G.nodes.length : Nat) : Int) = (G.most : Int) - G.nodes.length by omega] at hc
  exact hc
end
end Go.Proofs.Ytkedpifopclipaa
namespace Go.Proofs.Ytkedpifopclipaa
open Go.RowKit Go.Mem Go.Aig
/-- all bits -/
abbrev U64 : Nat := 18446744073709551615
theorem u64_pow : (2 ^ 64 - 1 : Nat) = U64 := rfl
theorem infoU64 : (Try.prog.info? 183).map (fun i => (i.zero, i.size, i.bytes)) = some (some (.int .u64 0), 1, 8) := by kernel_rfl
theorem slU64s : SliceTy Try.prog 182 183 1 8 (.int .u64 0) := ⟨Try.underlying182, infoU64, rfl, by decide⟩
theorem run_make_u64s (w : World) (n : Nat) (hn : n ≤ 1000000) : (Instr.makeSlice 182 (.int .i64 n) (.int .i64 n)).run Try.prog w = .ok (.slice (some ⟨w.heap.size, 0, none⟩) n n) (w.alloc (.cells (u64s (List.replicate n 0)).toArray 183)) := by
  obtain ⟨i, hi, hz, hs, hb⟩ := info_parts infoU64
  have := run_make (P := Try.prog) w 182 183 i (.int .u64 0) Try.underlying182 hi hz .i64 .i64 n n (by omega) (by omega) (by rw [hb]; omega) (by omega)
  rw [this, hs]
  have e : madeCells (Value.int .u64 0).cells ((n : Int).toNat * 1) = (u64s (List.replicate n 0)).toArray := by
    apply Array.ext'
    have h := toList_madeCells_one (Value.int .u64 0) ((n : Int).toNat * 1)
    simpa [u64s, Value.cells] using h
  rw [e]; simp
theorem u64s_get {l : List Nat} {i v : Nat} (h : l[i]? = some v) : (u64s l)[i]? = some (.int .u64 v) := by simp [u64s, h]
section
variable {w : World}
set_option maxRecDepth 100000 in
set_option maxHeartbeats 2000000 in
theorem simof1_is {bx nb n c : Nat} {vs : List Nat} (hb : w.cell? ⟨bx, 0, none⟩ = some (.slice (some ⟨nb, 0, none⟩) n c)) (hk : blk w nb (u64s vs)) (hn : vs.length = n) (hlt : ∀ v ∈ vs, v < 2 ^ 64) (r : Nat) (hr : r < 2 * n) (hr2 : r ≤ 1000000) :
    Calls Try.prog 203 #[.int .i64 r, .pointer (some ⟨bx, 0, none⟩)] w fun e w' => e = .returned (.int .u64 (wref U64 vs r)) ∧ w = w' := by
  have hg : vs[r / 2]? = some vs[r / 2] := List.getElem?_eq_getElem (by omega)
  have hx := hlt _ (List.getElem_mem (show r / 2 < vs.length by omega))
  have c0 : w.cell? ⟨nb, r / 2, none⟩ = some (.int .u64 vs[r / 2]) := hk.cell (u64s_get hg)
  have hv : wref U64 vs r = if r % 2 = 1 then U64 ^^^ vs[r / 2] else vs[r / 2] := by unfold wref; rw [List.getD_eq_getElem?_getD, hg]; rfl
  rw [hv]
  generalize vs[r / 2] = x at *
  clear hg hk hlt hv
  by_cases h1 : r % 2 = 1
  · rw [if_pos h1]
    have hbb : ((r : Int) % 2 == 1) = true := by simp; omega
    have hnx := bits_xor_u64_nat U64 x (by decide) (by omega)
    have H1 := Lib.hid h1; clear h1
    have HNX := Lib.hid hnx; clear hnx
    have HN := Lib.hid hn; clear hn
    go_enter Try.func203, Try.ntmps203
    go_wp2_with fail
    go_ret
    exact ⟨ret_int (by first | exact HNX.out | (rw [show IntKind.u64.max = ((U64 : Nat) : Int) from by decide]; exact HNX.out)), rfl⟩
  · rw [if_neg h1]
    have hbb : ((r : Int) % 2 == 1) = false := by simp; omega
    have H1 := Lib.hid h1; clear h1
    have HN := Lib.hid hn; clear hn
    go_enter Try.func203, Try.ntmps203
    go_wp2_with fail
    go_ret
    exact ⟨rfl, rfl⟩
theorem fnvsimof1 : Fnv 203 := fnv_of Try.func203 (by simp [Try.f203]) (by simp [Try.f203])
set_option maxRecDepth 100000 in
set_option maxHeartbeats 400000 in
theorem simof_is (a : Option Addr) (n c : Nat) : Calls Try.prog 173 #[.slice a n c] w fun e w' => e = .returned (.func (.func 203) #[] #[.pointer (some ⟨w.heap.size, 0, none⟩)]) ∧ w' = w.alloc (.cells #[.slice a n c] 182) := by
  go_enter Try.func173, Try.ntmps173
  go_wp2_with fail
  go_ret
  exact ⟨rfl, rfl⟩
theorem isAnd_at {G : Gra} (hG : Ok G) {n : Nat} {x : Nd} (hx : G.nodes[n]? = some x) : isAndAt G.nodes ((2 * n : Nat) : Int) = (x.k == 3) := by
  have := (node_tells hG hx).1
  unfold isAndAt
  rw [this]
theorem Sv.ch2 {F : List Nat} {w w' : World} {a : Option Addr} {xs : List Value} (h : Sv w a xs) (hc : Ch F w w') (hF : 0 < xs.length → ∀ p, a = some p → p.block ∉ F) : Sv w' a xs :=
  ⟨fun i x hx => by
    obtain ⟨b, o, rfl, hcell⟩ := h.cells i x hx
    have hlt := (List.getElem?_eq_some_iff.1 hx).1
    exact ⟨b, o, rfl, (hc.cell (p := ⟨b, o + i, none⟩) (cell_lt hcell) (hF (by omega) ⟨b, o, none⟩ rfl)).trans hcell⟩, h.bd⟩
theorem u64s_len (l : List Nat) : (u64s l).length = l.length := by simp [u64s]
theorem set_mid (L : List Nat) (m v : Nat) (hm : 0 < m) : (u64s (L ++ List.replicate m 0)).set L.length (.int .u64 v) = u64s ((L ++ [v]) ++ List.replicate (m - 1) 0) := by
  obtain ⟨k, rfl⟩ : ∃ k, m = k + 1 := ⟨m - 1, by omega⟩
  unfold u64s
  rw [List.map_append, List.set_append_right _ _ (by simp)]
  simp [List.replicate_succ]
theorem set_zero (L : List Nat) (m : Nat) (hm : 0 < m) : u64s (L ++ List.replicate m 0) = u64s ((L ++ [0]) ++ List.replicate (m - 1) 0) := by
  obtain ⟨k, rfl⟩ : ∃ k, m = k + 1 := ⟨m - 1, by omega⟩
  simp [u64s, List.replicate_succ]
set_option maxRecDepth 100000 in
set_option maxHeartbeats 8000000 in
theorem simnodes_is {g : Nat} {G : Gra} {F : List Nat} (h : GIn w g G F) {xa : Option Addr} {ins : List Nat} (xc : Nat) (hS : Sv w xa (u64s ins)) (hi : (inputs G.nodes).length = ins.length) (hlt : ∀ v ∈ ins, v < 2 ^ 64) (hcap : ins.length ≤ xc) (hxc : xc ≤ 9223372036854775807) :
    Calls Try.prog 174 #[.pointer (some ⟨g, 0, none⟩), .slice xa ins.length xc] w fun e w' => e = .returned (.slice (some ⟨w.heap.size, 0, none⟩) G.nodes.length G.nodes.length) ∧ blk w' w.heap.size (u64s (wvF U64 ins G.nodes).1) ∧ Ch [] w w' := by
  have hok := h.ok
  have hroom := hok.room
  have hmost := hok.most
  obtain ⟨N, hN⟩ : ∃ N, N = G.nodes.length := ⟨_, rfl⟩
  have hN0 : N ≤ 65536 := by omega
  have hLen := Len_g h
  rw [← hN] at hLen ⊢
  have hE0 : wvF U64 ins (G.nodes.take 0) = ([], ins) := rfl
  have hEn : wvF U64 ins (G.nodes.take N) = wvF U64 ins G.nodes := by rw [List.take_of_length_le (by omega)]
  have hEs : ∀ (k : Nat) (x : Nd), G.nodes[k]? = some x → wvF U64 ins (G.nodes.take (k + 1)) = wvStep U64 (wvF U64 ins (G.nodes.take k)) x := fun k x hx => by
    rw [List.take_add_one, hx]; exact wvF_snoc _ _ _ _
  have hEl : ∀ k, k ≤ N → (wvF U64 ins (G.nodes.take k)).1.length = k := fun k hk => by rw [wvF_len, List.length_take]; omega
  have hEb := fun k => wvF_lt (N := 64) hlt (G.nodes.take k)
  rw [u64_pow] at hEb
  have hE2 : ∀ (k : Nat) (x : Nd), G.nodes[k]? = some x → x.k = 2 → 0 < (wvF U64 ins (G.nodes.take k)).2.length := fun k x hx hk2 => by
    have h1 := (wvF_bits (N := 64) (k := 0) (by omega) ins (G.nodes.take k)).2
    rw [u64_pow] at h1
    rw [h1, nv_count, List.length_drop]
    have hsp := split_at hx
    have h2 : (inputs (G.nodes.take (k + 1))).length = (inputs (G.nodes.take k)).length + 1 := by
      rw [List.take_add_one, hx]
      rw [show (some x).toList = [x] from rfl, inputs_input hk2, List.length_append]; rfl
    have h3 : (inputs (G.nodes.take (k + 1))).length ≤ (inputs G.nodes).length := by
      rw [← nv_count (fun _ => false), ← nv_count (fun _ => false)]
      have : ∀ (ms ns : List Nd), (nv (fun _ => false) ns).2 ≤ (nv (fun _ => false) (ns ++ ms)).2 := by
        intro ms
        induction ms with
        | nil => intro ns; simp
        | cons y ms ih =>
          intro ns
          rw [List.append_cons]
          refine Nat.le_trans ?_ (ih (ns ++ [y]))
          rw [nv_snoc]; unfold nvStep
          (repeat' split) <;> simp
      conv => rhs; rw [← List.take_append_drop (k + 1) G.nodes]
      exact this _ _
    omega
  obtain ⟨E, hE⟩ : ∃ E : Nat → List Nat × List Nat, E = fun k => wvF U64 ins (G.nodes.take k) := ⟨_, rfl⟩
  have hEk : ∀ k, wvF U64 ins (G.nodes.take k) = E k := fun k => by rw [hE]
  simp only [hEk] at hE0 hEn hEs hEl hEb hE2
  rw [← hEn]
  clear hE hEk hEn
  have hmk := run_make_u64s w N (by omega)
  have hnt : ∀ (k : Nat) (x : Nd), G.nodes[k]? = some x → kindOf G.nodes (2 * (k : Int)) = x.k ∧ lOf G.nodes (2 * (k : Int)) = x.l ∧ rOf G.nodes (2 * (k : Int)) = x.r ∧ isAndAt G.nodes (2 * (k : Int)) = (x.k == 3) ∧ x.k ≤ 3 := fun k x hx => by
    obtain ⟨a1, a2, a3, a4⟩ := node_tells hok hx
    have a5 := isAnd_at hok hx
    rw [show ((2 * k : Nat) : Int) = 2 * (k : Int) by omega] at a1 a2 a3 a5
    exact ⟨a1, a2, a3, a5, a4⟩
  have hwf := hok.wf
  have HWF := Lib.hid hwf; clear hwf
  have HNT := Lib.hid hnt; clear hnt
  have H := Lib.hid h; clear h
  have HS := Lib.hid hS; clear hS
  have HE0 := Lib.hid hE0; clear hE0
  have HES := Lib.hid hEs; clear hEs
  have HEL := Lib.hid hEl; clear hEl
  have HEB := Lib.hid hEb; clear hEb
  have HE2 := Lib.hid hE2; clear hE2
  have HN := Lib.hid hN; clear hN hi hlt
  have hcf : ∀ args w, (callFunc 203 args).run Try.prog w = .ok (.enter 203 args) w := fnvsimof1
  go_enter Try.func174, Try.ntmps174
  go_wp2_with fail
  refine hLen.mono ?_
  rintro e w' ⟨rfl, rfl⟩
  go_upto_region 2 with fail
  refine wp_alw ?_
  intro W1 hW1
  have hbo : blk W1 w.heap.size (u64s (List.replicate N 0)) := by rw [hW1]; exact blk.new' _ _ rfl
  have hc1 : Ch [] w W1 := by rw [hW1]; exact (Ch.refl _ _).alloc _
  have hz1 : W1.heap.size = w.heap.size + 1 := by rw [hW1]; simp
  clear hW1 hmk hLen
  have hOf := simof_is (w := W1) (some ⟨w.heap.size, 0, none⟩) N N
  have HOF := Lib.hid hOf; clear hOf
  have HBO := Lib.hid hbo; clear hbo
  have HC1 := Lib.hid hc1; clear hc1
  go_wp2_with fail
  refine HOF.out.mono ?_
  rintro e W2 ⟨rfl, hW2⟩
  have hbx := alw_blk (xs := [.slice (some ⟨w.heap.size, 0, none⟩) N N]) hW2
  have hc2 := HC1.out.trans (alw_ch hW2) (by simp)
  have hbo := HBO.out.ch (alw_ch hW2) (by simp)
  clear hW2 HBO HC1 HOF
  rw [hz1] at hbx
  simp only [hz1]
  clear hz1
  have HBX := Lib.hid hbx; clear hbx
  have HBO := Lib.hid hbo; clear hbo
  have HC2 := Lib.hid hc2; clear hc2
  go_wp2_with fail
  go_loopw [1, 19] (fun u i wr => ∃ (k : Nat) (xk : Option Addr) (ck : Nat), k ≤ N ∧ i = .int .i64 k ∧ u = .slice xk (E k).2.length ck ∧ (E k).2.length ≤ ck ∧ ck ≤ 9223372036854775807 ∧ Sv wr xk (u64s (E k).2) ∧ blk wr w.heap.size (u64s ((E k).1 ++ List.replicate (N - k) 0)) ∧ blk wr (w.heap.size + 1) [.slice (some ⟨w.heap.size, 0, none⟩) N N] ∧ Ch [] w wr ∧ (∀ p, xk = some p → 0 < (E k).2.length → p.block < w.heap.size)) (fun _ i _ => N - (intOf i).toNat)
  case atStart =>
    refine ⟨0, xa, xc, by omega, rfl, by rw [HE0.out], by rw [HE0.out]; exact hcap, hxc, by rw [HE0.out]; exact HS.out.ch HC2.out (by simp), by rw [HE0.out]; exact HBO.out, HBX.out, HC2.out, fun p hp h0 => ?_⟩
    rw [HE0.out] at h0
    obtain ⟨b, o, e, hc⟩ := HS.out.cells 0 _ (List.getElem?_eq_getElem (show 0 < (u64s ins).length by simpa [u64s] using h0))
    rw [hp] at e; cases e
    exact cell_lt hc
  case round =>
    clear HBX HBO HC2
    obtain ⟨k, xk, ck, hk, rfl, rfl, hck, hck2, hsv, hbo, hbx, hc, hlo⟩ := hrel
    by_cases hkn : k < N
    · obtain ⟨x, hx⟩ : ∃ x, G.nodes[k]? = some x := ⟨_, List.getElem?_eq_getElem (by rw [← HN.out]; exact hkn)⟩
      obtain ⟨t1, t2, t3, t4, t5⟩ := HNT.out k x hx
      have hes := HES.out k x hx
      have hel := HEL.out k hk
      have heb := HEB.out k
      have he2 := HE2.out k x hx
      have hsides : x.k = 3 → x.l < 2 * k ∧ x.r < 2 * k := fun e => by have := HWF.out.sides hx e; omega
      have hg := H.out.same hc (by simp)
      have hSd := Sides_g hg (2 * (k : Int)) (by omega)
      rw [t2, t3, t4] at hSd
      generalize hEE : E (k + 1) = EN at hes
      generalize E k = ES at hes hel heb he2 hck hsv hbo hlo ⊢
      obtain ⟨L, I⟩ := ES
      simp only at hel heb he2 hck hsv hbo hlo ⊢
      unfold wvStep at hes
      have HSD := Lib.hid hSd; clear hSd
      have HG := Lib.hid hg; clear hg
      have HSV := Lib.hid hsv; clear hsv
      have HLO := Lib.hid hlo; clear hlo
      have HBO := Lib.hid hbo; clear hbo
      have HBX := Lib.hid hbx; clear hbx
      have HEL' := Lib.hid hel; clear hel
      have HEB' := Lib.hid heb; clear heb
      have HC := Lib.hid hc; clear hc
      by_cases h3 : x.k = 3
      · rw [if_pos h3] at hes
        subst hes
        obtain ⟨hl, hr⟩ := hsides h3
        have h33 : (x.k == 3) = true := by rw [h3]; rfl
        rw [h33] at HSD
        have HEE := Lib.hid hEE; clear hEE
        clear t1 t2 t3 t4 t5 h3 h33 he2 hsides hx
        generalize x.l = a at *
        generalize x.r = b at *
        go_wp2_with fail
        refine HSD.out.mono ?_
        rintro e w3 ⟨rfl, hc3⟩
        have hbo := HBO.out.ch hc3 (by simp)
        have hbx := HBX.out.ch hc3 (by simp)
        have hlen : (L ++ List.replicate (N - k) 0).length = N := by rw [List.length_append, List.length_replicate, HEL'.out]; omega
        have hbd : ∀ v ∈ L ++ List.replicate (N - k) 0, v < 2 ^ 64 := fun v hv => by
          rcases List.mem_append.1 hv with hv | hv
          · exact HEB'.out.1 v hv
          · rw [(List.mem_replicate.1 hv).2]; omega
        have hA := simof1_is (hbx.cell (i := 0) rfl) hbo hlen hbd a (by omega) (by omega)
        have hB := simof1_is (hbx.cell (i := 0) rfl) hbo hlen hbd b (by omega) (by omega)
        rw [wref_ext (by rw [HEL'.out]; exact hl)] at hA
        rw [wref_ext (by rw [HEL'.out]; exact hr)] at hB
        have hwa := wref_lt (N := 64) HEB'.out.1 a
        have hwb := wref_lt (N := 64) HEB'.out.1 b
        rw [u64_pow] at hwa hwb
        have hand := bits_and_u64_nat (wref U64 L a) (wref U64 L b) hwa hwb
        generalize hva : wref U64 L a = va at *
        generalize hvb : wref U64 L b = vb at *
        have f0 := hbo.frozen (i := k)
        obtain ⟨old, c0⟩ : ∃ old, w3.cell? ⟨w.heap.size, k, none⟩ = some old := ⟨_, hbo.cell (List.getElem?_eq_getElem (show k < (u64s (L ++ List.replicate (N - k) 0)).length by rw [u64s_len, hlen]; exact hkn))⟩
        have hlt0 := hbo.lt
        have HA := Lib.hid hA; clear hA
        have HB := Lib.hid hB; clear hB
        have HBO3 := Lib.hid hbo; clear hbo HBO
        have HBX3 := Lib.hid hbx; clear hbx HBX
        have HC3 := Lib.hid (HC.out.trans hc3 (by simp)); clear HC HSD
        have HC13 := Lib.hid hc3; clear hc3
        clear hva hvb hwa hwb hlen hbd
        go_wp2_with fail
        refine HA.out.mono ?_
        rintro e w' ⟨rfl, rfl⟩
        go_wp2_with fail
        refine HB.out.mono ?_
        rintro e w' ⟨rfl, rfl⟩
        go_wp2_with fail
        go_roundw
        case rel =>
          have hcs : Ch [w.heap.size] w3 (w3.setCell ⟨w.heap.size, k, none⟩ (.int .u64 (va &&& vb : Nat))) := (Ch.refl _ _).setCell (.inl (by simp)) _
          have hset := HBO3.out.set (i := k) (.int .u64 (va &&& vb : Nat))
          rw [show k = L.length from HEL'.out.symm, set_mid L (N - L.length) _ (by rw [HEL'.out]; omega), HEL'.out] at hset
          exact ⟨k + 1, xk, ck, by omega, by go_num, by rw [HEE.out], by rw [HEE.out]; exact hck, hck2, by rw [HEE.out]; exact (HSV.out.ch HC13.out (by simp)).ch2 hcs (fun h0 p hp hin => by rw [u64s_len] at h0; have := HLO.out p hp h0; have := List.mem_singleton.1 hin; omega), by rw [HEE.out, show N - (k + 1) = N - k - 1 by omega]; exact hset, HBX3.out.ch hcs (by simp), HC3.out.trans hcs (fun q hq => .inr (by have := List.mem_singleton.1 hq; omega)), fun p hp h0 => HLO.out p hp (by rw [HEE.out] at h0; exact h0)⟩
        case measure => simp [intOf]; omega
      · rw [if_neg h3] at hes
        have h33 : (x.k == 3) = false := by rw [beq_eq_false_iff_ne]; exact h3
        rw [h33] at HSD
        have hKd := fun (W : World) (hW : Ch [] wr W) => Kind_g (HG.out.same hW (by simp)) (2 * (k : Int)) (by omega)
        rw [t1] at hKd
        have HKD := Lib.hid hKd; clear hKd
        by_cases h2 : x.k = 2
        · rw [if_pos h2] at hes
          subst hes
          have hI := he2 h2
          rw [h2] at HKD
          have HEE := Lib.hid hEE; clear hEE
          clear t1 t2 t3 t4 t5 h3 h33 he2 hsides hx h2
          obtain ⟨v0, I', rfl⟩ : ∃ v0 I', I = v0 :: I' := by
            cases I with
            | nil => simp at hI
            | cons a l => exact ⟨a, l, rfl⟩
          obtain ⟨xb, xo, rfl, hcx⟩ := HSV.out.cells 0 (.int .u64 v0) rfl
          have hv0 := HEB'.out.2 v0 (List.mem_cons_self ..)
          have hxlo := HLO.out _ rfl hI
          simp only [List.length_cons] at hck hI
          go_wp2_with fail
          refine HSD.out.mono ?_
          rintro e w3 ⟨rfl, hc3⟩
          have hKd := HKD.out w3 hc3
          have HC13 := Lib.hid hc3; clear hc3 HSD
          have HKD3 := Lib.hid hKd; clear hKd HKD
          go_wp2_with fail
          refine HKD3.out.mono ?_
          rintro e w' ⟨rfl, rfl⟩
          have hbo := HBO.out.ch HC13.out (by simp)
          have hbx := HBX.out.ch HC13.out (by simp)
          have hlen : (L ++ List.replicate (N - k) 0).length = N := by rw [List.length_append, List.length_replicate, HEL'.out]; omega
          have c0 := (HC13.out.cell (cell_lt hcx) (by simp)).trans hcx
          rw [Nat.add_zero] at c0
          have f0 := hbo.frozen (i := k)
          obtain ⟨old, d0⟩ : ∃ old, w3.cell? ⟨w.heap.size, k, none⟩ = some old := ⟨_, hbo.cell (List.getElem?_eq_getElem (show k < (u64s (L ++ List.replicate (N - k) 0)).length by rw [u64s_len, hlen]; exact hkn))⟩
          have hlt0 := hbo.lt
          have HBO3 := Lib.hid hbo; clear hbo HBO
          have HBX3 := Lib.hid hbx; clear hbx HBX
          have HC3 := Lib.hid (HC.out.trans HC13.out (by simp)); clear HC
          clear hlen hcx
          by_cases hc1 : ck = 1
          · subst hc1
            have hI0 : I'.length = 0 := by omega
            obtain rfl : I' = [] := List.eq_nil_of_length_eq_zero hI0
            clear hI0
            go_wp2_with fail
            refine Ord.St.door (fun _ => True) [.fl, .fl, .fl, .fl, .rd, .fl, .fl, .fl, .ef, .fl] [0, 0, 0, 4, 12, 0, 32, 31, 159, 511] [0, 1, 2, 3, 4, 5, 6, 7, 8, 9] mixed (by kernel_rfl) rfl ?_
            refine Ord.St.fl2 (T' := ?_) 0 [1, 2, 3, 4, 5, 6, 7, 8, 9] _ _ rfl (by kernel_rfl) rfl rfl rfl rfl (fun K w' hk => ?_) ?_
            rotate_left
            · go_step; exact hk
            refine Ord.St.fl2 (T' := ?_) 1 [2, 3, 4, 5, 6, 7, 8, 9] _ _ rfl (by kernel_rfl) rfl rfl rfl rfl (fun K w' hk => ?_) ?_
            rotate_left
            · go_step; exact hk
            refine Ord.St.fl2 (T' := ?_) 2 [3, 4, 5, 6, 7, 8, 9] _ _ rfl (by kernel_rfl) rfl rfl rfl rfl (fun K w' hk => ?_) ?_
            rotate_left
            · go_step; exact hk
            refine Ord.St.fl2 (T' := ?_) 3 [4, 5, 6, 7, 8, 9] _ _ rfl (by kernel_rfl) rfl rfl rfl rfl (fun K w' hk => ?_) ?_
            rotate_left
            · go_step; exact hk
            refine Ord.St.rd2 (T' := ?_) 4 [5, 6, 7, 8, 9] _ _ rfl (by kernel_rfl) rfl rfl rfl rfl (fun K hk => ?_) ?_
            rotate_left
            · go_step; exact hk
            refine Ord.St.fl2 (T' := ?_) 5 [6, 7, 8, 9] _ _ rfl (by kernel_rfl) rfl rfl rfl rfl (fun K w' hk => ?_) ?_
            rotate_left
            · go_step; exact hk
            refine Ord.St.fl2 (T' := ?_) 6 [7, 8, 9] _ _ rfl (by kernel_rfl) rfl rfl rfl rfl (fun K w' hk => ?_) ?_
            rotate_left
            · go_step; exact hk
            refine Ord.St.fl2 (T' := ?_) 7 [8, 9] _ _ rfl (by kernel_rfl) rfl rfl rfl rfl (fun K w' hk => ?_) ?_
            rotate_left
            · go_step; exact hk
            refine Ord.St.ef 8 [9] _ rfl (by kernel_rfl) (fun K hK => ?_)
            go_wp2_with fail
            refine ⟨rfl, hK _ _ ?_⟩; clear hK K
            refine Ord.St.fl2 (T' := ?_) 9 [] _ _ rfl (by kernel_rfl) rfl rfl rfl rfl (fun K w' hk => ?_) ?_
            rotate_left
            · go_step; exact hk
            refine Ord.St.nil ?_
            go_wp2_with fail
            go_roundw
            case rel =>
              have hcd : Ch [] w3 w3.drew := (Ch.refl [] w3).drew
              have hcs : Ch [w.heap.size] w3.drew (w3.drew.setCell ⟨w.heap.size, k, none⟩ (.int .u64 v0)) := (Ch.refl _ _).setCell (.inl (by simp)) _
              have hset := (HBO3.out.ch hcd (by simp)).set (i := k) (.int .u64 v0)
              rw [show k = L.length from HEL'.out.symm, set_mid L (N - L.length) _ (by rw [HEL'.out]; omega), HEL'.out] at hset
              have hsv := ((HSV.out.ch HC13.out (by simp)).ch hcd (by simp)).ch2 hcs (fun _ p hp hin => by cases hp; have := List.mem_singleton.1 hin; simp only at hxlo this; omega)
              have hsv2 : Sv (w3.drew.setCell ⟨w.heap.size, k, none⟩ (.int .u64 v0)) (some ⟨xb, xo, none⟩) (u64s []) := ⟨by simp [u64s], by simp [u64s]⟩
              exact ⟨k + 1, some ⟨xb, xo, none⟩, 0, by omega, by go_num, by rw [HEE.out]; rfl, by rw [HEE.out]; show ([] : List Nat).length ≤ 0; simp, by omega, by rw [HEE.out]; exact hsv2, by rw [HEE.out, show N - (k + 1) = N - k - 1 by omega]; exact hset, (HBX3.out.ch hcd (by simp)).ch hcs (by simp), (HC3.out.trans hcd (by simp)).trans hcs (fun q hq => .inr (by have := List.mem_singleton.1 hq; omega)), fun p hp h0 => by rw [HEE.out] at h0; simp at h0⟩
            case measure => simp [intOf]; omega
          · have hck1 : 1 < ck := by omega
            have hcki : (ck : Int) - 1 = ((ck - 1 : Nat) : Int) := by omega
            go_wp2_with fail
            refine Ord.St.door (fun _ => True) [.fl, .fl, .fl, .fl, .rd, .fl, .fl, .fl, .ef, .fl] [0, 0, 0, 4, 12, 0, 32, 31, 159, 511] [0, 1, 2, 3, 4, 5, 6, 7, 8, 9] mixed (by kernel_rfl) rfl ?_
            refine Ord.St.fl2 (T' := ?_) 0 [1, 2, 3, 4, 5, 6, 7, 8, 9] _ _ rfl (by kernel_rfl) rfl rfl rfl rfl (fun K w' hk => ?_) ?_
            rotate_left
            · go_step; exact hk
            refine Ord.St.fl2 (T' := ?_) 1 [2, 3, 4, 5, 6, 7, 8, 9] _ _ rfl (by kernel_rfl) rfl rfl rfl rfl (fun K w' hk => ?_) ?_
            rotate_left
            · go_step; exact hk
            refine Ord.St.fl2 (T' := ?_) 2 [3, 4, 5, 6, 7, 8, 9] _ _ rfl (by kernel_rfl) rfl rfl rfl rfl (fun K w' hk => ?_) ?_
            rotate_left
            · go_step; exact hk
            refine Ord.St.fl2 (T' := ?_) 3 [4, 5, 6, 7, 8, 9] _ _ rfl (by kernel_rfl) rfl rfl rfl rfl (fun K w' hk => ?_) ?_
            rotate_left
            · go_step; exact hk
            refine Ord.St.rd2 (T' := ?_) 4 [5, 6, 7, 8, 9] _ _ rfl (by kernel_rfl) rfl rfl rfl rfl (fun K hk => ?_) ?_
            rotate_left
            · go_step; exact hk
            refine Ord.St.fl2 (T' := ?_) 5 [6, 7, 8, 9] _ _ rfl (by kernel_rfl) rfl rfl rfl rfl (fun K w' hk => ?_) ?_
            rotate_left
            · go_step; exact hk
            refine Ord.St.fl2 (T' := ?_) 6 [7, 8, 9] _ _ rfl (by kernel_rfl) rfl rfl rfl rfl (fun K w' hk => ?_) ?_
            rotate_left
            · go_step; exact hk
            refine Ord.St.fl2 (T' := ?_) 7 [8, 9] _ _ rfl (by kernel_rfl) rfl rfl rfl rfl (fun K w' hk => ?_) ?_
            rotate_left
            · go_step; exact hk
            refine Ord.St.ef 8 [9] _ rfl (by kernel_rfl) (fun K hK => ?_)
            go_wp2_with fail
            refine ⟨rfl, hK _ _ ?_⟩; clear hK K
            refine Ord.St.fl2 (T' := ?_) 9 [] _ _ rfl (by kernel_rfl) rfl rfl rfl rfl (fun K w' hk => ?_) ?_
            rotate_left
            · go_step; exact hk
            refine Ord.St.nil ?_
            go_wp2_with fail
            go_roundw
            case rel =>
              have hcd : Ch [] w3 w3.drew := (Ch.refl [] w3).drew
              have hcs : Ch [w.heap.size] w3.drew (w3.drew.setCell ⟨w.heap.size, k, none⟩ (.int .u64 v0)) := (Ch.refl _ _).setCell (.inl (by simp)) _
              have hset := (HBO3.out.ch hcd (by simp)).set (i := k) (.int .u64 v0)
              rw [show k = L.length from HEL'.out.symm, set_mid L (N - L.length) _ (by rw [HEL'.out]; omega), HEL'.out] at hset
              have hsv := ((HSV.out.ch HC13.out (by simp)).ch hcd (by simp)).ch2 hcs (fun _ p hp hin => by cases hp; have := List.mem_singleton.1 hin; simp only at hxlo this; omega)
              have hsv2 : Sv (w3.drew.setCell ⟨w.heap.size, k, none⟩ (.int .u64 v0)) (some ⟨xb, xo + 1, none⟩) (u64s I') := ⟨fun i x hx => by
                obtain ⟨b9, o9, e9, hc9⟩ := hsv.cells (i + 1) x (by simpa [u64s] using hx)
                cases e9
                exact ⟨_, _, rfl, by rw [show xo + 1 + i = xo + (i + 1) by omega]; exact hc9⟩, by have := hsv.bd; simp [u64s] at this ⊢; omega⟩
              exact ⟨k + 1, some ⟨xb, xo + 1, none⟩, ck - 1, by omega, by go_num, by rw [HEE.out]; rfl, by rw [HEE.out]; show I'.length ≤ _; omega, by omega, by rw [HEE.out]; exact hsv2, by rw [HEE.out, show N - (k + 1) = N - k - 1 by omega]; exact hset, (HBX3.out.ch hcd (by simp)).ch hcs (by simp), (HC3.out.trans hcd (by simp)).trans hcs (fun q hq => .inr (by have := List.mem_singleton.1 hq; omega)), fun p hp h0 => by cases hp; exact hxlo⟩
            case measure => simp [intOf]; omega
        · rw [if_neg h2] at hes
          subst hes
          have h22 : ((x.k : Int) == 2) = false := by rw [beq_eq_false_iff_ne]; omega
          have HEE := Lib.hid hEE; clear hEE
          clear t1 t2 t3 t4 h3 h33 he2 hsides hx h2
          generalize x.k = xkk at *
          go_wp2_with fail
          refine HSD.out.mono ?_
          rintro e w3 ⟨rfl, hc3⟩
          have hKd := HKD.out w3 hc3
          have HC13 := Lib.hid hc3; clear hc3 HSD
          have HKD3 := Lib.hid hKd; clear hKd HKD
          go_wp2_with fail
          refine HKD3.out.mono ?_
          rintro e w' ⟨rfl, rfl⟩
          go_wp2_with fail
          go_roundw
          case rel =>
            have hset := HBO.out.ch HC13.out (by simp)
            rw [show N - k = N - L.length by rw [HEL'.out], set_zero L (N - L.length) (by rw [HEL'.out]; omega), HEL'.out] at hset
            exact ⟨k + 1, xk, ck, by omega, by go_num, by rw [HEE.out], by rw [HEE.out]; exact hck, hck2, by rw [HEE.out]; exact HSV.out.ch HC13.out (by simp), by rw [HEE.out, show N - (k + 1) = N - k - 1 by omega]; exact hset, HBX.out.ch HC13.out (by simp), HC.out.trans HC13.out (by simp), fun p hp h0 => HLO.out p hp (by rw [HEE.out] at h0; exact h0)⟩
          case measure => simp [intOf]; omega
    · have hkN : k = N := by omega
      have hbo2 : blk wr w.heap.size (u64s (E N).1) := by
        have := hbo
        rw [hkN, Nat.sub_self, List.replicate_zero, List.append_nil] at this
        exact this
      have HBO2 := Lib.hid hbo2; clear hbo2 hbo hbx hsv hlo
      have HC := Lib.hid hc; clear hc
      go_wp2_with fail
      go_ret
      exact ⟨rfl, HBO2.out, HC.out⟩
end
end Go.Proofs.Ytkedpifopclipaa
namespace Go.Aig
/-- what a word of references is, for words of the inputs -/
def wsOf (ins : List Nat) (ns : List Nd) (l : List Nat) : List Nat := l.map (wref 18446744073709551615 (wvF 18446744073709551615 ins ns).1)
/-- what a word of references is, for an assignment -/
def bsOf (ins : List Bool) (ns : List Nd) (l : List Nat) : List Bool := l.map (bv (fun i => ins.getD i false) ns)
def wOf (l : List Bool) : List Nat := l.map fun b => if b then 1 else 0
theorem wOf_bit (l : List Bool) : (fun i => ((wOf l).getD i 0).testBit 0) = fun i => l.getD i false := by
  funext i
  unfold wOf
  rw [List.getD_eq_getElem?_getD, List.getD_eq_getElem?_getD, List.getElem?_map]
  cases l[i]? with
  | none => rfl
  | some b => cases b <;> rfl
theorem wsOf_bits (ins : List Bool) (ns : List Nd) (l : List Nat) : (wsOf (wOf ins) ns l).map (fun v => v.testBit 0) = bsOf ins ns l := by
  unfold wsOf bsOf
  rw [List.map_map]
  apply List.map_congr_left
  intro r _
  have := wv_bv (N := 64) (k := 0) (by omega) (wOf ins) ns r
  rw [wOf_bit] at this
  exact this
theorem wOf_lt (l : List Bool) : ∀ v ∈ wOf l, v < 2 ^ 64 := fun v hv => by
  obtain ⟨b, _, rfl⟩ := List.mem_map.1 hv
  cases b <;> decide
theorem wsOf_lt {ins : List Nat} (h : ∀ v ∈ ins, v < 2 ^ 64) (ns : List Nd) (l : List Nat) : ∀ v ∈ wsOf ins ns l, v < 2 ^ 64 := fun v hv => by
  obtain ⟨r, _, rfl⟩ := List.mem_map.1 hv
  exact wref_lt (N := 64) (wvF_lt (N := 64) h ns).1 r
end Go.Aig
namespace Go.Proofs.Ytkedpifopclipaa
open Go.RowKit Go.Mem Go.Aig
section
variable {w : World} {g : Nat} {G : Gra} {F : List Nat}
theorem fnvsimcheck1 : Fnv 175 := fnv_of Try.func175 (by simp [Try.f175]) (by simp [Try.f175])
set_option maxRecDepth 100000 in
set_option maxHeartbeats 1000000 in
theorem simcheck1_is (h : GIn w g G F) {bx : Nat} (hb : w.cell? ⟨bx, 0, none⟩ = some (.pointer (some ⟨g, 0, none⟩))) (r : Int) (hr : r ≤ 9223372036854775807) :
    Calls Try.prog 175 (#[.int .i64 r] ++ #[.pointer (some ⟨bx, 0, none⟩)]) w fun e w' => e = .returned (.bool (!right G.nodes r)) ∧ w = w' := by
  show Calls Try.prog 175 #[.int .i64 r, .pointer (some ⟨bx, 0, none⟩)] w _
  have HR := Right_g h r hr
  clear h
  generalize right G.nodes r = q at *
  go_enter Try.func175, Try.ntmps175
  go_wp2_with fail
  refine HR.mono ?_
  rintro e w' ⟨rfl, rfl⟩
  go_wp2_with fail
  go_ret
  exact ⟨ret_bool rfl, rfl⟩
set_option maxRecDepth 100000 in
set_option maxHeartbeats 2000000 in
theorem simcheck_is (h : GIn w g G F) {a : Option Addr} {l : List Int} (n c : Nat) (hn : l.length = n) (hS : Sl w a l) (hbd : ∀ r ∈ l, r ≤ 9223372036854775807) :
    Calls Try.prog 110 #[.pointer (some ⟨g, 0, none⟩), .slice a n c] w fun e w' => e = .returned (.int .i64 (if badIn G l then 200 else 0 : Nat)) ∧ Ch [] w w' := by
  subst hn
  have hpos := h.ok.wf.pos
  have hp0 : ((G.nodes.length : Int) == 0) = false := beqN (by omega)
  have hC : ∀ W, W = w.alloc (.cells #[.pointer (some ⟨g, 0, none⟩)] 27) → Calls Try.prog 84 #[.slice a l.length c, .func (.func 175) #[] #[.pointer (some ⟨w.heap.size, 0, none⟩)]] W fun e w' => e = .returned (.bool (badIn G l)) ∧ W = w' := fun W hW => by
    have hc := alw_ch hW
    have hb := alw_blk (xs := [.pointer (some ⟨g, 0, none⟩)]) hW
    exact CFref_is c 175 #[.pointer (some ⟨w.heap.size, 0, none⟩)] (fun r => !right G.nodes r) (hS.ch hc (by simp)) (fun r hr => simcheck1_is (h.same hc (by simp)) (hb.cell (i := 0) rfl) r (hbd r hr)) fnvsimcheck1
  have hL : ∀ W, W = w.alloc (.cells #[.pointer (some ⟨g, 0, none⟩)] 27) → Calls Try.prog 26 #[.pointer (some ⟨g, 0, none⟩)] W fun e w' => e = .returned (.int .i64 G.nodes.length) ∧ W = w' := fun W hW => Len_g (h.same (alw_ch hW) (by simp))
  have hw : w.cell? ⟨w.heap.size, 0, none⟩ = none := by simp [World.cell?]
  have HC := Lib.hid hC; clear hC
  have HL := Lib.hid hL; clear hL hw
  clear h hS hbd
  cases hq : badIn G l
  · rw [hq] at HC
    have HQ := Lib.hid hq; clear hq
    go_enter Try.func110, Try.ntmps110
    go_wp2_with fail
    refine (HL.out _ rfl).mono ?_
    rintro e w' ⟨rfl, rfl⟩
    go_wp2_with fail
    refine (HC.out _ rfl).mono ?_
    rintro e w' ⟨rfl, rfl⟩
    go_wp2_with fail
    go_ret
    exact ⟨rfl, (Ch.refl _ _).alloc _⟩
  · rw [hq] at HC
    have HQ := Lib.hid hq; clear hq
    go_enter Try.func110, Try.ntmps110
    go_wp2_with fail
    refine (HL.out _ rfl).mono ?_
    rintro e w' ⟨rfl, rfl⟩
    go_wp2_with fail
    refine (HC.out _ rfl).mono ?_
    rintro e w' ⟨rfl, rfl⟩
    go_wp2_with fail
    go_ret
    exact ⟨rfl, (Ch.refl _ _).alloc _⟩
/-- what Words returns -/
def wordsR (G : Gra) (ins : List Nat) (l : List Int) : List Nat × Nat := if badIn G l then ([], 200) else if ins.length ≠ (inputs G.nodes).length then ([], 210) else (wsOf ins G.nodes (nats l), 0)
/-- a new slice of words -/
def UNew (w : World) (v : Value) (l : List Nat) (w' : World) : Prop := row w' 183 1 v l.length (u64s l) ∧ (∀ q ∈ v.ownBlock.toList, w.heap.size ≤ q) ∧ Ch [] w w'
set_option maxRecDepth 100000 in
set_option maxHeartbeats 8000000 in
theorem simWords_is (h : GIn w g G F) {xa : Option Addr} {ins : List Nat} (xc : Nat) (hS : Sv w xa (u64s ins)) (hlt : ∀ v ∈ ins, v < 2 ^ 64) (hcap : ins.length ≤ xc) (hxc : xc ≤ 9223372036854775807) {a : Option Addr} {l : List Int} (c : Nat) (hL : Sl w a l) (hbd : ∀ r ∈ l, -9223372036854775808 ≤ r ∧ r ≤ 9223372036854775807) (hll : l.length ≤ 100000) :
    Calls Try.prog 109 #[.pointer (some ⟨g, 0, none⟩), .slice xa ins.length xc, .slice a l.length c] w fun e w' => ∃ v, e = .returned (.tuple #[v, .int .i64 (wordsR G ins l).2]) ∧ UNew w v (wordsR G ins l).1 w' := by
  have hpos := h.ok.wf.pos
  have hroom := h.ok.room
  have hmost := h.ok.most
  have hCk := simcheck_is h l.length c rfl hL (fun r hr => (hbd r hr).2)
  have hIn := fun (W : World) (hW : Ch [] w W) => Inputs_g (h.same hW (by simp))
  by_cases hb : badIn G l = true
  · have hR : wordsR G ins l = ([], 200) := by unfold wordsR; rw [if_pos hb]
    rw [hR]
    rw [if_pos hb] at hCk
    have HCK := Lib.hid hCk; clear hCk h hS hlt hL hbd hIn hb hR
    go_enter Try.func109, Try.ntmps109
    go_wp2_with fail
    refine HCK.out.mono ?_
    rintro e w1 ⟨rfl, hc1⟩
    have HC1 := Lib.hid hc1; clear hc1
    go_wp2_with fail
    go_ret2
    exact ⟨_, rfl, ⟨rfl, .inl ⟨rfl, rfl⟩⟩, by simp, HC1.out⟩
  · have hb2 : badIn G l = false := by simpa using hb
    rw [if_neg hb] at hCk
    obtain ⟨hnat, hnlt⟩ := badIn_no hb2
    by_cases hi : ins.length = (inputs G.nodes).length
    · have hR : wordsR G ins l = (wsOf ins G.nodes (nats l), 0) := by unfold wordsR; rw [if_neg hb, if_neg (by simp [hi])]
      rw [hR]
      have hNd := fun (W : World) (hW : Ch [] w W) => simnodes_is (h.same hW (by simp)) xc (hS.ch hW (by simp)) hi.symm hlt hcap hxc
      have hvl := wvF_len U64 ins G.nodes
      have hvb := (wvF_lt (N := 64) hlt G.nodes).1
      rw [u64_pow] at hvb
      unfold wsOf
      generalize hV : (wvF U64 ins G.nodes).1 = V at *
      clear hV
      have hie : ((ins.length : Int) != (inputs G.nodes).length) = false := by simp [hi]
      have HCK := Lib.hid hCk; clear hCk
      have HIN := Lib.hid hIn; clear hIn
      have HND := Lib.hid hNd; clear hNd
      have HVL := Lib.hid hvl; clear hvl
      have HVB := Lib.hid hvb; clear hvb
      have HL := Lib.hid hL; clear hL
      have HNL := Lib.hid hnlt; clear hnlt
      have HNT := Lib.hid hnat; clear hnat
      clear h hS hlt hbd hb hb2 hR hi
      generalize (inputs G.nodes).length = ni at *
      have hcf : ∀ args w, (callFunc 203 args).run Try.prog w = .ok (.enter 203 args) w := fnvsimof1
      go_enter Try.func109, Try.ntmps109
      go_wp2_with fail
      refine HCK.out.mono ?_
      rintro e w1 ⟨rfl, hc1⟩
      have hI1 := HIN.out w1 hc1
      have HI1 := Lib.hid hI1; clear hI1 HIN
      have HC1 := Lib.hid hc1; clear hc1
      go_wp2_with fail
      refine HI1.out.mono ?_
      rintro e w2 ⟨v, rfl, hro, _, hc2⟩
      obtain ⟨ia, ic, rfl⟩ := row.shape hro
      have hc12 := HC1.out.trans hc2 (by simp)
      have hN2 := HND.out w2 hc12
      have HN2 := Lib.hid hN2; clear hN2 HND hro hc2
      have HC2 := Lib.hid hc12; clear hc12 HI1 HC1
      go_wp2_with fail
      refine HN2.out.mono ?_
      rintro e w3 ⟨rfl, hbo, hc3⟩
      have hc13 := HC2.out.trans hc3 (by simp)
      have hz23 := HC2.out.size
      clear HN2
      generalize w2.heap.size = ob at *
      have hOf := simof_is (w := w3) (some ⟨ob, 0, none⟩) G.nodes.length G.nodes.length
      have HOF := Lib.hid hOf; clear hOf
      have HBO := Lib.hid hbo; clear hbo
      have HC3 := Lib.hid hc13; clear hc13 hc3 HC2
      go_wp2_with fail
      refine HOF.out.mono ?_
      rintro e w4 ⟨rfl, hw4⟩
      have hbx := alw_blk (xs := [.slice (some ⟨ob, 0, none⟩) G.nodes.length G.nodes.length]) hw4
      have hbo := HBO.out.ch (alw_ch hw4) (by simp)
      have hc4 := HC3.out.trans (alw_ch hw4) (by simp)
      have hz34 := HC3.out.size
      clear hw4 HOF HBO HC3
      generalize w3.heap.size = bx at *
      have HBX := Lib.hid hbx; clear hbx
      have HBO := Lib.hid hbo; clear hbo
      have HC4 := Lib.hid hc4; clear hc4
      go_wp2_with fail
      go_loopw [10, 31] (fun o i wr => ∃ k : Nat, k ≤ l.length ∧ i = .int .i64 k ∧ Ch [] w4 wr ∧ row wr 183 1 o k (u64s (((nats l).take k).map (wref U64 V))) ∧ ∀ q ∈ o.ownBlock.toList, w4.heap.size ≤ q) (fun _ i _ => l.length - (intOf i).toNat)
      case atStart => exact ⟨0, by omega, rfl, Ch.refl _ _, ⟨rfl, .inl ⟨rfl, rfl⟩⟩, by simp⟩
      case round =>
        obtain ⟨k, hk, rfl, hc, hrow, hlo⟩ := hrel
        obtain ⟨oa, oc, rfl⟩ := row.shape hrow
        by_cases hlt : k < l.length
        · obtain ⟨x, hx⟩ : ∃ x, (nats l)[k]? = some x := ⟨_, List.getElem?_eq_getElem (by rw [nats_len]; exact hlt)⟩
          have hxl := HNL.out x (List.mem_of_getElem? hx)
          have hlx : l[k]? = some (x : Int) := by rw [← HNT.out, List.getElem?_map, hx]; rfl
          obtain ⟨xb, xo, rfl, hcl⟩ := HL.out.cells k x hlx
          have c0 := ((HC4.out.trans hc (by simp)).cell (cell_lt hcl) (by simp)).trans hcl
          have hW := simof1_is ((HBX.out.ch hc (by simp)).cell (i := 0) rfl) (HBO.out.ch hc (by simp)) HVL.out HVB.out x hxl (by omega)
          have hsu : u64s (((nats l).take (k + 1)).map (wref U64 V)) = u64s (((nats l).take k).map (wref U64 V)) ++ [.int .u64 (wref U64 V x)] := by rw [List.take_add_one, hx]; simp [u64s]
          generalize wref U64 V x = vx at hW hsu
          have hcA : Ch [] wr (wr.alloc (.cells #[.int .u64 vx] 183)) := (Ch.refl _ _).alloc _
          have hrA := hrow.ch hcA (by simp)
          have hbA : blk (wr.alloc (.cells #[.int .u64 vx] 183)) wr.heap.size [.int .u64 vx] := blk.new' _ _ rfl
          have HW := Lib.hid hW; clear hW
          have HSU := Lib.hid hsu; clear hsu
          have HRA := Lib.hid hrA; clear hrA hrow
          have HBA := Lib.hid hbA; clear hbA
          have HCA := Lib.hid hcA; clear hcA
          have HCP := Lib.hid hc; clear hc
          have HLO := Lib.hid hlo; clear hlo hcl hlx hx
          go_wp2_with fail
          refine HW.out.mono ?_
          rintro e w' ⟨rfl, rfl⟩
          go_wp2_with (at_builtin; go_loud (refine wpList_append_row slU64s rfl _ _ rfl (v := .slice oa k oc) (n := k) (xs := u64s (((nats l).take k).map (wref U64 V))) rfl HRA.out (ad := ⟨wr.heap.size, 0, none⟩) (m := 1) (c := 1) (news := [.int .u64 vx]) rfl rfl (news_blk HBA.out) (by simp [Value.oneCell']) (by omega) (by omega) ?_; intro v' w5 hown4 hC4 hf4; have HO4 := Lib.hid hown4; clear hown4; have HCC4 := Lib.hid hC4; clear hC4; have HF4 := Lib.hid hf4; clear hf4))
          go_roundw
          case rel =>
            obtain ⟨q1, q2⟩ := app_step HCP.out HCA.out HLO.out HCC4.out HF4.out
            refine ⟨k + 1, by omega, by go_num, q1, ?_, q2⟩
            rw [HSU.out]; exact HO4.out
          case measure => simp [intOf]; omega
        · have hkn : k = l.length := by omega
          have hall : (nats l).take k = nats l := List.take_of_length_le (by rw [nats_len]; omega)
          rw [hall] at hrow
          rw [hkn] at hrow hlo
          rw [hkn]
          have HROW := Lib.hid hrow; clear hrow
          have HLO := Lib.hid hlo; clear hlo
          have HCP := Lib.hid hc; clear hc hall hkn
          go_wp2_with fail
          go_ret2
          refine ⟨.slice oa l.length oc, rfl, ?_, fun q hq => Nat.le_trans HC4.out.size (HLO.out q hq), HC4.out.trans HCP.out (by simp)⟩
          have := HROW.out
          simpa using this
    · have hR : wordsR G ins l = ([], 210) := by unfold wordsR; rw [if_neg hb, if_pos hi]
      rw [hR]
      have hie : ((ins.length : Int) != (inputs G.nodes).length) = true := by simp; omega
      have HCK := Lib.hid hCk; clear hCk
      have HIN := Lib.hid hIn; clear hIn
      clear h hS hlt hL hbd hb hb2 hR hi hnat hnlt
      generalize (inputs G.nodes).length = ni at *
      go_enter Try.func109, Try.ntmps109
      go_wp2_with fail
      refine HCK.out.mono ?_
      rintro e w1 ⟨rfl, hc1⟩
      have hI1 := HIN.out w1 hc1
      have HI1 := Lib.hid hI1; clear hI1 HIN
      have HC1 := Lib.hid hc1; clear hc1
      go_wp2_with fail
      refine HI1.out.mono ?_
      rintro e w2 ⟨v, rfl, hro, _, hc2⟩
      obtain ⟨ia, ic, rfl⟩ := row.shape hro
      have HC2 := Lib.hid (HC1.out.trans hc2 (by simp)); clear hc2 HI1 HC1 hro
      go_wp2_with fail
      go_ret2
      exact ⟨_, rfl, ⟨rfl, .inl ⟨rfl, rfl⟩⟩, by simp, HC2.out⟩
end
end Go.Proofs.Ytkedpifopclipaa
namespace Go.Aig
def M64 : Nat := 2 ^ 64 - 1
def lowW : List Nat := [0xaaaaaaaaaaaaaaaa, 0xcccccccccccccccc, 0xf0f0f0f0f0f0f0f0, 0xff00ff00ff00ff00, 0xffff0000ffff0000, 0xffffffff00000000]
/-- the words of n inputs for the assignments from 64 * block on -/
def inW (n block : Nat) : List Nat := (List.range n).map fun i => if i < 6 then lowW.getD i 0 else if block / 2 ^ (i - 6) % 2 = 1 then M64 else 0
def maskW (n : Nat) : Nat := if n < 6 then 2 ^ 2 ^ n - 1 else M64
/-- the table of what is told of the nodes -/
def tabW (ns : List Nd) (f : List Nat → Nat) (n : Nat) : List Nat := (List.range (2 ^ (n - 6))).map fun block => f (wvF M64 (inW n block) ns).1 &&& maskW n
/-- the assignment of a number -/
def asg (n a : Nat) : Nat → Bool := fun i => decide (i < n) && a.testBit i
theorem low_bit : ∀ i, i < 6 → ∀ k, k < 64 → (lowW.getD i 0).testBit k = k.testBit i := by decide +kernel
theorem inW_len (n block : Nat) : (inW n block).length = n := by simp [inW]
theorem inW_bit (n block k : Nat) (hk : k < 64) : (fun i => ((inW n block).getD i 0).testBit k) = asg n (64 * block + k) := by
  funext i
  unfold inW asg
  rw [List.getD_eq_getElem?_getD, List.getElem?_map]
  by_cases hi : i < n
  · rw [List.getElem?_range hi, decide_eq_true hi, Bool.true_and]
    show (if i < 6 then lowW.getD i 0 else if block / 2 ^ (i - 6) % 2 = 1 then M64 else 0).testBit k = _
    rw [show 64 * block + k = 2 ^ 6 * block + k from rfl, Nat.testBit_two_pow_mul_add _ (show k < 2 ^ 6 from hk)]
    by_cases h6 : i < 6
    · rw [if_pos h6, if_pos h6]
      exact low_bit i h6 k hk
    · have hb : block.testBit (i - 6) = decide (block / 2 ^ (i - 6) % 2 = 1) := Nat.testBit_eq_decide_div_mod_eq
      rw [if_neg h6, if_neg h6, hb]
      split
      · rename_i h
        rw [decide_eq_true h]
        unfold M64
        rw [Nat.testBit_two_pow_sub_one, decide_eq_true hk]
      · rename_i h
        rw [decide_eq_false h, Nat.zero_testBit]
  · rw [List.getElem?_eq_none (by simp; omega), decide_eq_false hi, Bool.false_and]
    simp
theorem mask_bit {n block k : Nat} (hb : block < 2 ^ (n - 6)) (hk : k < 64) : (maskW n).testBit k = decide (64 * block + k < 2 ^ n) := by
  unfold maskW
  split
  · rename_i h
    rw [show n - 6 = 0 by omega] at hb
    rw [Nat.testBit_two_pow_sub_one, show block = 0 by omega, Nat.mul_zero, Nat.zero_add]
  · rename_i h
    unfold M64
    rw [Nat.testBit_two_pow_sub_one, decide_eq_true hk]
    have h2 : 2 ^ n = 2 ^ (n - 6) * 2 ^ 6 := by rw [← Nat.pow_add]; congr 1; omega
    exact (decide_eq_true (by omega)).symm
/-- bit k of the table's word is what is told of the assignment 64 * block + k -/
theorem tab_at (ns : List Nd) (f : List Nat → Nat) (n : Nat) {block : Nat} (hb : block < 2 ^ (n - 6)) : (tabW ns f n)[block]? = some (f (wvF M64 (inW n block) ns).1 &&& maskW n) := by
  unfold tabW
  rw [List.getElem?_map, List.getElem?_range hb]
  rfl
theorem tab_len (ns : List Nd) (f : List Nat → Nat) (n : Nat) : (tabW ns f n).length = 2 ^ (n - 6) := by simp [tabW]
theorem tab_bit (ns : List Nd) (r n : Nat) {block k : Nat} (hb : block < 2 ^ (n - 6)) (hk : k < 64) :
    ((tabW ns (fun vs => wref M64 vs r) n).getD block 0).testBit k = (decide (64 * block + k < 2 ^ n) && bv (asg n (64 * block + k)) ns r) := by
  rw [List.getD_eq_getElem?_getD, tab_at ns _ n hb]
  show (wref M64 (wvF M64 (inW n block) ns).1 r &&& maskW n).testBit k = _
  rw [Nat.testBit_and, mask_bit hb hk, Bool.and_comm]
  congr 1
  unfold M64
  rw [wv_bv hk, inW_bit n block k hk]
theorem tabx_bit (ns : List Nd) (a b n : Nat) {block k : Nat} (hb : block < 2 ^ (n - 6)) (hk : k < 64) :
    ((tabW ns (fun vs => wref M64 vs a ^^^ wref M64 vs b) n).getD block 0).testBit k = (decide (64 * block + k < 2 ^ n) && (bv (asg n (64 * block + k)) ns a ^^ bv (asg n (64 * block + k)) ns b)) := by
  rw [List.getD_eq_getElem?_getD, tab_at ns _ n hb]
  show ((wref M64 (wvF M64 (inW n block) ns).1 a ^^^ wref M64 (wvF M64 (inW n block) ns).1 b) &&& maskW n).testBit k = _
  rw [Nat.testBit_and, mask_bit hb hk, Bool.and_comm, Nat.testBit_xor]
  congr 1
  unfold M64
  rw [wv_bv hk, wv_bv hk, inW_bit n block k hk]
end Go.Aig
namespace Go.Aig
/-- how many bits of a word of 64 are 1 -/
def cnt (w : Nat) : Nat := ((List.range 64).filter fun k => w.testBit k).length
theorem odd_part : ∀ w : Nat, w ≠ 0 → ∃ t q, w = 2 ^ t * (2 * q + 1) := by
  intro w
  induction w using Nat.strongRecOn with
  | ind w ih =>
    intro h
    rcases Nat.mod_two_eq_zero_or_one w with h2 | h2
    · obtain ⟨t, q, e⟩ := ih (w / 2) (by omega) (by omega)
      exact ⟨t + 1, q, by rw [Nat.pow_succ, Nat.mul_assoc, Nat.mul_left_comm, ← e]; omega⟩
    · exact ⟨0, w / 2, by omega⟩
theorem drop_low (w : Nat) (h : w ≠ 0) : ∃ t, w.testBit t = true ∧ ∀ j, (w &&& (w - 1)).testBit j = (w.testBit j && decide (j ≠ t)) := by
  obtain ⟨t, q, e⟩ := odd_part w h
  have hp : 0 < 2 ^ t := Nat.two_pow_pos t
  have e1 : w - 1 = 2 ^ t * (2 * q) + (2 ^ t - 1) := by rw [e, Nat.mul_add]; omega
  have h0 : ∀ m, (2 * q + 1).testBit m = if m = 0 then true else q.testBit (m - 1) := by
    intro m
    cases m with
    | zero => simp
    | succ m => rw [if_neg (by omega), Nat.testBit_succ, show (2 * q + 1) / 2 = q by omega]; rfl
  have h1 : ∀ m, (2 * q).testBit m = if m = 0 then false else q.testBit (m - 1) := by
    intro m
    cases m with
    | zero => simp
    | succ m => rw [if_neg (by omega), Nat.testBit_succ, show (2 * q) / 2 = q by omega]; rfl
  refine ⟨t, ?_, fun j => ?_⟩
  · rw [e, Nat.testBit_two_pow_mul, Nat.sub_self, h0]; simp
  · rw [Nat.testBit_and, e1]
    rw [e, Nat.testBit_two_pow_mul, Nat.testBit_two_pow_mul_add _ (by omega), h0, h1]
    by_cases hj : j < t
    · rw [decide_eq_false (by omega)]; simp
    · rw [if_neg hj, decide_eq_true (by omega), Bool.true_and]
      by_cases ht : j = t
      · subst ht; simp
      · rw [if_neg (by omega), if_neg (by omega), Bool.and_self, decide_eq_true ht, Bool.and_true]
theorem filter_drop (p : Nat → Bool) (t : Nat) (ht : p t = true) : ∀ n, t < n → ((List.range n).filter fun k => p k && decide (k ≠ t)).length + 1 = ((List.range n).filter p).length
  | 0, h => by omega
  | n + 1, h => by
    rw [List.range_succ, List.filter_append, List.filter_append, List.length_append, List.length_append]
    by_cases hn : t = n
    · subst hn
      have : (List.range t).filter (fun k => p k && decide (k ≠ t)) = (List.range t).filter p := by
        apply List.filter_congr
        intro k hk
        have := List.mem_range.1 hk
        rw [decide_eq_true (by omega), Bool.and_true]
      rw [this]
      simp [ht]
    · have ih := filter_drop p t ht n (by omega)
      have : ([n].filter fun k => p k && decide (k ≠ t)) = [n].filter p := by
        apply List.filter_congr
        intro k hk
        rw [List.mem_singleton] at hk
        rw [decide_eq_true (by omega), Bool.and_true]
      rw [this]
      omega
/-- one step of the count -/
theorem cnt_step {w : Nat} (h : w ≠ 0) (hw : w < 2 ^ 64) : cnt (w &&& (w - 1)) + 1 = cnt w := by
  obtain ⟨t, ht, hb⟩ := drop_low w h
  have ht64 : t < 64 := by
    by_cases h6 : t < 64
    · exact h6
    · have := Nat.testBit_lt_two_pow (Nat.lt_of_lt_of_le hw (Nat.pow_le_pow_right (by omega) (show 64 ≤ t by omega)))
      rw [this] at ht; cases ht
  unfold cnt
  rw [show (fun k => (w &&& (w - 1)).testBit k) = fun k => w.testBit k && decide (k ≠ t) from funext hb]
  exact filter_drop _ t ht 64 ht64
theorem cnt_zero : cnt 0 = 0 := by decide +kernel
theorem cnt_le (w : Nat) : cnt w ≤ 64 := by
  unfold cnt
  exact Nat.le_trans (List.length_filter_le _ _) (by simp)
end Go.Aig
namespace Go.Aig
/-- bit a of a table -/
def tbit (t : List Nat) (a : Nat) : Bool := (t.getD (a / 64) 0).testBit (a % 64)
def cntT (t : List Nat) : Nat := (t.map cnt).sum
/-- the first number below m whose bit is 1 -/
def firstT (t : List Nat) (m : Nat) : Option Nat := (List.range m).find? (tbit t)
theorem tbit_at (t : List Nat) (b k : Nat) (hk : k < 64) : tbit t (64 * b + k) = (t.getD b 0).testBit k := by
  unfold tbit
  rw [show (64 * b + k) / 64 = b by omega, show (64 * b + k) % 64 = k by omega]
theorem range_blocks (n : Nat) : List.range (64 * (n + 1)) = List.range (64 * n) ++ (List.range 64).map fun k => 64 * n + k := by
  rw [show 64 * (n + 1) = 64 * n + 64 by omega, List.range_add]
theorem cntT_blocks (t : List Nat) : ∀ n, n ≤ t.length → cntT (t.take n) = ((List.range (64 * n)).filter (tbit t)).length
  | 0, _ => rfl
  | n + 1, h => by
    rw [range_blocks, List.filter_append, List.length_append, ← cntT_blocks t n (by omega)]
    obtain ⟨x, hx⟩ : ∃ x, t[n]? = some x := ⟨_, List.getElem?_eq_getElem (show n < t.length by omega)⟩
    rw [List.take_add_one, hx]
    unfold cntT
    rw [List.map_append, List.sum_append]
    congr 1
    rw [List.filter_map, List.length_map]
    have : ((List.range 64).filter (tbit t ∘ fun k => 64 * n + k)) = (List.range 64).filter fun k => x.testBit k := by
      apply List.filter_congr
      intro k hk
      have hk := List.mem_range.1 hk
      show tbit t (64 * n + k) = _
      rw [tbit_at t n k hk, List.getD_eq_getElem?_getD, hx]
      rfl
    rw [this]
    simp [cnt]
theorem cntT_is (t : List Nat) : cntT t = ((List.range (64 * t.length)).filter (tbit t)).length := by
  have := cntT_blocks t t.length (Nat.le_refl _)
  rwa [List.take_length] at this
theorem firstT_none {t : List Nat} {m : Nat} (h : ∀ a, a < m → tbit t a = false) : firstT t m = none := by
  unfold firstT
  rw [List.find?_eq_none]
  intro a ha
  rw [h a (List.mem_range.1 ha)]
  simp
theorem find_range (p : Nat → Bool) (a : Nat) (hp : p a = true) (h : ∀ b, b < a → p b = false) : ∀ m, a < m → (List.range m).find? p = some a
  | 0, hm => by omega
  | m + 1, hm => by
    rw [List.range_succ, List.find?_append]
    by_cases he : a = m
    · subst he
      have : (List.range a).find? p = none := by
        rw [List.find?_eq_none]
        intro b hb
        rw [h b (List.mem_range.1 hb)]
        simp
      rw [this]
      simp [hp]
    · rw [find_range p a hp h m (by omega)]
      rfl
theorem firstT_some {t : List Nat} {m a : Nat} (hm : a < m) (hp : tbit t a = true) (h : ∀ b, b < a → tbit t b = false) : firstT t m = some a := find_range _ a hp h m hm
/-- a table's bit is what the reference is for the assignment of its number -/
theorem tabW_bit (ns : List Nd) (r n : Nat) {a : Nat} (ha : a < 2 ^ n) : tbit (tabW ns (fun vs => wref M64 vs r) n) a = bv (asg n a) ns r := by
  have hb : a / 64 < 2 ^ (n - 6) := by
    by_cases h6 : n < 6
    · have : 2 ^ n ≤ 2 ^ 5 := Nat.pow_le_pow_right (by omega) (by omega)
      have := Nat.two_pow_pos (n - 6)
      omega
    · have h2 : 2 ^ n = 2 ^ (n - 6) * 2 ^ 6 := by rw [← Nat.pow_add]; congr 1; omega
      omega
  unfold tbit
  rw [tab_bit ns r n hb (Nat.mod_lt _ (by omega)), Nat.div_add_mod, decide_eq_true ha, Bool.true_and]
theorem tabW_out (ns : List Nd) (r n : Nat) {a : Nat} (ha : 2 ^ n ≤ a) (hl : a < 64 * 2 ^ (n - 6)) : tbit (tabW ns (fun vs => wref M64 vs r) n) a = false := by
  unfold tbit
  rw [tab_bit ns r n (by omega) (Nat.mod_lt _ (by omega)), Nat.div_add_mod, decide_eq_false (by omega), Bool.false_and]
end Go.Aig
namespace Go.Aig
/-- what is told of two references -/
theorem tabx_at (ns : List Nd) (a b n : Nat) {k : Nat} (hk : k < 2 ^ n) : tbit (tabW ns (fun vs => wref M64 vs a ^^^ wref M64 vs b) n) k = (bv (asg n k) ns a ^^ bv (asg n k) ns b) := by
  have hb : k / 64 < 2 ^ (n - 6) := by
    by_cases h6 : n < 6
    · have : 2 ^ n ≤ 2 ^ 5 := Nat.pow_le_pow_right (by omega) (by omega)
      have := Nat.two_pow_pos (n - 6)
      omega
    · have h2 : 2 ^ n = 2 ^ (n - 6) * 2 ^ 6 := by rw [← Nat.pow_add]; congr 1; omega
      omega
  unfold tbit
  rw [tabx_bit ns a b n hb (Nat.mod_lt _ (by omega)), Nat.div_add_mod, decide_eq_true hk, Bool.true_and]
theorem tabx_out (ns : List Nd) (a b n : Nat) {k : Nat} (hk : 2 ^ n ≤ k) (hl : k < 64 * 2 ^ (n - 6)) : tbit (tabW ns (fun vs => wref M64 vs a ^^^ wref M64 vs b) n) k = false := by
  unfold tbit
  rw [tabx_bit ns a b n (by omega) (Nat.mod_lt _ (by omega)), Nat.div_add_mod, decide_eq_false (by omega), Bool.false_and]
theorem blocks_le (n : Nat) : 2 ^ n ≤ 64 * 2 ^ (n - 6) := by
  by_cases h6 : n < 6
  · have : 2 ^ n ≤ 2 ^ 5 := Nat.pow_le_pow_right (by omega) (by omega)
    have := Nat.two_pow_pos (n - 6)
    omega
  · have h2 : 2 ^ n = 2 ^ (n - 6) * 2 ^ 6 := by rw [← Nat.pow_add]; congr 1; omega
    omega
/-- a table of n inputs tells p -/
structure TabOf (T : List Nat) (n : Nat) (p : Nat → Bool) : Prop where
  len : T.length = 2 ^ (n - 6)
  at' : ∀ a, a < 2 ^ n → tbit T a = p a
  out : ∀ a, 2 ^ n ≤ a → a < 64 * 2 ^ (n - 6) → tbit T a = false
/-- what a reference is for the assignment of a number -/
def tellR (ns : List Nd) (n r : Nat) : Nat → Bool := fun a => bv (asg n a) ns r
def tellX (ns : List Nd) (n a b : Nat) : Nat → Bool := fun k => bv (asg n k) ns a ^^ bv (asg n k) ns b
theorem tabW_of (ns : List Nd) (r n : Nat) : TabOf (tabW ns (fun vs => wref M64 vs r) n) n (tellR ns n r) := ⟨tab_len _ _ _, fun _ h => tabW_bit ns r n h, fun _ h h2 => tabW_out ns r n h h2⟩
theorem tabx_of (ns : List Nd) (a b n : Nat) : TabOf (tabW ns (fun vs => wref M64 vs a ^^^ wref M64 vs b) n) n (tellX ns n a b) := ⟨tab_len _ _ _, fun _ h => tabx_at ns a b n h, fun _ h h2 => tabx_out ns a b n h h2⟩
/-- for how many assignments, and the first one -/
def countV (n : Nat) (p : Nat → Bool) : Nat := ((List.range (2 ^ n)).filter p).length
def firstV (n : Nat) (p : Nat → Bool) : Option Nat := (List.range (2 ^ n)).find? p
theorem filter_upto (p q : Nat → Bool) (m : Nat) (h : ∀ a, a < m → q a = p a) : ∀ d, (∀ a, m ≤ a → a < m + d → q a = false) → (List.range (m + d)).filter q = (List.range m).filter p
  | 0, _ => List.filter_congr fun a ha => h a (List.mem_range.1 ha)
  | d + 1, hd => by
    rw [← Nat.add_assoc, List.range_succ, List.filter_append, filter_upto p q m h d (fun a h1 h2 => hd a h1 (by omega))]
    simp [hd (m + d) (by omega) (by omega)]
theorem find_upto (p q : Nat → Bool) (m : Nat) (h : ∀ a, a < m → q a = p a) : ∀ d, (∀ a, m ≤ a → a < m + d → q a = false) → (List.range (m + d)).find? q = (List.range m).find? p
  | 0, _ => by
    have : ∀ l : List Nat, (∀ a ∈ l, q a = p a) → l.find? q = l.find? p := by
      intro l
      induction l with
      | nil => intro _; rfl
      | cons a l ih =>
        intro hl
        rw [List.find?_cons, List.find?_cons, hl a (List.mem_cons_self ..), ih (fun b hb => hl b (List.mem_cons_of_mem _ hb))]
    exact this _ fun a ha => h a (List.mem_range.1 ha)
  | d + 1, hd => by
    rw [← Nat.add_assoc, List.range_succ, List.find?_append, find_upto p q m h d (fun a h1 h2 => hd a h1 (by omega))]
    simp [hd (m + d) (by omega) (by omega)]
theorem TabOf.cnt {T : List Nat} {n : Nat} {p : Nat → Bool} (h : TabOf T n p) : cntT T = countV n p := by
  have hle := blocks_le n
  rw [cntT_is, h.len]
  unfold countV
  rw [show 64 * 2 ^ (n - 6) = 2 ^ n + (64 * 2 ^ (n - 6) - 2 ^ n) by omega, filter_upto p (tbit T) (2 ^ n) h.at' _ (fun a h1 h2 => h.out a h1 (by omega))]
theorem TabOf.first {T : List Nat} {n : Nat} {p : Nat → Bool} (h : TabOf T n p) : firstT T (64 * T.length) = firstV n p := by
  have hle := blocks_le n
  unfold firstT firstV
  rw [h.len, show 64 * 2 ^ (n - 6) = 2 ^ n + (64 * 2 ^ (n - 6) - 2 ^ n) by omega, find_upto p (tbit T) (2 ^ n) h.at' _ (fun a h1 h2 => h.out a h1 (by omega))]
/-- two tables of the same are the same -/
theorem TabOf.ext {T U : List Nat} {n : Nat} {p : Nat → Bool} (h : TabOf T n p) (h' : TabOf U n p) (hT : ∀ v ∈ T, v < 2 ^ 64) (hU : ∀ v ∈ U, v < 2 ^ 64) : T = U := by
  apply List.ext_getElem (by rw [h.len, h'.len])
  intro i h1 h2
  apply Nat.eq_of_testBit_eq
  intro k
  by_cases hk : k < 64
  · have e1 : tbit T (64 * i + k) = T[i].testBit k := by rw [tbit_at T i k hk, List.getD_eq_getElem?_getD, List.getElem?_eq_getElem h1]; rfl
    have e2 : tbit U (64 * i + k) = U[i].testBit k := by rw [tbit_at U i k hk, List.getD_eq_getElem?_getD, List.getElem?_eq_getElem h2]; rfl
    rw [← e1, ← e2]
    by_cases hn : 64 * i + k < 2 ^ n
    · rw [h.at' _ hn, h'.at' _ hn]
    · have := h.len
      rw [h.out _ (by omega) (by omega), h'.out _ (by omega) (by omega)]
  · have hp : 2 ^ 64 ≤ 2 ^ k := Nat.pow_le_pow_right (by omega) (by omega)
    rw [Nat.testBit_lt_two_pow (Nat.lt_of_lt_of_le (hT _ (List.getElem_mem h1)) hp), Nat.testBit_lt_two_pow (Nat.lt_of_lt_of_le (hU _ (List.getElem_mem h2)) hp)]
theorem tabW_lt (ns : List Nd) (f : List Nat → Nat) (n : Nat) : ∀ v ∈ tabW ns f n, v < 2 ^ 64 := fun v hv => by
  unfold tabW at hv
  obtain ⟨b, _, rfl⟩ := List.mem_map.1 hv
  refine Nat.lt_of_le_of_lt Nat.and_le_right ?_
  unfold maskW
  split
  · rename_i h
    have h2 : 2 ^ n ≤ 2 ^ 6 := Nat.pow_le_pow_right (by omega) (by omega)
    have h3 : 2 ^ 2 ^ n ≤ 2 ^ 64 := Nat.pow_le_pow_right (by omega) h2
    omega
  · unfold M64; omega
theorem countV_split (n : Nat) (p : Nat → Bool) : countV n p + countV n (fun a => !p a) = 2 ^ n := by
  have : ∀ l : List Nat, (l.filter p).length + (l.filter fun a => !p a).length = l.length := by
    intro l
    induction l with
    | nil => rfl
    | cons a l ih => cases h : p a <;> simp [h] <;> omega
  have h := this (List.range (2 ^ n))
  rwa [List.length_range] at h
theorem countV_pos (n : Nat) (p : Nat → Bool) : 0 < countV n p ↔ ∃ a, a < 2 ^ n ∧ p a = true := by
  unfold countV
  rw [List.length_pos_iff_exists_mem]
  constructor
  · rintro ⟨a, ha⟩
    obtain ⟨h1, h2⟩ := List.mem_filter.1 ha
    exact ⟨a, List.mem_range.1 h1, h2⟩
  · rintro ⟨a, h1, h2⟩
    exact ⟨a, List.mem_filter.2 ⟨List.mem_range.2 h1, h2⟩⟩
theorem firstV_none {n : Nat} {p : Nat → Bool} : firstV n p = none ↔ ∀ a, a < 2 ^ n → p a = false := by
  unfold firstV
  rw [List.find?_eq_none]
  constructor
  · intro h a ha
    have := h a (List.mem_range.2 ha)
    simpa using this
  · intro h a ha
    rw [h a (List.mem_range.1 ha)]
    simp
theorem firstV_some {n : Nat} {p : Nat → Bool} {a : Nat} (h : firstV n p = some a) : a < 2 ^ n ∧ p a = true ∧ ∀ b, b < a → p b = false := by
  unfold firstV at h
  rw [List.find?_range_eq_some] at h
  refine ⟨List.mem_range.1 h.2.1, h.1, fun b hb => ?_⟩
  have := h.2.2 b hb
  simpa using this
/-- the bits of an assignment -/
def asgBits (n a : Nat) : List Bool := (List.range n).map a.testBit
theorem asgBits_len (n a : Nat) : (asgBits n a).length = n := by simp [asgBits]
theorem asgBits_at (n a : Nat) : (fun i => (asgBits n a).getD i false) = asg n a := by
  funext i
  unfold asgBits asg
  rw [List.getD_eq_getElem?_getD, List.getElem?_map]
  by_cases hi : i < n
  · rw [List.getElem?_range hi, decide_eq_true hi, Bool.true_and]; rfl
  · rw [List.getElem?_eq_none (by simp; omega), decide_eq_false hi, Bool.false_and]; rfl
/-- what First and Parts return -/
def firstR (n : Nat) (p : Nat → Bool) : List Bool × Bool := match firstV n p with
  | none => ([], false)
  | some a => (asgBits n a, true)
end Go.Aig
namespace Go.Proofs.Ytkedpifopclipaa
open Go.RowKit Go.Mem Go.Aig
theorem bits_and_i64_nat (a b : Nat) (ha : a < 9223372036854775808) (hb : b < 9223372036854775808) : bits .and .i64 (a : Int) (b : Int) = ((a &&& b : Nat) : Int) := by
  have hx : a &&& b ≤ a := Nat.and_le_left
  have h1 : (BitVec.ofInt 64 (a : Int)).toNat = a := by
    rw [BitVec.ofInt_natCast, BitVec.toNat_ofNat]; exact Nat.mod_eq_of_lt (by omega)
  have h2 : (BitVec.ofInt 64 (b : Int)).toNat = b := by
    rw [BitVec.ofInt_natCast, BitVec.toNat_ofNat]; exact Nat.mod_eq_of_lt (by omega)
  show IntKind.i64.wrap ((BitVec.ofInt 64 (a : Int) &&& BitVec.ofInt 64 (b : Int)).toNat : Int) = _
  rw [BitVec.toNat_and, h1, h2, IntKind.wrap_i64]
  omega
/-- a bit, as the code asks for it -/
theorem bit_i64 (x d : Nat) (hx : x < 9223372036854775808) : (bits .and .i64 ((x : Int) / 2 ^ d) 1 == 1) = decide (x / 2 ^ d % 2 = 1) := by
  have h1 : x / 2 ^ d < 9223372036854775808 := Nat.lt_of_le_of_lt (Nat.div_le_self _ _) hx
  have h2 := bits_and_i64_nat (x / 2 ^ d) 1 h1 (by omega)
  have h3 : ((x / 2 ^ d : Nat) : Int) = (x : Int) / 2 ^ d := by rw [Int.natCast_ediv]; simp
  rw [Nat.and_one_is_mod, h3] at h2
  rw [show (1 : Int) = ((1 : Nat) : Int) from rfl, h2]
  rcases Nat.mod_two_eq_zero_or_one (x / 2 ^ d) with h | h <;> rw [h] <;> rfl
theorem bit_u64 (x d : Nat) (hx : x < 18446744073709551616) : (bits .and .u64 ((x : Int) / 2 ^ d) 1 == 1) = x.testBit d := by
  have h1 : x / 2 ^ d < 18446744073709551616 := Nat.lt_of_le_of_lt (Nat.div_le_self _ _) hx
  have h2 := bits_and_u64_nat (x / 2 ^ d) 1 h1 (by omega)
  have h3 : ((x / 2 ^ d : Nat) : Int) = (x : Int) / 2 ^ d := by rw [Int.natCast_ediv]; simp
  rw [Nat.and_one_is_mod, h3] at h2
  rw [show (1 : Int) = ((1 : Nat) : Int) from rfl, h2, Nat.testBit_eq_decide_div_mod_eq]
  rcases Nat.mod_two_eq_zero_or_one (x / 2 ^ d) with h | h <;> rw [h] <;> rfl
theorem inW_snoc (n block k : Nat) (hk : k < n) : (inW n block).take (k + 1) = (inW n block).take k ++ [if k < 6 then lowW.getD k 0 else if block / 2 ^ (k - 6) % 2 = 1 then M64 else 0] := by
  rw [List.take_add_one]
  congr 1
  unfold inW
  rw [List.getElem?_map, List.getElem?_range hk]
  rfl
theorem u64s_snoc (l : List Nat) (v : Nat) : u64s (l ++ [v]) = u64s l ++ [.int .u64 v] := by simp [u64s]
theorem inW_lt (n block : Nat) : ∀ v ∈ inW n block, v < 2 ^ 64 := fun v hv => by
  unfold inW at hv
  obtain ⟨i, _, rfl⟩ := List.mem_map.1 hv
  split
  · rename_i h
    have : ∀ i, i < 6 → lowW.getD i 0 < 2 ^ 64 := by decide +kernel
    exact this i h
  · split
    · unfold M64; omega
    · omega
theorem low_get : ∀ i, i < 6 → (u64s lowW)[i]? = some (.int .u64 (lowW.getD i 0 : Nat)) := by
  intro i hi
  apply u64s_get
  rw [List.getD_eq_getElem?_getD]
  have : i < lowW.length := hi
  rw [List.getElem?_eq_getElem this]
  rfl
section
variable {w : World}
set_option maxRecDepth 100000 in
set_option maxHeartbeats 4000000 in
theorem siminputs_is (n block : Nat) (hn : n ≤ 60) (hb : block ≤ 1000000) :
    Calls Try.prog 214 #[.int .i64 n, .int .i64 block] w fun e w' => ∃ v, e = .returned v ∧ row w' 183 1 v n (u64s (inW n block)) ∧ (∀ q ∈ v.ownBlock.toList, w.heap.size ≤ q) ∧ Ch [] w w' := by
  go_enter Try.func214, Try.ntmps214
  go_upto_region 2 with fail
  refine wp_alw ?_
  intro W1 hW1
  have hbl : blk W1 w.heap.size (u64s lowW) := by rw [hW1]; exact blk.new' _ _ rfl
  have hc1 : Ch [] w W1 := by rw [hW1]; exact (Ch.refl _ _).alloc _
  clear hW1
  have HBL := Lib.hid hbl; clear hbl
  have HC1 := Lib.hid hc1; clear hc1
  have hlen : (inW n block).length = n := inW_len n block
  have HSN := Lib.hid (inW_snoc n block)
  go_wp2_with fail
  go_loopw [6, 10] (fun o i wr => ∃ k : Nat, k ≤ n ∧ i = .int .i64 k ∧ Ch [] W1 wr ∧ row wr 183 1 o k (u64s ((inW n block).take k)) ∧ ∀ q ∈ o.ownBlock.toList, W1.heap.size ≤ q) (fun _ i _ => n - (intOf i).toNat)
  case atStart => exact ⟨0, by omega, rfl, Ch.refl _ _, ⟨rfl, .inl ⟨rfl, rfl⟩⟩, by simp⟩
  case round =>
    obtain ⟨k, hk, rfl, hc, hrow, hlo⟩ := hrel
    obtain ⟨oa, oc, rfl⟩ := row.shape hrow
    have HROW := Lib.hid hrow; clear hrow
    by_cases hlt : k < n
    · have hsn := HSN.out k hlt
      have HC := Lib.hid hc; clear hc
      have HLO := Lib.hid hlo; clear hlo
      have hlo1 := HC1.out.size
      by_cases h6 : k < 6
      · rw [if_pos h6] at hsn
        have c0 : wr.cell? ⟨w.heap.size, k, none⟩ = some (.int .u64 (lowW.getD k 0 : Nat)) := (HBL.out.ch HC.out (by simp)).cell (low_get k h6)
        generalize lowW.getD k 0 = x at hsn c0
        have hcA : Ch [] wr (wr.alloc (.cells #[.int .u64 x] 183)) := (Ch.refl _ _).alloc _
        have hrA := HROW.out.ch hcA (by simp)
        have hbA : blk (wr.alloc (.cells #[.int .u64 x] 183)) wr.heap.size [.int .u64 x] := blk.new' _ _ rfl
        have HSU := Lib.hid hsn; clear hsn
        have HRA := Lib.hid hrA; clear hrA
        have HBA := Lib.hid hbA; clear hbA
        have HCA := Lib.hid hcA; clear hcA
        go_wp2_with (at_builtin; go_loud (refine wpList_append_row slU64s rfl _ _ rfl (v := .slice oa k oc) (n := k) (xs := u64s ((inW n block).take k)) rfl HRA.out (ad := ⟨wr.heap.size, 0, none⟩) (m := 1) (c := 1) (news := [.int .u64 x]) rfl rfl (news_blk HBA.out) (by simp [Value.oneCell']) (by omega) (by omega) ?_; intro v' w5 hown4 hC4 hf4; have HO4 := Lib.hid hown4; clear hown4; have HCC4 := Lib.hid hC4; clear hC4; have HF4 := Lib.hid hf4; clear hf4))
        go_roundw
        case rel =>
          obtain ⟨q1, q2⟩ := app_step HC.out HCA.out HLO.out HCC4.out HF4.out
          refine ⟨k + 1, by omega, by go_num, q1, ?_, q2⟩
          rw [HSU.out, u64s_snoc]
          exact HO4.out
        case measure => simp [intOf]; omega
      · rw [if_neg h6] at hsn
        obtain ⟨d, hd⟩ : ∃ d : Nat, (k : Int) - 6 = d := ⟨k - 6, by omega⟩
        rw [show k - 6 = d by omega] at hsn
        have hbit := bit_i64 block d (by omega)
        have hd60 : d ≤ 60 := by omega
        by_cases hq : block / 2 ^ d % 2 = 1
        · rw [if_pos hq] at hsn
          rw [decide_eq_true hq] at hbit
          have HQ := Lib.hid hq; clear hq
          have hcA : Ch [] wr (wr.alloc (.cells #[.int .u64 18446744073709551615] 183)) := (Ch.refl _ _).alloc _
          have hrA := HROW.out.ch hcA (by simp)
          have hbA : blk (wr.alloc (.cells #[.int .u64 18446744073709551615] 183)) wr.heap.size [.int .u64 18446744073709551615] := blk.new' _ _ rfl
          have HSU := Lib.hid hsn; clear hsn
          have HRA := Lib.hid hrA; clear hrA
          have HBA := Lib.hid hbA; clear hbA
          have HCA := Lib.hid hcA; clear hcA
          go_wp2_with (at_builtin; go_loud (refine wpList_append_row slU64s rfl _ _ rfl (v := .slice oa k oc) (n := k) (xs := u64s ((inW n block).take k)) rfl HRA.out (ad := ⟨wr.heap.size, 0, none⟩) (m := 1) (c := 1) (news := [.int .u64 18446744073709551615]) rfl rfl (news_blk HBA.out) (by simp [Value.oneCell']) (by omega) (by omega) ?_; intro v' w5 hown4 hC4 hf4; have HO4 := Lib.hid hown4; clear hown4; have HCC4 := Lib.hid hC4; clear hC4; have HF4 := Lib.hid hf4; clear hf4))
          go_roundw
          case rel =>
            obtain ⟨q1, q2⟩ := app_step HC.out HCA.out HLO.out HCC4.out HF4.out
            refine ⟨k + 1, by omega, by go_num, q1, ?_, q2⟩
            rw [HSU.out, u64s_snoc, show M64 = 18446744073709551615 from rfl]
            exact HO4.out
          case measure => simp [intOf]; omega
        · rw [if_neg hq] at hsn
          rw [decide_eq_false hq] at hbit
          have HQ := Lib.hid hq; clear hq
          have hcA : Ch [] wr (wr.alloc (.cells #[.int .u64 0] 183)) := (Ch.refl _ _).alloc _
          have hrA := HROW.out.ch hcA (by simp)
          have hbA : blk (wr.alloc (.cells #[.int .u64 0] 183)) wr.heap.size [.int .u64 0] := blk.new' _ _ rfl
          have HSU := Lib.hid hsn; clear hsn
          have HRA := Lib.hid hrA; clear hrA
          have HBA := Lib.hid hbA; clear hbA
          have HCA := Lib.hid hcA; clear hcA
          go_wp2_with (at_builtin; go_loud (refine wpList_append_row slU64s rfl _ _ rfl (v := .slice oa k oc) (n := k) (xs := u64s ((inW n block).take k)) rfl HRA.out (ad := ⟨wr.heap.size, 0, none⟩) (m := 1) (c := 1) (news := [.int .u64 0]) rfl rfl (news_blk HBA.out) (by simp [Value.oneCell']) (by omega) (by omega) ?_; intro v' w5 hown4 hC4 hf4; have HO4 := Lib.hid hown4; clear hown4; have HCC4 := Lib.hid hC4; clear hC4; have HF4 := Lib.hid hf4; clear hf4))
          go_roundw
          case rel =>
            obtain ⟨q1, q2⟩ := app_step HC.out HCA.out HLO.out HCC4.out HF4.out
            refine ⟨k + 1, by omega, by go_num, q1, ?_, q2⟩
            rw [HSU.out, u64s_snoc]
            exact HO4.out
          case measure => simp [intOf]; omega
    · have hkn : k = n := by omega
      have hall : (inW n block).take k = inW n block := List.take_of_length_le (by omega)
      have hrow := HROW.out
      rw [hall, hkn] at hrow
      clear HROW
      rw [hkn] at hlo ⊢
      have HROW := Lib.hid hrow; clear hrow
      have HLO := Lib.hid hlo; clear hlo
      have HC := Lib.hid hc; clear hc hall hkn
      go_wp2_with fail
      go_ret
      exact ⟨_, rfl, HROW.out, fun q hq => Nat.le_trans HC1.out.size (HLO.out q hq), HC1.out.trans HC.out (by simp)⟩
end
end Go.Proofs.Ytkedpifopclipaa
namespace Go.Ord
open Go
section
variable {ops : Array Oper} {ks : List Kd} {A : List Nat} {C : World → Prop} {Q : Act → World → Prop} {P : Program} {Q' : Exit → Act → World → Prop} {n : Nat}
theorem wide0 {o : Oper} {a : Act} {w : World} {K : Act → World → Prop} {Q : Exit → Act → World → Prop} (h : o.wp P a w K Q) : o.wpIn Fence.wide n P a w K Q := by
  refine ⟨fun f _ => trivial, ?_⟩
  rw [show o.semAt Fence.wide.round a.eval = execOp a.eval o from rfl]
  unfold Oper.wp at h
  cases hr : (execOp a.eval o).run P w with
  | ok x w' =>
    rw [hr] at h
    cases x with
    | enter f args => exact ⟨(fun hd => by cases hd), (callsIn_wide (n := n - 1)).2 h⟩
    | row row args => exact ⟨(fun hd => by cases hd), fun c cs _ => let ⟨v, w1, r, s⟩ := h c cs; ⟨v, w1, r, (stepsIn_wide (P := P)).2 s⟩⟩
    | round => exact h.elim
    | _ => exact h
  | halt x w' =>
    rw [hr] at h
    cases x <;> exact h
/-- the same way on, with other normal ways out -/
theorem onlyK {o : Oper} {a : Act} {w : World} {J K' : Act → World → Prop} {Q Q2 : Act → World → Prop} (hk : ∀ a w, J a w → K' a w) (h : o.wpIn Fence.wide n P a w J (only Q)) : o.wpIn Fence.wide n P a w K' (only Q2) := by
  refine ⟨h.1, ?_⟩
  have h := h.2
  generalize (o.semAt Fence.wide.round a.eval).run P w = r at *
  cases r with
  | ok x w' =>
    cases x <;> simp only [Oper.uponIn] at h ⊢
    case value u => exact hk _ _ h
    case skip => exact hk _ _ h
    case defer d => exact hk _ _ h
    case enter f args =>
      refine ⟨h.1, CallsIn.mono h.2 fun e w'' he => ?_⟩
      cases e with
      | returned u => exact hk _ _ he
      | panicked c => cases he.1
      | outgrown => exact (only_lets Q he).elim
    case row row args => exact ⟨h.1, fun c cs hr => let ⟨u, w1, r, s⟩ := h.2 c cs hr; ⟨u, w1, hk _ _ r, s⟩⟩
    case round l f tmps assign body =>
      refine ⟨h.1, RoundIn.mono h.2 fun e w'' he => ?_⟩
      cases e with
      | returned u => exact hk _ _ he
      | panicked c => cases he.1
      | outgrown => exact (only_lets Q he).elim
  | halt x w' =>
    cases x <;> simp only [Oper.uponIn] at h ⊢
    case panic u => cases h.1
theorem lawsI (hs : Stat ops ks A) (Q : Act → World → Prop) : Laws ops (wpOpIn Fence.wide n P ops (only Q)) (yieldsP P ops) where
  mono h hh := wpOpIn_mono h hh
  out := by
    rintro i o v a w K ho ⟨o', ho', hy⟩ h
    rw [ho] at ho'; cases ho'
    unfold wpOpIn
    simp only [ho]
    rcases hy with ⟨hw, hv⟩ | ⟨hw, rfl⟩
    · rw [if_pos hw]; exact wide0 (hv.wp h)
    · rw [if_neg (by simp [hw])]; exact ⟨fun _ _ => trivial, h⟩
  comm := by
    intro i j oi oj v a w K hi hj hap h
    obtain ⟨h1, h2, h3⟩ := Oper.apart_spec hap
    have hsi := fun cs b => hs.sel i oi cs b hi
    have hsj := fun cs b => hs.sel j oj cs b hj
    have keep : ∀ (a' : Act) (u : Value), execOp a'.eval oi = execOp a.eval oi → Region.wanted oi (yielded ops a'.tmps) = Region.wanted oi (yielded ops a.tmps) →
        ∀ x w0, yieldsP P ops i x a w0 → yieldsP P ops i x (a'.put oj.dst u) w0 := by
      rintro a' u e1 e2 x w0 ⟨o, ho, hy⟩
      rw [hi] at ho; cases ho
      refine ⟨oi, hi, ?_⟩
      rw [wanted_put oi a' oj.dst u h3, e2]
      unfold RunsTo at *
      rw [execOp_put oi hsi a' oj.dst u h3, e1]
      exact hy
    unfold wpOpIn at *
    simp only [hj] at *
    rw [wanted_put oj a oi.dst v h1] at h
    split
    · rename_i hw
      rw [if_pos hw] at h
      obtain ⟨_, h⟩ := h
      refine ⟨fun f _ => trivial, ?_⟩
      rw [show ∀ ρ, oj.semAt Fence.wide.round ρ = execOp ρ oj from fun _ => rfl] at h ⊢
      rw [execOp_put oj hsj a oi.dst v h1] at h
      generalize (execOp a.eval oj).run P w = r at *
      cases r with
      | ok x w' =>
        cases x <;> simp only [Oper.uponIn] at h ⊢
        case value u => exact ⟨keep a u rfl rfl, by rw [← Act.put_comm a v u h2]; exact h⟩
        case skip => exact ⟨keep a _ rfl rfl, by rw [← Act.put_comm a v undef h2]; exact h⟩
        case defer d =>
          refine ⟨keep { a with defers := d :: a.defers } _ rfl rfl, ?_⟩
          rw [← Act.put_comm _ v undef h2, ← Act.put_defers]
          exact h
        case enter f args =>
          refine ⟨h.1, CallsIn.mono h.2 fun e w'' he => ?_⟩
          cases e with
          | returned u => exact ⟨keep a u rfl rfl, by rw [← Act.put_comm a v u h2]; exact he⟩
          | panicked c => cases he.1
          | outgrown => exact (only_lets Q he).elim
        case row row args => exact ⟨h.1, fun c cs hr => let ⟨u, w1, r, s⟩ := h.2 c cs hr; ⟨u, w1, ⟨keep a u rfl rfl, by rw [← Act.put_comm a v u h2]; exact r⟩, s⟩⟩
        case round l f tmps assign body =>
          refine ⟨h.1, RoundIn.mono h.2 fun e w'' he => ?_⟩
          cases e with
          | returned u => exact ⟨keep a u rfl rfl, by rw [← Act.put_comm a v u h2]; exact he⟩
          | panicked c => cases he.1
          | outgrown => exact (only_lets Q he).elim
      | halt x w' =>
        cases x <;> simp only [Oper.uponIn] at h ⊢
        case panic u => cases h.1
    · rename_i hw
      rw [if_neg hw] at h
      exact ⟨fun _ _ => trivial, keep a _ rfl rfl, by rw [← Act.put_comm a v undef h2]; exact h.2⟩
theorem wpAnyIn_of_all (hs : Stat ops ks A) (Q : Act → World → Prop) : ∀ (m : Nat) (R : List Nat) (listed : Array Bool) (a : Act) (w : World), R.Nodup → (∀ k ∈ R, k < ops.size) → R.length = m → listed.size = ops.size → Fits ops listed R →
    allOrd ops (wpOpIn Fence.wide n P ops (only Q)) ks A C Q m R a w → wpAnyIn Fence.wide n P .any ops (only Q) m listed a w := by
  intro m
  induction m with
  | zero =>
    intro R listed a w hn hlt hlen hsz hf h
    have hR : R = [] := List.eq_nil_of_length_eq_zero hlen
    refine ⟨?_, rfl, h⟩
    cases hr : Region.ready .any ops listed with
    | nil => rfl
    | cons x xs =>
      have := (hf.mem hs (i := x) (by rw [hr]; simp)).1
      rw [hR] at this; cases this
  | succ m ih =>
    intro R listed a w hn hlt hlen hsz hf h
    refine ⟨fun h0 => (hf.nonempty hs hlt (by intro e; rw [e] at hlen; cases hlen) h0).elim, fun i hi => ?_⟩
    obtain ⟨hiR, hri⟩ := hf.mem hs hi
    refine wpOpIn_mono (fun a' w' h3 => ?_) (h i hiR hri)
    exact ih (R.erase i) _ a' w' (hn.erase _) (fun k hk => hlt k (List.mem_of_mem_erase hk)) (by rw [List.length_erase_of_mem hiR]; omega) (by simpa using hsz) (hf.set hn hsz) h3.2

/-- **The door, behind the widest fence.** -/
theorem regionI {id : Nat} {a : Act} {w : World} {l : List Oper} (C : World → Prop) (ks : List Kd) (A : List Nat) (hm : P.follows .mixedOrders = true) (hs : stat l.toArray ks A = true)
    (h : allOrd l.toArray (wpOpIn Fence.wide n P l.toArray (only (Q' .normal))) ks A C (Q' .normal) l.length (List.range l.length) a w.drew) : (Code.region id l.toArray true).wpIn Fence.wide n P Q' a w := by
  refine wpIn_mono (Q := only (Q' .normal)) ?_ (fun e a w ⟨he, hq⟩ => he ▸ hq)
  refine wpIn_region_any hm ?_
  have := wpAnyIn_of_all (P := P) (C := C) (stat_spec hs) (Q' .normal) l.length (List.range l.length) (Array.replicate l.length false) a w.drew List.nodup_range (by simp) (by simp) (by simp)
    (fun k hk => by simp at hk; simp [hk]) h
  simpa using this

/-! ### The steps -/
section steps
variable {l : List Oper}
/-- what is left, with all that the walk never asks of it again -/
def StI (n : Nat) (P : Program) (l : List Oper) (ks : List Kd) (A : List Nat) (C : World → Prop) (Q : Act → World → Prop) (R : List Nat) (a : Act) (w : World) : Prop :=
  R.Nodup → Up l.toArray R → (∀ k ∈ R, k < l.toArray.size) → Stat l.toArray ks A → allOrd l.toArray (wpOpIn Fence.wide n P l.toArray (only Q)) ks A C Q R.length R a w

theorem StI.door {id : Nat} {a : Act} {w : World} (C : World → Prop) (ks : List Kd) (A : List Nat) (R : List Nat) (hm : P.follows .mixedOrders = true) (hs : stat l.toArray ks A = true) (hR : List.range l.length = R)
    (h : StI n P l ks A C (Q' .normal) R a w.drew) : (Code.region id l.toArray true).wpIn Fence.wide n P Q' a w := by
  refine regionI C ks A hm hs ?_
  subst hR
  have := h List.nodup_range (fun k o e hk _ _ _ => List.mem_range.2 (by have := lt_size hk; simpa using this)) (by simp) (stat_spec hs)
  simpa using this

theorem StI.nil {a : Act} {w : World} (h : Q a w) : StI n P l ks A C Q [] a w := fun _ _ _ _ => h

theorem StI.take {R R' : List Nat} {a : Act} {w : World} {v : Value} (i : Nat) (o : Oper) (hi : l.toArray[i]? = some o) (hiR : R.contains i = true) (hr : readyIn l.toArray R i = true) (hR : R.erase i = R')
    (ht : Takes (yieldsP P l.toArray) C (kd ks i) i v a w) (h : StI n P l ks A C Q R' (a.put o.dst v) w) : StI n P l ks A C Q R a w := by
  intro hn hu hlt hs
  have hm : i ∈ R := by simpa using hiR
  have hlen : R.length = R.length - 1 + 1 := by have := List.length_pos_of_mem hm; omega
  rw [hlen]
  refine Go.Ord.take (lawsI hs Q) hs hi (R.length - 1) R a w hn hu hlt hlen hm hr ht ?_
  subst hR
  have := h (hn.erase _) (hu.erase hn hr) (fun k hk => hlt k (List.mem_of_mem_erase hk)) hs
  rwa [List.length_erase_of_mem hm] at this

/-- passed over: the guard says no -/
theorem StI.skip {R : List Nat} {a : Act} {w : World} (i : Nat) (R' : List Nat) (o : Oper) (hil : l[i]? = some o) (hchk : chk l.toArray ks R R' i .fl = true)
    (hg : Region.wanted o (yielded l.toArray a.tmps) = false) (h : ∀ K : Act → Prop, (∀ a, StI n P l ks A C Q R' a w → K a) → K (a.put o.dst undef)) : StI n P l ks A C Q R a w :=
  have hi : l.toArray[i]? = some o := by simpa using hil
  have ⟨hiR, hr, hR, hk⟩ := chk_spec hchk
  .take i o hi hiR hr hR (by rw [hk]; exact fun _ => ⟨o, hi, .inr ⟨hg, rfl⟩⟩) (h _ fun _ h => h)

theorem StI.fl {R : List Nat} {a : Act} {w : World} {v : Value} (i : Nat) (R' : List Nat) (o : Oper) (hil : l[i]? = some o) (hchk : chk l.toArray ks R R' i .fl = true)
    (hg : Region.wanted o (yielded l.toArray a.tmps) = true) (hv : ∀ w', (execOp a.eval o).run P w' = .ok (.value v) w') (h : ∀ K : Act → Prop, (∀ a, StI n P l ks A C Q R' a w → K a) → K (a.put o.dst v)) : StI n P l ks A C Q R a w :=
  have hi : l.toArray[i]? = some o := by simpa using hil
  have ⟨hiR, hr, hR, hk⟩ := chk_spec hchk
  .take i o hi hiR hr hR (by rw [hk]; exact fun w' => ⟨o, hi, .inl ⟨hg, by unfold RunsTo; rw [hv w']; exact ⟨rfl, rfl⟩⟩⟩) (h _ fun _ h => h)

theorem StI.ho {R : List Nat} {a : Act} {w : World} {v : Value} (i : Nat) (R' : List Nat) (o : Oper) (hil : l[i]? = some o) (hchk : chk l.toArray ks R R' i .ho = true)
    (hg : Region.wanted o (yielded l.toArray a.tmps) = true) (hC : C w) (hv : ∀ w', C w' → (execOp a.eval o).run P w' = .ok (.value v) w') (h : ∀ K : Act → Prop, (∀ a, StI n P l ks A C Q R' a w → K a) → K (a.put o.dst v)) : StI n P l ks A C Q R a w :=
  have hi : l.toArray[i]? = some o := by simpa using hil
  have ⟨hiR, hr, hR, hk⟩ := chk_spec hchk
  .take i o hi hiR hr hR (by rw [hk]; exact ⟨hC, fun w' hw' => ⟨o, hi, .inl ⟨hg, by unfold RunsTo; rw [hv w' hw']; exact ⟨rfl, rfl⟩⟩⟩⟩) (h _ fun _ h => h)

theorem StI.rd {R : List Nat} {a : Act} {w : World} (i : Nat) (R' : List Nat) (o : Oper) (hil : l[i]? = some o) (hchk : chk l.toArray ks R R' i .rd = true)
    (hg : Region.wanted o (yielded l.toArray a.tmps) = true) (h : ∀ K : Act → Prop, (∀ a, StI n P l ks A C Q R' a w → K a) → o.still P a w K) : StI n P l ks A C Q R a w := by
  have hi : l.toArray[i]? = some o := by simpa using hil
  have ⟨hiR, hr, hR, hk⟩ := chk_spec hchk
  have h1 := h _ (fun _ hh => hh)
  have key : ∃ v, RunsTo P o a w v ∧ StI n P l ks A C Q R' (a.put o.dst v) w := by
    unfold Oper.still at h1
    unfold RunsTo
    generalize (execOp a.eval o).run P w = r at *
    cases r with
    | ok n w' =>
      cases n <;> simp only [Oper.stillUpon] at h1
      case value u => exact ⟨u, ⟨h1.1, rfl⟩, h1.2⟩
      case skip => exact ⟨undef, ⟨h1.1, rfl⟩, h1.2⟩
      case enter f args => obtain ⟨e, v, hc, h2⟩ := h1; exact ⟨v, by rw [e]; exact hc, h2⟩
    | halt x w' => simp only [Oper.stillUpon] at h1
  obtain ⟨v, hy, hK⟩ := key
  exact .take i o hi hiR hr hR (v := v) (by rw [hk]; exact ⟨o, hi, .inl ⟨hg, hy⟩⟩) hK

/-- the effect that alone may come up: its own walk, as a list of one operation -/
theorem StI.ef {R : List Nat} {a : Act} {w : World} (i : Nat) (R' : List Nat) (o : Oper) (hil : l[i]? = some o) (hchk : chkE l.toArray ks A R R' i = true)
    (h : ∀ K : Act → World → Prop, (∀ a w, StI n P l ks A C Q R' a w → K a w) → wpList P l.toArray (only K) [o] a w) : StI n P l ks A C Q R a w := by
  have hi : l.toArray[i]? = some o := by simpa using hil
  have ⟨hr, hR, hk, hc⟩ := chkE_spec hchk
  intro hn hu hlt hs
  have hm : i ∈ R := (List.mem_filter.1 (hr ▸ List.mem_singleton.2 rfl : i ∈ R.filter (readyIn l.toArray R))).1
  have hri : readyIn l.toArray R i = true := (List.mem_filter.1 (hr ▸ List.mem_singleton.2 rfl : i ∈ R.filter (readyIn l.toArray R))).2
  have hlen : R.length = R.length - 1 + 1 := by have := List.length_pos_of_mem hm; omega
  rw [hlen]
  refine branch hr fun j hj => ?_
  have hji : j = i := List.mem_singleton.1 hj
  subst hji
  have h1 := h (fun a w => StI n P l ks A C Q R' a w) (fun _ _ hh => hh)
  have key : ∀ a' w', (StI n P l ks A C Q R' a' w') → post ks A l.toArray.size C j w w' ∧ allOrd l.toArray (wpOpIn Fence.wide n P l.toArray (only Q)) ks A C Q (R.length - 1) (R.erase j) a' w' := by
    intro a' w' hh
    refine ⟨?_, ?_⟩
    · unfold post; rw [if_pos hk]; intro hh2; rw [hc] at hh2; exact absurd hh2 (by simp)
    subst hR
    have := hh (hn.erase _) (hu.erase hn hri) (fun k hk => hlt k (List.mem_of_mem_erase hk)) hs
    rwa [List.length_erase_of_mem hm] at this
  unfold wpOpIn
  simp only [hi]
  unfold wpList at h1
  split
  · rename_i hw
    rw [if_pos hw] at h1
    have h1 := h1.resolve_right fun hh => only_lets _ hh.2
    exact onlyK (fun a' w' hh => key a' w' hh.2) (wide0 h1)
  · rename_i hw
    rw [if_neg hw] at h1
    exact ⟨fun _ _ => trivial, key _ _ h1.2⟩
theorem StI.efC {R : List Nat} {a : Act} {w : World} (i : Nat) (R' : List Nat) (o : Oper) (hil : l[i]? = some o) (hchk : chkEC l.toArray ks R R' i = true)
    (h : ∀ K : Act → World → Prop, (∀ a w, C w → StI n P l ks A C Q R' a w → K a w) → wpList P l.toArray (only K) [o] a w) : StI n P l ks A C Q R a w := by
  have hi : l.toArray[i]? = some o := by simpa using hil
  have ⟨hr, hR, hk⟩ := chkEC_spec hchk
  intro hn hu hlt hs
  have hm : i ∈ R := (List.mem_filter.1 (hr ▸ List.mem_singleton.2 rfl : i ∈ R.filter (readyIn l.toArray R))).1
  have hri : readyIn l.toArray R i = true := (List.mem_filter.1 (hr ▸ List.mem_singleton.2 rfl : i ∈ R.filter (readyIn l.toArray R))).2
  have hlen : R.length = R.length - 1 + 1 := by have := List.length_pos_of_mem hm; omega
  rw [hlen]
  refine branch hr fun j hj => ?_
  have hji : j = i := List.mem_singleton.1 hj
  subst hji
  have h1 := h (fun a w => C w ∧ StI n P l ks A C Q R' a w) (fun _ _ hc hh => ⟨hc, hh⟩)
  have key : ∀ a' w', (C w' ∧ StI n P l ks A C Q R' a' w') → post ks A l.toArray.size C j w w' ∧ allOrd l.toArray (wpOpIn Fence.wide n P l.toArray (only Q)) ks A C Q (R.length - 1) (R.erase j) a' w' := by
    intro a' w' hh
    refine ⟨?_, ?_⟩
    · unfold post; rw [if_pos hk]; intro _; exact hh.1
    subst hR
    have := hh.2 (hn.erase _) (hu.erase hn hri) (fun k hk => hlt k (List.mem_of_mem_erase hk)) hs
    rwa [List.length_erase_of_mem hm] at this
  unfold wpOpIn
  simp only [hi]
  unfold wpList at h1
  split
  · rename_i hw
    rw [if_pos hw] at h1
    have h1 := h1.resolve_right fun hh => only_lets _ hh.2
    exact onlyK (fun a' w' hh => key a' w' hh.2) (wide0 h1)
  · rename_i hw
    rw [if_neg hw] at h1
    exact ⟨fun _ _ => trivial, key _ _ h1.2⟩
theorem StI.efY {R : List Nat} {a : Act} {w : World} (i : Nat) (R' : List Nat) (o : Oper) (hil : l[i]? = some o) (hchk : chkE l.toArray ks A R R' i = true)
    (h : ∀ K : Act → World → Prop, (∀ a w, StI n P l ks A C Q R' a w → K a w) → wpListIn Fence.wide n P l.toArray (only K) [o] a w) : StI n P l ks A C Q R a w := by
  have hi : l.toArray[i]? = some o := by simpa using hil
  have ⟨hr, hR, hk, hc⟩ := chkE_spec hchk
  intro hn hu hlt hs
  have hm : i ∈ R := (List.mem_filter.1 (hr ▸ List.mem_singleton.2 rfl : i ∈ R.filter (readyIn l.toArray R))).1
  have hri : readyIn l.toArray R i = true := (List.mem_filter.1 (hr ▸ List.mem_singleton.2 rfl : i ∈ R.filter (readyIn l.toArray R))).2
  have hlen : R.length = R.length - 1 + 1 := by have := List.length_pos_of_mem hm; omega
  rw [hlen]
  refine branch hr fun j hj => ?_
  have hji : j = i := List.mem_singleton.1 hj
  subst hji
  have h1 := h (fun a w => StI n P l ks A C Q R' a w) (fun _ _ hh => hh)
  have key : ∀ a' w', (StI n P l ks A C Q R' a' w') → post ks A l.toArray.size C j w w' ∧ allOrd l.toArray (wpOpIn Fence.wide n P l.toArray (only Q)) ks A C Q (R.length - 1) (R.erase j) a' w' := by
    intro a' w' hh
    refine ⟨?_, ?_⟩
    · unfold post; rw [if_pos hk]; intro hh2; rw [hc] at hh2; exact absurd hh2 (by simp)
    subst hR
    have := hh (hn.erase _) (hu.erase hn hri) (fun k hk => hlt k (List.mem_of_mem_erase hk)) hs
    rwa [List.length_erase_of_mem hm] at this
  unfold wpOpIn
  simp only [hi]
  unfold wpListIn at h1
  split
  · rename_i hw
    rw [if_pos hw] at h1
    exact onlyK (fun a' w' hh => key a' w' hh.2) h1
  · rename_i hw
    rw [if_neg hw] at h1
    exact ⟨h1.1, key _ _ h1.2.2⟩
theorem StI.efYC {R : List Nat} {a : Act} {w : World} (i : Nat) (R' : List Nat) (o : Oper) (hil : l[i]? = some o) (hchk : chkEC l.toArray ks R R' i = true)
    (h : ∀ K : Act → World → Prop, (∀ a w, C w → StI n P l ks A C Q R' a w → K a w) → wpListIn Fence.wide n P l.toArray (only K) [o] a w) : StI n P l ks A C Q R a w := by
  have hi : l.toArray[i]? = some o := by simpa using hil
  have ⟨hr, hR, hk⟩ := chkEC_spec hchk
  intro hn hu hlt hs
  have hm : i ∈ R := (List.mem_filter.1 (hr ▸ List.mem_singleton.2 rfl : i ∈ R.filter (readyIn l.toArray R))).1
  have hri : readyIn l.toArray R i = true := (List.mem_filter.1 (hr ▸ List.mem_singleton.2 rfl : i ∈ R.filter (readyIn l.toArray R))).2
  have hlen : R.length = R.length - 1 + 1 := by have := List.length_pos_of_mem hm; omega
  rw [hlen]
  refine branch hr fun j hj => ?_
  have hji : j = i := List.mem_singleton.1 hj
  subst hji
  have h1 := h (fun a w => C w ∧ StI n P l ks A C Q R' a w) (fun _ _ hc hh => ⟨hc, hh⟩)
  have key : ∀ a' w', (C w' ∧ StI n P l ks A C Q R' a' w') → post ks A l.toArray.size C j w w' ∧ allOrd l.toArray (wpOpIn Fence.wide n P l.toArray (only Q)) ks A C Q (R.length - 1) (R.erase j) a' w' := by
    intro a' w' hh
    refine ⟨?_, ?_⟩
    · unfold post; rw [if_pos hk]; intro _; exact hh.1
    subst hR
    have := hh.2 (hn.erase _) (hu.erase hn hri) (fun k hk => hlt k (List.mem_of_mem_erase hk)) hs
    rwa [List.length_erase_of_mem hm] at this
  unfold wpOpIn
  simp only [hi]
  unfold wpListIn at h1
  split
  · rename_i hw
    rw [if_pos hw] at h1
    exact onlyK (fun a' w' hh => key a' w' hh.2) h1
  · rename_i hw
    rw [if_neg hw] at h1
    exact ⟨h1.1, key _ _ h1.2.2⟩
/-- all that the kernel looks at, with the slot that is written -/
theorem StI.fl2 {R : List Nat} {a : Act} {T' : Array Value} {w : World} (i : Nat) (R' : List Nat) (o : Oper) (d : Nat) (hil : l[i]? = some o) (hchk : chk l.toArray ks R R' i .fl = true) (hg : Region.wanted o (yielded l.toArray a.tmps) = true)
    (hd : o.dst = some d) (hlt : Nat.blt d a.tmps.size = true) (hl : a.defers.length = a.defers.length) (hv : ∀ (K : Act → World → Prop) (w' : World), K ⟨T', a.defers⟩ w' → o.wp P a w' K noExit) (h : StI n P l ks A C Q R' ⟨T', a.defers⟩ w) : StI n P l ks A C Q R a w := by
  have hi : l.toArray[i]? = some o := by simpa using hil
  have ⟨hiR, hr, hR, hk⟩ := chk_spec hchk
  have hput := (runsTo_of_wp (a' := ⟨T', a.defers⟩) hd hlt rfl hl (fun K hK => hv K w hK)).2
  exact .take i o hi hiR hr hR (v := T'.getD d undef) (by rw [hk]; exact fun w' => ⟨o, hi, .inl ⟨hg, (runsTo_of_wp (a' := ⟨T', a.defers⟩) hd hlt rfl hl (fun K hK => hv K w' hK)).1⟩⟩) (by rw [← hput]; exact h)

theorem StI.ho2 {R : List Nat} {a : Act} {T' : Array Value} {w : World} (i : Nat) (R' : List Nat) (o : Oper) (d : Nat) (hil : l[i]? = some o) (hchk : chk l.toArray ks R R' i .ho = true) (hg : Region.wanted o (yielded l.toArray a.tmps) = true)
    (hd : o.dst = some d) (hlt : Nat.blt d a.tmps.size = true) (hl : a.defers.length = a.defers.length) (hC : C w) (hv : ∀ (K : Act → World → Prop) (w' : World), C w' → K ⟨T', a.defers⟩ w' → o.wp P a w' K noExit) (h : StI n P l ks A C Q R' ⟨T', a.defers⟩ w) : StI n P l ks A C Q R a w := by
  have hi : l.toArray[i]? = some o := by simpa using hil
  have ⟨hiR, hr, hR, hk⟩ := chk_spec hchk
  have hput := (runsTo_of_wp (a' := ⟨T', a.defers⟩) hd hlt rfl hl (fun K hK => hv K w hC hK)).2
  exact .take i o hi hiR hr hR (v := T'.getD d undef) (by rw [hk]; exact ⟨hC, fun w' hw' => ⟨o, hi, .inl ⟨hg, (runsTo_of_wp (a' := ⟨T', a.defers⟩) hd hlt rfl hl (fun K hK => hv K w' hw' hK)).1⟩⟩⟩) (by rw [← hput]; exact h)

theorem StI.rd2 {R : List Nat} {a : Act} {T' : Array Value} {w : World} (i : Nat) (R' : List Nat) (o : Oper) (d : Nat) (hil : l[i]? = some o) (hchk : chk l.toArray ks R R' i .rd = true) (hg : Region.wanted o (yielded l.toArray a.tmps) = true)
    (hd : o.dst = some d) (hlt : Nat.blt d a.tmps.size = true) (hl : a.defers.length = a.defers.length) (hv : ∀ K : Act → World → Prop, K ⟨T', a.defers⟩ w → o.wp P a w K noExit) (h : StI n P l ks A C Q R' ⟨T', a.defers⟩ w) : StI n P l ks A C Q R a w := by
  have hi : l.toArray[i]? = some o := by simpa using hil
  have ⟨hiR, hr, hR, hk⟩ := chk_spec hchk
  have ⟨hrun, hput⟩ := runsTo_of_wp (a' := ⟨T', a.defers⟩) hd hlt rfl hl hv
  exact .take i o hi hiR hr hR (v := T'.getD d undef) (by rw [hk]; exact ⟨o, hi, .inl ⟨hg, hrun⟩⟩) (by rw [← hput]; exact h)

/-- 'move' and 'assign' hand a slot's value on -/
theorem StI.mv {R : List Nat} {a a' : Act} {w : World} (i : Nat) (R' : List Nat) (o : Oper) (x : Operand) (hil : l[i]? = some o) (hchk : chk l.toArray ks R R' i .fl = true) (hg : Region.wanted o (yielded l.toArray a.tmps) = true)
    (hop : o.op = .move x ∨ o.op = .assign x) (hp : a.put o.dst (a.eval x) = a') (h : StI n P l ks A C Q R' a' w) : StI n P l ks A C Q R a w := by
  have hi : l.toArray[i]? = some o := by simpa using hil
  have ⟨hiR, hr, hR, hk⟩ := chk_spec hchk
  have hrun : ∀ w', RunsTo P o a w' (a.eval x) := by
    intro w'
    unfold RunsTo execOp
    rcases hop with e | e <;> rw [e] <;> exact ⟨rfl, rfl⟩
  exact .take i o hi hiR hr hR (v := a.eval x) (by rw [hk]; exact fun w' => ⟨o, hi, .inl ⟨hg, hrun w'⟩⟩) (by rw [hp]; exact h)

/-- passed over: the guard of a reading operation says no -/
theorem StI.skipr {R : List Nat} {a : Act} {w : World} (i : Nat) (R' : List Nat) (o : Oper) (hil : l[i]? = some o) (hchk : chk l.toArray ks R R' i .rd = true)
    (hg : Region.wanted o (yielded l.toArray a.tmps) = false) (h : ∀ K : Act → Prop, (∀ a, StI n P l ks A C Q R' a w → K a) → K (a.put o.dst undef)) : StI n P l ks A C Q R a w := by
  have hi : l.toArray[i]? = some o := by simpa using hil
  have ⟨hiR, hr, hR, hk⟩ := chk_spec hchk
  exact .take i o hi hiR hr hR (by rw [hk]; exact ⟨o, hi, .inr ⟨hg, rfl⟩⟩) (h _ fun _ h => h)
end steps
end
end Go.Ord
namespace Go.Proofs.Ytkedpifopclipaa
open Go.RowKit Go.Mem Go.Aig
theorem row.capLe' {w : World} {e : TypeId} {size : Nat} {a : Option Addr} {n c m : Nat} {xs : List Value} (h : row w e size (.slice a n c) m xs) : m ≤ c ∧ c ≤ 9223372036854775807 := by
  rcases h.2 with ⟨e1, h0⟩ | ⟨g', cap', cur, e1, _, _, h1, h2, _⟩
  · cases e1; omega
  · cases e1; exact ⟨h1, by unfold maxLen at h2; exact h2⟩
/-- what Bits returns -/
def bitsR (G : Gra) (ins : List Bool) (l : List Int) : List Bool × Nat := if badIn G l then ([], 200) else if ins.length ≠ (inputs G.nodes).length then ([], 210) else (bsOf ins G.nodes (nats l), 0)
theorem wOf_len (l : List Bool) : (wOf l).length = l.length := by simp [wOf]
theorem bitsR_words (G : Gra) (ins : List Bool) (l : List Int) : bitsR G ins l = ((wordsR G (wOf ins) l).1.map (fun v => v.testBit 0), (wordsR G (wOf ins) l).2) := by
  unfold bitsR wordsR
  rw [wOf_len]
  split
  · rfl
  · split
    · rfl
    · rw [wsOf_bits]
/-- a new slice of truths -/
def BNew (w : World) (v : Value) (l : List Bool) (w' : World) : Prop := row w' 4 1 v l.length (bools l) ∧ (∀ q ∈ v.ownBlock.toList, w.heap.size ≤ q) ∧ Ch [] w w'
section
variable {w : World} {g : Nat} {G : Gra} {F : List Nat}
set_option maxRecDepth 100000 in
set_option maxHeartbeats 8000000 in
theorem simBits_is (h : GIn w g G F) {xa : Option Addr} {ins : List Bool} (n xc : Nat) (hn : ins.length = n) (hS : Sb w xa ins) (hnl : n ≤ 100000) {a : Option Addr} {l : List Int} (m c : Nat) (hm : l.length = m) (hL : Sl w a l) (hbd : ∀ r ∈ l, -9223372036854775808 ≤ r ∧ r ≤ 9223372036854775807) (hll : m ≤ 100000) :
    Calls Try.prog 43 #[.pointer (some ⟨g, 0, none⟩), .slice xa n xc, .slice a m c] w fun e w' => ∃ v, e = .returned (.tuple #[v, .int .i64 (bitsR G ins l).2]) ∧ BNew w v (bitsR G ins l).1 w' := by
  subst hn hm
  have hW := fun (W : World) (hW : Ch [] w W) (wa : Option Addr) (wc : Nat) (hwa : row W 183 1 (.slice wa ins.length wc) ins.length (u64s (wOf ins))) => simWords_is (h.same hW (by simp)) (ins := wOf ins) (xa := wa) wc (row.sv hwa rfl (by omega)) (wOf_lt ins) (by rw [wOf_len]; exact (row.capLe' hwa).1) (row.capLe' hwa).2 c (hL.ch hW (by simp)) hbd hll
  simp only [wOf_len] at hW
  rw [bitsR_words]
  have hwl : (wordsR G (wOf ins) l).1.length ≤ l.length := by
    unfold wordsR
    split
    · simp
    · split
      · simp
      · simp [wsOf]
  have hwb : ∀ v ∈ (wordsR G (wOf ins) l).1, v < 2 ^ 64 := by
    unfold wordsR
    split
    · simp
    · split
      · simp
      · exact wsOf_lt (wOf_lt ins) _ _
  generalize wordsR G (wOf ins) l = R at *
  obtain ⟨ws, e0⟩ := R
  simp only at hwl hwb hW ⊢
  have HW := Lib.hid hW; clear hW
  have HS := Lib.hid hS; clear hS h hL hbd
  have HWB := Lib.hid hwb; clear hwb
  go_enter Try.func43, Try.ntmps43
  go_wp2_with fail
  go_loopw [8, 19] (fun o i wr => ∃ k : Nat, k ≤ ins.length ∧ i = .int .i64 k ∧ Ch [] w wr ∧ row wr 183 1 o k (u64s (wOf (ins.take k))) ∧ ∀ q ∈ o.ownBlock.toList, w.heap.size ≤ q) (fun _ i _ => ins.length - (intOf i).toNat)
  case atStart => exact ⟨0, by omega, rfl, Ch.refl _ _, ⟨rfl, .inl ⟨rfl, rfl⟩⟩, by simp⟩
  case round =>
    obtain ⟨k, hk, rfl, hc, hrow, hlo⟩ := hrel
    obtain ⟨oa, oc, rfl⟩ := row.shape hrow
    by_cases hlt : k < ins.length
    · obtain ⟨x, hx⟩ : ∃ x, ins[k]? = some x := ⟨_, List.getElem?_eq_getElem hlt⟩
      obtain ⟨xb, xo, rfl, hcl⟩ := HS.out.cells k (.bool x) (by simp [hx])
      have c0 := (hc.cell (cell_lt hcl) (by simp)).trans hcl
      cases x
      · have hsu : u64s (wOf (ins.take (k + 1))) = u64s (wOf (ins.take k)) ++ [.int .u64 0] := by rw [List.take_add_one, hx]; simp [u64s, wOf]
        have hcA : Ch [] wr (wr.alloc (.cells #[.int .u64 0] 183)) := (Ch.refl _ _).alloc _
        have hrA := hrow.ch hcA (by simp)
        have hbA : blk (wr.alloc (.cells #[.int .u64 0] 183)) wr.heap.size [.int .u64 0] := blk.new' _ _ rfl
        have HSU := Lib.hid hsu; clear hsu
        have HRA := Lib.hid hrA; clear hrA hrow
        have HBA := Lib.hid hbA; clear hbA
        have HCA := Lib.hid hcA; clear hcA
        have HCP := Lib.hid hc; clear hc
        have HLO := Lib.hid hlo; clear hlo hcl hx
        go_wp2_with (at_builtin; go_loud (refine wpList_append_row slU64s rfl _ _ rfl (v := .slice oa k oc) (n := k) (xs := u64s (wOf (ins.take k))) rfl HRA.out (ad := ⟨wr.heap.size, 0, none⟩) (m := 1) (c := 1) (news := [.int .u64 0]) rfl rfl (news_blk HBA.out) (by simp [Value.oneCell']) (by omega) (by omega) ?_; intro v' w5 hown4 hC4 hf4; have HO4 := Lib.hid hown4; clear hown4; have HCC4 := Lib.hid hC4; clear hC4; have HF4 := Lib.hid hf4; clear hf4))
        go_roundw
        case rel =>
          obtain ⟨q1, q2⟩ := app_step HCP.out HCA.out HLO.out HCC4.out HF4.out
          refine ⟨k + 1, by omega, by go_num, q1, ?_, q2⟩
          rw [HSU.out]; exact HO4.out
        case measure => simp [intOf]; omega
      · have hsu : u64s (wOf (ins.take (k + 1))) = u64s (wOf (ins.take k)) ++ [.int .u64 1] := by rw [List.take_add_one, hx]; simp [u64s, wOf]
        have hcA : Ch [] wr (wr.alloc (.cells #[.int .u64 1] 183)) := (Ch.refl _ _).alloc _
        have hrA := hrow.ch hcA (by simp)
        have hbA : blk (wr.alloc (.cells #[.int .u64 1] 183)) wr.heap.size [.int .u64 1] := blk.new' _ _ rfl
        have HSU := Lib.hid hsu; clear hsu
        have HRA := Lib.hid hrA; clear hrA hrow
        have HBA := Lib.hid hbA; clear hbA
        have HCA := Lib.hid hcA; clear hcA
        have HCP := Lib.hid hc; clear hc
        have HLO := Lib.hid hlo; clear hlo hcl hx
        go_wp2_with (at_builtin; go_loud (refine wpList_append_row slU64s rfl _ _ rfl (v := .slice oa k oc) (n := k) (xs := u64s (wOf (ins.take k))) rfl HRA.out (ad := ⟨wr.heap.size, 0, none⟩) (m := 1) (c := 1) (news := [.int .u64 1]) rfl rfl (news_blk HBA.out) (by simp [Value.oneCell']) (by omega) (by omega) ?_; intro v' w5 hown4 hC4 hf4; have HO4 := Lib.hid hown4; clear hown4; have HCC4 := Lib.hid hC4; clear hC4; have HF4 := Lib.hid hf4; clear hf4))
        go_roundw
        case rel =>
          obtain ⟨q1, q2⟩ := app_step HCP.out HCA.out HLO.out HCC4.out HF4.out
          refine ⟨k + 1, by omega, by go_num, q1, ?_, q2⟩
          rw [HSU.out]; exact HO4.out
        case measure => simp [intOf]; omega
    · have hkn : k = ins.length := by omega
      rw [hkn, List.take_of_length_le (Nat.le_refl _)] at hrow
      rw [hkn] at hlo
      rw [hkn]
      have hW1 := HW.out wr hc oa oc hrow
      have HW1 := Lib.hid hW1; clear hW1 HW hrow hlo hkn
      have HC := Lib.hid hc; clear hc
      go_wp2_with fail
      refine HW1.out.mono ?_
      rintro e w3 ⟨v, rfl, hrv, _, hc3⟩
      obtain ⟨va, vc, rfl⟩ := row.shape hrv
      have hsv := row.sv hrv rfl (by omega)
      have HSV := Lib.hid hsv; clear hsv hrv
      have HC3 := Lib.hid (HC.out.trans hc3 (by simp)); clear hc3 HC HW1
      go_wp2_with fail
      go_loopw [14, 38] (fun o i wq => ∃ j : Nat, j ≤ ws.length ∧ i = .int .i64 j ∧ Ch [] w3 wq ∧ row wq 4 1 o j (bools ((ws.take j).map (fun v => v.testBit 0))) ∧ ∀ q ∈ o.ownBlock.toList, w3.heap.size ≤ q) (fun _ i _ => ws.length - (intOf i).toNat)
      case atStart => exact ⟨0, by omega, rfl, Ch.refl _ _, ⟨rfl, .inl ⟨rfl, rfl⟩⟩, by simp⟩
      case round =>
        obtain ⟨j, hj, rfl, hc, hrow, hlo⟩ := hrel
        obtain ⟨oa, oc, rfl⟩ := row.shape hrow
        by_cases hlt : j < ws.length
        · obtain ⟨x, hx⟩ : ∃ x, ws[j]? = some x := ⟨_, List.getElem?_eq_getElem hlt⟩
          have hxb := HWB.out x (List.mem_of_getElem? hx)
          obtain ⟨xb, xo, rfl, hcl⟩ := HSV.out.cells j (.int .u64 x) (u64s_get hx)
          have c0 := (hc.cell (cell_lt hcl) (by simp)).trans hcl
          have hand : bits .and .u64 (x : Int) 1 = ((x &&& 1 : Nat) : Int) := bits_and_u64_nat x 1 (by omega) (by omega)
          have hbe : (((x &&& 1 : Nat) : Int) == 1) = x.testBit 0 := by
            rw [Nat.testBit_zero, show x &&& 1 = x % 2 from Nat.and_one_is_mod x]
            rcases Nat.mod_two_eq_zero_or_one x with h | h <;> simp [h]
          have hsu : bools ((ws.take (j + 1)).map (fun v => v.testBit 0)) = bools ((ws.take j).map (fun v => v.testBit 0)) ++ [.bool (x.testBit 0)] := by rw [List.take_add_one, hx]; simp [bools]
          generalize x.testBit 0 = tb at hbe hsu
          generalize x &&& 1 = x1 at hand hbe
          have hcA : Ch [] wr (wr.alloc (.cells #[.bool tb] 4)) := (Ch.refl _ _).alloc _
          have hrA := hrow.ch hcA (by simp)
          have hbA : blk (wr.alloc (.cells #[.bool tb] 4)) wr.heap.size [.bool tb] := blk.new' _ _ rfl
          have HSU := Lib.hid hsu; clear hsu
          have HRA := Lib.hid hrA; clear hrA hrow
          have HBA := Lib.hid hbA; clear hbA
          have HCA := Lib.hid hcA; clear hcA
          have HCP := Lib.hid hc; clear hc
          have HLO := Lib.hid hlo; clear hlo hcl hx hxb
          go_wp2_with (at_builtin; go_loud (refine wpList_append_row slBools rfl _ _ rfl (v := .slice oa j oc) (n := j) (xs := bools ((ws.take j).map (fun v => v.testBit 0))) rfl HRA.out (ad := ⟨wr.heap.size, 0, none⟩) (m := 1) (c := 1) (news := [.bool tb]) rfl rfl (news_blk HBA.out) (by simp [Value.oneCell']) (by omega) (by omega) ?_; intro v' w5 hown4 hC4 hf4; have HO4 := Lib.hid hown4; clear hown4; have HCC4 := Lib.hid hC4; clear hC4; have HF4 := Lib.hid hf4; clear hf4))
          go_roundw
          case rel =>
            obtain ⟨q1, q2⟩ := app_step HCP.out HCA.out HLO.out HCC4.out HF4.out
            refine ⟨j + 1, by omega, by go_num, q1, ?_, q2⟩
            rw [HSU.out]; exact HO4.out
          case measure => simp [intOf]; omega
        · have hkn : j = ws.length := by omega
          rw [hkn, List.take_of_length_le (Nat.le_refl _)] at hrow
          rw [hkn] at hlo
          rw [hkn]
          have HROW := Lib.hid hrow; clear hrow
          have HLO := Lib.hid hlo; clear hlo
          have HCP := Lib.hid hc; clear hc hkn
          go_wp2_with fail
          go_ret2
          refine ⟨.slice oa ws.length oc, rfl, ?_, fun q hq => Nat.le_trans HC3.out.size (HLO.out q hq), HC3.out.trans HCP.out (by simp)⟩
          have := HROW.out
          simpa using this
end
end Go.Proofs.Ytkedpifopclipaa
namespace Go.Proofs.Ytkedpifopclipaa
open Go.RowKit Go.Mem Go.Aig
theorem infoRefs : (Try.prog.info? 28).map (fun i => (i.zero, i.size, i.bytes)) = some (some (.slice none 0 0), 1, 24) := by kernel_rfl
theorem slRows : SliceTy Try.prog 96 28 1 24 (.slice none 0 0) := ⟨Try.underlying96, infoRefs, rfl, by decide⟩
section
variable {w : World}
end
end Go.Proofs.Ytkedpifopclipaa
namespace Go.Proofs.Ytkedpifopclipaa
open Go.RowKit Go.Mem Go.Aig
section
variable {w0 w1 w : World} {F0 : List Nat} {g : Nat} {G : Gra} {F : List Nat} {L : List (Value × List Int)} {bok bout bfn : Nat} {ok : Bool} {oa : Option Addr} {m oc : Nat} {vs : List Value}
theorem Hold.chX {w' : World} {X : List Nat} (h : Hold w0 w g G F L) (hc : Ch X w w') (hX : ∀ k ∈ X, k ∉ F ∧ w0.heap.size ≤ k) (hL : ∀ p ∈ L, ∀ k, p.1.ownBlock = some k → k ∉ X) : Hold w0 w' g G F L :=
  ⟨⟨h.own.gin.same hc (fun k hk hk2 => (hX k hk2).1 hk), h.own.own, h.own.ch.trans hc (fun k hk => .inr (hX k hk).2)⟩, fun p hp => ⟨(h.held p hp).row.ch hc (hL p hp), (h.held p hp).len, (h.held p hp).bd, (h.held p hp).own⟩, fun p hp => by cases hp⟩
end
end Go.Proofs.Ytkedpifopclipaa
namespace Go.Aig
def bitR (R : Res) : Gra × List Nat × Nat := (R.1, [R.2.1], R.2.2)
/-- what the operations make -/
def mkOp (i : Nat) (G : Gra) (x y : List Int) : Gra × List Nat × Nat := match i with
  | 0 => wordG G [x] ((G, 0), (nats x).map neg)
  | 1 => subG G (List.replicate x.length 0) x
  | 2 => wordG G [x, y] (eachF (rop and) (G, 0) ((nats x).zip (nats y)))
  | 3 => wordG G [x, y] (eachF (rop rOr) (G, 0) ((nats x).zip (nats y)))
  | 4 => wordG G [x, y] (eachF (rop rXor) (G, 0) ((nats x).zip (nats y)))
  | 5 => wordG G [x, y] (sumW x.length (G, 0) ((nats x).zip (nats y)) 0)
  | 6 => subG G x y
  | 7 => bitR (negG (refG G [x, y] (neF (G, 0) ((nats x).zip (nats y)))))
  | 8 => bitR (refG G [x, y] (neF (G, 0) ((nats x).zip (nats y))))
  | 9 => bitR (refG G [x, y] (ltF (G, 0) ((nats x).zip (nats y))))
  | _ => bitR (negG (refG G [y, x] (ltF (G, 0) ((nats y).zip (nats x)))))
theorem mkOp_0 (G : Gra) (x y : List Int) : mkOp 0 G x y = wordG G [x] ((G, 0), (nats x).map neg) := rfl
theorem mkOp_1 (G : Gra) (x y : List Int) : mkOp 1 G x y = subG G (List.replicate x.length 0) x := rfl
theorem mkOp_2 (G : Gra) (x y : List Int) : mkOp 2 G x y = wordG G [x, y] (eachF (rop and) (G, 0) ((nats x).zip (nats y))) := rfl
theorem mkOp_3 (G : Gra) (x y : List Int) : mkOp 3 G x y = wordG G [x, y] (eachF (rop rOr) (G, 0) ((nats x).zip (nats y))) := rfl
theorem mkOp_4 (G : Gra) (x y : List Int) : mkOp 4 G x y = wordG G [x, y] (eachF (rop rXor) (G, 0) ((nats x).zip (nats y))) := rfl
theorem mkOp_5 (G : Gra) (x y : List Int) : mkOp 5 G x y = wordG G [x, y] (sumW x.length (G, 0) ((nats x).zip (nats y)) 0) := rfl
theorem mkOp_6 (G : Gra) (x y : List Int) : mkOp 6 G x y = subG G x y := rfl
theorem mkOp_7 (G : Gra) (x y : List Int) : mkOp 7 G x y = bitR (negG (refG G [x, y] (neF (G, 0) ((nats x).zip (nats y))))) := rfl
theorem mkOp_8 (G : Gra) (x y : List Int) : mkOp 8 G x y = bitR (refG G [x, y] (neF (G, 0) ((nats x).zip (nats y)))) := rfl
theorem mkOp_9 (G : Gra) (x y : List Int) : mkOp 9 G x y = bitR (refG G [x, y] (ltF (G, 0) ((nats x).zip (nats y)))) := rfl
theorem mkOp_10 (G : Gra) (x y : List Int) : mkOp 10 G x y = bitR (negG (refG G [y, x] (ltF (G, 0) ((nats y).zip (nats x))))) := rfl
def madeStep (x y : List Int) (s : Gra × List (List Nat) × Bool) (i : Nat) : Gra × List (List Nat) × Bool := ((mkOp i s.1 x y).1, s.2.1 ++ [(mkOp i s.1 x y).2.1], s.2.2 && ((mkOp i s.1 x y).2.2 == 0))
def madeG (G : Gra) (x y : List Int) (n : Nat) : Gra × List (List Nat) × Bool := (List.range n).foldl (madeStep x y) (G, [], true)
theorem madeG_succ (G : Gra) (x y : List Int) (n : Nat) : madeG G x y (n + 1) = madeStep x y (madeG G x y n) n := by
  unfold madeG
  rw [List.range_succ, List.foldl_append]; rfl
theorem eachF_len (op : Mk → Nat → Nat → Mk × Nat) (s : Mk) (l : List (Nat × Nat)) : (eachF op s l).2.length = l.length := by
  have : ∀ (l : List (Nat × Nat)) (q : Mk × List Nat), (l.foldl (eachS op) q).2.length = q.2.length + l.length := by
    intro l
    induction l with
    | nil => intro q; rfl
    | cons p l ih =>
      intro q
      rw [List.foldl_cons, ih]
      unfold eachS
      simp; omega
  have h := this l (s, [])
  simpa [eachF] using h
theorem wordG_len {G : Gra} {ws : List (List Int)} {R : Mk × List Nat} {n : Nat} (h : R.2.length ≤ n) : (wordG G ws R).2.1.length ≤ n := by
  unfold wordG wres
  split
  · simp
  · split
    · simp
    · exact h
theorem chk1_lt {G : Gra} {x : List Int} (h : chk G [x] = 0) : ∀ r ∈ nats x, r < 2 * G.nodes.length := (chk_ok h x (by simp)).lt
theorem subG_ok {G : Gra} (hG : Ok G) (x y : List Int) : WOk G (subG G x y) := wordG_ok hG fun hc => by
  have hp := hG.wf.pos
  have h1 := (chk_ok hc x (by simp)).lt
  have h2 := (chk_ok hc y (by simp)).lt
  exact sumF_lok hG _ _ (zip_lt h1 (fun r hr => by obtain ⟨q, hq, rfl⟩ := List.mem_map.1 hr; exact neg_lt (h2 q hq))) (by omega)
theorem subG_len {G : Gra} {x y : List Int} {n : Nat} (h : x.length ≤ n) : (subG G x y).2.1.length ≤ n := wordG_len (by
  unfold sumW
  dsimp only
  rw [Go.Proofs.Ytkedpifopclipaa.sumF_len, List.length_zip]
  simp only [nats_len]
  omega)
theorem bitR_ok {G : Gra} {R : Res} (h1 : Ok R.1) (h2 : Ext G R.1) (h3 : R.2.1 < 2 * R.1.nodes.length) : WOk G (bitR R) := ⟨h1, h2, fun r hr => by rw [List.mem_singleton.1 hr]; exact h3⟩
theorem negG_ok {G : Gra} {R : Res} (h : Ok R.1 ∧ Ext G R.1 ∧ R.2.1 < 2 * R.1.nodes.length) : Ok (negG R).1 ∧ Ext G (negG R).1 ∧ (negG R).2.1 < 2 * (negG R).1.nodes.length := by
  have := h.1.wf.pos
  unfold negG
  split
  · exact ⟨h.1, h.2.1, by show 0 < 2 * R.1.nodes.length; omega⟩
  · exact ⟨h.1, h.2.1, neg_lt h.2.2⟩
theorem mkOp_ok {G : Gra} (hG : Ok G) (i : Nat) (hi : i < 11) (x y : List Int) (hx : x.length ≤ 1000000) : WOk G (mkOp i G x y) ∧ (mkOp i G x y).2.1.length ≤ 1000000 := by
  have hp := hG.wf.pos
  rcases i with _ | _ | _ | _ | _ | _ | _ | _ | _ | _ | _ | i
  · exact ⟨wordG_ok hG fun hc => ⟨.start hG, fun r hr => by obtain ⟨q, hq, rfl⟩ := List.mem_map.1 hr; exact neg_lt (chk1_lt hc q hq)⟩, wordG_len (by simpa using hx)⟩
  · exact ⟨subG_ok hG _ _, subG_len (by simpa using hx)⟩
  · exact ⟨wordG_ok hG fun hc => eachF_lok hG full_and _ (chk_zip hc), wordG_len (by rw [eachF_len, List.length_zip]; simp only [nats_len]; omega)⟩
  · exact ⟨wordG_ok hG fun hc => eachF_lok hG full_or _ (chk_zip hc), wordG_len (by rw [eachF_len, List.length_zip]; simp only [nats_len]; omega)⟩
  · exact ⟨wordG_ok hG fun hc => eachF_lok hG full_xor _ (chk_zip hc), wordG_len (by rw [eachF_len, List.length_zip]; simp only [nats_len]; omega)⟩
  · exact ⟨wordG_ok hG fun hc => sumF_lok hG _ _ (chk_zip hc) (by omega), wordG_len (by unfold sumW; dsimp only; rw [Go.Proofs.Ytkedpifopclipaa.sumF_len, List.length_zip]; simp only [nats_len]; omega)⟩
  · exact ⟨subG_ok hG _ _, subG_len hx⟩
  · have h := negG_ok (refG_ok hG (ws := [x, y]) (R := neF (G, 0) ((nats x).zip (nats y))) fun hc => neF_vok hG _ (chk_zip hc))
    exact ⟨bitR_ok h.1 h.2.1 h.2.2, by show (1 : Nat) ≤ 1000000; omega⟩
  · have h := refG_ok hG (ws := [x, y]) (R := neF (G, 0) ((nats x).zip (nats y))) fun hc => neF_vok hG _ (chk_zip hc)
    exact ⟨bitR_ok h.1 h.2.1 h.2.2, by show (1 : Nat) ≤ 1000000; omega⟩
  · have h := refG_ok hG (ws := [x, y]) (R := ltF (G, 0) ((nats x).zip (nats y))) fun hc => ltF_vok hG _ (chk_zip hc)
    exact ⟨bitR_ok h.1 h.2.1 h.2.2, by show (1 : Nat) ≤ 1000000; omega⟩
  · have h := negG_ok (refG_ok hG (ws := [y, x]) (R := ltF (G, 0) ((nats y).zip (nats x))) fun hc => ltF_vok hG _ (chk_zip hc))
    exact ⟨bitR_ok h.1 h.2.1 h.2.2, by show (1 : Nat) ≤ 1000000; omega⟩
  · omega
theorem WOk.small {G : Gra} {R : Gra × List Nat × Nat} (h : WOk G R) : ∀ r ∈ R.2.1, r ≤ 1000000 := fun r hr => by
  have h1 := h.lt r hr
  have h2 := h.ok.small
  omega
end Go.Aig
namespace Go.Proofs.Ytkedpifopclipaa
open Go.RowKit Go.Mem Go.Aig
theorem run_storeFunc {P : Program} {w : World} {a : Addr} {m : Mode} (f : Fn) (b c : Array Value) : (store a (.func f b c) m).run P w = stored P w a (.func f b c) m := run_store P w a _ m rfl
attribute [local go_sem] run_storeFunc
/-- values that are held words, one for each list -/
structure VL (vs : List Value) (ls : List (List Nat)) (L : List (Value × List Int)) : Prop where
  len : vs.length = ls.length
  mem : ∀ (i : Nat) (v : Value) (l : List Nat), vs[i]? = some v → ls[i]? = some l → (v, natInts l) ∈ L
theorem VL.snoc {vs : List Value} {ls : List (List Nat)} {L : List (Value × List Int)} (h : VL vs ls L) (v : Value) (l : List Nat) : VL (vs ++ [v]) (ls ++ [l]) ((v, natInts l) :: L) := by
  refine ⟨by simp [h.len], fun i u q hu hq => ?_⟩
  by_cases hi : i < vs.length
  · rw [List.getElem?_append_left hi] at hu
    rw [List.getElem?_append_left (by rw [← h.len]; exact hi)] at hq
    exact List.mem_cons_of_mem _ (h.mem i u q hu hq)
  · have hlt := (List.getElem?_eq_some_iff.1 hu).1
    rw [List.length_append] at hlt
    simp at hlt
    have he : i = vs.length := by omega
    subst he
    have hl := h.len
    rw [List.getElem?_append_right (by omega)] at hu
    rw [List.getElem?_append_right (by omega)] at hq
    simp at hu
    simp [hl] at hq
    rw [← hu, ← hq]
    exact List.mem_cons_self
section
variable {w0 w1 w : World} {F0 : List Nat} {g : Nat} {G : Gra} {F : List Nat} {L : List (Value × List Int)} {bok bout bfn : Nat} {ok : Bool} {oa : Option Addr} {m oc : Nat} {vs : List Value}
end
end Go.Proofs.Ytkedpifopclipaa
namespace Go.Aig
theorem madeG_len (G : Gra) (x y : List Int) : ∀ n, (madeG G x y n).2.1.length = n
  | 0 => rfl
  | n + 1 => by
    rw [madeG_succ]
    unfold madeStep
    simp [madeG_len G x y n]
def goodL (L A : List (List Nat)) : Prop := ∀ (i : Nat) (l a : List Nat), L[i]? = some l → A[i]? = some a → l = [] ∨ l = a ∨ l = [0]
def goodB (L A : List (List Nat)) : Bool := (L.zip A).all fun p => p.1 == [] || p.1 == p.2 || p.1 == [0]
theorem goodB_L {L A : List (List Nat)} (h : goodB L A = true) : goodL L A := fun i l a hl ha => by
  have hz : (L.zip A)[i]? = some (l, a) := by rw [List.getElem?_zip_eq_some]; exact ⟨hl, ha⟩
  have := List.all_eq_true.1 h (l, a) (List.mem_of_getElem? hz)
  simp at this
  rcases this with (h | h) | h
  · exact .inl h
  · exact .inr (.inl h)
  · exact .inr (.inr h)
def againB (n : Nat) : Bool :=
  let x := natInts (rIn 0 n)
  let y := natInts (rIn n n)
  let A := madeG (gIn 4000 (2 * n)) x y 11
  let N := A.1.nodes.length
  let B := madeG A.1 x y 11
  let C := madeG (gIn N (2 * n)) x y 11
  let D := madeG (gIn (N - 1) (2 * n)) x y 11
  A.2.2 && B.2.2 && B.1.nodes.length == N && A.2.1 == B.2.1 && C.2.2 && !D.2.2 && decide (D.1.nodes.length ≤ N - 1) && decide (2 * n + 1 < N - 1) && decide (N ≤ 4000) && goodB C.2.1 A.2.1 && goodB D.2.1 A.2.1
set_option maxRecDepth 100000 in
theorem again_all : (List.range 5).all (fun i => againB (i + 1)) = true := by decide +kernel
structure AgainF (n N : Nat) (GA GB GC GD : Gra) (lA lC lD : List (List Nat)) : Prop where
  a : madeG (gIn 4000 (2 * n)) (natInts (rIn 0 n)) (natInts (rIn n n)) 11 = (GA, lA, true)
  an : GA.nodes.length = N
  b : madeG GA (natInts (rIn 0 n)) (natInts (rIn n n)) 11 = (GB, lA, true)
  bn : GB.nodes.length = N
  c : madeG (gIn N (2 * n)) (natInts (rIn 0 n)) (natInts (rIn n n)) 11 = (GC, lC, true)
  d : madeG (gIn (N - 1) (2 * n)) (natInts (rIn 0 n)) (natInts (rIn n n)) 11 = (GD, lD, false)
  dn : GD.nodes.length ≤ N - 1
  lo : 2 * n + 1 < N - 1
  hi : N ≤ 4000
  gc : goodL lC lA
  gd : goodL lD lA
  la : lA.length = 11
  lc : lC.length = 11
  ld : lD.length = 11
theorem again_facts {n : Nat} (h1 : 1 ≤ n) (h5 : n ≤ 5) : ∃ N GA GB GC GD lA lC lD, AgainF n N GA GB GC GD lA lC lD := by
  have h := List.all_eq_true.1 again_all (n - 1) (List.mem_range.2 (by omega))
  rw [show n - 1 + 1 = n by omega] at h
  unfold againB at h
  dsimp only at h
  have l1 := madeG_len (gIn 4000 (2 * n)) (natInts (rIn 0 n)) (natInts (rIn n n)) 11
  generalize hA : madeG (gIn 4000 (2 * n)) (natInts (rIn 0 n)) (natInts (rIn n n)) 11 = A at h l1
  have l2 := madeG_len (gIn A.1.nodes.length (2 * n)) (natInts (rIn 0 n)) (natInts (rIn n n)) 11
  have l3 := madeG_len (gIn (A.1.nodes.length - 1) (2 * n)) (natInts (rIn 0 n)) (natInts (rIn n n)) 11
  generalize hB : madeG A.1 (natInts (rIn 0 n)) (natInts (rIn n n)) 11 = B at h
  generalize hC : madeG (gIn A.1.nodes.length (2 * n)) (natInts (rIn 0 n)) (natInts (rIn n n)) 11 = C at h l2
  generalize hD : madeG (gIn (A.1.nodes.length - 1) (2 * n)) (natInts (rIn 0 n)) (natInts (rIn n n)) 11 = D at h l3
  obtain ⟨GA, lA, oA⟩ := A
  obtain ⟨GB, lB, oB⟩ := B
  obtain ⟨GC, lC, oC⟩ := C
  obtain ⟨GD, lD, oD⟩ := D
  simp only [Bool.and_eq_true, Bool.not_eq_true', decide_eq_true_eq, beq_iff_eq] at h
  obtain ⟨⟨⟨⟨⟨⟨⟨⟨⟨⟨a1, a2⟩, a3⟩, a4⟩, a5⟩, a6⟩, a7⟩, a8⟩, a9⟩, a10⟩, a11⟩ := h
  subst a1 a2 a4 a5 a6
  exact ⟨GA.nodes.length, GA, GB, GC, GD, lA, lC, lD, ⟨hA, rfl, hB, a3, hC, hD, a7, a8, a9, goodB_L a10, goodB_L a11, l1, l2, l3⟩⟩
end Go.Aig
namespace Go.Proofs.Ytkedpifopclipaa
open Go.RowKit Go.Mem Go.Aig
theorem VL.at {w0 w : World} {g : Nat} {G : Gra} {F : List Nat} {L : List (Value × List Int)} {vs : List Value} {ls : List (List Nat)} (hv : VL vs ls L) (h : Hold w0 w g G F L) {k : Nat} {l : List Nat} (hl : ls[k]? = some l) : ∃ a c, vs[k]? = some (.slice a l.length c) ∧ (.slice a l.length c, natInts l) ∈ L := by
  have hlt := (List.getElem?_eq_some_iff.1 hl).1
  rw [← hv.len] at hlt
  have hu : vs[k]? = some vs[k] := List.getElem?_eq_getElem hlt
  have hm := hv.mem k _ l hu hl
  have hr := (h.held _ hm).row
  simp only [natInts_len] at hr
  obtain ⟨a, c, e⟩ := row.shape hr
  have e2 : vs[k] = .slice a l.length c := e
  rw [e2] at hu hm
  exact ⟨a, c, hu, hm⟩
theorem row_at {w : World} {e : TypeId} {b n c : Nat} {vs : List Value} (h : row w e 1 (.slice (some ⟨b, 0, none⟩) n c) n vs) {k : Nat} {v : Value} (hk : vs[k]? = some v) : w.cell? ⟨b, k, none⟩ = some v := by
  have := h.cells (g := b) rfl k v hk
  rw [Addr.add_lit] at this
  simpa using this
theorem max_nat (z : Int) (k m : Nat) (h : max z k = m) (ats : Array TypeId) (ty : TypeId) : Builtin.max_ ats ty #[.int .i64 z, .int .i64 (k : Int)] = pure (.int .i64 (m : Int)) := by
  have e : (if z < (k : Int) then (k : Int) else z) = m := by split <;> omega
  rw [← e]
  simp [Builtin.max_, Builtin.max2]
theorem max_one (z : Int) (m : Nat) (h : max z 1 = m) (ats : Array TypeId) (ty : TypeId) : Builtin.max_ ats ty #[.int .i64 z, .int .i64 1] = pure (.int .i64 (m : Int)) := max_nat z 1 m h ats ty
end Go.Proofs.Ytkedpifopclipaa
