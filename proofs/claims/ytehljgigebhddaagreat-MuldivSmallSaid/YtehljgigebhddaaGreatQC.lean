/-
  What an act does, by the graph and by the reference: plainly the same; ContainsFunc over numbers with a function that makes memory. Conditions: references of the graph.
  Several steps of which one may fail, plainly: the reference stops, the program goes on and cuts. Words of references. No program in sight. Conditions: none beyond the hypotheses.
  Walks over the maker of sums: put, xor, mux; the law of a step on the plain side. Conditions: a graph in memory, references of it.
  A range over a function whose iterator only reads: the contract, and the caller's law, said with the blocks that may change. The body may go on or return.
  Walks over pairs of sums: the iterator over two words side by side. Conditions: two slices of the same length.
  Walks over build of sums: something is made as a whole, or the graph is as it was. Conditions: the graph is one in memory; what is called makes.
  Walks over right and check of sums. Conditions: a graph in memory, words of any integers.
  Drawn regions in a round of a range over a function, under the widest fence: from the plain walk.
  What is known between two rounds of a loop that makes a word: a frame of blocks, the maker's state beside the reference's. Conditions: none beyond the hypotheses.
  Walks over each of sums: bit by bit. Conditions: a graph in memory, two words of it.
  Walks over sum of sums: a carry goes along. Conditions: a graph in memory, two words of it.
  Walks over Ne of sums. Conditions: a graph in memory, two words of it.
  Walks over Lt of sums. Conditions: a graph in memory, two words of it.
  Walks over Input of sums. Conditions: a graph in memory.
  Walks over each, And, Or, Xor of sums. Conditions: a graph in memory, words of any integers.
  Walks over the exported functions of sums: words of two. Conditions: a graph in memory, words of any integers.
  What the functions of sums make, plainly: right graphs, references of them. No program in sight. Conditions: none beyond the hypotheses.
  Walks over the exported functions of sums: sums, negations, comparisons. Conditions: a graph in memory, words of any integers.
  Walks over the exported functions of sums: Eq, Le, Neg, Not, Any, Input. Conditions: a graph in memory, words of any integers.
  Walks over bitword: bits of words. Conditions: numbers in range.
  Walks over Const, Cast, Value, Input of sums, and the library's Clone of any word. Conditions: numbers in range.
  Walks over Cast, Value, Input of sums. Conditions: numbers in range, a graph in memory.
  Walk over the chapter's examples (awake): true. Conditions: none.
  A graph in memory with words that are held beside it: what is known along a law's walk. Conditions: none beyond the hypotheses.
  The functions of sums beside a graph and words that are held. Conditions: none beyond the hypotheses.
  Walk over the chapter's examples (awake of sums): true. Conditions: none.
  Walk over Pair of chapter 23's law: a graph with two words of new inputs. Conditions: none.
  Walks over the small functions of chapter 23's laws: Refs, Ints, Clone of truths, and the reference's Right, Const, Cast. Conditions: numbers in range.
  Walks: the reference's Cast, Equal of truths, Ints. Conditions: numbers in range.
  From a law's arguments to what the walks say: numbers, slices of numbers and of truths. Conditions: those of the given row.
-/
import Derived.Test.YtehljgigebhddaaGreatQB
import Derived.RangeFuncFrom
import Derived.RangeFuncCalls
import Derived.Laws.BitsAllLaws
import Derived.Test.YtehljgigebhddaaGreatRows
import Derived.WalkKit
import Derived.ProofKit
import Derived.OpenShut
import Derived.ChangeOld
import Derived.Below
import Derived.Carry
import Derived.Deep.Slices
import Derived.Deep.Fields
namespace Go.Aig
theorem and_err {G : Gra} {a b : Nat} (h : (and G a b).2.2 ≠ 0) : and G a b = (G, 0, (and G a b).2.2) := by
  unfold and at h ⊢
  split
  · rename_i r hi; rw [hi] at h; exact absurd rfl h
  · rename_i l r hi
    rw [hi] at h
    dsimp only at h
    cases hf : findAnd G.nodes l r with
    | some n => rw [hf] at h; exact absurd rfl h
    | none =>
      rw [hf] at h
      dsimp only at h ⊢
      unfold put at h ⊢
      split
      · rfl
      · rename_i hm; rw [if_neg hm] at h; exact absurd rfl h
theorem any_no {ns : List Nd} {l : List Int} (h : ∀ x ∈ l, right ns x = true) : (l.any fun r => !right ns r) = false := by
  rw [List.any_eq_false]
  intro x hx
  rw [h x hx]; simp
theorem whole_ok {G : Gra} {l : List Int} (h : ∀ x ∈ l, right G.nodes x = true) (f : Mk → Mk × Nat) : whole G l f = if (f (G, 0)).1.2 ≠ 0 then (G, 0, (f (G, 0)).1.2) else ((f (G, 0)).1.1, (f (G, 0)).2, 0) := by
  unfold whole
  rw [any_no h, if_neg (by simp)]
theorem mand_zero (G : Gra) (a b : Nat) : mand (G, 0) a b = (((and G a b).1, (and G a b).2.2), (and G a b).2.1) := by unfold mand; rw [if_neg (by simp)]
theorem mand_bad {s : Mk} (h : s.2 ≠ 0) (a b : Nat) : mand s a b = (s, 0) := by unfold mand; rw [if_pos h]
theorem mand_fine {s : Mk} (h : s.2 = 0) (a b : Nat) : mand s a b = (((and s.1 a b).1, (and s.1 a b).2.2), (and s.1 a b).2.1) := by unfold mand; rw [if_neg (by simp [h])]
theorem whole_and {G : Gra} {l : List Int} (h : ∀ x ∈ l, right G.nodes x = true) (a b : Nat) : whole G l (fun s => mand s a b) = and G a b := by
  rw [whole_ok h, mand_zero]
  dsimp only
  split
  · rename_i he; exact (and_err he).symm
  · rename_i he
    simp only [ne_eq, Decidable.not_not] at he
    rw [← he]
theorem whole_or {G : Gra} {l : List Int} (h : ∀ x ∈ l, right G.nodes x = true) (a b : Nat) : whole G l (fun s => mor s a b) = rOr G a b := by
  rw [whole_ok h]
  unfold mor rOr
  rw [mand_zero]
theorem mall_bad : ∀ (l : List Nat) {s : Mk} (out : Nat), s.2 ≠ 0 → (mall s out l).1 = s
  | [], _, _, _ => rfl
  | r :: l, s, out, h => by
    unfold mall
    rw [mand_bad h]
    exact mall_bad l 0 h
theorem mall_from (G0 : Gra) : ∀ (l : List Nat) (G : Gra) (out : Nat), (if (mall (G, 0) out l).1.2 ≠ 0 then (G0, 0, (mall (G, 0) out l).1.2) else ((mall (G, 0) out l).1.1, (mall (G, 0) out l).2, 0) : Res) = rAllFrom G0 G out l
  | [], G, out => by simp [mall, rAllFrom]
  | r :: l, G, out => by
    unfold mall rAllFrom
    rw [mand_zero]
    dsimp only
    by_cases he : (and G out r).2.2 ≠ 0
    · rw [if_pos he]
      rw [mall_bad l _ (s := ((and G out r).1, (and G out r).2.2)) he, if_pos he]
    · rw [if_neg he]
      have he' : (and G out r).2.2 = 0 := by simpa using he
      rw [he']
      exact mall_from G0 l _ _
theorem whole_any {G : Gra} {l : List Int} (h : ∀ x ∈ l, right G.nodes x = true) (ns : List Nat) : whole G l (fun s => many s ns) = rAny G ns := by
  rw [whole_ok h]
  unfold many rAny rAll
  rw [← mall_from G (ns.map neg) G 1]
  by_cases he : (mall (G, 0) 1 (ns.map neg)).1.2 ≠ 0
  · simp only [if_pos he]
  · simp only [if_neg he]; simp
theorem whole_mux {G : Gra} {l : List Int} (h : ∀ x ∈ l, right G.nodes x = true) (c a b : Nat) : whole G l (fun s => mmux s c a b) = rMux G c a b := by
  rw [whole_ok h]
  unfold mmux rMux mor
  dsimp only
  rw [mand_zero]
  dsimp only
  generalize and G c a = X
  unfold rThen
  by_cases h1 : X.2.2 ≠ 0
  · rw [if_pos h1]
    simp only [mand_bad (s := (X.1, X.2.2)) h1]
    rw [if_pos h1]
  · rw [if_neg h1]
    have e1 : X.2.2 = 0 := by simpa using h1
    simp only [mand_fine (s := (X.1, X.2.2)) e1]
    generalize and X.1 (neg c) b = Y
    by_cases h2 : Y.2.2 ≠ 0
    · rw [if_pos h2]
      simp only [mand_bad (s := (Y.1, Y.2.2)) h2]
      rw [if_pos h2]
    · rw [if_neg h2]
      have e2 : Y.2.2 = 0 := by simpa using h2
      simp only [mand_fine (s := (Y.1, Y.2.2)) e2]
      unfold rOr
      by_cases h3 : (and Y.1 (neg X.2.1) (neg Y.2.1)).2.2 ≠ 0
      · simp only [if_pos h3]
      · simp only [if_neg h3]; simp
theorem right_nat {ns : List Nd} {x : Int} (h : right ns x = true) : ∃ r : Nat, x = r ∧ r < 2 * ns.length := by
  unfold right at h
  have := of_decide_eq_true h
  exact ⟨x.toNat, by omega, by omega⟩
end Go.Aig
namespace Go.Proofs.YtehljgigebhddaaGreat
open Go.RowKit Go.Mem Go.Aig
section
end
end Go.Proofs.YtehljgigebhddaaGreat
namespace Go.Aig
/-- what a step of the reference leaves -/
def rstep (s : Mk) (R : Res) : Mk × Nat := if s.2 ≠ 0 then (s, 0) else if R.2.2 ≠ 0 then ((s.1, R.2.2), 0) else ((R.1, 0), R.2.1)
/-- what a step of the program leaves -/
def mput (s : Mk) (R : Res) : Mk × Nat := ((R.1, if s.2 = 0 then R.2.2 else s.2), R.2.1)
/-- a result that is right, and leaves the graph if there is an error -/
structure RFull (G : Gra) (R : Res) : Prop where
  ok : ROk G R
  keep : R.2.2 ≠ 0 → R = (G, 0, 201)
theorem and_full {G : Gra} (h : Ok G) {a b : Nat} (ha : a < 2 * G.nodes.length) (hb : b < 2 * G.nodes.length) : RFull G (and G a b) := by
  refine ⟨and_rok h ha hb, fun he => ?_⟩
  have h1 := and_err he
  have h2 := (and_rok h ha hb).err
  rw [h1]
  rcases h2 with e | e
  · exact absurd e he
  · rw [e]
theorem rOr_full {G : Gra} (h : Ok G) {a b : Nat} (ha : a < 2 * G.nodes.length) (hb : b < 2 * G.nodes.length) : RFull G (rOr G a b) := by
  refine ⟨rOr_rok h ha hb, fun he => ?_⟩
  have h2 := (and_rok h (neg_lt ha) (neg_lt hb)).err
  unfold rOr at he ⊢
  split
  · rcases h2 with e | e
    · rename_i h3; exact absurd e h3
    · rw [e]
  · rename_i h3; rw [if_neg h3] at he; exact absurd rfl he
theorem rMux_full {G : Gra} (h : Ok G) {c a b : Nat} (hc : c < 2 * G.nodes.length) (ha : a < 2 * G.nodes.length) (hb : b < 2 * G.nodes.length) : RFull G (rMux G c a b) := by
  have h1 := and_rok h hc ha
  have h2 := and_rok h1.ok (h1.ext.lt (neg_lt hc)) (h1.ext.lt hb)
  have h3 := rOr_rok h2.ok (h2.ext.lt h1.lt) h2.lt
  have hk : ∀ X Y : Res, (X.2.2 = 0 ∨ X.2.2 = 201) → (Y.2.2 ≠ 0 → Y = (G, 0, 201)) → (rThen G X Y).2.2 ≠ 0 → rThen G X Y = (G, 0, 201) := fun X Y hX hY he => by
    unfold rThen at he ⊢
    split
    · rcases hX with e | e
      · rename_i h3; exact absurd e h3
      · rw [e]
    · rename_i h3; rw [if_neg h3] at he; exact hY he
  refine ⟨rMux_rok h hc ha hb, ?_⟩
  unfold rMux
  refine hk _ _ h1.err (hk _ _ h2.err (hk _ _ h3.err ?_))
  intro he; exact absurd rfl he
theorem rXor_full {G : Gra} (h : Ok G) {a b : Nat} (ha : a < 2 * G.nodes.length) (hb : b < 2 * G.nodes.length) : RFull G (rXor G a b) := rMux_full h ha (neg_lt hb) hb
theorem rAny_full {G : Gra} (h : Ok G) {l : List Nat} (hl : ∀ r ∈ l, r < 2 * G.nodes.length) : RFull G (rAny G l) := by
  refine ⟨rAny_rok h hl, fun he => ?_⟩
  have h2 := (rAll_rok h (negs_lt hl)).err
  unfold rAny at he ⊢
  split
  · rcases h2 with e | e
    · rename_i h3; exact absurd e h3
    · rw [e]
  · rename_i h3; rw [if_neg h3] at he; exact absurd rfl he
theorem put_full {G : Gra} (h : Ok G) : RFull G (put G ⟨2, 0, 0, 0⟩) := by
  have hp := h.wf.pos
  unfold put
  split
  · exact ⟨⟨h, .refl _, by show 0 < 2 * G.nodes.length; omega, .inr rfl⟩, fun _ => rfl⟩
  · rename_i hm
    exact ⟨⟨⟨h.wf.input, by simp; omega, h.most⟩, ⟨rfl, _, rfl⟩, by simp, .inl rfl⟩, fun he => absurd rfl he⟩
/-- the program's state beside that of the reference -/
structure Sim (G0 : Gra) (P R : Mk) : Prop where
  ok : Ok P.1
  ext : Ext G0 P.1
  rel : (R.2 = 0 ∧ P = R) ∨ (R.2 = 201 ∧ P.2 = 201)
  rok : Ok R.1
  rext : Ext G0 R.1
theorem Sim.start {G : Gra} (h : Ok G) : Sim G (G, 0) (G, 0) := ⟨h, .refl _, .inl ⟨rfl, rfl⟩, h, .refl _⟩
theorem rstep_bad {s : Mk} (h : s.2 ≠ 0) (R : Res) : rstep s R = (s, 0) := by unfold rstep; rw [if_pos h]
theorem rstep_no {s : Mk} (h : s.2 = 0) {R : Res} (hR : R.2.2 ≠ 0) : rstep s R = ((s.1, R.2.2), 0) := by unfold rstep; rw [if_neg (by simp [h]), if_pos hR]
theorem rstep_ok {s : Mk} (h : s.2 = 0) {R : Res} (hR : R.2.2 = 0) : rstep s R = ((R.1, 0), R.2.1) := by unfold rstep; rw [if_neg (by simp [h]), if_neg (by simp [hR])]
theorem mput_bad {s : Mk} (h : s.2 ≠ 0) (R : Res) : mput s R = ((R.1, s.2), R.2.1) := by unfold mput; rw [if_neg h]
theorem mput_ok {s : Mk} (h : s.2 = 0) (R : Res) : mput s R = ((R.1, R.2.2), R.2.1) := by unfold mput; rw [if_pos h]
theorem Sim.step {G0 : Gra} {P R : Mk} (h : Sim G0 P R) {X Y : Res} (hX : RFull P.1 X) (he : R.2 = 0 → P = R → X = Y) :
    Sim G0 (mput P X).1 (rstep R Y).1 ∧ (mput P X).2 < 2 * (mput P X).1.1.nodes.length ∧ (rstep R Y).2 < 2 * (rstep R Y).1.1.nodes.length ∧ ((rstep R Y).1.2 = 0 → (mput P X).2 = (rstep R Y).2) ∧ Ext P.1 (mput P X).1.1 ∧ Ext R.1 (rstep R Y).1.1 ∧ (R.2 ≠ 0 → (rstep R Y).1.2 ≠ 0) := by
  have hrp := h.rok.wf.pos
  rcases h.rel with ⟨e0, e1⟩ | ⟨e0, e1⟩
  · have e2 := he e0 e1
    subst e2; subst e1
    by_cases hx : X.2.2 = 0
    · rw [rstep_ok e0 hx, mput_ok e0, hx]
      exact ⟨⟨hX.ok.ok, h.ext.trans hX.ok.ext, .inl ⟨rfl, rfl⟩, hX.ok.ok, h.ext.trans hX.ok.ext⟩, hX.ok.lt, hX.ok.lt, fun _ => rfl, hX.ok.ext, hX.ok.ext, fun hz => absurd e0 hz⟩
    · rw [rstep_no e0 hx, mput_ok e0, hX.keep hx]
      show Sim G0 (P.1, 201) (P.1, 201) ∧ 0 < 2 * P.1.nodes.length ∧ 0 < 2 * P.1.nodes.length ∧ ((201 : Nat) = 0 → (0 : Nat) = 0) ∧ Ext P.1 P.1 ∧ Ext P.1 P.1 ∧ (P.2 ≠ 0 → (201 : Nat) ≠ 0)
      exact ⟨⟨h.ok, h.ext, .inr ⟨rfl, rfl⟩, h.rok, h.rext⟩, by omega, by omega, fun _ => rfl, .refl _, .refl _, fun _ => by omega⟩
  · rw [rstep_bad (by omega), mput_bad (by omega)]
    exact ⟨⟨hX.ok.ok, h.ext.trans hX.ok.ext, .inr ⟨e0, e1⟩, h.rok, h.rext⟩, hX.ok.lt, by show 0 < 2 * R.1.nodes.length; omega, fun hz => absurd (show R.2 = 0 from hz) (by omega), hX.ok.ext, .refl _, fun hz => hz⟩
/-! ### the operations of the reference on a state -/
def sAnd (s : Mk) (a b : Nat) : Mk × Nat := rstep s (and s.1 a b)
def sOr (s : Mk) (a b : Nat) : Mk × Nat := rstep s (rOr s.1 a b)
def sXor (s : Mk) (a b : Nat) : Mk × Nat := rstep s (rXor s.1 a b)
def sMux (s : Mk) (c a b : Nat) : Mk × Nat := rstep s (rMux s.1 c a b)
def sAny (s : Mk) (l : List Nat) : Mk × Nat := rstep s (rAny s.1 l)
def sPut (s : Mk) : Mk × Nat := rstep s (put s.1 ⟨2, 0, 0, 0⟩)
/-- one after the other, each making a bit of a word -/
def eachS (op : Mk → Nat → Nat → Mk × Nat) (q : Mk × List Nat) (p : Nat × Nat) : Mk × List Nat := ((op q.1 p.1 p.2).1, q.2 ++ [(op q.1 p.1 p.2).2])
def eachF (op : Mk → Nat → Nat → Mk × Nat) (s : Mk) (l : List (Nat × Nat)) : Mk × List Nat := l.foldl (eachS op) (s, [])
/-- the sum, bit by bit: the state, the word, the carry -/
def sumS (n : Nat) (q : Mk × List Nat × Nat) (p : Nat × Nat) : Mk × List Nat × Nat :=
  let x := sXor q.1 p.1 p.2
  let r := sXor x.1 x.2 q.2.2
  if q.2.1.length + 1 < n then
    let both := sAnd r.1 p.1 p.2
    let more := sAnd both.1 x.2 q.2.2
    let next := sOr more.1 both.2 more.2
    (next.1, q.2.1 ++ [r.2], next.2)
  else (r.1, q.2.1 ++ [r.2], q.2.2)
def sumF (n : Nat) (s : Mk) (l : List (Nat × Nat)) (c : Nat) : Mk × List Nat × Nat := l.foldl (sumS n) (s, [], c)
/-- less than, from the lowest bit on -/
def ltS (q : Mk × Nat) (p : Nat × Nat) : Mk × Nat := sMux (sXor q.1 p.1 p.2).1 (sXor q.1 p.1 p.2).2 p.2 q.2
def ltF (s : Mk) (l : List (Nat × Nat)) : Mk × Nat := l.foldl ltS (s, 0)
def inS (q : Mk × List Nat) : Mk × List Nat := ((sPut q.1).1, q.2 ++ [(sPut q.1).2])
def inF (s : Mk) : Nat → Mk × List Nat
  | 0 => (s, [])
  | n + 1 => inS (inF s n)
end Go.Aig
namespace Go.Proofs.YtehljgigebhddaaGreat
open Go.RowKit Go.Mem Go.Aig
theorem doAnd_r {G : Gra} {a b : Nat} (ha : a < 2 * G.nodes.length) (hb : b < 2 * G.nodes.length) : doAnd G a b = and G a b := by
  unfold doAnd
  rw [whole_and (by simp [right]; omega)]; rfl
theorem doOr_r {G : Gra} {a b : Nat} (ha : a < 2 * G.nodes.length) (hb : b < 2 * G.nodes.length) : doOr G a b = rOr G a b := by
  unfold doOr
  rw [whole_or (by simp [right]; omega)]; rfl
theorem doXor_r {G : Gra} {a b : Nat} (ha : a < 2 * G.nodes.length) (hb : b < 2 * G.nodes.length) : doXor G a b = rXor G a b := by
  unfold doXor rXor
  rw [whole_mux (by simp [right]; omega)]; rfl
theorem doMux_r {G : Gra} {c a b : Nat} (hc : c < 2 * G.nodes.length) (ha : a < 2 * G.nodes.length) (hb : b < 2 * G.nodes.length) : doMux G c a b = rMux G c a b := by
  unfold doMux
  rw [whole_mux (by simp [right]; omega)]; rfl
theorem toNats (l : List Nat) : (l.map fun (r : Nat) => (r : Int)).map Int.toNat = l := by
  induction l with
  | nil => rfl
  | cons a l ih => simp only [List.map_cons, ih]; rfl
theorem doAny_r {G : Gra} {l : List Nat} (hl : ∀ r ∈ l, r < 2 * G.nodes.length) : doAny G (l.map fun (r : Nat) => (r : Int)) = rAny G l := by
  unfold doAny
  rw [toNats, whole_any (by
    intro x hx
    obtain ⟨r, hr, rfl⟩ := List.mem_map.1 hx
    have := hl r hr
    simp [right]; omega)]
/-- the maker in memory beside its graph -/
structure MIn (w : World) (g m : Nat) (P : Mk) (F : List Nat) : Prop where
  gin : GIn w g P.1 F
  bk : blk w m [.pointer (some ⟨g, 0, none⟩), .int .i64 P.2]
  apart : m ∉ F
/-- what a step leaves of a maker and its graph -/
def MTo (w : World) (g m : Nat) (P : Mk) (F : List Nat) (w' : World) : Prop := ∃ F', MIn w' g m P F' ∧ Ch (m :: F) w w' ∧ (∀ k ∈ F', k ∈ F ∨ w.heap.size ≤ k) ∧ F'[2]? = F[2]?
theorem MIn.same {w w' : World} {g m : Nat} {P : Mk} {F F' : List Nat} (h : MIn w g m P F) (hc : Ch F' w w') (hF : ∀ k ∈ m :: F, k ∉ F') : MIn w' g m P F :=
  ⟨h.gin.same hc (fun k hk => hF k (by simp [hk])), h.bk.ch hc (hF m (by simp)), h.apart⟩
theorem MTo.of {w w1 w' : World} {g m : Nat} {P P' : Mk} {F : List Nat} (h : MIn w g m P F) (ht : GTo w g P'.1 F w1) (hb : blk w1 m [.pointer (some ⟨g, 0, none⟩), .int .i64 P.2] → blk w' m [.pointer (some ⟨g, 0, none⟩), .int .i64 P'.2]) (hc : Ch [m] w1 w') : MTo w g m P' F w' := by
  obtain ⟨F', h1, h2, h3, h4⟩ := ht
  have hm := h.bk.lt
  have hmF : m ∉ F' := fun hk => (h3 m hk).elim h.apart (by omega)
  exact ⟨F', ⟨h1.same hc (fun k hk e => hmF (by simp at e; exact e ▸ hk)), hb (h.bk.ch h2 h.apart), hmF⟩, (h2.mono (fun k hk => .inl (by simp [hk]))).trans hc (fun k hk => .inl (by simp at hk; simp [hk])), h3, h4⟩
section
variable {w : World} {g m : Nat}
set_option maxRecDepth 100000 in
set_option maxHeartbeats 1000000 in
theorem sput_is {e : Nat} (hb : blk w m [.pointer (some ⟨g, 0, none⟩), .int .i64 e]) (r : Nat) (f : Nat) :
    Calls Tryz.prog 175 #[.pointer (some ⟨m, 0, none⟩), .int .i64 r, .int .i64 f] w fun x w' => x = .returned (.int .i64 r) ∧ blk w' m [.pointer (some ⟨g, 0, none⟩), .int .i64 ((if e = 0 then f else e : Nat) : Int)] ∧ Ch [m] w w' := by
  have m1 := hb.cell (i := 1) rfl
  have m1f := hb.frozen (i := 1)
  have HB := Lib.hid hb; clear hb
  by_cases he : e = 0
  · subst he
    rw [if_pos rfl]
    go_enter Tryz.func175, Tryz.ntmps175
    go_wp2_with fail
    go_ret
    exact ⟨rfl, HB.out.set (i := 1) _, (Ch.refl _ _).setCell (by simp) _⟩
  · have hq : ((e : Int) == 0) = false := beqN (by omega)
    rw [if_neg he]
    go_enter Tryz.func175, Tryz.ntmps175
    go_wp2_with fail
    go_ret
    exact ⟨rfl, HB.out, Ch.refl _ _⟩
set_option maxRecDepth 100000 in
set_option maxHeartbeats 1000000 in
theorem sxor_is {P : Mk} {F : List Nat} (h : MIn w g m P F) {a b : Nat} (ha : a < 2 * P.1.nodes.length) (hb : b < 2 * P.1.nodes.length) :
    Calls Tryz.prog 313 #[.pointer (some ⟨m, 0, none⟩), .int .i64 a, .int .i64 b] w fun e w' => e = .returned (.int .i64 (mput P (rXor P.1 a b)).2) ∧ MTo w g m (mput P (rXor P.1 a b)).1 F w' := by
  have hl := h.gin.ok.room
  have hl2 := h.gin.ok.most
  have HX := Xor_g h.gin a b (by omega) (by omega)
  rw [doXor_r ha hb] at HX
  have m0 := h.bk.cell (i := 0) rfl
  have H := Lib.hid h; clear h
  clear hl hl2
  generalize hR : rXor P.1 a b = R at *
  clear hR
  go_enter Tryz.func313, Tryz.ntmps313
  go_wp2_with fail
  refine HX.mono ?_
  rintro e w1 ⟨rfl, ht⟩
  have hb1 := H.out.bk.ch ht.gin.choose_spec.2.1 H.out.apart
  have HP := sput_is hb1 R.2.1 R.2.2
  have HT := Lib.hid ht; clear ht
  clear hb1
  go_wp2_with fail
  refine HP.mono ?_
  rintro e w2 ⟨rfl, hb2, hc2⟩
  have HB := Lib.hid hb2; clear hb2
  have HC := Lib.hid hc2; clear hc2
  go_wp2_with fail
  go_ret
  exact ⟨rfl, MTo.of H.out HT.out (fun _ => HB.out) HC.out⟩
set_option maxRecDepth 100000 in
set_option maxHeartbeats 1000000 in
theorem smux_is {P : Mk} {F : List Nat} (h : MIn w g m P F) {c a b : Nat} (hc : c < 2 * P.1.nodes.length) (ha : a < 2 * P.1.nodes.length) (hb : b < 2 * P.1.nodes.length) :
    Calls Tryz.prog 317 #[.pointer (some ⟨m, 0, none⟩), .int .i64 c, .int .i64 a, .int .i64 b] w fun e w' => e = .returned (.int .i64 (mput P (rMux P.1 c a b)).2) ∧ MTo w g m (mput P (rMux P.1 c a b)).1 F w' := by
  have hl := h.gin.ok.room
  have hl2 := h.gin.ok.most
  have HX := Mux_g h.gin c a b (by omega) (by omega) (by omega)
  rw [doMux_r hc ha hb] at HX
  have m0 := h.bk.cell (i := 0) rfl
  have H := Lib.hid h; clear h
  clear hl hl2
  generalize hR : rMux P.1 c a b = R at *
  clear hR
  go_enter Tryz.func317, Tryz.ntmps317
  go_wp2_with fail
  refine HX.mono ?_
  rintro e w1 ⟨rfl, ht⟩
  have hb1 := H.out.bk.ch ht.gin.choose_spec.2.1 H.out.apart
  have HP := sput_is hb1 R.2.1 R.2.2
  have HT := Lib.hid ht; clear ht
  clear hb1
  go_wp2_with fail
  refine HP.mono ?_
  rintro e w2 ⟨rfl, hb2, hc2⟩
  have HB := Lib.hid hb2; clear hb2
  have HC := Lib.hid hc2; clear hc2
  go_wp2_with fail
  go_ret
  exact ⟨rfl, MTo.of H.out HT.out (fun _ => HB.out) HC.out⟩
end
end Go.Proofs.YtehljgigebhddaaGreat
namespace Go
open Go.RowKit Go.Mem
section
variable {F : Fence} {n : Nat} {P : Program}
/-- the blocks K are as they were; the two blocks that a loop keeps are as they were -/
def Kept (K : List Nat) (W W' : World) : Prop := ∀ k ∈ K, W'.heap[k]? = W.heap[k]?
def Books (B : Nat) (W W' : World) : Prop := W'.heap[B]? = W.heap[B]? ∧ W'.heap[B + 1]? = W.heap[B + 1]?
theorem Kept.of_ch {K L : List Nat} {W W' : World} (hc : Ch L W W') (h : ∀ k ∈ K, k < W.heap.size ∧ k ∉ L) : Kept K W W' := fun k hk => hc.block k (h k hk).1 (h k hk).2
theorem Books.of_ch {B : Nat} {L : List Nat} {W W' : World} (hc : Ch L W W') (hB : B + 2 ≤ W.heap.size) (h : ∀ k ∈ L, k ≠ B ∧ k ≠ B + 1) : Books B W W' :=
  ⟨hc.block B (by omega) (fun hk => (h B hk).1 rfl), hc.block (B + 1) (by omega) (fun hk => (h (B + 1) hk).2 rfl)⟩
/-- the contract of an iterator that only reads the blocks K -/
def SeqP {α : Type} (F : Fence) (n : Nat) (P : Program) (g : Nat) (lb : Array Value) (encs : α → Array Value) (K : List Nat) (xs : List α) (w : World) : Prop :=
  ∀ (l : Nat) (J : List α → World → Prop) (Jx : World → Prop) (W : World), (∀ k ∈ K, W.heap[k]? = w.heap[k]?) → (∀ s A A', J s A → Ch [] A A' → J s A') → (∀ A A', Jx A → Ch [] A A' → Jx A') →
    (∀ pre x W1, J pre W1 → (pre ++ [x]) <+: xs → YieldAt F (n - 1) P l (encs x) W1 fun e W' => (e = .returned (.bool true) ∧ J (pre ++ [x]) W' ∧ Kept K W1 W') ∨ (e = .returned (.bool false) ∧ Jx W')) →
    J [] W →
    CallsIn F n P g (#[.func (.yield l) #[] #[]] ++ lb) W fun e W' => (∃ v, e = .returned v) ∧ (J xs W' ∨ Jx W')

theorem ch_put {A : World} {l : Nat} {o' : Obj} {L : List Nat} (hl : l ∈ L) : Ch L A (A.putObj l o') := ⟨rfl, rfl, rfl, by simp, fun k _ hn => World.putObj_heap_other (fun e => by subst e; exact hn hl)⟩

theorem wpIn_rangeFunc_P {α : Type} {g : Operand} {ps : Array Tmp} {assign body : Code} {Q : Exit → Act → World → Prop} {a : Act} {w : World} (B : Nat) (hB : w.heap.size = B)
    (hro : F.round = none) (h1 : 1 ≤ n) {gf : Nat} {lb : Array Value} (hg : a.eval g = .func (.func gf) #[] lb) (hFg : F.fn gf) (eg : ∀ args w, (callFunc gf args).run P w = .ok (.enter gf args) w)
    {encs : α → Array Value} {K : List Nat} {xs : List α} (hseq : SeqP F (n - 1) P gf lb encs K xs w) (hK : ∀ k ∈ K, k < B) (hps : ∀ x, (encs x).size = ps.size)
    (I : List α → World → Prop) (Ix : World → Prop) (hI : ∀ s A A', I s A → Ch [B, B + 1] A A' → I s A') (hIx : ∀ A A', Ix A → Ch [B, B + 1] A A' → Ix A') (h0 : I [] w) (a₁ : α → Act)
    (hassign : ∀ (l : Nat) (x : α) (W : World) (K : Act → World → Prop), K (a₁ x) W →
      assign.wpIn (F.inRound l) (n - 1 - 1) P (Exit.then K (fun _ _ _ => False)) { tmps := (ps.zip (encs x)).foldl (fun t (p, v) => t.setIfInBounds p v) a.tmps, defers := [] } W)
    (hbody : ∀ (l : Nat) (pre : List α) (x : α) (W : World), I pre W → B + 2 ≤ W.heap.size → (pre ++ [x]) <+: xs → body.wpIn (F.inRound l) (n - 1 - 1) P (fun e _ W' => Books B W W' ∧ ((e = .normal ∧ I (pre ++ [x]) W' ∧ Kept K W W') ∨ (e = .ret ∧ Ix W'))) (a₁ x) W)
    (hdone : ∀ (W : World), I xs W → W.heap[B]? = some (.deferred (some [])) → B + 2 ≤ W.heap.size → Q .normal { a with defers := { target := .collected B, args := #[] } :: a.defers } W)
    (hstop : ∀ (W : World), Ix W → W.heap[B]? = some (.deferred (some [])) → B + 2 ≤ W.heap.size → (Code.ret).wpIn F n P Q { a with defers := { target := .collected B, args := #[] } :: a.defers } W) :
    (Code.rangeFunc g ps assign body).wpIn F n P Q a w := by
  subst hB
  refine wpIn_rangeFunc fun fn hfn => ?_
  rw [hro]
  let rec0 : LoopState → Option Code → Loop := fun st pe => { state := st, pending := pe, fn, tmps := a.tmps, params := ps, assign, body, defers := w.heap.size }
  obtain ⟨W1, hW1⟩ : ∃ W1, (w.alloc (.deferred (some []))).alloc (.loop (rec0 .ready none)) = W1 := ⟨_, rfl⟩
  have hz1 : W1.heap.size = w.heap.size + 2 := by rw [← hW1]; simp
  have hL1 : W1.heap[w.heap.size + 1]? = some (.loop (rec0 .ready none)) := by
    rw [← hW1]; have := World.alloc_heap_new (w.alloc (.deferred (some []))) (.loop (rec0 .ready none)); rwa [World.size_alloc] at this
  have hK1 : W1.heap[w.heap.size]? = some (.deferred (some [])) := by
    rw [← hW1]; exact (Below.heap_alloc _ _ _ (by simp)).trans (World.alloc_heap_new w _)
  have hc1 : Ch [] w W1 := by rw [← hW1]; exact ((Ch.refl _ _).alloc _).alloc _
  have hI1 : I [] W1 := hI _ _ _ h0 (hc1.mono (by simp))
  refine ⟨w.heap.size + 1, [{ target := .collected w.heap.size, args := #[] }], W1, { target := .fn (.func gf) lb, args := #[.func (.yield (w.heap.size + 1)) #[] #[]] }, W1, gf,
    #[.func (.yield (w.heap.size + 1)) #[] #[]] ++ lb, W1, ?_, ?_, ?_, ?_, fun _ => h1, ?_⟩
  · rw [← hW1]; exact run_enterLoop_outer _ _ _ _ _
  · simp only [resolve, hg]
    simp [go_sem]
  · intro f' hf'; simp [Target.leads] at hf'; subst hf'; exact hFg
  · simp [invoke, go_sem, eg]
  · have hKne : ∀ k ∈ K, k ≠ w.heap.size + 1 := fun k hk => by have := hK k hk; omega
    refine (hseq (w.heap.size + 1) (fun pre W => I pre W ∧ w.heap.size + 2 ≤ W.heap.size ∧ W.heap[w.heap.size + 1]? = some (.loop (rec0 .ready none)) ∧ W.heap[w.heap.size]? = some (.deferred (some [])))
      (fun W => Ix W ∧ w.heap.size + 2 ≤ W.heap.size ∧ W.heap[w.heap.size + 1]? = some (.loop (rec0 .done (some .ret))) ∧ W.heap[w.heap.size]? = some (.deferred (some []))) W1 (fun k hk => hc1.block k (hK k hk) (by simp))
      (fun s A A' hs hc => ⟨hI s A A' hs.1 (hc.mono (by simp)), Nat.le_trans hs.2.1 hc.size, (hc.block _ (by have := hs.2.1; omega) (by simp)).trans hs.2.2.1, (hc.block _ (by have := hs.2.1; omega) (by simp)).trans hs.2.2.2⟩)
      (fun A A' hs hc => ⟨hIx A A' hs.1 (hc.mono (by simp)), Nat.le_trans hs.2.1 hc.size, (hc.block _ (by have := hs.2.1; omega) (by simp)).trans hs.2.2.1, (hc.block _ (by have := hs.2.1; omega) (by simp)).trans hs.2.2.2⟩)
      ?_ ⟨hI1, by omega, hL1, hK1⟩).mono ?_
    · rintro pre x W ⟨hi, hz, hl, hk⟩ hpre
      have hlt : w.heap.size + 1 < W.heap.size := by omega
      refine ⟨fn, _, assign, body, run_yield (P := P) (args := encs x) hl (hps x), roundIn_of_wpIn hfn (hassign _ x W _ ⟨_, run_beginRound hl rfl, ?_⟩)⟩
      have hl2 : (W.putObj (w.heap.size + 1) (.loop (rec0 .busy none))).heap[w.heap.size + 1]? = some (.loop (rec0 .busy none)) := World.putObj_heap_same hlt
      have hk2 : (W.putObj (w.heap.size + 1) (.loop (rec0 .busy none))).heap[w.heap.size]? = some (.deferred (some [])) := (World.putObj_heap_other (by omega)).trans hk
      have hK2 : ∀ k ∈ K, (W.putObj (w.heap.size + 1) (.loop (rec0 .busy none))).heap[k]? = W.heap[k]? := fun k hk => World.putObj_heap_other (hKne k hk)
      refine wpIn_mono (hbody _ pre x _ (hI _ _ _ hi (ch_put (by simp))) (by simp; omega) hpre) ?_
      rintro e a3 W3 ⟨⟨hb0, hb1⟩, (⟨rfl, hi3, hk3⟩ | ⟨rfl, hi3⟩)⟩
      · have hl3 := hb1.trans hl2
        have hlt3 := (Array.getElem?_eq_some_iff.1 hl3).1
        refine ⟨_, _, run_endRound (P := P) none hl3, .inl ⟨rfl, ⟨hI _ _ _ hi3 (ch_put (by simp)), by simp; omega, World.putObj_heap_same hlt3, (World.putObj_heap_other (by omega)).trans (hb0.trans hk2)⟩, fun k hk => ?_⟩⟩
        exact (World.putObj_heap_other (hKne k hk)).trans ((hk3 k hk).trans (hK2 k hk))
      · have hl3 := hb1.trans hl2
        have hlt3 := (Array.getElem?_eq_some_iff.1 hl3).1
        refine ⟨_, _, run_endRound (P := P) (some .ret) hl3, .inr ⟨rfl, hIx _ _ hi3 (ch_put (by simp)), by simp; omega, World.putObj_heap_same hlt3, (World.putObj_heap_other (by omega)).trans (hb0.trans hk2)⟩⟩
    · rintro e W2 ⟨⟨v, rfl⟩, (⟨hi, hz, hl, hk⟩ | ⟨hi, hz, hl, hk⟩)⟩
      · exact ⟨none, _, run_endLoop (P := P) hl (by simp [rec0]), hdone _ (hI _ _ _ hi (ch_put (by simp))) ((World.putObj_heap_other (by omega)).trans hk) (by simp; omega)⟩
      · exact ⟨some .ret, _, run_endLoop (P := P) hl (by simp [rec0]), hstop _ (hIx _ _ hi (ch_put (by simp))) ((World.putObj_heap_other (by omega)).trans hk) (by simp; omega)⟩
end
end Go
namespace Go.Proofs.YtehljgigebhddaaGreat
open Go.RowKit Go.Mem Go.Aig
/-- the block of a slice, if it has one -/
def ablk (a : Option Addr) : List Nat := match a with | some p => [p.block] | none => []
theorem keep_cell {w W : World} {k o : Nat} (h : W.heap[k]? = w.heap[k]?) {v : Value} (hv : w.cell? ⟨k, o, none⟩ = some v) : W.cell? ⟨k, o, none⟩ = some v := (World.cell?_of_block h).trans hv
theorem Sl.keep {w W : World} {a : Option Addr} {l : List Int} (h : Sl w a l) (hk : ∀ k ∈ ablk a, W.heap[k]? = w.heap[k]?) : Sl W a l :=
  ⟨fun i x hx => by
    obtain ⟨b, o, rfl, hc⟩ := h.cells i x hx
    exact ⟨b, o, rfl, keep_cell (hk b (by simp [ablk])) hc⟩, h.bd⟩
def pairEnc (p : Nat × Nat) : Array Value := #[.int .i64 p.1, .int .i64 p.2]
theorem sfnvpairs1 : Fnv 341 := fnv_of Tryz.func341 (by simp [Tryz.f341]) (by simp [Tryz.f341])
set_option maxRecDepth 100000 in
set_option maxHeartbeats 2000000 in
theorem spairs_seq (w : World) (F : Fence) (n : Nat) (hf : F.fn 341) (hro : F.round = none) (hn : 1 ≤ n) {bx b2 : Nat} {xa ya : Option Addr} {x y : List Nat} (len xc yc : Nat) (hxl : x.length = len) (hyl : y.length = len) (hbx : w.cell? ⟨bx, 0, none⟩ = some (.slice xa len xc)) (hby : w.cell? ⟨b2, 0, none⟩ = some (.slice ya len yc))
    (hx : Sl w xa (x.map fun (r : Nat) => (r : Int))) (hy : Sl w ya (y.map fun (r : Nat) => (r : Int))) :
    SeqP F n Tryz.prog 341 #[.pointer (some ⟨bx, 0, none⟩), .pointer (some ⟨b2, 0, none⟩)] pairEnc (bx :: b2 :: (ablk xa ++ ablk ya)) (x.zip y) w := by
  subst hxl
  intro lp J Jx W hK hJ hJx hY h0
  have hbd := hx.bd
  rw [List.length_map] at hbd
  show CallsIn F n Tryz.prog 341 #[.func (.yield lp) #[] #[], .pointer (some ⟨bx, 0, none⟩), .pointer (some ⟨b2, 0, none⟩)] W _
  have HY := Lib.hid hY; clear hY
  have HJ := Lib.hid hJ; clear hJ
  have HJX := Lib.hid hJx; clear hJx
  have H0 := Lib.hid h0; clear h0
  have HK := Lib.hid hK; clear hK
  have HX := Lib.hid hx; clear hx
  have HYS := Lib.hid hy; clear hy
  have HBX := Lib.hid hbx; clear hbx
  have HBY := Lib.hid hby; clear hby
  have HYL := Lib.hid hyl; clear hyl
  have bx1 := keep_cell (HK.out bx (by simp)) HBX.out
  refine callsIn_of_wp Tryz.func341 rfl hf ?_ hro
  simp only [Tryz.ntmps341, List.size_toArray, List.length_cons, List.length_nil, Nat.reduceAdd, Nat.reduceSub, Array.replicate_succ, Array.replicate_zero, List.push_toArray, List.append_toArray, List.nil_append, List.cons_append]
  gi_wp2
  clear bx1
  gi_loopw [8] (fun i wr => ∃ k : Nat, k ≤ x.length ∧ i = .int .i64 k ∧ (∀ q ∈ bx :: b2 :: (ablk xa ++ ablk ya), wr.heap[q]? = w.heap[q]?) ∧ J ((x.zip y).take k) wr) (fun i _ => x.length - (intOf i).toNat)
  case atStart => exact ⟨0, Nat.zero_le _, rfl, HK.out, H0.out⟩
  case round =>
    obtain ⟨k, hk, rfl, hq, hj⟩ := hrel
    by_cases hlt : k < x.length
    · have hxk : x[k]? = some x[k] := List.getElem?_eq_getElem hlt
      have hyk : y[k]? = some (y[k]'(by rw [HYL.out]; exact hlt)) := List.getElem?_eq_getElem (by rw [HYL.out]; exact hlt)
      generalize x[k] = r at hxk
      generalize y[k]'(by rw [HYL.out]; exact hlt) = s at hyk
      obtain ⟨xb, xo, rfl, hxc⟩ := HX.out.cells k (r : Int) (by simp [hxk])
      obtain ⟨yb, yo, rfl, hyc⟩ := HYS.out.cells k (s : Int) (by simp [hyk])
      have d0 := keep_cell (hq xb (by simp [ablk])) hxc
      have d1 := keep_cell (hq yb (by simp [ablk])) hyc
      have e0 := keep_cell (hq b2 (by simp)) HBY.out
      have hz : (x.zip y)[k]? = some (r, s) := by rw [List.getElem?_zip_eq_some]; exact ⟨hxk, hyk⟩
      have hsu : (x.zip y).take (k + 1) = (x.zip y).take k ++ [(r, s)] := by rw [List.take_add_one, hz]; rfl
      obtain ⟨fn, tmps, assign, body, hy1, hR⟩ := HY.out _ (r, s) _ hj (by rw [← hsu]; exact List.take_prefix _ _)
      simp only [pairEnc] at hy1
      have HQ := Lib.hid hq; clear hq
      have HJ1 := Lib.hid hj; clear hj
      have HSU := Lib.hid hsu; clear hsu
      clear hxk hyk hxc hyc hz
      gi_wp2
      refine hR.mono ?_
      rintro e W2 (⟨rfl, hJ2, hk2⟩ | ⟨rfl, hJ2⟩)
      · have HJ2 := Lib.hid hJ2; clear hJ2
        have HK2 := Lib.hid hk2; clear hk2
        gi_wp2
        go_roundw
        case rel => exact ⟨k + 1, by omega, by go_num, fun q hq => (HK2.out q hq).trans (HQ.out q hq), by rw [HSU.out]; exact HJ2.out⟩
        case measure => simp [intOf]; omega
      · have HJ2 := Lib.hid hJ2; clear hJ2
        gi_wp2
        refine bodyPost_ret (results_none rfl _ _ _) rfl ?_
        exact ⟨⟨_, rfl⟩, .inr HJ2.out⟩
    · have hkl : (x.zip y).take k = x.zip y := List.take_of_length_le (by rw [List.length_zip, HYL.out]; omega)
      rw [hkl] at hj
      have HJ1 := Lib.hid hj; clear hj
      clear hkl
      gi_wp2
      go_end0
      exact ⟨⟨_, rfl⟩, .inl HJ1.out⟩
set_option maxRecDepth 100000 in
set_option maxHeartbeats 1000000 in
theorem spairs_is {w : World} (xa ya : Option Addr) (n xc n' yc : Nat) :
    Calls Tryz.prog 312 #[.slice xa n xc, .slice ya n' yc] w fun e w' => e = .returned (.func (.func 341) #[] #[.pointer (some ⟨w.heap.size, 0, none⟩), .pointer (some ⟨w.heap.size + 1, 0, none⟩)]) ∧ w' = (w.alloc (.cells #[.slice xa n xc] 45)).alloc (.cells #[.slice ya n' yc] 45) := by
  go_enter Tryz.func312, Tryz.ntmps312
  go_wp2_with fail
  go_ret
  exact ⟨rfl, rfl⟩
end Go.Proofs.YtehljgigebhddaaGreat
namespace Go.Aig
/-- what is left of a word that is made, of a reference that is made -/
def wres (G : Gra) (R : Mk × List Nat) : Gra × List Nat × Nat := if R.1.2 ≠ 0 then (G, [], R.1.2) else (R.1.1, R.2, 0)
def rres (G : Gra) (R : Mk × Nat) : Res := if R.1.2 ≠ 0 then (G, 0, R.1.2) else (R.1.1, R.2, 0)
theorem Ext.back {G G' : Gra} (h : Ext G G') : ({ G' with nodes := G'.nodes.take G.nodes.length } : Gra) = G := by
  obtain ⟨e1, more, e2⟩ := h
  show ({ most := G'.most, nodes := G'.nodes.take G.nodes.length } : Gra) = G
  rw [e1, e2, List.take_left]
theorem doCut_back {G G' : Gra} (hG : Ok G) (h : Ext G G') : doCut G' G.nodes.length = (G, 0) := by
  have := h.len
  have := hG.wf.pos
  unfold doCut
  rw [if_neg (by omega)]
  simp only [Int.toNat_natCast]
  rw [h.back]
end Go.Aig
namespace Go.Proofs.YtehljgigebhddaaGreat
open Go.RowKit Go.Mem Go.Aig
/-- what a function leaves of a graph, with a word of its own -/
def GVo (w : World) (g : Nat) (G : Gra) (X F : List Nat) (v : Value) (l : List Nat) (w' : World) : Prop :=
  ∃ F', GIn w' g G F' ∧ Ch (X ++ F) w w' ∧ (∀ k ∈ F', k ∈ F ∨ w.heap.size ≤ k) ∧ F'[2]? = F[2]? ∧ row w' 52 1 v l.length (refsCells l) ∧ ∀ k, v.ownBlock = some k → w.heap.size ≤ k ∧ k ∉ F'
/-- what a part of build leaves, with a word of its own -/
def MVo (w : World) (g m : Nat) (P : Mk) (X F : List Nat) (v : Value) (l : List Nat) (w' : World) : Prop :=
  ∃ F', MIn w' g m P F' ∧ Ch (m :: (X ++ F)) w w' ∧ (∀ k ∈ F', k ∈ F ∨ w.heap.size ≤ k) ∧ F'[2]? = F[2]? ∧ row w' 52 1 v l.length (refsCells l) ∧ ∀ k, v.ownBlock = some k → w.heap.size ≤ k ∧ k ∉ F' ∧ k ≠ m
theorem GVo.nil {w w' : World} {g : Nat} {G : Gra} {X F F' : List Nat} (h1 : GIn w' g G F') (h2 : Ch (X ++ F) w w') (h3 : ∀ k ∈ F', k ∈ F ∨ w.heap.size ≤ k) (h4 : F'[2]? = F[2]?) : GVo w g G X F (.slice none 0 0) [] w' :=
  ⟨F', h1, h2, h3, h4, ⟨rfl, .inl ⟨rfl, rfl⟩⟩, by simp [Value.ownBlock]⟩
theorem GTo.mk {w w' : World} {g : Nat} {G : Gra} {F F' : List Nat} (h1 : GIn w' g G F') (h2 : Ch F w w') (h3 : ∀ k ∈ F', k ∈ F ∨ w.heap.size ≤ k) (h4 : F'[2]? = F[2]?) : GTo w g G F w' := ⟨F', h1, h2, h3, h4⟩
section
variable {w : World} {g : Nat} {G : Gra} {F : List Nat}
set_option maxRecDepth 100000 in
set_option maxHeartbeats 2000000 in
theorem sbuildW_is (h : GIn w g G F) (fid : Nat) (caps : Array Value) (hfn : Fnv fid) (R : Mk × List Nat) (X : List Nat)
    (hf : ∀ W m, w.heap.size ≤ m → Ch [] w W → MIn W g m (G, 0) F → Calls Tryz.prog fid (#[.pointer (some ⟨m, 0, none⟩)] ++ caps) W fun e W' => ∃ v P l, e = .returned v ∧ Sim G P R.1 ∧ (R.1.2 = 0 → l = R.2) ∧ MVo W g m P X F v l W') :
    Calls Tryz.prog 173 #[.pointer (some ⟨g, 0, none⟩), .func (.func fid) #[] caps] w fun e w' => ∃ v, e = .returned (.tuple #[v, .int .i64 (wres G R).2.2]) ∧ GVo w g (wres G R).1 X F v (wres G R).2.1 w' := by
  have HL := Len_g h
  have hg := h.lt
  have hok := h.ok
  have hroom := h.ok.room
  have hmost := h.ok.most
  have hms : MIn (w.alloc (.cells #[.pointer (some ⟨g, 0, none⟩), .int .i64 0] 325)) g w.heap.size (G, 0) F := ⟨h.same ((Ch.refl [] _).alloc _) (by simp), blk.new' _ _ rfl, fun hm => by have := hg _ hm; omega⟩
  have HF := hf _ w.heap.size (Nat.le_refl _) ((Ch.refl _ _).alloc _) hms
  have hcf : ∀ args w, (callFunc fid args).run Tryz.prog w = .ok (.enter fid args) w := hfn
  have H := Lib.hid h; clear h
  have HG := Lib.hid hg; clear hg
  have HOK := Lib.hid hok; clear hok
  clear hf hms
  generalize hWW : wres G R = WW
  have HWW := Lib.hid hWW; clear hWW
  go_enter Tryz.func173, Tryz.ntmps173
  go_wp2_with fail
  refine HL.mono ?_
  rintro e w' ⟨rfl, rfl⟩
  go_wp2_with fail
  refine HF.mono ?_
  rintro e w1 ⟨v, P, l, rfl, hsim, hl, F', hm, hc, hF', hF2, hrow, hown⟩
  obtain ⟨va, vc, rfl⟩ := row.shape hrow
  have m1 := hm.bk.cell (i := 1) rfl
  have hc0 : Ch (X ++ F) w w1 := (((Ch.refl (X ++ F) w).alloc (.cells #[.pointer (some ⟨g, 0, none⟩), .int .i64 0] 325))).trans hc (fun k hk => by
    simp only [List.mem_cons] at hk
    rcases hk with rfl | hk
    · right; omega
    · exact .inl hk)
  have hz := hc0.size
  have hF0 : ∀ k ∈ F', k ∈ F ∨ w.heap.size ≤ k := fun k hk => (hF' k hk).imp id (fun e => by simp at e; omega)
  have hrel := hsim.rel
  have hext := hsim.ext
  have HROW := Lib.hid hrow; clear hrow
  have HC0 := Lib.hid hc0; clear hc0
  have HF0 := Lib.hid hF0; clear hF0
  have HOWN := Lib.hid hown; clear hown
  have HM := Lib.hid hm; clear hm
  have HEXT := Lib.hid hext; clear hext
  clear hc hF' hsim
  rcases hrel with ⟨he, rfl⟩ | ⟨he, hp⟩
  · have hw : wres G R = (R.1.1, R.2, 0) := by unfold wres; rw [if_neg (by simp [he])]
    have hww := HWW.out
    rw [hw] at hww
    subst hww
    rw [he] at m1
    have hl := hl he
    subst hl
    clear hw HOK
    have HE := Lib.hid he; clear he
    go_wp2_with fail
    go_ret2
    exact ⟨_, rfl, F', HM.out.gin, HC0.out, HF0.out, hF2, HROW.out, fun k hk => ⟨by have := (HOWN.out k hk).1; simp at this; omega, (HOWN.out k hk).2.1⟩⟩
  · have hw : wres G R = (G, [], 201) := by unfold wres; rw [if_pos (by simp [he]), he]
    have hww := HWW.out
    rw [hw] at hww
    subst hww
    rw [hp] at m1
    have hcut := Cut_g HM.out.gin G.nodes.length (by omega) (by omega)
    rw [doCut_back HOK.out HEXT.out] at hcut
    have hmlt := HM.out.bk.lt
    have hmF := HM.out.apart
    clear hw hl
    have HE := Lib.hid he; clear he
    have HP := Lib.hid hp; clear hp
    have HMF := Lib.hid hmF; clear hmF
    go_wp2_with fail
    refine hcut.mono ?_
    rintro e w4 ⟨rfl, F4, hg4, hc4, hF4, hF42⟩
    have hm4 : w4.cell? ⟨w.heap.size, 1, none⟩ = some (.int .i64 201) := (hc4.cell (p := ⟨w.heap.size, 1, none⟩) hmlt HMF.out).trans m1
    clear m1
    have HG4 := Lib.hid hg4; clear hg4
    have HC4 := Lib.hid hc4; clear hc4
    have HF4 := Lib.hid hF4; clear hF4
    go_wp2_with fail
    refine Ord.St.door (fun _ => True) [.fl, .fl, .fl, .fl, .rd, .fl, .fl] [0, 0, 2, 6, 14, 1, 63] [0, 1, 2, 3, 4, 5, 6] mixed (by kernel_rfl) rfl ?_
    refine Ord.St.fl2 (T' := ?_) 0 [1, 2, 3, 4, 5, 6] _ _ rfl (by kernel_rfl) rfl rfl rfl rfl (fun K w' hk => ?_) ?_
    rotate_left
    · go_step; exact hk
    refine Ord.St.fl2 (T' := ?_) 1 [2, 3, 4, 5, 6] _ _ rfl (by kernel_rfl) rfl rfl rfl rfl (fun K w' hk => ?_) ?_
    rotate_left
    · go_step; exact hk
    refine Ord.St.fl2 (T' := ?_) 2 [3, 4, 5, 6] _ _ rfl (by kernel_rfl) rfl rfl rfl rfl (fun K w' hk => ?_) ?_
    rotate_left
    · go_step; exact hk
    refine Ord.St.fl2 (T' := ?_) 3 [4, 5, 6] _ _ rfl (by kernel_rfl) rfl rfl rfl rfl (fun K w' hk => ?_) ?_
    rotate_left
    · go_step; exact hk
    refine Ord.St.rd2 (T' := ?_) 4 [5, 6] _ _ rfl (by kernel_rfl) rfl rfl rfl rfl (fun K hk => ?_) ?_
    rotate_left
    · go_step; exact hk
    refine Ord.St.fl2 (T' := ?_) 5 [6] _ _ rfl (by kernel_rfl) rfl rfl rfl rfl (fun K w' hk => ?_) ?_
    rotate_left
    · go_step; exact hk
    refine Ord.St.fl2 (T' := ?_) 6 [] _ _ rfl (by kernel_rfl) rfl rfl rfl rfl (fun K w' hk => ?_) ?_
    rotate_left
    · go_step; exact hk
    refine Ord.St.nil ?_
    go_wp2_with fail
    go_ret2
    refine ⟨_, rfl, GVo.nil (F' := F4) (HG4.out.same (F' := []) (Ch.refl _ _).drew (by simp)) (HC0.out.trans HC4.out.drew (fun k hk => (HF0.out k hk).imp (fun e => List.mem_append_right _ e) id)) (fun k hk => ?_) (hF42.trans hF2)⟩
    rcases HF4.out k hk with e | e
    · exact HF0.out k e
    · exact .inr (by omega)
set_option maxRecDepth 100000 in
set_option maxHeartbeats 2000000 in
theorem sbuildR_is (h : GIn w g G F) (fid : Nat) (caps : Array Value) (hfn : Fnv fid) (R : Mk × Nat)
    (hf : ∀ W m, w.heap.size ≤ m → Ch [] w W → MIn W g m (G, 0) F → Calls Tryz.prog fid (#[.pointer (some ⟨m, 0, none⟩)] ++ caps) W fun e W' => ∃ (P : Mk) (r : Nat), e = .returned (.int .i64 r) ∧ Sim G P R.1 ∧ (R.1.2 = 0 → r = R.2) ∧ MTo W g m P F W') :
    Calls Tryz.prog 310 #[.pointer (some ⟨g, 0, none⟩), .func (.func fid) #[] caps] w fun e w' => e = .returned (.tuple #[.int .i64 (rres G R).2.1, .int .i64 (rres G R).2.2]) ∧ GTo w g (rres G R).1 F w' := by
  have HL := Len_g h
  have hg := h.lt
  have hok := h.ok
  have hroom := h.ok.room
  have hmost := h.ok.most
  have hms : MIn (w.alloc (.cells #[.pointer (some ⟨g, 0, none⟩), .int .i64 0] 325)) g w.heap.size (G, 0) F := ⟨h.same ((Ch.refl [] _).alloc _) (by simp), blk.new' _ _ rfl, fun hm => by have := hg _ hm; omega⟩
  have HF := hf _ w.heap.size (Nat.le_refl _) ((Ch.refl _ _).alloc _) hms
  have hcf : ∀ args w, (callFunc fid args).run Tryz.prog w = .ok (.enter fid args) w := hfn
  have H := Lib.hid h; clear h
  have HG := Lib.hid hg; clear hg
  have HOK := Lib.hid hok; clear hok
  clear hf hms
  generalize hWW : rres G R = WW
  have HWW := Lib.hid hWW; clear hWW
  go_enter Tryz.func310, Tryz.ntmps310
  go_wp2_with fail
  refine HL.mono ?_
  rintro e w' ⟨rfl, rfl⟩
  go_wp2_with fail
  refine HF.mono ?_
  rintro e w1 ⟨P, r, rfl, hsim, hl, F', hm, hc, hF', hF2⟩
  have m1 := hm.bk.cell (i := 1) rfl
  have hc0 : Ch F w w1 := (((Ch.refl F w).alloc (.cells #[.pointer (some ⟨g, 0, none⟩), .int .i64 0] 325))).trans hc (fun k hk => by
    simp only [List.mem_cons] at hk
    rcases hk with rfl | hk
    · right; omega
    · exact .inl hk)
  have hz := hc0.size
  have hF0 : ∀ k ∈ F', k ∈ F ∨ w.heap.size ≤ k := fun k hk => (hF' k hk).imp id (fun e => by simp at e; omega)
  have hrel := hsim.rel
  have hext := hsim.ext
  have HC0 := Lib.hid hc0; clear hc0
  have HF0 := Lib.hid hF0; clear hF0
  have HM := Lib.hid hm; clear hm
  have HEXT := Lib.hid hext; clear hext
  clear hc hF' hsim
  rcases hrel with ⟨he, rfl⟩ | ⟨he, hp⟩
  · have hw : rres G R = (R.1.1, R.2, 0) := by unfold rres; rw [if_neg (by simp [he])]
    have hww := HWW.out
    rw [hw] at hww
    subst hww
    rw [he] at m1
    have hl := hl he
    subst hl
    clear hw HOK
    have HE := Lib.hid he; clear he
    go_wp2_with fail
    go_ret2
    exact ⟨rfl, F', HM.out.gin, HC0.out, HF0.out, hF2⟩
  · have hw : rres G R = (G, 0, 201) := by unfold rres; rw [if_pos (by simp [he]), he]
    have hww := HWW.out
    rw [hw] at hww
    subst hww
    rw [hp] at m1
    have hcut := Cut_g HM.out.gin G.nodes.length (by omega) (by omega)
    rw [doCut_back HOK.out HEXT.out] at hcut
    have hmlt := HM.out.bk.lt
    have hmF := HM.out.apart
    clear hw hl
    have HE := Lib.hid he; clear he
    have HP := Lib.hid hp; clear hp
    have HMF := Lib.hid hmF; clear hmF
    go_wp2_with fail
    refine hcut.mono ?_
    rintro e w4 ⟨rfl, F4, hg4, hc4, hF4, hF42⟩
    have hm4 : w4.cell? ⟨w.heap.size, 1, none⟩ = some (.int .i64 201) := (hc4.cell (p := ⟨w.heap.size, 1, none⟩) hmlt HMF.out).trans m1
    clear m1
    have HG4 := Lib.hid hg4; clear hg4
    have HC4 := Lib.hid hc4; clear hc4
    have HF4 := Lib.hid hF4; clear hF4
    go_wp2_with fail
    refine Ord.St.door (fun _ => True) [.fl, .fl, .fl, .fl, .rd, .fl, .fl] [0, 0, 2, 6, 14, 1, 63] [0, 1, 2, 3, 4, 5, 6] mixed (by kernel_rfl) rfl ?_
    refine Ord.St.fl2 (T' := ?_) 0 [1, 2, 3, 4, 5, 6] _ _ rfl (by kernel_rfl) rfl rfl rfl rfl (fun K w' hk => ?_) ?_
    rotate_left
    · go_step; exact hk
    refine Ord.St.fl2 (T' := ?_) 1 [2, 3, 4, 5, 6] _ _ rfl (by kernel_rfl) rfl rfl rfl rfl (fun K w' hk => ?_) ?_
    rotate_left
    · go_step; exact hk
    refine Ord.St.fl2 (T' := ?_) 2 [3, 4, 5, 6] _ _ rfl (by kernel_rfl) rfl rfl rfl rfl (fun K w' hk => ?_) ?_
    rotate_left
    · go_step; exact hk
    refine Ord.St.fl2 (T' := ?_) 3 [4, 5, 6] _ _ rfl (by kernel_rfl) rfl rfl rfl rfl (fun K w' hk => ?_) ?_
    rotate_left
    · go_step; exact hk
    refine Ord.St.rd2 (T' := ?_) 4 [5, 6] _ _ rfl (by kernel_rfl) rfl rfl rfl rfl (fun K hk => ?_) ?_
    rotate_left
    · go_step; exact hk
    refine Ord.St.fl2 (T' := ?_) 5 [6] _ _ rfl (by kernel_rfl) rfl rfl rfl rfl (fun K w' hk => ?_) ?_
    rotate_left
    · go_step; exact hk
    refine Ord.St.fl2 (T' := ?_) 6 [] _ _ rfl (by kernel_rfl) rfl rfl rfl rfl (fun K w' hk => ?_) ?_
    rotate_left
    · go_step; exact hk
    refine Ord.St.nil ?_
    go_wp2_with fail
    go_ret2
    refine ⟨rfl, GTo.mk (F' := F4) (HG4.out.same (F' := []) (Ch.refl _ _).drew (by simp)) (HC0.out.trans HC4.out.drew HF0.out) (fun k hk => ?_) (hF42.trans hF2)⟩
    rcases HF4.out k hk with e | e
    · exact HF0.out k e
    · exact .inr (by omega)
end
end Go.Proofs.YtehljgigebhddaaGreat
namespace Go.Aig
def rightW (n : Int) : Bool := decide (1 ≤ n) && decide (n ≤ 17)
def badIn (G : Gra) (x : List Int) : Bool := x.any fun r => !right G.nodes r
def badAs (n0 : Nat) (x : List Int) : Bool := !rightW x.length || (x.length : Int) != n0
/-- what check finds wrong -/
def chk (G : Gra) (ws : List (List Int)) : Nat :=
  if ws.any (badAs (ws.headD []).length) then 230 else if ws.any (badIn G) then 200 else 0
end Go.Aig
namespace Go.Proofs.YtehljgigebhddaaGreat
open Go.RowKit Go.Mem Go.Aig
/-- a word as a value: where it lies, its numbers, its capacity -/
structure WV where
  a : Option Addr
  l : List Int
  c : Nat
def WV.val (x : WV) : Value := .slice x.a x.l.length x.c
structure WVok (w : World) (x : WV) : Prop where
  sl : Sl w x.a x.l
  bd : ∀ r ∈ x.l, -9223372036854775808 ≤ r ∧ r ≤ 9223372036854775807
  len : x.l.length ≤ 1000000
theorem WVok.ch {F : List Nat} {w w' : World} {x : WV} (h : WVok w x) (hc : Ch F w w') (hF : ∀ p, x.a = some p → p.block ∉ F) : WVok w' x := ⟨h.sl.ch hc hF, h.bd, h.len⟩
section
variable {w : World} {g : Nat} {G : Gra} {F : List Nat}
set_option maxRecDepth 100000 in
set_option maxHeartbeats 1000000 in
theorem sright_is (n : Int) : Calls Tryz.prog 171 #[.int .i64 n] w fun e w' => e = .returned (.bool (rightW n)) ∧ w = w' := by
  unfold rightW
  by_cases h : 1 ≤ n
  · have h1 : decide ((1 : Int) ≤ n) = true := decide_eq_true h
    go_enter Tryz.func171, Tryz.ntmps171
    go_wp2_with fail
    go_ret
    exact ⟨by rw [h1]; rfl, rfl⟩
  · have h1 : decide ((1 : Int) ≤ n) = false := decide_eq_false h
    go_enter Tryz.func171, Tryz.ntmps171
    go_wp2_with fail
    go_ret
    exact ⟨rfl, rfl⟩
theorem fnvscheck1 : Fnv 340 := fnv_of Tryz.func340 (by simp [Tryz.f340]) (by simp [Tryz.f340])
set_option maxRecDepth 100000 in
set_option maxHeartbeats 1000000 in
theorem scheck1_is (h : GIn w g G F) {bx : Nat} (hb : w.cell? ⟨bx, 0, none⟩ = some (.pointer (some ⟨g, 0, none⟩))) (r : Int) (hr : r ≤ 9223372036854775807) :
    Calls Tryz.prog 340 (#[.int .i64 r] ++ #[.pointer (some ⟨bx, 0, none⟩)]) w fun e w' => e = .returned (.bool (!right G.nodes r)) ∧ w = w' := by
  show Calls Tryz.prog 340 #[.int .i64 r, .pointer (some ⟨bx, 0, none⟩)] w _
  have HR := Right_g h r hr
  clear h
  generalize right G.nodes r = q at *
  go_enter Tryz.func340, Tryz.ntmps340
  go_wp2_with fail
  refine HR.mono ?_
  rintro e w' ⟨rfl, rfl⟩
  go_wp2_with fail
  go_ret
  exact ⟨ret_bool rfl, rfl⟩
set_option maxRecDepth 100000 in
set_option maxHeartbeats 4000000 in
theorem scheck_is (h : GIn w g G F) {b : Nat} {ws : List WV} (n c : Nat) (hn : ws.length = n) (hn0 : n ≤ 2) (hc : ∀ i x, ws[i]? = some x → w.cell? ⟨b, i, none⟩ = some x.val) (hS : ∀ x ∈ ws, WVok w x) :
    Calls Tryz.prog 309 #[.pointer (some ⟨g, 0, none⟩), .slice (some ⟨b, 0, none⟩) n c] w fun e w' => e = .returned (.int .i64 (chk G (ws.map WV.l))) ∧ Ch [] w w' := by
  subst hn
  have hW1 : Ch [] w (w.alloc (.cells #[.pointer (some ⟨g, 0, none⟩)] 42)) := (Ch.refl _ _).alloc _
  have H1 := h.same hW1 (by simp)
  have HL := Len_g H1
  have b1 : (w.alloc (.cells #[.pointer (some ⟨g, 0, none⟩)] 42)).cell? ⟨w.heap.size, 0, none⟩ = some (.pointer (some ⟨g, 0, none⟩)) := by go_simp
  have hpos := h.ok.wf.pos
  have HCF : ∀ x ∈ ws, Calls Tryz.prog 40 #[.slice x.a x.l.length x.c, .func (.func 340) #[] #[.pointer (some ⟨w.heap.size, 0, none⟩)]] (w.alloc (.cells #[.pointer (some ⟨g, 0, none⟩)] 42)) fun e w' => e = .returned (.bool (badIn G x.l)) ∧ (w.alloc (.cells #[.pointer (some ⟨g, 0, none⟩)] 42)) = w' := fun x hx =>
    CFref_is x.c 340 #[.pointer (some ⟨w.heap.size, 0, none⟩)] (fun r => !right G.nodes r) ((hS x hx).ch hW1 (by simp)).sl (fun r hr => scheck1_is H1 b1 r ((hS x hx).bd r hr).2) fnvscheck1
  have hcc : ∀ i x, ws[i]? = some x → (w.alloc (.cells #[.pointer (some ⟨g, 0, none⟩)] 42)).cell? ⟨b, i, none⟩ = some (.slice x.a x.l.length x.c) := fun i x hx => (hW1.cell (p := ⟨b, i, none⟩) (cell_lt (hc i x hx)) (by simp)).trans (hc i x hx)
  have hlen : ∀ x ∈ ws, x.l.length ≤ 1000000 := fun x hx => (hS x hx).len
  have hroom := h.ok.room
  have hmost := h.ok.most
  have hp0 : ((G.nodes.length : Int) == 0) = false := beqN (by omega)
  have HCC := Lib.hid hcc; clear hcc
  have HCF := Lib.hid HCF
  clear hc hS h H1 b1
  generalize hWC : chk G (ws.map WV.l) = WC
  have HWC := Lib.hid hWC; clear hWC
  have HW1 := Lib.hid hW1; clear hW1
  have HLEN := Lib.hid hlen; clear hlen
  go_enter Tryz.func309, Tryz.ntmps309
  go_wp2_with fail
  refine wp_scope_straight ?_
  go_wp2_with fail
  refine HL.mono ?_
  rintro e w' ⟨rfl, rfl⟩
  go_wp2_with fail
  refine wp_label ?_
  go_wp2_with fail
  go_loopw [5, 13] (fun e i wr => ∃ k : Nat, k ≤ ws.length ∧ i = .int .i64 k ∧ wr = w.alloc (.cells #[.pointer (some ⟨g, 0, none⟩)] 42) ∧ ((ws.map WV.l).take k).any (badAs ((ws.map WV.l).headD []).length) = false ∧ e = .int .i64 (if ((ws.map WV.l).take k).any (badIn G) then 200 else 0 : Nat)) (fun _ i _ => ws.length - (intOf i).toNat)
  case atStart => exact ⟨0, by omega, rfl, rfl, rfl, rfl⟩
  case round =>
    obtain ⟨k, hk, rfl, rfl, hno, rfl⟩ := hrel
    generalize hE : (if ((ws.map WV.l).take k).any (badIn G) then 200 else 0 : Nat) = E
    have HE := Lib.hid hE; clear hE
    by_cases hlt : k < ws.length
    · obtain ⟨x, hx⟩ : ∃ x, ws[k]? = some x := ⟨_, List.getElem?_eq_getElem hlt⟩
      obtain ⟨x0, hx0⟩ : ∃ x0, ws[0]? = some x0 := ⟨_, List.getElem?_eq_getElem (by omega)⟩
      have c0 := HCC.out 0 x0 hx0
      have c1 := HCC.out k x hx
      have hh0 : ((ws.map WV.l).headD []).length = x0.l.length := by
        cases ws with
        | nil => cases hx0
        | cons y ws => simp at hx0; subst hx0; rfl
      rw [hh0] at hno
      have hxm : (ws.map WV.l)[k]? = some x.l := by simp [hx]
      have hmem : x ∈ ws := List.mem_of_getElem? hx
      have HR := sright_is (w := w.alloc (.cells #[.pointer (some ⟨g, 0, none⟩)] 42)) x.l.length
      have HC := HCF.out x hmem
      have hxl := HLEN.out x hmem
      have hx0l := HLEN.out x0 (List.mem_of_getElem? hx0)
      have HNO := Lib.hid hno; clear hno
      have HH0 := Lib.hid hh0; clear hh0
      have HXM := Lib.hid hxm; clear hxm
      have hchk : badAs x0.l.length x.l = true → chk G (ws.map WV.l) = 230 := fun hb => by
        unfold chk
        rw [HH0.out, if_pos (List.any_eq_true.2 ⟨x.l, List.mem_of_getElem? HXM.out, hb⟩)]
      clear hx hx0 hmem
      by_cases hr : rightW x.l.length = true
      · rw [hr] at HR
        by_cases hll : x.l.length = x0.l.length
        · have hq : ((x.l.length : Int) != (x0.l.length : Int)) = false := by rw [hll]; simp
          have hgood : badAs x0.l.length x.l = false := by unfold badAs; rw [hr, hq]; rfl
          have h1 : ((ws.map WV.l).take (k + 1)).any (badAs x0.l.length) = false := by
            rw [List.take_add_one, HXM.out, List.any_append, HNO.out]; simp [hgood]
          have h2 : (if ((ws.map WV.l).take (k + 1)).any (badIn G) then 200 else 0 : Nat) = if badIn G x.l then 200 else E := by
            rw [List.take_add_one, HXM.out, List.any_append, ← HE.out]
            cases hb : badIn G x.l <;> simp [hb]
          have H1 := Lib.hid h1; clear h1
          have H2 := Lib.hid h2; clear h2
          clear hchk hgood hll hr
          cases hb : badIn G x.l
          · rw [hb] at HC
            have HB := Lib.hid hb; clear hb
            go_wp2_with fail
            refine HR.mono ?_
            rintro e w' ⟨rfl, rfl⟩
            go_wp2_with fail
            refine HC.mono ?_
            rintro e w' ⟨rfl, rfl⟩
            go_wp2_with fail
            go_roundw
            case rel => exact ⟨k + 1, by omega, by go_num, by first | trivial | rfl, by rw [HH0.out]; exact H1.out, by rw [H2.out, HB.out]; rfl⟩
            case measure => simp [intOf]; omega
          · rw [hb] at HC
            have HB := Lib.hid hb; clear hb
            go_wp2_with fail
            refine HR.mono ?_
            rintro e w' ⟨rfl, rfl⟩
            go_wp2_with fail
            refine HC.mono ?_
            rintro e w' ⟨rfl, rfl⟩
            go_wp2_with fail
            go_roundw
            case rel => exact ⟨k + 1, by omega, by go_num, by first | trivial | rfl, by rw [HH0.out]; exact H1.out, by rw [H2.out, HB.out]; rfl⟩
            case measure => simp [intOf]; omega
        · have hq : ((x.l.length : Int) != (x0.l.length : Int)) = true := by simp; omega
          have hbad := hchk (by unfold badAs; rw [hq]; simp)
          have HBAD := Lib.hid hbad; clear hbad hchk hr
          clear HC hll
          go_wp2_with fail
          refine HR.mono ?_
          rintro e w' ⟨rfl, rfl⟩
          go_wp2_with fail
          rw [Exit.noGoto_ret]
          go_ret
          have hwc := HWC.out
          rw [HBAD.out] at hwc
          subst hwc
          exact ⟨rfl, HW1.out⟩
      · have hr0 : rightW x.l.length = false := by simpa using hr
        have hbad := hchk (by unfold badAs; rw [hr0]; rfl)
        have HBAD := Lib.hid hbad; clear hbad hchk hr
        rw [hr0] at HR
        clear HC hr0
        go_wp2_with fail
        refine HR.mono ?_
        rintro e w' ⟨rfl, rfl⟩
        go_wp2_with fail
        rw [Exit.noGoto_ret]
        go_ret
        have hwc := HWC.out
        rw [HBAD.out] at hwc
        subst hwc
        exact ⟨rfl, HW1.out⟩
    · have hwc := HWC.out
      have he := HE.out
      rw [List.take_of_length_le (by rw [List.length_map]; omega)] at hno he
      unfold chk at hwc
      rw [hno, if_neg (by simp), he] at hwc
      subst hwc
      clear HWC hno he
      go_wp2_with fail
      rw [Exit.noGoto_ret]
      go_ret
      exact ⟨rfl, HW1.out⟩
end
end Go.Proofs.YtehljgigebhddaaGreat
namespace Go.Ord
open Go
def noDefer (o : Oper) : Bool := match o.op with | .defer _ => false | _ => true
theorem noDefer_ne {o : Oper} (h : noDefer o = true) : ∀ c, o.op ≠ .defer c := fun c e => by unfold noDefer at h; rw [e] at h; cases h
theorem wide_in {l n : Nat} {P : Program} {o : Oper} (hq : noDefer o = true) {a : Act} {w : World} {K : Act → World → Prop} {Q : Exit → Act → World → Prop} (h : o.wp P a w K Q) : o.wpIn (Fence.wide.inRound l) n P a w K Q := by
  refine ⟨fun f _ => trivial, ?_⟩
  rw [Oper.semAt_eq _ _ _ (noDefer_ne hq)]
  unfold Oper.wp at h
  cases hr : (execOp a.eval o).run P w with
  | ok x w' =>
    rw [hr] at h
    cases x with
    | enter f args => exact ⟨(fun hd => by cases hd), CallsIn.inRound l ((callsIn_wide (n := n - 1)).2 h)⟩
    | row row args => exact ⟨(fun hd => by cases hd), fun c cs _ => let ⟨v, w1, r, s⟩ := h c cs; ⟨v, w1, r, (stepsIn_wide (P := P)).2 s⟩⟩
    | round => exact h.elim
    | _ => exact h
  | halt x w' =>
    rw [hr] at h
    cases x <;> exact h
theorem any_wide {l n : Nat} {P : Program} {ops : Array Oper} {Q : Exit → Act → World → Prop} {md : Region.Mode} (hnl : ¬ LetsOut Q) (hq : ∀ o ∈ ops.toList, noDefer o = true) : ∀ (m : Nat) (listed : Array Bool) (a : Act) (w : World), wpAny P md ops Q m listed a w → wpAnyIn (Fence.wide.inRound l) n P md ops Q m listed a w := by
  intro m
  induction m with
  | zero => intro listed a w h; exact h
  | succ m ih =>
    intro listed a w h
    refine ⟨h.1, fun i hi => ?_⟩
    have h2 := h.2 i hi
    refine wpOpIn_mono (fun a w => ih _ a w) ?_
    unfold wpOp at h2
    unfold wpOpIn
    cases ho : ops[i]? with
    | none => simpa [ho] using h2
    | some o =>
      have hqo : noDefer o = true := hq o (by
        have := Array.mem_of_getElem? ho
        exact Array.mem_def.1 this)
      simp only [ho] at h2 ⊢
      split
      · rename_i hw; simp only [hw, if_true] at h2; exact wide_in hqo (h2.resolve_right fun h => hnl h.2)
      · rename_i hw
        simp only [hw] at h2
        exact ⟨fun f _ => trivial, h2⟩
section
variable {n : Nat} {P : Program} {l : List Oper} {Q' : Exit → Act → World → Prop}
theorem St.doorR {lp id : Nat} {a : Act} {w : World} (C : World → Prop) (ks : List Kd) (A : List Nat) (R : List Nat) (hm : P.follows .mixedOrders = true) (hqq : l.all noDefer = true) (hs : stat l.toArray ks A = true) (hR : List.range l.length = R)
    (h : St P l ks A C (Q' .normal) R a w.drew) : (Code.region id l.toArray true).wpIn (Fence.wide.inRound lp) n P Q' a w := by
  refine wpIn_mono (Q := only (Q' .normal)) ?_ (fun e a w ⟨he, hq⟩ => he ▸ hq)
  refine wpIn_region_any hm ?_
  subst hR
  have h2 := h List.nodup_range (fun k o e hk _ _ _ => List.mem_range.2 (by have := lt_size hk; simpa using this)) (by simp) (stat_spec hs)
  have := wpAny_of_all (P := P) (C := C) (stat_spec hs) (Q' .normal) l.length (List.range l.length) (Array.replicate l.length false) a w.drew List.nodup_range (by simp) (by simp) (by simp)
    (fun k hk => by simp at hk; simp [hk]) (by simpa using h2)
  have h3 := any_wide (l := lp) (n := n) (only_lets _) (fun o ho => List.all_eq_true.1 hqq o (by simpa using ho)) _ _ _ _ this
  simpa using h3
end
end Go.Ord
namespace Go.Aig
def rop (f : Gra → Nat → Nat → Res) (s : Mk) (a b : Nat) : Mk × Nat := rstep s (f s.1 a b)
def Full2 (f : Gra → Nat → Nat → Res) : Prop := ∀ (G : Gra), Ok G → ∀ a b, a < 2 * G.nodes.length → b < 2 * G.nodes.length → RFull G (f G a b)
theorem full_and : Full2 and := fun _ h _ _ ha hb => and_full h ha hb
theorem eachF_snoc (op : Mk → Nat → Nat → Mk × Nat) (s : Mk) (l : List (Nat × Nat)) (p : Nat × Nat) : eachF op s (l ++ [p]) = eachS op (eachF op s l) p := by
  unfold eachF; rw [List.foldl_append]; rfl
theorem zip_lt {x y : List Nat} {n : Nat} (hx : ∀ r ∈ x, r < n) (hy : ∀ r ∈ y, r < n) : ∀ p ∈ x.zip y, p.1 < n ∧ p.2 < n := fun p hp => by
  obtain ⟨a, b⟩ := p
  exact ⟨hx _ (List.of_mem_zip hp).1, hy _ (List.of_mem_zip hp).2⟩
end Go.Aig
namespace Go.Proofs.YtehljgigebhddaaGreat
open Go.RowKit Go.Mem Go.Aig
/-- the blocks around a loop that makes a word: m the maker, X what else is written, B the first block behind, ob the word's box, mb the maker's box -/
structure EF (w : World) (m : Nat) (X F : List Nat) (B ob mb : Nat) : Prop where
  low : ∀ k ∈ m :: (X ++ F), k < w.heap.size
  ob1 : w.heap.size ≤ ob
  ob2 : ob < B
  mb1 : w.heap.size ≤ mb
  mb2 : mb < B
  ne : ob ≠ mb
  mX : m ∉ X
  XF : ∀ k ∈ X, k ∉ F
/-- what is known between two rounds of a loop that makes a word -/
structure EI (w : World) (g m : Nat) (G : Gra) (X F : List Nat) (B ob mb n : Nat) (R : Mk) (out : List Nat) (W : World) (v : Value) (P : Mk) (l : List Nat) (F' : List Nat) : Prop where
  sim : Sim G P R
  out : R.2 = 0 → l = out
  len : l.length = n
  all : ∀ r ∈ l, r < 2 * P.1.nodes.length
  mem : MIn W g m P F'
  ch : Ch (m :: (X ++ F)) w W
  own : ∀ k ∈ F', k ∈ F ∨ B + 2 ≤ k
  map : F'[2]? = F[2]?
  ob : blk W ob [v]
  mb : blk W mb [.pointer (some ⟨m, 0, none⟩)]
  row : row W 52 1 v l.length (refsCells l)
  fresh : ∀ k, v.ownBlock = some k → B + 2 ≤ k ∧ k ∉ F'
def Kok (w : World) (m : Nat) (X F : List Nat) (B ob : Nat) (K : List Nat) : Prop := ∀ k ∈ K, (k < w.heap.size ∧ k ∉ m :: (X ++ F)) ∨ (w.heap.size ≤ k ∧ k < B ∧ k ≠ ob)
theorem _root_.Go.Books.trans {B : Nat} {a b c : World} (h : Books B a b) (h' : Books B b c) : Books B a c := ⟨h'.1.trans h.1, h'.2.trans h.2⟩
theorem _root_.Go.Kept.trans {K : List Nat} {a b c : World} (h : Kept K a b) (h' : Kept K b c) : Kept K a c := fun k hk => (h' k hk).trans (h k hk)
theorem Kok.ch0 {w A A' : World} {m : Nat} {X F : List Nat} {B ob : Nat} {K : List Nat} (h : Kok w m X F B ob K) (hw : w.heap.size ≤ B) (hz : B + 2 ≤ A.heap.size) (hc : Ch [] A A') : Kept K A A' :=
  Kept.of_ch hc fun k hk => ⟨by rcases h k hk with e | e <;> omega, by simp⟩
section
variable {w : World} {g m : Nat} {G : Gra} {X F : List Nat} {B ob mb n : Nat} {R : Mk} {out : List Nat} {A A' : World} {v : Value} {P : Mk} {l F' : List Nat}
theorem EI.sep (h : EI w g m G X F B ob mb n R out A v P l F') (e : EF w m X F B ob mb) : ∀ k ∈ m :: (X ++ F'), (k ∈ m :: (X ++ F) ∧ k < w.heap.size) ∨ (k ∈ F' ∧ B + 2 ≤ k) := fun k hk => by
  simp only [List.mem_cons, List.mem_append] at hk
  rcases hk with rfl | hk | hk
  · exact .inl ⟨by simp, e.low _ (by simp)⟩
  · exact .inl ⟨by simp [hk], e.low _ (by simp [hk])⟩
  · rcases h.own k hk with h1 | h1
    · exact .inl ⟨by simp [h1], e.low _ (by simp [h1])⟩
    · exact .inr ⟨hk, h1⟩
theorem EI.same (h : EI w g m G X F B ob mb n R out A v P l F') (e : EF w m X F B ob mb) (hc : Ch [B, B + 1] A A') : EI w g m G X F B ob mb n R out A' v P l F' := by
  have ho := e.ob1; have ho2 := e.ob2; have hm1 := e.mb1; have hm2 := e.mb2
  have hs := h.sep e
  refine ⟨h.sim, h.out, h.len, h.all, h.mem.same hc ?_, h.ch.trans hc (by intro k hk; simp at hk; omega), h.own, h.map, h.ob.ch hc (by simp; omega), h.mb.ch hc (by simp; omega), h.row.ch hc ?_, h.fresh⟩
  · intro k hk
    have := hs k (by simp only [List.mem_cons, List.mem_append] at hk ⊢; rcases hk with e | e <;> simp [e])
    simp; omega
  · intro k hk
    have := (h.fresh k hk).1
    simp; omega
theorem EI.ch0 (h : EI w g m G X F B ob mb n R out A v P l F') (e : EF w m X F B ob mb) (hc : Ch [] A A') : EI w g m G X F B ob mb n R out A' v P l F' := h.same e (hc.mono (by simp))
theorem EI.notX {bc : Nat} (h : EI w g m G [bc] F B ob mb n R out A v P l F') (e : EF w m [bc] F B ob mb) : bc ∉ m :: F' := fun hk => by
  have h1 := e.mX
  have h2 := e.XF bc (by simp)
  have h3 := e.low bc (by simp)
  have h4 := e.ob1; have h5 := e.ob2
  simp only [List.mem_cons] at hk
  rcases hk with rfl | hk
  · simp at h1
  · rcases h.own bc hk with h6 | h6
    · exact h2 h6
    · omega
theorem EI.notM (h : EI w g m G X F B ob mb n R out A v P l F') (e : EF w m X F B ob mb) : mb ∉ F' := fun hk => by
  have h1 := e.mb1; have h2 := e.mb2
  have := h.sep e mb (by simp [hk])
  omega
theorem EI.notR (h : EI w g m G X F B ob mb n R out A v P l F') (e : EF w m X F B ob mb) {k : Nat} (hk : k < w.heap.size) (hn : k ∉ m :: (X ++ F)) : k ∉ F' := fun hk2 => by
  have h1 := e.mb1; have h2 := e.mb2
  rcases h.sep e k (by simp [hk2]) with h3 | h3
  · exact hn h3.1
  · omega
/-- a step of the maker -/
theorem EI.more (h : EI w g m G X F B ob mb n R out A v P l F') (e : EF w m X F B ob mb) (hz : B + 2 ≤ A.heap.size) {P' R' : Mk} {F1 : List Nat} (hm : MIn A' g m P' F1) (hc : Ch (m :: (X ++ F')) A A') (hF : ∀ k ∈ F1, k ∈ F' ∨ A.heap.size ≤ k) (hmap : F1[2]? = F'[2]?)
    (hs : Sim G P' R') (hext : Ext P.1 P'.1) (hr : R.2 ≠ 0 → R'.2 ≠ 0) : Books B A A' ∧ EI w g m G X F B ob mb n R' out A' v P' l F1 ∧ ∀ K, Kok w m X F B ob K → Kept K A A' := by
  have ho := e.ob1; have ho2 := e.ob2; have hm1 := e.mb1; have hm2 := e.mb2
  have hsep := h.sep e
  have hown : ∀ k, v.ownBlock = some k → k < A.heap.size := fun k hk => (h.row.lt k hk).2
  have hcz := hc.size
  refine ⟨Books.of_ch hc hz (fun k hk => by have := hsep k hk; omega), ⟨hs, fun hz => h.out ?_, h.len, fun r hr => hext.lt (h.all r hr), hm, h.ch.trans hc (fun k hk => (hsep k hk).imp (fun e => e.1) (fun e => by omega)), fun k hk => ?_, hmap.trans h.map, h.ob.ch hc (fun hk => by have := hsep _ hk; omega), h.mb.ch hc (fun hk => by have := hsep _ hk; omega), h.row.ch hc (fun k hk hk2 => ?_), fun k hk => ⟨(h.fresh k hk).1, fun hk2 => ?_⟩⟩, fun K hK => Kept.of_ch hc (fun k hk => ?_)⟩
  · by_cases h0 : R.2 = 0
    · exact h0
    · exact absurd hz (hr h0)
  · rcases hF k hk with h1 | h1
    · exact h.own k h1
    · exact .inr (by omega)
  · have h1 := h.fresh k hk
    rcases hsep k hk2 with h2 | h2
    · omega
    · exact h1.2 h2.1
  · rcases hF k hk2 with h1 | h1
    · exact (h.fresh k hk).2 h1
    · have := hown k hk; omega
  · rcases hK k hk with ⟨h1, h2⟩ | ⟨h1, h2, h3⟩
    · have h4 := h.ch.size
      refine ⟨by omega, fun hk2 => ?_⟩
      rcases hsep k hk2 with h5 | h5
      · exact h2 h5.1
      · omega
    · refine ⟨by omega, fun hk2 => ?_⟩
      have := hsep k hk2; omega
/-- a reference is appended -/
theorem EI.app {va : Option Addr} {vc : Nat} (h : EI w g m G X F B ob mb n R out A (.slice va l.length vc) P l F') (e : EF w m X F B ob mb) (hz : B + 2 ≤ A.heap.size) {r : Nat} {o : Obj} {w4 : World} {gb gc : Nat} (hrow : Go.Mem.row w4 52 1 (.slice (some ⟨gb, 0, none⟩) (l.length + 1) gc) (l.length + 1) (refsCells l ++ [.int .i64 r]))
    (hc4 : Ch (Value.slice va l.length vc).ownBlock.toList (A.alloc o) w4) (hf4 : ∀ k, (Value.slice (some ⟨gb, 0, none⟩) (l.length + 1) gc).ownBlock = some k → (Value.slice va l.length vc).ownBlock = some k ∨ (A.alloc o).heap.size ≤ k) (hr : r < 2 * P.1.nodes.length) {out' : List Nat} (hout : R.2 = 0 → out' = out ++ [r]) :
    Books B A (w4.setCell ⟨ob, 0, none⟩ (.slice (some ⟨gb, 0, none⟩) (l.length + 1) gc)) ∧ EI w g m G X F B ob mb (n + 1) R out' (w4.setCell ⟨ob, 0, none⟩ (.slice (some ⟨gb, 0, none⟩) (l.length + 1) gc)) (.slice (some ⟨gb, 0, none⟩) (l.length + 1) gc) P (l ++ [r]) F' ∧ ∀ K, Kok w m X F B ob K → Kept K A (w4.setCell ⟨ob, 0, none⟩ (.slice (some ⟨gb, 0, none⟩) (l.length + 1) gc)) := by
  have ho := e.ob1; have ho2 := e.ob2; have hm1 := e.mb1; have hm2 := e.mb2
  have hsep := h.sep e
  have hfresh := h.fresh
  have hownlt : ∀ k, (Value.slice va l.length vc).ownBlock = some k → k < A.heap.size := fun k hk => (h.row.lt k hk).2
  have hA : Ch (Value.slice va l.length vc).ownBlock.toList A w4 := ((Ch.refl _ A).alloc o).trans hc4 (fun k hk => .inl hk)
  have hA5 : Ch ((Value.slice va l.length vc).ownBlock.toList ++ [ob]) A (w4.setCell ⟨ob, 0, none⟩ (.slice (some ⟨gb, 0, none⟩) (l.length + 1) gc)) := (hA.mono (fun k hk => .inl (List.mem_append_left _ hk))).setCell (.inl (by simp)) _
  have hL : ∀ k ∈ (Value.slice va l.length vc).ownBlock.toList ++ [ob], (B + 2 ≤ k ∧ k ∉ F') ∨ k = ob := fun k hk => by
    simp only [List.mem_append, Option.mem_toList, List.mem_singleton] at hk
    exact hk.imp (fun e => hfresh k e) id
  have hgb : (B + 2 ≤ gb ∧ gb ∉ F') := by
    rcases hf4 gb rfl with h1 | h1
    · exact hfresh gb h1
    · rw [World.size_alloc] at h1
      exact ⟨by omega, fun hk => by have := GIn.lt h.mem.gin gb hk; omega⟩
  have hnot : ∀ k ∈ m :: (X ++ F'), k ∉ (Value.slice va l.length vc).ownBlock.toList ++ [ob] := fun k hk hk2 => by
    have h1 := hsep k hk
    rcases hL k hk2 with h2 | h2
    · rcases h1 with h1 | h1
      · omega
      · exact h2.2 h1.1
    · omega
  refine ⟨Books.of_ch hA5 hz (fun k hk => by have := hL k hk; omega), ⟨h.sim, fun hz0 => ?_, by simp [h.len], fun q hq => ?_, h.mem.same hA5 (fun k hk => hnot k (by simp only [List.mem_cons, List.mem_append] at hk ⊢; rcases hk with e | e <;> simp [e])), h.ch.trans hA5 (fun k hk => .inr (by have := hL k hk; omega)), h.own, h.map, (h.ob.ch hA (fun hk => by have := (hfresh ob (by simpa using hk)).1; omega)).set (i := 0) _, (h.mb.ch hA (fun hk => by have := (hfresh mb (by simpa using hk)).1; omega)).other (by exact e.ne.symm) _, ?_, fun k hk => ?_⟩, fun K hK => Kept.of_ch hA5 (fun k hk => ?_)⟩
  · rw [hout hz0, h.out hz0]
  · simp only [List.mem_append, List.mem_singleton] at hq
    rcases hq with hq | rfl
    · exact h.all q hq
    · exact hr
  · rw [show refsCells (l ++ [r]) = refsCells l ++ [.int .i64 r] from by simp [refsCells], List.length_append]
    refine hrow.ch (F := [ob]) ((Ch.refl _ _).setCell (by simp) _) (fun k hk => ?_)
    cases hk
    simp; omega
  · cases hk
    exact hgb
  · have h4 := h.ch.size
    rcases hK k hk with ⟨h1, h2⟩ | ⟨h1, h2, h3⟩
    · refine ⟨by omega, fun hk2 => ?_⟩
      have := hL k hk2; omega
    · refine ⟨by omega, fun hk2 => ?_⟩
      have := hL k hk2; omega
/-- the end of such a loop -/
theorem EI.done (h : EI w g m G X F B ob mb n R out A v P l F') (e : EF w m X F B ob mb) (o : Obj) : MVo w g m P X F v l (A.putObj B o) := by
  have ho := e.ob1; have ho2 := e.ob2
  have hcD : Ch [B] A (A.putObj B o) := ch_put (by simp)
  have hsep := h.sep e
  refine ⟨F', h.mem.same hcD (fun k hk => ?_), h.ch.trans hcD (fun k hk => by simp at hk; omega), fun k hk => (h.own k hk).imp id (fun e => by omega), h.map, h.row.ch hcD (fun k hk => by have := (h.fresh k hk).1; simp; omega), fun k hk => ?_⟩
  · have := hsep k (by simp only [List.mem_cons, List.mem_append] at hk ⊢; rcases hk with e | e <;> simp [e])
    simp; omega
  · obtain ⟨f1, f2⟩ := h.fresh k hk
    have := e.low m (by simp)
    exact ⟨by omega, f2, by omega⟩
end
theorem MVo.to {w w' : World} {g m : Nat} {P : Mk} {F : List Nat} {v : Value} {l : List Nat} (h : MVo w g m P [] F v l w') : MTo w g m P F w' := by
  obtain ⟨F', h1, h2, h3, h4, _⟩ := h
  exact ⟨F', h1, h2, h3, h4⟩
/-- what is known between two rounds of a loop that makes a reference -/
structure EL (w : World) (g m : Nat) (G : Gra) (X F : List Nat) (B ob mb : Nat) (R : Mk) (out : Nat) (W : World) (P : Mk) (r : Nat) (F' : List Nat) : Prop where
  sim : Sim G P R
  out : R.2 = 0 → r = out
  lt : r < 2 * P.1.nodes.length
  mem : MIn W g m P F'
  ch : Ch (m :: (X ++ F)) w W
  own : ∀ k ∈ F', k ∈ F ∨ B + 2 ≤ k
  map : F'[2]? = F[2]?
  ob : blk W ob [.int .i64 r]
  mb : blk W mb [.pointer (some ⟨m, 0, none⟩)]
section
variable {w : World} {g m : Nat} {G : Gra} {X F : List Nat} {B ob mb : Nat} {R : Mk} {out : Nat} {A A' : World} {P : Mk} {r : Nat} {F' : List Nat}
theorem EL.sep (h : EL w g m G X F B ob mb R out A P r F') (e : EF w m X F B ob mb) : ∀ k ∈ m :: (X ++ F'), (k ∈ m :: (X ++ F) ∧ k < w.heap.size) ∨ (k ∈ F' ∧ B + 2 ≤ k) := fun k hk => by
  simp only [List.mem_cons, List.mem_append] at hk
  rcases hk with rfl | hk | hk
  · exact .inl ⟨by simp, e.low _ (by simp)⟩
  · exact .inl ⟨by simp [hk], e.low _ (by simp [hk])⟩
  · rcases h.own k hk with h1 | h1
    · exact .inl ⟨by simp [h1], e.low _ (by simp [h1])⟩
    · exact .inr ⟨hk, h1⟩
theorem EL.same (h : EL w g m G X F B ob mb R out A P r F') (e : EF w m X F B ob mb) (hc : Ch [B, B + 1] A A') : EL w g m G X F B ob mb R out A' P r F' := by
  have ho := e.ob1; have ho2 := e.ob2; have hm1 := e.mb1; have hm2 := e.mb2
  have hs := h.sep e
  refine ⟨h.sim, h.out, h.lt, h.mem.same hc ?_, h.ch.trans hc (by intro k hk; simp at hk; omega), h.own, h.map, h.ob.ch hc (by simp; omega), h.mb.ch hc (by simp; omega)⟩
  intro k hk
  have := hs k (by simp only [List.mem_cons, List.mem_append] at hk ⊢; rcases hk with e | e <;> simp [e])
  simp; omega
theorem EL.ch0 (h : EL w g m G X F B ob mb R out A P r F') (e : EF w m X F B ob mb) (hc : Ch [] A A') : EL w g m G X F B ob mb R out A' P r F' := h.same e (hc.mono (by simp))
theorem EL.more (h : EL w g m G X F B ob mb R out A P r F') (e : EF w m X F B ob mb) (hz : B + 2 ≤ A.heap.size) {P' R' : Mk} {F1 : List Nat} (hm : MIn A' g m P' F1) (hc : Ch (m :: (X ++ F')) A A') (hF : ∀ k ∈ F1, k ∈ F' ∨ A.heap.size ≤ k) (hmap : F1[2]? = F'[2]?)
    (hs : Sim G P' R') (hext : Ext P.1 P'.1) (hr : R.2 ≠ 0 → R'.2 ≠ 0) : Books B A A' ∧ EL w g m G X F B ob mb R' out A' P' r F1 ∧ ∀ K, Kok w m X F B ob K → Kept K A A' := by
  have ho := e.ob1; have ho2 := e.ob2; have hm1 := e.mb1; have hm2 := e.mb2
  have hsep := h.sep e
  have hcz := hc.size
  refine ⟨Books.of_ch hc hz (fun k hk => by have := hsep k hk; omega), ⟨hs, fun hz => h.out ?_, hext.lt h.lt, hm, h.ch.trans hc (fun k hk => (hsep k hk).imp (fun e => e.1) (fun e => by omega)), fun k hk => ?_, hmap.trans h.map, h.ob.ch hc (fun hk => by have := hsep _ hk; omega), h.mb.ch hc (fun hk => by have := hsep _ hk; omega)⟩, fun K hK => Kept.of_ch hc (fun k hk => ?_)⟩
  · by_cases h0 : R.2 = 0
    · exact h0
    · exact absurd hz (hr h0)
  · rcases hF k hk with h1 | h1
    · exact h.own k h1
    · exact .inr (by omega)
  · rcases hK k hk with ⟨h1, h2⟩ | ⟨h1, h2, h3⟩
    · have h4 := h.ch.size
      refine ⟨by omega, fun hk2 => ?_⟩
      rcases hsep k hk2 with h5 | h5
      · exact h2 h5.1
      · omega
    · refine ⟨by omega, fun hk2 => ?_⟩
      have := hsep k hk2; omega
theorem EL.put (h : EL w g m G X F B ob mb R out A P r F') (e : EF w m X F B ob mb) (hz : B + 2 ≤ A.heap.size) {r' out' : Nat} (hr : r' < 2 * P.1.nodes.length) (hout : R.2 = 0 → r' = out') :
    Books B A (A.setCell ⟨ob, 0, none⟩ (.int .i64 r')) ∧ EL w g m G X F B ob mb R out' (A.setCell ⟨ob, 0, none⟩ (.int .i64 r')) P r' F' ∧ ∀ K, Kok w m X F B ob K → Kept K A (A.setCell ⟨ob, 0, none⟩ (.int .i64 r')) := by
  have ho := e.ob1; have ho2 := e.ob2; have hm1 := e.mb1; have hm2 := e.mb2
  have hsep := h.sep e
  have hA5 : Ch [ob] A (A.setCell ⟨ob, 0, none⟩ (.int .i64 r')) := (Ch.refl _ _).setCell (.inl (by simp)) _
  refine ⟨Books.of_ch hA5 hz (fun k hk => by simp at hk; omega), ⟨h.sim, hout, hr, h.mem.same hA5 (fun k hk => ?_), h.ch.trans hA5 (fun k hk => .inr (by simp at hk; omega)), h.own, h.map, h.ob.set (i := 0) _, h.mb.other (by exact e.ne.symm) _⟩, fun K hK => Kept.of_ch hA5 (fun k hk => ?_)⟩
  · have := hsep k (by simp only [List.mem_cons, List.mem_append] at hk ⊢; rcases hk with e | e <;> simp [e])
    simp; omega
  · have h4 := h.ch.size
    rcases hK k hk with ⟨h1, h2⟩ | ⟨h1, h2, h3⟩
    · exact ⟨by omega, by simp; omega⟩
    · exact ⟨by omega, by simp; omega⟩
theorem EL.done (h : EL w g m G [] F B ob mb R out A P r F') (e : EF w m [] F B ob mb) (o : Obj) : MTo w g m P F (A.putObj B o) := by
  have ho := e.ob1; have ho2 := e.ob2
  have hcD : Ch [B] A (A.putObj B o) := ch_put (by simp)
  have hsep := h.sep e
  refine ⟨F', h.mem.same hcD (fun k hk => ?_), h.ch.trans hcD (fun k hk => by simp at hk; omega), fun k hk => (h.own k hk).imp id (fun e => by omega), h.map⟩
  have := hsep k (by simp only [List.mem_cons, List.mem_append] at hk ⊢; rcases hk with e | e <;> simp [e])
  simp; omega
end
def ELe (w : World) (g m : Nat) (G : Gra) (X F : List Nat) (B ob mb : Nat) (R : Mk) (out : Nat) (W : World) : Prop := ∃ P r F', EL w g m G X F B ob mb R out W P r F'
def EIe (w : World) (g m : Nat) (G : Gra) (X F : List Nat) (B ob mb n : Nat) (R : Mk) (out : List Nat) (W : World) : Prop := ∃ v P l F', EI w g m G X F B ob mb n R out W v P l F'
theorem wp_named {P : Program} {c : Code} {Q : Exit → Act → World → Prop} {a : Act} {w : World} (h : ∀ W, W = w → c.wp P Q a W) : c.wp P Q a w := h w rfl
end Go.Proofs.YtehljgigebhddaaGreat
namespace Go.Proofs.YtehljgigebhddaaGreat
open Go.RowKit Go.Mem Go.Aig
attribute [local go_sem] Oper.semAt_some
section
variable {w : World} {g m : Nat} {G : Gra} {F : List Nat}
end
end Go.Proofs.YtehljgigebhddaaGreat
namespace Go.Aig
theorem rstep_zero {s : Mk} {R : Res} (h : (rstep s R).1.2 = 0) : s.2 = 0 := by
  by_cases hs : s.2 = 0
  · exact hs
  · rw [rstep_bad hs] at h; exact h
theorem sumF_snoc (n : Nat) (s : Mk) (l : List (Nat × Nat)) (c : Nat) (p : Nat × Nat) : sumF n s (l ++ [p]) c = sumS n (sumF n s l c) p := by
  unfold sumF; rw [List.foldl_append]; rfl
end Go.Aig
namespace Go.Proofs.YtehljgigebhddaaGreat
open Go.RowKit Go.Mem Go.Aig
attribute [local go_sem] Oper.semAt_some
theorem fnvssum1 : Fnv 348 := fnv_of Tryz.func348 (by simp [Tryz.f348]) (by simp [Tryz.f348])
theorem wpIn_named {F : Fence} {n : Nat} {P : Program} {c : Code} {Q : Exit → Act → World → Prop} {a : Act} {w : World} (h : ∀ W, W = w → c.wpIn F n P Q a W) : c.wpIn F n P Q a w := h w rfl
section
variable {w : World} {g m : Nat} {G : Gra} {F : List Nat}
theorem And_r {F : List Nat} {G : Gra} (h : GIn w g G F) {a b : Nat} (ha : a < 2 * G.nodes.length) (hb : b < 2 * G.nodes.length) : Calls Tryz.prog 103 #[.pointer (some ⟨g, 0, none⟩), .int .i64 a, .int .i64 b] w fun e w' => e = .returned (.tuple #[.int .i64 (and G a b).2.1, .int .i64 (and G a b).2.2]) ∧ GTo w g (and G a b).1 F w' := by
  have hr := h.ok.room; have hm := h.ok.most
  have := And_g h a b (by omega) (by omega)
  rw [doAnd_r ha hb] at this
  exact this
theorem Or_r {F : List Nat} {G : Gra} (h : GIn w g G F) {a b : Nat} (ha : a < 2 * G.nodes.length) (hb : b < 2 * G.nodes.length) : Calls Tryz.prog 116 #[.pointer (some ⟨g, 0, none⟩), .int .i64 a, .int .i64 b] w fun e w' => e = .returned (.tuple #[.int .i64 (rOr G a b).2.1, .int .i64 (rOr G a b).2.2]) ∧ GTo w g (rOr G a b).1 F w' := by
  have hr := h.ok.room; have hm := h.ok.most
  have := Or_g h a b (by omega) (by omega)
  rw [doOr_r ha hb] at this
  exact this
/-- between two rounds of sum -/
structure ES (w : World) (g m : Nat) (G : Gra) (bc : Nat) (F : List Nat) (B ob mb n : Nat) (R : Mk × List Nat × Nat) (W : World) (v : Value) (P : Mk) (l F' : List Nat) (c : Nat) : Prop where
  ei : EI w g m G [bc] F B ob mb n R.1 R.2.1 W v P l F'
  cb : blk W bc [.int .i64 c]
  lt : c < 2 * P.1.nodes.length
  cR : R.1.2 = 0 → c = R.2.2
def ESe (w : World) (g m : Nat) (G : Gra) (bc : Nat) (F : List Nat) (B ob mb n : Nat) (R : Mk × List Nat × Nat) (W : World) : Prop := ∃ v P l F' c, ES w g m G bc F B ob mb n R W v P l F' c
theorem sumF_len (n : Nat) (s : Mk) (c : Nat) (l : List (Nat × Nat)) : (sumF n s l c).2.1.length = l.length := by
  have : ∀ (l : List (Nat × Nat)) (q : Mk × List Nat × Nat), (l.foldl (sumS n) q).2.1.length = q.2.1.length + l.length := by
    intro l
    induction l with
    | nil => intro q; rfl
    | cons p l ih =>
      intro q
      rw [List.foldl_cons, ih]
      unfold sumS
      dsimp only
      split <;> simp <;> omega
  have h := this l (s, [], c)
  simpa [sumF] using h
set_option maxRecDepth 100000 in
set_option maxHeartbeats 4000000 in
theorem ssum1_is (h : MIn w g m (G, 0) F)
    {x y : List Nat} {xa ya : Option Addr} (len xc yc : Nat) (hxl : x.length = len) (hyl : y.length = len) (hlen : len ≤ 1000) {bx b2 bc bg c0 : Nat} (hbx : w.cell? ⟨bx, 0, none⟩ = some (.slice xa len xc)) (hby : w.cell? ⟨b2, 0, none⟩ = some (.slice ya len yc)) (hbc : blk w bc [.int .i64 c0]) (hbg : w.cell? ⟨bg, 0, none⟩ = some (.pointer (some ⟨g, 0, none⟩)))
    (hc0l : c0 < 2 * G.nodes.length) (hbxF : bx ∉ m :: bc :: F) (hbgF : bg ∉ m :: bc :: F) (hbcF : bc ∉ m :: F) (hx : Sl w xa (x.map fun (r : Nat) => (r : Int))) (hy : Sl w ya (y.map fun (r : Nat) => (r : Int))) (hxa : ∀ k ∈ ablk xa, k ∉ m :: bc :: F ∧ k < w.heap.size) (hya : ∀ k ∈ ablk ya, k ∉ m :: bc :: F ∧ k < w.heap.size)
    (hxr : ∀ r ∈ x, r < 2 * G.nodes.length) (hyr : ∀ r ∈ y, r < 2 * G.nodes.length) :
    Calls Tryz.prog 348 (#[.pointer (some ⟨m, 0, none⟩)] ++ #[.pointer (some ⟨bx, 0, none⟩), .pointer (some ⟨b2, 0, none⟩), .pointer (some ⟨bc, 0, none⟩), .pointer (some ⟨bg, 0, none⟩)]) w fun e W' => ∃ v P l, e = .returned v ∧ Sim G P (sumF len (G, 0) (x.zip y) c0).1 ∧ ((sumF len (G, 0) (x.zip y) c0).1.2 = 0 → l = (sumF len (G, 0) (x.zip y) c0).2.1) ∧ MVo w g m P [bc] F v l W' := by
  show Calls Tryz.prog 348 #[.pointer (some ⟨m, 0, none⟩), .pointer (some ⟨bx, 0, none⟩), .pointer (some ⟨b2, 0, none⟩), .pointer (some ⟨bc, 0, none⟩), .pointer (some ⟨bg, 0, none⟩)] w _
  have hml := h.bk.lt
  have hFl := h.gin.lt
  have hok := h.gin.ok
  have hbclt := hbc.lt
  have hbglt := cell_lt hbg
  have hbxlt := cell_lt hbx
  have hbylt := cell_lt hby
  simp only at hbxlt hbylt hbglt
  have HPAIR := fun W => spairs_is (w := W) xa ya len xc len yc
  have H := Lib.hid h; clear h
  have HX := Lib.hid hx; clear hx
  have HY := Lib.hid hy; clear hy
  refine (callsIn_wide (n := 4)).1 ?_
  refine callsIn_of_wp_marks Tryz.func348 rfl trivial ?_ rfl
  simp only [Tryz.ntmps348, List.size_toArray, List.length_cons, List.length_nil, Nat.reduceAdd, Nat.reduceSub, Array.replicate_succ, Array.replicate_zero, List.push_toArray, List.append_toArray, List.nil_append, List.cons_append]
  refine wpIn_wide.2 ?_
  go_wp2_with fail
  refine (HPAIR _).mono ?_
  rintro e w' ⟨rfl, rfl⟩
  go_wp2_with fail
  refine wp_named fun W0 hW0 => ?_
  have hc0 : Ch [] w W0 := by rw [hW0]; exact ((((Ch.refl _ _).alloc _).alloc _).alloc _).alloc _
  have hz0 : W0.heap.size = w.heap.size + 4 := by rw [hW0]; simp
  have hbm : blk W0 w.heap.size [.pointer (some ⟨m, 0, none⟩)] := by rw [hW0]; exact (((blk.new' _ _ (by simp)).alloc _).alloc _).alloc _
  have hbo : blk W0 (w.heap.size + 1) [.slice none 0 0] := by rw [hW0]; exact ((blk.new' _ _ (by simp)).alloc _).alloc _
  have hb2 : blk W0 (w.heap.size + 2) [.slice xa len xc] := by rw [hW0]; exact (blk.new' _ _ (by simp)).alloc _
  have hb3 : blk W0 (w.heap.size + 3) [.slice ya len yc] := by rw [hW0]; exact blk.new' _ _ (by simp)
  clear hW0
  have hEF : EF w m [bc] F (w.heap.size + 4) (w.heap.size + 1) w.heap.size := ⟨fun k hk => by
    simp only [List.mem_cons, List.nil_append, List.cons_append] at hk
    rcases hk with rfl | rfl | hk
    · exact hml
    · exact hbclt
    · exact hFl k hk, by omega, by omega, by omega, by omega, by omega, by simp at hbcF ⊢; exact fun e => hbcF.1 e.symm, by simp at hbcF ⊢; exact hbcF.2⟩
  refine (wpIn_wide (n := 4)).1 ?_
  have hseq := spairs_seq W0 Fence.wide 3 trivial rfl (by omega) len xc yc hxl hyl (hb2.cell (i := 0) rfl) (hb3.cell (i := 0) rfl) (HX.out.keep fun k hk => hc0.block k (hxa k hk).2 (by simp)) (HY.out.keep fun k hk => hc0.block k (hya k hk).2 (by simp))
  have hKok : Kok w m [bc] F (w.heap.size + 4) (w.heap.size + 1) ((w.heap.size + 2) :: (w.heap.size + 3) :: (ablk xa ++ ablk ya)) := fun k hk => by
    simp only [List.mem_cons, List.mem_append] at hk
    rcases hk with rfl | rfl | hk | hk
    · exact .inr ⟨by omega, by omega, by omega⟩
    · exact .inr ⟨by omega, by omega, by omega⟩
    · exact .inl ⟨(hxa k hk).2, (hxa k hk).1⟩
    · exact .inl ⟨(hya k hk).2, (hya k hk).1⟩
  refine wpIn_rangeFunc_P (n := 4) (w.heap.size + 4) hz0 rfl (by omega) rfl trivial (fun args w => sfnvpairs1 args w) hseq ?kb (fun _ => rfl)
    (fun pre W => ESe w g m G bc F (w.heap.size + 4) (w.heap.size + 1) w.heap.size pre.length (sumF len (G, 0) pre c0) W)
    (fun _ => False) ?hi (fun _ _ h _ => h) ?h0 ?a1 ?assign ?body ?done (fun _ h _ _ => h.elim)
  case assign =>
    intro q x W K hK
    simp only [pairEnc]
    gi_wp2
    exact hK
  case kb =>
    intro k hk
    simp only [List.mem_cons, List.mem_append] at hk
    rcases hk with rfl | rfl | hk | hk
    · omega
    · omega
    · have := (hxa k hk).2; omega
    · have := (hya k hk).2; omega
  case hi =>
    rintro pre A A' ⟨v, P, l, F', c, h⟩ hc
    exact ⟨v, P, l, F', c, h.ei.same hEF hc, h.cb.ch hc (by simp; omega), h.lt, h.cR⟩
  case h0 =>
    refine ⟨.slice none 0 0, (G, 0), [], F, c0, ⟨Sim.start hok, fun _ => rfl, rfl, by simp, H.out.same hc0 (by simp), hc0.mono (by simp), fun k hk => .inl hk, rfl, hbo, hbm, ⟨rfl, .inl ⟨rfl, rfl⟩⟩, by simp [Value.ownBlock]⟩, hbc.ch hc0 (by simp), hc0l, fun _ => rfl⟩
  case body =>
    rintro q pre ⟨a, b⟩ W ⟨v, P, l, F', c, hES⟩ hWl hpx
    obtain ⟨hE, hcW, hcl, hcR⟩ := hES
    obtain ⟨va, vc, rfl⟩ := row.shape hE.row
    have hpm := List.IsPrefix.subset hpx (List.mem_append_right pre (List.mem_singleton.2 rfl))
    obtain ⟨ha0, hb0⟩ := zip_lt hxr hyr _ hpm
    have ha := hE.sim.ext.lt ha0
    have hb := hE.sim.ext.lt hb0
    have hln2 : pre.length + 1 ≤ len := by
      have h2 := hpx.length_le
      rw [List.length_append, List.length_zip] at h2
      simp at h2
      omega
    have hln : l.length ≤ 1000 := by have h1 := hE.len; omega
    have hol := sumF_len len (G, 0) c0 pre
    have hln3 := hE.len
    generalize hRR : sumF len (G, 0) pre c0 = RR at *
    obtain ⟨R, out, cR⟩ := RR
    dsimp only at hE hcR hol
    have HOL := Lib.hid hol; clear hol
    have HLN3 := Lib.hid hln3; clear hln3
    have hst := hE.sim.step (rXor_full hE.mem.gin.ok ha hb) (Y := rXor R.1 a b) (fun _ e => by rw [e])
    obtain ⟨Q, hQ⟩ : ∃ Q, Q = rXor P.1 a b := ⟨_, rfl⟩
    rw [← hQ] at hst
    have HQ := Lib.hid hQ; clear hQ
    have hc1 := hst.2.2.2.2.1.lt hcl
    have hst2 := hst.1.step (rXor_full hst.1.ok hst.2.1 hc1) (Y := rXor (sXor R a b).1.1 (sXor R a b).2 cR) (fun h0 e => by
      rw [e, hst.2.2.2.1 h0, hcR (rstep_zero h0)]; rfl)
    obtain ⟨Q2, hQ2⟩ : ∃ Q2, Q2 = rXor (mput P Q).1.1 (mput P Q).2 c := ⟨_, rfl⟩
    rw [← hQ2] at hst2
    have HQ2 := Lib.hid hQ2; clear hQ2
    have HX1 := sxor_is hE.mem ha hb
    rw [← HQ.out] at HX1
    have hbm0 := hE.mb.cell (i := 0) rfl
    have HE := Lib.hid hE; clear hE
    have HPX := Lib.hid hpx; clear hpx
    have HST := Lib.hid hst; clear hst
    have HST2 := Lib.hid hst2; clear hst2
    have HA := Lib.hid ha; clear ha
    have HB := Lib.hid hb; clear hb
    have HC1 := Lib.hid hc1; clear hc1
    have HCR := Lib.hid hcR; clear hcR
    have HRR := Lib.hid hRR; clear hRR
    have HCW := Lib.hid hcW; clear hcW
    have HCL := Lib.hid hcl; clear hcl
    clear hpm ha0 hb0 hb2 hb3 hseq HPAIR
    gi_wp2_with fail
    refine ⟨trivial, (CallsIn.inRound q ((callsIn_wide (n := _)).2 HX1)).mono ?_⟩
    rintro e w1 ⟨rfl, F1, hmt, hcm, hFm, hmm⟩
    obtain ⟨k1, k2, k3⟩ := HE.out.more hEF hWl hmt (hcm.mono (fun k hk => .inl (by simp only [List.mem_cons, List.cons_append, List.nil_append] at hk ⊢; rcases hk with e | e <;> simp [e]))) hFm hmm HST.out.1 HST.out.2.2.2.2.1 HST.out.2.2.2.2.2.2
    have hz1 : w.heap.size + 4 + 2 ≤ w1.heap.size := Nat.le_trans hWl hcm.size
    have hc_1 : blk w1 bc [.int .i64 c] := HCW.out.ch hcm (HE.out.notX hEF)
    have HE1 := Lib.hid k2; clear k2
    have HB1 := Lib.hid k1; clear k1
    have HK1 := Lib.hid k3; clear k3
    clear HX1 hcm hFm hmm hmt hbm0
    gi_wp2
    refine Ord.St.doorR (fun w' => w'.cell? ⟨w.heap.size + 1, 0, none⟩ = some (.slice va l.length vc)) [.ho, .rd, .fl, .rd, .ef, .ef, .ef, .ef] [0, 0, 0, 0, 14, 30, 63, 127] [0, 1, 2, 3, 4, 5, 6, 7] mixed (by kernel_rfl) (by kernel_rfl) rfl ?_
    obtain ⟨Wc, hWc⟩ : ∃ Wc, Wc = w1.drew := ⟨_, rfl⟩
    rw [← hWc]
    have hcur : Ch [] w1 Wc := by rw [hWc]; exact (Ch.refl _ _).drew
    clear hWc
    have hE := HE1.out.ch0 hEF hcur
    have hzc : w.heap.size + 4 + 2 ≤ Wc.heap.size := Nat.le_trans hz1 hcur.size
    have hbo := hE.ob
    have hbm := hE.mb.cell (i := 0) rfl
    have hcc := hc_1.ch hcur (by simp)
    have hcc0 := hcc.cell (i := 0) rfl
    have HX2 := sxor_is hE.mem HST.out.2.1 HC1.out
    rw [← HQ2.out] at HX2
    have HE := Lib.hid hE; clear hE
    have HB1 := Lib.hid (HB1.out.trans (Books.of_ch hcur hz1 (by simp)))
    have HK1 := Lib.hid (fun K (hK : Kok w m [bc] F (w.heap.size + 4) (w.heap.size + 1) K) => (HK1.out K hK).trans (hK.ch0 (by omega) hz1 hcur))
    have HCC := Lib.hid hcc; clear hcc
    clear hcur hc_1
    refine Ord.St.ho2 (T' := ?_) 0 [1, 2, 3, 4, 5, 6, 7] _ _ rfl (by kernel_rfl) rfl rfl rfl rfl ?_ (fun K w' hw' hk => ?_) ?_
    rotate_left
    · exact hbo.cell rfl
    · have q1 := hw'; go_step; exact hk
    refine Ord.St.rd2 (T' := ?_) 1 [2, 3, 4, 5, 6, 7] _ _ rfl (by kernel_rfl) rfl rfl rfl rfl (fun K hk => ?_) ?_
    rotate_left
    · go_step; exact hk
    refine Ord.St.fl2 (T' := ?_) 2 [3, 4, 5, 6, 7] _ _ rfl (by kernel_rfl) rfl rfl rfl rfl (fun K w' hk => ?_) ?_
    rotate_left
    · go_step; exact hk
    refine Ord.St.rd2 (T' := ?_) 3 [4, 5, 6, 7] _ _ rfl (by kernel_rfl) rfl rfl rfl rfl (fun K hk => ?_) ?_
    rotate_left
    · go_step; exact hk
    refine Ord.St.efC 4 [5, 6, 7] _ rfl (by kernel_rfl) (fun K hK => ?_)
    go_wp2_with fail
    refine HX2.mono ?_
    rintro e w2 ⟨rfl, F2, hmt, hcm, hFm, hmm⟩
    have hc_2 : blk w2 bc [.int .i64 c] := HCC.out.ch hcm (HE.out.notX hEF)
    obtain ⟨k1, k2, k3⟩ := HE.out.more hEF hzc hmt (hcm.mono (fun k hk => .inl (by simp only [List.mem_cons, List.cons_append, List.nil_append] at hk ⊢; rcases hk with e | e <;> simp [e]))) hFm hmm HST2.out.1 HST2.out.2.2.2.2.1 HST2.out.2.2.2.2.2.2
    have hz2 : w.heap.size + 4 + 2 ≤ w2.heap.size := Nat.le_trans hzc hcm.size
    have hrow3 := k2.row.ch ((Ch.refl [] w2).alloc (.cells #[.int .i64 (mput (mput P Q).1 Q2).2] 52)) (by simp)
    have hnew3 : blk (w2.alloc (.cells #[.int .i64 (mput (mput P Q).1 Q2).2] 52)) w2.heap.size [.int .i64 (mput (mput P Q).1 Q2).2] := blk.new' _ _ rfl
    replace hbo := k2.ob
    have hbx2 : w2.cell? ⟨bx, 0, none⟩ = some (.slice xa len xc) := (k2.ch.cell (p := ⟨bx, 0, none⟩) hbxlt (by simpa using hbxF)).trans hbx
    have hbx3 := (((Ch.refl [] w2).alloc (.cells #[.int .i64 (mput (mput P Q).1 Q2).2] 52)).cell (cell_lt hbx2) (by simp)).trans hbx2
    have hc_3 := hc_2.alloc (.cells #[.int .i64 (mput (mput P Q).1 Q2).2] 52)
    have HROW3 := Lib.hid hrow3; clear hrow3
    have HNEW3 := Lib.hid hnew3; clear hnew3
    have HE2 := Lib.hid k2; clear k2
    have HB2 := Lib.hid (HB1.out.trans k1); clear k1
    have HK2 := Lib.hid (fun K (hK : Kok w m [bc] F (w.heap.size + 4) (w.heap.size + 1) K) => (HK1.out K hK).trans (k3 K hK)); clear k3
    have HBX3 := Lib.hid hbx3; clear hbx3 hbx2
    have HC3 := Lib.hid hc_3; clear hc_3 hc_2
    clear HX2 hbm hcm hFm hmm hmt hcc0 HE HE1 HB1 HK1
    go_wp2_with fail
    refine ⟨rfl, hK _ _ ?_ ?_⟩
    · exact hbo.cell rfl
    clear hK K
    refine Ord.St.efC 5 [6, 7] _ rfl (by kernel_rfl) (fun K hK => ?_)
    go_wp2_with fail
    replace hbo := hbo.alloc (.cells #[.int .i64 (mput (mput P Q).1 Q2).2] 52)
    refine ⟨rfl, hK _ _ ?_ ?_⟩
    · exact hbo.cell rfl
    clear hK K
    refine Ord.St.ef 6 [7] _ rfl (by kernel_rfl) (fun K hK => ?_)
    go_wp2_with (at_builtin; go_loud (refine wpList_append_row slRefs rfl _ _ rfl (v := .slice va l.length vc) (n := l.length) (xs := refsCells l) rfl HROW3.out (ad := ⟨w2.heap.size, 0, none⟩) (m := 1) (c := 1) (news := [.int .i64 (mput (mput P Q).1 Q2).2]) rfl rfl (news_blk HNEW3.out) (by simp [Value.oneCell']) (by omega) (by omega) ?_; intro v' w4 hown4 hC4 hf4; obtain ⟨gb, gc, rfl⟩ := row.parts hown4 (by omega); have HO4 := Lib.hid hown4; clear hown4; have HC4 := Lib.hid hC4; clear hC4; have HF4 := Lib.hid hf4; clear hf4))
    replace hbo := hbo.ch HC4.out (fun hk => by have := (HE2.out.fresh _ (by simpa using hk)).1; omega)
    have k1 := hbo.cell (i := 0) rfl
    have k2 := hbo.frozen (i := 0)
    have hbx4 := (HC4.out.cell (p := ⟨bx, 0, none⟩) (cell_lt HBX3.out) (fun hk => by have := (HE2.out.fresh bx (by simpa using hk)).1; omega)).trans HBX3.out
    refine ⟨rfl, hK _ _ ?_⟩; clear hK K
    refine Ord.St.ef 7 [] _ rfl (by kernel_rfl) (fun K hK => ?_)
    go_wp2_with fail
    refine ⟨rfl, hK _ _ ?_⟩; clear hK K
    refine Ord.St.nil ?_
    obtain ⟨p1, p2, p3⟩ := HE2.out.app hEF hz2 HO4.out HC4.out HF4.out (r := (mput (mput P Q).1 Q2).2) HST2.out.2.1 (out' := out ++ [(sXor (sXor R a b).1 (sXor R a b).2 cR).2]) (fun hz0 => by rw [HST2.out.2.2.2.1 hz0]; rfl)
    have hc_5 := (HC3.out.ch HC4.out (fun hk => by have := (HE2.out.fresh _ (by simpa using hk)).1; omega)).other (p := ⟨w.heap.size + 1, 0, none⟩) (by show bc ≠ w.heap.size + 1; omega) (.slice (some ⟨gb, 0, none⟩) (l.length + 1) gc)
    have HP1 := Lib.hid (HB2.out.trans p1); clear p1
    have HP3 := Lib.hid (fun K (hK : Kok w m [bc] F (w.heap.size + 4) (w.heap.size + 1) K) => (HK2.out K hK).trans (p3 K hK)); clear p3
    have hm1 : w.heap.size + 4 + 2 ≤ (w4.setCell ⟨w.heap.size + 1, 0, none⟩ (.slice (some ⟨gb, 0, none⟩) (l.length + 1) gc)).heap.size := by
      have h1 := HC4.out.size
      simp [World.setCell] at h1 ⊢
      omega
    have HP2 := Lib.hid p2; clear p2
    have HC5 := Lib.hid hc_5; clear hc_5
    have HM1 := Lib.hid hm1; clear hm1
    clear HROW3 HNEW3 HBX3 HC3 HE2 HB2 HK2 HO4 HC4 HF4
    by_cases hlast : l.length + 1 < len
    · have hsum : sumS len (R, out, cR) (a, b) = ((sOr (sAnd (sAnd (sXor (sXor R a b).1 (sXor R a b).2 cR).1 a b).1 (sXor R a b).2 cR).1 (sAnd (sXor (sXor R a b).1 (sXor R a b).2 cR).1 a b).2 (sAnd (sAnd (sXor (sXor R a b).1 (sXor R a b).2 cR).1 a b).1 (sXor R a b).2 cR).2).1, out ++ [(sXor (sXor R a b).1 (sXor R a b).2 cR).2], (sOr (sAnd (sAnd (sXor (sXor R a b).1 (sXor R a b).2 cR).1 a b).1 (sXor R a b).2 cR).1 (sAnd (sXor (sXor R a b).1 (sXor R a b).2 cR).1 a b).2 (sAnd (sAnd (sXor (sXor R a b).1 (sXor R a b).2 cR).1 a b).1 (sXor R a b).2 cR).2).2) := by
        unfold sumS
        have h1 := HOL.out
        have h2 := HLN3.out
        rw [if_pos (by dsimp only; omega)]
      have hp1 := HST.out.2.1
      have hx1 : (sXor R a b).1.2 = 0 → (mput P Q).2 = (sXor R a b).2 := fun h0 => HST.out.2.2.2.1 h0
      have hx2 : (sXor (sXor R a b).1 (sXor R a b).2 cR).1.2 = 0 → c = cR := fun h0 => HCR.out (rstep_zero (rstep_zero h0))
      have hs2 : Sim G (mput (mput P Q).1 Q2).1 (sXor (sXor R a b).1 (sXor R a b).2 cR).1 := HST2.out.1
      have e1 : Ext P.1 (mput P Q).1.1 := HST.out.2.2.2.2.1
      have e2 : Ext (mput P Q).1.1 (mput (mput P Q).1 Q2).1.1 := HST2.out.2.2.2.2.1
      have ha3 := e2.lt (e1.lt HA.out)
      have hb3 := e2.lt (e1.lt HB.out)
      have hp3 := e2.lt hp1
      have hc3 := e2.lt (e1.lt HCL.out)
      have HSUM := Lib.hid hsum; clear hsum
      have HX1 := Lib.hid hx1; clear hx1
      have HX2 := Lib.hid hx2; clear hx2
      replace HP2 : Hid (EI w g m G [bc] F (w.heap.size + 4) (w.heap.size + 1) w.heap.size (pre.length + 1) (sXor (sXor R a b).1 (sXor R a b).2 cR).1 (out ++ [(sXor (sXor R a b).1 (sXor R a b).2 cR).2]) (w4.setCell ⟨w.heap.size + 1, 0, none⟩ (.slice (some ⟨gb, 0, none⟩) (l.length + 1) gc)) (.slice (some ⟨gb, 0, none⟩) (l.length + 1) gc) (mput (mput P Q).1 Q2).1 (l ++ [(mput (mput P Q).1 Q2).2]) F2) := HP2
      clear hp1 e1 e2
      gi_wp2
      clear k1 k2 hbo hbx4
      refine wpIn_named fun W5 hW5 => ?_
      rw [← hW5] at HP1 HP2 HP3 HC5 HM1
      clear hW5
      generalize hr2 : (mput (mput P Q).1 Q2).2 = r2 at *
      generalize hP2 : (mput (mput P Q).1 Q2).1 = P2 at *
      generalize hR2 : (sXor (sXor R a b).1 (sXor R a b).2 cR).1 = R2 at *
      generalize hrr : (sXor (sXor R a b).1 (sXor R a b).2 cR).2 = rr at *
      generalize hpR : (sXor R a b).2 = pR at *
      generalize hpp : (mput P Q).2 = pp at *
      have hx3 : R2.2 = 0 → pp = pR := fun h0 => HX1.out (by rw [← hR2] at h0; exact rstep_zero h0)
      have HX3 := Lib.hid hx3; clear hx3
      clear hr2 hP2 hR2 hrr hpR hpp HX1
      have hst3 := hs2.step (and_full hs2.ok ha3 hb3) (Y := and R2.1 a b) (fun _ e => by rw [e])
      obtain ⟨Q3, hQ3⟩ : ∃ Q3, Q3 = and P2.1 a b := ⟨_, rfl⟩
      rw [← hQ3] at hst3
      have HQ3 := Lib.hid hQ3; clear hQ3
      have hp4 := hst3.2.2.2.2.1.lt hp3
      have hc4 := hst3.2.2.2.2.1.lt hc3
      have hst4 := hst3.1.step (and_full hst3.1.ok hp4 hc4) (Y := and (sAnd R2 a b).1.1 pR cR) (fun h0 e => by rw [e, HX3.out (rstep_zero h0), HX2.out (rstep_zero h0)]; rfl)
      obtain ⟨Q4, hQ4⟩ : ∃ Q4, Q4 = and (mput P2 Q3).1.1 pp c := ⟨_, rfl⟩
      rw [← hQ4] at hst4
      have HQ4 := Lib.hid hQ4; clear hQ4
      have hbo4 := hst4.2.2.2.2.1.lt hst3.2.1
      have hst5 := hst4.1.step (rOr_full hst4.1.ok hbo4 hst4.2.1) (Y := rOr (sAnd (sAnd R2 a b).1 pR cR).1.1 (sAnd R2 a b).2 (sAnd (sAnd R2 a b).1 pR cR).2) (fun h0 e => by rw [e, hst4.2.2.2.1 h0, hst3.2.2.2.1 (rstep_zero h0)]; rfl)
      obtain ⟨Q5, hQ5⟩ : ∃ Q5, Q5 = rOr (mput (mput P2 Q3).1 Q4).1.1 (mput P2 Q3).2 (mput (mput P2 Q3).1 Q4).2 := ⟨_, rfl⟩
      rw [← hQ5] at hst5
      have HQ5 := Lib.hid hQ5; clear hQ5
      have HS3 := Lib.hid hst3; clear hst3
      have HS4 := Lib.hid hst4; clear hst4
      have HS5 := Lib.hid hst5; clear hst5
      have HA3 := Lib.hid ha3; clear ha3
      have HB3 := Lib.hid hb3; clear hb3
      have HP4 := Lib.hid hp4; clear hp4
      have HC4 := Lib.hid hc4; clear hc4
      have HBO4 := Lib.hid hbo4; clear hbo4
      clear hp3 hc3 HST HST2 HCL HC1 hs2
      refine Ord.St.doorR (fun w' => w'.cell? ⟨w.heap.size, 0, none⟩ = some (.pointer (some ⟨m, 0, none⟩))) [.ho, .rd, .fl, .fl, .ef, .fl, .fl, .ef, .fl] [0, 0, 0, 0, 14, 30, 30, 127, 255] [0, 1, 2, 3, 4, 5, 6, 7, 8] mixed (by kernel_rfl) (by kernel_rfl) rfl ?_
      obtain ⟨Wc, hWc⟩ : ∃ Wc, Wc = W5.drew := ⟨_, rfl⟩
      rw [← hWc]
      have hcur : Ch [] W5 Wc := by rw [hWc]; exact (Ch.refl _ _).drew
      clear hWc
      have hE := HP2.out.ch0 hEF hcur
      have hzc : w.heap.size + 4 + 2 ≤ Wc.heap.size := Nat.le_trans HM1.out hcur.size
      have hbm := hE.mb
      have hbk := hE.mem.bk
      have hbg1 : Wc.cell? ⟨bg, 0, none⟩ = some (.pointer (some ⟨g, 0, none⟩)) := (hE.ch.cell (p := ⟨bg, 0, none⟩) hbglt (by simpa using hbgF)).trans hbg
      have HX := And_r hE.mem.gin HA3.out HB3.out
      rw [← HQ3.out] at HX
      have HE := Lib.hid hE; clear hE
      have HB1 := Lib.hid (HP1.out.trans (Books.of_ch hcur HM1.out (by simp)))
      have HK1 := Lib.hid (fun K (hK : Kok w m [bc] F (w.heap.size + 4) (w.heap.size + 1) K) => (HP3.out K hK).trans (hK.ch0 (by omega) HM1.out hcur))
      have HCC := Lib.hid (HC5.out.ch hcur (by simp))
      clear hcur
      refine Ord.St.ho2 (T' := ?_) 0 [1, 2, 3, 4, 5, 6, 7, 8] _ _ rfl (by kernel_rfl) rfl rfl rfl rfl ?_ (fun K w' hw' hk => ?_) ?_
      rotate_left
      · exact hbm.cell rfl
      · have q1 := hw'; go_step; exact hk
      refine Ord.St.rd2 (T' := ?_) 1 [2, 3, 4, 5, 6, 7, 8] _ _ rfl (by kernel_rfl) rfl rfl rfl rfl (fun K hk => ?_) ?_
      rotate_left
      · go_step; exact hk
      refine Ord.St.fl2 (T' := ?_) 2 [3, 4, 5, 6, 7, 8] _ _ rfl (by kernel_rfl) rfl rfl rfl rfl (fun K w' hk => ?_) ?_
      rotate_left
      · go_step; exact hk
      refine Ord.St.fl2 (T' := ?_) 3 [4, 5, 6, 7, 8] _ _ rfl (by kernel_rfl) rfl rfl rfl rfl (fun K w' hk => ?_) ?_
      rotate_left
      · go_step; exact hk
      refine Ord.St.efC 4 [5, 6, 7, 8] _ rfl (by kernel_rfl) (fun K hK => ?_)
      go_wp2_with fail
      refine HX.mono ?_
      rintro e w6 ⟨rfl, F3, hg1, hc1, hF1, hm1⟩
      replace hbm := hbm.ch hc1 (fun hk => HE.out.notM hEF hk)
      replace hbk := hbk.ch hc1 HE.out.mem.apart
      have HPUT := sput_is hbk Q3.2.1 Q3.2.2
      clear HX hbg1
      go_wp2_with fail
      refine ⟨rfl, hK _ _ ?_ ?_⟩
      · exact hbm.cell rfl
      clear hK K
      refine Ord.St.fl2 (T' := ?_) 5 [6, 7, 8] _ _ rfl (by kernel_rfl) rfl rfl rfl rfl (fun K w' hk => ?_) ?_
      rotate_left
      · go_step; exact hk
      refine Ord.St.fl2 (T' := ?_) 6 [7, 8] _ _ rfl (by kernel_rfl) rfl rfl rfl rfl (fun K w' hk => ?_) ?_
      rotate_left
      · go_step; exact hk
      refine Ord.St.ef 7 [8] _ rfl (by kernel_rfl) (fun K hK => ?_)
      go_wp2_with fail
      refine HPUT.mono ?_
      rintro e w7 ⟨rfl, hbk2, hc2⟩
      obtain ⟨F3', hmt, hcm, hFm, hmm⟩ := MTo.of (P' := (mput P2 Q3).1) HE.out.mem ⟨F3, hg1, hc1, hF1, hm1⟩ (fun _ => hbk2) hc2
      have hcb := HCC.out.ch hcm (HE.out.notX hEF)
      obtain ⟨k1, k2, k3⟩ := HE.out.more hEF hzc hmt (hcm.mono (fun k hk => .inl (by simp only [List.mem_cons, List.cons_append, List.nil_append] at hk ⊢; rcases hk with e | e <;> simp [e]))) hFm hmm HS3.out.1 HS3.out.2.2.2.2.1 HS3.out.2.2.2.2.2.2
      have HZ7 := Lib.hid (show w.heap.size + 4 + 2 ≤ w7.heap.size from Nat.le_trans hzc hcm.size)
      have HE7 := Lib.hid k2; clear k2
      have HB7 := Lib.hid (HB1.out.trans k1); clear k1
      have HK7 := Lib.hid (fun K (hK : Kok w m [bc] F (w.heap.size + 4) (w.heap.size + 1) K) => (HK1.out K hK).trans (k3 K hK)); clear k3
      have HC7 := Lib.hid hcb; clear hcb
      clear HPUT hbk hbm hg1 hc1 hF1 hm1 hc2 hbk2 hcm hFm hmm hmt HE HB1 HK1 HCC hzc
      go_wp2_with fail
      refine ⟨rfl, hK _ _ ?_⟩; clear hK K
      refine Ord.St.fl2 (T' := ?_) 8 [] _ _ rfl (by kernel_rfl) rfl rfl rfl rfl (fun K w' hk => ?_) ?_
      rotate_left
      · go_step; exact hk
      refine Ord.St.nil ?_
      clear HP1 HP2 HP3 HC5 HM1
      gi_wp2
      refine Ord.St.doorR (fun w' => w'.cell? ⟨w.heap.size, 0, none⟩ = some (.pointer (some ⟨m, 0, none⟩)) ∧ w'.cell? ⟨bg, 0, none⟩ = some (.pointer (some ⟨g, 0, none⟩))) [.ho, .ho, .fl, .ho, .rd, .fl, .rd, .ef, .fl, .fl, .ef, .ef, .fl, .fl, .ef, .ef] [0, 0, 0, 0, 0, 0, 0, 112, 240, 240, 1016, 2046, 4094, 4094, 16383, 32767] [0, 1, 2, 3, 4, 5, 6, 7, 8, 9, 10, 11, 12, 13, 14, 15] mixed (by kernel_rfl) (by kernel_rfl) rfl ?_
      obtain ⟨Wc, hWc⟩ : ∃ Wc, Wc = w7.drew := ⟨_, rfl⟩
      rw [← hWc]
      have hcur : Ch [] w7 Wc := by rw [hWc]; exact (Ch.refl _ _).drew
      clear hWc
      have hE := HE7.out.ch0 hEF hcur
      have hzc : w.heap.size + 4 + 2 ≤ Wc.heap.size := Nat.le_trans HZ7.out hcur.size
      have hbm := hE.mb
      have hbk := hE.mem.bk
      have hbg1 : Wc.cell? ⟨bg, 0, none⟩ = some (.pointer (some ⟨g, 0, none⟩)) := (hE.ch.cell (p := ⟨bg, 0, none⟩) hbglt (by simpa using hbgF)).trans hbg
      have HX := And_r hE.mem.gin HP4.out HC4.out
      rw [← HQ4.out] at HX
      have HE := Lib.hid hE; clear hE
      have HB1 := Lib.hid (HB7.out.trans (Books.of_ch hcur HZ7.out (by simp)))
      have HK1 := Lib.hid (fun K (hK : Kok w m [bc] F (w.heap.size + 4) (w.heap.size + 1) K) => (HK7.out K hK).trans (hK.ch0 (by omega) HZ7.out hcur))
      have hcc := HC7.out.ch hcur (by simp)
      have hcc0 := hcc.cell (i := 0) rfl
      have HCC := Lib.hid hcc; clear hcc
      clear hcur HE7 HB7 HK7 HC7 HZ7
      refine Ord.St.ho2 (T' := ?_) 0 [1, 2, 3, 4, 5, 6, 7, 8, 9, 10, 11, 12, 13, 14, 15] _ _ rfl (by kernel_rfl) rfl rfl rfl rfl ?_ (fun K w' hw' hk => ?_) ?_
      rotate_left
      · exact ⟨hbm.cell rfl, hbg1⟩
      · obtain ⟨q1, q2⟩ := hw'; go_step; exact hk
      refine Ord.St.ho2 (T' := ?_) 1 [2, 3, 4, 5, 6, 7, 8, 9, 10, 11, 12, 13, 14, 15] _ _ rfl (by kernel_rfl) rfl rfl rfl rfl ?_ (fun K w' hw' hk => ?_) ?_
      rotate_left
      · exact ⟨hbm.cell rfl, hbg1⟩
      · obtain ⟨q1, q2⟩ := hw'; go_step; exact hk
      refine Ord.St.fl2 (T' := ?_) 2 [3, 4, 5, 6, 7, 8, 9, 10, 11, 12, 13, 14, 15] _ _ rfl (by kernel_rfl) rfl rfl rfl rfl (fun K w' hk => ?_) ?_
      rotate_left
      · go_step; exact hk
      refine Ord.St.ho2 (T' := ?_) 3 [4, 5, 6, 7, 8, 9, 10, 11, 12, 13, 14, 15] _ _ rfl (by kernel_rfl) rfl rfl rfl rfl ?_ (fun K w' hw' hk => ?_) ?_
      rotate_left
      · exact ⟨hbm.cell rfl, hbg1⟩
      · obtain ⟨q1, q2⟩ := hw'; go_step; exact hk
      refine Ord.St.rd2 (T' := ?_) 4 [5, 6, 7, 8, 9, 10, 11, 12, 13, 14, 15] _ _ rfl (by kernel_rfl) rfl rfl rfl rfl (fun K hk => ?_) ?_
      rotate_left
      · go_step; exact hk
      refine Ord.St.fl2 (T' := ?_) 5 [6, 7, 8, 9, 10, 11, 12, 13, 14, 15] _ _ rfl (by kernel_rfl) rfl rfl rfl rfl (fun K w' hk => ?_) ?_
      rotate_left
      · go_step; exact hk
      refine Ord.St.rd2 (T' := ?_) 6 [7, 8, 9, 10, 11, 12, 13, 14, 15] _ _ rfl (by kernel_rfl) rfl rfl rfl rfl (fun K hk => ?_) ?_
      rotate_left
      · go_step; exact hk
      refine Ord.St.efC 7 [8, 9, 10, 11, 12, 13, 14, 15] _ rfl (by kernel_rfl) (fun K hK => ?_)
      go_wp2_with fail
      refine HX.mono ?_
      rintro e w8 ⟨rfl, F4, hg1, hc1, hF1, hm1⟩
      replace hbm := hbm.ch hc1 (fun hk => HE.out.notM hEF hk)
      replace hbk := hbk.ch hc1 HE.out.mem.apart
      replace hbg1 := (hc1.cell (cell_lt hbg1) (fun hk => HE.out.notR hEF hbglt hbgF hk)).trans hbg1
      have HPUT := sput_is hbk Q4.2.1 Q4.2.2
      clear HX hcc0
      go_wp2_with fail
      refine ⟨rfl, hK _ _ ?_ ?_⟩
      · exact ⟨hbm.cell rfl, hbg1⟩
      clear hK K
      refine Ord.St.fl2 (T' := ?_) 8 [9, 10, 11, 12, 13, 14, 15] _ _ rfl (by kernel_rfl) rfl rfl rfl rfl (fun K w' hk => ?_) ?_
      rotate_left
      · go_step; exact hk
      refine Ord.St.fl2 (T' := ?_) 9 [10, 11, 12, 13, 14, 15] _ _ rfl (by kernel_rfl) rfl rfl rfl rfl (fun K w' hk => ?_) ?_
      rotate_left
      · go_step; exact hk
      refine Ord.St.efC 10 [11, 12, 13, 14, 15] _ rfl (by kernel_rfl) (fun K hK => ?_)
      go_wp2_with fail
      refine HPUT.mono ?_
      rintro e w9 ⟨rfl, hbk2, hc2⟩
      obtain ⟨F4', hmt, hcm, hFm, hmm⟩ := MTo.of (P' := (mput (mput P2 Q3).1 Q4).1) HE.out.mem ⟨F4, hg1, hc1, hF1, hm1⟩ (fun _ => hbk2) hc2
      have hcb := HCC.out.ch hcm (HE.out.notX hEF)
      obtain ⟨k1, k2, k3⟩ := HE.out.more hEF hzc hmt (hcm.mono (fun k hk => .inl (by simp only [List.mem_cons, List.cons_append, List.nil_append] at hk ⊢; rcases hk with e | e <;> simp [e]))) hFm hmm HS4.out.1 HS4.out.2.2.2.2.1 HS4.out.2.2.2.2.2.2
      have hz9 : w.heap.size + 4 + 2 ≤ w9.heap.size := Nat.le_trans hzc hcm.size
      clear hbm hbg1
      have hbm := k2.mb
      replace hbk := k2.mem.bk
      have hbg1 : w9.cell? ⟨bg, 0, none⟩ = some (.pointer (some ⟨g, 0, none⟩)) := (k2.ch.cell (p := ⟨bg, 0, none⟩) hbglt (by simpa using hbgF)).trans hbg
      have HX := Or_r k2.mem.gin HBO4.out HS4.out.2.1
      rw [← HQ5.out] at HX
      have HE9 := Lib.hid k2; clear k2
      have HB9 := Lib.hid (HB1.out.trans k1); clear k1
      have HK9 := Lib.hid (fun K (hK : Kok w m [bc] F (w.heap.size + 4) (w.heap.size + 1) K) => (HK1.out K hK).trans (k3 K hK)); clear k3
      have HC9 := Lib.hid hcb; clear hcb
      clear HPUT hg1 hc1 hF1 hm1 hc2 hbk2 hcm hFm hmm hmt HE HB1 HK1 HCC hzc
      go_wp2_with fail
      refine ⟨rfl, hK _ _ ?_ ?_⟩
      · exact ⟨hbm.cell rfl, hbg1⟩
      clear hK K
      refine Ord.St.efC 11 [12, 13, 14, 15] _ rfl (by kernel_rfl) (fun K hK => ?_)
      go_wp2_with fail
      refine HX.mono ?_
      rintro e w10 ⟨rfl, F5, hg1, hc1, hF1, hm1⟩
      replace hbm := hbm.ch hc1 (fun hk => HE9.out.notM hEF hk)
      replace hbk := hbk.ch hc1 HE9.out.mem.apart
      replace hbg1 := (hc1.cell (cell_lt hbg1) (fun hk => HE9.out.notR hEF hbglt hbgF hk)).trans hbg1
      have HPUT := sput_is hbk Q5.2.1 Q5.2.2
      clear HX
      go_wp2_with fail
      refine ⟨rfl, hK _ _ ?_ ?_⟩
      · exact ⟨hbm.cell rfl, hbg1⟩
      clear hK K
      refine Ord.St.fl2 (T' := ?_) 12 [13, 14, 15] _ _ rfl (by kernel_rfl) rfl rfl rfl rfl (fun K w' hk => ?_) ?_
      rotate_left
      · go_step; exact hk
      refine Ord.St.fl2 (T' := ?_) 13 [14, 15] _ _ rfl (by kernel_rfl) rfl rfl rfl rfl (fun K w' hk => ?_) ?_
      rotate_left
      · go_step; exact hk
      refine Ord.St.ef 14 [15] _ rfl (by kernel_rfl) (fun K hK => ?_)
      go_wp2_with fail
      refine HPUT.mono ?_
      rintro e w11 ⟨rfl, hbk2, hc2⟩
      obtain ⟨F5', hmt, hcm, hFm, hmm⟩ := MTo.of (P' := (mput (mput (mput P2 Q3).1 Q4).1 Q5).1) HE9.out.mem ⟨F5, hg1, hc1, hF1, hm1⟩ (fun _ => hbk2) hc2
      have hcb := HC9.out.ch hcm (HE9.out.notX hEF)
      have hcb0 := hcb.cell (i := 0) rfl
      have hcb1 := hcb.frozen (i := 0)
      obtain ⟨k1, k2, k3⟩ := HE9.out.more hEF hz9 hmt (hcm.mono (fun k hk => .inl (by simp only [List.mem_cons, List.cons_append, List.nil_append] at hk ⊢; rcases hk with e | e <;> simp [e]))) hFm hmm HS5.out.1 HS5.out.2.2.2.2.1 HS5.out.2.2.2.2.2.2
      have hz11 : w.heap.size + 4 + 2 ≤ w11.heap.size := Nat.le_trans hz9 hcm.size
      clear hbm hbg1
      have hbm := k2.mb
      have hbg1 : w11.cell? ⟨bg, 0, none⟩ = some (.pointer (some ⟨g, 0, none⟩)) := (k2.ch.cell (p := ⟨bg, 0, none⟩) hbglt (by simpa using hbgF)).trans hbg
      have HE11 := Lib.hid k2; clear k2
      have HB11 := Lib.hid (HB9.out.trans k1); clear k1
      have HK11 := Lib.hid (fun K (hK : Kok w m [bc] F (w.heap.size + 4) (w.heap.size + 1) K) => (HK9.out K hK).trans (k3 K hK)); clear k3
      have HC11 := Lib.hid hcb; clear hcb
      clear HPUT hbk hg1 hc1 hF1 hm1 hc2 hbk2 hcm hFm hmm hmt HE9 HB9 HK9 HC9 hz9
      go_wp2_with fail
      refine ⟨rfl, hK _ _ ?_⟩; clear hK K
      refine Ord.St.ef 15 [] _ rfl (by kernel_rfl) (fun K hK => ?_)
      go_wp2_with fail
      refine ⟨rfl, hK _ _ ?_⟩; clear hK K
      refine Ord.St.nil ?_
      gi_wp2
      have hcS : Ch [bc] w11 (w11.setCell ⟨bc, 0, none⟩ (.int .i64 (mput (mput (mput P2 Q3).1 Q4).1 Q5).2)) := (Ch.refl _ _).setCell (by simp) _
      obtain ⟨k1, k2, k3⟩ := HE11.out.more hEF hz11 (HE11.out.mem.same hcS (fun k hk => by simp only [List.mem_singleton]; rintro rfl; exact HE11.out.notX hEF hk)) (hcS.mono (fun k hk => .inl (by simp at hk; simp [hk]))) (fun k hk => .inl hk) rfl HE11.out.sim (.refl _) (fun h => h)
      refine ⟨HB11.out.trans k1, ?_, (HK11.out _ hKok).trans (k3 _ hKok)⟩
      rw [sumF_snoc, HRR.out, HSUM.out]
      exact ⟨_, _, _, _, (mput (mput (mput P2 Q3).1 Q4).1 Q5).2, k2, HC11.out.set (i := 0) _, HS5.out.2.1, fun h0 => HS5.out.2.2.2.1 h0⟩
    · have hsum : sumS len (R, out, cR) (a, b) = ((sXor (sXor R a b).1 (sXor R a b).2 cR).1, out ++ [(sXor (sXor R a b).1 (sXor R a b).2 cR).2], cR) := by
        unfold sumS
        have h1 := HOL.out
        have h2 := HLN3.out
        rw [if_neg (by dsimp only; omega)]
      have HSUM := Lib.hid hsum; clear hsum
      gi_wp2
      refine ⟨HP1.out, ?_, HP3.out _ hKok⟩
      rw [sumF_snoc, HRR.out, HSUM.out]
      exact ⟨_, _, _, _, c, HP2.out, HC5.out, HST2.out.2.2.2.2.1.lt (HST.out.2.2.2.2.1.lt HCL.out), fun h0 => HCR.out (rstep_zero (rstep_zero h0))⟩
  case done =>
    rintro W ⟨v, P, l, F', c, hE, hcW, hcl, hcR⟩ hK _
    obtain ⟨va, vc, rfl⟩ := row.shape hE.row
    have c_o := hE.ob.cell (i := 0) rfl
    have HE := Lib.hid hE; clear hE
    have HK := Lib.hid hK; clear hK
    clear hb2 hb3 hbm hbo hseq
    go_wp2
    refine ⟨by simp, .inl ⟨_, _, rfl, run_takeDeferred HK.out, ?_⟩⟩
    exact ⟨_, results_tmp rfl _ _ _, .slice va l.length vc, P, l, rfl, HE.out.sim, HE.out.out, HE.out.done hEF _⟩
end
end Go.Proofs.YtehljgigebhddaaGreat
namespace Go.Aig
def neF (s : Mk) (l : List (Nat × Nat)) : Mk × Nat := sAny (eachF (rop rXor) s l).1 (eachF (rop rXor) s l).2
end Go.Aig
namespace Go.Proofs.YtehljgigebhddaaGreat
open Go.RowKit Go.Mem Go.Aig
attribute [local go_sem] Oper.semAt_some
theorem fnvsNe1 : Fnv 311 := fnv_of Tryz.func311 (by simp [Tryz.f311]) (by simp [Tryz.f311])
section
variable {w : World} {g m : Nat} {G : Gra} {F : List Nat}
set_option maxRecDepth 100000 in
set_option maxHeartbeats 4000000 in
theorem sNe1_is (h : MIn w g m (G, 0) F)
    {x y : List Nat} {xa ya : Option Addr} (len xc yc : Nat) (hxl : x.length = len) (hyl : y.length = len) (hlen : len ≤ 1000) {bx b2 bg : Nat} (hbx : w.cell? ⟨bx, 0, none⟩ = some (.slice xa len xc)) (hby : w.cell? ⟨b2, 0, none⟩ = some (.slice ya len yc)) (hbg : w.cell? ⟨bg, 0, none⟩ = some (.pointer (some ⟨g, 0, none⟩)))
    (hbgF : bg ∉ m :: F) (hx : Sl w xa (x.map fun (r : Nat) => (r : Int))) (hy : Sl w ya (y.map fun (r : Nat) => (r : Int))) (hxa : ∀ k ∈ ablk xa, k ∉ m :: F ∧ k < w.heap.size) (hya : ∀ k ∈ ablk ya, k ∉ m :: F ∧ k < w.heap.size)
    (hxr : ∀ r ∈ x, r < 2 * G.nodes.length) (hyr : ∀ r ∈ y, r < 2 * G.nodes.length) :
    Calls Tryz.prog 311 (#[.pointer (some ⟨m, 0, none⟩)] ++ #[.pointer (some ⟨bx, 0, none⟩), .pointer (some ⟨b2, 0, none⟩), .pointer (some ⟨bg, 0, none⟩)]) w fun e W' => ∃ (P : Mk) (r : Nat), e = .returned (.int .i64 r) ∧ Sim G P (neF (G, 0) (x.zip y)).1 ∧ ((neF (G, 0) (x.zip y)).1.2 = 0 → r = (neF (G, 0) (x.zip y)).2) ∧ MTo w g m P F W' := by
  show Calls Tryz.prog 311 #[.pointer (some ⟨m, 0, none⟩), .pointer (some ⟨bx, 0, none⟩), .pointer (some ⟨b2, 0, none⟩), .pointer (some ⟨bg, 0, none⟩)] w _
  have hml := h.bk.lt
  have hFl := h.gin.lt
  have hok := h.gin.ok
  have hbflt := cell_lt hbg
  have hbxlt := cell_lt hbx
  have hbylt := cell_lt hby
  simp only at hbflt hbxlt hbylt
  have HPAIR := fun W => spairs_is (w := W) xa ya len xc len yc
  have H := Lib.hid h; clear h
  have HX := Lib.hid hx; clear hx
  have HY := Lib.hid hy; clear hy
  refine (callsIn_wide (n := 4)).1 ?_
  refine callsIn_of_wp_marks Tryz.func311 rfl trivial ?_ rfl
  simp only [Tryz.ntmps311, List.size_toArray, List.length_cons, List.length_nil, Nat.reduceAdd, Nat.reduceSub, Array.replicate_succ, Array.replicate_zero, List.push_toArray, List.append_toArray, List.nil_append, List.cons_append]
  refine wpIn_wide.2 ?_
  go_wp2_with fail
  refine (HPAIR _).mono ?_
  rintro e w' ⟨rfl, rfl⟩
  go_wp2_with fail
  refine wp_named fun W0 hW0 => ?_
  have hc0 : Ch [] w W0 := by rw [hW0]; exact ((((Ch.refl _ _).alloc _).alloc _).alloc _).alloc _
  have hz0 : W0.heap.size = w.heap.size + 4 := by rw [hW0]; simp
  have hbm : blk W0 w.heap.size [.pointer (some ⟨m, 0, none⟩)] := by rw [hW0]; exact (((blk.new' _ _ (by simp)).alloc _).alloc _).alloc _
  have hbo : blk W0 (w.heap.size + 1) [.slice none 0 0] := by rw [hW0]; exact ((blk.new' _ _ (by simp)).alloc _).alloc _
  have hb2 : blk W0 (w.heap.size + 2) [.slice xa len xc] := by rw [hW0]; exact (blk.new' _ _ (by simp)).alloc _
  have hb3 : blk W0 (w.heap.size + 3) [.slice ya len yc] := by rw [hW0]; exact blk.new' _ _ (by simp)
  clear hW0
  have hEF : EF w m [] F (w.heap.size + 4) (w.heap.size + 1) w.heap.size := ⟨fun k hk => by
    simp only [List.mem_cons, List.nil_append] at hk
    rcases hk with rfl | hk
    · exact hml
    · exact hFl k hk, by omega, by omega, by omega, by omega, by omega, by simp, by simp⟩
  refine (wpIn_wide (n := 4)).1 ?_
  have hseq := spairs_seq W0 Fence.wide 3 trivial rfl (by omega) len xc yc hxl hyl (hb2.cell (i := 0) rfl) (hb3.cell (i := 0) rfl) (HX.out.keep fun k hk => hc0.block k (hxa k hk).2 (by simp)) (HY.out.keep fun k hk => hc0.block k (hya k hk).2 (by simp))
  have hKok : Kok w m [] F (w.heap.size + 4) (w.heap.size + 1) ((w.heap.size + 2) :: (w.heap.size + 3) :: (ablk xa ++ ablk ya)) := fun k hk => by
    simp only [List.mem_cons, List.mem_append] at hk
    rcases hk with rfl | rfl | hk | hk
    · exact .inr ⟨by omega, by omega, by omega⟩
    · exact .inr ⟨by omega, by omega, by omega⟩
    · exact .inl ⟨(hxa k hk).2, (hxa k hk).1⟩
    · exact .inl ⟨(hya k hk).2, (hya k hk).1⟩
  refine wpIn_rangeFunc_P (n := 4) (w.heap.size + 4) hz0 rfl (by omega) rfl trivial (fun args w => sfnvpairs1 args w) hseq ?kb (fun _ => rfl)
    (fun pre W => EIe w g m G [] F (w.heap.size + 4) (w.heap.size + 1) w.heap.size pre.length (eachF (rop rXor) (G, 0) pre).1 (eachF (rop rXor) (G, 0) pre).2 W)
    (fun _ => False) ?hi (fun _ _ h _ => h) ?h0 ?a1 ?assign ?body ?done (fun _ h _ _ => h.elim)
  case assign =>
    intro q x W K hK
    simp only [pairEnc]
    gi_wp2
    exact hK
  case kb =>
    intro k hk
    simp only [List.mem_cons, List.mem_append] at hk
    rcases hk with rfl | rfl | hk | hk
    · omega
    · omega
    · have := (hxa k hk).2; omega
    · have := (hya k hk).2; omega
  case hi =>
    rintro pre A A' ⟨v, P, l, F', h⟩ hc
    exact ⟨v, P, l, F', h.same hEF hc⟩
  case h0 =>
    refine ⟨.slice none 0 0, (G, 0), [], F, Sim.start hok, fun _ => rfl, rfl, by simp, H.out.same hc0 (by simp), hc0.mono (by simp), fun k hk => .inl hk, rfl, hbo, hbm, ⟨rfl, .inl ⟨rfl, rfl⟩⟩, by simp [Value.ownBlock]⟩
  case body =>
    rintro q pre ⟨a, b⟩ W ⟨v, P, l, F', hE⟩ hWl hpx
    obtain ⟨va, vc, rfl⟩ := row.shape hE.row
    have hpm := List.IsPrefix.subset hpx (List.mem_append_right pre (List.mem_singleton.2 rfl))
    obtain ⟨ha0, hb0⟩ := zip_lt hxr hyr _ hpm
    have ha := hE.sim.ext.lt ha0
    have hb := hE.sim.ext.lt hb0
    have hst := hE.sim.step (rXor_full hE.mem.gin.ok ha hb) (fun _ e => by rw [e])
    obtain ⟨Q, hQ⟩ : ∃ Q, Q = rXor P.1 a b := ⟨_, rfl⟩
    rw [← hQ] at hst
    have HQ := Lib.hid hQ; clear hQ
    have hln : l.length ≤ 1000 := by
      have h1 := hE.len
      have h2 := hpx.length_le
      rw [List.length_append, List.length_zip] at h2
      simp at h2
      omega
    have hbo := hE.ob
    have hbm := hE.mb
    have hbk := hE.mem.bk
    have hsep := hE.sep hEF
    have HE := Lib.hid hE; clear hE
    have HPX := Lib.hid hpx; clear hpx
    have HST := Lib.hid hst; clear hst
    have HSEP := Lib.hid hsep; clear hsep
    have HA := Lib.hid ha; clear ha
    have HB := Lib.hid hb; clear hb
    clear hpm ha0 hb0 hb2 hb3 hseq HPAIR
    gi_wp2
    refine Ord.St.doorR (fun w' => w'.cell? ⟨w.heap.size + 1, 0, none⟩ = some (.slice va l.length vc)) [.ho, .rd, .fl, .fl, .ef, .ef, .ef, .ef] [0, 0, 0, 0, 14, 30, 63, 127] [0, 1, 2, 3, 4, 5, 6, 7] mixed (by kernel_rfl) (by kernel_rfl) rfl ?_
    obtain ⟨Wc, hWc⟩ : ∃ Wc, Wc = W.drew := ⟨_, rfl⟩
    rw [← hWc]
    have hcur : Ch [] W Wc := by rw [hWc]; exact (Ch.refl _ _).drew
    clear hWc
    have hE := HE.out.ch0 hEF hcur
    have hWc : w.heap.size + 4 + 2 ≤ Wc.heap.size := Nat.le_trans hWl hcur.size
    have hbo := hE.ob
    have hbm := hE.mb.cell (i := 0) rfl
    have HFC := sxor_is hE.mem HA.out HB.out
    have HE := Lib.hid hE; clear hE
    have HCUR := Lib.hid hcur; clear hcur
    rw [← HQ.out] at HFC
    refine Ord.St.ho2 (T' := ?_) 0 [1, 2, 3, 4, 5, 6, 7] _ _ rfl (by kernel_rfl) rfl rfl rfl rfl ?_ (fun K w' hw' hk => ?_) ?_
    rotate_left
    · exact hbo.cell rfl
    · have q1 := hw'; go_step; exact hk
    refine Ord.St.rd2 (T' := ?_) 1 [2, 3, 4, 5, 6, 7] _ _ rfl (by kernel_rfl) rfl rfl rfl rfl (fun K hk => ?_) ?_
    rotate_left
    · go_step; exact hk
    refine Ord.St.fl2 (T' := ?_) 2 [3, 4, 5, 6, 7] _ _ rfl (by kernel_rfl) rfl rfl rfl rfl (fun K w' hk => ?_) ?_
    rotate_left
    · go_step; exact hk
    refine Ord.St.fl2 (T' := ?_) 3 [4, 5, 6, 7] _ _ rfl (by kernel_rfl) rfl rfl rfl rfl (fun K w' hk => ?_) ?_
    rotate_left
    · go_step; exact hk
    refine Ord.St.efC 4 [5, 6, 7] _ rfl (by kernel_rfl) (fun K hK => ?_)
    go_wp2_with fail
    refine HFC.mono ?_
    rintro e w2 ⟨rfl, F1', hmt, hcm, hFm, hmm⟩
    obtain ⟨k1, k2, k3⟩ := HE.out.more hEF hWc hmt hcm hFm hmm HST.out.1 HST.out.2.2.2.2.1 HST.out.2.2.2.2.2.2
    have hz2 : w.heap.size + 4 + 2 ≤ w2.heap.size := Nat.le_trans hWc hcm.size
    have hrow3 := k2.row.ch ((Ch.refl [] w2).alloc (.cells #[.int .i64 (mput P Q).2] 52)) (by simp)
    have hnew3 : blk (w2.alloc (.cells #[.int .i64 (mput P Q).2] 52)) w2.heap.size [.int .i64 (mput P Q).2] := blk.new' _ _ rfl
    replace hbo := k2.ob
    have HROW3 := Lib.hid hrow3; clear hrow3
    have HNEW3 := Lib.hid hnew3; clear hnew3
    have HE2 := Lib.hid k2; clear k2
    have HB2 := Lib.hid k1; clear k1
    have HK2 := Lib.hid k3; clear k3
    clear HFC hbm hcm hFm hmm hmt
    go_wp2_with fail
    refine ⟨rfl, hK _ _ ?_ ?_⟩
    · exact hbo.cell rfl
    clear hK K
    refine Ord.St.efC 5 [6, 7] _ rfl (by kernel_rfl) (fun K hK => ?_)
    go_wp2_with fail
    replace hbo := hbo.alloc (.cells #[.int .i64 (mput P Q).2] 52)
    skip
    refine ⟨rfl, hK _ _ ?_ ?_⟩
    · exact hbo.cell rfl
    clear hK K
    refine Ord.St.ef 6 [7] _ rfl (by kernel_rfl) (fun K hK => ?_)
    go_wp2_with (at_builtin; go_loud (refine wpList_append_row slRefs rfl _ _ rfl (v := .slice va l.length vc) (n := l.length) (xs := refsCells l) rfl HROW3.out (ad := ⟨w2.heap.size, 0, none⟩) (m := 1) (c := 1) (news := [.int .i64 (mput P Q).2]) rfl rfl (news_blk HNEW3.out) (by simp [Value.oneCell']) (by omega) (by omega) ?_; intro v' w4 hown4 hC4 hf4; obtain ⟨gb, gc, rfl⟩ := row.parts hown4 (by omega); have HO4 := Lib.hid hown4; clear hown4; have HC4 := Lib.hid hC4; clear hC4; have HF4 := Lib.hid hf4; clear hf4))
    replace hbo := hbo.ch HC4.out (fun hk => by have := (HE2.out.fresh _ (by simpa using hk)).1; omega)
    have k1 := hbo.cell (i := 0) rfl
    have k2 := hbo.frozen (i := 0)
    refine ⟨rfl, hK _ _ ?_⟩; clear hK K
    refine Ord.St.ef 7 [] _ rfl (by kernel_rfl) (fun K hK => ?_)
    go_wp2_with fail
    refine ⟨rfl, hK _ _ ?_⟩; clear hK K
    refine Ord.St.nil ?_
    gi_wp2
    obtain ⟨p1, p2, p3⟩ := HE2.out.app hEF hz2 HO4.out HC4.out HF4.out (r := (mput P Q).2) HST.out.2.1 (out' := (eachF (rop rXor) (G, 0) pre).2 ++ [(rop rXor (eachF (rop rXor) (G, 0) pre).1 a b).2]) (fun hz0 => by rw [HST.out.2.2.2.1 hz0]; rfl)
    refine ⟨((Books.of_ch HCUR.out hWl (by simp)).trans HB2.out).trans p1, ⟨_, _, _, _, by rw [eachF_snoc]; exact p2⟩, (((hKok.ch0 (by omega) hWl HCUR.out).trans (HK2.out _ hKok)).trans (p3 _ hKok))⟩
  case done =>
    rintro W ⟨v, P, l, F', hE⟩ hK hWl
    obtain ⟨va, vc, rfl⟩ := row.shape hE.row
    have hall := hE.all
    have hln : l.length ≤ 1000 := by have := hE.len; rw [List.length_zip] at this; omega
    have hbg2 : W.cell? ⟨bg, 0, none⟩ = some (.pointer (some ⟨g, 0, none⟩)) := (hE.ch.cell (p := ⟨bg, 0, none⟩) hbflt (by simpa using hbgF)).trans hbg
    have hst := hE.sim.step (rAny_full hE.mem.gin.ok hall) (Y := rAny (eachF (rop rXor) (G, 0) (x.zip y)).1.1 (eachF (rop rXor) (G, 0) (x.zip y)).2) (fun h0 e => by rw [hE.out h0, e])
    obtain ⟨Q, hQ⟩ : ∃ Q, Q = rAny P.1 l := ⟨_, rfl⟩
    rw [← hQ] at hst
    have HQ := Lib.hid hQ; clear hQ
    have hbo := hE.ob
    have hbm := hE.mb
    have hbk := hE.mem.bk
    have HALL := Lib.hid hall; clear hall
    have HE := Lib.hid hE; clear hE
    have HK := Lib.hid hK; clear hK
    have HST := Lib.hid hst; clear hst
    clear hb2 hb3 hseq
    go_wp2_with fail
    refine Ord.St.door (fun w' => w'.cell? ⟨w.heap.size, 0, none⟩ = some (.pointer (some ⟨m, 0, none⟩))) [.ho, .rd, .rd, .ef, .fl, .fl, .ef, .fl] [0, 0, 0, 6, 14, 14, 63, 127] [0, 1, 2, 3, 4, 5, 6, 7] mixed (by kernel_rfl) rfl ?_
    obtain ⟨Wc, hWc⟩ : ∃ Wc, Wc = W.drew := ⟨_, rfl⟩
    rw [← hWc]
    have hcur : Ch [] W Wc := by rw [hWc]; exact (Ch.refl _ _).drew
    clear hWc
    have hE := HE.out.ch0 hEF hcur
    have hK2 : Wc.heap[w.heap.size + 4]? = some (.deferred (some [])) := (hcur.block _ (Array.getElem?_eq_some_iff.1 HK.out).1 (by simp)).trans HK.out
    have hWl2 : w.heap.size + 4 + 2 ≤ Wc.heap.size := Nat.le_trans hWl hcur.size
    have hbm := hE.mb
    have hbk := hE.mem.bk
    have hbo2 := hE.ob.cell (i := 0) rfl
    have hbg3 := (hcur.cell (cell_lt hbg2) (by simp)).trans hbg2
    have hroom := hE.mem.gin.ok.room
    have hmost := hE.mem.gin.ok.most
    have HANY := Any_g hE.mem.gin (l := l.map fun (r : Nat) => (r : Int)) l.length vc (by simp) (Sl.of_row' hE.row rfl (by omega)) (by intro x hx; obtain ⟨r, hr, rfl⟩ := List.mem_map.1 hx; have := HALL.out r hr; omega) (fun p hp => ⟨(hE.row.lt p.block (by rw [hp]; rfl)).2, (hE.fresh p.block (by rw [hp]; rfl)).2⟩)
    rw [doAny_r HALL.out, ← HQ.out] at HANY
    have hsep := hE.sep hEF
    have HE := Lib.hid hE; clear hE
    have HK := Lib.hid hK2; clear hK2
    have HSEP := Lib.hid hsep; clear hsep
    clear hroom hmost hcur hbg2
    refine Ord.St.ho2 (T' := ?_) 0 [1, 2, 3, 4, 5, 6, 7] _ _ rfl (by kernel_rfl) rfl rfl rfl rfl ?_ (fun K w' hw' hk => ?_) ?_
    rotate_left
    · exact hbm.cell rfl
    · have q1 := hw'; go_step; exact hk
    refine Ord.St.rd2 (T' := ?_) 1 [2, 3, 4, 5, 6, 7] _ _ rfl (by kernel_rfl) rfl rfl rfl rfl (fun K hk => ?_) ?_
    rotate_left
    · go_step; exact hk
    refine Ord.St.rd2 (T' := ?_) 2 [3, 4, 5, 6, 7] _ _ rfl (by kernel_rfl) rfl rfl rfl rfl (fun K hk => ?_) ?_
    rotate_left
    · go_step; exact hk
    refine Ord.St.efC 3 [4, 5, 6, 7] _ rfl (by kernel_rfl) (fun K hK => ?_)
    go_wp2_with fail
    refine HANY.mono ?_
    rintro e w1 ⟨rfl, F1, hg1, hc1, hF1, hm1⟩
    replace hbm := hbm.ch hc1 (fun hk => by have := HSEP.out _ (by simp only [List.mem_cons, List.nil_append]; exact .inr hk); omega)
    replace hbk := hbk.ch hc1 HE.out.mem.apart
    have HPUT := sput_is hbk Q.2.1 Q.2.2
    clear hbg3 HANY
    go_wp2_with fail
    refine ⟨rfl, hK _ _ ?_ ?_⟩
    · exact hbm.cell rfl
    clear hK K
    refine Ord.St.fl2 (T' := ?_) 4 [5, 6, 7] _ _ rfl (by kernel_rfl) rfl rfl rfl rfl (fun K w' hk => ?_) ?_
    rotate_left
    · go_step; exact hk
    refine Ord.St.fl2 (T' := ?_) 5 [6, 7] _ _ rfl (by kernel_rfl) rfl rfl rfl rfl (fun K w' hk => ?_) ?_
    rotate_left
    · go_step; exact hk
    refine Ord.St.ef 6 [7] _ rfl (by kernel_rfl) (fun K hK => ?_)
    go_wp2_with fail
    refine HPUT.mono ?_
    rintro e w2 ⟨rfl, hbk2, hc2⟩
    obtain ⟨F1', hmt, hcm, hFm, hmm⟩ := MTo.of (P' := (mput P Q).1) HE.out.mem ⟨F1, hg1, hc1, hF1, hm1⟩ (fun _ => hbk2) hc2
    obtain ⟨k1, k2, k3⟩ := HE.out.more hEF hWl2 hmt hcm hFm hmm HST.out.1 HST.out.2.2.2.2.1 HST.out.2.2.2.2.2.2
    have hK2 := k1.1.trans HK.out
    have HE2 := Lib.hid k2; clear k2
    have HK2 := Lib.hid hK2; clear hK2
    clear HPUT hbk hbm hg1 hc1 hF1 hm1 hc2 hbk2 hcm hFm hmm hmt k1 k3
    go_wp2_with fail
    refine ⟨rfl, hK _ _ ?_⟩; clear hK K
    refine Ord.St.fl2 (T' := ?_) 7 [] _ _ rfl (by kernel_rfl) rfl rfl rfl rfl (fun K w' hk => ?_) ?_
    rotate_left
    · go_step; exact hk
    refine Ord.St.nil ?_
    go_wp2
    refine ⟨by simp, .inl ⟨_, _, rfl, run_takeDeferred HK2.out, ?_⟩⟩
    refine ⟨_, results_tmp rfl _ _ _, (mput P Q).1, (mput P Q).2, rfl, HST.out.1, fun h0 => HST.out.2.2.2.1 h0, (HE2.out.done hEF _).to⟩
end
end Go.Proofs.YtehljgigebhddaaGreat
namespace Go.Aig
theorem ltF_snoc (s : Mk) (l : List (Nat × Nat)) (p : Nat × Nat) : ltF s (l ++ [p]) = ltS (ltF s l) p := by
  unfold ltF; rw [List.foldl_append]; rfl
end Go.Aig
namespace Go.Proofs.YtehljgigebhddaaGreat
open Go.RowKit Go.Mem Go.Aig
attribute [local go_sem] Oper.semAt_some
theorem fnvsLt1 : Fnv 316 := fnv_of Tryz.func316 (by simp [Tryz.f316]) (by simp [Tryz.f316])
section
variable {w : World} {g m : Nat} {G : Gra} {F : List Nat}
set_option maxRecDepth 100000 in
set_option maxHeartbeats 4000000 in
theorem sLt1_is (h : MIn w g m (G, 0) F)
    {x y : List Nat} {xa ya : Option Addr} (len xc yc : Nat) (hxl : x.length = len) (hyl : y.length = len) {bx b2 : Nat} (hbx : w.cell? ⟨bx, 0, none⟩ = some (.slice xa len xc)) (hby : w.cell? ⟨b2, 0, none⟩ = some (.slice ya len yc))
    (hx : Sl w xa (x.map fun (r : Nat) => (r : Int))) (hy : Sl w ya (y.map fun (r : Nat) => (r : Int))) (hxa : ∀ k ∈ ablk xa, k ∉ m :: F ∧ k < w.heap.size) (hya : ∀ k ∈ ablk ya, k ∉ m :: F ∧ k < w.heap.size)
    (hxr : ∀ r ∈ x, r < 2 * G.nodes.length) (hyr : ∀ r ∈ y, r < 2 * G.nodes.length) :
    Calls Tryz.prog 316 (#[.pointer (some ⟨m, 0, none⟩)] ++ #[.pointer (some ⟨bx, 0, none⟩), .pointer (some ⟨b2, 0, none⟩)]) w fun e W' => ∃ (P : Mk) (r : Nat), e = .returned (.int .i64 r) ∧ Sim G P (ltF (G, 0) (x.zip y)).1 ∧ ((ltF (G, 0) (x.zip y)).1.2 = 0 → r = (ltF (G, 0) (x.zip y)).2) ∧ MTo w g m P F W' := by
  show Calls Tryz.prog 316 #[.pointer (some ⟨m, 0, none⟩), .pointer (some ⟨bx, 0, none⟩), .pointer (some ⟨b2, 0, none⟩)] w _
  have hml := h.bk.lt
  have hFl := h.gin.lt
  have hok := h.gin.ok
  have hbxlt := cell_lt hbx
  have hbylt := cell_lt hby
  simp only at hbxlt hbylt
  have HPAIR := fun W => spairs_is (w := W) xa ya len xc len yc
  have H := Lib.hid h; clear h
  have HX := Lib.hid hx; clear hx
  have HY := Lib.hid hy; clear hy
  refine (callsIn_wide (n := 4)).1 ?_
  refine callsIn_of_wp_marks Tryz.func316 rfl trivial ?_ rfl
  simp only [Tryz.ntmps316, List.size_toArray, List.length_cons, List.length_nil, Nat.reduceAdd, Nat.reduceSub, Array.replicate_succ, Array.replicate_zero, List.push_toArray, List.append_toArray, List.nil_append, List.cons_append]
  refine wpIn_wide.2 ?_
  go_wp2_with fail
  refine (HPAIR _).mono ?_
  rintro e w' ⟨rfl, rfl⟩
  go_wp2_with fail
  refine wp_named fun W0 hW0 => ?_
  have hc0 : Ch [] w W0 := by rw [hW0]; exact ((((Ch.refl _ _).alloc _).alloc _).alloc _).alloc _
  have hz0 : W0.heap.size = w.heap.size + 4 := by rw [hW0]; simp
  have hbm : blk W0 w.heap.size [.pointer (some ⟨m, 0, none⟩)] := by rw [hW0]; exact (((blk.new' _ _ (by simp)).alloc _).alloc _).alloc _
  have hbo : blk W0 (w.heap.size + 1) [.int .i64 (0 : Nat)] := by rw [hW0]; exact ((blk.new' _ _ (by simp)).alloc _).alloc _
  have hb2 : blk W0 (w.heap.size + 2) [.slice xa len xc] := by rw [hW0]; exact (blk.new' _ _ (by simp)).alloc _
  have hb3 : blk W0 (w.heap.size + 3) [.slice ya len yc] := by rw [hW0]; exact blk.new' _ _ (by simp)
  clear hW0
  have hEF : EF w m [] F (w.heap.size + 4) (w.heap.size + 1) w.heap.size := ⟨fun k hk => by
    simp only [List.mem_cons, List.nil_append] at hk
    rcases hk with rfl | hk
    · exact hml
    · exact hFl k hk, by omega, by omega, by omega, by omega, by omega, by simp, by simp⟩
  refine (wpIn_wide (n := 4)).1 ?_
  have hseq := spairs_seq W0 Fence.wide 3 trivial rfl (by omega) len xc yc hxl hyl (hb2.cell (i := 0) rfl) (hb3.cell (i := 0) rfl) (HX.out.keep fun k hk => hc0.block k (hxa k hk).2 (by simp)) (HY.out.keep fun k hk => hc0.block k (hya k hk).2 (by simp))
  have hKok : Kok w m [] F (w.heap.size + 4) (w.heap.size + 1) ((w.heap.size + 2) :: (w.heap.size + 3) :: (ablk xa ++ ablk ya)) := fun k hk => by
    simp only [List.mem_cons, List.mem_append] at hk
    rcases hk with rfl | rfl | hk | hk
    · exact .inr ⟨by omega, by omega, by omega⟩
    · exact .inr ⟨by omega, by omega, by omega⟩
    · exact .inl ⟨(hxa k hk).2, (hxa k hk).1⟩
    · exact .inl ⟨(hya k hk).2, (hya k hk).1⟩
  refine wpIn_rangeFunc_P (n := 4) (w.heap.size + 4) hz0 rfl (by omega) rfl trivial (fun args w => sfnvpairs1 args w) hseq ?kb (fun _ => rfl)
    (fun pre W => ELe w g m G [] F (w.heap.size + 4) (w.heap.size + 1) w.heap.size (ltF (G, 0) pre).1 (ltF (G, 0) pre).2 W)
    (fun _ => False) ?hi (fun _ _ h _ => h) ?h0 ?a1 ?assign ?body ?done (fun _ h _ _ => h.elim)
  case assign =>
    intro q x W K hK
    simp only [pairEnc]
    gi_wp2
    exact hK
  case kb =>
    intro k hk
    simp only [List.mem_cons, List.mem_append] at hk
    rcases hk with rfl | rfl | hk | hk
    · omega
    · omega
    · have := (hxa k hk).2; omega
    · have := (hya k hk).2; omega
  case hi =>
    rintro pre A A' ⟨P, r, F', h⟩ hc
    exact ⟨P, r, F', h.same hEF hc⟩
  case h0 =>
    exact ⟨(G, 0), 0, F, Sim.start hok, fun _ => rfl, by have := hok.wf.pos; show 0 < 2 * G.nodes.length; omega, H.out.same hc0 (by simp), hc0.mono (by simp), fun k hk => .inl hk, rfl, hbo, hbm⟩
  case body =>
    rintro q pre ⟨a, b⟩ W ⟨P, r, F', hE⟩ hWl hpx
    have hpm := List.IsPrefix.subset hpx (List.mem_append_right pre (List.mem_singleton.2 rfl))
    obtain ⟨ha0, hb0⟩ := zip_lt hxr hyr _ hpm
    have ha := hE.sim.ext.lt ha0
    have hb := hE.sim.ext.lt hb0
    have hst := hE.sim.step (rXor_full hE.mem.gin.ok ha hb) (Y := rXor (ltF (G, 0) pre).1.1 a b) (fun _ e => by rw [e])
    obtain ⟨Q, hQ⟩ : ∃ Q, Q = rXor P.1 a b := ⟨_, rfl⟩
    rw [← hQ] at hst
    have HQ := Lib.hid hQ; clear hQ
    have hb1 := hst.2.2.2.2.1.lt hb
    have hr1 := hst.2.2.2.2.1.lt hE.lt
    have hst2 := hst.1.step (rMux_full hst.1.ok hst.2.1 hb1 hr1) (Y := rMux (rstep (ltF (G, 0) pre).1 (rXor (ltF (G, 0) pre).1.1 a b)).1.1 (rstep (ltF (G, 0) pre).1 (rXor (ltF (G, 0) pre).1.1 a b)).2 b (ltF (G, 0) pre).2) (fun h0 e => by
      rw [e, hst.2.2.2.1 h0, hE.out (by
        by_cases hz : (ltF (G, 0) pre).1.2 = 0
        · exact hz
        · exact absurd h0 (hst.2.2.2.2.2.2 hz))])
    obtain ⟨Q2, hQ2⟩ : ∃ Q2, Q2 = rMux (mput P Q).1.1 (mput P Q).2 b r := ⟨_, rfl⟩
    rw [← hQ2] at hst2
    have HQ2 := Lib.hid hQ2; clear hQ2
    have HE := Lib.hid hE; clear hE
    have HPX := Lib.hid hpx; clear hpx
    have HST := Lib.hid hst; clear hst
    have HST2 := Lib.hid hst2; clear hst2
    have HA := Lib.hid ha; clear ha
    have HB := Lib.hid hb; clear hb
    have HB1 := Lib.hid hb1; clear hb1
    have HR1 := Lib.hid hr1; clear hr1
    clear hpm ha0 hb0 hb2 hb3 hseq HPAIR
    gi_wp2
    refine Ord.St.doorR (fun w' => w'.cell? ⟨w.heap.size + 1, 0, none⟩ = some (.int .i64 r) ∧ w'.cell? ⟨w.heap.size, 0, none⟩ = some (.pointer (some ⟨m, 0, none⟩))) [.ho, .rd, .fl, .fl, .ef, .fl, .ho, .ef, .ef] [0, 0, 0, 0, 14, 0, 0, 127, 255] [0, 1, 2, 3, 4, 5, 6, 7, 8] mixed (by kernel_rfl) (by kernel_rfl) rfl ?_
    obtain ⟨Wc, hWc⟩ : ∃ Wc, Wc = W.drew := ⟨_, rfl⟩
    rw [← hWc]
    have hcur : Ch [] W Wc := by rw [hWc]; exact (Ch.refl _ _).drew
    clear hWc
    have hE := HE.out.ch0 hEF hcur
    have hWc : w.heap.size + 4 + 2 ≤ Wc.heap.size := Nat.le_trans hWl hcur.size
    have hbo := hE.ob
    have hbm := hE.mb
    have hbm0 := hbm.cell (i := 0) rfl
    have HFC := sxor_is hE.mem HA.out HB.out
    have HE := Lib.hid hE; clear hE
    have HCUR := Lib.hid hcur; clear hcur
    rw [← HQ.out] at HFC
    refine Ord.St.ho2 (T' := ?_) 0 [1, 2, 3, 4, 5, 6, 7, 8] _ _ rfl (by kernel_rfl) rfl rfl rfl rfl ?_ (fun K w' hw' hk => ?_) ?_
    rotate_left
    · exact ⟨hbo.cell rfl, hbm.cell rfl⟩
    · obtain ⟨q1, q2⟩ := hw'; go_step; exact hk
    refine Ord.St.rd2 (T' := ?_) 1 [2, 3, 4, 5, 6, 7, 8] _ _ rfl (by kernel_rfl) rfl rfl rfl rfl (fun K hk => ?_) ?_
    rotate_left
    · go_step; exact hk
    refine Ord.St.fl2 (T' := ?_) 2 [3, 4, 5, 6, 7, 8] _ _ rfl (by kernel_rfl) rfl rfl rfl rfl (fun K w' hk => ?_) ?_
    rotate_left
    · go_step; exact hk
    refine Ord.St.fl2 (T' := ?_) 3 [4, 5, 6, 7, 8] _ _ rfl (by kernel_rfl) rfl rfl rfl rfl (fun K w' hk => ?_) ?_
    rotate_left
    · go_step; exact hk
    refine Ord.St.fl2 (T' := ?_) 5 [4, 6, 7, 8] _ _ rfl (by kernel_rfl) rfl rfl rfl rfl (fun K w' hk => ?_) ?_
    rotate_left
    · go_step; exact hk
    refine Ord.St.ho2 (T' := ?_) 6 [4, 7, 8] _ _ rfl (by kernel_rfl) rfl rfl rfl rfl ?_ (fun K w' hw' hk => ?_) ?_
    rotate_left
    · exact ⟨hbo.cell rfl, hbm.cell rfl⟩
    · obtain ⟨q1, q2⟩ := hw'; go_step; exact hk
    refine Ord.St.efC 4 [7, 8] _ rfl (by kernel_rfl) (fun K hK => ?_)
    go_wp2_with fail
    refine HFC.mono ?_
    rintro e w2 ⟨rfl, F1', hmt, hcm, hFm, hmm⟩
    obtain ⟨k1, k2, k3⟩ := HE.out.more hEF hWc hmt hcm hFm hmm HST.out.1 HST.out.2.2.2.2.1 HST.out.2.2.2.2.2.2
    have hz2 : w.heap.size + 4 + 2 ≤ w2.heap.size := Nat.le_trans hWc hcm.size
    have HMC := smux_is k2.mem HST.out.2.1 HB1.out HR1.out
    rw [← HQ2.out] at HMC
    clear hbo hbm hbm0
    have hbo := k2.ob
    have hbm := k2.mb
    have HE2 := Lib.hid k2; clear k2
    have HB2 := Lib.hid k1; clear k1
    have HK2 := Lib.hid k3; clear k3
    clear HFC hcm hFm hmm hmt
    go_wp2_with fail
    refine ⟨rfl, hK _ _ ?_ ?_⟩
    · exact ⟨hbo.cell rfl, hbm.cell rfl⟩
    clear hK K
    refine Ord.St.ef 7 [8] _ rfl (by kernel_rfl) (fun K hK => ?_)
    go_wp2_with fail
    refine HMC.mono ?_
    rintro e w3 ⟨rfl, F2', hmt, hcm, hFm, hmm⟩
    obtain ⟨k1, k2, k3⟩ := HE2.out.more hEF hz2 hmt hcm hFm hmm HST2.out.1 HST2.out.2.2.2.2.1 HST2.out.2.2.2.2.2.2
    have hz3 : w.heap.size + 4 + 2 ≤ w3.heap.size := Nat.le_trans hz2 hcm.size
    clear hbo hbm
    have hbo := k2.ob
    have hbm := k2.mb
    have s1 := hbo.cell (i := 0) rfl
    have s2 := hbo.frozen (i := 0)
    have HE3 := Lib.hid k2; clear k2
    have HB3 := Lib.hid k1; clear k1
    have HK3 := Lib.hid k3; clear k3
    clear HMC hcm hFm hmm hmt
    go_wp2_with fail
    refine ⟨rfl, hK _ _ ?_⟩; clear hK K
    refine Ord.St.ef 8 [] _ rfl (by kernel_rfl) (fun K hK => ?_)
    go_wp2_with fail
    refine ⟨rfl, hK _ _ ?_⟩; clear hK K
    refine Ord.St.nil ?_
    gi_wp2
    obtain ⟨p1, p2, p3⟩ := HE3.out.put hEF hz3 HST2.out.2.1 (fun hz0 => HST2.out.2.2.2.1 hz0)
    refine ⟨(((Books.of_ch HCUR.out hWl (by simp)).trans HB2.out).trans HB3.out).trans p1, ⟨_, _, _, by rw [ltF_snoc]; exact p2⟩, ((((hKok.ch0 (by omega) hWl HCUR.out).trans (HK2.out _ hKok)).trans (HK3.out _ hKok)).trans (p3 _ hKok))⟩
  case done =>
    rintro W ⟨P, r, F', hE⟩ hK _
    have c_o := hE.ob.cell (i := 0) rfl
    have HE := Lib.hid hE; clear hE
    have HK := Lib.hid hK; clear hK
    clear hb2 hb3 hbm hbo hseq
    go_wp2
    refine ⟨by simp, .inl ⟨_, _, rfl, run_takeDeferred HK.out, ?_⟩⟩
    exact ⟨_, results_tmp rfl _ _ _, P, r, rfl, HE.out.sim, HE.out.out, HE.out.done hEF _⟩
end
end Go.Proofs.YtehljgigebhddaaGreat
namespace Go.Aig
theorem inF_succ (s : Mk) (n : Nat) : inF s (n + 1) = inS (inF s n) := rfl
end Go.Aig
namespace Go.Proofs.YtehljgigebhddaaGreat
open Go.RowKit Go.Mem Go.Aig
theorem fnvsInput1 : Fnv 174 := fnv_of Tryz.func174 (by simp [Tryz.f174]) (by simp [Tryz.f174])
theorem MVo.step {w W w2 w4 : World} {g m : Nat} {P' : Mk} {X F F' F1 : List Nat} {va : Option Addr} {vc : Nat} {l : List Nat} (hlow : ∀ k ∈ m :: (X ++ F), k < w.heap.size)
    (hc : Ch (m :: (X ++ F)) w W) (hF' : ∀ k ∈ F', k ∈ F ∨ w.heap.size ≤ k) (hmap : F'[2]? = F[2]?) (hrow0 : row W 52 1 (.slice va l.length vc) l.length (refsCells l)) (hfr : ∀ k, (Value.slice va l.length vc).ownBlock = some k → w.heap.size ≤ k ∧ k ∉ F' ∧ k ≠ m)
    (k1 : MIn w2 g m P' F1) (k2 : Ch (m :: F') W w2) (k3 : ∀ k ∈ F1, k ∈ F' ∨ W.heap.size ≤ k) (k4 : F1[2]? = F'[2]?) {r gb gc : Nat} {o : Obj} (hrow : row w4 52 1 (.slice (some ⟨gb, 0, none⟩) (l.length + 1) gc) (l.length + 1) (refsCells l ++ [.int .i64 r]))
    (hc4 : Ch (Value.slice va l.length vc).ownBlock.toList (w2.alloc o) w4) (hf4 : ∀ k, (Value.slice (some ⟨gb, 0, none⟩) (l.length + 1) gc).ownBlock = some k → (Value.slice va l.length vc).ownBlock = some k ∨ (w2.alloc o).heap.size ≤ k) : MVo w g m P' X F (.slice (some ⟨gb, 0, none⟩) (l.length + 1) gc) (l ++ [r]) w4 := by
  have hcz := hc.size
  have hkz := k2.size
  have hmlow := hlow m (by simp)
  have hown : ∀ k, (Value.slice va l.length vc).ownBlock = some k → k < W.heap.size ∧ w.heap.size ≤ k ∧ k ∉ F' ∧ k ≠ m := fun k hk => ⟨(hrow0.lt k hk).2, hfr k hk⟩
  have hF1 : ∀ k ∈ m :: F1, k ∉ (Value.slice va l.length vc).ownBlock.toList := fun k hk hk2 => by
    have h1 := hown k (by simpa using hk2)
    simp only [List.mem_cons] at hk
    rcases hk with e | hk
    · exact h1.2.2.2 e
    · rcases k3 k hk with e | e
      · exact h1.2.2.1 e
      · omega
  have hA : Ch (Value.slice va l.length vc).ownBlock.toList w2 w4 := ((Ch.refl _ w2).alloc o).trans hc4 (fun k hk => .inl hk)
  have hgb : w.heap.size ≤ gb ∧ gb ∉ F1 ∧ gb ≠ m := by
    rcases hf4 gb rfl with e | e
    · have h1 := hown gb e
      refine ⟨h1.2.1, fun hk => hF1 gb (by simp [hk]) (by simpa using e), h1.2.2.2⟩
    · rw [World.size_alloc] at e
      exact ⟨by omega, fun hk => by have := GIn.lt k1.gin gb hk; omega, by omega⟩
  refine ⟨F1, k1.same hA hF1, (hc.trans k2 (fun k hk => ?_)).trans hA (fun k hk => .inr (hown k (by simpa using hk)).2.1), fun k hk => ?_, k4.trans hmap, ?_, fun k hk => ?_⟩
  · simp only [List.mem_cons] at hk ⊢
    rcases hk with e | hk
    · exact .inl (.inl e)
    · rcases hF' k hk with e | e
      · exact .inl (.inr (List.mem_append_right _ e))
      · exact .inr e
  · rcases k3 k hk with e | e
    · exact hF' k e
    · exact .inr (by omega)
  · rw [show refsCells (l ++ [r]) = refsCells l ++ [.int .i64 r] from by simp [refsCells], List.length_append]
    exact hrow
  · cases hk
    exact hgb
section
variable {w : World} {g m : Nat} {G : Gra} {F : List Nat}
set_option maxRecDepth 100000 in
set_option maxHeartbeats 4000000 in
theorem sInput1_is (h : MIn w g m (G, 0) F) {bw bg n : Nat} (hn : n ≤ 1000) (hbw : w.cell? ⟨bw, 0, none⟩ = some (.int .i64 n)) (hbg : w.cell? ⟨bg, 0, none⟩ = some (.pointer (some ⟨g, 0, none⟩))) (hbgF : bg ∉ m :: F) :
    Calls Tryz.prog 174 (#[.pointer (some ⟨m, 0, none⟩)] ++ #[.pointer (some ⟨bw, 0, none⟩), .pointer (some ⟨bg, 0, none⟩)]) w fun e W' => ∃ v P l, e = .returned v ∧ Sim G P (inF (G, 0) n).1 ∧ ((inF (G, 0) n).1.2 = 0 → l = (inF (G, 0) n).2) ∧ MVo w g m P [] F v l W' := by
  show Calls Tryz.prog 174 #[.pointer (some ⟨m, 0, none⟩), .pointer (some ⟨bw, 0, none⟩), .pointer (some ⟨bg, 0, none⟩)] w _
  have hlow : ∀ k ∈ m :: ([] ++ F), k < w.heap.size := fun k hk => by
    simp only [List.nil_append, List.mem_cons] at hk
    rcases hk with rfl | hk
    · exact h.bk.lt
    · exact GIn.lt h.gin k hk
  have hbglt := cell_lt hbg
  have H := Lib.hid h; clear h
  go_enter Tryz.func174, Tryz.ntmps174
  go_wp2_with fail
  go_loopw [5, 7] (fun o i wr => ∃ (k : Nat) (P : Mk) (l : List Nat), k ≤ n ∧ i = .int .i64 k ∧ Sim G P (inF (G, 0) k).1 ∧ ((inF (G, 0) k).1.2 = 0 → l = (inF (G, 0) k).2) ∧ l.length = k ∧ MVo w g m P [] F o l wr) (fun _ i _ => n - (intOf i).toNat)
  case atStart => exact ⟨0, (G, 0), [], by omega, rfl, Sim.start H.out.gin.ok, fun _ => rfl, rfl, F, H.out, Ch.refl _ _, fun k hk => .inl hk, rfl, ⟨rfl, .inl ⟨rfl, rfl⟩⟩, by simp [Value.ownBlock]⟩
  case round =>
    obtain ⟨k, P, l, hk, rfl, hsim, hl, hlen, hmv⟩ := hrel
    obtain ⟨oa, oc, rfl⟩ := row.shape hmv.choose_spec.2.2.2.2.1
    by_cases hlt : k < n
    · obtain ⟨F', hm, hc, hF', hmap, hrow, hfr⟩ := hmv
      have hst := hsim.step (put_full hm.gin.ok) (Y := put (inF (G, 0) k).1.1 ⟨2, 0, 0, 0⟩) (fun _ e => by rw [e])
      have hcg := (hc.cell (p := ⟨bg, 0, none⟩) hbglt (by simpa using hbgF)).trans hbg
      have HI := Input_g hm.gin
      unfold doInput at HI
      obtain ⟨Q, hQ⟩ : ∃ Q, Q = put P.1 ⟨2, 0, 0, 0⟩ := ⟨_, rfl⟩
      rw [← hQ] at HI hst
      have hbk := hm.bk
      have HST := Lib.hid hst; clear hst hQ
      have HSIM := Lib.hid hsim; clear hsim
      have HL := Lib.hid hl; clear hl
      have HM := Lib.hid hm; clear hm
      have HC := Lib.hid hc; clear hc
      have HF' := Lib.hid hF'; clear hF'
      have HMAP := Lib.hid hmap; clear hmap
      have HROW := Lib.hid hrow; clear hrow
      have HFR := Lib.hid hfr; clear hfr
      have HLOW := Lib.hid hlow; clear hlow
      have HLEN := Lib.hid hlen
      have hlen2 : l.length ≤ 1000 := by omega
      clear hlen
      go_wp2_with fail
      refine HI.mono ?_
      rintro e w1 ⟨rfl, F1, hg1, hc1, hF1, hm1⟩
      replace hbk := hbk.ch hc1 HM.out.apart
      have HPUT := sput_is hbk Q.2.1 Q.2.2
      clear HI hcg
      go_wp2_with fail
      refine HPUT.mono ?_
      rintro e w2 ⟨rfl, hbk2, hc2⟩
      obtain ⟨F1', hmt, hcm, hFm, hmm⟩ := MTo.of (P' := (mput P Q).1) HM.out ⟨F1, hg1, hc1, hF1, hm1⟩ (fun _ => hbk2) hc2
      have hrow3 := (HROW.out.ch hcm (fun k hk => by have h1 := HFR.out k hk; simp only [List.mem_cons, not_or]; exact ⟨h1.2.2, h1.2.1⟩)).ch ((Ch.refl [] w2).alloc (.cells #[.int .i64 Q.2.1] 52)) (by simp)
      have hnew3 : blk (w2.alloc (.cells #[.int .i64 Q.2.1] 52)) w2.heap.size [.int .i64 Q.2.1] := blk.new' _ _ rfl
      have HROW3 := Lib.hid hrow3; clear hrow3
      have HNEW3 := Lib.hid hnew3; clear hnew3
      have HMT := Lib.hid hmt; clear hmt
      have HCM := Lib.hid hcm; clear hcm
      have HFM := Lib.hid hFm; clear hFm
      have HMM := Lib.hid hmm; clear hmm
      clear HPUT hbk hg1 hc1 hF1 hm1 hbk2 hc2
      go_wp2_with (at_builtin; go_loud (refine wpList_append_row slRefs rfl _ _ rfl (v := .slice oa l.length oc) (n := l.length) (xs := refsCells l) rfl HROW3.out (ad := ⟨w2.heap.size, 0, none⟩) (m := 1) (c := 1) (news := [.int .i64 Q.2.1]) rfl rfl (news_blk HNEW3.out) (by simp [Value.oneCell']) (by omega) (by omega) ?_; intro v' w4 hown4 hC4 hf4; obtain ⟨gb, gc, rfl⟩ := row.parts hown4 (by omega); have HO4 := Lib.hid hown4; clear hown4; have HC4 := Lib.hid hC4; clear hC4; have HF4 := Lib.hid hf4; clear hf4))
      go_roundw
      case rel =>
        refine ⟨k + 1, (mput P Q).1, l ++ [Q.2.1], by omega, by go_num, HST.out.1, fun h0 => ?_, by simp [HLEN.out], MVo.step HLOW.out HC.out HF'.out HMAP.out HROW.out HFR.out HMT.out HCM.out HFM.out HMM.out HO4.out HC4.out HF4.out⟩
        rw [HL.out (rstep_zero h0), show Q.2.1 = (mput P Q).2 from rfl, HST.out.2.2.2.1 h0]; rfl
      case measure => simp [intOf]; omega
    · have hkn : k = n := by omega
      subst hkn
      have HMV := Lib.hid hmv; clear hmv
      go_wp2_with fail
      go_ret
      exact ⟨.slice oa l.length oc, P, l, rfl, hsim, hl, HMV.out⟩
end
end Go.Proofs.YtehljgigebhddaaGreat
namespace Go.Aig
def nats (l : List Int) : List Nat := l.map Int.toNat
@[simp] theorem nats_len (l : List Int) : (nats l).length = l.length := by simp [nats]
/-- what a function of words returns: a word, a reference -/
def wordG (G : Gra) (ws : List (List Int)) (R : Mk × List Nat) : Gra × List Nat × Nat := if chk G ws ≠ 0 then (G, [], chk G ws) else wres G R
def refG (G : Gra) (ws : List (List Int)) (R : Mk × Nat) : Res := if chk G ws ≠ 0 then (G, 0, chk G ws) else rres G R
theorem badIn_no {G : Gra} {x : List Int} (h : badIn G x = false) : (nats x).map (fun (r : Nat) => (r : Int)) = x ∧ ∀ r ∈ nats x, r < 2 * G.nodes.length := by
  unfold badIn at h
  rw [List.any_eq_false] at h
  have h1 : ∀ r ∈ x, 0 ≤ r ∧ r < 2 * G.nodes.length := fun r hr => by simpa [right] using h r hr
  clear h
  constructor
  · unfold nats
    rw [List.map_map]
    refine (List.map_congr_left (g := id) fun r hr => ?_).trans (List.map_id _)
    have := h1 r hr
    simp; omega
  · intro r hr
    obtain ⟨q, hq, rfl⟩ := List.mem_map.1 hr
    have := h1 q hq
    omega
structure ChkOk (G : Gra) (n : Nat) (x : List Int) : Prop where
  len : x.length = n
  r1 : 1 ≤ n
  r2 : n ≤ 17
  cast : (nats x).map (fun (r : Nat) => (r : Int)) = x
  lt : ∀ r ∈ nats x, r < 2 * G.nodes.length
theorem chk_ok {G : Gra} {x0 : List Int} {ws : List (List Int)} (h : chk G (x0 :: ws) = 0) : ∀ x ∈ x0 :: ws, ChkOk G x0.length x := by
  unfold chk at h
  split at h
  · cases h
  · rename_i h1
    split at h
    · cases h
    · rename_i h2
      intro x hx
      have h3 : badAs x0.length x = false := by
        have := List.any_eq_false.1 (by simpa using h1) x hx
        simpa using this
      have h4 : badIn G x = false := by
        have := List.any_eq_false.1 (by simpa using h2) x hx
        simpa using this
      unfold badAs rightW at h3
      simp at h3
      obtain ⟨⟨a1, a2⟩, a3⟩ := h3
      obtain ⟨b1, b2⟩ := badIn_no h4
      exact ⟨by omega, by omega, by omega, b1, b2⟩
theorem chk_small (G : Gra) (ws : List (List Int)) : chk G ws ≤ 230 := by unfold chk; split; omega; split <;> omega
end Go.Aig
namespace Go.Proofs.YtehljgigebhddaaGreat
open Go.RowKit Go.Mem Go.Aig
theorem calls_named {P : Program} {f : FuncId} {args : Array Value} {w : World} {R : Ending → World → Prop} (h : ∀ W, W = w → Calls P f args W R) : Calls P f args w R := h w rfl
/-- a word that goes in: apart from the graph's blocks -/
structure WVin (w : World) (F : List Nat) (x : WV) : Prop where
  ok : WVok w x
  apart : ∀ k ∈ ablk x.a, k ∉ F ∧ k < w.heap.size
theorem WVin.ch {w w' : World} {F : List Nat} {x : WV} (h : WVin w F x) (hc : Ch [] w w') : WVin w' F x := ⟨h.ok.ch hc (by simp), fun k hk => ⟨(h.apart k hk).1, Nat.lt_of_lt_of_le (h.apart k hk).2 hc.size⟩⟩
theorem GVo.since {w w1 w' : World} {g : Nat} {G : Gra} {X F : List Nat} {v : Value} {l : List Nat} (hc : Ch [] w w1) (h : GVo w1 g G X F v l w') : GVo w g G X F v l w' := by
  obtain ⟨F', h1, h2, h3, h4, h5, h6⟩ := h
  exact ⟨F', h1, (hc.mono (by simp)).trans h2 (fun k hk => .inl hk), fun k hk => (h3 k hk).imp id (fun e => Nat.le_trans hc.size e), h4, h5, fun k hk => ⟨Nat.le_trans hc.size (h6 k hk).1, (h6 k hk).2⟩⟩
theorem GTo.since {w w1 w' : World} {g : Nat} {G : Gra} {F : List Nat} (hc : Ch [] w w1) (h : GTo w1 g G F w') : GTo w g G F w' := by
  obtain ⟨F', h1, h2, h3, h4⟩ := h
  exact ⟨F', h1, (hc.mono (by simp)).trans h2 (fun k hk => .inl hk), fun k hk => (h3 k hk).imp id (fun e => Nat.le_trans hc.size e), h4⟩
theorem GVo.none {w w' : World} {g : Nat} {G : Gra} {F : List Nat} (h : GIn w g G F) (hc : Ch [] w w') : GVo w g G [] F (.slice none 0 0) [] w' :=
  GVo.nil (F' := F) (h.same hc (by simp)) (hc.mono (by simp)) (fun _ hk => .inl hk) rfl
theorem chk2_at {w : World} {g : Nat} {G : Gra} {F : List Nat} (h : GIn w g G F) {b : Nat} {x y : WV} (hb : blk w b [x.val, y.val]) (hx : WVok w x) (hy : WVok w y) :
    Calls Tryz.prog 309 #[.pointer (some ⟨g, 0, none⟩), .slice (some ⟨b, 0, none⟩) 2 2] w fun e w' => e = .returned (.int .i64 (chk G [x.l, y.l])) ∧ Ch [] w w' :=
  scheck_is h (ws := [x, y]) 2 2 rfl (by omega) (fun i z hz => by
    rcases i with _ | _ | i
    · cases hz; exact hb.cell rfl
    · cases hz; exact hb.cell rfl
    · cases hz) (fun z hz => by simp at hz; rcases hz with rfl | rfl; exact hx; exact hy)
section
variable {w : World} {g : Nat} {G : Gra} {F : List Nat}
end
end Go.Proofs.YtehljgigebhddaaGreat
namespace Go.Aig
def sumW (n : Nat) (s : Mk) (l : List (Nat × Nat)) (c : Nat) : Mk × List Nat := ((sumF n s l c).1, (sumF n s l c).2.1)
end Go.Aig
namespace Go.Proofs.YtehljgigebhddaaGreat
open Go.RowKit Go.Mem Go.Aig
section
variable {w : World} {g : Nat} {G : Gra} {F : List Nat}
set_option maxRecDepth 100000 in
set_option maxHeartbeats 2000000 in
theorem sNe_is (h : GIn w g G F) {x y : WV} (hx : WVin w F x) (hy : WVin w F y) :
    Calls Tryz.prog 242 #[.pointer (some ⟨g, 0, none⟩), x.val, y.val] w fun e w' => e = .returned (.tuple #[.int .i64 (refG G [x.l, y.l] (neF (G, 0) ((nats x.l).zip (nats y.l)))).2.1, .int .i64 (refG G [x.l, y.l] (neF (G, 0) ((nats x.l).zip (nats y.l)))).2.2]) ∧ GTo w g (refG G [x.l, y.l] (neF (G, 0) ((nats x.l).zip (nats y.l)))).1 F w' := by
  have hFl := h.lt
  have hxlen := hx.ok.len
  have hylen := hy.ok.len
  obtain ⟨xa, xl, xc⟩ := x
  obtain ⟨ya, yl, yc⟩ := y
  simp only [WV.val] at *
  unfold refG
  have hch := chk_ok (G := G) (x0 := xl) (ws := [yl])
  have hcs := chk_small G [xl, yl]
  generalize hR : neF (G, 0) ((nats xl).zip (nats yl)) = R
  generalize hc : chk G [xl, yl] = cc at *
  have hC : ∀ W, Ch [] w W → ∀ b, blk W b [.slice xa xl.length xc, .slice ya yl.length yc] → Calls Tryz.prog 309 #[.pointer (some ⟨g, 0, none⟩), .slice (some ⟨b, 0, none⟩) 2 2] W fun e w' => e = .returned (.int .i64 cc) ∧ Ch [] W w' := fun W hW b hb => by
    have := chk2_at (h.same hW (by simp)) (x := ⟨xa, xl, xc⟩) (y := ⟨ya, yl, yc⟩) hb (hx.ch hW).ok (hy.ch hW).ok
    rw [hc] at this
    exact this
  have HC := Lib.hid hC; clear hC
  have HCC := Lib.hid hc; clear hc
  have HX := Lib.hid hx; clear hx
  have HY := Lib.hid hy; clear hy
  have H := Lib.hid h; clear h
  have HCH := Lib.hid hch; clear hch
  generalize hWW : (if cc ≠ 0 then (G, 0, cc) else rres G R : Res) = WW
  have HWW := Lib.hid hWW; clear hWW
  have HR := Lib.hid hR; clear hR
  go_enter Tryz.func242, Tryz.ntmps242
  go_wp2_with fail
  refine calls_named fun W0 hW0 => ?_
  have hc0 : Ch [] w W0 := by rw [hW0]; exact ((((Ch.refl _ _).alloc _).alloc _).alloc _).alloc _
  have hbg : blk W0 w.heap.size [.pointer (some ⟨g, 0, none⟩)] := by rw [hW0]; exact (((blk.new' _ _ (by simp)).alloc _).alloc _).alloc _
  have hbx : blk W0 (w.heap.size + 1) [.slice xa xl.length xc] := by rw [hW0]; exact ((blk.new' _ _ (by simp)).alloc _).alloc _
  have hby : blk W0 (w.heap.size + 2) [.slice ya yl.length yc] := by rw [hW0]; exact (blk.new' _ _ (by simp)).alloc _
  have hbl : blk W0 (w.heap.size + 3) [.slice xa xl.length xc, .slice ya yl.length yc] := by rw [hW0]; exact blk.new' _ _ (by simp)
  clear hW0
  refine (HC.out W0 hc0 _ hbl).mono ?_
  rintro e w1 ⟨rfl, hc1⟩
  have HC01 := Lib.hid (hc0.trans hc1 (by simp))
  replace hbg := hbg.ch hc1 (by simp)
  have hbg0 := hbg.cell (i := 0) rfl
  have HBG := Lib.hid hbg; clear hbg
  replace hbx := hbx.ch hc1 (by simp)
  have hbx0 := hbx.cell (i := 0) rfl
  have HBX := Lib.hid hbx; clear hbx
  replace hby := hby.ch hc1 (by simp)
  have hby0 := hby.cell (i := 0) rfl
  have HBY := Lib.hid hby; clear hby
  clear hbl hc0 hc1
  by_cases hcc : cc = 0
  · subst hcc
    obtain ⟨h1, h2⟩ : (∃ _ : ChkOk G xl.length xl, ChkOk G xl.length yl) := ⟨HCH.out rfl xl (by simp), HCH.out rfl yl (by simp)⟩
    have hww := HWW.out
    rw [if_neg (by simp)] at hww
    have hB := sbuildR_is (H.out.same HC01.out (by simp)) 311 #[.pointer (some ⟨w.heap.size + 1, 0, none⟩), .pointer (some ⟨w.heap.size + 2, 0, none⟩), .pointer (some ⟨w.heap.size, 0, none⟩)] fnvsNe1 (neF (G, 0) ((nats xl).zip (nats yl))) (fun W m hm hW hM => by
      have hz1 := HC01.out.size
      have hall : Ch [] w W := HC01.out.trans hW (by simp)
      have hbgl := HBG.out.lt
      refine sNe1_is hM (x := nats xl) (y := nats yl) (xa := xa) (ya := ya) xl.length xc yc (by simp) (by simp [h2.len]) (by have := h1.r2; omega) ((HBX.out.ch hW (by simp)).cell (i := 0) rfl) (by
        have := (HBY.out.ch hW (by simp)).cell (i := 0) rfl
        rw [h2.len] at this
        exact this) ((HBG.out.ch hW (by simp)).cell (i := 0) rfl) (fun hk => by
        simp only [List.mem_cons] at hk
        rcases hk with e | e
        · omega
        · have := hFl _ e; omega) (by rw [h1.cast]; exact (HX.out.ok.sl.ch hall (by simp))) (by rw [h2.cast]; exact (HY.out.ok.sl.ch hall (by simp))) (fun k hk => ?_) (fun k hk => ?_) h1.lt h2.lt
      · have := HX.out.apart k hk
        refine ⟨fun hk2 => ?_, by have := hall.size; omega⟩
        simp only [List.mem_cons] at hk2
        rcases hk2 with e | e
        · omega
        · exact this.1 e
      · have := HY.out.apart k hk
        refine ⟨fun hk2 => ?_, by have := hall.size; omega⟩
        simp only [List.mem_cons] at hk2
        rcases hk2 with e | e
        · omega
        · exact this.1 e)
    rw [HR.out, hww] at hB
    have HB := Lib.hid hB; clear hB
    clear hww h1 h2
    go_wp2_with fail
    refine HB.out.mono ?_
    rintro e w2 ⟨rfl, hg⟩
    have HG := Lib.hid hg; clear hg
    go_wp2_with fail
    go_ret2
    exact ⟨rfl, GTo.since HC01.out HG.out⟩
  · have hww := HWW.out
    rw [if_pos (by simpa using hcc)] at hww
    subst hww
    have hq : ((cc : Int) != 0) = true := by simp; omega
    have HQ := Lib.hid hcc; clear hcc
    go_wp2_with fail
    go_ret2
    exact ⟨rfl, GTo.same H.out HC01.out⟩
set_option maxRecDepth 100000 in
set_option maxHeartbeats 2000000 in
theorem sLt_is (h : GIn w g G F) {x y : WV} (hx : WVin w F x) (hy : WVin w F y) :
    Calls Tryz.prog 254 #[.pointer (some ⟨g, 0, none⟩), x.val, y.val] w fun e w' => e = .returned (.tuple #[.int .i64 (refG G [x.l, y.l] (ltF (G, 0) ((nats x.l).zip (nats y.l)))).2.1, .int .i64 (refG G [x.l, y.l] (ltF (G, 0) ((nats x.l).zip (nats y.l)))).2.2]) ∧ GTo w g (refG G [x.l, y.l] (ltF (G, 0) ((nats x.l).zip (nats y.l)))).1 F w' := by
  have hFl := h.lt
  have hxlen := hx.ok.len
  have hylen := hy.ok.len
  obtain ⟨xa, xl, xc⟩ := x
  obtain ⟨ya, yl, yc⟩ := y
  simp only [WV.val] at *
  unfold refG
  have hch := chk_ok (G := G) (x0 := xl) (ws := [yl])
  have hcs := chk_small G [xl, yl]
  generalize hR : ltF (G, 0) ((nats xl).zip (nats yl)) = R
  generalize hc : chk G [xl, yl] = cc at *
  have hC : ∀ W, Ch [] w W → ∀ b, blk W b [.slice xa xl.length xc, .slice ya yl.length yc] → Calls Tryz.prog 309 #[.pointer (some ⟨g, 0, none⟩), .slice (some ⟨b, 0, none⟩) 2 2] W fun e w' => e = .returned (.int .i64 cc) ∧ Ch [] W w' := fun W hW b hb => by
    have := chk2_at (h.same hW (by simp)) (x := ⟨xa, xl, xc⟩) (y := ⟨ya, yl, yc⟩) hb (hx.ch hW).ok (hy.ch hW).ok
    rw [hc] at this
    exact this
  have HC := Lib.hid hC; clear hC
  have HCC := Lib.hid hc; clear hc
  have HX := Lib.hid hx; clear hx
  have HY := Lib.hid hy; clear hy
  have H := Lib.hid h; clear h
  have HCH := Lib.hid hch; clear hch
  generalize hWW : (if cc ≠ 0 then (G, 0, cc) else rres G R : Res) = WW
  have HWW := Lib.hid hWW; clear hWW
  have HR := Lib.hid hR; clear hR
  go_enter Tryz.func254, Tryz.ntmps254
  go_wp2_with fail
  refine calls_named fun W0 hW0 => ?_
  have hc0 : Ch [] w W0 := by rw [hW0]; exact (((Ch.refl _ _).alloc _).alloc _).alloc _
  have hbx : blk W0 w.heap.size [.slice xa xl.length xc] := by rw [hW0]; exact ((blk.new' _ _ (by simp)).alloc _).alloc _
  have hby : blk W0 (w.heap.size + 1) [.slice ya yl.length yc] := by rw [hW0]; exact (blk.new' _ _ (by simp)).alloc _
  have hbl : blk W0 (w.heap.size + 2) [.slice xa xl.length xc, .slice ya yl.length yc] := by rw [hW0]; exact blk.new' _ _ (by simp)
  clear hW0
  refine (HC.out W0 hc0 _ hbl).mono ?_
  rintro e w1 ⟨rfl, hc1⟩
  have HC01 := Lib.hid (hc0.trans hc1 (by simp))
  replace hbx := hbx.ch hc1 (by simp)
  have hbx0 := hbx.cell (i := 0) rfl
  have HBX := Lib.hid hbx; clear hbx
  replace hby := hby.ch hc1 (by simp)
  have hby0 := hby.cell (i := 0) rfl
  have HBY := Lib.hid hby; clear hby
  clear hbl hc0 hc1
  by_cases hcc : cc = 0
  · subst hcc
    obtain ⟨h1, h2⟩ : (∃ _ : ChkOk G xl.length xl, ChkOk G xl.length yl) := ⟨HCH.out rfl xl (by simp), HCH.out rfl yl (by simp)⟩
    have hww := HWW.out
    rw [if_neg (by simp)] at hww
    have hB := sbuildR_is (H.out.same HC01.out (by simp)) 316 #[.pointer (some ⟨w.heap.size, 0, none⟩), .pointer (some ⟨w.heap.size + 1, 0, none⟩)] fnvsLt1 (ltF (G, 0) ((nats xl).zip (nats yl))) (fun W m hm hW hM => by
      have hz1 := HC01.out.size
      have hall : Ch [] w W := HC01.out.trans hW (by simp)
      refine sLt1_is hM (x := nats xl) (y := nats yl) (xa := xa) (ya := ya) xl.length xc yc (by simp) (by simp [h2.len]) ((HBX.out.ch hW (by simp)).cell (i := 0) rfl) (by
        have := (HBY.out.ch hW (by simp)).cell (i := 0) rfl
        rw [h2.len] at this
        exact this) (by rw [h1.cast]; exact (HX.out.ok.sl.ch hall (by simp))) (by rw [h2.cast]; exact (HY.out.ok.sl.ch hall (by simp))) (fun k hk => ?_) (fun k hk => ?_) h1.lt h2.lt
      · have := HX.out.apart k hk
        refine ⟨fun hk2 => ?_, by have := hall.size; omega⟩
        simp only [List.mem_cons] at hk2
        rcases hk2 with e | e
        · omega
        · exact this.1 e
      · have := HY.out.apart k hk
        refine ⟨fun hk2 => ?_, by have := hall.size; omega⟩
        simp only [List.mem_cons] at hk2
        rcases hk2 with e | e
        · omega
        · exact this.1 e)
    rw [HR.out, hww] at hB
    have HB := Lib.hid hB; clear hB
    clear hww h1 h2
    go_wp2_with fail
    refine HB.out.mono ?_
    rintro e w2 ⟨rfl, hg⟩
    have HG := Lib.hid hg; clear hg
    go_wp2_with fail
    go_ret2
    exact ⟨rfl, GTo.since HC01.out HG.out⟩
  · have hww := HWW.out
    rw [if_pos (by simpa using hcc)] at hww
    subst hww
    have hq : ((cc : Int) != 0) = true := by simp; omega
    have HQ := Lib.hid hcc; clear hcc
    go_wp2_with fail
    go_ret2
    exact ⟨rfl, GTo.same H.out HC01.out⟩
end
end Go.Proofs.YtehljgigebhddaaGreat
namespace Go.Aig
/-- a state that is right -/
structure SOk (G : Gra) (s : Mk) : Prop where
  ok : Ok s.1
  ext : Ext G s.1
  err : s.2 = 0 ∨ s.2 = 201
theorem SOk.start {G : Gra} (h : Ok G) : SOk G (G, 0) := ⟨h, .refl _, .inl rfl⟩
theorem rstep_sok {G : Gra} {s : Mk} (h : SOk G s) {Y : Res} (hY : s.2 = 0 → RFull s.1 Y) : SOk G (rstep s Y).1 ∧ (rstep s Y).2 < 2 * (rstep s Y).1.1.nodes.length ∧ Ext s.1 (rstep s Y).1.1 := by
  have hp := h.ok.wf.pos
  by_cases h0 : s.2 = 0
  · have hF := hY h0
    by_cases h1 : Y.2.2 = 0
    · rw [rstep_ok h0 h1]
      exact ⟨⟨hF.ok.ok, h.ext.trans hF.ok.ext, .inl rfl⟩, hF.ok.lt, hF.ok.ext⟩
    · rw [rstep_no h0 h1, hF.keep h1]
      exact ⟨⟨h.ok, h.ext, .inr rfl⟩, by show 0 < 2 * s.1.nodes.length; omega, .refl _⟩
  · rw [rstep_bad h0]
    exact ⟨h, by show 0 < 2 * s.1.nodes.length; omega, .refl _⟩
/-- a state and a word that are right -/
structure LOk (G : Gra) (R : Mk × List Nat) : Prop where
  s : SOk G R.1
  lt : ∀ r ∈ R.2, r < 2 * R.1.1.nodes.length
structure VOk (G : Gra) (R : Mk × Nat) : Prop where
  s : SOk G R.1
  lt : R.2 < 2 * R.1.1.nodes.length
theorem LOk.snoc {G : Gra} {R : Mk × List Nat} (h : LOk G R) {s' : Mk} {r : Nat} (hs : SOk G s') (he : Ext R.1.1 s'.1) (hr : r < 2 * s'.1.nodes.length) : LOk G (s', R.2 ++ [r]) :=
  ⟨hs, fun q hq => by
    rcases List.mem_append.1 hq with hq | hq
    · exact he.lt (h.lt q hq)
    · rw [List.mem_singleton.1 hq]; exact hr⟩
theorem eachF_lok {G : Gra} (hG : Ok G) {f : Gra → Nat → Nat → Res} (hf : Full2 f) (l : List (Nat × Nat)) (hl : ∀ p ∈ l, p.1 < 2 * G.nodes.length ∧ p.2 < 2 * G.nodes.length) : LOk G (eachF (rop f) (G, 0) l) := by
  have : ∀ (l : List (Nat × Nat)) (q : Mk × List Nat), LOk G q → (∀ p ∈ l, p.1 < 2 * G.nodes.length ∧ p.2 < 2 * G.nodes.length) → LOk G (l.foldl (eachS (rop f)) q) := by
    intro l
    induction l with
    | nil => intro q h _; exact h
    | cons p l ih =>
      intro q h hl
      have hp := hl p (by simp)
      obtain ⟨h1, h2, h3⟩ := rstep_sok h.s (Y := f q.1.1 p.1 p.2) (fun _ => hf _ h.s.ok _ _ (h.s.ext.lt hp.1) (h.s.ext.lt hp.2))
      exact ih _ (h.snoc h1 h3 h2) (fun p hp => hl p (by simp [hp]))
  exact this l _ ⟨.start hG, by simp⟩ hl
theorem ltF_vok {G : Gra} (hG : Ok G) (l : List (Nat × Nat)) (hl : ∀ p ∈ l, p.1 < 2 * G.nodes.length ∧ p.2 < 2 * G.nodes.length) : VOk G (ltF (G, 0) l) := by
  have : ∀ (l : List (Nat × Nat)) (q : Mk × Nat), VOk G q → (∀ p ∈ l, p.1 < 2 * G.nodes.length ∧ p.2 < 2 * G.nodes.length) → VOk G (l.foldl ltS q) := by
    intro l
    induction l with
    | nil => intro q h _; exact h
    | cons p l ih =>
      intro q h hl
      have hp := hl p (by simp)
      obtain ⟨h1, h2, h3⟩ := rstep_sok h.s (Y := rXor q.1.1 p.1 p.2) (fun _ => rXor_full h.s.ok (h.s.ext.lt hp.1) (h.s.ext.lt hp.2))
      obtain ⟨k1, k2, k3⟩ := rstep_sok h1 (Y := rMux (rstep q.1 (rXor q.1.1 p.1 p.2)).1.1 (rstep q.1 (rXor q.1.1 p.1 p.2)).2 p.2 q.2) (fun _ => rMux_full h1.ok h2 (h1.ext.lt hp.2) (h3.lt h.lt))
      exact ih _ ⟨k1, k2⟩ (fun p hp => hl p (by simp [hp]))
  exact this l _ ⟨.start hG, by have := hG.wf.pos; show 0 < 2 * G.nodes.length; omega⟩ hl
theorem sumF_lok {G : Gra} (hG : Ok G) (n : Nat) (l : List (Nat × Nat)) (hl : ∀ p ∈ l, p.1 < 2 * G.nodes.length ∧ p.2 < 2 * G.nodes.length) {c : Nat} (hc : c < 2 * G.nodes.length) : LOk G (sumW n (G, 0) l c) := by
  have : ∀ (l : List (Nat × Nat)) (q : Mk × List Nat × Nat), LOk G (q.1, q.2.1) → q.2.2 < 2 * q.1.1.nodes.length → (∀ p ∈ l, p.1 < 2 * G.nodes.length ∧ p.2 < 2 * G.nodes.length) → LOk G ((l.foldl (sumS n) q).1, (l.foldl (sumS n) q).2.1) := by
    intro l
    induction l with
    | nil => intro q h _ _; exact h
    | cons p l ih =>
      intro q h hq hl
      have hp := hl p (by simp)
      obtain ⟨h1, h2, h3⟩ := rstep_sok h.s (Y := rXor q.1.1 p.1 p.2) (fun _ => rXor_full h.s.ok (h.s.ext.lt hp.1) (h.s.ext.lt hp.2))
      obtain ⟨k1, k2, k3⟩ := rstep_sok h1 (Y := rXor (sXor q.1 p.1 p.2).1.1 (sXor q.1 p.1 p.2).2 q.2.2) (fun _ => rXor_full h1.ok h2 (h3.lt hq))
      have hl2 : ∀ p ∈ l, p.1 < 2 * G.nodes.length ∧ p.2 < 2 * G.nodes.length := fun p hp => hl p (by simp [hp])
      rw [List.foldl_cons]
      unfold sumS
      dsimp only
      split
      · obtain ⟨a1, a2, a3⟩ := rstep_sok k1 (Y := and (sXor (sXor q.1 p.1 p.2).1 (sXor q.1 p.1 p.2).2 q.2.2).1.1 p.1 p.2) (fun _ => and_full k1.ok (k1.ext.lt hp.1) (k1.ext.lt hp.2))
        obtain ⟨b1, b2, b3⟩ := rstep_sok a1 (Y := and (sAnd (sXor (sXor q.1 p.1 p.2).1 (sXor q.1 p.1 p.2).2 q.2.2).1 p.1 p.2).1.1 (sXor q.1 p.1 p.2).2 q.2.2) (fun _ => and_full a1.ok (a3.lt (k3.lt h2)) (a3.lt (k3.lt (h3.lt hq))))
        obtain ⟨c1, c2, c3⟩ := rstep_sok b1 (Y := rOr (sAnd (sAnd (sXor (sXor q.1 p.1 p.2).1 (sXor q.1 p.1 p.2).2 q.2.2).1 p.1 p.2).1 (sXor q.1 p.1 p.2).2 q.2.2).1.1 (sAnd (sXor (sXor q.1 p.1 p.2).1 (sXor q.1 p.1 p.2).2 q.2.2).1 p.1 p.2).2 (sAnd (sAnd (sXor (sXor q.1 p.1 p.2).1 (sXor q.1 p.1 p.2).2 q.2.2).1 p.1 p.2).1 (sXor q.1 p.1 p.2).2 q.2.2).2) (fun _ => rOr_full b1.ok (b3.lt a2) b2)
        exact ih _ (h.snoc c1 ((((h3.trans k3).trans a3).trans b3).trans c3) (((a3.trans b3).trans c3).lt k2)) c2 hl2
      · exact ih _ (h.snoc k1 (h3.trans k3) k2) (k3.lt (h3.lt hq)) hl2
  exact this l _ ⟨.start hG, by simp⟩ hc hl
/-- a result that is right -/
structure WOk (G : Gra) (R : Gra × List Nat × Nat) : Prop where
  ok : Ok R.1
  ext : Ext G R.1
  lt : ∀ r ∈ R.2.1, r < 2 * R.1.nodes.length
theorem LOk.res {G : Gra} (hG : Ok G) {R : Mk × List Nat} (h : LOk G R) : WOk G (wres G R) := by
  unfold wres
  split
  · exact ⟨hG, .refl _, by simp⟩
  · exact ⟨h.s.ok, h.s.ext, h.lt⟩
theorem VOk.res {G : Gra} (hG : Ok G) {R : Mk × Nat} (h : VOk G R) : Ok (rres G R).1 ∧ Ext G (rres G R).1 ∧ (rres G R).2.1 < 2 * (rres G R).1.nodes.length := by
  have := hG.wf.pos
  unfold rres
  split
  · exact ⟨hG, .refl _, by show 0 < 2 * G.nodes.length; omega⟩
  · exact ⟨h.s.ok, h.s.ext, h.lt⟩
theorem refG_ok {G : Gra} (hG : Ok G) {ws : List (List Int)} {R : Mk × Nat} (h : chk G ws = 0 → VOk G R) : Ok (refG G ws R).1 ∧ Ext G (refG G ws R).1 ∧ (refG G ws R).2.1 < 2 * (refG G ws R).1.nodes.length := by
  have := hG.wf.pos
  unfold refG
  split
  · exact ⟨hG, .refl _, by show 0 < 2 * G.nodes.length; omega⟩
  · rename_i hc
    exact (h (by simpa using hc)).res hG
theorem chk_zip {G : Gra} {x y : List Int} (h : chk G [x, y] = 0) : ∀ p ∈ (nats x).zip (nats y), p.1 < 2 * G.nodes.length ∧ p.2 < 2 * G.nodes.length :=
  zip_lt (chk_ok h x (by simp)).lt (chk_ok h y (by simp)).lt
theorem Ok.small {G : Gra} (h : Ok G) : 2 * G.nodes.length ≤ 131072 := by have := h.room; have := h.most; omega
/-- the negation of what is made -/
def negG (R : Res) : Res := if R.2.2 ≠ 0 then (R.1, 0, R.2.2) else (R.1, neg R.2.1, 0)
end Go.Aig
namespace Go.Proofs.YtehljgigebhddaaGreat
open Go.RowKit Go.Mem Go.Aig
section
variable {w : World} {g : Nat} {G : Gra} {F : List Nat}
set_option maxRecDepth 100000 in
set_option maxHeartbeats 2000000 in
theorem sturned_is {a : Option Addr} {l : List Nat} (n cap : Nat) (hn : l.length = n) (hm : n ≤ 1000000) (h : Sl w a (l.map fun (r : Nat) => (r : Int))) (hs : ∀ r ∈ l, r ≤ 1000000) : Calls Tryz.prog 335 #[.slice a n cap] w fun e w' => ∃ v, e = .returned v ∧ row w' 52 1 v n (refsCells (l.map neg)) ∧ (∀ q ∈ v.ownBlock.toList, w.heap.size ≤ q) ∧ Ch [] w w' := by
  subst hn
  have H := Lib.hid h; clear h
  go_enter Tryz.func335, Tryz.ntmps335
  go_wp2_with fail
  go_loopw [3, 8] (fun o i wr => ∃ k : Nat, k ≤ l.length ∧ i = .int .i64 k ∧ Ch [] w wr ∧ row wr 52 1 o k (refsCells ((l.take k).map neg)) ∧ ∀ q ∈ o.ownBlock.toList, w.heap.size ≤ q) (fun _ i _ => l.length - (intOf i).toNat)
  case atStart => exact ⟨0, by omega, rfl, Ch.refl _ _, ⟨rfl, .inl ⟨rfl, rfl⟩⟩, by simp⟩
  case round =>
    obtain ⟨k, hk, rfl, hc, hrow, hlo⟩ := hrel
    obtain ⟨oa, oc, rfl⟩ := row.shape hrow
    by_cases hlt : k < l.length
    · obtain ⟨x, hx⟩ : ∃ x, l[k]? = some x := ⟨_, List.getElem?_eq_getElem hlt⟩
      have hsu : refsCells ((l.take (k + 1)).map neg) = refsCells ((l.take k).map neg) ++ [.int .i64 (neg x)] := by unfold refsCells; rw [List.take_add_one, hx]; simp
      obtain ⟨xb, xo, rfl, hcl⟩ := H.out.cells k x (by simp [hx])
      have c0 := (hc.cell (cell_lt hcl) (by simp)).trans hcl
      have HN := Not_any x wr (hs x (List.mem_of_getElem? hx))
      have HSU := Lib.hid hsu; clear hsu hx hcl
      have hcA : Ch [] wr (wr.alloc (.cells #[.int .i64 (neg x)] 52)) := (Ch.refl _ _).alloc _
      have hrA := hrow.ch hcA (by simp)
      have hbA : blk (wr.alloc (.cells #[.int .i64 (neg x)] 52)) wr.heap.size [.int .i64 (neg x)] := blk.new' _ _ rfl
      have HRA := Lib.hid hrA; clear hrA hrow
      have HBA := Lib.hid hbA; clear hbA
      have HCA := Lib.hid hcA; clear hcA
      have HC := Lib.hid hc; clear hc
      have HLO := Lib.hid hlo; clear hlo
      go_wp2_with fail
      refine HN.mono ?_
      rintro e w2 ⟨rfl, rfl⟩
      go_wp2_with (at_builtin; go_loud (refine wpList_append_row slRefs rfl _ _ rfl (v := .slice oa k oc) (n := k) (xs := refsCells ((l.take k).map neg)) rfl HRA.out (ad := ⟨wr.heap.size, 0, none⟩) (m := 1) (c := 1) (news := [.int .i64 (neg x)]) rfl rfl (news_blk HBA.out) (by simp [Value.oneCell']) (by omega) (by omega) ?_; intro v' w4 hown4 hC4 hf4; have HO4 := Lib.hid hown4; clear hown4; have HC4 := Lib.hid hC4; clear hC4; have HF4 := Lib.hid hf4; clear hf4))
      go_roundw
      case rel =>
        obtain ⟨q1, q2⟩ := app_step HC.out HCA.out HLO.out HC4.out HF4.out
        refine ⟨k + 1, by omega, by go_num, q1, ?_, q2⟩
        rw [HSU.out]; exact HO4.out
      case measure => simp [intOf]; omega
    · have hkn : k = l.length := by omega
      rw [hkn, List.take_of_length_le (Nat.le_refl _)] at hrow
      rw [hkn] at hlo
      rw [hkn]
      have HROW := Lib.hid hrow; clear hrow
      have HLO := Lib.hid hlo; clear hlo
      have HC := Lib.hid hc; clear hc hkn
      go_wp2_with fail
      go_ret
      exact ⟨.slice oa l.length oc, rfl, HROW.out, HLO.out, HC.out⟩
set_option maxRecDepth 100000 in
set_option maxHeartbeats 2000000 in
theorem ssum_is (h : GIn w g G F) {x y : List Nat} {xa ya : Option Addr} {c0 : Nat} (len xc yc : Nat) (hxl : x.length = len) (hyl : y.length = len) (hlen : len ≤ 1000) (hc0 : c0 < 2 * G.nodes.length)
    (hx : Sl w xa (x.map fun (r : Nat) => (r : Int))) (hy : Sl w ya (y.map fun (r : Nat) => (r : Int))) (hxa : ∀ k ∈ ablk xa, k ∉ F ∧ k < w.heap.size) (hya : ∀ k ∈ ablk ya, k ∉ F ∧ k < w.heap.size) (hxr : ∀ r ∈ x, r < 2 * G.nodes.length) (hyr : ∀ r ∈ y, r < 2 * G.nodes.length) :
    Calls Tryz.prog 334 #[.pointer (some ⟨g, 0, none⟩), .slice xa len xc, .slice ya len yc, .int .i64 c0] w fun e w' => ∃ v, e = .returned (.tuple #[v, .int .i64 (wres G (sumW len (G, 0) (x.zip y) c0)).2.2]) ∧ GVo w g (wres G (sumW len (G, 0) (x.zip y) c0)).1 [] F v (wres G (sumW len (G, 0) (x.zip y) c0)).2.1 w' := by
  have hFl := h.lt
  have hB : ∀ W, Ch [] w W → W.heap.size = w.heap.size + 4 → blk W w.heap.size [.pointer (some ⟨g, 0, none⟩)] → blk W (w.heap.size + 1) [.slice xa len xc] → blk W (w.heap.size + 2) [.slice ya len yc] → blk W (w.heap.size + 3) [.int .i64 c0] →
      Calls Tryz.prog 173 #[.pointer (some ⟨g, 0, none⟩), .func (.func 348) #[] #[.pointer (some ⟨w.heap.size + 1, 0, none⟩), .pointer (some ⟨w.heap.size + 2, 0, none⟩), .pointer (some ⟨w.heap.size + 3, 0, none⟩), .pointer (some ⟨w.heap.size, 0, none⟩)]] W fun e w' => ∃ v, e = .returned (.tuple #[v, .int .i64 (wres G (sumW len (G, 0) (x.zip y) c0)).2.2]) ∧ GVo W g (wres G (sumW len (G, 0) (x.zip y) c0)).1 [w.heap.size + 3] F v (wres G (sumW len (G, 0) (x.zip y) c0)).2.1 w' := by
    intro W hW hz bg bx b2 bc
    refine sbuildW_is (h.same hW (by simp)) 348 _ fnvssum1 _ [w.heap.size + 3] (fun W2 m hm hW2 hM => ?_)
    have hall := hW.trans hW2 (by simp)
    have hz2 := hall.size
    have hnot : ∀ k, k < w.heap.size + 3 → k ∉ F → k ∉ m :: (w.heap.size + 3) :: F := fun k hk hkF => by
      simp only [List.mem_cons, not_or]
      exact ⟨by omega, by omega, hkF⟩
    refine ssum1_is hM (x := x) (y := y) (xa := xa) (ya := ya) len xc yc hxl hyl hlen ((bx.ch hW2 (by simp)).cell (i := 0) rfl) ((b2.ch hW2 (by simp)).cell (i := 0) rfl) (bc.ch hW2 (by simp)) ((bg.ch hW2 (by simp)).cell (i := 0) rfl) hc0 (hnot _ (by omega) (fun hk => by have := hFl _ hk; omega)) (hnot _ (by omega) (fun hk => by have := hFl _ hk; omega)) (fun hk => ?_) (hx.ch hall (by simp)) (hy.ch hall (by simp)) (fun k hk => ⟨hnot k (by have := (hxa k hk).2; omega) (hxa k hk).1, by have := (hxa k hk).2; omega⟩) (fun k hk => ⟨hnot k (by have := (hya k hk).2; omega) (hya k hk).1, by have := (hya k hk).2; omega⟩) hxr hyr
    simp only [List.mem_cons] at hk
    rcases hk with e | e
    · omega
    · have := hFl _ e; omega
  have HB := Lib.hid hB; clear hB
  generalize wres G (sumW len (G, 0) (x.zip y) c0) = R at *
  clear hx hy hxa hya hxr hyr h
  go_enter Tryz.func334, Tryz.ntmps334
  go_wp2_with fail
  refine calls_named fun W0 hW0 => ?_
  have hcW : Ch [] w W0 := by rw [hW0]; exact ((((Ch.refl _ _).alloc _).alloc _).alloc _).alloc _
  have hz : W0.heap.size = w.heap.size + 4 := by rw [hW0]; simp
  have hbg : blk W0 w.heap.size [.pointer (some ⟨g, 0, none⟩)] := by rw [hW0]; exact (((blk.new' _ _ (by simp)).alloc _).alloc _).alloc _
  have hbx : blk W0 (w.heap.size + 1) [.slice xa len xc] := by rw [hW0]; exact ((blk.new' _ _ (by simp)).alloc _).alloc _
  have hby : blk W0 (w.heap.size + 2) [.slice ya len yc] := by rw [hW0]; exact (blk.new' _ _ (by simp)).alloc _
  have hbc : blk W0 (w.heap.size + 3) [.int .i64 c0] := by rw [hW0]; exact blk.new' _ _ (by simp)
  clear hW0
  refine (HB.out W0 hcW hz hbg hbx hby hbc).mono ?_
  rintro e w1 ⟨v, rfl, hg⟩
  have HG := Lib.hid hg; clear hg
  have HCW := Lib.hid hcW; clear hcW
  go_wp2_with fail
  go_ret2
  obtain ⟨F', k1, k2, k3, k4, k5, k6⟩ := HG.out
  have hs := HCW.out.size
  exact ⟨v, rfl, F', k1, (HCW.out.mono (F' := F) (by simp)).trans k2 (fun k hk => by
    simp only [List.cons_append, List.nil_append, List.mem_cons] at hk
    rcases hk with e | e
    · right; omega
    · exact .inl e), fun k hk => (k3 k hk).imp id (fun e => by omega), k4, k5, fun k hk => ⟨by have := (k6 k hk).1; omega, (k6 k hk).2⟩⟩
set_option maxRecDepth 100000 in
set_option maxHeartbeats 2000000 in
theorem sAdd_is (h : GIn w g G F) {x y : WV} (hx : WVin w F x) (hy : WVin w F y) :
    Calls Tryz.prog 293 #[.pointer (some ⟨g, 0, none⟩), x.val, y.val] w fun e w' => ∃ v, e = .returned (.tuple #[v, .int .i64 (wordG G [x.l, y.l] (sumW x.l.length (G, 0) ((nats x.l).zip (nats y.l)) 0)).2.2]) ∧ GVo w g (wordG G [x.l, y.l] (sumW x.l.length (G, 0) ((nats x.l).zip (nats y.l)) 0)).1 [] F v (wordG G [x.l, y.l] (sumW x.l.length (G, 0) ((nats x.l).zip (nats y.l)) 0)).2.1 w' := by
  have hFl := h.lt
  have hxlen := hx.ok.len
  have hylen := hy.ok.len
  obtain ⟨xa, xl, xc⟩ := x
  obtain ⟨ya, yl, yc⟩ := y
  simp only [WV.val] at *
  unfold wordG
  have hch := chk_ok (G := G) (x0 := xl) (ws := [yl])
  have hcs := chk_small G [xl, yl]
  generalize hR : sumW xl.length (G, 0) ((nats xl).zip (nats yl)) 0 = R
  generalize hc : chk G [xl, yl] = cc at *
  have hC : ∀ W, Ch [] w W → ∀ b, blk W b [.slice xa xl.length xc, .slice ya yl.length yc] → Calls Tryz.prog 309 #[.pointer (some ⟨g, 0, none⟩), .slice (some ⟨b, 0, none⟩) 2 2] W fun e w' => e = .returned (.int .i64 cc) ∧ Ch [] W w' := fun W hW b hb => by
    have := chk2_at (h.same hW (by simp)) (x := ⟨xa, xl, xc⟩) (y := ⟨ya, yl, yc⟩) hb (hx.ch hW).ok (hy.ch hW).ok
    rw [hc] at this
    exact this
  have HC := Lib.hid hC; clear hC
  have HCC := Lib.hid hc; clear hc
  have HX := Lib.hid hx; clear hx
  have HY := Lib.hid hy; clear hy
  have H := Lib.hid h; clear h
  have HCH := Lib.hid hch; clear hch
  generalize hWW : (if cc ≠ 0 then (G, [], cc) else wres G R : Gra × List Nat × Nat) = WW
  have HWW := Lib.hid hWW; clear hWW
  have HR := Lib.hid hR; clear hR
  go_enter Tryz.func293, Tryz.ntmps293
  go_wp2_with fail
  refine calls_named fun W0 hW0 => ?_
  have hc0 : Ch [] w W0 := by rw [hW0]; exact (Ch.refl _ _).alloc _
  have hbl : blk W0 w.heap.size [.slice xa xl.length xc, .slice ya yl.length yc] := by rw [hW0]; exact blk.new' _ _ (by simp)
  clear hW0
  refine (HC.out W0 hc0 _ hbl).mono ?_
  rintro e w1 ⟨rfl, hc1⟩
  have HC01 := Lib.hid (hc0.trans hc1 (by simp))
  clear hbl hc0 hc1
  by_cases hcc : cc = 0
  · subst hcc
    obtain ⟨h1, h2⟩ : (∃ _ : ChkOk G xl.length xl, ChkOk G xl.length yl) := ⟨HCH.out rfl xl (by simp), HCH.out rfl yl (by simp)⟩
    have hww := HWW.out
    rw [if_neg (by simp)] at hww
    have hB := ssum_is (H.out.same HC01.out (by simp)) (x := nats xl) (y := nats yl) (xa := xa) (ya := ya) (c0 := 0) xl.length xc yc (by simp) (by simp [h2.len]) (by have := h1.r2; omega) (by have := H.out.ok.wf.pos; omega) (by rw [h1.cast]; exact (HX.out.ok.sl.ch HC01.out (by simp))) (by rw [h2.cast]; exact (HY.out.ok.sl.ch HC01.out (by simp))) (HX.out.ch HC01.out).apart (HY.out.ch HC01.out).apart h1.lt h2.lt
    rw [HR.out, hww] at hB
    have hB2 : Calls Tryz.prog 334 #[.pointer (some ⟨g, 0, none⟩), .slice xa xl.length xc, .slice ya yl.length yc, .int .i64 0] w1 fun e w' => ∃ v, e = .returned (.tuple #[v, .int .i64 WW.2.2]) ∧ GVo w1 g WW.1 [] F v WW.2.1 w' := by rw [h2.len]; exact hB
    have HB := Lib.hid hB2; clear hB hB2
    clear hww h1 h2 HX HY hxlen hylen HCH HC
    go_wp2_with fail
    refine HB.out.mono ?_
    rintro e w2 ⟨v, rfl, hg⟩
    have HG := Lib.hid hg; clear hg
    go_wp2_with fail
    go_ret2
    exact ⟨v, rfl, GVo.since HC01.out HG.out⟩
  · have hww := HWW.out
    rw [if_pos (by simpa using hcc)] at hww
    subst hww
    have hq : ((cc : Int) != 0) = true := by simp; omega
    have HQ := Lib.hid hcc; clear hcc
    go_wp2_with fail
    go_ret2
    exact ⟨_, rfl, GVo.none H.out HC01.out⟩
set_option maxRecDepth 100000 in
set_option maxHeartbeats 2000000 in
theorem sSub_is (h : GIn w g G F) {x y : WV} (hx : WVin w F x) (hy : WVin w F y) :
    Calls Tryz.prog 298 #[.pointer (some ⟨g, 0, none⟩), x.val, y.val] w fun e w' => ∃ v, e = .returned (.tuple #[v, .int .i64 (wordG G [x.l, y.l] (sumW x.l.length (G, 0) ((nats x.l).zip ((nats y.l).map neg)) 1)).2.2]) ∧ GVo w g (wordG G [x.l, y.l] (sumW x.l.length (G, 0) ((nats x.l).zip ((nats y.l).map neg)) 1)).1 [] F v (wordG G [x.l, y.l] (sumW x.l.length (G, 0) ((nats x.l).zip ((nats y.l).map neg)) 1)).2.1 w' := by
  have hFl := h.lt
  have hxlen := hx.ok.len
  have hylen := hy.ok.len
  obtain ⟨xa, xl, xc⟩ := x
  obtain ⟨ya, yl, yc⟩ := y
  simp only [WV.val] at *
  unfold wordG
  have hch := chk_ok (G := G) (x0 := xl) (ws := [yl])
  have hcs := chk_small G [xl, yl]
  generalize hR : sumW xl.length (G, 0) ((nats xl).zip ((nats yl).map neg)) 1 = R
  generalize hc : chk G [xl, yl] = cc at *
  have hC : ∀ W, Ch [] w W → ∀ b, blk W b [.slice xa xl.length xc, .slice ya yl.length yc] → Calls Tryz.prog 309 #[.pointer (some ⟨g, 0, none⟩), .slice (some ⟨b, 0, none⟩) 2 2] W fun e w' => e = .returned (.int .i64 cc) ∧ Ch [] W w' := fun W hW b hb => by
    have := chk2_at (h.same hW (by simp)) (x := ⟨xa, xl, xc⟩) (y := ⟨ya, yl, yc⟩) hb (hx.ch hW).ok (hy.ch hW).ok
    rw [hc] at this
    exact this
  have HC := Lib.hid hC; clear hC
  have HCC := Lib.hid hc; clear hc
  have HX := Lib.hid hx; clear hx
  have HY := Lib.hid hy; clear hy
  have H := Lib.hid h; clear h
  have HCH := Lib.hid hch; clear hch
  generalize hWW : (if cc ≠ 0 then (G, [], cc) else wres G R : Gra × List Nat × Nat) = WW
  have HWW := Lib.hid hWW; clear hWW
  have HR := Lib.hid hR; clear hR
  go_enter Tryz.func298, Tryz.ntmps298
  go_wp2_with fail
  refine calls_named fun W0 hW0 => ?_
  have hc0 : Ch [] w W0 := by rw [hW0]; exact (Ch.refl _ _).alloc _
  have hbl : blk W0 w.heap.size [.slice xa xl.length xc, .slice ya yl.length yc] := by rw [hW0]; exact blk.new' _ _ (by simp)
  clear hW0
  refine (HC.out W0 hc0 _ hbl).mono ?_
  rintro e w1 ⟨rfl, hc1⟩
  have HC01 := Lib.hid (hc0.trans hc1 (by simp))
  clear hbl hc0 hc1
  by_cases hcc : cc = 0
  · subst hcc
    obtain ⟨h1, h2⟩ : (∃ _ : ChkOk G xl.length xl, ChkOk G xl.length yl) := ⟨HCH.out rfl xl (by simp), HCH.out rfl yl (by simp)⟩
    have hww := HWW.out
    rw [if_neg (by simp)] at hww
    have hT := sturned_is (w := w1) (a := ya) (l := nats yl) yl.length yc (by simp) hylen (by rw [h2.cast]; exact (HY.out.ok.sl.ch HC01.out (by simp))) (fun r hr => by have := h2.lt r hr; have := H.out.ok.small; omega)
    have hyl := h2.len
    have H1 := Lib.hid h1; clear h1
    have H2 := Lib.hid h2; clear h2
    have HWR := Lib.hid hww; clear hww
    have HYL := Lib.hid hyl; clear hyl
    go_wp2_with fail
    refine hT.mono ?_
    rintro e w2 ⟨v, rfl, hrow, hlo, hc2⟩
    obtain ⟨ta, tc, rfl⟩ := row.shape hrow
    have hsl := Sl.of_row' hrow (by simp) hylen
    have hcc := HC01.out.trans hc2 (by simp)
    have hz01 := HC01.out.size
    have hB := ssum_is (H.out.same hcc (by simp)) (x := nats xl) (y := (nats yl).map neg) (xa := xa) (ya := ta) (c0 := 1) xl.length xc tc (by simp) (by simp [HYL.out]) (by have := H1.out.r2; omega) (by have := H.out.ok.wf.pos; omega) (by rw [H1.out.cast]; exact (HX.out.ok.sl.ch hcc (by simp))) hsl (HX.out.ch hcc).apart (fun k hk => by
      cases ta with
      | none => simp [ablk] at hk
      | some p =>
        simp only [ablk, List.mem_singleton] at hk
        subst hk
        have h1 := hlo p.block (by simp)
        have h2 := (hrow.lt p.block rfl).2
        exact ⟨fun hk => by have := hFl _ hk; omega, h2⟩) H1.out.lt (fun r hr => by
      obtain ⟨q, hq, rfl⟩ := List.mem_map.1 hr
      exact neg_lt (H2.out.lt q hq))
    rw [HR.out, HWR.out] at hB
    have hB2 : Calls Tryz.prog 334 #[.pointer (some ⟨g, 0, none⟩), .slice xa xl.length xc, .slice ta yl.length tc, .int .i64 1] w2 fun e w' => ∃ v, e = .returned (.tuple #[v, .int .i64 WW.2.2]) ∧ GVo w2 g WW.1 [] F v WW.2.1 w' := by rw [HYL.out]; exact hB
    have HB := Lib.hid hB2; clear hB hB2
    have HCC := Lib.hid hcc; clear hcc
    clear hrow hlo hc2 hsl hT
    go_wp2_with fail
    refine HB.out.mono ?_
    rintro e w3 ⟨v, rfl, hg⟩
    have HG := Lib.hid hg; clear hg
    go_wp2_with fail
    go_ret2
    exact ⟨v, rfl, GVo.since HCC.out HG.out⟩
  · have hww := HWW.out
    rw [if_pos (by simpa using hcc)] at hww
    subst hww
    have hq : ((cc : Int) != 0) = true := by simp; omega
    have HQ := Lib.hid hcc; clear hcc
    go_wp2_with fail
    go_ret2
    exact ⟨_, rfl, GVo.none H.out HC01.out⟩
end
end Go.Proofs.YtehljgigebhddaaGreat
namespace Go.Aig
end Go.Aig
namespace Go.Proofs.YtehljgigebhddaaGreat
open Go.RowKit Go.Mem Go.Aig
section
variable {w : World} {g : Nat} {G : Gra} {F : List Nat}
set_option maxRecDepth 100000 in
set_option maxHeartbeats 2000000 in
theorem sLe_is (h : GIn w g G F) {x y : WV} (hx : WVin w F x) (hy : WVin w F y) :
    Calls Tryz.prog 297 #[.pointer (some ⟨g, 0, none⟩), x.val, y.val] w fun e w' => e = .returned (.tuple #[.int .i64 (negG (refG G [y.l, x.l] (ltF (G, 0) ((nats y.l).zip (nats x.l))))).2.1, .int .i64 (negG (refG G [y.l, x.l] (ltF (G, 0) ((nats y.l).zip (nats x.l))))).2.2]) ∧ GTo w g (negG (refG G [y.l, x.l] (ltF (G, 0) ((nats y.l).zip (nats x.l))))).1 F w' := by
  have HE := sLt_is h hy hx
  have hlt : (refG G [y.l, x.l] (ltF (G, 0) ((nats y.l).zip (nats x.l)))).2.1 ≤ 1000000 := by
    have h1 := refG_ok h.ok (ws := [y.l, x.l]) (R := ltF (G, 0) ((nats y.l).zip (nats x.l))) (fun hc => ltF_vok h.ok _ (chk_zip hc))
    have := h1.1.small
    omega
  generalize refG G [y.l, x.l] (ltF (G, 0) ((nats y.l).zip (nats x.l))) = R at *
  obtain ⟨xa, xl, xc⟩ := x
  obtain ⟨ya, yl, yc⟩ := y
  simp only [WV.val] at *
  clear hx hy h
  have HN := fun W => Not_any R.2.1 W hlt
  unfold negG
  by_cases he : R.2.2 = 0
  · have hE := HE.mono (R' := fun e w' => e = .returned (.tuple #[.int .i64 R.2.1, .int .i64 0]) ∧ GTo w g R.1 F w') (by rintro e w' ⟨rfl, hg⟩; exact ⟨by rw [he]; rfl, hg⟩)
    rw [if_neg (by simp [he])]
    have HEE := Lib.hid he; clear he HE
    go_enter Tryz.func297, Tryz.ntmps297
    go_wp2_with fail
    refine hE.mono ?_
    rintro e w1 ⟨rfl, hg⟩
    have HG := Lib.hid hg; clear hg
    go_wp2_with fail
    refine (HN _).mono ?_
    rintro e w2 ⟨rfl, rfl⟩
    go_wp2_with fail
    go_ret2
    exact ⟨rfl, HG.out⟩
  · have hq : ((R.2.2 : Int) != 0) = true := by simp; omega
    rw [if_pos he]
    have HEE := Lib.hid he; clear he
    go_enter Tryz.func297, Tryz.ntmps297
    go_wp2_with fail
    refine HE.mono ?_
    rintro e w1 ⟨rfl, hg⟩
    have HG := Lib.hid hg; clear hg
    go_wp2_with fail
    go_ret2
    exact ⟨rfl, HG.out⟩
theorem run_make_refs (w : World) (n : Nat) (hn : n ≤ 1000000) : (Instr.makeSlice 45 (.int .i64 n) (.int .i64 n)).run Tryz.prog w = .ok (.slice (some ⟨w.heap.size, 0, none⟩) n n) (w.alloc (.cells (refsCells (List.replicate n 0)).toArray 52)) := by
  obtain ⟨i, hi, hz, hs, hb⟩ := info_parts infoRef
  have := run_make (P := Tryz.prog) w 45 52 i (.int .i64 0) Tryz.underlying45 hi hz .i64 .i64 n n (by omega) (by omega) (by rw [hb]; omega) (by omega)
  rw [this, hs]
  have e : madeCells (Value.int .i64 0).cells ((n : Int).toNat * 1) = (refsCells (List.replicate n 0)).toArray := by
    apply Array.ext'
    have h := toList_madeCells_one (Value.int .i64 0) ((n : Int).toNat * 1)
    simpa [refsCells, Value.cells] using h
  rw [e]; simp
end
end Go.Proofs.YtehljgigebhddaaGreat
namespace Go.Aig
/-- the number that some bits are -/
def bitsVal : List Bool → Nat
  | [] => 0
  | b :: l => b.toNat + 2 * bitsVal l
theorem bitsVal_lt : ∀ (l : List Bool), bitsVal l < 2 ^ l.length
  | [] => by simp [bitsVal]
  | b :: l => by
    have := bitsVal_lt l
    have hb : b.toNat ≤ 1 := by cases b <;> decide
    show b.toNat + 2 * bitsVal l < 2 ^ (l.length + 1)
    rw [Nat.pow_succ]; omega
theorem bitsVal_snoc : ∀ (l : List Bool) (b : Bool), bitsVal (l ++ [b]) = bitsVal l + b.toNat * 2 ^ l.length
  | [], b => by simp [bitsVal]
  | c :: l, b => by
    show c.toNat + 2 * bitsVal (l ++ [b]) = c.toNat + 2 * bitsVal l + b.toNat * 2 ^ (l.length + 1)
    rw [bitsVal_snoc l b, Nat.pow_succ, Nat.mul_add, ← Nat.mul_assoc, Nat.mul_comm 2 b.toNat, Nat.add_assoc]
    congr 2
    rw [Nat.mul_comm (2 ^ l.length) 2, Nat.mul_assoc]
theorem bitsVal_succ {l : List Bool} {k : Nat} {b : Bool} (h : l[k]? = some b) (hk : k < 32) : bits .or .u32 (bitsVal (l.take k) : Int) ((b.toNat * 2 ^ k : Nat) : Int) = (bitsVal (l.take (k + 1)) : Int) ∧ b.toNat * 2 ^ k < 4294967296 := by
  have hlt := (List.getElem?_eq_some_iff.1 h).1
  have hlen : (l.take k).length = k := by rw [List.length_take]; omega
  have h1 := bitsVal_lt (l.take k)
  rw [hlen] at h1
  have h2 : (2 : Nat) ^ k ≤ 2 ^ 31 := Nat.pow_le_pow_right (by omega) (by omega)
  have hb : b.toNat ≤ 1 := by cases b <;> decide
  have h3 : b.toNat * 2 ^ k < 4294967296 := by
    have : b.toNat * 2 ^ k ≤ 1 * 2 ^ k := Nat.mul_le_mul_right _ hb
    omega
  refine ⟨?_, h3⟩
  rw [u32_or_nat _ _ (by omega) h3, List.take_add_one, h]
  show ((bitsVal (l.take k) ||| b.toNat * 2 ^ k : Nat) : Int) = (bitsVal (l.take k ++ [b]) : Int)
  rw [bitsVal_snoc, hlen, Nat.or_comm, Nat.mul_comm, ← Nat.two_pow_add_eq_or_of_lt h1, Nat.add_comm]
end Go.Aig
namespace Go.Proofs.YtehljgigebhddaaGreat
open Go.RowKit Go.Mem Go.Aig
section
variable {w : World}
set_option maxRecDepth 100000 in
set_option maxHeartbeats 1000000 in
theorem Bit_is (x i : Nat) (hx : x < 4294967296) (hi : i < 32) : Calls Tryz.prog 172 #[.int .u32 x, .int .i64 i] w fun e w' => e = .returned (.bool (x.testBit i)) ∧ w = w' := by
  have h1 : decide ((0 : Int) ≤ i) = true := decide_eq_true (by omega)
  have h2 : decide ((i : Int) < 32) = true := decide_eq_true (by omega)
  go_enter Tryz.func172, Tryz.ntmps172
  go_wp2_with fail
  go_ret
  refine ⟨?_, rfl⟩
  have e : bits .and .u32 ((x : Int) / 2 ^ i) 1 = ((x / 2 ^ i % 2 : Nat) : Int) := by
    have h3 : x / 2 ^ i < 4294967296 := Nat.lt_of_le_of_lt (Nat.div_le_self _ _) hx
    have h4 := u32_and_nat (x / 2 ^ i) 1 h3 (by omega)
    rw [Nat.and_one_is_mod] at h4
    have h5 : ((x / 2 ^ i : Nat) : Int) = (x : Int) / 2 ^ i := by rw [Int.natCast_ediv]; simp
    rw [← h5]
    exact h4
  show Ending.returned (.bool (bits .and .u32 ((x : Int) / 2 ^ i) 1 == 1)) = _
  rw [e, Nat.testBit_eq_decide_div_mod_eq]
  rcases Nat.mod_two_eq_zero_or_one (x / 2 ^ i) with h3 | h3 <;> rw [h3] <;> rfl
set_option maxRecDepth 100000 in
set_option maxHeartbeats 1000000 in
theorem Most_is (n : Nat) (h1 : 1 ≤ n) (h2 : n ≤ 16) : Calls Tryz.prog 233 #[.int .i64 n] w fun e w' => e = .returned (.tuple #[.int .u32 (2 ^ n - 1 : Nat), .int .i64 0]) ∧ w = w' := by
  go_enter Tryz.func233, Tryz.ntmps233
  go_wp2_with fail
  go_ret2
  refine ⟨?_, rfl⟩
  have h3 : 2 ^ n ≤ 2 ^ 16 := Nat.pow_le_pow_right (by omega) h2
  have h4 : 1 ≤ 2 ^ n := Nat.one_le_two_pow
  have e : ((2 : Int) ^ n % 4294967296 - 1) % 4294967296 = ((2 ^ n - 1 : Nat) : Int) := by
    have h5 : (2 : Int) ^ n = ((2 ^ n : Nat) : Int) := by simp
    rw [h5]
    omega
  show Ending.returned (.tuple #[.int .u32 (((2 : Int) ^ n % 4294967296 - 1) % 4294967296), .int .i64 0]) = _
  rw [e]
set_option maxRecDepth 100000 in
set_option maxHeartbeats 1000000 in
theorem Most_no (n : Int) (h1 : n < 1 ∨ 16 < n) : Calls Tryz.prog 233 #[.int .i64 n] w fun e w' => e = .returned (.tuple #[.int .u32 0, .int .i64 220]) ∧ w = w' := by
  by_cases h0 : n < 1
  · have hd : decide (n < 1) = true := decide_eq_true h0
    go_enter Tryz.func233, Tryz.ntmps233
    go_wp2_with fail
    go_ret2
    exact ⟨rfl, rfl⟩
  · have hd : decide (n < 1) = false := decide_eq_false h0
    have hd2 : decide (16 < n) = true := decide_eq_true (by omega)
    go_enter Tryz.func233, Tryz.ntmps233
    go_wp2_with fail
    go_ret2
    exact ⟨rfl, rfl⟩
set_option maxRecDepth 100000 in
set_option maxHeartbeats 1000000 in
theorem btruth_is (b : Bool) : Calls Tryz.prog 336 #[.bool b] w fun e w' => e = .returned (.int .u32 b.toNat) ∧ w = w' := by
  cases b
  · go_enter Tryz.func336, Tryz.ntmps336
    go_wp2_with fail
    go_ret
    exact ⟨rfl, rfl⟩
  · go_enter Tryz.func336, Tryz.ntmps336
    go_wp2_with fail
    go_ret
    exact ⟨rfl, rfl⟩
/-- a slice of truths that is read -/
abbrev Sb (w : World) (a : Option Addr) (l : List Bool) : Prop := Sv w a (l.map Value.bool)
set_option maxRecDepth 100000 in
set_option maxHeartbeats 1000000 in
theorem FromBits_no {a : Option Addr} (n c : Nat) (h : n < 1 ∨ 16 < n) (hm : n ≤ 1000000) : Calls Tryz.prog 299 #[.slice a n c] w fun e w' => e = .returned (.tuple #[.int .u32 0, .int .i64 220]) ∧ w = w' := by
  have HM := Most_no (w := w) n (by omega)
  go_enter Tryz.func299, Tryz.ntmps299
  go_wp2_with fail
  refine HM.mono ?_
  rintro e w' ⟨rfl, rfl⟩
  go_wp2_with fail
  go_ret2
  exact ⟨rfl, rfl⟩
set_option maxRecDepth 100000 in
set_option maxHeartbeats 2000000 in
theorem FromBits_is {a : Option Addr} {l : List Bool} (n c : Nat) (hn : l.length = n) (h1 : 1 ≤ n) (h2 : n ≤ 16) (hS : Sb w a l) : Calls Tryz.prog 299 #[.slice a n c] w fun e w' => e = .returned (.tuple #[.int .u32 (bitsVal l), .int .i64 0]) ∧ w = w' := by
  subst hn
  have HM := Most_is (w := w) l.length h1 h2
  have HS := Lib.hid hS; clear hS
  go_enter Tryz.func299, Tryz.ntmps299
  go_wp2_with fail
  refine HM.mono ?_
  rintro e w' ⟨rfl, rfl⟩
  go_wp2_with fail
  go_loopw [6, 20] (fun x i wr => ∃ k : Nat, k ≤ l.length ∧ i = .int .i64 k ∧ wr = w ∧ x = .int .u32 (bitsVal (l.take k))) (fun _ i _ => l.length - (intOf i).toNat)
  case atStart => exact ⟨0, by omega, rfl, rfl, rfl⟩
  case round =>
    obtain ⟨k, hk, rfl, rfl, rfl⟩ := hrel
    by_cases hlt : k < l.length
    · obtain ⟨b, hb⟩ : ∃ b, l[k]? = some b := ⟨_, List.getElem?_eq_getElem hlt⟩
      obtain ⟨xb, xo, rfl, hcl⟩ := HS.out.cells k (.bool b) (by simp [hb])
      have HT := btruth_is (w := wr) b
      have hs := bitsVal_succ hb (by omega)
      generalize hX : bitsVal (l.take k) = X at *
      generalize hX2 : bitsVal (l.take (k + 1)) = X2 at *
      have HX2 := Lib.hid hX2; clear hX2
      have HSS := Lib.hid hs; clear hs hX hb
      go_wp2_with fail
      refine HT.mono ?_
      rintro e w2 ⟨rfl, rfl⟩
      go_wp2_with fail
      go_roundw
      case rel =>
        refine ⟨k + 1, by omega, by go_num, trivial, ?_⟩
        have h3 := HSS.out.1
        have h4 := HSS.out.2
        rw [HX2.out, ← h3]
        have h5 : ((b.toNat * 2 ^ k : Nat) : Int) = (b.toNat : Int) * 2 ^ k := by simp
        have h6 : (b.toNat : Int) * 2 ^ k % 4294967296 = ((b.toNat * 2 ^ k : Nat) : Int) := by rw [← h5]; omega
        rw [h6]
      case measure => simp [intOf]; omega
    · have hkn : l.take k = l := List.take_of_length_le (by omega)
      rw [hkn]
      clear hkn
      go_wp2_with fail
      go_ret2
      exact ⟨rfl, rfl⟩
end
end Go.Proofs.YtehljgigebhddaaGreat
namespace Go.Aig
def constL (x n : Nat) : List Nat := (List.range n).map fun i => (x.testBit i).toNat
def inG (G : Gra) (n : Int) : Gra × List Nat × Nat := if rightW n then wres G (inF (G, 0) n.toNat) else (G, [], 230)
theorem constL_succ (x n : Nat) : constL x (n + 1) = constL x n ++ [(x.testBit n).toNat] := by
  unfold constL
  rw [List.range_succ, List.map_append]; rfl
end Go.Aig
namespace Go.Proofs.YtehljgigebhddaaGreat
open Go.RowKit Go.Mem Go.Aig
section
variable {w : World}
/-- what makes a word out of nothing leaves -/
def WNew (w : World) (v : Value) (xs : List Value) (w' : World) : Prop := row w' 52 1 v xs.length xs ∧ (∀ q ∈ v.ownBlock.toList, w.heap.size ≤ q) ∧ Ch [] w w'
theorem WNew.nil {w w' : World} (h : Ch [] w w') : WNew w (.slice none 0 0) [] w' := ⟨⟨rfl, .inl ⟨rfl, rfl⟩⟩, by simp, h⟩
set_option maxRecDepth 100000 in
set_option maxHeartbeats 2000000 in
theorem sConst_is (x : Nat) (hx : x < 4294967296) (n : Int) : Calls Tryz.prog 60 #[.int .u32 x, .int .i64 n] w fun e w' => ∃ v, e = .returned (.tuple #[v, .int .i64 (if rightW n then 0 else 230 : Nat)]) ∧ WNew w v (if rightW n then refsCells (constL x n.toNat) else []) w' := by
  have HR := sright_is (w := w) n
  cases hr : rightW n
  · rw [hr] at HR
    have H := Lib.hid hr; clear hr
    simp only [Bool.false_eq_true, if_false]
    go_enter Tryz.func60, Tryz.ntmps60
    go_wp2_with fail
    refine HR.mono ?_
    rintro e w' ⟨rfl, rfl⟩
    go_wp2_with fail
    go_ret2
    exact ⟨_, rfl, WNew.nil (Ch.refl _ _)⟩
  · rw [hr] at HR
    obtain ⟨k0, rfl, hk0⟩ : ∃ k0 : Nat, n = k0 ∧ k0 ≤ 17 := by
      unfold rightW at hr
      simp at hr
      exact ⟨n.toNat, by omega, by omega⟩
    have H := Lib.hid hr; clear hr
    simp only [if_true, Int.toNat_natCast]
    go_enter Tryz.func60, Tryz.ntmps60
    go_wp2_with fail
    refine HR.mono ?_
    rintro e w' ⟨rfl, rfl⟩
    clear HR
    go_wp2_with fail
    go_loopw [6, 13] (fun o i wr => ∃ k : Nat, k ≤ k0 ∧ i = .int .i64 k ∧ Ch [] w wr ∧ row wr 52 1 o k (refsCells (constL x k)) ∧ ∀ q ∈ o.ownBlock.toList, w.heap.size ≤ q) (fun _ i _ => k0 - (intOf i).toNat)
    case atStart => exact ⟨0, by omega, rfl, Ch.refl _ _, ⟨rfl, .inl ⟨rfl, rfl⟩⟩, by simp⟩
    case round =>
      obtain ⟨k, hk, rfl, hc, hrow, hlo⟩ := hrel
      obtain ⟨oa, oc, rfl⟩ := row.shape hrow
      by_cases hlt : k < k0
      · have HB := Bit_is (w := wr) x k hx (by omega)
        have hsu : refsCells (constL x (k + 1)) = refsCells (constL x k) ++ [.int .i64 ((x.testBit k).toNat : Nat)] := by rw [constL_succ]; simp [refsCells]
        have HSU := Lib.hid hsu; clear hsu
        have HC := Lib.hid hc; clear hc
        have HLO := Lib.hid hlo; clear hlo
        cases hb : x.testBit k
        · rw [hb] at HB HSU
          clear hb
          have hcA : Ch [] wr (wr.alloc (.cells #[.int .i64 0] 52)) := (Ch.refl _ _).alloc _
          have hrA := hrow.ch hcA (by simp)
          have hbA : blk (wr.alloc (.cells #[.int .i64 0] 52)) wr.heap.size [.int .i64 0] := blk.new' _ _ rfl
          have HRA := Lib.hid hrA; clear hrA hrow
          have HBA := Lib.hid hbA; clear hbA
          have HCA := Lib.hid hcA; clear hcA
          go_wp2_with fail
          refine HB.mono ?_
          rintro e w2 ⟨rfl, rfl⟩
          go_wp2_with (at_builtin; go_loud (refine wpList_append_row slRefs rfl _ _ rfl (v := .slice oa k oc) (n := k) (xs := refsCells (constL x k)) rfl HRA.out (ad := ⟨wr.heap.size, 0, none⟩) (m := 1) (c := 1) (news := [.int .i64 0]) rfl rfl (news_blk HBA.out) (by simp [Value.oneCell']) (by omega) (by omega) ?_; intro v' w4 hown4 hC4 hf4; have HO4 := Lib.hid hown4; clear hown4; have HC4 := Lib.hid hC4; clear hC4; have HF4 := Lib.hid hf4; clear hf4))
          go_roundw
          case rel =>
            obtain ⟨q1, q2⟩ := app_step HC.out HCA.out HLO.out HC4.out HF4.out
            refine ⟨k + 1, by omega, by go_num, q1, ?_, q2⟩
            rw [HSU.out]; exact HO4.out
          case measure => simp [intOf]; omega
        · rw [hb] at HB HSU
          clear hb
          have hcA : Ch [] wr (wr.alloc (.cells #[.int .i64 1] 52)) := (Ch.refl _ _).alloc _
          have hrA := hrow.ch hcA (by simp)
          have hbA : blk (wr.alloc (.cells #[.int .i64 1] 52)) wr.heap.size [.int .i64 1] := blk.new' _ _ rfl
          have HRA := Lib.hid hrA; clear hrA hrow
          have HBA := Lib.hid hbA; clear hbA
          have HCA := Lib.hid hcA; clear hcA
          go_wp2_with fail
          refine HB.mono ?_
          rintro e w2 ⟨rfl, rfl⟩
          go_wp2_with (at_builtin; go_loud (refine wpList_append_row slRefs rfl _ _ rfl (v := .slice oa k oc) (n := k) (xs := refsCells (constL x k)) rfl HRA.out (ad := ⟨wr.heap.size, 0, none⟩) (m := 1) (c := 1) (news := [.int .i64 1]) rfl rfl (news_blk HBA.out) (by simp [Value.oneCell']) (by omega) (by omega) ?_; intro v' w4 hown4 hC4 hf4; have HO4 := Lib.hid hown4; clear hown4; have HC4 := Lib.hid hC4; clear hC4; have HF4 := Lib.hid hf4; clear hf4))
          go_roundw
          case rel =>
            obtain ⟨q1, q2⟩ := app_step HC.out HCA.out HLO.out HC4.out HF4.out
            refine ⟨k + 1, by omega, by go_num, q1, ?_, q2⟩
            rw [HSU.out]; exact HO4.out
          case measure => simp [intOf]; omega
      · have hkn : k = k0 := by omega
        subst hkn
        have HROW := Lib.hid hrow; clear hrow
        have HLO := Lib.hid hlo; clear hlo
        have HC := Lib.hid hc; clear hc
        go_wp2_with fail
        go_ret2
        refine ⟨.slice oa k oc, rfl, ?_, HLO.out, HC.out⟩
        have := HROW.out
        simpa [refsCells, constL] using this
set_option maxRecDepth 100000 in
set_option maxHeartbeats 1000000 in
theorem Clref_w {x : WV} (h : WVok w x) (n : Nat) (hn : x.l.length = n) : Calls Tryz.prog 50 #[.slice x.a n x.c] w fun e w' => ∃ v, e = .returned v ∧ WNew w v (intCells x.l) w' := by
  obtain ⟨xa, xl, xc⟩ := x
  subst hn
  have hlen := h.len
  simp only at *
  cases xa with
  | none =>
    have hl : xl = [] := by
      cases xl with
      | nil => rfl
      | cons y l =>
        obtain ⟨b, o, e, _⟩ := h.sl.cells 0 y rfl
        cases e
    subst hl
    clear h
    go_enter Tryz.func50, Tryz.ntmps50
    go_wp2_with fail
    go_ret
    exact ⟨_, rfl, WNew.nil (Ch.refl _ _)⟩
  | some p =>
    have hO : row (w.alloc (.cells #[] 52)) 52 1 (.slice (some ⟨w.heap.size, 0, none⟩) 0 0) 0 [] := ⟨rfl, .inr ⟨w.heap.size, 0, #[], rfl, by omega, heap_alloc_new w _, by omega, by unfold maxLen; omega, rfl, rfl⟩⟩
    have hN : ∀ j u, (intCells xl)[j]? = some u → (w.alloc (.cells #[] 52)).cell? (p.add j) = some u := fun j u hu => by
      simp only [intCells, List.getElem?_map, Option.map_eq_some_iff] at hu
      obtain ⟨y, hy, rfl⟩ := hu
      obtain ⟨b, o, e, hc⟩ := h.sl.cells j y hy
      cases e
      rw [Addr.add_lit]
      exact (((Ch.refl [] w).alloc _).cell (cell_lt hc) (by simp)).trans hc
    have h1 : ∀ u ∈ intCells xl, u.oneCell' = true := fun u hu => by
      obtain ⟨r, _, rfl⟩ := List.mem_map.1 hu
      rfl
    have HO := Lib.hid hO; clear hO
    have HN := Lib.hid hN; clear hN h
    have H1 := Lib.hid h1; clear h1
    go_enter Tryz.func50, Tryz.ntmps50
    go_wp2_with (at_builtin; go_loud (refine wpList_append_row slRefs rfl _ _ rfl (v := .slice (some ⟨w.heap.size, 0, none⟩) 0 0) (n := 0) (xs := []) rfl HO.out (ad := p) (m := xl.length) (c := xc) (news := intCells xl) rfl (by simp [intCells]) HN.out H1.out (by omega) (by omega) ?_; intro v' w2 hown hC2 hfresh; have HOWN := Lib.hid hown; clear hown; have HC2 := Lib.hid hC2; clear hC2; have HFR := Lib.hid hfresh; clear hfresh))
    go_ret
    have hown := HOWN.out
    rw [Nat.zero_add, List.nil_append] at hown
    refine ⟨_, rfl, by simpa [intCells] using hown, fun k hk => ?_, (((Ch.refl [] w).alloc (.cells #[] 52))).trans HC2.out (by simp)⟩
    rcases HFR.out k (by simpa using hk) with e | e
    · simp at e; omega
    · simp at e; omega
end
end Go.Proofs.YtehljgigebhddaaGreat
namespace Go.Proofs.YtehljgigebhddaaGreat
open Go.RowKit Go.Mem Go.Aig
section
variable {w : World}
set_option maxRecDepth 100000 in
set_option maxHeartbeats 1000000 in
theorem sValue_is {x : WV} (hx : x.l.length ≤ 1000000) {a : Option Addr} {l : List Bool} (c : Nat) (hm : l.length ≤ 1000000) (hS : Sb w a l) :
    Calls Tryz.prog 217 #[x.val, .slice a l.length c] w fun e w' => e = .returned (.tuple #[.int .u32 (if 1 ≤ l.length ∧ l.length ≤ 16 ∧ l.length = x.l.length then bitsVal l else 0 : Nat), .int .i64 (if 1 ≤ l.length ∧ l.length ≤ 16 ∧ l.length = x.l.length then 0 else 230 : Nat)]) ∧ w = w' := by
  obtain ⟨xa, xl, xc⟩ := x
  simp only [WV.val] at *
  by_cases h1 : 1 ≤ l.length ∧ l.length ≤ 16
  · have HF := FromBits_is (w := w) l.length c rfl h1.1 h1.2 hS
    by_cases h2 : l.length = xl.length
    · have hq : ((l.length : Int) != (xl.length : Int)) = false := by rw [h2]; simp
      rw [if_pos ⟨h1.1, h1.2, h2⟩, if_pos ⟨h1.1, h1.2, h2⟩]
      clear h1 h2 hS
      go_enter Tryz.func217, Tryz.ntmps217
      go_wp2_with fail
      refine HF.mono ?_
      rintro e w' ⟨rfl, rfl⟩
      go_wp2_with fail
      go_ret2
      exact ⟨rfl, rfl⟩
    · have hq : ((l.length : Int) != (xl.length : Int)) = true := by simp; omega
      rw [if_neg (fun h => h2 h.2.2), if_neg (fun h => h2 h.2.2)]
      clear h1 h2 hS
      go_enter Tryz.func217, Tryz.ntmps217
      go_wp2_with fail
      refine HF.mono ?_
      rintro e w' ⟨rfl, rfl⟩
      go_wp2_with fail
      go_ret2
      exact ⟨rfl, rfl⟩
  · have HF := FromBits_no (w := w) (a := a) l.length c (by omega) hm
    rw [if_neg (fun h => h1 ⟨h.1, h.2.1⟩), if_neg (fun h => h1 ⟨h.1, h.2.1⟩)]
    clear h1 hS
    go_enter Tryz.func217, Tryz.ntmps217
    go_wp2_with fail
    refine HF.mono ?_
    rintro e w' ⟨rfl, rfl⟩
    go_wp2_with fail
    go_ret2
    exact ⟨rfl, rfl⟩
set_option maxRecDepth 100000 in
set_option maxHeartbeats 1000000 in
theorem sInput_is {g : Nat} {G : Gra} {F : List Nat} (h : GIn w g G F) (n : Int) : Calls Tryz.prog 65 #[.pointer (some ⟨g, 0, none⟩), .int .i64 n] w fun e w' => ∃ v, e = .returned (.tuple #[v, .int .i64 (inG G n).2.2]) ∧ GVo w g (inG G n).1 [] F v (inG G n).2.1 w' := by
  have hpos := h.ok.wf.pos
  have hFl := h.lt
  have hp0 : ((G.nodes.length : Int) == 0) = false := beqN (by omega)
  have hL : ∀ W, Ch [] w W → Calls Tryz.prog 49 #[.pointer (some ⟨g, 0, none⟩)] W fun e w' => e = .returned (.int .i64 G.nodes.length) ∧ W = w' := fun W hW => Len_g (h.same hW (by simp))
  have hr1 := h.ok.room
  have hr2 := h.ok.most
  unfold inG
  have HR := fun W => sright_is (w := W) n
  cases hr : rightW n
  · rw [hr] at HR
    clear hr
    simp only [Bool.false_eq_true, if_false]
    have H := Lib.hid h; clear h
    go_enter Tryz.func65, Tryz.ntmps65
    go_wp2_with fail
    refine calls_named fun W0 hW0 => ?_
    have hc0 : Ch [] w W0 := by rw [hW0]; exact ((Ch.refl _ _).alloc _).alloc _
    have hbn : blk W0 (w.heap.size + 1) [.int .i64 n] := by rw [hW0]; exact blk.new' _ _ (by simp)
    have hn0 := hbn.cell (i := 0) rfl
    clear hW0
    refine (hL W0 hc0).mono ?_
    rintro e w' ⟨rfl, rfl⟩
    have HC0 := Lib.hid hc0; clear hc0
    go_wp2_with fail
    refine (HR _).mono ?_
    rintro e w' ⟨rfl, rfl⟩
    go_wp2_with fail
    go_ret2
    exact ⟨_, rfl, GVo.none H.out HC0.out⟩
  · rw [hr] at HR
    obtain ⟨k0, rfl, hk0⟩ : ∃ k0 : Nat, n = k0 ∧ k0 ≤ 17 := by
      unfold rightW at hr
      simp at hr
      exact ⟨n.toNat, by omega, by omega⟩
    clear hr
    simp only [if_true, Int.toNat_natCast]
    have hB : ∀ W, Ch [] w W → blk W w.heap.size [.pointer (some ⟨g, 0, none⟩)] → blk W (w.heap.size + 1) [.int .i64 k0] → Calls Tryz.prog 173 #[.pointer (some ⟨g, 0, none⟩), .func (.func 174) #[] #[.pointer (some ⟨w.heap.size + 1, 0, none⟩), .pointer (some ⟨w.heap.size, 0, none⟩)]] W fun e w' => ∃ v, e = .returned (.tuple #[v, .int .i64 (wres G (inF (G, 0) k0)).2.2]) ∧ GVo W g (wres G (inF (G, 0) k0)).1 [] F v (wres G (inF (G, 0) k0)).2.1 w' := fun W hW hbg hbn =>
      sbuildW_is (h.same hW (by simp)) 174 _ fnvsInput1 _ [] (fun W2 m hm hW2 hM => sInput1_is hM (by omega) ((hbn.ch hW2 (by simp)).cell (i := 0) rfl) ((hbg.ch hW2 (by simp)).cell (i := 0) rfl) (fun hk => by
        have h1 := hbg.lt
        simp only [List.mem_cons] at hk
        rcases hk with e | e
        · omega
        · have := hFl _ e; omega))
    have HB := Lib.hid hB; clear hB
    generalize wres G (inF (G, 0) k0) = R at *
    have H := Lib.hid h; clear h
    go_enter Tryz.func65, Tryz.ntmps65
    go_wp2_with fail
    refine calls_named fun W0 hW0 => ?_
    have hc0 : Ch [] w W0 := by rw [hW0]; exact ((Ch.refl _ _).alloc _).alloc _
    have hbg : blk W0 w.heap.size [.pointer (some ⟨g, 0, none⟩)] := by rw [hW0]; exact (blk.new' _ _ (by simp)).alloc _
    have hbn : blk W0 (w.heap.size + 1) [.int .i64 k0] := by rw [hW0]; exact blk.new' _ _ (by simp)
    have hn0 := hbn.cell (i := 0) rfl
    have hg0 := hbg.cell (i := 0) rfl
    clear hW0
    refine (hL W0 hc0).mono ?_
    rintro e w' ⟨rfl, rfl⟩
    have HBB := HB.out W0 hc0 hbg hbn
    have HC0 := Lib.hid hc0; clear hc0
    clear hbg hbn
    go_wp2_with fail
    refine (HR _).mono ?_
    rintro e w' ⟨rfl, rfl⟩
    go_wp2_with fail
    refine HBB.mono ?_
    rintro e w1 ⟨v, rfl, hg⟩
    have HG := Lib.hid hg; clear hg
    go_wp2_with fail
    go_ret2
    exact ⟨v, rfl, GVo.since HC0.out HG.out⟩
end
end Go.Proofs.YtehljgigebhddaaGreat
namespace Go.Proofs.YtehljgigebhddaaGreat
open Go.RowKit Go.Mem Go.Aig
section
variable {w0 w : World} {g : Nat} {G : Gra} {F : List Nat}
theorem New_c (n : Nat) (h1 : 1 ≤ n) (h2 : n ≤ 65536) (hc : Ch [] w0 w) :
    Calls Tryz.prog 112 #[.int .i64 n] w fun e w' => ∃ g F, e = .returned (.tuple #[.pointer (some ⟨g, 0, none⟩), .int .i64 0]) ∧ Own w0 w' g (newG n) F := by
  refine (New_yes n h1 h2).mono ?_
  rintro e w' ⟨g, F, rfl, hg, hF, hch⟩
  exact ⟨g, F, rfl, hg, fun k hk => Nat.le_trans hc.size (hF k hk), hc.trans hch (by simp)⟩
end
end Go.Proofs.YtehljgigebhddaaGreat
namespace Go.Aig
def natInts (l : List Nat) : List Int := l.map fun (r : Nat) => (r : Int)
@[simp] theorem natInts_len (l : List Nat) : (natInts l).length = l.length := by simp [natInts]
end Go.Aig
namespace Go.Proofs.YtehljgigebhddaaGreat
open Go.RowKit Go.Mem Go.Aig
theorem refs_natInts (l : List Nat) : refsCells l = intCells (natInts l) := by simp [refsCells, intCells, natInts]
/-- a word that is held: its own array, apart from the graph's blocks -/
structure Held (w0 w : World) (F : List Nat) (v : Value) (l : List Int) : Prop where
  row : row w 52 1 v l.length (intCells l)
  len : l.length ≤ 1000000
  bd : ∀ r ∈ l, -9223372036854775808 ≤ r ∧ r ≤ 9223372036854775807
  own : ∀ k, v.ownBlock = some k → w0.heap.size ≤ k ∧ k ∉ F
theorem Held.keep {w0 w w' : World} {F F' : List Nat} {v : Value} {l : List Int} (h : Held w0 w F v l) (hc : Ch F w w') (hF : ∀ k ∈ F', k ∈ F ∨ w.heap.size ≤ k) : Held w0 w' F' v l :=
  ⟨h.row.ch hc (fun k hk => (h.own k hk).2), h.len, h.bd, fun k hk => ⟨(h.own k hk).1, fun hk2 => (hF k hk2).elim (h.own k hk).2 (fun e => by have := (h.row.lt k hk).2; omega)⟩⟩
theorem Held.in {w0 w : World} {F : List Nat} {a : Option Addr} {c n : Nat} {l : List Int} (h : Held w0 w F (.slice a n c) l) (hn : l.length = n) : WVin w F ⟨a, l, c⟩ := by
  have hr := h.row
  rw [hn] at hr
  refine ⟨⟨?_, h.bd, h.len⟩, fun k hk => ?_⟩
  · exact Sl.of_ints hr (by have := h.len; omega)
  · cases a with
    | none => simp [ablk] at hk
    | some p =>
      simp only [ablk, List.mem_singleton] at hk
      subst hk
      exact ⟨(h.own p.block rfl).2, (h.row.lt p.block rfl).2⟩
theorem Held.cap {w0 w : World} {F : List Nat} {a : Option Addr} {c n : Nat} {l : List Int} (h : Held w0 w F (.slice a n c) l) : n ≤ c := by
  rcases h.row.2 with ⟨e, _⟩ | ⟨g, cap, cur, e, _, _, hle, _⟩
  · cases e; omega
  · cases e; exact hle
/-- where a walk began, and blocks that are kept as they are -/
structure Base where
  w : World
  K : List (Nat × List Value) := []
instance : Coe World Base := ⟨fun w => ⟨w, []⟩⟩
/-- what is known along a walk: the graph, the words that are held, the blocks that are kept -/
structure Hold (w0 : Base) (w : World) (g : Nat) (G : Gra) (F : List Nat) (L : List (Value × List Int)) : Prop where
  own : Own w0.w w g G F
  held : ∀ p ∈ L, Held w0.w w F p.1 p.2
  kept : ∀ p ∈ w0.K, blk w p.1 p.2 ∧ w0.w.heap.size ≤ p.1 ∧ p.1 ∉ F
section
variable {w0 : Base} {w : World} {g : Nat} {G : Gra} {F : List Nat} {L : List (Value × List Int)}
theorem Hold.same {w' : World} (h : Hold w0 w g G F L) (hc : Ch [] w w') : Hold w0 w' g G F L :=
  ⟨h.own.same hc, fun p hp => (h.held p hp).keep (hc.mono (by simp)) (fun _ hk => .inl hk), fun p hp => ⟨(h.kept p hp).1.ch hc (by simp), (h.kept p hp).2⟩⟩
theorem Hold.keptTo {w' : World} {F' : List Nat} (h : Hold w0 w g G F L) (h2 : Ch F w w') (h3 : ∀ k ∈ F', k ∈ F ∨ w.heap.size ≤ k) : ∀ p ∈ w0.K, blk w' p.1 p.2 ∧ w0.w.heap.size ≤ p.1 ∧ p.1 ∉ F' := fun p hp => by
  obtain ⟨k1, k2, k3⟩ := h.kept p hp
  exact ⟨k1.ch h2 k3, k2, fun hin => (h3 _ hin).elim k3 (fun e => by have := k1.lt; omega)⟩
theorem Hold.to {w' : World} {G' : Gra} (h : Hold w0 w g G F L) (ht : GTo w g G' F w') : ∃ F', Hold w0 w' g G' F' L := by
  obtain ⟨F', h1, h2, h3, _⟩ := ht
  exact ⟨F', ⟨h1, fun k hk => (h3 k hk).elim (h.own.own k) (fun e => Nat.le_trans h.own.ch.size e), h.own.ch.trans h2 (fun k hk => .inr (h.own.own k hk))⟩, fun p hp => (h.held p hp).keep h2 h3, h.keptTo h2 h3⟩
theorem Hold.word {w' : World} {G' : Gra} {v : Value} {l : List Nat} (h : Hold w0 w g G F L) (ht : GVo w g G' [] F v l w') (hb : ∀ r ∈ l, r ≤ 1000000) (hl : l.length ≤ 1000000) : ∃ a c F', v = .slice a l.length c ∧ Hold w0 w' g G' F' ((.slice a l.length c, natInts l) :: L) := by
  obtain ⟨F', h1, h2, h3, h4, h5, h6⟩ := ht
  obtain ⟨a, c, rfl⟩ := row.shape h5
  obtain ⟨k1, k2⟩ := (h.to (G' := G') ⟨F', h1, h2, h3, h4⟩ : ∃ F', Hold w0 w' g G' F' L)
  refine ⟨a, c, F', rfl, ⟨⟨h1, fun k hk => (h3 k hk).elim (h.own.own k) (fun e => Nat.le_trans h.own.ch.size e), h.own.ch.trans h2 (fun k hk => .inr (h.own.own k hk))⟩, fun p hp => ?_, h.keptTo h2 h3⟩⟩
  rcases List.mem_cons.1 hp with rfl | hp
  · refine ⟨?_, by simpa using hl, fun r hr => ?_, fun k hk => ⟨Nat.le_trans h.own.ch.size (h6 k hk).1, (h6 k hk).2⟩⟩
    · simp only [natInts_len]
      rw [← refs_natInts]
      exact h5
    · obtain ⟨q, hq, rfl⟩ := List.mem_map.1 hr
      have := hb q hq
      omega
  · exact (h.held p hp).keep h2 h3
theorem Hold.new {w' : World} {v : Value} {l : List Int} (h : Hold w0 w g G F L) (ht : WNew w v (intCells l) w') (hb : ∀ r ∈ l, -9223372036854775808 ≤ r ∧ r ≤ 9223372036854775807) (hl : l.length ≤ 1000000) : ∃ a c, v = .slice a l.length c ∧ Hold w0 w' g G F ((.slice a l.length c, l) :: L) := by
  obtain ⟨h5, h6, h2⟩ := ht
  have e : (intCells l).length = l.length := by simp [intCells]
  rw [e] at h5
  obtain ⟨a, c, rfl⟩ := row.shape h5
  refine ⟨a, c, rfl, (h.same h2).own, fun p hp => ?_, (h.same h2).kept⟩
  rcases List.mem_cons.1 hp with rfl | hp
  · exact ⟨h5, hl, hb, fun k hk => ⟨Nat.le_trans h.own.ch.size (h6 k (by simpa using hk)), fun hk2 => by have := h.own.gin.lt k hk2; have := h6 k (by simpa using hk); omega⟩⟩
  · exact (h.same h2).held p hp
theorem Hold.at (h : Hold w0 w g G F L) {a : Option Addr} {n c : Nat} {l : List Int} (hp : (.slice a n c, l) ∈ L) (hn : l.length = n) : WVin w F ⟨a, l, c⟩ := (h.held _ hp).in hn
theorem Hold.sl (h : Hold w0 w g G F L) {a : Option Addr} {n c : Nat} {l : List Int} (hp : (.slice a n c, l) ∈ L) (hn : l.length = n) : Sl w a l := (h.at hp hn).ok.sl
theorem Hold.start {w0 : World} (h : Own w0 w g G F) : Hold w0 w g G F [] := ⟨h, by simp, fun p hp => by cases hp⟩
end
end Go.Proofs.YtehljgigebhddaaGreat
namespace Go.Proofs.YtehljgigebhddaaGreat
open Go.RowKit Go.Mem Go.Aig
section
variable {w0 : Base} {w : World} {g : Nat} {G : Gra} {F : List Nat} {L : List (Value × List Int)}
theorem Calls.word {fid : FuncId} {args : Array Value} (h : Hold w0 w g G F L) {R : Gra × List Nat × Nat} (hC : Calls Tryz.prog fid args w fun e w' => ∃ v, e = .returned (.tuple #[v, .int .i64 R.2.2]) ∧ GVo w g R.1 [] F v R.2.1 w') {G' : Gra} {l : List Nat} {e k : Nat} (hR : R = (G', l, e)) (hk : l.length = k) (hb : ∀ r ∈ l, r ≤ 1000000) (hl : k ≤ 1000000) :
    Calls Tryz.prog fid args w fun en w' => ∃ a c F', en = .returned (.tuple #[.slice a k c, .int .i64 e]) ∧ Hold w0 w' g G' F' ((.slice a k c, natInts l) :: L) := by
  subst hR hk
  refine hC.mono ?_
  rintro en w' ⟨v, rfl, hg⟩
  obtain ⟨a, c, F', rfl, hh⟩ := h.word hg hb hl
  exact ⟨a, c, F', rfl, hh⟩
theorem Calls.ref {fid : FuncId} {args : Array Value} (h : Hold w0 w g G F L) {R : Res} (hC : Calls Tryz.prog fid args w fun e w' => e = .returned (.tuple #[.int .i64 R.2.1, .int .i64 R.2.2]) ∧ GTo w g R.1 F w') {G' : Gra} {r e : Nat} (hR : R = (G', r, e)) :
    Calls Tryz.prog fid args w fun en w' => ∃ F', en = .returned (.tuple #[.int .i64 r, .int .i64 e]) ∧ Hold w0 w' g G' F' L := by
  subst hR
  refine hC.mono ?_
  rintro en w' ⟨rfl, hg⟩
  obtain ⟨F', hh⟩ := h.to hg
  exact ⟨F', rfl, hh⟩
theorem Calls.wnew {fid : FuncId} {args : Array Value} (h : Hold w0 w g G F L) {l : List Int} {e : Nat} (hC : Calls Tryz.prog fid args w fun en w' => ∃ v, en = .returned (.tuple #[v, .int .i64 e]) ∧ WNew w v (intCells l) w') {k : Nat} (hk : l.length = k) (hb : ∀ r ∈ l, -9223372036854775808 ≤ r ∧ r ≤ 9223372036854775807) (hl : k ≤ 1000000) :
    Calls Tryz.prog fid args w fun en w' => ∃ a c, en = .returned (.tuple #[.slice a k c, .int .i64 e]) ∧ Hold w0 w' g G F ((.slice a k c, l) :: L) := by
  subst hk
  refine hC.mono ?_
  rintro en w' ⟨v, rfl, hg⟩
  obtain ⟨a, c, rfl, hh⟩ := h.new hg hb hl
  exact ⟨a, c, rfl, hh⟩
theorem sInput_h (h : Hold w0 w g G F L) (i : Int) {G' : Gra} {l : List Nat} {e k : Nat} (hR : inG G i = (G', l, e)) (hk : l.length = k) (hb : ∀ r ∈ l, r ≤ 1000000) (hl : k ≤ 1000000) :
    Calls Tryz.prog 65 #[.pointer (some ⟨g, 0, none⟩), .int .i64 i] w fun en w' => ∃ a c F', en = .returned (.tuple #[.slice a k c, .int .i64 e]) ∧ Hold w0 w' g G' F' ((.slice a k c, natInts l) :: L) := Calls.word h (sInput_is h.own.gin i) hR hk hb hl
theorem sConst_h (h : Hold w0 w g G F L) (x : Nat) (hx : x < 4294967296) (n : Nat) (hn : rightW n = true) :
    Calls Tryz.prog 60 #[.int .u32 x, .int .i64 n] w fun en w' => ∃ a c, en = .returned (.tuple #[.slice a n c, .int .i64 0]) ∧ Hold w0 w' g G F ((.slice a n c, natInts (constL x n)) :: L) := by
  have hc := sConst_is (w := w) x hx n
  rw [hn] at hc
  simp only [if_true, refs_natInts, Int.toNat_natCast] at hc
  have hb : ∀ r ∈ natInts (constL x n), -9223372036854775808 ≤ r ∧ r ≤ 9223372036854775807 := fun r hr => by
    obtain ⟨q, hq, rfl⟩ := List.mem_map.1 hr
    obtain ⟨i, _, rfl⟩ := List.mem_map.1 hq
    cases x.testBit i <;> decide
  have hn2 : n ≤ 17 := by unfold rightW at hn; simp at hn; omega
  exact Calls.wnew h hc (by simp [constL]) hb (by omega)
theorem Eqref_h (h : Hold w0 w g G F L) {xa ya : Option Addr} {xl yl : List Int} {n m xc yc : Nat} (hx : (.slice xa n xc, xl) ∈ L) (hxn : xl.length = n) (hy : (.slice ya m yc, yl) ∈ L) (hym : yl.length = m) {q : Bool} (hq : decide (xl = yl) = q) : Calls Tryz.prog 56 #[.slice xa n xc, .slice ya m yc] w fun e w' => e = .returned (.bool q) ∧ Hold w0 w' g G F L := by
  subst hq
  have hc := Eqref_is (w := w) xc yc (h.sl hx hxn) (h.sl hy hym)
  simp only [hxn, hym] at hc
  refine hc.mono ?_
  rintro e w' ⟨rfl, hc⟩
  exact ⟨rfl, h.same hc⟩
theorem Eqref_c (h : Hold w0 w g G F L) {xa : Option Addr} {xl : List Int} {n xc : Nat} (hx : (.slice xa n xc, xl) ∈ L) (hxn : xl.length = n) {b m : Nat} {ys : List Int} (hb : blk w b (intCells ys)) (hm : ys.length = m) (hm2 : m ≤ 1000000) {q : Bool} (hq : decide (xl = ys) = q) : Calls Tryz.prog 56 #[.slice xa n xc, .slice (some ⟨b, 0, none⟩) m m] w fun e w' => e = .returned (.bool q) ∧ Hold w0 w' g G F L := by
  subst hq
  have hs : Sl w (some ⟨b, 0, none⟩) ys := ⟨fun i x hx => ⟨b, 0, rfl, by rw [Nat.zero_add]; exact hb.cell (by simp [intCells, hx])⟩, by omega⟩
  have hc := Eqref_is (w := w) xc m (h.sl hx hxn) hs
  simp only [hxn, hm] at hc
  refine hc.mono ?_
  rintro e w' ⟨rfl, hc⟩
  exact ⟨rfl, h.same hc⟩
end
end Go.Proofs.YtehljgigebhddaaGreat
namespace Go.Proofs.YtehljgigebhddaaGreat
open Go.RowKit Go.Mem Go.Aig
section
theorem New_h {w : World} (n : Nat) (h1 : 1 ≤ n) (h2 : n ≤ 65536) :
    Calls Tryz.prog 112 #[.int .i64 n] w fun e w' => ∃ g F, e = .returned (.tuple #[.pointer (some ⟨g, 0, none⟩), .int .i64 0]) ∧ Hold w w' g (newG n) F [] := by
  refine (New_c (w0 := w) n h1 h2 (Ch.refl _ _)).mono ?_
  rintro e w' ⟨g, F, rfl, ho⟩
  exact ⟨g, F, rfl, .start ho⟩
theorem Hold.ch {w0 : Base} {w : World} {g : Nat} {G : Gra} {F : List Nat} {L : List (Value × List Int)} (h : Hold w0 w g G F L) : Ch [] w0.w w := h.own.ch
theorem Len_h {w0 : Base} {w : World} {g : Nat} {G : Gra} {F : List Nat} {L : List (Value × List Int)} (h : Hold w0 w g G F L) {n : Nat} (hn : G.nodes.length = n) : Calls Tryz.prog 49 #[.pointer (some ⟨g, 0, none⟩)] w fun e w' => e = .returned (.int .i64 n) ∧ Hold w0 w' g G F L := by
  subst hn
  exact (Len_g h.own.gin).mono fun e w' ⟨h1, h2⟩ => ⟨h1, h2 ▸ h⟩
theorem And_h {w0 : Base} {w : World} {g : Nat} {G : Gra} {F : List Nat} {L : List (Value × List Int)} (h : Hold w0 w g G F L) (a b : Int) (ba : a ≤ 9223372036854775807) (bb : b ≤ 9223372036854775807) {G' : Gra} {r e : Nat} (hR : doAnd G a b = (G', r, e)) :
    Calls Tryz.prog 103 #[.pointer (some ⟨g, 0, none⟩), .int .i64 a, .int .i64 b] w fun en w' => ∃ F', en = .returned (.tuple #[.int .i64 r, .int .i64 e]) ∧ Hold w0 w' g G' F' L := Calls.ref h (And_g h.own.gin a b ba bb) hR
end
end Go.Proofs.YtehljgigebhddaaGreat
namespace Go.Aig
/-- a graph of inputs alone -/
def gIn (most n : Nat) : Gra := ⟨most, ⟨1, 0, 0, 0⟩ :: List.replicate n ⟨2, 0, 0, 0⟩⟩
/-- the references of n inputs behind s others -/
def rIn (s n : Nat) : List Nat := (List.range n).map fun i => 2 * (s + i + 1)
theorem inF_gIn (most s : Nat) : ∀ n, s + n < most → inF (gIn most s, 0) n = ((gIn most (s + n), 0), rIn s n)
  | 0, _ => rfl
  | n + 1, h => by
    rw [inF_succ, inF_gIn most s n (by omega)]
    unfold inS sPut put
    have hl : (gIn most (s + n)).nodes.length = s + n + 1 := by simp [gIn]
    dsimp only
    rw [if_neg (by rw [hl]; show ¬ most ≤ s + n + 1; omega), rstep_ok rfl rfl, hl]
    have h1 : ({ gIn most (s + n) with nodes := (gIn most (s + n)).nodes ++ [⟨2, 0, 0, 0⟩] } : Gra) = gIn most (s + (n + 1)) := by
      unfold gIn
      show (⟨most, _⟩ : Gra) = ⟨most, _⟩
      rw [List.cons_append, ← List.replicate_succ']
      rfl
    dsimp only
    rw [h1]
    congr 1
    unfold rIn
    rw [List.range_succ, List.map_append]
    rfl
theorem inG_gIn {most s n : Nat} (h1 : 1 ≤ n) (h2 : n ≤ 17) (h : s + n < most) : inG (gIn most s) n = (gIn most (s + n), rIn s n, 0) := by
  unfold inG
  have : rightW n = true := by unfold rightW; simp; omega
  rw [this, if_pos rfl]
  simp only [Int.toNat_natCast]
  rw [inF_gIn most s n h]
  rfl
@[simp] theorem rIn_len (s n : Nat) : (rIn s n).length = n := by simp [rIn]
theorem rIn_le {s n r : Nat} (h : r ∈ rIn s n) : r ≤ 2 * (s + n) ∧ 2 ≤ r ∧ r % 2 = 0 := by
  obtain ⟨i, hi, rfl⟩ := List.mem_map.1 h
  have := List.mem_range.1 hi
  omega
end Go.Aig
namespace Go.Proofs.YtehljgigebhddaaGreat
open Go.RowKit Go.Mem Go.Aig
set_option maxRecDepth 100000 in
set_option maxHeartbeats 4000000 in
theorem Pair_is (w : World) (wd : Nat) (hw : wd ≤ 255) : Calls Tryz.prog 64 #[.int .u8 wd] w fun e w' => ∃ g F xa xc ya yc, e = .returned (.tuple #[.pointer (some ⟨g, 0, none⟩), .slice xa (wd % 5 + 1) xc, .slice ya (wd % 5 + 1) yc]) ∧
    Hold w w' g (gIn 4000 (2 * (wd % 5 + 1))) F [(.slice ya (wd % 5 + 1) yc, natInts (rIn (wd % 5 + 1) (wd % 5 + 1))), (.slice xa (wd % 5 + 1) xc, natInts (rIn 0 (wd % 5 + 1)))] := by
  obtain ⟨n, hn, hn5⟩ : ∃ n, wd % 5 + 1 = n ∧ n ≤ 5 := ⟨_, rfl, by omega⟩
  have hn1 : 1 ≤ n := by omega
  rw [hn]
  have hq : 1 + (wd : Int) % 5 = n := by omega
  have HQ := Lib.hid hq
  have hN := New_h (w := w) 4000 (by decide) (by decide)
  have HN := Lib.hid hN; clear hN
  clear hn
  go_enter Tryz.func64, Tryz.ntmps64
  go_wp2_with fail
  refine HN.out.mono ?_
  rintro e w1 ⟨g, F1, rfl, ho⟩
  have HO := Lib.hid ho; clear ho HN
  go_wp2_with fail
  refine (sInput_h HO.out n (G' := gIn 4000 n) (l := rIn 0 n) (e := 0) (k := n) (by have := inG_gIn (most := 4000) (s := 0) hn1 (by omega) (by omega); rw [Nat.zero_add] at this; exact this) (by simp) (fun r hr => by have := rIn_le hr; omega) (by omega)).mono ?_
  rintro e w2 ⟨xa, xc, F2, rfl, ho⟩
  clear HO; have HO := Lib.hid ho; clear ho
  go_wp2_with fail
  refine (sInput_h HO.out n (G' := gIn 4000 (2 * n)) (l := rIn n n) (e := 0) (k := n) (by have := inG_gIn (most := 4000) (s := n) hn1 (by omega) (by omega); rw [show n + n = 2 * n from by omega] at this; exact this) (by simp) (fun r hr => by have := rIn_le hr; omega) (by omega)).mono ?_
  rintro e w3 ⟨ya, yc, F3, rfl, ho⟩
  clear HO; have HO := Lib.hid ho; clear ho
  go_wp2_with fail
  go_ret3
  exact ⟨g, F3, xa, xc, ya, yc, rfl, HO.out⟩
end Go.Proofs.YtehljgigebhddaaGreat
namespace Go.Aig
def rConstN (x n : Nat) : List Nat := (List.range n).map fun i => x / 2 ^ i % 2
theorem rConstN_succ (x n : Nat) : rConstN x (n + 1) = rConstN x n ++ [x / 2 ^ n % 2] := by
  unfold rConstN
  rw [List.range_succ, List.map_append]; rfl
theorem rConstN_eq (x n : Nat) : rConstN x n = constL x n := by
  unfold rConstN constL
  refine List.map_congr_left fun i _ => ?_
  rw [Nat.testBit_eq_decide_div_mod_eq]
  rcases Nat.mod_two_eq_zero_or_one (x / 2 ^ i) with h | h <;> rw [h] <;> rfl
end Go.Aig
namespace Go.Proofs.YtehljgigebhddaaGreat
open Go.RowKit Go.Mem Go.Aig
theorem slBools : SliceTy Tryz.prog 65 4 1 1 (.bool false) := ⟨Tryz.underlying65, infoBool, rfl, by decide⟩
theorem eqSliceNilB (w : World) (a : Option Addr) (n c : Nat) : (binOp .eql 65 (.slice a n c) (.slice none 0 0)).run Tryz.prog w = .ok (.bool a.isNone) w := by
  have h : Tryz.prog.underlying 65 = some (.slice 4) := Tryz.underlying65
  simp only [binOp]
  simp [run_equal_slice_nil w _ _ a n c h]
attribute [local go_sem] eqSliceNilB
set_option maxRecDepth 100000 in
set_option maxHeartbeats 2000000 in
theorem Refs23_is {w : World} {a : Option Addr} {l : List Int} (n cap : Nat) (hn : l.length = n) (h : Sl w a l) (hm : n ≤ 1000000) : Calls Tryz.prog 197 #[.slice a n cap] w fun e w' => ∃ v, e = .returned v ∧ row w' 52 1 v n (intCells l) ∧ (∀ q ∈ v.ownBlock.toList, w.heap.size ≤ q) ∧ Ch [] w w' := by
  subst hn
  have H := Lib.hid h; clear h
  go_enter Tryz.func197, Tryz.ntmps197
  go_wp2_with fail
  go_loopw [3, 8] (fun o i wr => ∃ k : Nat, k ≤ l.length ∧ i = .int .i64 k ∧ Ch [] w wr ∧ row wr 52 1 o k (intCells (l.take k)) ∧ ∀ q ∈ o.ownBlock.toList, w.heap.size ≤ q) (fun _ i _ => l.length - (intOf i).toNat)
  case atStart => exact ⟨0, by omega, rfl, Ch.refl _ _, ⟨rfl, .inl ⟨rfl, rfl⟩⟩, by simp⟩
  case round =>
    obtain ⟨k, hk, rfl, hc, hrow, hlo⟩ := hrel
    obtain ⟨oa, oc, rfl⟩ := row.shape hrow
    by_cases hlt : k < l.length
    · obtain ⟨x, hx⟩ : ∃ x, l[k]? = some x := ⟨_, List.getElem?_eq_getElem hlt⟩
      have hsu : intCells (l.take (k + 1)) = intCells (l.take k) ++ [.int .i64 x] := by unfold intCells; rw [List.take_add_one, hx]; simp
      obtain ⟨xb, xo, rfl, hcl⟩ := H.out.cells k x hx
      have c0 := (hc.cell (cell_lt hcl) (by simp)).trans hcl
      have HSU := Lib.hid hsu; clear hsu hx hcl
      have hcA : Ch [] wr (wr.alloc (.cells #[.int .i64 x] 52)) := (Ch.refl _ _).alloc _
      have hrA := hrow.ch hcA (by simp)
      have hbA : blk (wr.alloc (.cells #[.int .i64 x] 52)) wr.heap.size [.int .i64 x] := blk.new' _ _ rfl
      have HRA := Lib.hid hrA; clear hrA hrow
      have HBA := Lib.hid hbA; clear hbA
      have HCA := Lib.hid hcA; clear hcA
      have HC := Lib.hid hc; clear hc
      have HLO := Lib.hid hlo; clear hlo
      go_wp2_with (at_builtin; go_loud (refine wpList_append_row slRefs rfl _ _ rfl (v := .slice oa k oc) (n := k) (xs := intCells (l.take k)) rfl HRA.out (ad := ⟨wr.heap.size, 0, none⟩) (m := 1) (c := 1) (news := [.int .i64 x]) rfl rfl (news_blk HBA.out) (by simp [Value.oneCell']) (by omega) (by omega) ?_; intro v' w4 hown4 hC4 hf4; have HO4 := Lib.hid hown4; clear hown4; have HC4 := Lib.hid hC4; clear hC4; have HF4 := Lib.hid hf4; clear hf4))
      go_roundw
      case rel =>
        obtain ⟨q1, q2⟩ := app_step HC.out HCA.out HLO.out HC4.out HF4.out
        refine ⟨k + 1, by omega, by go_num, q1, ?_, q2⟩
        rw [HSU.out]; exact HO4.out
      case measure => simp [intOf]; omega
    · have hkn : k = l.length := by omega
      rw [hkn, List.take_of_length_le (Nat.le_refl _)] at hrow
      rw [hkn] at hlo
      rw [hkn]
      have HROW := Lib.hid hrow; clear hrow
      have HLO := Lib.hid hlo; clear hlo
      have HC := Lib.hid hc; clear hc hkn
      go_wp2_with fail
      go_ret
      exact ⟨.slice oa l.length oc, rfl, HROW.out, HLO.out, HC.out⟩
set_option maxRecDepth 100000 in
set_option maxHeartbeats 2000000 in
theorem Ints23_is {w : World} {a : Option Addr} {l : List Int} (n cap : Nat) (hn : l.length = n) (h : Sl w a l) (hm : n ≤ 1000000) : Calls Tryz.prog 221 #[.slice a n cap] w fun e w' => ∃ v, e = .returned v ∧ row w' 3 1 v n (intCells l) ∧ (∀ q ∈ v.ownBlock.toList, w.heap.size ≤ q) ∧ Ch [] w w' := by
  subst hn
  have H := Lib.hid h; clear h
  go_enter Tryz.func221, Tryz.ntmps221
  go_wp2_with fail
  go_loopw [3, 8] (fun o i wr => ∃ k : Nat, k ≤ l.length ∧ i = .int .i64 k ∧ Ch [] w wr ∧ row wr 3 1 o k (intCells (l.take k)) ∧ ∀ q ∈ o.ownBlock.toList, w.heap.size ≤ q) (fun _ i _ => l.length - (intOf i).toNat)
  case atStart => exact ⟨0, by omega, rfl, Ch.refl _ _, ⟨rfl, .inl ⟨rfl, rfl⟩⟩, by simp⟩
  case round =>
    obtain ⟨k, hk, rfl, hc, hrow, hlo⟩ := hrel
    obtain ⟨oa, oc, rfl⟩ := row.shape hrow
    by_cases hlt : k < l.length
    · obtain ⟨x, hx⟩ : ∃ x, l[k]? = some x := ⟨_, List.getElem?_eq_getElem hlt⟩
      have hsu : intCells (l.take (k + 1)) = intCells (l.take k) ++ [.int .i64 x] := by unfold intCells; rw [List.take_add_one, hx]; simp
      obtain ⟨xb, xo, rfl, hcl⟩ := H.out.cells k x hx
      have c0 := (hc.cell (cell_lt hcl) (by simp)).trans hcl
      have HSU := Lib.hid hsu; clear hsu hx hcl
      have hcA : Ch [] wr (wr.alloc (.cells #[.int .i64 x] 3)) := (Ch.refl _ _).alloc _
      have hrA := hrow.ch hcA (by simp)
      have hbA : blk (wr.alloc (.cells #[.int .i64 x] 3)) wr.heap.size [.int .i64 x] := blk.new' _ _ rfl
      have HRA := Lib.hid hrA; clear hrA hrow
      have HBA := Lib.hid hbA; clear hbA
      have HCA := Lib.hid hcA; clear hcA
      have HC := Lib.hid hc; clear hc
      have HLO := Lib.hid hlo; clear hlo
      go_wp2_with (at_builtin; go_loud (refine wpList_append_row slInts rfl _ _ rfl (v := .slice oa k oc) (n := k) (xs := intCells (l.take k)) rfl HRA.out (ad := ⟨wr.heap.size, 0, none⟩) (m := 1) (c := 1) (news := [.int .i64 x]) rfl rfl (news_blk HBA.out) (by simp [Value.oneCell']) (by omega) (by omega) ?_; intro v' w4 hown4 hC4 hf4; have HO4 := Lib.hid hown4; clear hown4; have HC4 := Lib.hid hC4; clear hC4; have HF4 := Lib.hid hf4; clear hf4))
      go_roundw
      case rel =>
        obtain ⟨q1, q2⟩ := app_step HC.out HCA.out HLO.out HC4.out HF4.out
        refine ⟨k + 1, by omega, by go_num, q1, ?_, q2⟩
        rw [HSU.out]; exact HO4.out
      case measure => simp [intOf]; omega
    · have hkn : k = l.length := by omega
      rw [hkn, List.take_of_length_le (Nat.le_refl _)] at hrow
      rw [hkn] at hlo
      rw [hkn]
      have HROW := Lib.hid hrow; clear hrow
      have HLO := Lib.hid hlo; clear hlo
      have HC := Lib.hid hc; clear hc hkn
      go_wp2_with fail
      go_ret
      exact ⟨.slice oa l.length oc, rfl, HROW.out, HLO.out, HC.out⟩
section
variable {w : World}
set_option maxRecDepth 100000 in
set_option maxHeartbeats 2000000 in
theorem r23Const_is (x : Nat) (hx : x < 4294967296) (n : Nat) (hn : n ≤ 17) : Calls Tryz.prog 302 #[.int .i64 x, .int .i64 n] w fun e w' => ∃ v, e = .returned v ∧ row w' 3 1 v n (refsCells (rConstN x n)) ∧ (∀ q ∈ v.ownBlock.toList, w.heap.size ≤ q) ∧ Ch [] w w' := by
  go_enter Tryz.func302, Tryz.ntmps302
  go_wp2_with fail
  go_loopw [0, 5, 6] (fun y o i wr => ∃ k : Nat, k ≤ n ∧ i = .int .i64 k ∧ y = .int .i64 ((x / 2 ^ k : Nat) : Int) ∧ Ch [] w wr ∧ row wr 3 1 o k (refsCells (rConstN x k)) ∧ ∀ q ∈ o.ownBlock.toList, w.heap.size ≤ q) (fun _ _ i _ => n - (intOf i).toNat)
  case atStart => exact ⟨0, by omega, rfl, by simp, Ch.refl _ _, ⟨rfl, .inl ⟨rfl, rfl⟩⟩, by simp⟩
  case round =>
    obtain ⟨k, hk, rfl, rfl, hc, hrow, hlo⟩ := hrel
    obtain ⟨oa, oc, rfl⟩ := row.shape hrow
    by_cases hlt : k < n
    · have hsu : refsCells (rConstN x (k + 1)) = refsCells (rConstN x k) ++ [.int .i64 ((x / 2 ^ k % 2 : Nat) : Int)] := by rw [rConstN_succ]; simp [refsCells]
      have hy : x / 2 ^ k < 4294967296 := Nat.lt_of_le_of_lt (Nat.div_le_self _ _) hx
      have hy2 : x / 2 ^ (k + 1) = x / 2 ^ k / 2 := by rw [Nat.pow_succ, Nat.div_div_eq_div_mul]
      generalize hX : x / 2 ^ k = X at *
      clear hX
      have HSU := Lib.hid hsu; clear hsu
      have HY2 := Lib.hid hy2; clear hy2
      have HC := Lib.hid hc; clear hc
      have HLO := Lib.hid hlo; clear hlo
      have hcA : Ch [] wr (wr.alloc (.cells #[.int .i64 ((X : Int) % 2)] 3)) := (Ch.refl _ _).alloc _
      have hrA := hrow.ch hcA (by simp)
      have hbA : blk (wr.alloc (.cells #[.int .i64 ((X : Int) % 2)] 3)) wr.heap.size [.int .i64 ((X : Int) % 2)] := blk.new' _ _ rfl
      have HRA := Lib.hid hrA; clear hrA hrow
      have HBA := Lib.hid hbA; clear hbA
      have HCA := Lib.hid hcA; clear hcA
      go_wp2_with (at_builtin; go_loud (refine wpList_append_row slInts rfl _ _ rfl (v := .slice oa k oc) (n := k) (xs := refsCells (rConstN x k)) rfl HRA.out (ad := ⟨wr.heap.size, 0, none⟩) (m := 1) (c := 1) (news := [.int .i64 ((X : Int) % 2)]) rfl rfl (news_blk HBA.out) (by simp [Value.oneCell']) (by omega) (by omega) ?_; intro v' w4 hown4 hC4 hf4; have HO4 := Lib.hid hown4; clear hown4; have HC4 := Lib.hid hC4; clear hC4; have HF4 := Lib.hid hf4; clear hf4))
      go_roundw
      case rel =>
        obtain ⟨q1, q2⟩ := app_step HC.out HCA.out HLO.out HC4.out HF4.out
        refine ⟨k + 1, by omega, by go_num, by rw [HY2.out]; go_num, q1, ?_, q2⟩
        rw [HSU.out]; exact HO4.out
      case measure => simp [intOf]; omega
    · have hkn : k = n := by omega
      subst hkn
      have HROW := Lib.hid hrow; clear hrow
      have HLO := Lib.hid hlo; clear hlo
      have HC := Lib.hid hc; clear hc
      go_wp2_with fail
      go_ret
      exact ⟨.slice oa k oc, rfl, HROW.out, HLO.out, HC.out⟩
end
end Go.Proofs.YtehljgigebhddaaGreat
namespace Go.Proofs.YtehljgigebhddaaGreat
open Go.RowKit Go.Mem Go.Aig
theorem rowBlk {w : World} {e : TypeId} {a : Option Addr} {n c : Nat} {xs : List Value} (h : row w e 1 (.slice a n c) n xs) : ∀ j, j < n → ∃ (b : Nat) (ys : List Value), a = some ⟨b, 0, none⟩ ∧ blk w b ys ∧ n ≤ ys.length := by
  intro j hj
  rcases h.2 with ⟨e1, _⟩ | ⟨b, cap, cur, e1, _, hg, hle, _, hs, _⟩
  · cases e1; omega
  · cases e1
    exact ⟨b, cur.toList, rfl, ⟨e, by simpa using hg⟩, by simp; omega⟩
section
variable {w : World}
end
end Go.Proofs.YtehljgigebhddaaGreat
namespace Go.Proofs.YtehljgigebhddaaGreat
open Go.ChangeShapes Go.WideShapes Go.ChangeAt Go.RowKit Go.Mem Go.Aig Go.Deep
theorem own : ownKnob Tryz.prog.godebug = none := by kernel_rfl
section
variable {H : Type} {enc : TypeId × Value → H} {W : World}
end
end Go.Proofs.YtehljgigebhddaaGreat
