/-
  Drawn regions in a round of a range over a function, where an effect may panic. Conditions: no defer in the region.
  A region in the text's order, in a round of a range over a function, under the widest fence: from the plain walk. Conditions: no defer in it.
  Walks over steps of muldiv and its iterator: the bits of a quotient. Conditions: a graph in memory, two words of its references, of the same width.
  Walk over the closure of Both of muldiv: the loop over the bits of the quotient. Conditions: a graph in memory, two words of its references, of the same width.
  Walks over Both, Div, Rem of muldiv. Conditions: a graph in memory, two words of any integers.
  Walks over Div, Rem, Square, Times of muldiv; all of them as steps of a law's walk. Conditions: a graph in memory, words of any integers.
  The functions of muldiv as steps of a law's walk: the graph and the words that are held. Conditions: none beyond the hypotheses.
  Words of many assignments at once, plainly: what the nodes of a graph are for the words of its inputs, bit by bit. No program in sight. Conditions: none beyond the hypotheses.
  Walks over small functions of the laws: words, value, pick. Conditions: slices that are read.
  Walks over Same and Begin of chapter 23's laws: two graphs that are the same, and such ones that are made. Conditions: none beyond the hypotheses.
  Walks over sim: of, nodes. Conditions: a graph in memory, as many words as inputs.
  Walks over sim: check, Words, Bits. Conditions: a graph in memory, references of any integers, words that can be read.
  Walk over sim: Bits. Conditions: a graph in memory, references of any integers, values that can be read.
  Two words of bits out of two numbers, plainly. No program in sight. Conditions: none.
  Walks over sim: inputs, one. Conditions: at most 16 inputs, a block of a table of them.
  Walks over sim: tabled, Table. Conditions: a graph in memory, any reference.
  Walk over sim: Count. Conditions: a graph in memory, any reference.
  Walk over sim: first. Conditions: a graph of at most 16 inputs in memory, what tells a word.
  The laws' graphs, plainly: built step by step. No program in sight. Conditions: none beyond the hypotheses.
  The words of the nodes, plainly, and their bits. No program in sight. Conditions: none beyond the hypotheses.
  Reads of words for values of the inputs; the values of the inputs of chapter 23's law; slices.Clone of numbers. Conditions: a graph in memory, words of 1 to 16 bits.
  Walk over the chapter's examples (awake of muldiv): true. Conditions: none.
  Walk over step of shifts: a word that is another one, if a bit is true. Conditions: a graph in memory, two words of it, a reference of it.
  What move and By of shifts make, plainly. No program in sight. Conditions: none beyond the hypotheses.
  Turns of a word, plainly: one after the other, and shifts by constants, by evaluation. No program in sight. Conditions: none beyond the hypotheses.
  What MuldivAgain asks, plainly: for words of one to four bits, by evaluation. No program in sight. Conditions: none beyond the hypotheses.
  Walk over the closure of MuldivAgain that makes a graph, two words of inputs, and a product, or a quotient and a rest. Conditions: a room for the inputs.
  Whether a word of a list is not empty: MuldivAgain's question to words that are. Conditions: a list of empty words that can be read.
  Walk over Pick's closure of muxes. Conditions: a maker in memory, an array of words of its graph, guards.
  Walk over Equal's closure of muxes. Conditions: a maker in memory, two arrays of words of its graph.
  Walk over Write's closure of muxes. Conditions: a maker in memory, an array of words of its graph, an index, a guard, a word.
  Walk over Write's closure of muxes. Conditions: a maker in memory, an array of words of its graph, an index, a guard, a word.
  The functions of muxes beside a graph and words that are held; EqualFunc of arrays of words. Conditions: none beyond the hypotheses.
  Walk over MuldivAgain, where products are made: true. Conditions: a kind that is even.
-/
import Derived.Test.YtkedpifopclipaaQC
import Derived.TacticsIn
import Derived.Laws.Bits64b
namespace Go.Ord.OrdP
open Go
section
variable {ops : Array Oper} {ks : List Kd} {A : List Nat} {C : World → Prop} {Q : Act → World → Prop} {QP : List PanicEntry → World → Prop}
section plain
variable {P : Program} {Q' : Exit → Act → World → Prop}
/-- the normal way out, and a panic -/
def onlyP (QP : List PanicEntry → World → Prop) (Q : Act → World → Prop) : Exit → Act → World → Prop := fun e a w => (e = .normal ∧ Q a w) ∨ ∃ c, e = .panic c ∧ a.defers = [] ∧ QP c w

theorem onlyP_lets (QP : List PanicEntry → World → Prop) (Q : Act → World → Prop) : ¬ LetsOut (onlyP QP Q) := fun ⟨_, _, h⟩ => by
  rcases h with ⟨h, _⟩ | ⟨_, h, _⟩ <;> cases h
theorem onlyP_out {QP : List PanicEntry → World → Prop} {K K' : Act → World → Prop} {a a' : Act} {w : World} {c : List PanicEntry} (h : onlyP QP K (.panic c) a w) (hd : a.defers = a'.defers) : onlyP QP K' (.panic c) a' w := by
  rcases h with ⟨h, _⟩ | ⟨c', h1, h2, h3⟩
  · cases h
  · exact .inr ⟨c', h1, hd ▸ h2, h3⟩
theorem onlyP_in {QP : List PanicEntry → World → Prop} {K : Act → World → Prop} {a : Act} {w : World} (h : onlyP QP K .normal a w) : Exit.normal = Exit.normal ∧ K a w := by
  rcases h with h | ⟨_, h, _⟩
  · exact h
  · cases h
theorem put_defers' (a : Act) (d : Option Tmp) (v : Value) : (a.put d v).defers = a.defers := by cases d <;> rfl

theorem lawsP (hs : Stat ops ks A) (Q : Act → World → Prop) : Laws ops (wpOp P ops (onlyP QP Q)) (yieldsP P ops) where
  mono h hh := wpOp_mono h hh
  out := by
    rintro i o v a w K ho ⟨o', ho', hy⟩ h
    rw [ho] at ho'; cases ho'
    unfold wpOp
    simp only [ho]
    rcases hy with ⟨hw, hv⟩ | ⟨hw, rfl⟩
    · rw [if_pos hw]; left; exact hv.wp h
    · rw [if_neg (by simp [hw])]; exact h
  comm := by
    intro i j oi oj v a w K hi hj hap h
    obtain ⟨h1, h2, h3⟩ := Oper.apart_spec hap
    have hsi := fun cs b => hs.sel i oi cs b hi
    have hsj := fun cs b => hs.sel j oj cs b hj
    have keep : ∀ (a' : Act) (u : Value), execOp a'.eval oi = execOp a.eval oi → Region.wanted oi (yielded ops a'.tmps) = Region.wanted oi (yielded ops a.tmps) →
        ∀ x w0, yieldsP P ops i x a w0 → yieldsP P ops i x (a'.put oj.dst u) w0 := by
      rintro a' u e1 e2 x w0 ⟨o, ho, hy⟩
      rw [hi] at ho; cases ho
      refine ⟨oi, hi, ?_⟩
      rw [wanted_put oi a' oj.dst u h3, e2]
      unfold RunsTo at *
      rw [execOp_put oi hsi a' oj.dst u h3, e1]
      exact hy
    unfold wpOp at *
    simp only [hj] at *
    rw [wanted_put oj a oi.dst v h1] at h
    split
    · rename_i hw
      rw [if_pos hw] at h
      left
      have h := h.resolve_right fun hh => onlyP_lets QP Q hh.2
      unfold Oper.wp at *
      rw [execOp_put oj hsj a oi.dst v h1] at h
      generalize (execOp a.eval oj).run P w = r at *
      cases r with
      | ok n w' =>
        cases n <;> simp only [Oper.upon] at h ⊢
        case value u => exact ⟨keep a u rfl rfl, by rw [← Act.put_comm a v u h2]; exact h⟩
        case skip => exact ⟨keep a _ rfl rfl, by rw [← Act.put_comm a v undef h2]; exact h⟩
        case defer d =>
          refine ⟨keep { a with defers := d :: a.defers } _ rfl rfl, ?_⟩
          rw [← Act.put_comm _ v undef h2, ← Act.put_defers]
          exact h
        case enter f args =>
          refine Calls.mono h fun e w'' he => ?_
          cases e with
          | returned u => exact ⟨keep a u rfl rfl, by rw [← Act.put_comm a v u h2]; exact he⟩
          | panicked c => exact onlyP_out he (put_defers' a oi.dst v)
          | outgrown => exact (onlyP_lets QP Q he).elim
        case row row args => exact Rows.mono h fun u w'' he => ⟨keep a u rfl rfl, by rw [← Act.put_comm a v u h2]; exact he⟩
      | halt x w' =>
        cases x <;> simp only [Oper.upon] at h ⊢
        case panic u => exact onlyP_out h (put_defers' a oi.dst v)
    · rename_i hw
      rw [if_neg hw] at h
      exact ⟨keep a _ rfl rfl, by rw [← Act.put_comm a v undef h2]; exact h⟩

theorem wpAny_of_all (hs : Stat ops ks A) (Q : Act → World → Prop) : ∀ (m : Nat) (R : List Nat) (listed : Array Bool) (a : Act) (w : World), R.Nodup → (∀ k ∈ R, k < ops.size) → R.length = m → listed.size = ops.size → Fits ops listed R →
    allOrd ops (wpOp P ops (onlyP QP Q)) ks A C Q m R a w → wpAny P .any ops (onlyP QP Q) m listed a w := by
  intro m
  induction m with
  | zero =>
    intro R listed a w hn hlt hlen hsz hf h
    have hR : R = [] := List.eq_nil_of_length_eq_zero hlen
    refine ⟨?_, .inl ⟨rfl, h⟩⟩
    cases hr : Region.ready .any ops listed with
    | nil => rfl
    | cons x xs =>
      have := (hf.mem hs (i := x) (by rw [hr]; simp)).1
      rw [hR] at this; cases this
  | succ m ih =>
    intro R listed a w hn hlt hlen hsz hf h
    refine ⟨fun h0 => (hf.nonempty hs hlt (by intro e; rw [e] at hlen; cases hlen) h0).elim, fun i hi => ?_⟩
    obtain ⟨hiR, hri⟩ := hf.mem hs hi
    refine wpOp_mono (fun a' w' h3 => ?_) (h i hiR hri)
    exact ih (R.erase i) _ a' w' (hn.erase _) (fun k hk => hlt k (List.mem_of_mem_erase hk)) (by rw [List.length_erase_of_mem hiR]; omega) (by simpa using hsz) (hf.set hn hsz) h3.2

/-! ### The steps -/
section steps
variable {l : List Oper}
/-- what is left, with all that the walk never asks of it again -/
def St (QP : List PanicEntry → World → Prop) (P : Program) (l : List Oper) (ks : List Kd) (A : List Nat) (C : World → Prop) (Q : Act → World → Prop) (R : List Nat) (a : Act) (w : World) : Prop :=
  R.Nodup → Up l.toArray R → (∀ k ∈ R, k < l.toArray.size) → Stat l.toArray ks A → allOrd l.toArray (wpOp P l.toArray (onlyP QP Q)) ks A C Q R.length R a w

theorem St.nil {a : Act} {w : World} (h : Q a w) : St QP P l ks A C Q [] a w := fun _ _ _ _ => h
theorem St.take {R R' : List Nat} {a : Act} {w : World} {v : Value} (i : Nat) (o : Oper) (hi : l.toArray[i]? = some o) (hiR : R.contains i = true) (hr : readyIn l.toArray R i = true) (hR : R.erase i = R')
    (ht : Takes (yieldsP P l.toArray) C (kd ks i) i v a w) (h : St QP P l ks A C Q R' (a.put o.dst v) w) : St QP P l ks A C Q R a w := by
  intro hn hu hlt hs
  have hm : i ∈ R := by simpa using hiR
  have hlen : R.length = R.length - 1 + 1 := by have := List.length_pos_of_mem hm; omega
  rw [hlen]
  refine Go.Ord.take (lawsP hs Q) hs hi (R.length - 1) R a w hn hu hlt hlen hm hr ht ?_
  subst hR
  have := h (hn.erase _) (hu.erase hn hr) (fun k hk => hlt k (List.mem_of_mem_erase hk)) hs
  rwa [List.length_erase_of_mem hm] at this

/-- passed over: the guard says no -/
theorem St.skip {R : List Nat} {a : Act} {w : World} (i : Nat) (R' : List Nat) (o : Oper) (hil : l[i]? = some o) (hchk : chk l.toArray ks R R' i .fl = true)
    (hg : Region.wanted o (yielded l.toArray a.tmps) = false) (h : ∀ K : Act → Prop, (∀ a, St QP P l ks A C Q R' a w → K a) → K (a.put o.dst undef)) : St QP P l ks A C Q R a w :=
  have hi : l.toArray[i]? = some o := by simpa using hil
  have ⟨hiR, hr, hR, hk⟩ := chk_spec hchk
  .take i o hi hiR hr hR (by rw [hk]; exact fun _ => ⟨o, hi, .inr ⟨hg, rfl⟩⟩) (h _ fun _ h => h)

theorem St.ho {R : List Nat} {a : Act} {w : World} {v : Value} (i : Nat) (R' : List Nat) (o : Oper) (hil : l[i]? = some o) (hchk : chk l.toArray ks R R' i .ho = true)
    (hg : Region.wanted o (yielded l.toArray a.tmps) = true) (hC : C w) (hv : ∀ w', C w' → (execOp a.eval o).run P w' = .ok (.value v) w') (h : ∀ K : Act → Prop, (∀ a, St QP P l ks A C Q R' a w → K a) → K (a.put o.dst v)) : St QP P l ks A C Q R a w :=
  have hi : l.toArray[i]? = some o := by simpa using hil
  have ⟨hiR, hr, hR, hk⟩ := chk_spec hchk
  .take i o hi hiR hr hR (by rw [hk]; exact ⟨hC, fun w' hw' => ⟨o, hi, .inl ⟨hg, by unfold RunsTo; rw [hv w' hw']; exact ⟨rfl, rfl⟩⟩⟩⟩) (h _ fun _ h => h)

theorem St.rd {R : List Nat} {a : Act} {w : World} (i : Nat) (R' : List Nat) (o : Oper) (hil : l[i]? = some o) (hchk : chk l.toArray ks R R' i .rd = true)
    (hg : Region.wanted o (yielded l.toArray a.tmps) = true) (h : ∀ K : Act → Prop, (∀ a, St QP P l ks A C Q R' a w → K a) → o.still P a w K) : St QP P l ks A C Q R a w := by
  have hi : l.toArray[i]? = some o := by simpa using hil
  have ⟨hiR, hr, hR, hk⟩ := chk_spec hchk
  have h1 := h _ (fun _ hh => hh)
  have key : ∃ v, RunsTo P o a w v ∧ St QP P l ks A C Q R' (a.put o.dst v) w := by
    unfold Oper.still at h1
    unfold RunsTo
    generalize (execOp a.eval o).run P w = r at *
    cases r with
    | ok n w' =>
      cases n <;> simp only [Oper.stillUpon] at h1
      case value u => exact ⟨u, ⟨h1.1, rfl⟩, h1.2⟩
      case skip => exact ⟨undef, ⟨h1.1, rfl⟩, h1.2⟩
      case enter f args => obtain ⟨e, v, hc, h2⟩ := h1; exact ⟨v, by rw [e]; exact hc, h2⟩
    | halt x w' => simp only [Oper.stillUpon] at h1
  obtain ⟨v, hy, hK⟩ := key
  exact .take i o hi hiR hr hR (v := v) (by rw [hk]; exact ⟨o, hi, .inl ⟨hg, hy⟩⟩) hK

/-- the effect that alone may come up: its own walk, as a list of one operation -/
theorem St.ef {R : List Nat} {a : Act} {w : World} (i : Nat) (R' : List Nat) (o : Oper) (hil : l[i]? = some o) (hchk : chkE l.toArray ks A R R' i = true)
    (h : ∀ K : Act → World → Prop, (∀ a w, St QP P l ks A C Q R' a w → K a w) → wpList P l.toArray (onlyP QP K) [o] a w) : St QP P l ks A C Q R a w := by
  have hi : l.toArray[i]? = some o := by simpa using hil
  have ⟨hr, hR, hk, hc⟩ := chkE_spec hchk
  intro hn hu hlt hs
  have hm : i ∈ R := (List.mem_filter.1 (hr ▸ List.mem_singleton.2 rfl : i ∈ R.filter (readyIn l.toArray R))).1
  have hri : readyIn l.toArray R i = true := (List.mem_filter.1 (hr ▸ List.mem_singleton.2 rfl : i ∈ R.filter (readyIn l.toArray R))).2
  have hlen : R.length = R.length - 1 + 1 := by have := List.length_pos_of_mem hm; omega
  rw [hlen]
  refine branch hr fun j hj => ?_
  have hji : j = i := List.mem_singleton.1 hj
  subst hji
  have h1 := h _ (fun _ _ hh => hh)
  unfold wpOp
  simp only [hi]
  unfold wpList at h1
  have key : ∀ a' w', (wpList P l.toArray (onlyP QP (fun a w => St QP P l ks A C Q R' a w)) [] a' w') → post ks A l.toArray.size C j w w' ∧ allOrd l.toArray (wpOp P l.toArray (onlyP QP Q)) ks A C Q (R.length - 1) (R.erase j) a' w' := by
    intro a' w' hh
    refine ⟨?_, ?_⟩
    · unfold post; rw [if_pos hk]; intro hh2; rw [hc] at hh2; exact absurd hh2 (by simp)
    subst hR
    have := (onlyP_in hh).2 (hn.erase _) (hu.erase hn hri) (fun k hk => hlt k (List.mem_of_mem_erase hk)) hs
    rwa [List.length_erase_of_mem hm] at this
  split
  · rename_i hw
    rw [if_pos hw] at h1
    have h1 := h1.resolve_right fun hh => onlyP_lets _ _ hh.2
    left
    have h2 := Oper.wp_mono (K' := fun a' w' => post ks A l.toArray.size C j w w' ∧ allOrd l.toArray (wpOp P l.toArray (onlyP QP Q)) ks A C Q (R.length - 1) (R.erase j) a' w') key h1
    unfold Oper.wp at h2 ⊢
    generalize (execOp a.eval o).run P w = r at h2 ⊢
    cases r with
    | ok n w' =>
      cases n <;> simp only [Oper.upon] at h2 ⊢
      case value u => exact h2
      case skip => exact h2
      case defer d => exact h2
      case enter f args =>
        refine Calls.mono h2 fun e w'' he => ?_
        cases e with
        | returned u => exact he
        | panicked c => exact onlyP_out he rfl
        | outgrown => exact (onlyP_lets _ _ he).elim
      case row row args => exact h2
    | halt x w' =>
      cases x <;> simp only [Oper.upon] at h2 ⊢
      case panic u => exact onlyP_out h2 rfl
  · rename_i hw
    rw [if_neg hw] at h1
    exact key _ _ h1
/-- the same where the class of worlds is asked for behind it -/
theorem St.efC {R : List Nat} {a : Act} {w : World} (i : Nat) (R' : List Nat) (o : Oper) (hil : l[i]? = some o) (hchk : chkEC l.toArray ks R R' i = true)
    (h : ∀ K : Act → World → Prop, (∀ a w, C w → St QP P l ks A C Q R' a w → K a w) → wpList P l.toArray (onlyP QP K) [o] a w) : St QP P l ks A C Q R a w := by
  have hi : l.toArray[i]? = some o := by simpa using hil
  have ⟨hr, hR, hk⟩ := chkEC_spec hchk
  intro hn hu hlt hs
  have hm : i ∈ R := (List.mem_filter.1 (hr ▸ List.mem_singleton.2 rfl : i ∈ R.filter (readyIn l.toArray R))).1
  have hri : readyIn l.toArray R i = true := (List.mem_filter.1 (hr ▸ List.mem_singleton.2 rfl : i ∈ R.filter (readyIn l.toArray R))).2
  have hlen : R.length = R.length - 1 + 1 := by have := List.length_pos_of_mem hm; omega
  rw [hlen]
  refine branch hr fun j hj => ?_
  have hji : j = i := List.mem_singleton.1 hj
  subst hji
  have h1 := h (fun a w => C w ∧ St QP P l ks A C Q R' a w) (fun _ _ hc hh => ⟨hc, hh⟩)
  unfold wpOp
  simp only [hi]
  unfold wpList at h1
  have key : ∀ a' w', (wpList P l.toArray (onlyP QP (fun a w => C w ∧ St QP P l ks A C Q R' a w)) [] a' w') → post ks A l.toArray.size C j w w' ∧ allOrd l.toArray (wpOp P l.toArray (onlyP QP Q)) ks A C Q (R.length - 1) (R.erase j) a' w' := by
    intro a' w' hh
    refine ⟨?_, ?_⟩
    · unfold post; rw [if_pos hk]; intro _; exact (onlyP_in hh).2.1
    subst hR
    have := (onlyP_in hh).2.2 (hn.erase _) (hu.erase hn hri) (fun k hk => hlt k (List.mem_of_mem_erase hk)) hs
    rwa [List.length_erase_of_mem hm] at this
  split
  · rename_i hw
    rw [if_pos hw] at h1
    have h1 := h1.resolve_right fun hh => onlyP_lets _ _ hh.2
    left
    have h2 := Oper.wp_mono (K' := fun a' w' => post ks A l.toArray.size C j w w' ∧ allOrd l.toArray (wpOp P l.toArray (onlyP QP Q)) ks A C Q (R.length - 1) (R.erase j) a' w') key h1
    unfold Oper.wp at h2 ⊢
    generalize (execOp a.eval o).run P w = r at h2 ⊢
    cases r with
    | ok n w' =>
      cases n <;> simp only [Oper.upon] at h2 ⊢
      case value u => exact h2
      case skip => exact h2
      case defer d => exact h2
      case enter f args =>
        refine Calls.mono h2 fun e w'' he => ?_
        cases e with
        | returned u => exact he
        | panicked c => exact onlyP_out he rfl
        | outgrown => exact (onlyP_lets _ _ he).elim
      case row row args => exact h2
    | halt x w' =>
      cases x <;> simp only [Oper.upon] at h2 ⊢
      case panic u => exact onlyP_out h2 rfl
  · rename_i hw
    rw [if_neg hw] at h1
    exact key _ _ h1
/-! ### The same steps, asked of the walk's own 'Oper.wp': the step itself finds the new frame -/
/-- all that the kernel looks at, with the slot that is written -/
theorem St.fl2 {R : List Nat} {a : Act} {T' : Array Value} {w : World} (i : Nat) (R' : List Nat) (o : Oper) (d : Nat) (hil : l[i]? = some o) (hchk : chk l.toArray ks R R' i .fl = true) (hg : Region.wanted o (yielded l.toArray a.tmps) = true)
    (hd : o.dst = some d) (hlt : Nat.blt d a.tmps.size = true) (hl : a.defers.length = a.defers.length) (hv : ∀ (K : Act → World → Prop) (w' : World), K ⟨T', a.defers⟩ w' → o.wp P a w' K noExit) (h : St QP P l ks A C Q R' ⟨T', a.defers⟩ w) : St QP P l ks A C Q R a w := by
  have hi : l.toArray[i]? = some o := by simpa using hil
  have ⟨hiR, hr, hR, hk⟩ := chk_spec hchk
  have hput := (runsTo_of_wp (a' := ⟨T', a.defers⟩) hd hlt rfl hl (fun K hK => hv K w hK)).2
  exact .take i o hi hiR hr hR (v := T'.getD d undef) (by rw [hk]; exact fun w' => ⟨o, hi, .inl ⟨hg, (runsTo_of_wp (a' := ⟨T', a.defers⟩) hd hlt rfl hl (fun K hK => hv K w' hK)).1⟩⟩) (by rw [← hput]; exact h)

theorem St.ho2 {R : List Nat} {a : Act} {T' : Array Value} {w : World} (i : Nat) (R' : List Nat) (o : Oper) (d : Nat) (hil : l[i]? = some o) (hchk : chk l.toArray ks R R' i .ho = true) (hg : Region.wanted o (yielded l.toArray a.tmps) = true)
    (hd : o.dst = some d) (hlt : Nat.blt d a.tmps.size = true) (hl : a.defers.length = a.defers.length) (hC : C w) (hv : ∀ (K : Act → World → Prop) (w' : World), C w' → K ⟨T', a.defers⟩ w' → o.wp P a w' K noExit) (h : St QP P l ks A C Q R' ⟨T', a.defers⟩ w) : St QP P l ks A C Q R a w := by
  have hi : l.toArray[i]? = some o := by simpa using hil
  have ⟨hiR, hr, hR, hk⟩ := chk_spec hchk
  have hput := (runsTo_of_wp (a' := ⟨T', a.defers⟩) hd hlt rfl hl (fun K hK => hv K w hC hK)).2
  exact .take i o hi hiR hr hR (v := T'.getD d undef) (by rw [hk]; exact ⟨hC, fun w' hw' => ⟨o, hi, .inl ⟨hg, (runsTo_of_wp (a' := ⟨T', a.defers⟩) hd hlt rfl hl (fun K hK => hv K w' hw' hK)).1⟩⟩⟩) (by rw [← hput]; exact h)

theorem St.rd2 {R : List Nat} {a : Act} {T' : Array Value} {w : World} (i : Nat) (R' : List Nat) (o : Oper) (d : Nat) (hil : l[i]? = some o) (hchk : chk l.toArray ks R R' i .rd = true) (hg : Region.wanted o (yielded l.toArray a.tmps) = true)
    (hd : o.dst = some d) (hlt : Nat.blt d a.tmps.size = true) (hl : a.defers.length = a.defers.length) (hv : ∀ K : Act → World → Prop, K ⟨T', a.defers⟩ w → o.wp P a w K noExit) (h : St QP P l ks A C Q R' ⟨T', a.defers⟩ w) : St QP P l ks A C Q R a w := by
  have hi : l.toArray[i]? = some o := by simpa using hil
  have ⟨hiR, hr, hR, hk⟩ := chk_spec hchk
  have ⟨hrun, hput⟩ := runsTo_of_wp (a' := ⟨T', a.defers⟩) hd hlt rfl hl hv
  exact .take i o hi hiR hr hR (v := T'.getD d undef) (by rw [hk]; exact ⟨o, hi, .inl ⟨hg, hrun⟩⟩) (by rw [← hput]; exact h)

/-- passed over: the guard of a reading operation says no -/
theorem St.skipr {R : List Nat} {a : Act} {w : World} (i : Nat) (R' : List Nat) (o : Oper) (hil : l[i]? = some o) (hchk : chk l.toArray ks R R' i .rd = true)
    (hg : Region.wanted o (yielded l.toArray a.tmps) = false) (h : ∀ K : Act → Prop, (∀ a, St QP P l ks A C Q R' a w → K a) → K (a.put o.dst undef)) : St QP P l ks A C Q R a w := by
  have hi : l.toArray[i]? = some o := by simpa using hil
  have ⟨hiR, hr, hR, hk⟩ := chk_spec hchk
  exact .take i o hi hiR hr hR (by rw [hk]; exact ⟨o, hi, .inr ⟨hg, rfl⟩⟩) (h _ fun _ h => h)
end steps
end plain
end
section
variable {n : Nat} {P : Program} {l : List Oper} {Q' : Exit → Act → World → Prop} {QP : List PanicEntry → World → Prop}
theorem St.doorR {lp id : Nat} {a : Act} {w : World} (C : World → Prop) (ks : List Kd) (A : List Nat) (R : List Nat) (hm : P.follows .mixedOrders = true) (hqq : l.all noDefer = true) (hs : stat l.toArray ks A = true) (hR : List.range l.length = R)
    (hQP : ∀ c a w, a.defers = [] → QP c w → Q' (.panic c) a w) (h : St QP P l ks A C (Q' .normal) R a w.drew) : (Code.region id l.toArray true).wpIn (Fence.wide.inRound lp) n P Q' a w := by
  refine wpIn_mono (Q := onlyP QP (Q' .normal)) ?_ (fun e a w h => h.elim (fun ⟨he, hq⟩ => he ▸ hq) (fun ⟨c, he, hd, hq⟩ => he ▸ hQP c a w hd hq))
  refine wpIn_region_any hm ?_
  subst hR
  have h2 := h List.nodup_range (fun k o e hk _ _ _ => List.mem_range.2 (by have := lt_size hk; simpa using this)) (by simp) (stat_spec hs)
  have := wpAny_of_all (P := P) (C := C) (QP := QP) (stat_spec hs) (Q' .normal) l.length (List.range l.length) (Array.replicate l.length false) a w.drew List.nodup_range (by simp) (by simp) (by simp)
    (fun k hk => by simp at hk; simp [hk]) (by simpa using h2)
  have h3 := any_wide (l := lp) (n := n) (onlyP_lets _ _) (fun o ho => List.all_eq_true.1 hqq o (by simpa using ho)) _ _ _ _ this
  simpa using h3
end
end Go.Ord.OrdP
namespace Go.Ord
open Go
theorem list_wide {lp n : Nat} {P : Program} {ops : Array Oper} {Q : Exit → Act → World → Prop} (hnl : ¬ LetsOut Q) : ∀ (l : List Oper) (a : Act) (w : World), l.all noDefer = true → wpList P ops Q l a w → wpListIn (Fence.wide.inRound lp) n P ops Q l a w
  | [], _, _, _, h => h
  | o :: rest, a, w, hq, h => by
    rw [List.all_cons, Bool.and_eq_true] at hq
    unfold wpList at h
    unfold wpListIn
    split
    · rename_i hw
      rw [if_pos hw] at h
      exact wide_in hq.1 (Oper.wp_mono (fun a w hh => list_wide hnl rest a w hq.2 hh) (h.resolve_right fun hh => hnl hh.2))
    · rename_i hw
      rw [if_neg hw] at h
      exact ⟨fun _ _ => trivial, list_wide hnl rest _ w hq.2 h⟩
theorem plainR {lp n id : Nat} {P : Program} {l : List Oper} {Q' : Exit → Act → World → Prop} {a : Act} {w : World} (hqq : l.all noDefer = true) (h : wpList P l.toArray (only (Q' .normal)) l a w) :
    (Code.region id l.toArray false).wpIn (Fence.wide.inRound lp) n P Q' a w := by
  refine Go.wpIn_mono (Q := only (Q' .normal)) ?_ (fun e a w ⟨he, hq⟩ => he ▸ hq)
  exact wpIn_region_lit (list_wide (only_lets _) l a w hqq h)
end Go.Ord
namespace Go
/-- the widest fence does not count frames -/
theorem YieldAt.any {m : Nat} (m' : Nat) {P : Program} {l : Nat} {args : Array Value} {W : World} {R : Ending → World → Prop} (h : YieldAt Fence.wide m P l args W R) : YieldAt Fence.wide m' P l args W R := by
  obtain ⟨fn, tmps, assign, body, h1, h2, h3⟩ := h
  exact ⟨fn, tmps, assign, body, h1, h2, fun c cs _ => h3 c cs (room_wide _)⟩
theorem RoundIn.any {m : Nat} (m' : Nat) {P : Program} {l : Nat} {f : FuncId} {tmps : Array Value} {assign body : Code} {W : World} {R : Ending → World → Prop} (h : RoundIn Fence.wide m P l f tmps assign body W R) (l2 : Nat) : RoundIn (Fence.wide.inRound l2) m' P l f tmps assign body W R :=
  ⟨h.1, fun c cs _ => h.2 c cs (room_wide _)⟩
theorem CallsIn.any {m : Nat} (m' : Nat) {P : Program} {f : FuncId} {args : Array Value} {W : World} {R : Ending → World → Prop} (h : CallsIn Fence.wide m P f args W R) : CallsIn Fence.wide m' P f args W R := callsIn_wide.2 (callsIn_wide.1 h)
end Go
namespace Go.Proofs.Ytkedpifopclipaa
open Go.RowKit Go.Mem Go.Aig
attribute [local go_sem] Oper.semAt_some
/-- a yield of steps: the round, the blocks of the loop outside, the world; the bit, and what is left -/
structure YX where
  k : Nat
  T : List Nat
  W : World
  f : Nat
  rb : Nat
  rc : Nat
  r : List Nat
def sEnc (n : Nat) (x : YX) : Array Value := #[.int .i64 x.f, .slice (some ⟨x.rb, 0, none⟩) (n + 1) x.rc]
def KX (w : World) (F T0 : List Nat) (I : Nat → List Nat → World → Prop) (d : List Nat) (G : Gra) (bits : List Nat) (n : Nat) (x : YX) (W : World) : Prop :=
  Ch [w.heap.size, w.heap.size + 1] x.W W ∧ Ch (T0 ++ F) w x.W ∧ I x.k x.T x.W ∧ row x.W 45 1 (.slice (some ⟨x.rb, 0, none⟩) (n + 1) x.rc) (n + 1) (refsCells x.r) ∧ (x.rb ∉ x.T ∧ w.heap.size + 2 ≤ x.rb) ∧ (∀ q ∈ x.T, q ≠ w.heap.size ∧ q ≠ w.heap.size + 1 ∧ q < x.W.heap.size ∧ (q ∈ T0 ∨ w.heap.size + 2 ≤ q)) ∧ w.heap.size + 2 ≤ x.W.heap.size ∧ x.k < n ∧
    (divF d (G, 0) (bits.take (x.k + 1))).2 = ((divF d (G, 0) (bits.take x.k)).2.1 ++ [x.f], x.r) ∧ x.r.length = n + 1 ∧ ∀ z ∈ x.r, z ≤ 1000000
def JX (w : World) (I : Nat → List Nat → World → Prop) (x : YX) (W' : World) : Prop :=
  ∃ T', I (x.k + 1) T' W' ∧ Ch (w.heap.size :: (w.heap.size + 1) :: x.T) x.W W' ∧ (∀ q ∈ T', (q ∈ x.T ∨ x.W.heap.size ≤ q) ∧ q < W'.heap.size)
def DX (w : World) (g : Nat) (F T0 : List Nat) (I : Nat → List Nat → World → Prop) (R : Mk × List Nat × List Nat) (n : Nat) (W' : World) : Prop :=
  R.1.2 = 0 ∧ ∃ F' T', GIn W' g R.1.1 F' ∧ Ch (T0 ++ F) w W' ∧ (∀ q ∈ F', (q ∈ F ∧ q < w.heap.size) ∨ w.heap.size + 2 ≤ q) ∧ F'[2]? = F[2]? ∧ I n T' W' ∧ (∀ q ∈ T', ((q ∈ T0 ∧ q < w.heap.size) ∨ w.heap.size + 2 ≤ q) ∧ q ∉ F' ∧ q < W'.heap.size)
def DPX (w : World) (g : Nat) (F T0 : List Nat) (G : Gra) (er : Nat) (c : List PanicEntry) (W' : World) : Prop :=
  er ≠ 0 ∧ c = [{ v := stopV er, recovered := false }] ∧ ∃ G' F', Ext G G' ∧ GIn W' g G' F' ∧ Ch (T0 ++ F) w W' ∧ (∀ q ∈ F', (q ∈ F ∧ q < w.heap.size) ∨ w.heap.size + 2 ≤ q) ∧ F'[2]? = F[2]?
theorem bwd_bit {x : List Nat} {n k i b : Nat} (hn : x.length = n) (h : (bwd x)[k]? = some (i, b)) : k < n ∧ x.reverse[k]? = some b := by
  have hl := (List.getElem?_eq_some_iff.1 h).1
  rw [bwd_len] at hl
  refine ⟨by omega, ?_⟩
  obtain ⟨r, hr⟩ : ∃ r, x[x.length - 1 - k]? = some r := ⟨_, List.getElem?_eq_getElem (by omega)⟩
  have h2 := bwd_at (l := x) (k := k) (j := x.length - 1 - k) (by omega) hr
  rw [h] at h2
  cases h2
  rw [List.getElem?_reverse (by omega)]
  exact hr
theorem row_cap' {w : World} {e : TypeId} {b n m c : Nat} {xs : List Value} (h : row w e 1 (.slice (some ⟨b, 0, none⟩) n c) m xs) : n ≤ c := by
  rcases h.2 with ⟨e1, _⟩ | ⟨g, cap, cur, e1, h2, h3, h4, _⟩
  · cases e1
  · cases e1; omega
/-- between two rounds of steps -/
def II (w : World) (g : Nat) (G : Gra) (F T0 : List Nat) (I : Nat → List Nat → World → Prop) (X : World → Prop) (B2 b4 b5 b6 bb db dc : Nat) (yv bx : Value) (n : Nat) (d bits : List Nat) (k : Nat) (W : World) : Prop :=
  ∃ Gp F' T rb rc r, (divF d (G, 0) (bits.take k)).1 = (Gp, 0) ∧ (divF d (G, 0) (bits.take k)).2.2 = r ∧ r.length = n + 1 ∧ (∀ q ∈ r, q < 2 * Gp.nodes.length) ∧ Ext G Gp ∧ SR w g F T0 I X B2 b4 b5 b6 bb db dc yv bx n d W Gp F' T k rb rc r
/-- where steps stops -/
def DP2 (w : World) (g : Nat) (F T0 : List Nat) (G : Gra) (X : World → Prop) (B2 er : Nat) (c : List PanicEntry) (W' : World) : Prop :=
  er ≠ 0 ∧ c = [{ v := stopV er, recovered := false }] ∧ ∃ G' F', Ext G G' ∧ GIn W' g G' F' ∧ Ch (T0 ++ F) w W' ∧ (∀ q ∈ F', (q ∈ F ∧ q < w.heap.size) ∨ w.heap.size + 2 ≤ q) ∧ F'[2]? = F[2]? ∧ X W' ∧ (∀ q ∈ F', q < B2 ∨ B2 + 2 ≤ q)
theorem SR.stop {w : World} {g : Nat} {G : Gra} {F T0 : List Nat} {I : Nat → List Nat → World → Prop} {X : World → Prop} {B2 b4 b5 b6 bb db dc : Nat} {yv bx : Value} {n : Nat} {d : List Nat} {W : World} {Gp : Gra} {F' T : List Nat} {k rb rc : Nat} {r : List Nat} (h : SR w g F T0 I X B2 b4 b5 b6 bb db dc yv bx n d W Gp F' T k rb rc r) (he : Ext G Gp) {er e0 : Nat} (h0 : e0 ≠ 0) (hr : er = e0) : DP2 w g F T0 G X B2 er [{ v := stopV e0, recovered := false }] W :=
  ⟨by rw [hr]; exact h0, by rw [hr], Gp, F', he, h.sx.gin, h.sx.ch, h.sx.own, h.sx.f2, h.xw, h.sx.nb⟩
theorem SR.booksTo {w : World} {g : Nat} {F T0 : List Nat} {I : Nat → List Nat → World → Prop} {X : World → Prop} {B2 b4 b5 b6 bb db dc : Nat} {yv bx : Value} {n : Nat} {d : List Nat} {W W' : World} {Gp G1 : Gra} {F' T : List Nat} {k rb rc : Nat} {r : List Nat} (h : SR w g F T0 I X B2 b4 b5 b6 bb db dc yv bx n d W Gp F' T k rb rc r) (ht : GTo W g G1 F' W') : Books B2 W W' := by
  obtain ⟨_, _, hc, _⟩ := ht
  exact Books.of_ch hc h.hB (fun q hq => by have := h.sx.nb q hq; omega)
theorem fnvmdsteps1 : Fnv 185 := fnv_of Try.func185 (by simp [Try.f185]) (by simp [Try.f185])
section
variable {w : World} {g : Nat} {G : Gra} {F T0 : List Nat}
set_option maxRecDepth 100000 in
set_option maxHeartbeats 1000000 in
theorem mdsteps_is (w : World) (g : Nat) (xa ya : Option Addr) (n xc m yc : Nat) :
    Calls Try.prog 128 #[.pointer (some ⟨g, 0, none⟩), .slice xa n xc, .slice ya m yc] w fun e w' => e = .returned (.func (.func 185) #[] #[.pointer (some ⟨w.heap.size + 1 + 1, 0, none⟩), .pointer (some ⟨w.heap.size + 1, 0, none⟩), .pointer (some ⟨w.heap.size, 0, none⟩)]) ∧
      w' = ((w.alloc (.cells #[.pointer (some ⟨g, 0, none⟩)] 27)).alloc (.cells #[.slice xa n xc] 28)).alloc (.cells #[.slice ya m yc] 28) := by
  have hmf : ∀ (fn : Fn) (first cap : Array Value) (w : World), (Instr.makeFunc fn first cap).run Try.prog w = .ok (.func fn first cap) w := fun _ _ _ _ => rfl
  go_enter Try.func128, Try.ntmps128
  go_wp2_with fail
  go_ret
  exact ⟨rfl, rfl⟩
set_option maxRecDepth 100000 in
set_option maxHeartbeats 4000000 in
theorem mdsteps1_seq {I : Nat → List Nat → World → Prop} (h : GIn w g G F) {x y : List Nat} {xa ya : Option Addr} {xc yc : Nat} (n : Nat) (hxl : x.length = n) (hyl : y.length = n) (h1 : 1 ≤ n) (h16 : n ≤ 16)
    (hx : WVin w (T0 ++ F) ⟨xa, natInts x, xc⟩) (hy : WVin w (T0 ++ F) ⟨ya, natInts y, yc⟩) (hxr : ∀ r ∈ x, r < 2 * G.nodes.length) (hyr : ∀ r ∈ y, r < 2 * G.nodes.length)
    {bG bX bY : Nat} (hbg : blk w bG [.pointer (some ⟨g, 0, none⟩)]) (hbx : blk w bX [.slice xa n xc]) (hby : blk w bY [.slice ya n yc]) (hbF : bG ∉ T0 ++ F ∧ bX ∉ T0 ++ F ∧ bY ∉ T0 ++ F)
    (hI : IOk I) (hI0 : I 0 T0 w) (hT0 : ∀ q ∈ T0, q < w.heap.size ∧ q ∉ F)
    (N : Nat) (lp : Nat) (X : World → Prop) (hX : XOk w X) (hXB : ∀ A, X A → w.heap.size + 2 ≤ A.heap.size)
    (hY : ∀ q W, KX w F T0 I (y ++ [0]) G x.reverse n q W → X W → YieldAt Fence.wide N Try.prog lp (sEnc n q) W fun e W' => e = .returned (.bool true) ∧ JX w I q W' ∧ X W')
    (W : World) (hc0 : Ch [w.heap.size, w.heap.size + 1] w W) (hXW : X W) :
    CallsIn Fence.wide N Try.prog 185 (#[.func (.yield lp) #[] #[]] ++ #[.pointer (some ⟨bY, 0, none⟩), .pointer (some ⟨bX, 0, none⟩), .pointer (some ⟨bG, 0, none⟩)]) W fun e W' =>
      ((∃ v, e = .returned v) ∧ DX w g F T0 I (divF (y ++ [0]) (G, 0) x.reverse) n W' ∧ X W') ∨ (∃ c, e = .panicked c ∧ DPX w g F T0 G (divF (y ++ [0]) (G, 0) x.reverse).1.2 c W' ∧ X W') := by
  refine CallsIn.any (m := 4) N ?_
  show CallsIn Fence.wide 4 Try.prog 185 #[.func (.yield lp) #[] #[], .pointer (some ⟨bY, 0, none⟩), .pointer (some ⟨bX, 0, none⟩), .pointer (some ⟨bG, 0, none⟩)] W _
  obtain ⟨d, hd⟩ : ∃ d, y ++ [0] = d := ⟨_, rfl⟩
  have hdl : d.length = n + 1 := by rw [← hd]; simp [hyl]
  rw [hd] at hY ⊢
  refine callsIn_of_wpAt_marks Try.func185 rfl trivial ?_ rfl
  simp only [Try.ntmps185, List.size_toArray, List.length_cons, List.length_nil, Nat.reduceAdd, Nat.reduceSub, Array.replicate_succ, Array.replicate_zero, List.push_toArray, List.append_toArray, List.nil_append, List.cons_append]
  have hsz : w.heap.size + 2 ≤ W.heap.size := hXB _ hXW
  have hnw : ∀ q, q ∉ T0 ++ F → q < w.heap.size → q ∉ [w.heap.size, w.heap.size + 1] := fun q _ hq => by simp; omega
  have hbG0 := hbg.ch hc0 (hnw _ hbF.1 hbg.lt)
  have hbX0 := hbx.ch hc0 (hnw _ hbF.2.1 hbx.lt)
  have hbY0 := hby.ch hc0 (hnw _ hbF.2.2 hby.lt)
  have hyv := hy.ok.ch hc0 (fun p hp => hnw _ (hy.apart p.block (by simp only at hp; simp [ablk, hp])).1 (hy.apart p.block (by simp only at hp; simp [ablk, hp])).2)
  have hcl := fun W1 (hW1 : Ch [] W W1) => Clref_w (hyv.ch hW1 (by simp)) n (by simpa [natInts] using hyl)
  simp only at hcl
  have c0 := (hbY0.alloc (.cells #[.func (.yield lp) #[] #[]] 259)).cell (i := 0) rfl
  have HCL := Lib.hid hcl; clear hcl
  have HX := Lib.hid hx; clear hx
  have HY := Lib.hid hy; clear hy
  have HH := Lib.hid h; clear h
  have HYY := Lib.hid hY; clear hY
  have HI := Lib.hid hI; clear hI
  have HI0 := Lib.hid hI0; clear hI0
  have HT0 := Lib.hid hT0; clear hT0
  have HXX := Lib.hid hX; clear hX
  have HXW := Lib.hid hXW; clear hXW
  have HXB := Lib.hid hXB; clear hXB
  have HXR := Lib.hid hxr; clear hxr
  have HYR := Lib.hid hyr; clear hyr
  have HC0 := Lib.hid hc0; clear hc0
  clear hnw
  refine wpAt_seq (wpAt_of_wpIn (wpIn_wide.2 ?_))
  go_wp2_with fail
  refine wpAt_seq (wpAt_of_wpIn (wpIn_wide.2 ?_))
  go_wp2_with fail
  refine (HCL.out _ ((Ch.refl _ _).alloc _)).mono ?_
  rintro e w1 ⟨v, rfl, hrow1, hown1, hc1⟩
  have ecy : intCells (natInts y) = refsCells y := by simp [intCells, natInts, refsCells, Function.comp_def]
  have hrow1 : row w1 45 1 v n (refsCells y) := by
    rw [ecy] at hrow1
    simpa [refsCells, hyl] using hrow1
  obtain ⟨va, vc, rfl⟩ := row.shape hrow1
  have hcA : Ch [] w1 (w1.alloc (.cells #[.int .i64 0] 45)) := (Ch.refl _ _).alloc _
  have hrA := hrow1.ch hcA (by simp)
  have hbA : blk (w1.alloc (.cells #[.int .i64 0] 45)) w1.heap.size [.int .i64 0] := blk.new' _ _ rfl
  have hc01 : Ch [] W w1 := ((Ch.refl [] W).alloc _).trans hc1 (by simp)
  have hb4 : blk w1 W.heap.size [.func (.yield lp) #[] #[]] := (blk.new W _ _).ch hc1 (by simp)
  have HRA := Lib.hid hrA; clear hrA hrow1
  have HBA := Lib.hid hbA; clear hbA
  have HCA := Lib.hid hcA; clear hcA
  have HC01 := Lib.hid hc01; clear hc01 hc1
  have HB4 := Lib.hid hb4; clear hb4
  have HOWN1 := Lib.hid hown1; clear hown1 c0 hyv
  go_wp2_with (at_builtin; go_loud (refine wpList_append_row slRefs rfl _ _ rfl (v := .slice va n vc) (n := n) (xs := refsCells y) rfl HRA.out (ad := ⟨w1.heap.size, 0, none⟩) (m := 1) (c := 1) (news := [.int .i64 0]) rfl rfl (news_blk HBA.out) (by simp [Value.oneCell']) (by omega) (by omega) ?_; intro v' w5 hown4 hC4 hf4; obtain ⟨db, dc, rfl⟩ := row.parts hown4 (by omega); have HO4 := Lib.hid hown4; clear hown4; have HCC4 := Lib.hid hC4; clear hC4; have HF4 := Lib.hid hf4; clear hf4))
  refine wpAt_named fun W2 hW2 => ?_
  have hrd5 : row w5 45 1 (.slice (some ⟨db, 0, none⟩) (n + 1) dc) (n + 1) (refsCells d) := by
    have := HO4.out
    rw [← hd]
    simpa [refsCells] using this
  obtain ⟨hc05, hlo5⟩ := app_step (W0 := W) HC01.out HCA.out (fun q hq => by have := HOWN1.out q hq; simp at this; omega) HCC4.out HF4.out
  have hdb : W.heap.size < db := by
    rcases HF4.out db rfl with e | e
    · have := HOWN1.out db (by simp [e])
      simp at this; omega
    · have := HC01.out.size; have := HCA.out.size
      have := HB4.out.lt
      omega
  have hz5 := hc05.size
  have hb4' := (HB4.out.ch HCA.out (by simp)).ch HCC4.out (fun hm => by have := HOWN1.out _ hm; simp at this; omega)
  have hdl5 := (hrd5.lt db rfl).2
  have hC2 : Ch [] W W2 := by rw [hW2]; exact hc05.alloc _
  have hb42 : blk W2 W.heap.size [.func (.yield lp) #[] #[]] := by rw [hW2]; exact hb4'.alloc _
  have hb52 : blk W2 w5.heap.size [.slice (some ⟨db, 0, none⟩) (n + 1) dc] := by rw [hW2]; exact blk.new _ _ _
  have hrd2 : row W2 45 1 (.slice (some ⟨db, 0, none⟩) (n + 1) dc) (n + 1) (refsCells d) := by rw [hW2]; exact hrd5.ch (F := []) ((Ch.refl [] _).alloc _) (by simp)
  have hz2 : W2.heap.size = w5.heap.size + 1 := by rw [hW2]; simp
  have hdb5 : db < w5.heap.size := hdl5
  obtain ⟨b5, hb5⟩ : ∃ b5, w5.heap.size = b5 := ⟨_, rfl⟩
  rw [hb5] at hb52 hz2 hdb5 ⊢
  have hW5 : W.heap.size < b5 := by omega
  obtain ⟨b4, hb4e⟩ : ∃ b4, W.heap.size = b4 := ⟨_, rfl⟩
  rw [hb4e] at hb42 hdb hW5 hsz ⊢
  have c5 := hb52.cell (i := 0) rfl
  have hmk := run_make_refs W2 (n + 1) (by omega)
  rw [show ((n + 1 : Nat) : Int) = (n : Int) + 1 by omega] at hmk
  clear hW2 hrd5 hb4' hlo5 hc05 HB4 HC01 HCA HBA HRA HOWN1 HO4 HCC4 HF4 HCL hz5 hdl5 hb5
  have HRD2 := Lib.hid hrd2; clear hrd2
  have HB52 := Lib.hid hb52; clear hb52
  have HB42 := Lib.hid hb42; clear hb42
  have HC2 := Lib.hid hC2; clear hC2
  refine wpAt_seq (wpAt_of_wpIn (wpIn_wide.2 ?_))
  go_wp2_with fail
  refine wpAt_named fun W3 hW3 => ?_
  have hC3 : Ch [] W2 W3 := by rw [hW3]; exact ((Ch.refl _ _).alloc _).alloc _
  have hz3 : W3.heap.size = b5 + 3 := by rw [hW3]; simp; omega
  have hrr3 : row W3 45 1 (.slice (some ⟨b5 + 1, 0, none⟩) (n + 1) (n + 1)) (n + 1) (refsCells (List.replicate (n + 1) 0)) := by
    rw [hW3]
    have hz : W2.heap.size = b5 + 1 := hz2
    have h0 := row_fresh (w := W2) (l := List.replicate (n + 1) 0) (n := n + 1) rfl (by simp) (by omega)
    rw [hz] at h0
    have e : intCells (List.replicate (n + 1) 0) = refsCells (List.replicate (n + 1) 0) := by simp [intCells, refsCells]
    rw [e] at h0
    exact h0.ch (F := []) ((Ch.refl [] _).alloc _) (by simp)
  have hb63 : blk W3 (b5 + 1 + 1) [.slice (some ⟨b5 + 1, 0, none⟩) (n + 1) (n + 1)] := by rw [hW3]; exact blk.new' _ _ (by simp; omega)
  have hC03 := HC2.out.trans hC3 (by simp)
  have x3 := (hbX0.ch hC03 (by simp)).cell (i := 0) rfl
  have hbw := Bwref_is (w := W3) xa n xc
  clear hW3 hmk c5
  have HBW := Lib.hid hbw; clear hbw
  refine wpAt_seq (wpAt_of_wpIn (wpIn_wide.2 ?_))
  go_wp2_with fail
  refine HBW.out.mono ?_
  rintro e w4 ⟨rfl, hw4⟩
  have hC4 : Ch [] W3 w4 := by rw [hw4]; exact (Ch.refl _ _).alloc _
  have hbb4 : blk w4 (b5 + 3) [.slice xa n xc] := by rw [hw4]; exact blk.new' _ _ hz3.symm
  have hz4 : w4.heap.size = b5 + 4 := by rw [hw4]; simp; omega
  clear hw4
  rw [hz3]
  clear HBW
  go_wp2_with fail
  have hC04 := hC03.trans hC4 (by simp)
  have hsx : SX w g F T0 I (b5 + 4) [] w4 G F T0 0 := by
    have hcw := HC0.out.trans hC04 (by simp)
    have hcw' : Ch (T0 ++ F) w w4 := hcw.mono (fun q hq => .inr (by simp at hq; omega))
    have hFl := HH.out.lt
    refine ⟨HH.out.same hcw (fun q hq hm => by have := hFl q hq; simp at hm; omega), hcw', fun q hq => .inl ⟨hq, hFl q hq⟩, fun q hq => .inl (by have := hFl q hq; omega), rfl, HI.out.same _ _ _ _ _ HI0.out hcw (fun q hq hm => by have := (HT0.out q hm).1; simp at hq; omega), fun q hq => ?_, by simp⟩
    obtain ⟨t1, t2⟩ := HT0.out q hq
    exact ⟨.inl ⟨hq, t1⟩, t2, .inl (by omega), by omega⟩
  have hrl := (HRD2.out.lt db rfl).2
  have hFl := HH.out.lt
  have hbl : b4 < b5 + 4 := by omega
  have hsx2 : SX w g F T0 I (b5 + 4) [b5 + 1, b4, b5, b5 + 1 + 1, b5 + 3, db] w4 G F T0 0 := ⟨hsx.gin, hsx.ch, hsx.own, hsx.nb, hsx.f2, hsx.it, hsx.tb, fun q hq => by
    have hq2 : b4 ≤ q ∧ q < b5 + 4 := by
      simp only [List.mem_cons, List.not_mem_nil, or_false] at hq
      omega
    exact ⟨by omega, fun hm => by have := hFl q hm; omega, fun hm => by have := (HT0.out q hm).1; omega, .inl hq2.2, by omega⟩⟩
  have hC24 := hC3.trans hC4 (by simp)
  have hII : ∀ W1, Ch [b5 + 4, b5 + 4 + 1] w4 W1 → b5 + 4 + 2 ≤ W1.heap.size → II w g G F T0 I X (b5 + 4) b4 b5 (b5 + 1 + 1) (b5 + 3) db dc (.func (.yield lp) #[] #[]) (.slice xa n xc) n d x.reverse 0 W1 := by
    intro W1 hcb hz9
    have hnb : ∀ q, q < b5 + 4 → q ∉ [b5 + 4, b5 + 4 + 1] := fun q hq => by simp; omega
    refine ⟨G, F, T0, b5 + 1, n + 1, List.replicate (n + 1) 0, rfl, by show List.replicate d.length 0 = _; rw [hdl], by simp, fun q hq => ?_, .refl _, hsx2.same HI.out hcb (fun q hq => ⟨?_, fun hm => ?_, fun hm => ?_⟩), (HB42.out.ch hC24 (by simp)).ch hcb (hnb _ (by omega)), (HB52.out.ch hC24 (by simp)).ch hcb (hnb _ (by omega)), (hb63.ch hC4 (by simp)).ch hcb (hnb _ (by omega)), hbb4.ch hcb (hnb _ (by omega)), (HRD2.out.ch hC24 (by simp)).ch hcb (fun q hq => by cases hq; exact hnb db (by omega)), (hrr3.ch hC4 (by simp)).ch hcb (fun q hq => by cases hq; exact hnb _ (by show b5 + 1 < b5 + 4; omega)), ⟨by omega, by omega, by omega, by omega, by omega⟩, ⟨by omega, by omega, by omega, by omega⟩, HXX.out.same _ _ _ (HXX.out.same _ _ _ HXW.out hC04 (by simp)) hcb (fun q hq => by simp at hq; omega), by omega, by omega⟩
    · rw [(List.mem_replicate.1 hq).2]
      have := HH.out.ok.wf.pos
      omega
    · simp at hq; omega
    · have := hFl q hm; simp at hq; omega
    · have := (HT0.out q hm).1; simp at hq; omega
  have HII := Lib.hid hII; clear hII
  clear hsx hsx2 hbb4 hb63 hrr3 hC3 hC4 hC24 hC04 hC03 x3 HI0 HXW HB42 HB52 HRD2 hbX0 hbY0 hbG0 HC2
  refine wpAt_block ?_
  refine wpAt_rangeFunc_S (n := 4) (f₀ := 185) Try.func185 (b5 + 4) hz4 rfl (by omega) rfl trivial (fun args w => fnvBwref1 args w) (encs := fun (q : Nat × Nat × Nat) => fitEnc q.2) (fun _ => rfl)
    (fun W' => Ch [b5 + 4, b5 + 4 + 1] w4 W')
    (fun q W' => (bwd x)[q.1]? = some q.2 ∧ II w g G F T0 I X (b5 + 4) b4 b5 (b5 + 1 + 1) (b5 + 3) db dc (.func (.yield lp) #[] #[]) (.slice xa n xc) n d x.reverse q.1 W')
    (fun q W' => II w g G F T0 I X (b5 + 4) b4 b5 (b5 + 1 + 1) (b5 + 3) db dc (.func (.yield lp) #[] #[]) (.slice xa n xc) n d x.reverse (q.1 + 1) W')
    (II w g G F T0 I X (b5 + 4) b4 b5 (b5 + 1 + 1) (b5 + 3) db dc (.func (.yield lp) #[] #[]) (.slice xa n xc) n d x.reverse n)
    (DP2 w g F T0 G X (b5 + 4) (divF d (G, 0) x.reverse).1.2)
    ?seq ?j0 ?k ?j ?d ?pan (Ch.refl _ _) ?a1 ?assign ?body ?done
  case assign =>
    intro q x W K hK
    simp only [fitEnc]
    gi_wp2
    exact hK
  case j0 =>
    intro A A' h hc
    exact h.trans hc (fun q hq => .inl hq)
  case k =>
    rintro q A A' ⟨hq, Gp, F', T, rb, rc, r, i1, i2, i3, i4, i5, hs⟩ hc
    exact ⟨hq, Gp, F', T, rb, rc, r, i1, i2, i3, i4, i5, hs.books HI.out HXX.out (by omega) hc⟩
  case j =>
    rintro q A A' ⟨Gp, F', T, rb, rc, r, i1, i2, i3, i4, i5, hs⟩ hc
    exact ⟨Gp, F', T, rb, rc, r, i1, i2, i3, i4, i5, hs.books HI.out HXX.out (by omega) hc⟩
  case d =>
    rintro A A' ⟨Gp, F', T, rb, rc, r, i1, i2, i3, i4, i5, hs⟩ hc
    exact ⟨Gp, F', T, rb, rc, r, i1, i2, i3, i4, i5, hs.books HI.out HXX.out (by omega) hc⟩
  case seq =>
    intro l2 X2 Y2 hX2 hX2B hY2 W1 hI1 hXW1
    refine (Bw_mem (xa := xa) (xc := xc) (bx := b5 + 3) (x := x) n hxl (by omega) (fun k W' => II w g G F T0 I X (b5 + 4) b4 b5 (b5 + 1 + 1) (b5 + 3) db dc (.func (.yield lp) #[] #[]) (.slice xa n xc) n d x.reverse k W' ∧ X2 W') (fun c W' => DP2 w g F T0 G X (b5 + 4) (divF d (G, 0) x.reverse).1.2 c W' ∧ Y2 W') ?_ 3 (by omega) l2 ?_ W1 ⟨HII.out W1 hI1 (hX2B _ hXW1), hXW1⟩).mono ?_
    · rintro k W' ⟨⟨Gp, F', T, rb, rc, r, i1, i2, i3, i4, i5, hs⟩, hx2⟩
      refine ⟨hs.cb.cell rfl, ?_⟩
      exact HX.out.ok.sl.ch hs.sx.ch (fun p hp => (HX.out.apart p.block (by simp only at hp; simp [ablk, hp])).1)
    · rintro k i r W' hk ⟨hi, hx2⟩
      refine (hY2 (k, i, r) W' ⟨hk, hi⟩ hx2).mono ?_
      rintro e W3 (⟨rfl, q1, q2⟩ | ⟨c, rfl, q1, q2⟩)
      · exact .inl ⟨rfl, q1, q2⟩
      · exact .inr ⟨c, rfl, q1, q2⟩
    · rintro e W' (⟨hv, q1, q2⟩ | ⟨c, rfl, q1, q2⟩)
      · exact .inl ⟨hv, q1, q2⟩
      · exact .inr ⟨c, rfl, q1, q2⟩
  case pan =>
    rintro c W1 ⟨p0, rfl, G', F', p1, p2, p3, p4, p5, p6, p7⟩ hK hz
    refine .inr ⟨_, rfl, ?_⟩
    have hcp : Ch [b5 + 4] W1 (W1.putObj (b5 + 4) (.deferred none)) := ch_put (by simp)
    refine ⟨by simp, .inl ⟨_, _, rfl, run_takeDeferred hK, ?_⟩⟩
    refine .inr ⟨_, rfl, ⟨p0, rfl, G', F', p1, p2.same hcp (fun q hq hm => by have := p7 q hq; simp at hm; omega), p3.trans hcp (fun q hq => .inr (by simp at hq; omega)), p4, p5⟩, ?_⟩
    exact HXX.out.same _ _ _ p6 hcp (fun q hq => by simp at hq; omega)
  case done =>
    rintro W1 ⟨Gp, F', T, rb, rc, r, i1, i2, i3, i4, i5, hs⟩ hK hz
    refine .inl ⟨rfl, ?_⟩
    have hcp : Ch [b5 + 4] W1 (W1.putObj (b5 + 4) (.deferred none)) := ch_put (by simp)
    have hs2 := hs.books HI.out HXX.out (by omega) (hcp.mono (fun q hq => .inl (by simp at hq; simp [hq])))
    refine ⟨by simp, .inl ⟨_, _, rfl, run_takeDeferred hK, ?_⟩⟩
    refine ⟨_, results_none rfl _ _ _, .inl ⟨⟨_, rfl⟩, ?_, hs2.xw⟩⟩
    rw [List.take_of_length_le (by simp [hxl])] at i1
    exact ⟨by rw [i1], F', T, by rw [i1]; exact hs2.sx.gin, hs2.sx.ch, hs2.sx.own, hs2.sx.f2, hs2.sx.it, fun q hq => ⟨(hs2.sx.tb q hq).1, (hs2.sx.tb q hq).2.1, (hs2.sx.tb q hq).2.2.2⟩⟩
  case body =>
    rintro l2 ⟨k, i, b⟩ Wr ⟨hkb, Gp, F', T, rb, rc, r, i1, i2, i3, i4, i5, hs⟩ hWl
    simp only at hkb i1 i2 hs
    obtain ⟨hkn, hbk⟩ := bwd_bit hxl hkb
    have hbx2 := HXR.out b (by have := List.mem_of_getElem? hbk; simpa using this)
    have hdr : ∀ q ∈ d, q < 2 * Gp.nodes.length := fun q hq => by
      rw [← hd] at hq
      rcases List.mem_append.1 hq with hq | hq
      · exact i5.lt (HYR.out q hq)
      · rw [List.mem_singleton.1 hq]; have := hs.sx.gin.ok.wf.pos; omega
    have hrr : ∀ q ∈ b :: r.dropLast, q < 2 * Gp.nodes.length := fun q hq => by
      rcases List.mem_cons.1 hq with rfl | hq
      · exact i5.lt hbx2
      · exact i4 q (List.dropLast_subset _ hq)
    have hr1l : (b :: r.dropLast).length = n + 1 := by simp [i3]
    have hgl : ∀ W', Ch (T0 ++ F) w W' → W'.cell? ⟨bG, 0, none⟩ = some (.pointer (some ⟨g, 0, none⟩)) := fun W' hc => (hbg.ch hc hbF.1).cell rfl
    have hcA : Ch [] Wr (Wr.alloc (.cells #[.int .i64 b] 45)) := (Ch.refl _ _).alloc _
    have hrn : row (Wr.alloc (.cells #[.int .i64 b] 45)) 45 1 (.slice (some ⟨Wr.heap.size, 0, none⟩) 1 1) 1 [.int .i64 b] := by
      have := row_fresh (w := Wr) (l := [(b : Int)]) (n := 1) rfl rfl (by omega)
      simpa [intCells] using this
    have hra := hs.rr.ch hcA (by simp)
    have hnews : ∀ j u, (refsCells r.dropLast)[j]? = some u → (Wr.alloc (.cells #[.int .i64 b] 45)).cell? ((⟨rb, 0, none⟩ : Addr).add j) = some u := fun j u hu => by
      refine hra.cells (g := rb) rfl j u ?_
      have hj := (List.getElem?_eq_some_iff.1 hu).1
      unfold refsCells at hu ⊢
      rw [List.getElem?_map] at hu ⊢
      rw [List.getElem?_dropLast] at hu
      split at hu
      · exact hu
      · cases hu
    have hone : ∀ u ∈ refsCells r.dropLast, u.oneCell' = true := fun u hu => by
      obtain ⟨q, _, rfl⟩ := List.mem_map.1 hu
      rfl
    have hnl : (refsCells r.dropLast).length = n := by simp [refsCells, i3]
    have hc6 := (hs.c6.ch hcA (by simp)).cell (i := 0) rfl
    have hrc := row_cap' hs.rr
    have HS := Lib.hid hs; clear hs
    have HRN := Lib.hid hrn; clear hrn hra
    have HNEW := Lib.hid hnews; clear hnews
    have HONE := Lib.hid hone; clear hone
    have HCA := Lib.hid hcA; clear hcA
    have HDR := Lib.hid hdr; clear hdr
    have HRR := Lib.hid hrr; clear hrr
    have HGL := Lib.hid hgl; clear hgl
    have I1 := Lib.hid i1; clear i1
    have I2 := Lib.hid i2; clear i2
    have I4 := Lib.hid i4; clear i4
    have I5 := Lib.hid i5; clear i5
    have HBK := Lib.hid hbk; clear hbk hkb
    have HWR := Lib.hid hWl; clear hWl
    have e1 : (n : Int) + 1 - 1 = (n : Int) := by omega
    refine wpIn_block ?_
    refine wpIn_seq ?_
    refine Ord.plainR (by kernel_rfl) ?_
    go_wp2_with (at_builtin; go_loud (refine wpList_append_row slRefs rfl _ _ rfl (v := .slice (some ⟨Wr.heap.size, 0, none⟩) 1 1) (n := 1) (xs := [.int .i64 b]) rfl HRN.out (ad := ⟨rb, 0, none⟩) (m := n) (c := rc) (news := refsCells r.dropLast) rfl (by rw [hnl]; omega) HNEW.out HONE.out (by omega) (by omega) ?_; intro v' w5 hown4 hC4 hf4; rw [Nat.add_comm 1 n] at hown4; obtain ⟨rb', rc', rfl⟩ := row.parts hown4 (by omega); have HO4 := Lib.hid hown4; clear hown4; have HCC4 := Lib.hid hC4; clear hC4; have HF4 := Lib.hid hf4; clear hf4; have c66 := ((HS.out.c6.ch HCA.out (by simp)).ch HCC4.out (fun hm => by have := HS.out.c6.lt; simp at hm; omega)).cell (i := 0) rfl; have f66 := ((HS.out.c6.ch HCA.out (by simp)).ch HCC4.out (fun hm => by have := HS.out.c6.lt; simp at hm; omega)).frozen (i := 0)))
    refine ⟨rfl, ?_⟩
    obtain ⟨W2, hW2⟩ : ∃ W2, W2 = w5.setCell ⟨b5 + 1 + 1, 0, none⟩ (.slice (some ⟨rb', 0, none⟩) (n + 1) rc') := ⟨_, rfl⟩
    rw [← hW2]
    have hC45 : Ch [] Wr w5 := HCA.out.trans HCC4.out (fun q hq => .inr (by simp at hq; omega))
    have hrbn : Wr.heap.size ≤ rb' := by
      rcases HF4.out rb' rfl with e | e
      · simp at e; omega
      · have := HCA.out.size; omega
    have hro4 : row w5 45 1 (.slice (some ⟨rb', 0, none⟩) (n + 1) rc') (n + 1) (refsCells (b :: r.dropLast)) := HO4.out
    have hs2 := HS.out.move HI.out HXX.out hC45 hro4 hrbn hW2
    have hbk2 : Books (b5 + 4) Wr W2 := by
      have hcw : Ch [b5 + 1 + 1] Wr W2 := by rw [hW2]; exact (hC45.mono (by simp)).setCell (.inl (by simp)) _
      exact Books.of_ch hcw HWR.out (fun q hq => by simp at hq; omega)
    have HBK2 := Lib.hid hbk2; clear hbk2
    clear hW2 c66 f66 hc6 HNEW HONE HRN HO4 HCC4 HF4 HCA hro4 hC45 hrbn HS
    obtain ⟨r1, hr1⟩ : ∃ r1, b :: r.dropLast = r1 := ⟨_, rfl⟩
    rw [hr1] at hs2 HRR hr1l
    have hdrow : row W2 45 1 (.slice (some ⟨db, 0, none⟩) (n + 1) dc) d.length (refsCells d) := by rw [hdl]; exact hs2.rd
    have hrrow : row W2 45 1 (.slice (some ⟨rb', 0, none⟩) (n + 1) rc') r1.length (refsCells r1) := by rw [hr1l]; exact hs2.rr
    have hsm := hs2.sx.gin.ok.small
    have hle := sLeR hs2.sx.gin (n + 1) hdl hr1l (by omega) (by omega) (wv_of_row hdrow hdl (fun q hq => by cases hq; exact (hs2.sx.mine db (by simp)).2.1) (by omega) (fun q hq => by have := HDR.out q hq; omega)) (wv_of_row hrrow hr1l (fun q hq => by cases hq; exact (hs2.sx.mine rb' (by simp)).2.1) (by omega) (fun q hq => by have := HRR.out q hq; omega)) HDR.out HRR.out
    have hLf := leR_full hs2.sx.gin.ok HDR.out HRR.out
    have hq0 : divL d (divF d (G, 0) (x.reverse.take k)) b = rstep (Gp, 0) (leR Gp d r1) := by
      unfold divL; rw [I1.out, I2.out, hr1]
    obtain ⟨L, hL⟩ : ∃ L, leR Gp d r1 = L := ⟨_, rfl⟩
    rw [hL] at hle hLf hq0
    have c0 := HGL.out W2 hs2.sx.ch
    have c5 := hs2.c5.cell (i := 0) rfl
    have c6 := hs2.c6.cell (i := 0) rfl
    have HLE := Lib.hid hle; clear hle
    have HLF := Lib.hid hLf; clear hLf
    have HQ0 := Lib.hid hq0; clear hq0
    have HS2 := Lib.hid hs2; clear hs2 hdrow hrrow
    refine wpIn_seq ?_
    gi_wp2
    refine ⟨trivial, (CallsIn.inRound l2 ((callsIn_wide (n := _)).2 HLE.out)).mono ?_⟩
    rintro e w6 ⟨rfl, hto⟩
    obtain ⟨F6, hs6⟩ := HS2.out.to HI.out HXX.out hto
    have hbk6 := HBK2.out.trans (HS2.out.booksTo hto)
    have HBK6 := Lib.hid hbk6; clear hbk6
    have HS6 := Lib.hid hs6; clear hs6 hto HLE c0 c5 c6
    gi_wp2
    refine ⟨trivial, (CallsIn.inRound l2 ((callsIn_wide (n := _)).2 (mdmustR_is w6 (L.2.1 : Int) L.2.2))).mono ?_⟩
    rintro e w7 ⟨rfl, ⟨h0, rfl⟩ | ⟨h0, rfl⟩⟩
    rotate_left
    · have hL1 := HLF.out.keep h0
      have hR := divF_stopL (d := d) (s := (G, 0)) HBK.out (e := L.2.2) h0 (by rw [HQ0.out, rstep_no rfl h0])
      have hst := HS6.out.stop (I5.out.trans HLF.out.ok.ext) h0 hR
      have HST := Lib.hid hst; clear hst hR hL1
      gi_wp2
      exact .inr ⟨_, rfl, trivial, HBK6.out, HST.out⟩
    have hL0 : L.2.2 = 0 := h0
    have hDR6 : ∀ q ∈ d, q < 2 * L.1.nodes.length := fun q hq => HLF.out.ok.ext.lt (HDR.out q hq)
    have hRR6 : ∀ q ∈ r1, q < 2 * L.1.nodes.length := fun q hq => HLF.out.ok.ext.lt (HRR.out q hq)
    have hs6 := HS6.out
    have hsm6 := hs6.sx.gin.ok.small
    have hdrow : row w6 45 1 (.slice (some ⟨db, 0, none⟩) (n + 1) dc) d.length (refsCells d) := by rw [hdl]; exact hs6.rd
    have hrrow : row w6 45 1 (.slice (some ⟨rb', 0, none⟩) (n + 1) rc') r1.length (refsCells r1) := by rw [hr1l]; exact hs6.rr
    have hsub := sSubR hs6.sx.gin (n + 1) hr1l hdl (by omega) (by omega) (wv_of_row hrrow hr1l (fun q hq => by cases hq; exact (hs6.sx.mine rb' (by simp)).2.1) (by omega) (fun q hq => by have := hRR6 q hq; omega)) (wv_of_row hdrow hdl (fun q hq => by cases hq; exact (hs6.sx.mine db (by simp)).2.1) (by omega) (fun q hq => by have := hDR6 q hq; omega)) hRR6 hDR6
    have hSok := subR_wok hs6.sx.gin.ok hRR6 hDR6
    have hSln := subR_len (G := L.1) hr1l hdl
    have hq1 : divD d (divF d (G, 0) (x.reverse.take k)) b = wstep (L.1, 0) (subR L.1 r1 d) := by
      unfold divD; rw [HQ0.out, rstep_ok rfl hL0, I2.out, hr1]
    have hq2 : (divL d (divF d (G, 0) (x.reverse.take k)) b).2 = L.2.1 := by rw [HQ0.out, rstep_ok rfl hL0]
    obtain ⟨S, hS⟩ : ∃ S, subR L.1 r1 d = S := ⟨_, rfl⟩
    rw [hS] at hsub hSok hSln hq1
    have c0 := HGL.out w6 hs6.sx.ch
    have c5 := hs6.c5.cell (i := 0) rfl
    have c6 := hs6.c6.cell (i := 0) rfl
    have HSUB := Lib.hid hsub; clear hsub
    have HSOK := Lib.hid hSok; clear hSok
    have HSLN := Lib.hid hSln; clear hSln
    have HQ1 := Lib.hid hq1; clear hq1
    have HQ2 := Lib.hid hq2; clear hq2
    have hL00 : L.2.2 = 0 := hL0
    clear hs6 hdrow hrrow HS2 hDR6 hS
    have HRR6 := Lib.hid hRR6; clear hRR6
    gi_wp2
    refine ⟨trivial, (CallsIn.inRound l2 ((callsIn_wide (n := _)).2 HSUB.out)).mono ?_⟩
    rintro e w8 ⟨v, rfl, F8, g1, g2, g3, g4, g5, g6⟩
    have g2 : Ch F6 w6 w8 := by simpa using g2
    have hs8 := HS6.out.to2 HI.out HXX.out g1 g2 g3 g4
    have hbk8 := HBK6.out.trans (HS6.out.booksTo ⟨F8, g1, g2, g3, g4⟩)
    obtain ⟨sa, sc, rfl⟩ := row.shape g5
    have hsz6 : ∀ q ∈ T, q < w6.heap.size := fun q hq => (HS6.out.sx.tb q hq).2.2.2
    have hsm6' : ∀ q ∈ [rb', b4, b5, b5 + 1 + 1, b5 + 3, db], q < w6.heap.size := fun q hq => (HS6.out.sx.mine q hq).2.2.2.2
    have hsB : w.heap.size + 2 ≤ w6.heap.size ∧ b5 + 4 + 2 ≤ w6.heap.size := ⟨HS6.out.hw, HS6.out.hB⟩
    have HBK8 := Lib.hid hbk8; clear hbk8
    have HS8 := Lib.hid hs8; clear hs8 g1 g2 g3 g4 HSUB c0 c5 c6
    have G5 := Lib.hid g5; clear g5
    have G6 := Lib.hid g6; clear g6
    gi_wp2
    refine ⟨trivial, (CallsIn.inRound l2 ((callsIn_wide (n := _)).2 (mdmustW_is w8 sa S.2.1.length sc S.2.2))).mono ?_⟩
    rintro e w9 ⟨rfl, ⟨h0, rfl⟩ | ⟨h0, rfl⟩⟩
    rotate_left
    · have hR := divF_stopD (d := d) (s := (G, 0)) HBK.out (e := S.2.2) h0 (by rw [HQ1.out, wstep_no rfl h0])
      have hst := HS8.out.stop ((I5.out.trans HLF.out.ok.ext).trans HSOK.out.ext) h0 hR
      have HST := Lib.hid hst; clear hst hR
      gi_wp2
      exact .inr ⟨_, rfl, trivial, HBK8.out, HST.out⟩
    have hS0 : S.2.2 = 0 := h0
    have hSl := HSLN.out hS0
    have hrS := G5.out
    rw [hSl] at hrS ⊢
    obtain ⟨sb, hsb0⟩ : ∃ sb, sa = some ⟨sb, 0, none⟩ := by
      obtain ⟨q, c, e⟩ := row.parts hrS (by omega)
      cases e
      exact ⟨_, rfl⟩
    subst hsb0
    have hsb : w6.heap.size ≤ sb ∧ sb ∉ F8 := G6.out sb rfl
    obtain ⟨Z, hZ⟩ : ∃ Z, S.2.1.zip r1 = Z := ⟨_, rfl⟩
    have hZl : Z.length = n + 1 := by rw [← hZ, List.length_zip]; omega
    have HRS := Lib.hid hrS; clear hrS G5 G6
    have hq3 : divM d (divF d (G, 0) (x.reverse.take k)) b = chF L.2.1 (S.1, 0) Z := by
      unfold divM; rw [HQ1.out, HQ2.out, wstep_ok rfl hS0, I2.out, hr1, hZ]
    have HQ3 := Lib.hid hq3; clear hq3
    have HZ := Lib.hid hZ; clear hZ
    have hf2 : L.2.1 < 2 * S.1.nodes.length := HSOK.out.ext.lt HLF.out.ok.lt
    have HF2 := Lib.hid hf2; clear hf2
    gi_wp2
    gi_loopw [48] (fun i wr => ∃ (j : Nat) (Gq : Gra) (mm F2 : List Nat), j ≤ n + 1 ∧ i = .int .i64 j ∧ chF L.2.1 (S.1, 0) (Z.take j) = ((Gq, 0), mm) ∧ (∀ q ∈ mm, q < 2 * Gq.nodes.length) ∧ SR w g F T0 I X (b5 + 4) b4 b5 (b5 + 1 + 1) (b5 + 3) db dc (.func (.yield lp) #[] #[]) (.slice xa n xc) n d wr Gq F2 T k rb' rc' (mm ++ r1.drop j) ∧ row wr 45 1 (.slice (some ⟨sb, 0, none⟩) (n + 1) sc) (n + 1) (refsCells S.2.1) ∧ sb ∉ F2 ∧ Books (b5 + 4) Wr wr ∧ Ext S.1 Gq) (fun i _ => n + 1 - (intOf i).toNat)
    case atStart => exact ⟨0, S.1, [], F8, by omega, rfl, rfl, by simp, HS8.out, HRS.out, hsb.2, HBK8.out, .refl _⟩
    case round =>
      obtain ⟨j, Gq, mm, F2, hj, rfl, heq, hmm, hs, hsr, hsF, hbk, hexq⟩ := hrel
      have hmml : mm.length = j := by
        have h9 := eachF_lenT (fun s a b => sMux s L.2.1 a b) (S.1, 0) (Z.take j)
        have h8 : eachF (fun s a b => sMux s L.2.1 a b) (S.1, 0) (Z.take j) = ((Gq, 0), mm) := heq
        rw [h8, List.length_take] at h9
        have h9 : mm.length = min j Z.length := h9
        omega
      by_cases hjn : j < n + 1
      · obtain ⟨a, ha⟩ : ∃ a, S.2.1[j]? = some a := ⟨_, List.getElem?_eq_getElem (by omega)⟩
        obtain ⟨c, hc⟩ : ∃ c, r1[j]? = some c := ⟨_, List.getElem?_eq_getElem (by omega)⟩
        have hzj : Z[j]? = some (a, c) := by rw [← HZ.out, List.getElem?_zip_eq_some]; exact ⟨ha, hc⟩
        have hat : (mm ++ r1.drop j)[j]? = some c := by rw [List.getElem?_append_right (by omega), hmml, Nat.sub_self, List.getElem?_drop, Nat.add_zero, hc]
        have s0 := row_at2 hsr (show (refsCells S.2.1)[j]? = some (.int .i64 a) by simp [refsCells, ha])
        have hal := hexq.lt (HSOK.out.lt a (List.mem_of_getElem? ha))
        have hcl := hexq.lt (HSOK.out.ext.lt (HRR6.out c (List.mem_of_getElem? hc)))
        have hfl := hexq.lt HF2.out
        have hMf := rMux_full hs.sx.gin.ok hfl hal hcl
        have hsn : Z.take (j + 1) = Z.take j ++ [(a, c)] := by rw [List.take_add_one, hzj]; rfl
        have hnx := chF_snoc L.2.1 (S.1, 0) (Z.take j) (a, c)
        rw [heq, ← hsn] at hnx
        have hset : ∀ v, (mm ++ r1.drop j).set j v = (mm ++ [v]) ++ r1.drop (j + 1) := fun v => by
          rw [List.set_append_right _ _ (by omega), hmml, Nat.sub_self]
          have hd2 : r1.drop j = c :: r1.drop (j + 1) := by
            have hlt := (List.getElem?_eq_some_iff.1 hc).1
            rw [List.drop_eq_getElem_cons hlt]
            congr 1
            exact (List.getElem?_eq_some_iff.1 hc).2
          rw [hd2, List.set_cons_zero, List.append_assoc]
          rfl
        have hsmq := hs.sx.gin.ok.small
        have hMux : ∀ W', Ch [] wr W' → Calls Try.prog 189 #[.pointer (some ⟨g, 0, none⟩), .int .i64 L.2.1, .int .i64 a, .int .i64 c] W' fun e w' => e = .returned (.tuple #[.int .i64 (rMux Gq L.2.1 a c).2.1, .int .i64 (rMux Gq L.2.1 a c).2.2]) ∧ GTo W' g (rMux Gq L.2.1 a c).1 F2 w' := fun W' hc' => by
          have := Mux_g (hs.sx.gin.same hc' (by simp)) (L.2.1 : Int) (a : Int) (c : Int) (by omega) (by omega) (by omega)
          rw [doMux_r hfl hal hcl] at this
          exact this
        obtain ⟨M, hM⟩ : ∃ M, rMux Gq L.2.1 a c = M := ⟨_, rfl⟩
        have hopm : sMux (Gq, 0) L.2.1 a c = rstep (Gq, 0) M := by rw [← hM]; rfl
        rw [hM] at hMf
        simp only [hM] at hMux
        have HMUX := Lib.hid hMux; clear hMux
        have HMF := Lib.hid hMf; clear hMf
        have HNX := Lib.hid hnx; clear hnx
        have HSET := Lib.hid hset; clear hset
        have HAT := Lib.hid hat; clear hat
        have HSQ := Lib.hid hs; clear hs
        have HSR := Lib.hid hsr; clear hsr
        have HBQ := Lib.hid hbk; clear hbk
        have HEQ := Lib.hid heq; clear heq
        have HOPM := Lib.hid hopm; clear hopm
        have HMM := Lib.hid hmm; clear hmm
        have HEXQ := Lib.hid hexq; clear hexq
        have HSN := Lib.hid hsn; clear hsn
        have s0' : wr.cell? ⟨sb, j, none⟩ = some (.int .i64 a) := s0
        clear hal hcl hfl ha hc hzj hM s0
        gi_wp2
        refine Ord.OrdP.St.doorR (QP := fun c W' => Books (b5 + 4) Wr W' ∧ DP2 w g F T0 G X (b5 + 4) (divF d (G, 0) x.reverse).1.2 c W') (fun w' => w'.cell? ⟨b5 + 1 + 1, 0, none⟩ = some (.slice (some ⟨rb', 0, none⟩) (n + 1) rc')) [.ho, .fl, .rd, .fl, .fl, .rd, .fl, .fl, .rd, .ef, .fl, .fl, .ef, .fl, .ef] [0, 0, 0, 0, 0, 0, 0, 96, 224, 508, 1020, 1020, 4092, 8191, 16383] [0, 1, 2, 3, 4, 5, 6, 7, 8, 9, 10, 11, 12, 13, 14] mixed (by kernel_rfl) (by kernel_rfl) rfl (fun c a w hd hq => Or.inr ⟨c, rfl, hd, hq⟩) ?_
        obtain ⟨Wc, hWc⟩ : ∃ Wc, Wc = wr.drew := ⟨_, rfl⟩
        rw [← hWc]
        have hcur : Ch [] wr Wc := by rw [hWc]; exact (Ch.refl _ _).drew
        clear hWc
        have hsc := HSQ.out.same HI.out HXX.out hcur (by simp)
        have c0 := HGL.out Wc hsc.sx.ch
        have c6 := hsc.c6.cell (i := 0) rfl
        have c8 : Wc.cell? ⟨rb', j, none⟩ = some (.int .i64 c) := row_at2 hsc.rr (by unfold refsCells; rw [List.getElem?_map, HAT.out]; rfl)
        have hmux := HMUX.out Wc hcur
        have HMUX2 := Lib.hid hmux; clear hmux HMUX
        have HSC := Lib.hid hsc; clear hsc
        have HCUR := Lib.hid hcur; clear hcur
        refine Ord.OrdP.St.ho2 (T' := ?_) 0 [1, 2, 3, 4, 5, 6, 7, 8, 9, 10, 11, 12, 13, 14] _ _ rfl (by kernel_rfl) rfl rfl rfl rfl ?_ (fun K w' hw' hk => ?_) ?_
        rotate_left
        · exact c6
        · have q1 := hw'; go_step; exact hk
        refine Ord.OrdP.St.fl2 (T' := ?_) 1 [2, 3, 4, 5, 6, 7, 8, 9, 10, 11, 12, 13, 14] _ _ rfl (by kernel_rfl) rfl rfl rfl rfl (fun K w' hk => ?_) ?_
        rotate_left
        · go_step; exact hk
        refine Ord.OrdP.St.rd2 (T' := ?_) 2 [3, 4, 5, 6, 7, 8, 9, 10, 11, 12, 13, 14] _ _ rfl (by kernel_rfl) rfl rfl rfl rfl (fun K hk => ?_) ?_
        rotate_left
        · go_step; exact hk
        refine Ord.OrdP.St.fl2 (T' := ?_) 3 [4, 5, 6, 7, 8, 9, 10, 11, 12, 13, 14] _ _ rfl (by kernel_rfl) rfl rfl rfl rfl (fun K w' hk => ?_) ?_
        rotate_left
        · go_step; exact hk
        refine Ord.OrdP.St.fl2 (T' := ?_) 4 [5, 6, 7, 8, 9, 10, 11, 12, 13, 14] _ _ rfl (by kernel_rfl) rfl rfl rfl rfl (fun K w' hk => ?_) ?_
        rotate_left
        · go_step; exact hk
        refine Ord.OrdP.St.rd2 (T' := ?_) 5 [6, 7, 8, 9, 10, 11, 12, 13, 14] _ _ rfl (by kernel_rfl) rfl rfl rfl rfl (fun K hk => ?_) ?_
        rotate_left
        · go_step; exact hk
        refine Ord.OrdP.St.fl2 (T' := ?_) 6 [7, 8, 9, 10, 11, 12, 13, 14] _ _ rfl (by kernel_rfl) rfl rfl rfl rfl (fun K w' hk => ?_) ?_
        rotate_left
        · go_step; exact hk
        refine Ord.OrdP.St.fl2 (T' := ?_) 7 [8, 9, 10, 11, 12, 13, 14] _ _ rfl (by kernel_rfl) rfl rfl rfl rfl (fun K w' hk => ?_) ?_
        rotate_left
        · go_step; exact hk
        refine Ord.OrdP.St.rd2 (T' := ?_) 8 [9, 10, 11, 12, 13, 14] _ _ rfl (by kernel_rfl) rfl rfl rfl rfl (fun K hk => ?_) ?_
        rotate_left
        · go_step; exact hk
        refine Ord.OrdP.St.efC 9 [10, 11, 12, 13, 14] _ rfl (by kernel_rfl) (fun K hK => ?_)
        go_wp2_with fail
        refine HMUX2.out.mono ?_
        rintro e w10 ⟨rfl, hto⟩
        obtain ⟨F10, a1, a2, a3, a4⟩ := hto
        have hs10 := HSC.out.to2 HI.out HXX.out a1 a2 a3 a4
        have hbk10 : Books (b5 + 4) Wr w10 := (HBQ.out.trans (Books.of_ch HCUR.out HSQ.out.hB (by simp))).trans (HSC.out.booksTo ⟨F10, a1, a2, a3, a4⟩)
        have hsr10 := (HSR.out.ch HCUR.out (by simp)).ch a2 (fun q hq => by cases hq; exact hsF)
        have hsF10 : sb ∉ F10 := fun hm => (a3 sb hm).elim hsF (fun e => by have h1 : sb < wr.heap.size := (HSR.out.lt sb rfl).2; have h2 := HCUR.out.size; omega)
        clear a1 a2 a3 a4 c0 c6 c8 HMUX2
        have c6 := hs10.c6.cell (i := 0) rfl
        have HS10 := Lib.hid hs10; clear hs10
        have HBK10 := Lib.hid hbk10; clear hbk10
        have HSR10 := Lib.hid hsr10; clear hsr10
        have HSF10 := Lib.hid hsF10; clear hsF10
        have HMU := Lib.hid (mdmustR_is w10 (M.2.1 : Int) M.2.2)
        go_wp2_with fail
        refine .inl ⟨rfl, hK _ _ ?_ ?_⟩
        · exact c6
        clear hK K
        refine Ord.OrdP.St.fl2 (T' := ?_) 10 [11, 12, 13, 14] _ _ rfl (by kernel_rfl) rfl rfl rfl rfl (fun K w' hk => ?_) ?_
        rotate_left
        · go_step; exact hk
        refine Ord.OrdP.St.fl2 (T' := ?_) 11 [12, 13, 14] _ _ rfl (by kernel_rfl) rfl rfl rfl rfl (fun K w' hk => ?_) ?_
        rotate_left
        · go_step; exact hk
        refine Ord.OrdP.St.efC 12 [13, 14] _ rfl (by kernel_rfl) (fun K hK => ?_)
        go_wp2_with fail
        refine HMU.out.mono ?_
        rintro e w11 ⟨rfl, ⟨h0, rfl⟩ | ⟨h0, rfl⟩⟩
        rotate_left
        · have hMk := HMF.out.keep h0
          have hnx := HNX.out
          unfold eachS at hnx
          simp only [HOPM.out, rstep_no (s := (Gq, 0)) rfl h0] at hnx
          have hb2 := chF_bad L.2.1 (S.1, 0) (Z.take (j + 1)) (by rw [hnx]; exact h0) (Z.drop (j + 1))
          rw [List.take_append_drop, hnx] at hb2
          have hR := divF_stop (d := d) (s := (G, 0)) HBK.out (e := M.2.2) h0 (by show (divM d (divF d (G, 0) (x.reverse.take k)) b).1.2 = _; rw [HQ3.out, hb2])
          exact .inr ⟨_, rfl, rfl, HBK10.out, HS10.out.stop (((I5.out.trans HLF.out.ok.ext).trans HSOK.out.ext).trans (HEXQ.out.trans HMF.out.ok.ext)) h0 hR⟩
        have hM0 : M.2.2 = 0 := h0
        have f10 := row_fz HS10.out.rr (by omega) j
        have c10 := row_at2 HS10.out.rr (show (refsCells (mm ++ r1.drop j))[j]? = some (.int .i64 c) by unfold refsCells; rw [List.getElem?_map, HAT.out]; rfl)
        go_wp2_with fail
        refine .inl ⟨rfl, hK _ _ ?_ ?_⟩
        · exact c6
        clear hK K
        refine Ord.OrdP.St.fl2 (T' := ?_) 13 [14] _ _ rfl (by kernel_rfl) rfl rfl rfl rfl (fun K w' hk => ?_) ?_
        rotate_left
        · go_step; exact hk
        refine Ord.OrdP.St.ef 14 [] _ rfl (by kernel_rfl) (fun K hK => ?_)
        go_wp2_with fail
        refine .inl ⟨rfl, hK _ _ ?_⟩; clear hK K
        refine Ord.OrdP.St.nil ?_
        gi_wp2
        have hs12 := HS10.out.put HI.out HXX.out j M.2.1
        rw [HSET.out] at hs12
        have hsr12 := HSR10.out.ch (F := [rb']) ((Ch.refl [rb'] w10).setCell (p := ⟨rb', j, none⟩) (.inl (by simp)) (.int .i64 M.2.1)) (fun q hq => by cases hq; simp; have := hsm6' rb' (by simp); omega)
        have hbk12 : Books (b5 + 4) Wr (w10.setCell ⟨rb', j, none⟩ (.int .i64 M.2.1)) := HBK10.out.trans (Books.of_ch ((Ch.refl [rb'] w10).setCell (p := ⟨rb', j, none⟩) (.inl (by simp)) (.int .i64 M.2.1)) HS10.out.hB (fun q hq => by have := (HS10.out.sx.mine rb' (by simp)).2.2.2.1; simp at hq; omega))
        have hnx := HNX.out
        unfold eachS at hnx
        simp only [HOPM.out, rstep_ok (s := (Gq, 0)) rfl hM0] at hnx
        have HS12 := Lib.hid hs12; clear hs12
        have HSR12 := Lib.hid hsr12; clear hsr12
        have HBK12 := Lib.hid hbk12; clear hbk12
        have HNX2 := Lib.hid hnx; clear hnx
        clear f10 c10 c6
        gi_wp2
        go_roundw
        case rel =>
          refine ⟨j + 1, M.1, mm ++ [M.2.1], F10, by omega, by go_num, HNX2.out, fun q hq => ?_, HS12.out, HSR12.out, HSF10.out, HBK12.out, HEXQ.out.trans HMF.out.ok.ext⟩
          rcases List.mem_append.1 hq with hq | hq
          · exact HMF.out.ok.ext.lt (HMM.out q hq)
          · rw [List.mem_singleton.1 hq]; exact HMF.out.ok.lt
        case measure => simp [intOf]; omega
      · have hjn1 : j = n + 1 := by omega
        subst hjn1
        rw [List.take_of_length_le (by omega)] at heq
        rw [List.drop_eq_nil_of_le (by omega), List.append_nil] at hs
        have hd1 : divF d (G, 0) (x.reverse.take (k + 1)) = ((Gq, 0), (divF d (G, 0) (x.reverse.take k)).2.1 ++ [L.2.1], mm) := by
          rw [divF_next HBK.out]
          unfold divS
          rw [HQ3.out, HQ2.out, heq]
        have hxg : Ext G Gq := ((I5.out.trans HLF.out.ok.ext).trans HSOK.out.ext).trans hexq
        have hkx : KX w F T0 I d G x.reverse n ⟨k, T, wr, L.2.1, rb', rc', mm⟩ wr := by
          refine ⟨Ch.refl _ _, hs.sx.ch, hs.sx.it, hs.rr, ⟨(hs.sx.mine rb' (by simp)).2.2.1, (hs.sx.mine rb' (by simp)).1⟩, fun q hq => ?_, hs.hw, hkn, by rw [hd1], hmml, fun z hz => by have := hmm z hz; have := hs.sx.gin.ok.small; omega⟩
          obtain ⟨t1, t2, t3, t4⟩ := hs.sx.tb q hq
          refine ⟨?_, ?_, t4, t1.imp (fun e => e.1) id⟩
          · rcases t1 with t1 | t1 <;> omega
          · rcases t1 with t1 | t1 <;> omega
        obtain ⟨fn, tmps, assign, body, hy1, hRound⟩ := HYY.out _ _ hkx hs.xw
        have hRnd := RoundIn.any 1 hRound l2
        simp only [sEnc] at hy1
        have c4 := hs.c4.cell (i := 0) rfl
        have c6 := hs.c6.cell (i := 0) rfl
        have HS := Lib.hid hs; clear hs
        have HRND := Lib.hid hRnd; clear hRnd hRound
        have HD1 := Lib.hid hd1; clear hd1
        have HMM := Lib.hid hmm; clear hmm
        have HBK9 := Lib.hid hbk; clear hbk
        clear hkx heq hsr
        gi_wp2
        refine HRND.out.mono ?_
        rintro e W9 ⟨rfl, ⟨T', t1, t2, t3⟩, hxw⟩
        have hs9 := HS.out.next t1 t2 (fun q hq => (t3 q hq).1) (fun q hq => (t3 q hq).2) hxw
        have hbk9 : Books (b5 + 4) Wr W9 := HBK9.out.trans (Books.of_ch t2 HS.out.hB (fun q hq => by
          simp only [List.mem_cons] at hq
          have := HWR.out
          rcases hq with e | e | e
          · omega
          · omega
          · have := (HS.out.sx.tb q e).2.2.1; omega))
        have HS9 := Lib.hid hs9; clear hs9 t1 t2 t3
        have HBK99 := Lib.hid hbk9; clear hbk9 c4 c6 hy1
        gi_wp2
        exact .inl ⟨trivial, HBK99.out, Gq, F2, T', rb', rc', mm, by rw [HD1.out], by rw [HD1.out], hmml, HMM.out, hxg, HS9.out⟩
end
end Go.Proofs.Ytkedpifopclipaa
namespace Go.Proofs.Ytkedpifopclipaa
open Go.RowKit Go.Mem Go.Aig
attribute [local go_sem] Oper.semAt_some
/-- what the loop keeps: the quotient so far, what is left -/
def QI (bq be : Nat) (d : List Nat) (G : Gra) (bits : List Nat) (n : Nat) (k : Nat) (T : List Nat) (W : World) : Prop :=
  ∃ qv ev, T = bq :: be :: (qv.ownBlock.toList ++ ev.ownBlock.toList) ∧ blk W bq [qv] ∧ blk W be [ev] ∧ row W 45 1 qv k (refsCells (divF d (G, 0) (bits.take k)).2.1) ∧ (0 < k → row W 45 1 ev n (refsCells ((divF d (G, 0) (bits.take k)).2.2.take n))) ∧ (∀ q, qv.ownBlock = some q → q ≠ bq ∧ q ≠ be ∧ ev.ownBlock ≠ some q) ∧ (∀ q, ev.ownBlock = some q → q ≠ bq ∧ q ≠ be)
theorem QI.ok (bq be : Nat) (d : List Nat) (G : Gra) (bits : List Nat) (n : Nat) : IOk (QI bq be d G bits n) := ⟨by
  rintro k T A A' L ⟨qv, ev, rfl, h1, h2, h3, h4, h5, h6⟩ hc hL
  have hm : ∀ q ∈ bq :: be :: (qv.ownBlock.toList ++ ev.ownBlock.toList), q ∉ L := fun q hq hm => hL q hm hq
  exact ⟨qv, ev, rfl, h1.ch hc (hm _ (by simp)), h2.ch hc (hm _ (by simp)), h3.ch hc (fun q hq => hm _ (by simp [hq])), fun h0 => (h4 h0).ch hc (fun q hq => hm _ (by simp [hq])), h5, h6⟩⟩
theorem JX.books {w : World} {F T0 : List Nat} {bq be : Nat} {d : List Nat} {G : Gra} {bits : List Nat} {n : Nat} {q : YX} {W A W' : World} (hk : KX w F T0 (QI bq be d G bits n) d G bits n q W) (hj : JX w (QI bq be d G bits n) q A) (hc : Ch [w.heap.size, w.heap.size + 1] A W') : JX w (QI bq be d G bits n) q W' := by
  obtain ⟨_, _, _, _, _, k6, k7, _⟩ := hk
  obtain ⟨T', j1, j2, j3⟩ := hj
  have hs := hc.size
  refine ⟨T', (QI.ok bq be d G bits n).same _ _ _ _ _ j1 hc (fun z hz hm => ?_), j2.trans hc (fun z hz => .inl (by simp at hz; rcases hz with e | e <;> simp [e])), fun z hz => ⟨(j3 z hz).1, by have := (j3 z hz).2; omega⟩⟩
  have hz2 : z = w.heap.size ∨ z = w.heap.size + 1 := by simpa using hz
  rcases (j3 z hm).1 with e | e
  · have := k6 z e; omega
  · omega
theorem fnvmdBoth1 : Fnv 127 := fnv_of Try.func127 (by simp [Try.f127]) (by simp [Try.f127])
/-- what the closure of Both does if it is not stopped -/
def BothD (g n : Nat) (F : List Nat) (R : Mk × List Nat × List Nat) (bq be : Nat) (w w' : World) : Prop :=
  R.1.2 = 0 ∧ ∃ F' qv ev, GIn w' g R.1.1 F' ∧ Ch ([bq, be] ++ F) w w' ∧ (∀ q ∈ F', q ∈ F ∨ w.heap.size ≤ q) ∧ F'[2]? = F[2]? ∧ blk w' bq [qv] ∧ blk w' be [ev] ∧ row w' 45 1 qv n (refsCells R.2.1) ∧ row w' 45 1 ev n (refsCells (R.2.2.take n)) ∧ (∀ q, qv.ownBlock = some q → w.heap.size ≤ q ∧ q ∉ F' ∧ ev.ownBlock ≠ some q) ∧ (∀ q, ev.ownBlock = some q → w.heap.size ≤ q ∧ q ∉ F')
section
variable {w : World} {g : Nat} {G : Gra} {F : List Nat}
set_option maxRecDepth 100000 in
set_option maxHeartbeats 4000000 in
theorem mdBoth1_is (h : GIn w g G F) {x y : List Nat} {xa ya : Option Addr} {xc yc : Nat} (n : Nat) (hxl : x.length = n) (hyl : y.length = n) (h1 : 1 ≤ n) (h16 : n ≤ 16)
    (hx : WVin w F ⟨xa, natInts x, xc⟩) (hy : WVin w F ⟨ya, natInts y, yc⟩) (hxr : ∀ r ∈ x, r < 2 * G.nodes.length) (hyr : ∀ r ∈ y, r < 2 * G.nodes.length)
    {bg bx bY bq be : Nat} (hg : blk w bg [.pointer (some ⟨g, 0, none⟩)]) (hbx : blk w bx [.slice xa n xc]) (hby : blk w bY [.slice ya n yc]) (hbq : blk w bq [.slice none 0 0]) (hbe : blk w be [.slice none 0 0]) (hne : bq ≠ be) (hF : bq ∉ F ∧ be ∉ F) (hap : ∀ q ∈ [bq, be], q ≠ bx ∧ q ∉ ablk xa ∧ q ∉ ablk ya) (hxF : bx ∉ F) :
    Calls Try.prog 127 #[.pointer (some ⟨bg, 0, none⟩), .pointer (some ⟨bx, 0, none⟩), .pointer (some ⟨bY, 0, none⟩), .pointer (some ⟨bq, 0, none⟩), .pointer (some ⟨be, 0, none⟩)] w (Stops w g G [bq, be] F (divF (y ++ [0]) (G, 0) x.reverse).1.2 (BothD g n F (divF (y ++ [0]) (G, 0) x.reverse) bq be)) := by
  have c0 := hg.cell (i := 0) rfl
  have c1 := hbx.cell (i := 0) rfl
  have c2 := hby.cell (i := 0) rfl
  obtain ⟨d, hd⟩ : ∃ d, y ++ [0] = d := ⟨_, rfl⟩
  rw [hd]
  have hst := mdsteps_is w g xa ya n xc n yc
  have HST := Lib.hid hst; clear hst
  refine (callsIn_wide (n := 4)).1 ?_
  refine callsIn_of_wp_marks Try.func127 rfl trivial ?_ rfl
  simp only [Try.ntmps127, List.size_toArray, List.length_cons, List.length_nil, Nat.reduceAdd, Nat.reduceSub, Array.replicate_succ, Array.replicate_zero, List.push_toArray, List.append_toArray, List.nil_append, List.cons_append]
  refine wpIn_wide.2 ?_
  go_wp2_with fail
  refine HST.out.mono ?_
  rintro e w1 ⟨rfl, hw1⟩
  have hc1 : Ch [] w w1 := by rw [hw1]; exact (((Ch.refl _ _).alloc _).alloc _).alloc _
  have hz1 : w1.heap.size = w.heap.size + 3 := by rw [hw1]; simp
  have hb0 : blk w1 w.heap.size [.pointer (some ⟨g, 0, none⟩)] := by rw [hw1]; exact ((blk.new w _ _).alloc _).alloc _
  have hb1 : blk w1 (w.heap.size + 1) [.slice xa n xc] := by rw [hw1]; exact (blk.new' _ _ (by simp)).alloc _
  have hb2 : blk w1 (w.heap.size + 1 + 1) [.slice ya n yc] := by rw [hw1]; exact blk.new' _ _ (by simp)
  clear hw1
  have hFl := h.lt
  have hqlt := hbq.lt
  have helt := hbe.lt
  have hG1 := h.same hc1 (by simp)
  have hins : ∀ {a : Option Addr} {l : List Nat} {c : Nat}, WVin w F ⟨a, natInts l, c⟩ → (∀ q ∈ [bq, be], q ∉ ablk a) → WVin w1 ([bq, be] ++ F) ⟨a, natInts l, c⟩ := fun {a l c} hv ha => ⟨hv.ok.ch hc1 (by simp), fun k hk => by
    obtain ⟨k1, k2⟩ := hv.apart k hk
    refine ⟨fun hm => ?_, by omega⟩
    rcases List.mem_append.1 hm with hm | hm
    · exact ha k hm hk
    · exact k1 hm⟩
  have hi0 : QI bq be (y ++ [0]) G x.reverse n 0 [bq, be] w1 := ⟨.slice none 0 0, .slice none 0 0, by simp [Value.ownBlock], hbq.ch hc1 (by simp), hbe.ch hc1 (by simp), ⟨rfl, .inl ⟨rfl, rfl⟩⟩, by omega, by simp [Value.ownBlock], by simp [Value.ownBlock]⟩
  have hseq := fun (N : Nat) => mdsteps1_seq (T0 := [bq, be]) hG1 n hxl hyl h1 h16 (hins hx (fun q hq => (hap q hq).2.1)) (hins hy (fun q hq => (hap q hq).2.2)) hxr hyr hb0 hb1 hb2 (by
    refine ⟨fun hm => ?_, fun hm => ?_, fun hm => ?_⟩ <;> rcases List.mem_append.1 hm with hm | hm
    · simp at hm; omega
    · have := hFl _ hm; omega
    · simp at hm; omega
    · have := hFl _ hm; omega
    · simp at hm; omega
    · have := hFl _ hm; omega) (QI.ok bq be (y ++ [0]) G x.reverse n) hi0 (fun q hq => by
    simp only [List.mem_cons, List.not_mem_nil, or_false] at hq
    rcases hq with rfl | rfl
    · exact ⟨by omega, hF.1⟩
    · exact ⟨by omega, hF.2⟩) N
  simp only [hd] at hseq hi0
  have HSEQ := Lib.hid hseq; clear hseq
  have hbx1 := hbx.ch hc1 (by simp)
  have hxb : bx ∉ [bq, be] ++ F := fun hm => by
    rcases List.mem_append.1 hm with hm | hm
    · exact (hap bx hm).1 rfl
    · exact hxF hm
  clear hins hb0 hb1 hb2 c0 c1 c2 HST
  go_wp2_with fail
  refine (wpIn_wide (n := 4)).1 ?_
  refine wpIn_rangeFunc_R (n := 4) w1.heap.size rfl rfl (by omega) rfl trivial (fun args w => fnvmdsteps1 args w) (encs := sEnc n) (fun _ => rfl)
    (fun W' => Ch [w1.heap.size, w1.heap.size + 1] w1 W')
    (KX w1 F [bq, be] (QI bq be d G x.reverse n) d G x.reverse n)
    (fun q W' => ∃ A, JX w1 (QI bq be d G x.reverse n) q A ∧ Ch [w1.heap.size, w1.heap.size + 1] A W')
    (fun W' => ∃ A, DX w1 g F [bq, be] (QI bq be d G x.reverse n) (divF d (G, 0) x.reverse) n A ∧ Ch [w1.heap.size, w1.heap.size + 1] A W')
    (fun c W' => DPX w1 g F [bq, be] G (divF d (G, 0) x.reverse).1.2 c W')
    ?seq ?j0 ?k ?j ?d ?pan (Ch.refl _ _) ?a1 ?assign ?body ?done
  case assign =>
    intro q x W K hK
    simp only [sEnc]
    gi_wp2
    exact hK
  case j0 => exact fun A A' h hc => h.trans hc (fun q hq => .inl hq)
  case k => exact fun x A A' h hc => ⟨h.1.trans hc (fun q hq => .inl hq), h.2⟩
  case j => exact fun x A A' ⟨A0, h1, h2⟩ hc => ⟨A0, h1, h2.trans hc (fun q hq => .inl hq)⟩
  case d => exact fun A A' ⟨A0, h1, h2⟩ hc => ⟨A0, h1, h2.trans hc (fun q hq => .inl hq)⟩
  case seq =>
    intro l X hX hXB hY W hcW hXW
    refine (HSEQ.out 3 l X ⟨hX⟩ hXB (fun q W hk hx => YieldAt.any 3 ((hY q W hk hx).mono ?_)) W hcW hXW).mono ?_
    · rintro e W' ⟨rfl, ⟨A, hj, hca⟩, hx⟩
      exact ⟨rfl, hj.books hk hca, hx⟩
    · rintro e W' (⟨hv, hd, hx⟩ | ⟨c, rfl, hp, hx⟩)
      · exact .inl ⟨hv, ⟨W', hd, Ch.refl _ _⟩, hx⟩
      · exact .inr ⟨c, rfl, hp, hx⟩
  case pan =>
    rintro c W1 ⟨p0, rfl, G', F', p1, p2, p3, p4, p5⟩ hK hz
    have hcp : Ch [w1.heap.size] W1 (W1.putObj w1.heap.size (.deferred none)) := ch_put (by simp)
    refine ⟨by simp, .inl ⟨_, _, rfl, run_takeDeferred hK, ?_⟩⟩
    refine .inr ⟨p0, rfl, G', F', p1, p2.same hcp (fun q hq hm => by rcases p4 q hq with e | e <;> (simp at hm; omega)), ?_, fun q hq => (p4 q hq).elim (fun e => .inl e.1) (fun e => .inr (by omega)), p5⟩
    exact ((hc1.mono (by simp)).trans p3 (fun q hq => .inl hq)).trans hcp (fun q hq => .inr (by simp at hq; omega))
  case done =>
    rintro W1 ⟨A, ⟨p0, F', T', p1, p2, p3, p4, p5, p6⟩, hca⟩ hK hz
    obtain ⟨qv, ev, rfl, q1, q2, q3, q4, q5, q6⟩ := p5
    have htk : x.reverse.take n = x.reverse := List.take_of_length_le (by simp [hxl])
    rw [htk] at q3 q4
    have hcp : Ch [w1.heap.size] W1 (W1.putObj w1.heap.size (.deferred none)) := ch_put (by simp)
    have hca2 : Ch [w1.heap.size, w1.heap.size + 1] A (W1.putObj w1.heap.size (.deferred none)) := hca.trans hcp (fun q hq => .inl (by simp at hq; simp [hq]))
    have hnb : ∀ q ∈ bq :: be :: (qv.ownBlock.toList ++ ev.ownBlock.toList), q ∉ [w1.heap.size, w1.heap.size + 1] := fun q hq hm => by
      have hm2 : q = w1.heap.size ∨ q = w1.heap.size + 1 := by simpa using hm
      rcases (p6 q hq).1 with e | e <;> omega
    refine ⟨by simp, .inl ⟨_, _, rfl, run_takeDeferred hK, ?_⟩⟩
    refine ⟨_, results_none rfl _ _ _, .inl ⟨p0, rfl, p0, F', qv, ev, p1.same hca2 (fun q hq hm => ?_), ?_, fun q hq => (p3 q hq).elim (fun e => .inl e.1) (fun e => .inr (by omega)), p4, q1.ch hca2 (hnb _ (by simp)), q2.ch hca2 (hnb _ (by simp)), q3.ch hca2 (fun q hq => hnb _ (by simp [hq])), (q4 h1).ch hca2 (fun q hq => hnb _ (by simp [hq])), fun q hq => ?_, fun q hq => ?_⟩⟩
    · have hm2 : q = w1.heap.size ∨ q = w1.heap.size + 1 := by simpa using hm
      rcases p3 q hq with e | e <;> omega
    · exact ((hc1.mono (by simp)).trans p2 (fun q hq => .inl hq)).trans hca2 (fun q hq => .inr (by simp at hq; omega))
    · obtain ⟨t1, t2, _⟩ := p6 q (by simp [hq])
      refine ⟨?_, t2, (q5 q hq).2.2⟩
      rcases t1 with ⟨e, _⟩ | e
      · have := q5 q hq; simp at e; omega
      · omega
    · obtain ⟨t1, t2, _⟩ := p6 q (by simp [hq])
      refine ⟨?_, t2⟩
      rcases t1 with ⟨e, _⟩ | e
      · have := q6 q hq; simp at e; omega
      · omega
  case body =>
    rintro l2 q W ⟨k1, k2, k3, k4, k5, k6, k7, k8, k9, k10, k11⟩ hWl
    obtain ⟨qv, ev, hT, q1, q2, q3, q4, q5, q6⟩ := (QI.ok bq be d G x.reverse n).same _ _ _ _ _ k3 k1 (fun z hz hm => by have := k6 z hm; simp at hz; omega)
    have hrr := k4.ch k1 (fun z hz => by cases hz; simp; have := k5.2; omega)
    have hrc := row_cap' k4
    have cx := ((hbx1.ch k2 hxb).ch k1 (by have := hbx1.lt; simp; omega)).cell (i := 0) rfl
    obtain ⟨qa, qc, rfl⟩ := row.shape q3
    have hks : q.W.heap.size ≤ W.heap.size := k1.size
    have hcA : Ch [] W (W.alloc (.cells #[.int .i64 q.f] 45)) := (Ch.refl _ _).alloc _
    have hrA := q3.ch hcA (by simp)
    have hbA : blk (W.alloc (.cells #[.int .i64 q.f] 45)) W.heap.size [.int .i64 q.f] := blk.new' _ _ rfl
    have cq := (q1.ch hcA (by simp)).cell (i := 0) rfl
    have cq0 := q1.cell (i := 0) rfl
    have hkn : q.k ≤ 1000000 := by omega
    obtain ⟨k, T, Wq, f, rb, rc, r⟩ := q
    simp only at k1 k2 k3 k4 k5 k6 k7 k8 k9 k10 k11 hT q3 q4 hrr hrc hks hrA cq hbA hcA hkn
    have HRA := Lib.hid hrA; clear hrA
    have HBA := Lib.hid hbA; clear hbA
    have HCA := Lib.hid hcA; clear hcA
    have K1 := Lib.hid k1; clear k1
    have K2 := Lib.hid k2; clear k2
    have K3 := Lib.hid k3; clear k3
    have K5 := Lib.hid k5; clear k5
    have K6 := Lib.hid k6; clear k6
    have K9 := Lib.hid k9; clear k9
    have HRR := Lib.hid hrr; clear hrr k4
    have Q1 := Lib.hid q1; clear q1
    have Q2 := Lib.hid q2; clear q2
    have Q3 := Lib.hid q3; clear q3 q4
    have Q5 := Lib.hid q5; clear q5
    have Q6 := Lib.hid q6; clear q6
    have HT := Lib.hid hT; clear hT
    refine wpIn_block ?_
    refine wpIn_seq ?_
    refine Ord.plainR (by kernel_rfl) ?_
    go_wp2_with (at_builtin; go_loud (refine wpList_append_row slRefs rfl _ _ rfl (v := .slice qa k qc) (n := k) (xs := refsCells (divF d (G, 0) (x.reverse.take k)).2.1) rfl HRA.out (ad := ⟨W.heap.size, 0, none⟩) (m := 1) (c := 1) (news := [.int .i64 f]) rfl rfl (news_blk HBA.out) (by simp [Value.oneCell']) (by omega) (by omega) ?_; intro v' w5 hown4 hC4 hf4; obtain ⟨gb, gc, rfl⟩ := row.parts hown4 (by omega); have HO4 := Lib.hid hown4; clear hown4; have HCC4 := Lib.hid hC4; clear hC4; have HF4 := Lib.hid hf4; clear hf4; have c55 := ((Q1.out.ch HCA.out (by simp)).ch HCC4.out (fun hm => (Q5.out bq (by simpa using hm)).1 rfl)).cell (i := 0) rfl; have f55 := ((Q1.out.ch HCA.out (by simp)).ch HCC4.out (fun hm => (Q5.out bq (by simpa using hm)).1 rfl)).frozen (i := 0)))
    refine ⟨rfl, ?_⟩
    obtain ⟨W6, hW6⟩ : ∃ W6, W6 = w5.setCell ⟨bq, 0, none⟩ (.slice (some ⟨gb, 0, none⟩) (k + 1) gc) := ⟨_, rfl⟩
    rw [← hW6]
    change Code.wpIn _ _ _ _ _ _ _
    have hC5 : Ch (Value.slice qa k qc).ownBlock.toList W w5 := (HCA.out.mono (by simp)).trans HCC4.out (fun z hz => .inl hz)
    have hC56 : Ch [bq] w5 W6 := by rw [hW6]; exact (Ch.refl _ _).setCell (.inl (by simp)) _
    have hC6 : Ch (bq :: (Value.slice qa k qc).ownBlock.toList) W W6 := (hC5.mono (fun z hz => .inl (by simp [hz]))).trans hC56 (fun z hz => .inl (by simp at hz; simp [hz]))
    have hLT : ∀ z ∈ bq :: (Value.slice qa k qc).ownBlock.toList, z ∈ T := fun z hz => by
      rw [HT.out]
      rcases List.mem_cons.1 hz with rfl | hz
      · simp
      · simp [hz]
    have hbxT : bx ∉ T := fun hm => by
      rcases (K6.out bx hm).2.2.2 with e | e
      · exact hxb (List.mem_append_left _ e)
      · have := hbx1.lt; omega
    have hrbT : rb ∉ T := K5.out.1
    have cx6 := (((hbx1.ch K2.out hxb).ch K1.out (by have := hbx1.lt; simp; omega)).ch hC6 (fun hm => hbxT (hLT _ hm))).cell (i := 0) rfl
    have hrr6 := HRR.out.ch hC6 (fun z hz hm => by cases hz; exact hrbT (hLT _ hm))
    have hbe6 := Q2.out.ch hC6 (fun hm => by
      rcases List.mem_cons.1 hm with e | e
      · exact hne e.symm
      · exact (Q5.out be (by simpa using e)).2.1 rfl)
    have hgbn : gb ∈ (Value.slice qa k qc).ownBlock.toList ∨ W.heap.size ≤ gb := by
      rcases HF4.out gb rfl with e | e
      · exact .inl (by simp [e])
      · exact .inr (by have := HCA.out.size; omega)
    have hgq : gb ≠ bq ∧ gb ≠ be := by
      rcases hgbn with e | e
      · have := Q5.out gb (by simpa using e); exact ⟨this.1, this.2.1⟩
      · have := Q1.out.lt; have := Q2.out.lt; omega
    have hq6 : row W6 45 1 (.slice (some ⟨gb, 0, none⟩) (k + 1) gc) (k + 1) (refsCells (divF d (G, 0) (x.reverse.take (k + 1))).2.1) := by
      rw [K9.out]
      have := HO4.out.ch hC56 (fun z hz => by cases hz; simpa using hgq.1)
      simpa [refsCells] using this
    have hbq6 : blk W6 bq [.slice (some ⟨gb, 0, none⟩) (k + 1) gc] := by
      rw [hW6]
      exact ((Q1.out.ch HCA.out (by simp)).ch HCC4.out (fun hm => (Q5.out bq (by simpa using hm)).1 rfl)).set _
    have hslr : Sl W6 (some ⟨rb, 0, none⟩) (natInts r) := Sl.of_row' hrr6 k10 (by omega)
    have hwv : WVok W6 ⟨some ⟨rb, 0, none⟩, natInts (r.take n), rc⟩ := by
      refine ⟨⟨fun i z hz => hslr.cells i z ?_, by simp; omega⟩, fun z hz => ?_, by simp [natInts]; omega⟩
      · simp only [natInts, List.getElem?_map, List.getElem?_take] at hz ⊢
        split at hz
        · exact hz
        · cases hz
      · obtain ⟨u, hu, rfl⟩ := List.mem_map.1 hz
        have := k11 u (List.mem_of_mem_take hu)
        omega
    have hcl := Clref_w hwv n (by simp [natInts]; omega)
    simp only at hcl
    have HCL := Lib.hid hcl; clear hcl
    have HC6 := Lib.hid hC6; clear hC6
    have HQ6 := Lib.hid hq6; clear hq6
    have HBQ6 := Lib.hid hbq6; clear hbq6
    have HBE6 := Lib.hid hbe6; clear hbe6
    have HLT := Lib.hid hLT; clear hLT
    clear hC5 hC56 hW6 c55 f55 hslr hwv hrr6 cq cq0 cx HO4 HCC4 HF4 HBA HRA HCA
    gi_wp2
    refine ⟨trivial, (CallsIn.inRound l2 ((callsIn_wide (n := _)).2 HCL.out)).mono ?_⟩
    rintro e w7 ⟨v, rfl, hv1, hv2, hv3⟩
    obtain ⟨va, vc, rfl⟩ := row.shape hv1
    have hvl : (intCells (natInts (r.take n))).length = n := by simp [intCells, natInts]; omega
    have hve : intCells (natInts (r.take n)) = refsCells (r.take n) := by simp [intCells, natInts, refsCells, Function.comp_def]
    have HV1 := Lib.hid hv1; clear hv1
    have HV2 := Lib.hid hv2; clear hv2
    have HV3 := Lib.hid hv3; clear hv3
    have c7 := (HBE6.out.ch HV3.out (by simp)).cell (i := 0) rfl
    have f7 := (HBE6.out.ch HV3.out (by simp)).frozen (i := 0)
    gi_wp2
    rw [← hz1]
    have hvl2 : (refsCells (r.take n)).length = n := by rw [← hve]; exact hvl
    rw [hvl2]
    have hve1 : row w7 45 1 (.slice va n vc) n (refsCells (r.take n)) := by
      have := HV1.out
      rw [hve, hvl2] at this
      exact this
    have hv2' : ∀ z, (Value.slice va n vc).ownBlock = some z → W6.heap.size ≤ z := fun z hz => by
      have := HV2.out z (by cases va <;> simp_all [Value.ownBlock])
      exact this
    obtain ⟨W8, hW8⟩ : ∃ W8, W8 = w7.setCell ⟨be, 0, none⟩ (.slice va n vc) := ⟨_, rfl⟩
    rw [← hW8]
    have hC78 : Ch [be] w7 W8 := by rw [hW8]; exact (Ch.refl _ _).setCell (.inl (by simp)) _
    have hC68 : Ch [be] W6 W8 := (HV3.out.mono (by simp)).trans hC78 (fun z hz => .inl hz)
    have hgb6 : gb < W6.heap.size := (HQ6.out.lt gb rfl).2
    have hbe6 := HBE6.out.lt
    have hbq6 := HBQ6.out.lt
    have hs68 := hC68.size
    have hs6 := HC6.out.size
    have hbeT : be ∈ T := by rw [HT.out]; simp
    have hC8 : Ch (be :: bq :: (Value.slice qa k qc).ownBlock.toList) W W8 := (HC6.out.mono (fun z hz => .inl (List.mem_cons_of_mem _ hz))).trans hC68 (fun z hz => .inl (by simp at hz; simp [hz]))
    have hL8 : ∀ z ∈ be :: bq :: (Value.slice qa k qc).ownBlock.toList, z ∈ T := fun z hz => by
      rcases List.mem_cons.1 hz with rfl | hz
      · exact hbeT
      · exact HLT.out z hz
    have hrw8 := hve1.ch hC78 (fun z hz => by have := hv2' z hz; simp; omega)
    have hrw8l := fun z hz => (hrw8.lt z hz).2
    refine ⟨Books.of_ch hC8 hWl (fun z hz => by have := K6.out z (hL8 z hz); omega), trivial, W8, ⟨bq :: be :: ((Value.slice (some ⟨gb, 0, none⟩) (k + 1) gc).ownBlock.toList ++ (Value.slice va n vc).ownBlock.toList), ⟨.slice (some ⟨gb, 0, none⟩) (k + 1) gc, .slice va n vc, rfl, ?_, ?_, ?_, fun _ => ?_, fun z hz => ?_, fun z hz => ?_⟩, ?_, fun z hz => ?_⟩, Ch.refl _ _⟩
    · exact HBQ6.out.ch hC68 (by simpa using hne)
    · rw [hW8]; exact (HBE6.out.ch HV3.out (by simp)).set _
    · exact HQ6.out.ch hC68 (fun z hz => by cases hz; simpa using hgq.2)
    · show row W8 45 1 (.slice va n vc) n (refsCells ((divF d (G, 0) (x.reverse.take (k + 1))).2.2.take n))
      rw [K9.out]
      exact hrw8
    · cases hz
      exact ⟨hgq.1, hgq.2, fun hm => by have := hv2' gb hm; omega⟩
    · have := hv2' z hz
      omega
    · exact (K1.out.mono (fun z hz => .inl (by simp at hz; rcases hz with e | e <;> simp [e]))).trans hC8 (fun z hz => .inl (by simp only [List.mem_cons]; exact .inr (.inr (hL8 z hz))))
    · simp only [List.mem_cons, List.mem_append, Option.mem_toList] at hz
      rcases hz with rfl | rfl | hz | hz
      · exact ⟨.inl (HLT.out _ (by simp)), by omega⟩
      · exact ⟨.inl hbeT, by omega⟩
      · cases hz
        refine ⟨?_, by show gb < _; omega⟩
        rcases hgbn with e | e
        · exact .inl (HLT.out gb (List.mem_cons_of_mem _ e))
        · exact .inr (by show Wq.heap.size ≤ gb; omega)
      · exact ⟨.inr (by have := hv2' z hz; show Wq.heap.size ≤ z; omega), hrw8l z hz⟩
end
end Go.Proofs.Ytkedpifopclipaa
namespace Go.Aig
/-- what is left of a quotient and a rest -/
def bres (G : Gra) (n : Nat) (R : Mk × List Nat × List Nat) : Gra × (List Nat × List Nat) × Nat := if R.1.2 ≠ 0 then (G, ([], []), R.1.2) else (R.1.1, (R.2.1.reverse, R.2.2.take n), 0)
def bothG (G : Gra) (x y : List Int) : Gra × (List Nat × List Nat) × Nat := if chk24 G [x, y] ≠ 0 then (G, ([], []), chk24 G [x, y]) else bres G x.length (divF (nats y ++ [0]) (G, 0) (nats x).reverse)
end Go.Aig
namespace Go.Proofs.Ytkedpifopclipaa
open Go.RowKit Go.Mem Go.Aig
/-- what a function leaves of a graph, with two words of its own -/
def GVV (w : World) (g : Nat) (G : Gra) (F : List Nat) (v1 : Value) (l1 : List Nat) (v2 : Value) (l2 : List Nat) (w' : World) : Prop :=
  ∃ F', GIn w' g G F' ∧ Ch F w w' ∧ (∀ k ∈ F', k ∈ F ∨ w.heap.size ≤ k) ∧ F'[2]? = F[2]? ∧ row w' 45 1 v1 l1.length (refsCells l1) ∧ row w' 45 1 v2 l2.length (refsCells l2) ∧ (∀ k, v1.ownBlock = some k → w.heap.size ≤ k ∧ k ∉ F' ∧ v2.ownBlock ≠ some k) ∧ (∀ k, v2.ownBlock = some k → w.heap.size ≤ k ∧ k ∉ F')
theorem GVV.none {w w' : World} {g : Nat} {G : Gra} {F F' : List Nat} (h1 : GIn w' g G F') (h2 : Ch F w w') (h3 : ∀ k ∈ F', k ∈ F ∨ w.heap.size ≤ k) (h4 : F'[2]? = F[2]?) : GVV w g G F (.slice none 0 0) [] (.slice none 0 0) [] w' :=
  ⟨F', h1, h2, h3, h4, ⟨rfl, .inl ⟨rfl, rfl⟩⟩, ⟨rfl, .inl ⟨rfl, rfl⟩⟩, by simp [Value.ownBlock], by simp [Value.ownBlock]⟩
section
variable {w : World} {g : Nat} {G : Gra} {F : List Nat}
set_option maxRecDepth 100000 in
set_option maxHeartbeats 4000000 in
theorem mdBoth_is (h : GIn w g G F) {x y : WV} (hx : WVin w F x) (hy : WVin w F y) :
    Calls Try.prog 57 #[.pointer (some ⟨g, 0, none⟩), x.val, y.val] w fun e w' => ∃ v1 v2, e = .returned (.tuple #[v1, v2, .int .i64 (bothG G x.l y.l).2.2]) ∧ GVV w g (bothG G x.l y.l).1 F v1 (bothG G x.l y.l).2.1.1 v2 (bothG G x.l y.l).2.1.2 w' := by
  have hFl := h.lt
  obtain ⟨xa, xl, xc⟩ := x
  obtain ⟨ya, yl, yc⟩ := y
  simp only [WV.val] at *
  unfold bothG
  have hch := chk24_ok (G := G) (x := xl) (y := yl)
  have hcs := chk24_small G [xl, yl]
  have hmf : ∀ (fn : Fn) (first cap : Array Value) (w : World), (Instr.makeFunc fn first cap).run Try.prog w = .ok (.func fn first cap) w := fun _ _ _ _ => rfl
  generalize hc : chk24 G [xl, yl] = cc at *
  have hC : ∀ W, Ch [] w W → ∀ b, blk W b [.slice xa xl.length xc, .slice ya yl.length yc] → Calls Try.prog 119 #[.pointer (some ⟨g, 0, none⟩), .slice (some ⟨b, 0, none⟩) 2 2] W fun e w' => e = .returned (.int .i64 cc) ∧ Ch [] W w' := fun W hW b hb => by
    have := mdcheck_is (h.same hW (by simp)) (b := b) (ws := [⟨xa, xl, xc⟩, ⟨ya, yl, yc⟩]) 2 2 rfl (by omega) (fun i z hz => by
      match i, hz with
      | 0, hz => cases hz; exact hb.cell rfl
      | 1, hz => cases hz; exact hb.cell rfl) (fun z hz => by
      simp only [List.mem_cons, List.not_mem_nil, or_false] at hz
      rcases hz with rfl | rfl
      · exact (hx.ch hW).ok
      · exact (hy.ch hW).ok)
    rw [show ([⟨xa, xl, xc⟩, ⟨ya, yl, yc⟩] : List WV).map WV.l = [xl, yl] from rfl, hc] at this
    exact this
  have HC := Lib.hid hC; clear hC
  have HX := Lib.hid hx; clear hx
  have HY := Lib.hid hy; clear hy
  have H := Lib.hid h; clear h
  have HCH := Lib.hid hch; clear hch
  clear hc
  generalize hWW : (if cc ≠ 0 then (G, ([], []), cc) else bres G xl.length (divF (nats yl ++ [0]) (G, 0) (nats xl).reverse) : Gra × (List Nat × List Nat) × Nat) = WW
  have HWW := Lib.hid hWW; clear hWW
  go_enter Try.func57, Try.ntmps57
  go_wp2_with fail
  refine calls_named fun W0 hW0 => ?_
  have hc0 : Ch [] w W0 := by rw [hW0]; exact ((((Ch.refl _ _).alloc _).alloc _).alloc _).alloc _
  have hbg : blk W0 w.heap.size [.pointer (some ⟨g, 0, none⟩)] := by rw [hW0]; exact (((blk.new w _ _).alloc _).alloc _).alloc _
  have hbx : blk W0 (w.heap.size + 1) [.slice xa xl.length xc] := by rw [hW0]; exact ((blk.new' _ _ (by simp)).alloc _).alloc _
  have hby : blk W0 (w.heap.size + 1 + 1) [.slice ya yl.length yc] := by rw [hW0]; exact (blk.new' _ _ (by simp)).alloc _
  have hbl : blk W0 (w.heap.size + 1 + 1 + 1) [.slice xa xl.length xc, .slice ya yl.length yc] := by rw [hW0]; exact blk.new' _ _ (by simp)
  clear hW0
  refine (HC.out W0 hc0 _ hbl).mono ?_
  rintro e w1 ⟨rfl, hc1⟩
  have hc01 := hc0.trans hc1 (by simp)
  have hbg := hbg.ch hc1 (by simp)
  have hbx := hbx.ch hc1 (by simp)
  have hby := hby.ch hc1 (by simp)
  clear hbl hc0 hc1
  by_cases hcc : cc = 0
  · subst hcc
    obtain ⟨k1, k2, k3, k4, k5, k6, k7⟩ := HCH.out rfl
    have d0 := ((hbg.alloc (.cells #[.slice none 0 0] 28)).alloc (.cells #[.slice none 0 0] 28)).cell (i := 0) rfl
    have hc2 : Ch [] w ((w1.alloc (.cells #[.slice none 0 0] 28)).alloc (.cells #[.slice none 0 0] 28)) := (hc01.alloc _).alloc _
    have hbq : blk ((w1.alloc (.cells #[.slice none 0 0] 28)).alloc (.cells #[.slice none 0 0] 28)) w1.heap.size [.slice none 0 0] := (blk.new _ _ _).alloc _
    have hbe : blk ((w1.alloc (.cells #[.slice none 0 0] 28)).alloc (.cells #[.slice none 0 0] 28)) (w1.heap.size + 1) [.slice none 0 0] := blk.new' _ _ (by simp)
    have hz1 := hc01.size
    have hxap : ∀ q, w.heap.size ≤ q → q ∉ ablk xa ∧ q ∉ ablk ya := fun q hq => ⟨fun hm => by have := (HX.out.apart q hm).2; omega, fun hm => by have := (HY.out.apart q hm).2; omega⟩
    have hbxl := hbx.lt
    have hB := mdbuild_is (H.out.same hc2 (by simp)) 127 #[.pointer (some ⟨w.heap.size, 0, none⟩), .pointer (some ⟨w.heap.size + 1, 0, none⟩), .pointer (some ⟨w.heap.size + 1 + 1, 0, none⟩), .pointer (some ⟨w1.heap.size, 0, none⟩), .pointer (some ⟨w1.heap.size + 1, 0, none⟩)] fnvmdBoth1 [w1.heap.size, w1.heap.size + 1] (fun k hk => by simp at hk ⊢; omega) (divF (nats yl ++ [0]) (G, 0) (nats xl).reverse).1.2 (BothD g xl.length F (divF (nats yl ++ [0]) (G, 0) (nats xl).reverse) w1.heap.size (w1.heap.size + 1)) (fun a b hd => by
      obtain ⟨_, _, _, _, _, q, _⟩ := hd
      exact q) (fun W hW hG => by
      have := mdBoth1_is hG (x := nats xl) (y := nats yl) (xa := xa) (ya := ya) (xc := xc) (yc := yc) xl.length (by simp) (by simp [k1]) k2 k3
        (by rw [k4]; exact HX.out.ch (hc2.trans hW (by simp))) (by rw [k5]; exact HY.out.ch (hc2.trans hW (by simp))) k6 k7 (((hbg.alloc _).alloc _).ch hW (by simp)) (((hbx.alloc _).alloc _).ch hW (by simp)) (by rw [← k1]; exact ((hby.alloc _).alloc _).ch hW (by simp)) (hbq.ch hW (by simp)) (hbe.ch hW (by simp)) (by omega) ⟨fun hm => by have := hFl _ hm; omega, fun hm => by have := hFl _ hm; omega⟩ (fun q hq => by
          simp only [List.mem_cons, List.not_mem_nil, or_false] at hq
          exact ⟨by omega, hxap q (by omega)⟩) (fun hm => by have := hFl _ hm; omega)
      exact this)
    have HB := Lib.hid hB; clear hB
    have hww := HWW.out
    rw [if_neg (by simp)] at hww
    clear HWW
    generalize divF (nats yl ++ [0]) (G, 0) (nats xl).reverse = R at *
    unfold bres at hww
    have HC01 := Lib.hid hc01; clear hc01
    have HBQ := Lib.hid hbq; clear hbq
    have HBE := Lib.hid hbe; clear hbe
    have HC2 := Lib.hid hc2; clear hc2
    clear hbg hbx hby HX HY HCH HC k1 k4 k5 k6 k7 hxap
    go_wp2_with fail
    refine HB.out.mono ?_
    rintro e w2 ⟨rfl, ⟨h0, bk, W1, W2, hb1, hb2, hW1, ⟨_, F', qv, ev, p1, p2, p3, p4, p5, p6, p7, p8, p9, p10⟩, hc2⟩ | ⟨h0, F', q1, q2, q3, q4⟩⟩
    · rw [if_neg (by simpa using h0)] at hww
      subst hww
      have hzc := HC2.out.size
      have hz2 : ((w1.alloc (.cells #[.slice none 0 0] 28)).alloc (.cells #[.slice none 0 0] 28)).heap.size = w1.heap.size + 2 := by simp
      rw [hz2] at hb1
      have hzW := hW1.size
      rw [hz2] at hzW
      have hnk : ∀ q, q < w1.heap.size + 2 → q ∉ [bk] := fun q hq hm => by simp at hm; omega
      have r1 := p5.ch hc2 (hnk _ (by omega))
      have r2 := p6.ch hc2 (hnk _ (by omega))
      have r3 := p7.ch hc2 (fun q hq hm => by have := (p9 q hq).1; simp at hm; omega)
      have r4 := p8.ch hc2 (fun q hq hm => by have := (p10 q hq).1; simp at hm; omega)
      have hFk : ∀ q ∈ F', q ∉ [bk] := fun q hq hm => by
        simp at hm
        rcases p3 q hq with e | e
        · have := hFl q e; omega
        · omega
      have hG2 := p1.same hc2 hFk
      obtain ⟨qb, qc, rfl⟩ := row.parts r3 (by omega)
      obtain ⟨ea, ec, rfl⟩ := row.shape r4
      have hql : R.2.1.length = xl.length := by have := r3.1; simpa [refsCells] using this
      have hel : (R.2.2.take xl.length).length = xl.length := by have := r4.1; simpa [refsCells] using this
      have hrev := Revref_some r3 (by omega)
      have hqb := p9 qb rfl
      have d1 := r1.cell (i := 0) rfl
      have hqbn : qb ≠ w1.heap.size ∧ qb ≠ w1.heap.size + 1 := by have := hqb.1; constructor <;> omega
      have hc12 : Ch F w w2 := by
        have h1 := ((HC2.out.trans hW1 (by simp)).mono (F' := [w1.heap.size, w1.heap.size + 1] ++ F) (by simp)).trans p2 (fun q hq => .inl hq)
        have h2 := h1.trans hc2 (fun q hq => .inr (by simp at hq; omega))
        refine h2.mono (fun q hq => ?_)
        rcases List.mem_append.1 hq with e | e
        · right; simp at e; omega
        · exact .inl e
      have HREV := Lib.hid hrev; clear hrev
      have R1 := Lib.hid r1; clear r1
      have R2 := Lib.hid r2; clear r2
      have R4 := Lib.hid r4; clear r4 r3
      have HG2 := Lib.hid hG2; clear hG2
      have HC12 := Lib.hid hc12; clear hc12
      have P9 := Lib.hid p9; clear p9
      have P10 := Lib.hid p10; clear p10
      have P3 := Lib.hid p3; clear p3
      have P4 := Lib.hid p4; clear p4
      clear p1 p2 p5 p6 p7 p8 hc2 hFk
      rw [h0]
      go_wp2_with fail
      refine HREV.out.mono ?_
      rintro e w3 ⟨⟨v, rfl⟩, hr3, hc3⟩
      have e1 := (R1.out.ch hc3 (by simpa using fun e => hqbn.1 e.symm)).cell (i := 0) rfl
      have e2 := (R2.out.ch hc3 (by simpa using fun e => hqbn.2 e.symm)).cell (i := 0) rfl
      have hfin : GVV w g R.1.1 F (.slice (some ⟨qb, 0, none⟩) xl.length qc) R.2.1.reverse (.slice ea xl.length ec) (R.2.2.take xl.length) w3.drew := by
        have hcd : Ch [qb] w2 w3.drew := hc3.trans (Ch.refl [] _).drew (by simp)
        refine ⟨F', HG2.out.same hcd (fun q hq hm => hqb.2.1 (by simp at hm; rw [← hm]; exact hq)), HC12.out.trans hcd (fun q hq => .inr (by simp at hq; have := hqb.1; omega)), fun q hq => (P3.out q hq).imp id (fun e => by omega), P4.out, ?_, ?_, fun q hq => ?_, fun q hq => ?_⟩
        · rw [List.length_reverse, hql]
          exact hr3.ch (Ch.refl [] _).drew (by simp)
        · rw [hel]
          exact R4.out.ch hcd (fun q hq hm => by simp at hm; exact hqb.2.2 (by rw [← hm]; exact hq))
        · have := P9.out q hq
          exact ⟨by omega, this.2.1, this.2.2⟩
        · have := P10.out q hq
          exact ⟨by omega, this.2⟩
      have HFIN := Lib.hid hfin; clear hfin hr3 hc3
      go_wp2_with fail
      refine Ord.St.door (fun _ => True) [.rd, .rd, .fl, .fl, .fl] [0, 0, 1, 7, 15] [0, 1, 2, 3, 4] mixed (by kernel_rfl) rfl ?_
      refine Ord.St.rd2 (T' := ?_) 0 [1, 2, 3, 4] _ _ rfl (by kernel_rfl) rfl rfl rfl rfl (fun K hk => ?_) ?_
      rotate_left
      · go_step; exact hk
      refine Ord.St.rd2 (T' := ?_) 1 [2, 3, 4] _ _ rfl (by kernel_rfl) rfl rfl rfl rfl (fun K hk => ?_) ?_
      rotate_left
      · go_step; exact hk
      refine Ord.St.fl2 (T' := ?_) 2 [3, 4] _ _ rfl (by kernel_rfl) rfl rfl rfl rfl (fun K w' hk => ?_) ?_
      rotate_left
      · go_step; exact hk
      refine Ord.St.fl2 (T' := ?_) 3 [4] _ _ rfl (by kernel_rfl) rfl rfl rfl rfl (fun K w' hk => ?_) ?_
      rotate_left
      · go_step; exact hk
      refine Ord.St.fl2 (T' := ?_) 4 [] _ _ rfl (by kernel_rfl) rfl rfl rfl rfl (fun K w' hk => ?_) ?_
      rotate_left
      · go_step; exact hk
      refine Ord.St.nil ?_
      go_wp2_with fail
      go_ret3
      exact ⟨_, _, rfl, HFIN.out⟩
    · have he : ((R.1.2 : Int) != 0) = true := by simp; omega
      rw [if_pos h0] at hww
      subst hww
      have hzc := HC2.out.size
      have hgv : GVV w g G F (.slice none 0 0) [] (.slice none 0 0) [] w2 := by
        refine GVV.none q1 ((HC2.out.mono (by simp)).trans q2 (fun k hk => ?_)) (fun k hk => (q3 k hk).imp id (fun e => by omega)) q4
        rcases List.mem_append.1 hk with hk | hk
        · right; simp at hk; omega
        · exact .inl hk
      have HGV := Lib.hid hgv
      clear hgv q1 q2 q3 q4
      go_wp2_with fail
      go_ret3
      exact ⟨_, _, rfl, HGV.out⟩
  · have hq : ((cc : Int) != 0) = true := by simp; omega
    have hgv : GVV w g G F (.slice none 0 0) [] (.slice none 0 0) [] w1 := GVV.none (H.out.same hc01 (by simp)) (hc01.mono (by simp)) (fun k hk => .inl hk) rfl
    have HGV := Lib.hid hgv; clear hgv hc01 hbg hbx hby HX HY HCH HC
    have hww := HWW.out
    rw [if_pos hcc] at hww
    subst hww
    have HQ := Lib.hid hcc; clear hcc
    go_wp2_with fail
    go_ret3
    exact ⟨_, _, rfl, HGV.out⟩
end
end Go.Proofs.Ytkedpifopclipaa
namespace Go.Aig
/-- the product of a word and a constant -/
def timesG (G : Gra) (x : List Int) (n : Nat) : Gra × List Nat × Nat := if chk24 G [x] ≠ 0 then (G, [], chk24 G [x]) else mulG G x (natInts (constL n x.length))
theorem chk24_one {G : Gra} {x : List Int} (h : chk24 G [x] = 0) : 1 ≤ x.length ∧ x.length ≤ 16 ∧ natInts (nats x) = x ∧ ∀ r ∈ nats x, r < 2 * G.nodes.length := by
  unfold chk24 at h
  split at h
  · cases h
  · rename_i h1
    split at h
    · cases h
    · rename_i h2
      simp only [List.any_cons, List.any_nil, Bool.or_false, List.headD_cons, Bool.not_eq_true] at h1 h2
      have hx := badIn_no h2
      unfold bad24 at h1
      simp only [Bool.or_eq_false_iff, decide_eq_false_iff_not] at h1
      exact ⟨by omega, by omega, hx.1, hx.2⟩
end Go.Aig
namespace Go.Proofs.Ytkedpifopclipaa
open Go.RowKit Go.Mem Go.Aig
section
variable {w : World} {g : Nat} {G : Gra} {F : List Nat}
set_option maxRecDepth 100000 in
set_option maxHeartbeats 1000000 in
theorem mdDiv_is (h : GIn w g G F) {x y : WV} (hx : WVin w F x) (hy : WVin w F y) :
    Calls Try.prog 61 #[.pointer (some ⟨g, 0, none⟩), x.val, y.val] w fun e w' => ∃ v, e = .returned (.tuple #[v, .int .i64 (bothG G x.l y.l).2.2]) ∧ GVo w g (bothG G x.l y.l).1 [] F v (bothG G x.l y.l).2.1.1 w' := by
  have HB := mdBoth_is h hx hy
  generalize bothG G x.l y.l = R at *
  unfold WV.val at *
  clear h hx hy
  go_enter Try.func61, Try.ntmps61
  go_wp2_with fail
  refine HB.mono ?_
  rintro e w' ⟨v1, v2, rfl, F', g1, g2, g3, g4, g5, g6, g7, g8⟩
  have hgv : GVo w g R.1 [] F v1 R.2.1.1 w' := ⟨F', g1, by simpa using g2, g3, g4, g5, fun k hk => ⟨(g7 k hk).1, (g7 k hk).2.1⟩⟩
  obtain ⟨a1, c1, rfl⟩ := row.shape g5
  obtain ⟨a2, c2, rfl⟩ := row.shape g6
  have HV := Lib.hid hgv; clear hgv g1 g2 g3 g4 g5 g6 g7 g8
  go_wp2_with fail
  go_ret2
  exact ⟨_, rfl, HV.out⟩
set_option maxRecDepth 100000 in
set_option maxHeartbeats 1000000 in
theorem mdRem_is (h : GIn w g G F) {x y : WV} (hx : WVin w F x) (hy : WVin w F y) :
    Calls Try.prog 62 #[.pointer (some ⟨g, 0, none⟩), x.val, y.val] w fun e w' => ∃ v, e = .returned (.tuple #[v, .int .i64 (bothG G x.l y.l).2.2]) ∧ GVo w g (bothG G x.l y.l).1 [] F v (bothG G x.l y.l).2.1.2 w' := by
  have HB := mdBoth_is h hx hy
  generalize bothG G x.l y.l = R at *
  unfold WV.val at *
  clear h hx hy
  go_enter Try.func62, Try.ntmps62
  go_wp2_with fail
  refine HB.mono ?_
  rintro e w' ⟨v1, v2, rfl, F', g1, g2, g3, g4, g5, g6, g7, g8⟩
  have hgv : GVo w g R.1 [] F v2 R.2.1.2 w' := ⟨F', g1, by simpa using g2, g3, g4, g6, fun k hk => g8 k hk⟩
  obtain ⟨a1, c1, rfl⟩ := row.shape g5
  obtain ⟨a2, c2, rfl⟩ := row.shape g6
  have HV := Lib.hid hgv; clear hgv g1 g2 g3 g4 g5 g6 g7 g8
  go_wp2_with fail
  go_ret2
  exact ⟨_, rfl, HV.out⟩
set_option maxRecDepth 100000 in
set_option maxHeartbeats 2000000 in
theorem mdTimes_is (h : GIn w g G F) {x : WV} (hx : WVin w F x) (hxc : x.l.length ≤ x.c) (n : Nat) (hn : n < 4294967296) :
    Calls Try.prog 52 #[.pointer (some ⟨g, 0, none⟩), x.val, .int .u32 n] w fun e w' => ∃ v, e = .returned (.tuple #[v, .int .i64 (timesG G x.l n).2.2]) ∧ GVo w g (timesG G x.l n).1 [] F v (timesG G x.l n).2.1 w' := by
  have hFl := h.lt
  obtain ⟨xa, xl, xc⟩ := x
  simp only [WV.val] at *
  unfold timesG
  have hch := chk24_one (G := G) (x := xl)
  have hcs := chk24_small G [xl]
  generalize hc : chk24 G [xl] = cc at *
  have hC : ∀ W, Ch [] w W → ∀ b, blk W b [.slice xa xl.length xc] → Calls Try.prog 119 #[.pointer (some ⟨g, 0, none⟩), .slice (some ⟨b, 0, none⟩) 1 1] W fun e w' => e = .returned (.int .i64 cc) ∧ Ch [] W w' := fun W hW b hb => by
    have := mdcheck_is (h.same hW (by simp)) (b := b) (ws := [⟨xa, xl, xc⟩]) 1 1 rfl (by omega) (fun i z hz => by
      match i, hz with
      | 0, hz => cases hz; exact hb.cell rfl) (fun z hz => by
      simp only [List.mem_cons, List.not_mem_nil, or_false] at hz
      rcases hz with rfl
      exact (hx.ch hW).ok)
    rw [show ([⟨xa, xl, xc⟩] : List WV).map WV.l = [xl] from rfl, hc] at this
    exact this
  have HC := Lib.hid hC; clear hC
  have HX := Lib.hid hx; clear hx
  have H := Lib.hid h; clear h
  have HCH := Lib.hid hch; clear hch
  clear hc
  generalize hWW : (if cc ≠ 0 then (G, [], cc) else mulG G xl (natInts (constL n xl.length)) : Gra × List Nat × Nat) = WW
  have HWW := Lib.hid hWW; clear hWW
  go_enter Try.func52, Try.ntmps52
  go_wp2_with fail
  refine calls_named fun W0 hW0 => ?_
  have hc0 : Ch [] w W0 := by rw [hW0]; exact (Ch.refl _ _).alloc _
  have hbl : blk W0 w.heap.size [.slice xa xl.length xc] := by rw [hW0]; exact blk.new' _ _ (by simp)
  clear hW0
  refine (HC.out W0 hc0 _ hbl).mono ?_
  rintro e w1 ⟨rfl, hc1⟩
  have hc01 := hc0.trans hc1 (by simp)
  clear hbl hc0 hc1
  by_cases hcc : cc = 0
  · subst hcc
    obtain ⟨k1, k2, k3, k4⟩ := HCH.out rfl
    have hww := HWW.out
    rw [if_neg (by simp)] at hww
    have hrw : rightW (xl.length : Int) = true := by unfold rightW; simp; omega
    have hco := sConst_is (w := w1) n hn (xl.length : Int)
    rw [hrw] at hco
    simp only [if_true, Int.toNat_natCast] at hco
    have HCO := Lib.hid hco; clear hco
    have HC01 := Lib.hid hc01; clear hc01
    clear HC HCH HWW
    go_wp2_with fail
    refine HCO.out.mono ?_
    rintro e w2 ⟨v, rfl, hv1, hv2, hv3⟩
    have hcl : (refsCells (constL n xl.length)).length = xl.length := by simp [refsCells, constL]
    rw [hcl] at hv1
    obtain ⟨va, vc, rfl⟩ := row.shape hv1
    have hc02 := HC01.out.trans hv3 (by simp)
    have hz := HC01.out.size
    have hcnl : (constL n xl.length).length = xl.length := by simp [constL]
    have hyin : WVin w2 F ⟨va, natInts (constL n xl.length), vc⟩ := wv_of_row (by rw [hcnl]; exact hv1) hcnl (fun k hk hm => by have := hv2 k (by simp [hk]); have := hFl k hm; omega) (by omega) (fun r hr => by have := constL_le n xl.length r hr; omega)
    have hmul := mdMul_is (H.out.same hc02 (by simp)) (HX.out.ch hc02) hyin hxc
    simp only [WV.val, natInts_len, hcnl] at hmul
    rw [hww] at hmul
    have HMUL := Lib.hid hmul; clear hmul
    have HC02 := Lib.hid hc02; clear hc02 hv1 hv2 hv3 hyin
    go_wp2_with fail
    refine HMUL.out.mono ?_
    rintro e w3 ⟨v, rfl, hgv⟩
    obtain ⟨ua, uc, rfl⟩ : ∃ ua uc, v = .slice ua WW.2.1.length uc := by
      obtain ⟨_, _, _, _, _, hr, _⟩ := hgv
      exact row.shape hr
    have HV := Lib.hid (GVo.since HC02.out hgv); clear hgv
    go_wp2_with fail
    go_ret2
    exact ⟨_, rfl, HV.out⟩
  · have hq : ((cc : Int) != 0) = true := by simp; omega
    have hgv : GVo w g G [] F (.slice none 0 0) [] w1 := GVo.none H.out hc01
    have HGV := Lib.hid hgv; clear hgv hc01 HX HCH HC
    have hww := HWW.out
    rw [if_pos hcc] at hww
    subst hww
    have HQ := Lib.hid hcc; clear hcc
    go_wp2_with fail
    go_ret2
    exact ⟨_, rfl, HGV.out⟩
end
end Go.Proofs.Ytkedpifopclipaa
namespace Go.Proofs.Ytkedpifopclipaa
open Go.RowKit Go.Mem Go.Aig
section
variable {w0 : Base} {w : World} {g : Nat} {G : Gra} {F : List Nat} {L : List (Value × List Int)}
theorem Hold.word2 {w' : World} {G' : Gra} {v1 v2 : Value} {l1 l2 : List Nat} (h : Hold w0 w g G F L) (ht : GVV w g G' F v1 l1 v2 l2 w') (hb1 : ∀ r ∈ l1, r ≤ 1000000) (hl1 : l1.length ≤ 1000000) (hb2 : ∀ r ∈ l2, r ≤ 1000000) (hl2 : l2.length ≤ 1000000) :
    ∃ a1 c1 a2 c2 F', v1 = .slice a1 l1.length c1 ∧ v2 = .slice a2 l2.length c2 ∧ Hold w0 w' g G' F' ((.slice a2 l2.length c2, natInts l2) :: (.slice a1 l1.length c1, natInts l1) :: L) := by
  obtain ⟨F', h1, h2, h3, h4, h5, h6, h7, h8⟩ := ht
  obtain ⟨a1, c1, rfl⟩ := row.shape h5
  obtain ⟨a2, c2, rfl⟩ := row.shape h6
  have hs := h.own.ch.size
  have mk : ∀ {v : Value} {l : List Nat}, row w' 45 1 v l.length (refsCells l) → (∀ r ∈ l, r ≤ 1000000) → l.length ≤ 1000000 → (∀ k, v.ownBlock = some k → w.heap.size ≤ k ∧ k ∉ F') → Held w0.w w' F' v (natInts l) := fun {v l} hr hb hl ho => by
    refine ⟨?_, by simpa using hl, fun r hr => ?_, fun k hk => ⟨Nat.le_trans hs (ho k hk).1, (ho k hk).2⟩⟩
    · simp only [natInts_len]
      rw [← refs_natInts]
      exact hr
    · obtain ⟨q, hq, rfl⟩ := List.mem_map.1 hr
      have := hb q hq
      omega
  refine ⟨a1, c1, a2, c2, F', rfl, rfl, ⟨⟨h1, fun k hk => (h3 k hk).elim (h.own.own k) (fun e => Nat.le_trans hs e), h.own.ch.trans h2 (fun k hk => .inr (h.own.own k hk))⟩, fun p hp => ?_, h.keptTo h2 h3⟩⟩
  rcases List.mem_cons.1 hp with rfl | hp
  · exact mk h6 hb2 hl2 h8
  rcases List.mem_cons.1 hp with rfl | hp
  · exact mk h5 hb1 hl1 (fun k hk => ⟨(h7 k hk).1, (h7 k hk).2.1⟩)
  · exact (h.held p hp).keep h2 h3
theorem mdMul_h (h : Hold w0 w g G F L) {xa ya : Option Addr} {xl yl : List Int} {n m xc yc : Nat} (hx : (.slice xa n xc, xl) ∈ L) (hxn : xl.length = n) (hy : (.slice ya m yc, yl) ∈ L) (hym : yl.length = m) {G' : Gra} {l : List Nat} {e k : Nat} (hR : mulG G xl yl = (G', l, e)) (hk : l.length = k) (hb : ∀ r ∈ l, r ≤ 1000000) (hl : k ≤ 1000000) :
    Calls Try.prog 56 #[.pointer (some ⟨g, 0, none⟩), .slice xa n xc, .slice ya m yc] w fun en w' => ∃ a c F', en = .returned (.tuple #[.slice a k c, .int .i64 e]) ∧ Hold w0 w' g G' F' ((.slice a k c, natInts l) :: L) := by
  have hc := mdMul_is h.own.gin (h.at hx hxn) (h.at hy hym) (by rw [hxn]; exact (h.held _ hx).cap)
  simp only [WV.val, hxn, hym] at hc
  exact Calls.word h hc hR hk hb hl
theorem mdTimes_h (h : Hold w0 w g G F L) {xa : Option Addr} {xl : List Int} {n xc : Nat} (hx : (.slice xa n xc, xl) ∈ L) (hxn : xl.length = n) (z : Nat) (hz : z < 4294967296) {G' : Gra} {l : List Nat} {e k : Nat} (hR : timesG G xl z = (G', l, e)) (hk : l.length = k) (hb : ∀ r ∈ l, r ≤ 1000000) (hl : k ≤ 1000000) :
    Calls Try.prog 52 #[.pointer (some ⟨g, 0, none⟩), .slice xa n xc, .int .u32 z] w fun en w' => ∃ a c F', en = .returned (.tuple #[.slice a k c, .int .i64 e]) ∧ Hold w0 w' g G' F' ((.slice a k c, natInts l) :: L) := by
  have hc := mdTimes_is h.own.gin (h.at hx hxn) (by rw [hxn]; exact (h.held _ hx).cap) z hz
  simp only [WV.val, hxn] at hc
  exact Calls.word h hc hR hk hb hl
theorem mdBoth_h (h : Hold w0 w g G F L) {xa ya : Option Addr} {xl yl : List Int} {n m xc yc : Nat} (hx : (.slice xa n xc, xl) ∈ L) (hxn : xl.length = n) (hy : (.slice ya m yc, yl) ∈ L) (hym : yl.length = m) {G' : Gra} {l1 l2 : List Nat} {e k1 k2 : Nat} (hR : bothG G xl yl = (G', (l1, l2), e)) (hk1 : l1.length = k1) (hk2 : l2.length = k2) (hb1 : ∀ r ∈ l1, r ≤ 1000000) (hb2 : ∀ r ∈ l2, r ≤ 1000000) (hl1 : k1 ≤ 1000000) (hl2 : k2 ≤ 1000000) :
    Calls Try.prog 57 #[.pointer (some ⟨g, 0, none⟩), .slice xa n xc, .slice ya m yc] w fun en w' => ∃ a1 c1 a2 c2 F', en = .returned (.tuple #[.slice a1 k1 c1, .slice a2 k2 c2, .int .i64 e]) ∧ Hold w0 w' g G' F' ((.slice a2 k2 c2, natInts l2) :: (.slice a1 k1 c1, natInts l1) :: L) := by
  have hc := mdBoth_is h.own.gin (h.at hx hxn) (h.at hy hym)
  simp only [WV.val, hxn, hym] at hc
  rw [hR] at hc
  subst hk1 hk2
  refine hc.mono ?_
  rintro en w' ⟨v1, v2, rfl, hg⟩
  obtain ⟨a1, c1, a2, c2, F', rfl, rfl, ho⟩ := h.word2 hg hb1 hl1 hb2 hl2
  exact ⟨a1, c1, a2, c2, F', rfl, ho⟩
end
end Go.Proofs.Ytkedpifopclipaa
namespace Go.Aig
theorem List.snocRec {α : Type} {motive : List α → Prop} (nil : motive []) (snoc : ∀ l x, motive l → motive (l ++ [x])) (l : List α) : motive l := by
  have : ∀ n (l : List α), l.length = n → motive l := by
    intro n
    induction n with
    | zero => intro l hl; rw [List.eq_nil_of_length_eq_zero hl]; exact nil
    | succ n ih =>
      intro l hl
      have hne : l ≠ [] := by intro e; rw [e] at hl; simp at hl
      rw [← List.dropLast_concat_getLast hne]
      exact snoc _ _ (ih _ (by rw [List.length_dropLast]; omega))
  exact this l.length l rfl
/-- the word of a reference, over the words of the nodes; M has all bits -/
def wref (M : Nat) (vs : List Nat) (r : Nat) : Nat := if r % 2 = 1 then M ^^^ vs.getD (r / 2) 0 else vs.getD (r / 2) 0
def wvStep (M : Nat) (s : List Nat × List Nat) (x : Nd) : List Nat × List Nat :=
  if x.k = 3 then (s.1 ++ [wref M s.1 x.l &&& wref M s.1 x.r], s.2) else if x.k = 2 then (s.1 ++ [s.2.headD 0], s.2.tail) else (s.1 ++ [0], s.2)
/-- the words of the nodes, and those of the inputs that are left -/
def wvF (M : Nat) (ins : List Nat) (ns : List Nd) : List Nat × List Nat := ns.foldl (wvStep M) ([], ins)
theorem wvF_snoc (M : Nat) (ins : List Nat) (ns : List Nd) (x : Nd) : wvF M ins (ns ++ [x]) = wvStep M (wvF M ins ns) x := by unfold wvF; rw [List.foldl_append]; rfl
theorem wvF_len (M : Nat) (ins : List Nat) (ns : List Nd) : (wvF M ins ns).1.length = ns.length := by
  induction ns using List.snocRec with
  | nil => rfl
  | snoc ns x ih =>
    rw [wvF_snoc]
    unfold wvStep
    (repeat' split) <;> simp [ih]
theorem wref_ext {M : Nat} {vs more : List Nat} {r : Nat} (h : r < 2 * vs.length) : wref M (vs ++ more) r = wref M vs r := by
  unfold wref
  rw [List.getD_eq_getElem?_getD, List.getD_eq_getElem?_getD, List.getElem?_append_left (by omega)]
theorem wref_bit {N k : Nat} (hk : k < N) (vs : List Nat) (r : Nat) : (wref (2 ^ N - 1) vs r).testBit k = rv (vs.map fun v => v.testBit k) r := by
  have hg : (vs.map fun v => v.testBit k).getD (r / 2) false = (vs.getD (r / 2) 0).testBit k := by
    rw [List.getD_eq_getElem?_getD, List.getD_eq_getElem?_getD, List.getElem?_map]
    cases vs[r / 2]? <;> simp
  unfold wref rv
  rw [hg]
  split
  · rename_i h
    rw [Nat.testBit_xor, Nat.testBit_two_pow_sub_one, decide_eq_true hk, decide_eq_true h, Bool.xor_comm]
  · rename_i h
    rw [decide_eq_false h, Bool.xor_false]
/-- bit by bit, the words are what the nodes are for one assignment -/
theorem wvF_bits {N k : Nat} (hk : k < N) (ins : List Nat) (ns : List Nd) :
    (wvF (2 ^ N - 1) ins ns).1.map (fun v => v.testBit k) = (nv (fun i => (ins.getD i 0).testBit k) ns).1 ∧ (wvF (2 ^ N - 1) ins ns).2 = ins.drop (nv (fun i => (ins.getD i 0).testBit k) ns).2 := by
  induction ns using List.snocRec with
  | nil => exact ⟨rfl, rfl⟩
  | snoc ns x ih =>
    obtain ⟨h1, h2⟩ := ih
    rw [wvF_snoc, nv_snoc]
    unfold wvStep nvStep
    split
    · refine ⟨?_, h2⟩
      simp only [List.map_append, List.map_cons, List.map_nil, h1, Nat.testBit_and, wref_bit hk]
    · split
      · refine ⟨?_, ?_⟩
        · simp only [List.map_append, List.map_cons, List.map_nil, h1, h2]
          congr 2
          rw [List.headD_eq_head?_getD, List.head?_drop, List.getD_eq_getElem?_getD]
        · simp only [h2, List.tail_drop]
      · refine ⟨?_, h2⟩
        simp only [List.map_append, List.map_cons, List.map_nil, h1, Nat.zero_testBit]
theorem wv_bv {N k : Nat} (hk : k < N) (ins : List Nat) (ns : List Nd) (r : Nat) : (wref (2 ^ N - 1) (wvF (2 ^ N - 1) ins ns).1 r).testBit k = bv (fun i => (ins.getD i 0).testBit k) ns r := by
  rw [wref_bit hk, (wvF_bits hk ins ns).1]
  rfl
theorem wref_lt {N : Nat} {vs : List Nat} (h : ∀ v ∈ vs, v < 2 ^ N) (r : Nat) : wref (2 ^ N - 1) vs r < 2 ^ N := by
  have hp : 0 < 2 ^ N := Nat.two_pow_pos N
  have hg : vs.getD (r / 2) 0 < 2 ^ N := by
    rw [List.getD_eq_getElem?_getD]
    cases hq : vs[r / 2]? with
    | none => exact hp
    | some v => exact h v (List.mem_of_getElem? hq)
  unfold wref
  split
  · exact Nat.xor_lt_two_pow (by omega) hg
  · exact hg
theorem wvF_lt {N : Nat} {ins : List Nat} (hi : ∀ v ∈ ins, v < 2 ^ N) (ns : List Nd) : (∀ v ∈ (wvF (2 ^ N - 1) ins ns).1, v < 2 ^ N) ∧ ∀ v ∈ (wvF (2 ^ N - 1) ins ns).2, v < 2 ^ N := by
  have hp : 0 < 2 ^ N := Nat.two_pow_pos N
  induction ns using List.snocRec with
  | nil => exact ⟨by simp [wvF], hi⟩
  | snoc ns x ih =>
    obtain ⟨h1, h2⟩ := ih
    rw [wvF_snoc]
    unfold wvStep
    split
    · refine ⟨fun v hv => ?_, h2⟩
      rcases List.mem_append.1 hv with hv | hv
      · exact h1 v hv
      · rw [List.mem_singleton.1 hv]
        exact Nat.and_lt_two_pow _ (wref_lt h1 _)
    · split
      · refine ⟨fun v hv => ?_, fun v hv => h2 v (List.mem_of_mem_tail hv)⟩
        rcases List.mem_append.1 hv with hv | hv
        · exact h1 v hv
        · rw [List.mem_singleton.1 hv]
          cases hq : (wvF (2 ^ N - 1) ins ns).2 with
          | nil => exact hp
          | cons a l => exact h2 a (by rw [hq]; exact List.mem_cons_self ..)
      · refine ⟨fun v hv => ?_, h2⟩
        rcases List.mem_append.1 hv with hv | hv
        · exact h1 v hv
        · rw [List.mem_singleton.1 hv]; exact hp
/-- how many inputs there are -/
theorem nv_count (env : Nat → Bool) (ns : List Nd) : (nv env ns).2 = (inputs ns).length := by
  have : ∀ (ns : List Nd) (n : Nat), (inputsFrom ns n).length = (ns.filter fun x => x.k == 2).length := by
    intro ns
    induction ns with
    | nil => intro n; rfl
    | cons x ns ih =>
      intro n
      unfold inputsFrom
      split
      · rename_i h; simp [h, ih]
      · rename_i h; simp [h, ih]
  unfold inputs
  rw [this]
  induction ns using List.snocRec with
  | nil => rfl
  | snoc ns x ih =>
    rw [nv_snoc, List.filter_append, List.length_append, ← ih]
    unfold nvStep
    split
    · rename_i h; simp [h]
    · split
      · rename_i h; simp [h]
      · rename_i h; simp [h]
end Go.Aig
namespace Go.Proofs.Ytkedpifopclipaa
open Go.RowKit Go.Mem Go.Aig
def u64s (l : List Nat) : List Value := l.map fun (r : Nat) => .int .u64 r
/-- the words of the four inputs -/
def inWords : List Nat := [43690, 52428, 61680, 65280]
/-- the word of a reference, over the words of the nodes -/
def wv (vs : List Nat) (r : Nat) : Nat := if r % 2 = 1 then vs.getD (r / 2) 0 ^^^ 65535 else vs.getD (r / 2) 0
end Go.Proofs.Ytkedpifopclipaa
namespace Go.Aig
/-- what the program tells of a node -/
theorem node_tells {G : Gra} (h : Ok G) {n : Nat} {x : Nd} (hx : G.nodes[n]? = some x) : kindOf G.nodes ((2 * n : Nat) : Int) = x.k ∧ lOf G.nodes ((2 * n : Nat) : Int) = x.l ∧ rOf G.nodes ((2 * n : Nat) : Int) = x.r ∧ x.k ≤ 3 := by
  have hn : nodeAt G.nodes ((2 * n : Nat) : Int) = some x := by
    unfold nodeAt
    rw [if_pos (by omega), Int.toNat_natCast, show 2 * n / 2 = n by omega, hx]
  unfold kindOf lOf rOf
  rw [hn]
  refine ⟨rfl, ?_, ?_, ?_⟩
  · show (if x.k = 3 then x.l else 0) = x.l
    by_cases h0 : n = 0
    · subst h0; rw [h.wf.const] at hx; cases hx; rfl
    · rcases h.wf.other n x hx (by omega) with e | e
      · rw [e]; rfl
      · rw [if_pos e.1]
  · show (if x.k = 3 then x.r else 0) = x.r
    by_cases h0 : n = 0
    · subst h0; rw [h.wf.const] at hx; cases hx; rfl
    · rcases h.wf.other n x hx (by omega) with e | e
      · rw [e]; rfl
      · rw [if_pos e.1]
  · by_cases h0 : n = 0
    · subst h0; rw [h.wf.const] at hx; cases hx; decide
    · rcases h.wf.other n x hx (by omega) with e | e
      · rw [e]; decide
      · omega
end Go.Aig
namespace Go.Proofs.Ytkedpifopclipaa
open Go.RowKit Go.Mem Go.Aig
section
variable {w : World} {g : Nat} {G : Gra} {F : List Nat}
end
end Go.Proofs.Ytkedpifopclipaa
namespace Go.Proofs.Ytkedpifopclipaa
open Go.RowKit Go.Mem Go.Aig
/-- all bits -/
abbrev U64 : Nat := 18446744073709551615
theorem u64_pow : (2 ^ 64 - 1 : Nat) = U64 := rfl
theorem infoU64 : (Try.prog.info? 183).map (fun i => (i.zero, i.size, i.bytes)) = some (some (.int .u64 0), 1, 8) := by kernel_rfl
theorem slU64s : SliceTy Try.prog 182 183 1 8 (.int .u64 0) := ⟨Try.underlying182, infoU64, rfl, by decide⟩
theorem run_make_u64s (w : World) (n : Nat) (hn : n ≤ 1000000) : (Instr.makeSlice 182 (.int .i64 n) (.int .i64 n)).run Try.prog w = .ok (.slice (some ⟨w.heap.size, 0, none⟩) n n) (w.alloc (.cells (u64s (List.replicate n 0)).toArray 183)) := by
  obtain ⟨i, hi, hz, hs, hb⟩ := info_parts infoU64
  have := run_make (P := Try.prog) w 182 183 i (.int .u64 0) Try.underlying182 hi hz .i64 .i64 n n (by omega) (by omega) (by rw [hb]; omega) (by omega)
  rw [this, hs]
  have e : madeCells (Value.int .u64 0).cells ((n : Int).toNat * 1) = (u64s (List.replicate n 0)).toArray := by
    apply Array.ext'
    have h := toList_madeCells_one (Value.int .u64 0) ((n : Int).toNat * 1)
    simpa [u64s, Value.cells] using h
  rw [e]; simp
theorem u64s_get {l : List Nat} {i v : Nat} (h : l[i]? = some v) : (u64s l)[i]? = some (.int .u64 v) := by simp [u64s, h]
section
variable {w : World}
set_option maxRecDepth 100000 in
set_option maxHeartbeats 2000000 in
theorem simof1_is {bx nb n c : Nat} {vs : List Nat} (hb : w.cell? ⟨bx, 0, none⟩ = some (.slice (some ⟨nb, 0, none⟩) n c)) (hk : blk w nb (u64s vs)) (hn : vs.length = n) (hlt : ∀ v ∈ vs, v < 2 ^ 64) (r : Nat) (hr : r < 2 * n) (hr2 : r ≤ 1000000) :
    Calls Try.prog 203 #[.int .i64 r, .pointer (some ⟨bx, 0, none⟩)] w fun e w' => e = .returned (.int .u64 (wref U64 vs r)) ∧ w = w' := by
  have hg : vs[r / 2]? = some vs[r / 2] := List.getElem?_eq_getElem (by omega)
  have hx := hlt _ (List.getElem_mem (show r / 2 < vs.length by omega))
  have c0 : w.cell? ⟨nb, r / 2, none⟩ = some (.int .u64 vs[r / 2]) := hk.cell (u64s_get hg)
  have hv : wref U64 vs r = if r % 2 = 1 then U64 ^^^ vs[r / 2] else vs[r / 2] := by unfold wref; rw [List.getD_eq_getElem?_getD, hg]; rfl
  rw [hv]
  generalize vs[r / 2] = x at *
  clear hg hk hlt hv
  by_cases h1 : r % 2 = 1
  · rw [if_pos h1]
    have hbb : ((r : Int) % 2 == 1) = true := by simp; omega
    have hnx := bits_xor_u64_nat U64 x (by decide) (by omega)
    have H1 := Lib.hid h1; clear h1
    have HNX := Lib.hid hnx; clear hnx
    have HN := Lib.hid hn; clear hn
    go_enter Try.func203, Try.ntmps203
    go_wp2_with fail
    go_ret
    exact ⟨ret_int (by first | exact HNX.out | (rw [show IntKind.u64.max = ((U64 : Nat) : Int) from by decide]; exact HNX.out)), rfl⟩
  · rw [if_neg h1]
    have hbb : ((r : Int) % 2 == 1) = false := by simp; omega
    have H1 := Lib.hid h1; clear h1
    have HN := Lib.hid hn; clear hn
    go_enter Try.func203, Try.ntmps203
    go_wp2_with fail
    go_ret
    exact ⟨rfl, rfl⟩
theorem fnvsimof1 : Fnv 203 := fnv_of Try.func203 (by simp [Try.f203]) (by simp [Try.f203])
set_option maxRecDepth 100000 in
set_option maxHeartbeats 400000 in
theorem simof_is (a : Option Addr) (n c : Nat) : Calls Try.prog 173 #[.slice a n c] w fun e w' => e = .returned (.func (.func 203) #[] #[.pointer (some ⟨w.heap.size, 0, none⟩)]) ∧ w' = w.alloc (.cells #[.slice a n c] 182) := by
  go_enter Try.func173, Try.ntmps173
  go_wp2_with fail
  go_ret
  exact ⟨rfl, rfl⟩
theorem isAnd_at {G : Gra} (hG : Ok G) {n : Nat} {x : Nd} (hx : G.nodes[n]? = some x) : isAndAt G.nodes ((2 * n : Nat) : Int) = (x.k == 3) := by
  have := (node_tells hG hx).1
  unfold isAndAt
  rw [this]
theorem Sv.ch2 {F : List Nat} {w w' : World} {a : Option Addr} {xs : List Value} (h : Sv w a xs) (hc : Ch F w w') (hF : 0 < xs.length → ∀ p, a = some p → p.block ∉ F) : Sv w' a xs :=
  ⟨fun i x hx => by
    obtain ⟨b, o, rfl, hcell⟩ := h.cells i x hx
    have hlt := (List.getElem?_eq_some_iff.1 hx).1
    exact ⟨b, o, rfl, (hc.cell (p := ⟨b, o + i, none⟩) (cell_lt hcell) (hF (by omega) ⟨b, o, none⟩ rfl)).trans hcell⟩, h.bd⟩
theorem u64s_len (l : List Nat) : (u64s l).length = l.length := by simp [u64s]
theorem set_mid (L : List Nat) (m v : Nat) (hm : 0 < m) : (u64s (L ++ List.replicate m 0)).set L.length (.int .u64 v) = u64s ((L ++ [v]) ++ List.replicate (m - 1) 0) := by
  obtain ⟨k, rfl⟩ : ∃ k, m = k + 1 := ⟨m - 1, by omega⟩
  unfold u64s
  rw [List.map_append, List.set_append_right _ _ (by simp)]
  simp [List.replicate_succ]
theorem set_zero (L : List Nat) (m : Nat) (hm : 0 < m) : u64s (L ++ List.replicate m 0) = u64s ((L ++ [0]) ++ List.replicate (m - 1) 0) := by
  obtain ⟨k, rfl⟩ : ∃ k, m = k + 1 := ⟨m - 1, by omega⟩
  simp [u64s, List.replicate_succ]
set_option maxRecDepth 100000 in
set_option maxHeartbeats 8000000 in
theorem simnodes_is {g : Nat} {G : Gra} {F : List Nat} (h : GIn w g G F) {xa : Option Addr} {ins : List Nat} (xc : Nat) (hS : Sv w xa (u64s ins)) (hi : (inputs G.nodes).length = ins.length) (hlt : ∀ v ∈ ins, v < 2 ^ 64) (hcap : ins.length ≤ xc) (hxc : xc ≤ 9223372036854775807) :
    Calls Try.prog 174 #[.pointer (some ⟨g, 0, none⟩), .slice xa ins.length xc] w fun e w' => e = .returned (.slice (some ⟨w.heap.size, 0, none⟩) G.nodes.length G.nodes.length) ∧ blk w' w.heap.size (u64s (wvF U64 ins G.nodes).1) ∧ Ch [] w w' := by
  have hok := h.ok
  have hroom := hok.room
  have hmost := hok.most
  obtain ⟨N, hN⟩ : ∃ N, N = G.nodes.length := ⟨_, rfl⟩
  have hN0 : N ≤ 65536 := by omega
  have hLen := Len_g h
  rw [← hN] at hLen ⊢
  have hE0 : wvF U64 ins (G.nodes.take 0) = ([], ins) := rfl
  have hEn : wvF U64 ins (G.nodes.take N) = wvF U64 ins G.nodes := by rw [List.take_of_length_le (by omega)]
  have hEs : ∀ (k : Nat) (x : Nd), G.nodes[k]? = some x → wvF U64 ins (G.nodes.take (k + 1)) = wvStep U64 (wvF U64 ins (G.nodes.take k)) x := fun k x hx => by
    rw [List.take_add_one, hx]; exact wvF_snoc _ _ _ _
  have hEl : ∀ k, k ≤ N → (wvF U64 ins (G.nodes.take k)).1.length = k := fun k hk => by rw [wvF_len, List.length_take]; omega
  have hEb := fun k => wvF_lt (N := 64) hlt (G.nodes.take k)
  rw [u64_pow] at hEb
  have hE2 : ∀ (k : Nat) (x : Nd), G.nodes[k]? = some x → x.k = 2 → 0 < (wvF U64 ins (G.nodes.take k)).2.length := fun k x hx hk2 => by
    have h1 := (wvF_bits (N := 64) (k := 0) (by omega) ins (G.nodes.take k)).2
    rw [u64_pow] at h1
    rw [h1, nv_count, List.length_drop]
    have hsp := split_at hx
    have h2 : (inputs (G.nodes.take (k + 1))).length = (inputs (G.nodes.take k)).length + 1 := by
      rw [List.take_add_one, hx]
      rw [show (some x).toList = [x] from rfl, inputs_input hk2, List.length_append]; rfl
    have h3 : (inputs (G.nodes.take (k + 1))).length ≤ (inputs G.nodes).length := by
      rw [← nv_count (fun _ => false), ← nv_count (fun _ => false)]
      have : ∀ (ms ns : List Nd), (nv (fun _ => false) ns).2 ≤ (nv (fun _ => false) (ns ++ ms)).2 := by
        intro ms
        induction ms with
        | nil => intro ns; simp
        | cons y ms ih =>
          intro ns
          rw [List.append_cons]
          refine Nat.le_trans ?_ (ih (ns ++ [y]))
          rw [nv_snoc]; unfold nvStep
          (repeat' split) <;> simp
      conv => rhs; rw [← List.take_append_drop (k + 1) G.nodes]
      exact this _ _
    omega
  obtain ⟨E, hE⟩ : ∃ E : Nat → List Nat × List Nat, E = fun k => wvF U64 ins (G.nodes.take k) := ⟨_, rfl⟩
  have hEk : ∀ k, wvF U64 ins (G.nodes.take k) = E k := fun k => by rw [hE]
  simp only [hEk] at hE0 hEn hEs hEl hEb hE2
  rw [← hEn]
  clear hE hEk hEn
  have hmk := run_make_u64s w N (by omega)
  have hnt : ∀ (k : Nat) (x : Nd), G.nodes[k]? = some x → kindOf G.nodes (2 * (k : Int)) = x.k ∧ lOf G.nodes (2 * (k : Int)) = x.l ∧ rOf G.nodes (2 * (k : Int)) = x.r ∧ isAndAt G.nodes (2 * (k : Int)) = (x.k == 3) ∧ x.k ≤ 3 := fun k x hx => by
    obtain ⟨a1, a2, a3, a4⟩ := node_tells hok hx
    have a5 := isAnd_at hok hx
    rw [show ((2 * k : Nat) : Int) = 2 * (k : Int) by omega] at a1 a2 a3 a5
    exact ⟨a1, a2, a3, a5, a4⟩
  have hwf := hok.wf
  have HWF := Lib.hid hwf; clear hwf
  have HNT := Lib.hid hnt; clear hnt
  have H := Lib.hid h; clear h
  have HS := Lib.hid hS; clear hS
  have HE0 := Lib.hid hE0; clear hE0
  have HES := Lib.hid hEs; clear hEs
  have HEL := Lib.hid hEl; clear hEl
  have HEB := Lib.hid hEb; clear hEb
  have HE2 := Lib.hid hE2; clear hE2
  have HN := Lib.hid hN; clear hN hi hlt
  have hcf : ∀ args w, (callFunc 203 args).run Try.prog w = .ok (.enter 203 args) w := fnvsimof1
  go_enter Try.func174, Try.ntmps174
  go_wp2_with fail
  refine hLen.mono ?_
  rintro e w' ⟨rfl, rfl⟩
  go_upto_region 2 with fail
  refine wp_alw ?_
  intro W1 hW1
  have hbo : blk W1 w.heap.size (u64s (List.replicate N 0)) := by rw [hW1]; exact blk.new' _ _ rfl
  have hc1 : Ch [] w W1 := by rw [hW1]; exact (Ch.refl _ _).alloc _
  have hz1 : W1.heap.size = w.heap.size + 1 := by rw [hW1]; simp
  clear hW1 hmk hLen
  have hOf := simof_is (w := W1) (some ⟨w.heap.size, 0, none⟩) N N
  have HOF := Lib.hid hOf; clear hOf
  have HBO := Lib.hid hbo; clear hbo
  have HC1 := Lib.hid hc1; clear hc1
  go_wp2_with fail
  refine HOF.out.mono ?_
  rintro e W2 ⟨rfl, hW2⟩
  have hbx := alw_blk (xs := [.slice (some ⟨w.heap.size, 0, none⟩) N N]) hW2
  have hc2 := HC1.out.trans (alw_ch hW2) (by simp)
  have hbo := HBO.out.ch (alw_ch hW2) (by simp)
  clear hW2 HBO HC1 HOF
  rw [hz1] at hbx
  simp only [hz1]
  clear hz1
  have HBX := Lib.hid hbx; clear hbx
  have HBO := Lib.hid hbo; clear hbo
  have HC2 := Lib.hid hc2; clear hc2
  go_wp2_with fail
  go_loopw [1, 19] (fun u i wr => ∃ (k : Nat) (xk : Option Addr) (ck : Nat), k ≤ N ∧ i = .int .i64 k ∧ u = .slice xk (E k).2.length ck ∧ (E k).2.length ≤ ck ∧ ck ≤ 9223372036854775807 ∧ Sv wr xk (u64s (E k).2) ∧ blk wr w.heap.size (u64s ((E k).1 ++ List.replicate (N - k) 0)) ∧ blk wr (w.heap.size + 1) [.slice (some ⟨w.heap.size, 0, none⟩) N N] ∧ Ch [] w wr ∧ (∀ p, xk = some p → 0 < (E k).2.length → p.block < w.heap.size)) (fun _ i _ => N - (intOf i).toNat)
  case atStart =>
    refine ⟨0, xa, xc, by omega, rfl, by rw [HE0.out], by rw [HE0.out]; exact hcap, hxc, by rw [HE0.out]; exact HS.out.ch HC2.out (by simp), by rw [HE0.out]; exact HBO.out, HBX.out, HC2.out, fun p hp h0 => ?_⟩
    rw [HE0.out] at h0
    obtain ⟨b, o, e, hc⟩ := HS.out.cells 0 _ (List.getElem?_eq_getElem (show 0 < (u64s ins).length by simpa [u64s] using h0))
    rw [hp] at e; cases e
    exact cell_lt hc
  case round =>
    clear HBX HBO HC2
    obtain ⟨k, xk, ck, hk, rfl, rfl, hck, hck2, hsv, hbo, hbx, hc, hlo⟩ := hrel
    by_cases hkn : k < N
    · obtain ⟨x, hx⟩ : ∃ x, G.nodes[k]? = some x := ⟨_, List.getElem?_eq_getElem (by rw [← HN.out]; exact hkn)⟩
      obtain ⟨t1, t2, t3, t4, t5⟩ := HNT.out k x hx
      have hes := HES.out k x hx
      have hel := HEL.out k hk
      have heb := HEB.out k
      have he2 := HE2.out k x hx
      have hsides : x.k = 3 → x.l < 2 * k ∧ x.r < 2 * k := fun e => by have := HWF.out.sides hx e; omega
      have hg := H.out.same hc (by simp)
      have hSd := Sides_g hg (2 * (k : Int)) (by omega)
      rw [t2, t3, t4] at hSd
      generalize hEE : E (k + 1) = EN at hes
      generalize E k = ES at hes hel heb he2 hck hsv hbo hlo ⊢
      obtain ⟨L, I⟩ := ES
      simp only at hel heb he2 hck hsv hbo hlo ⊢
      unfold wvStep at hes
      have HSD := Lib.hid hSd; clear hSd
      have HG := Lib.hid hg; clear hg
      have HSV := Lib.hid hsv; clear hsv
      have HLO := Lib.hid hlo; clear hlo
      have HBO := Lib.hid hbo; clear hbo
      have HBX := Lib.hid hbx; clear hbx
      have HEL' := Lib.hid hel; clear hel
      have HEB' := Lib.hid heb; clear heb
      have HC := Lib.hid hc; clear hc
      by_cases h3 : x.k = 3
      · rw [if_pos h3] at hes
        subst hes
        obtain ⟨hl, hr⟩ := hsides h3
        have h33 : (x.k == 3) = true := by rw [h3]; rfl
        rw [h33] at HSD
        have HEE := Lib.hid hEE; clear hEE
        clear t1 t2 t3 t4 t5 h3 h33 he2 hsides hx
        generalize x.l = a at *
        generalize x.r = b at *
        go_wp2_with fail
        refine HSD.out.mono ?_
        rintro e w3 ⟨rfl, hc3⟩
        have hbo := HBO.out.ch hc3 (by simp)
        have hbx := HBX.out.ch hc3 (by simp)
        have hlen : (L ++ List.replicate (N - k) 0).length = N := by rw [List.length_append, List.length_replicate, HEL'.out]; omega
        have hbd : ∀ v ∈ L ++ List.replicate (N - k) 0, v < 2 ^ 64 := fun v hv => by
          rcases List.mem_append.1 hv with hv | hv
          · exact HEB'.out.1 v hv
          · rw [(List.mem_replicate.1 hv).2]; omega
        have hA := simof1_is (hbx.cell (i := 0) rfl) hbo hlen hbd a (by omega) (by omega)
        have hB := simof1_is (hbx.cell (i := 0) rfl) hbo hlen hbd b (by omega) (by omega)
        rw [wref_ext (by rw [HEL'.out]; exact hl)] at hA
        rw [wref_ext (by rw [HEL'.out]; exact hr)] at hB
        have hwa := wref_lt (N := 64) HEB'.out.1 a
        have hwb := wref_lt (N := 64) HEB'.out.1 b
        rw [u64_pow] at hwa hwb
        have hand := bits_and_u64_nat (wref U64 L a) (wref U64 L b) hwa hwb
        generalize hva : wref U64 L a = va at *
        generalize hvb : wref U64 L b = vb at *
        have f0 := hbo.frozen (i := k)
        obtain ⟨old, c0⟩ : ∃ old, w3.cell? ⟨w.heap.size, k, none⟩ = some old := ⟨_, hbo.cell (List.getElem?_eq_getElem (show k < (u64s (L ++ List.replicate (N - k) 0)).length by rw [u64s_len, hlen]; exact hkn))⟩
        have hlt0 := hbo.lt
        have HA := Lib.hid hA; clear hA
        have HB := Lib.hid hB; clear hB
        have HBO3 := Lib.hid hbo; clear hbo HBO
        have HBX3 := Lib.hid hbx; clear hbx HBX
        have HC3 := Lib.hid (HC.out.trans hc3 (by simp)); clear HC HSD
        have HC13 := Lib.hid hc3; clear hc3
        clear hva hvb hwa hwb hlen hbd
        go_wp2_with fail
        refine HA.out.mono ?_
        rintro e w' ⟨rfl, rfl⟩
        go_wp2_with fail
        refine HB.out.mono ?_
        rintro e w' ⟨rfl, rfl⟩
        go_wp2_with fail
        go_roundw
        case rel =>
          have hcs : Ch [w.heap.size] w3 (w3.setCell ⟨w.heap.size, k, none⟩ (.int .u64 (va &&& vb : Nat))) := (Ch.refl _ _).setCell (.inl (by simp)) _
          have hset := HBO3.out.set (i := k) (.int .u64 (va &&& vb : Nat))
          rw [show k = L.length from HEL'.out.symm, set_mid L (N - L.length) _ (by rw [HEL'.out]; omega), HEL'.out] at hset
          exact ⟨k + 1, xk, ck, by omega, by go_num, by rw [HEE.out], by rw [HEE.out]; exact hck, hck2, by rw [HEE.out]; exact (HSV.out.ch HC13.out (by simp)).ch2 hcs (fun h0 p hp hin => by rw [u64s_len] at h0; have := HLO.out p hp h0; have := List.mem_singleton.1 hin; omega), by rw [HEE.out, show N - (k + 1) = N - k - 1 by omega]; exact hset, HBX3.out.ch hcs (by simp), HC3.out.trans hcs (fun q hq => .inr (by have := List.mem_singleton.1 hq; omega)), fun p hp h0 => HLO.out p hp (by rw [HEE.out] at h0; exact h0)⟩
        case measure => simp [intOf]; omega
      · rw [if_neg h3] at hes
        have h33 : (x.k == 3) = false := by rw [beq_eq_false_iff_ne]; exact h3
        rw [h33] at HSD
        have hKd := fun (W : World) (hW : Ch [] wr W) => Kind_g (HG.out.same hW (by simp)) (2 * (k : Int)) (by omega)
        rw [t1] at hKd
        have HKD := Lib.hid hKd; clear hKd
        by_cases h2 : x.k = 2
        · rw [if_pos h2] at hes
          subst hes
          have hI := he2 h2
          rw [h2] at HKD
          have HEE := Lib.hid hEE; clear hEE
          clear t1 t2 t3 t4 t5 h3 h33 he2 hsides hx h2
          obtain ⟨v0, I', rfl⟩ : ∃ v0 I', I = v0 :: I' := by
            cases I with
            | nil => simp at hI
            | cons a l => exact ⟨a, l, rfl⟩
          obtain ⟨xb, xo, rfl, hcx⟩ := HSV.out.cells 0 (.int .u64 v0) rfl
          have hv0 := HEB'.out.2 v0 (List.mem_cons_self ..)
          have hxlo := HLO.out _ rfl hI
          simp only [List.length_cons] at hck hI
          go_wp2_with fail
          refine HSD.out.mono ?_
          rintro e w3 ⟨rfl, hc3⟩
          have hKd := HKD.out w3 hc3
          have HC13 := Lib.hid hc3; clear hc3 HSD
          have HKD3 := Lib.hid hKd; clear hKd HKD
          go_wp2_with fail
          refine HKD3.out.mono ?_
          rintro e w' ⟨rfl, rfl⟩
          have hbo := HBO.out.ch HC13.out (by simp)
          have hbx := HBX.out.ch HC13.out (by simp)
          have hlen : (L ++ List.replicate (N - k) 0).length = N := by rw [List.length_append, List.length_replicate, HEL'.out]; omega
          have c0 := (HC13.out.cell (cell_lt hcx) (by simp)).trans hcx
          rw [Nat.add_zero] at c0
          have f0 := hbo.frozen (i := k)
          obtain ⟨old, d0⟩ : ∃ old, w3.cell? ⟨w.heap.size, k, none⟩ = some old := ⟨_, hbo.cell (List.getElem?_eq_getElem (show k < (u64s (L ++ List.replicate (N - k) 0)).length by rw [u64s_len, hlen]; exact hkn))⟩
          have hlt0 := hbo.lt
          have HBO3 := Lib.hid hbo; clear hbo HBO
          have HBX3 := Lib.hid hbx; clear hbx HBX
          have HC3 := Lib.hid (HC.out.trans HC13.out (by simp)); clear HC
          clear hlen hcx
          by_cases hc1 : ck = 1
          · subst hc1
            have hI0 : I'.length = 0 := by omega
            obtain rfl : I' = [] := List.eq_nil_of_length_eq_zero hI0
            clear hI0
            go_wp2_with fail
            refine Ord.St.door (fun _ => True) [.fl, .fl, .fl, .fl, .rd, .fl, .fl, .fl, .ef, .fl] [0, 0, 0, 4, 12, 0, 32, 31, 159, 511] [0, 1, 2, 3, 4, 5, 6, 7, 8, 9] mixed (by kernel_rfl) rfl ?_
            refine Ord.St.fl2 (T' := ?_) 0 [1, 2, 3, 4, 5, 6, 7, 8, 9] _ _ rfl (by kernel_rfl) rfl rfl rfl rfl (fun K w' hk => ?_) ?_
            rotate_left
            · go_step; exact hk
            refine Ord.St.fl2 (T' := ?_) 1 [2, 3, 4, 5, 6, 7, 8, 9] _ _ rfl (by kernel_rfl) rfl rfl rfl rfl (fun K w' hk => ?_) ?_
            rotate_left
            · go_step; exact hk
            refine Ord.St.fl2 (T' := ?_) 2 [3, 4, 5, 6, 7, 8, 9] _ _ rfl (by kernel_rfl) rfl rfl rfl rfl (fun K w' hk => ?_) ?_
            rotate_left
            · go_step; exact hk
            refine Ord.St.fl2 (T' := ?_) 3 [4, 5, 6, 7, 8, 9] _ _ rfl (by kernel_rfl) rfl rfl rfl rfl (fun K w' hk => ?_) ?_
            rotate_left
            · go_step; exact hk
            refine Ord.St.rd2 (T' := ?_) 4 [5, 6, 7, 8, 9] _ _ rfl (by kernel_rfl) rfl rfl rfl rfl (fun K hk => ?_) ?_
            rotate_left
            · go_step; exact hk
            refine Ord.St.fl2 (T' := ?_) 5 [6, 7, 8, 9] _ _ rfl (by kernel_rfl) rfl rfl rfl rfl (fun K w' hk => ?_) ?_
            rotate_left
            · go_step; exact hk
            refine Ord.St.fl2 (T' := ?_) 6 [7, 8, 9] _ _ rfl (by kernel_rfl) rfl rfl rfl rfl (fun K w' hk => ?_) ?_
            rotate_left
            · go_step; exact hk
            refine Ord.St.fl2 (T' := ?_) 7 [8, 9] _ _ rfl (by kernel_rfl) rfl rfl rfl rfl (fun K w' hk => ?_) ?_
            rotate_left
            · go_step; exact hk
            refine Ord.St.ef 8 [9] _ rfl (by kernel_rfl) (fun K hK => ?_)
            go_wp2_with fail
            refine ⟨rfl, hK _ _ ?_⟩; clear hK K
            refine Ord.St.fl2 (T' := ?_) 9 [] _ _ rfl (by kernel_rfl) rfl rfl rfl rfl (fun K w' hk => ?_) ?_
            rotate_left
            · go_step; exact hk
            refine Ord.St.nil ?_
            go_wp2_with fail
            go_roundw
            case rel =>
              have hcd : Ch [] w3 w3.drew := (Ch.refl [] w3).drew
              have hcs : Ch [w.heap.size] w3.drew (w3.drew.setCell ⟨w.heap.size, k, none⟩ (.int .u64 v0)) := (Ch.refl _ _).setCell (.inl (by simp)) _
              have hset := (HBO3.out.ch hcd (by simp)).set (i := k) (.int .u64 v0)
              rw [show k = L.length from HEL'.out.symm, set_mid L (N - L.length) _ (by rw [HEL'.out]; omega), HEL'.out] at hset
              have hsv := ((HSV.out.ch HC13.out (by simp)).ch hcd (by simp)).ch2 hcs (fun _ p hp hin => by cases hp; have := List.mem_singleton.1 hin; simp only at hxlo this; omega)
              have hsv2 : Sv (w3.drew.setCell ⟨w.heap.size, k, none⟩ (.int .u64 v0)) (some ⟨xb, xo, none⟩) (u64s []) := ⟨by simp [u64s], by simp [u64s]⟩
              exact ⟨k + 1, some ⟨xb, xo, none⟩, 0, by omega, by go_num, by rw [HEE.out]; rfl, by rw [HEE.out]; show ([] : List Nat).length ≤ 0; simp, by omega, by rw [HEE.out]; exact hsv2, by rw [HEE.out, show N - (k + 1) = N - k - 1 by omega]; exact hset, (HBX3.out.ch hcd (by simp)).ch hcs (by simp), (HC3.out.trans hcd (by simp)).trans hcs (fun q hq => .inr (by have := List.mem_singleton.1 hq; omega)), fun p hp h0 => by rw [HEE.out] at h0; simp at h0⟩
            case measure => simp [intOf]; omega
          · have hck1 : 1 < ck := by omega
            have hcki : (ck : Int) - 1 = ((ck - 1 : Nat) : Int) := by omega
            go_wp2_with fail
            refine Ord.St.door (fun _ => True) [.fl, .fl, .fl, .fl, .rd, .fl, .fl, .fl, .ef, .fl] [0, 0, 0, 4, 12, 0, 32, 31, 159, 511] [0, 1, 2, 3, 4, 5, 6, 7, 8, 9] mixed (by kernel_rfl) rfl ?_
            refine Ord.St.fl2 (T' := ?_) 0 [1, 2, 3, 4, 5, 6, 7, 8, 9] _ _ rfl (by kernel_rfl) rfl rfl rfl rfl (fun K w' hk => ?_) ?_
            rotate_left
            · go_step; exact hk
            refine Ord.St.fl2 (T' := ?_) 1 [2, 3, 4, 5, 6, 7, 8, 9] _ _ rfl (by kernel_rfl) rfl rfl rfl rfl (fun K w' hk => ?_) ?_
            rotate_left
            · go_step; exact hk
            refine Ord.St.fl2 (T' := ?_) 2 [3, 4, 5, 6, 7, 8, 9] _ _ rfl (by kernel_rfl) rfl rfl rfl rfl (fun K w' hk => ?_) ?_
            rotate_left
            · go_step; exact hk
            refine Ord.St.fl2 (T' := ?_) 3 [4, 5, 6, 7, 8, 9] _ _ rfl (by kernel_rfl) rfl rfl rfl rfl (fun K w' hk => ?_) ?_
            rotate_left
            · go_step; exact hk
            refine Ord.St.rd2 (T' := ?_) 4 [5, 6, 7, 8, 9] _ _ rfl (by kernel_rfl) rfl rfl rfl rfl (fun K hk => ?_) ?_
            rotate_left
            · go_step; exact hk
            refine Ord.St.fl2 (T' := ?_) 5 [6, 7, 8, 9] _ _ rfl (by kernel_rfl) rfl rfl rfl rfl (fun K w' hk => ?_) ?_
            rotate_left
            · go_step; exact hk
            refine Ord.St.fl2 (T' := ?_) 6 [7, 8, 9] _ _ rfl (by kernel_rfl) rfl rfl rfl rfl (fun K w' hk => ?_) ?_
            rotate_left
            · go_step; exact hk
            refine Ord.St.fl2 (T' := ?_) 7 [8, 9] _ _ rfl (by kernel_rfl) rfl rfl rfl rfl (fun K w' hk => ?_) ?_
            rotate_left
            · go_step; exact hk
            refine Ord.St.ef 8 [9] _ rfl (by kernel_rfl) (fun K hK => ?_)
            go_wp2_with fail
            refine ⟨rfl, hK _ _ ?_⟩; clear hK K
            refine Ord.St.fl2 (T' := ?_) 9 [] _ _ rfl (by kernel_rfl) rfl rfl rfl rfl (fun K w' hk => ?_) ?_
            rotate_left
            · go_step; exact hk
            refine Ord.St.nil ?_
            go_wp2_with fail
            go_roundw
            case rel =>
              have hcd : Ch [] w3 w3.drew := (Ch.refl [] w3).drew
              have hcs : Ch [w.heap.size] w3.drew (w3.drew.setCell ⟨w.heap.size, k, none⟩ (.int .u64 v0)) := (Ch.refl _ _).setCell (.inl (by simp)) _
              have hset := (HBO3.out.ch hcd (by simp)).set (i := k) (.int .u64 v0)
              rw [show k = L.length from HEL'.out.symm, set_mid L (N - L.length) _ (by rw [HEL'.out]; omega), HEL'.out] at hset
              have hsv := ((HSV.out.ch HC13.out (by simp)).ch hcd (by simp)).ch2 hcs (fun _ p hp hin => by cases hp; have := List.mem_singleton.1 hin; simp only at hxlo this; omega)
              have hsv2 : Sv (w3.drew.setCell ⟨w.heap.size, k, none⟩ (.int .u64 v0)) (some ⟨xb, xo + 1, none⟩) (u64s I') := ⟨fun i x hx => by
                obtain ⟨b9, o9, e9, hc9⟩ := hsv.cells (i + 1) x (by simpa [u64s] using hx)
                cases e9
                exact ⟨_, _, rfl, by rw [show xo + 1 + i = xo + (i + 1) by omega]; exact hc9⟩, by have := hsv.bd; simp [u64s] at this ⊢; omega⟩
              exact ⟨k + 1, some ⟨xb, xo + 1, none⟩, ck - 1, by omega, by go_num, by rw [HEE.out]; rfl, by rw [HEE.out]; show I'.length ≤ _; omega, by omega, by rw [HEE.out]; exact hsv2, by rw [HEE.out, show N - (k + 1) = N - k - 1 by omega]; exact hset, (HBX3.out.ch hcd (by simp)).ch hcs (by simp), (HC3.out.trans hcd (by simp)).trans hcs (fun q hq => .inr (by have := List.mem_singleton.1 hq; omega)), fun p hp h0 => by cases hp; exact hxlo⟩
            case measure => simp [intOf]; omega
        · rw [if_neg h2] at hes
          subst hes
          have h22 : ((x.k : Int) == 2) = false := by rw [beq_eq_false_iff_ne]; omega
          have HEE := Lib.hid hEE; clear hEE
          clear t1 t2 t3 t4 h3 h33 he2 hsides hx h2
          generalize x.k = xkk at *
          go_wp2_with fail
          refine HSD.out.mono ?_
          rintro e w3 ⟨rfl, hc3⟩
          have hKd := HKD.out w3 hc3
          have HC13 := Lib.hid hc3; clear hc3 HSD
          have HKD3 := Lib.hid hKd; clear hKd HKD
          go_wp2_with fail
          refine HKD3.out.mono ?_
          rintro e w' ⟨rfl, rfl⟩
          go_wp2_with fail
          go_roundw
          case rel =>
            have hset := HBO.out.ch HC13.out (by simp)
            rw [show N - k = N - L.length by rw [HEL'.out], set_zero L (N - L.length) (by rw [HEL'.out]; omega), HEL'.out] at hset
            exact ⟨k + 1, xk, ck, by omega, by go_num, by rw [HEE.out], by rw [HEE.out]; exact hck, hck2, by rw [HEE.out]; exact HSV.out.ch HC13.out (by simp), by rw [HEE.out, show N - (k + 1) = N - k - 1 by omega]; exact hset, HBX.out.ch HC13.out (by simp), HC.out.trans HC13.out (by simp), fun p hp h0 => HLO.out p hp (by rw [HEE.out] at h0; exact h0)⟩
          case measure => simp [intOf]; omega
    · have hkN : k = N := by omega
      have hbo2 : blk wr w.heap.size (u64s (E N).1) := by
        have := hbo
        rw [hkN, Nat.sub_self, List.replicate_zero, List.append_nil] at this
        exact this
      have HBO2 := Lib.hid hbo2; clear hbo2 hbo hbx hsv hlo
      have HC := Lib.hid hc; clear hc
      go_wp2_with fail
      go_ret
      exact ⟨rfl, HBO2.out, HC.out⟩
end
end Go.Proofs.Ytkedpifopclipaa
namespace Go.Aig
/-- what a word of references is, for words of the inputs -/
def wsOf (ins : List Nat) (ns : List Nd) (l : List Nat) : List Nat := l.map (wref 18446744073709551615 (wvF 18446744073709551615 ins ns).1)
/-- what a word of references is, for an assignment -/
def bsOf (ins : List Bool) (ns : List Nd) (l : List Nat) : List Bool := l.map (bv (fun i => ins.getD i false) ns)
def wOf (l : List Bool) : List Nat := l.map fun b => if b then 1 else 0
theorem wOf_bit (l : List Bool) : (fun i => ((wOf l).getD i 0).testBit 0) = fun i => l.getD i false := by
  funext i
  unfold wOf
  rw [List.getD_eq_getElem?_getD, List.getD_eq_getElem?_getD, List.getElem?_map]
  cases l[i]? with
  | none => rfl
  | some b => cases b <;> rfl
theorem wsOf_bits (ins : List Bool) (ns : List Nd) (l : List Nat) : (wsOf (wOf ins) ns l).map (fun v => v.testBit 0) = bsOf ins ns l := by
  unfold wsOf bsOf
  rw [List.map_map]
  apply List.map_congr_left
  intro r _
  have := wv_bv (N := 64) (k := 0) (by omega) (wOf ins) ns r
  rw [wOf_bit] at this
  exact this
theorem wOf_lt (l : List Bool) : ∀ v ∈ wOf l, v < 2 ^ 64 := fun v hv => by
  obtain ⟨b, _, rfl⟩ := List.mem_map.1 hv
  cases b <;> decide
theorem wsOf_lt {ins : List Nat} (h : ∀ v ∈ ins, v < 2 ^ 64) (ns : List Nd) (l : List Nat) : ∀ v ∈ wsOf ins ns l, v < 2 ^ 64 := fun v hv => by
  obtain ⟨r, _, rfl⟩ := List.mem_map.1 hv
  exact wref_lt (N := 64) (wvF_lt (N := 64) h ns).1 r
end Go.Aig
namespace Go.Proofs.Ytkedpifopclipaa
open Go.RowKit Go.Mem Go.Aig
section
variable {w : World} {g : Nat} {G : Gra} {F : List Nat}
theorem fnvsimcheck1 : Fnv 175 := fnv_of Try.func175 (by simp [Try.f175]) (by simp [Try.f175])
set_option maxRecDepth 100000 in
set_option maxHeartbeats 1000000 in
theorem simcheck1_is (h : GIn w g G F) {bx : Nat} (hb : w.cell? ⟨bx, 0, none⟩ = some (.pointer (some ⟨g, 0, none⟩))) (r : Int) (hr : r ≤ 9223372036854775807) :
    Calls Try.prog 175 (#[.int .i64 r] ++ #[.pointer (some ⟨bx, 0, none⟩)]) w fun e w' => e = .returned (.bool (!right G.nodes r)) ∧ w = w' := by
  show Calls Try.prog 175 #[.int .i64 r, .pointer (some ⟨bx, 0, none⟩)] w _
  have HR := Right_g h r hr
  clear h
  generalize right G.nodes r = q at *
  go_enter Try.func175, Try.ntmps175
  go_wp2_with fail
  refine HR.mono ?_
  rintro e w' ⟨rfl, rfl⟩
  go_wp2_with fail
  go_ret
  exact ⟨ret_bool rfl, rfl⟩
set_option maxRecDepth 100000 in
set_option maxHeartbeats 2000000 in
theorem simcheck_is (h : GIn w g G F) {a : Option Addr} {l : List Int} (n c : Nat) (hn : l.length = n) (hS : Sl w a l) (hbd : ∀ r ∈ l, r ≤ 9223372036854775807) :
    Calls Try.prog 110 #[.pointer (some ⟨g, 0, none⟩), .slice a n c] w fun e w' => e = .returned (.int .i64 (if badIn G l then 200 else 0 : Nat)) ∧ Ch [] w w' := by
  subst hn
  have hpos := h.ok.wf.pos
  have hp0 : ((G.nodes.length : Int) == 0) = false := beqN (by omega)
  have hC : ∀ W, W = w.alloc (.cells #[.pointer (some ⟨g, 0, none⟩)] 27) → Calls Try.prog 84 #[.slice a l.length c, .func (.func 175) #[] #[.pointer (some ⟨w.heap.size, 0, none⟩)]] W fun e w' => e = .returned (.bool (badIn G l)) ∧ W = w' := fun W hW => by
    have hc := alw_ch hW
    have hb := alw_blk (xs := [.pointer (some ⟨g, 0, none⟩)]) hW
    exact CFref_is c 175 #[.pointer (some ⟨w.heap.size, 0, none⟩)] (fun r => !right G.nodes r) (hS.ch hc (by simp)) (fun r hr => simcheck1_is (h.same hc (by simp)) (hb.cell (i := 0) rfl) r (hbd r hr)) fnvsimcheck1
  have hL : ∀ W, W = w.alloc (.cells #[.pointer (some ⟨g, 0, none⟩)] 27) → Calls Try.prog 26 #[.pointer (some ⟨g, 0, none⟩)] W fun e w' => e = .returned (.int .i64 G.nodes.length) ∧ W = w' := fun W hW => Len_g (h.same (alw_ch hW) (by simp))
  have hw : w.cell? ⟨w.heap.size, 0, none⟩ = none := by simp [World.cell?]
  have HC := Lib.hid hC; clear hC
  have HL := Lib.hid hL; clear hL hw
  clear h hS hbd
  cases hq : badIn G l
  · rw [hq] at HC
    have HQ := Lib.hid hq; clear hq
    go_enter Try.func110, Try.ntmps110
    go_wp2_with fail
    refine (HL.out _ rfl).mono ?_
    rintro e w' ⟨rfl, rfl⟩
    go_wp2_with fail
    refine (HC.out _ rfl).mono ?_
    rintro e w' ⟨rfl, rfl⟩
    go_wp2_with fail
    go_ret
    exact ⟨rfl, (Ch.refl _ _).alloc _⟩
  · rw [hq] at HC
    have HQ := Lib.hid hq; clear hq
    go_enter Try.func110, Try.ntmps110
    go_wp2_with fail
    refine (HL.out _ rfl).mono ?_
    rintro e w' ⟨rfl, rfl⟩
    go_wp2_with fail
    refine (HC.out _ rfl).mono ?_
    rintro e w' ⟨rfl, rfl⟩
    go_wp2_with fail
    go_ret
    exact ⟨rfl, (Ch.refl _ _).alloc _⟩
/-- what Words returns -/
def wordsR (G : Gra) (ins : List Nat) (l : List Int) : List Nat × Nat := if badIn G l then ([], 200) else if ins.length ≠ (inputs G.nodes).length then ([], 210) else (wsOf ins G.nodes (nats l), 0)
/-- a new slice of words -/
def UNew (w : World) (v : Value) (l : List Nat) (w' : World) : Prop := row w' 183 1 v l.length (u64s l) ∧ (∀ q ∈ v.ownBlock.toList, w.heap.size ≤ q) ∧ Ch [] w w'
set_option maxRecDepth 100000 in
set_option maxHeartbeats 8000000 in
theorem simWords_is (h : GIn w g G F) {xa : Option Addr} {ins : List Nat} (xc : Nat) (hS : Sv w xa (u64s ins)) (hlt : ∀ v ∈ ins, v < 2 ^ 64) (hcap : ins.length ≤ xc) (hxc : xc ≤ 9223372036854775807) {a : Option Addr} {l : List Int} (c : Nat) (hL : Sl w a l) (hbd : ∀ r ∈ l, -9223372036854775808 ≤ r ∧ r ≤ 9223372036854775807) (hll : l.length ≤ 100000) :
    Calls Try.prog 109 #[.pointer (some ⟨g, 0, none⟩), .slice xa ins.length xc, .slice a l.length c] w fun e w' => ∃ v, e = .returned (.tuple #[v, .int .i64 (wordsR G ins l).2]) ∧ UNew w v (wordsR G ins l).1 w' := by
  have hpos := h.ok.wf.pos
  have hroom := h.ok.room
  have hmost := h.ok.most
  have hCk := simcheck_is h l.length c rfl hL (fun r hr => (hbd r hr).2)
  have hIn := fun (W : World) (hW : Ch [] w W) => Inputs_g (h.same hW (by simp))
  by_cases hb : badIn G l = true
  · have hR : wordsR G ins l = ([], 200) := by unfold wordsR; rw [if_pos hb]
    rw [hR]
    rw [if_pos hb] at hCk
    have HCK := Lib.hid hCk; clear hCk h hS hlt hL hbd hIn hb hR
    go_enter Try.func109, Try.ntmps109
    go_wp2_with fail
    refine HCK.out.mono ?_
    rintro e w1 ⟨rfl, hc1⟩
    have HC1 := Lib.hid hc1; clear hc1
    go_wp2_with fail
    go_ret2
    exact ⟨_, rfl, ⟨rfl, .inl ⟨rfl, rfl⟩⟩, by simp, HC1.out⟩
  · have hb2 : badIn G l = false := by simpa using hb
    rw [if_neg hb] at hCk
    obtain ⟨hnat, hnlt⟩ := badIn_no hb2
    by_cases hi : ins.length = (inputs G.nodes).length
    · have hR : wordsR G ins l = (wsOf ins G.nodes (nats l), 0) := by unfold wordsR; rw [if_neg hb, if_neg (by simp [hi])]
      rw [hR]
      have hNd := fun (W : World) (hW : Ch [] w W) => simnodes_is (h.same hW (by simp)) xc (hS.ch hW (by simp)) hi.symm hlt hcap hxc
      have hvl := wvF_len U64 ins G.nodes
      have hvb := (wvF_lt (N := 64) hlt G.nodes).1
      rw [u64_pow] at hvb
      unfold wsOf
      generalize hV : (wvF U64 ins G.nodes).1 = V at *
      clear hV
      have hie : ((ins.length : Int) != (inputs G.nodes).length) = false := by simp [hi]
      have HCK := Lib.hid hCk; clear hCk
      have HIN := Lib.hid hIn; clear hIn
      have HND := Lib.hid hNd; clear hNd
      have HVL := Lib.hid hvl; clear hvl
      have HVB := Lib.hid hvb; clear hvb
      have HL := Lib.hid hL; clear hL
      have HNL := Lib.hid hnlt; clear hnlt
      have HNT := Lib.hid hnat; clear hnat
      clear h hS hlt hbd hb hb2 hR hi
      generalize (inputs G.nodes).length = ni at *
      have hcf : ∀ args w, (callFunc 203 args).run Try.prog w = .ok (.enter 203 args) w := fnvsimof1
      go_enter Try.func109, Try.ntmps109
      go_wp2_with fail
      refine HCK.out.mono ?_
      rintro e w1 ⟨rfl, hc1⟩
      have hI1 := HIN.out w1 hc1
      have HI1 := Lib.hid hI1; clear hI1 HIN
      have HC1 := Lib.hid hc1; clear hc1
      go_wp2_with fail
      refine HI1.out.mono ?_
      rintro e w2 ⟨v, rfl, hro, _, hc2⟩
      obtain ⟨ia, ic, rfl⟩ := row.shape hro
      have hc12 := HC1.out.trans hc2 (by simp)
      have hN2 := HND.out w2 hc12
      have HN2 := Lib.hid hN2; clear hN2 HND hro hc2
      have HC2 := Lib.hid hc12; clear hc12 HI1 HC1
      go_wp2_with fail
      refine HN2.out.mono ?_
      rintro e w3 ⟨rfl, hbo, hc3⟩
      have hc13 := HC2.out.trans hc3 (by simp)
      have hz23 := HC2.out.size
      clear HN2
      generalize w2.heap.size = ob at *
      have hOf := simof_is (w := w3) (some ⟨ob, 0, none⟩) G.nodes.length G.nodes.length
      have HOF := Lib.hid hOf; clear hOf
      have HBO := Lib.hid hbo; clear hbo
      have HC3 := Lib.hid hc13; clear hc13 hc3 HC2
      go_wp2_with fail
      refine HOF.out.mono ?_
      rintro e w4 ⟨rfl, hw4⟩
      have hbx := alw_blk (xs := [.slice (some ⟨ob, 0, none⟩) G.nodes.length G.nodes.length]) hw4
      have hbo := HBO.out.ch (alw_ch hw4) (by simp)
      have hc4 := HC3.out.trans (alw_ch hw4) (by simp)
      have hz34 := HC3.out.size
      clear hw4 HOF HBO HC3
      generalize w3.heap.size = bx at *
      have HBX := Lib.hid hbx; clear hbx
      have HBO := Lib.hid hbo; clear hbo
      have HC4 := Lib.hid hc4; clear hc4
      go_wp2_with fail
      go_loopw [10, 31] (fun o i wr => ∃ k : Nat, k ≤ l.length ∧ i = .int .i64 k ∧ Ch [] w4 wr ∧ row wr 183 1 o k (u64s (((nats l).take k).map (wref U64 V))) ∧ ∀ q ∈ o.ownBlock.toList, w4.heap.size ≤ q) (fun _ i _ => l.length - (intOf i).toNat)
      case atStart => exact ⟨0, by omega, rfl, Ch.refl _ _, ⟨rfl, .inl ⟨rfl, rfl⟩⟩, by simp⟩
      case round =>
        obtain ⟨k, hk, rfl, hc, hrow, hlo⟩ := hrel
        obtain ⟨oa, oc, rfl⟩ := row.shape hrow
        by_cases hlt : k < l.length
        · obtain ⟨x, hx⟩ : ∃ x, (nats l)[k]? = some x := ⟨_, List.getElem?_eq_getElem (by rw [nats_len]; exact hlt)⟩
          have hxl := HNL.out x (List.mem_of_getElem? hx)
          have hlx : l[k]? = some (x : Int) := by rw [← HNT.out, List.getElem?_map, hx]; rfl
          obtain ⟨xb, xo, rfl, hcl⟩ := HL.out.cells k x hlx
          have c0 := ((HC4.out.trans hc (by simp)).cell (cell_lt hcl) (by simp)).trans hcl
          have hW := simof1_is ((HBX.out.ch hc (by simp)).cell (i := 0) rfl) (HBO.out.ch hc (by simp)) HVL.out HVB.out x hxl (by omega)
          have hsu : u64s (((nats l).take (k + 1)).map (wref U64 V)) = u64s (((nats l).take k).map (wref U64 V)) ++ [.int .u64 (wref U64 V x)] := by rw [List.take_add_one, hx]; simp [u64s]
          generalize wref U64 V x = vx at hW hsu
          have hcA : Ch [] wr (wr.alloc (.cells #[.int .u64 vx] 183)) := (Ch.refl _ _).alloc _
          have hrA := hrow.ch hcA (by simp)
          have hbA : blk (wr.alloc (.cells #[.int .u64 vx] 183)) wr.heap.size [.int .u64 vx] := blk.new' _ _ rfl
          have HW := Lib.hid hW; clear hW
          have HSU := Lib.hid hsu; clear hsu
          have HRA := Lib.hid hrA; clear hrA hrow
          have HBA := Lib.hid hbA; clear hbA
          have HCA := Lib.hid hcA; clear hcA
          have HCP := Lib.hid hc; clear hc
          have HLO := Lib.hid hlo; clear hlo hcl hlx hx
          go_wp2_with fail
          refine HW.out.mono ?_
          rintro e w' ⟨rfl, rfl⟩
          go_wp2_with (at_builtin; go_loud (refine wpList_append_row slU64s rfl _ _ rfl (v := .slice oa k oc) (n := k) (xs := u64s (((nats l).take k).map (wref U64 V))) rfl HRA.out (ad := ⟨wr.heap.size, 0, none⟩) (m := 1) (c := 1) (news := [.int .u64 vx]) rfl rfl (news_blk HBA.out) (by simp [Value.oneCell']) (by omega) (by omega) ?_; intro v' w5 hown4 hC4 hf4; have HO4 := Lib.hid hown4; clear hown4; have HCC4 := Lib.hid hC4; clear hC4; have HF4 := Lib.hid hf4; clear hf4))
          go_roundw
          case rel =>
            obtain ⟨q1, q2⟩ := app_step HCP.out HCA.out HLO.out HCC4.out HF4.out
            refine ⟨k + 1, by omega, by go_num, q1, ?_, q2⟩
            rw [HSU.out]; exact HO4.out
          case measure => simp [intOf]; omega
        · have hkn : k = l.length := by omega
          have hall : (nats l).take k = nats l := List.take_of_length_le (by rw [nats_len]; omega)
          rw [hall] at hrow
          rw [hkn] at hrow hlo
          rw [hkn]
          have HROW := Lib.hid hrow; clear hrow
          have HLO := Lib.hid hlo; clear hlo
          have HCP := Lib.hid hc; clear hc hall hkn
          go_wp2_with fail
          go_ret2
          refine ⟨.slice oa l.length oc, rfl, ?_, fun q hq => Nat.le_trans HC4.out.size (HLO.out q hq), HC4.out.trans HCP.out (by simp)⟩
          have := HROW.out
          simpa using this
    · have hR : wordsR G ins l = ([], 210) := by unfold wordsR; rw [if_neg hb, if_pos hi]
      rw [hR]
      have hie : ((ins.length : Int) != (inputs G.nodes).length) = true := by simp; omega
      have HCK := Lib.hid hCk; clear hCk
      have HIN := Lib.hid hIn; clear hIn
      clear h hS hlt hL hbd hb hb2 hR hi hnat hnlt
      generalize (inputs G.nodes).length = ni at *
      go_enter Try.func109, Try.ntmps109
      go_wp2_with fail
      refine HCK.out.mono ?_
      rintro e w1 ⟨rfl, hc1⟩
      have hI1 := HIN.out w1 hc1
      have HI1 := Lib.hid hI1; clear hI1 HIN
      have HC1 := Lib.hid hc1; clear hc1
      go_wp2_with fail
      refine HI1.out.mono ?_
      rintro e w2 ⟨v, rfl, hro, _, hc2⟩
      obtain ⟨ia, ic, rfl⟩ := row.shape hro
      have HC2 := Lib.hid (HC1.out.trans hc2 (by simp)); clear hc2 HI1 HC1 hro
      go_wp2_with fail
      go_ret2
      exact ⟨_, rfl, ⟨rfl, .inl ⟨rfl, rfl⟩⟩, by simp, HC2.out⟩
end
end Go.Proofs.Ytkedpifopclipaa
namespace Go.Proofs.Ytkedpifopclipaa
open Go.RowKit Go.Mem Go.Aig
theorem row.capLe' {w : World} {e : TypeId} {size : Nat} {a : Option Addr} {n c m : Nat} {xs : List Value} (h : row w e size (.slice a n c) m xs) : m ≤ c ∧ c ≤ 9223372036854775807 := by
  rcases h.2 with ⟨e1, h0⟩ | ⟨g', cap', cur, e1, _, _, h1, h2, _⟩
  · cases e1; omega
  · cases e1; exact ⟨h1, by unfold maxLen at h2; exact h2⟩
/-- what Bits returns -/
def bitsR (G : Gra) (ins : List Bool) (l : List Int) : List Bool × Nat := if badIn G l then ([], 200) else if ins.length ≠ (inputs G.nodes).length then ([], 210) else (bsOf ins G.nodes (nats l), 0)
theorem wOf_len (l : List Bool) : (wOf l).length = l.length := by simp [wOf]
theorem bitsR_words (G : Gra) (ins : List Bool) (l : List Int) : bitsR G ins l = ((wordsR G (wOf ins) l).1.map (fun v => v.testBit 0), (wordsR G (wOf ins) l).2) := by
  unfold bitsR wordsR
  rw [wOf_len]
  split
  · rfl
  · split
    · rfl
    · rw [wsOf_bits]
/-- a new slice of truths -/
def BNew (w : World) (v : Value) (l : List Bool) (w' : World) : Prop := row w' 4 1 v l.length (bools l) ∧ (∀ q ∈ v.ownBlock.toList, w.heap.size ≤ q) ∧ Ch [] w w'
section
variable {w : World} {g : Nat} {G : Gra} {F : List Nat}
set_option maxRecDepth 100000 in
set_option maxHeartbeats 8000000 in
theorem simBits_is (h : GIn w g G F) {xa : Option Addr} {ins : List Bool} (n xc : Nat) (hn : ins.length = n) (hS : Sb w xa ins) (hnl : n ≤ 100000) {a : Option Addr} {l : List Int} (m c : Nat) (hm : l.length = m) (hL : Sl w a l) (hbd : ∀ r ∈ l, -9223372036854775808 ≤ r ∧ r ≤ 9223372036854775807) (hll : m ≤ 100000) :
    Calls Try.prog 43 #[.pointer (some ⟨g, 0, none⟩), .slice xa n xc, .slice a m c] w fun e w' => ∃ v, e = .returned (.tuple #[v, .int .i64 (bitsR G ins l).2]) ∧ BNew w v (bitsR G ins l).1 w' := by
  subst hn hm
  have hW := fun (W : World) (hW : Ch [] w W) (wa : Option Addr) (wc : Nat) (hwa : row W 183 1 (.slice wa ins.length wc) ins.length (u64s (wOf ins))) => simWords_is (h.same hW (by simp)) (ins := wOf ins) (xa := wa) wc (row.sv hwa rfl (by omega)) (wOf_lt ins) (by rw [wOf_len]; exact (row.capLe' hwa).1) (row.capLe' hwa).2 c (hL.ch hW (by simp)) hbd hll
  simp only [wOf_len] at hW
  rw [bitsR_words]
  have hwl : (wordsR G (wOf ins) l).1.length ≤ l.length := by
    unfold wordsR
    split
    · simp
    · split
      · simp
      · simp [wsOf]
  have hwb : ∀ v ∈ (wordsR G (wOf ins) l).1, v < 2 ^ 64 := by
    unfold wordsR
    split
    · simp
    · split
      · simp
      · exact wsOf_lt (wOf_lt ins) _ _
  generalize wordsR G (wOf ins) l = R at *
  obtain ⟨ws, e0⟩ := R
  simp only at hwl hwb hW ⊢
  have HW := Lib.hid hW; clear hW
  have HS := Lib.hid hS; clear hS h hL hbd
  have HWB := Lib.hid hwb; clear hwb
  go_enter Try.func43, Try.ntmps43
  go_wp2_with fail
  go_loopw [8, 19] (fun o i wr => ∃ k : Nat, k ≤ ins.length ∧ i = .int .i64 k ∧ Ch [] w wr ∧ row wr 183 1 o k (u64s (wOf (ins.take k))) ∧ ∀ q ∈ o.ownBlock.toList, w.heap.size ≤ q) (fun _ i _ => ins.length - (intOf i).toNat)
  case atStart => exact ⟨0, by omega, rfl, Ch.refl _ _, ⟨rfl, .inl ⟨rfl, rfl⟩⟩, by simp⟩
  case round =>
    obtain ⟨k, hk, rfl, hc, hrow, hlo⟩ := hrel
    obtain ⟨oa, oc, rfl⟩ := row.shape hrow
    by_cases hlt : k < ins.length
    · obtain ⟨x, hx⟩ : ∃ x, ins[k]? = some x := ⟨_, List.getElem?_eq_getElem hlt⟩
      obtain ⟨xb, xo, rfl, hcl⟩ := HS.out.cells k (.bool x) (by simp [hx])
      have c0 := (hc.cell (cell_lt hcl) (by simp)).trans hcl
      cases x
      · have hsu : u64s (wOf (ins.take (k + 1))) = u64s (wOf (ins.take k)) ++ [.int .u64 0] := by rw [List.take_add_one, hx]; simp [u64s, wOf]
        have hcA : Ch [] wr (wr.alloc (.cells #[.int .u64 0] 183)) := (Ch.refl _ _).alloc _
        have hrA := hrow.ch hcA (by simp)
        have hbA : blk (wr.alloc (.cells #[.int .u64 0] 183)) wr.heap.size [.int .u64 0] := blk.new' _ _ rfl
        have HSU := Lib.hid hsu; clear hsu
        have HRA := Lib.hid hrA; clear hrA hrow
        have HBA := Lib.hid hbA; clear hbA
        have HCA := Lib.hid hcA; clear hcA
        have HCP := Lib.hid hc; clear hc
        have HLO := Lib.hid hlo; clear hlo hcl hx
        go_wp2_with (at_builtin; go_loud (refine wpList_append_row slU64s rfl _ _ rfl (v := .slice oa k oc) (n := k) (xs := u64s (wOf (ins.take k))) rfl HRA.out (ad := ⟨wr.heap.size, 0, none⟩) (m := 1) (c := 1) (news := [.int .u64 0]) rfl rfl (news_blk HBA.out) (by simp [Value.oneCell']) (by omega) (by omega) ?_; intro v' w5 hown4 hC4 hf4; have HO4 := Lib.hid hown4; clear hown4; have HCC4 := Lib.hid hC4; clear hC4; have HF4 := Lib.hid hf4; clear hf4))
        go_roundw
        case rel =>
          obtain ⟨q1, q2⟩ := app_step HCP.out HCA.out HLO.out HCC4.out HF4.out
          refine ⟨k + 1, by omega, by go_num, q1, ?_, q2⟩
          rw [HSU.out]; exact HO4.out
        case measure => simp [intOf]; omega
      · have hsu : u64s (wOf (ins.take (k + 1))) = u64s (wOf (ins.take k)) ++ [.int .u64 1] := by rw [List.take_add_one, hx]; simp [u64s, wOf]
        have hcA : Ch [] wr (wr.alloc (.cells #[.int .u64 1] 183)) := (Ch.refl _ _).alloc _
        have hrA := hrow.ch hcA (by simp)
        have hbA : blk (wr.alloc (.cells #[.int .u64 1] 183)) wr.heap.size [.int .u64 1] := blk.new' _ _ rfl
        have HSU := Lib.hid hsu; clear hsu
        have HRA := Lib.hid hrA; clear hrA hrow
        have HBA := Lib.hid hbA; clear hbA
        have HCA := Lib.hid hcA; clear hcA
        have HCP := Lib.hid hc; clear hc
        have HLO := Lib.hid hlo; clear hlo hcl hx
        go_wp2_with (at_builtin; go_loud (refine wpList_append_row slU64s rfl _ _ rfl (v := .slice oa k oc) (n := k) (xs := u64s (wOf (ins.take k))) rfl HRA.out (ad := ⟨wr.heap.size, 0, none⟩) (m := 1) (c := 1) (news := [.int .u64 1]) rfl rfl (news_blk HBA.out) (by simp [Value.oneCell']) (by omega) (by omega) ?_; intro v' w5 hown4 hC4 hf4; have HO4 := Lib.hid hown4; clear hown4; have HCC4 := Lib.hid hC4; clear hC4; have HF4 := Lib.hid hf4; clear hf4))
        go_roundw
        case rel =>
          obtain ⟨q1, q2⟩ := app_step HCP.out HCA.out HLO.out HCC4.out HF4.out
          refine ⟨k + 1, by omega, by go_num, q1, ?_, q2⟩
          rw [HSU.out]; exact HO4.out
        case measure => simp [intOf]; omega
    · have hkn : k = ins.length := by omega
      rw [hkn, List.take_of_length_le (Nat.le_refl _)] at hrow
      rw [hkn] at hlo
      rw [hkn]
      have hW1 := HW.out wr hc oa oc hrow
      have HW1 := Lib.hid hW1; clear hW1 HW hrow hlo hkn
      have HC := Lib.hid hc; clear hc
      go_wp2_with fail
      refine HW1.out.mono ?_
      rintro e w3 ⟨v, rfl, hrv, _, hc3⟩
      obtain ⟨va, vc, rfl⟩ := row.shape hrv
      have hsv := row.sv hrv rfl (by omega)
      have HSV := Lib.hid hsv; clear hsv hrv
      have HC3 := Lib.hid (HC.out.trans hc3 (by simp)); clear hc3 HC HW1
      go_wp2_with fail
      go_loopw [14, 38] (fun o i wq => ∃ j : Nat, j ≤ ws.length ∧ i = .int .i64 j ∧ Ch [] w3 wq ∧ row wq 4 1 o j (bools ((ws.take j).map (fun v => v.testBit 0))) ∧ ∀ q ∈ o.ownBlock.toList, w3.heap.size ≤ q) (fun _ i _ => ws.length - (intOf i).toNat)
      case atStart => exact ⟨0, by omega, rfl, Ch.refl _ _, ⟨rfl, .inl ⟨rfl, rfl⟩⟩, by simp⟩
      case round =>
        obtain ⟨j, hj, rfl, hc, hrow, hlo⟩ := hrel
        obtain ⟨oa, oc, rfl⟩ := row.shape hrow
        by_cases hlt : j < ws.length
        · obtain ⟨x, hx⟩ : ∃ x, ws[j]? = some x := ⟨_, List.getElem?_eq_getElem hlt⟩
          have hxb := HWB.out x (List.mem_of_getElem? hx)
          obtain ⟨xb, xo, rfl, hcl⟩ := HSV.out.cells j (.int .u64 x) (u64s_get hx)
          have c0 := (hc.cell (cell_lt hcl) (by simp)).trans hcl
          have hand : bits .and .u64 (x : Int) 1 = ((x &&& 1 : Nat) : Int) := bits_and_u64_nat x 1 (by omega) (by omega)
          have hbe : (((x &&& 1 : Nat) : Int) == 1) = x.testBit 0 := by
            rw [Nat.testBit_zero, show x &&& 1 = x % 2 from Nat.and_one_is_mod x]
            rcases Nat.mod_two_eq_zero_or_one x with h | h <;> simp [h]
          have hsu : bools ((ws.take (j + 1)).map (fun v => v.testBit 0)) = bools ((ws.take j).map (fun v => v.testBit 0)) ++ [.bool (x.testBit 0)] := by rw [List.take_add_one, hx]; simp [bools]
          generalize x.testBit 0 = tb at hbe hsu
          generalize x &&& 1 = x1 at hand hbe
          have hcA : Ch [] wr (wr.alloc (.cells #[.bool tb] 4)) := (Ch.refl _ _).alloc _
          have hrA := hrow.ch hcA (by simp)
          have hbA : blk (wr.alloc (.cells #[.bool tb] 4)) wr.heap.size [.bool tb] := blk.new' _ _ rfl
          have HSU := Lib.hid hsu; clear hsu
          have HRA := Lib.hid hrA; clear hrA hrow
          have HBA := Lib.hid hbA; clear hbA
          have HCA := Lib.hid hcA; clear hcA
          have HCP := Lib.hid hc; clear hc
          have HLO := Lib.hid hlo; clear hlo hcl hx hxb
          go_wp2_with (at_builtin; go_loud (refine wpList_append_row slBools rfl _ _ rfl (v := .slice oa j oc) (n := j) (xs := bools ((ws.take j).map (fun v => v.testBit 0))) rfl HRA.out (ad := ⟨wr.heap.size, 0, none⟩) (m := 1) (c := 1) (news := [.bool tb]) rfl rfl (news_blk HBA.out) (by simp [Value.oneCell']) (by omega) (by omega) ?_; intro v' w5 hown4 hC4 hf4; have HO4 := Lib.hid hown4; clear hown4; have HCC4 := Lib.hid hC4; clear hC4; have HF4 := Lib.hid hf4; clear hf4))
          go_roundw
          case rel =>
            obtain ⟨q1, q2⟩ := app_step HCP.out HCA.out HLO.out HCC4.out HF4.out
            refine ⟨j + 1, by omega, by go_num, q1, ?_, q2⟩
            rw [HSU.out]; exact HO4.out
          case measure => simp [intOf]; omega
        · have hkn : j = ws.length := by omega
          rw [hkn, List.take_of_length_le (Nat.le_refl _)] at hrow
          rw [hkn] at hlo
          rw [hkn]
          have HROW := Lib.hid hrow; clear hrow
          have HLO := Lib.hid hlo; clear hlo
          have HCP := Lib.hid hc; clear hc hkn
          go_wp2_with fail
          go_ret2
          refine ⟨.slice oa ws.length oc, rfl, ?_, fun q hq => Nat.le_trans HC3.out.size (HLO.out q hq), HC3.out.trans HCP.out (by simp)⟩
          have := HROW.out
          simpa using this
end
end Go.Proofs.Ytkedpifopclipaa
namespace Go.Aig
/-- the values of the inputs for two numbers -/
def givenL (n m a b : Nat) : List Bool := (List.range n).map a.testBit ++ (List.range m).map b.testBit
theorem givenL_len (n m a b : Nat) : (givenL n m a b).length = n + m := by simp [givenL]
end Go.Aig
namespace Go.Proofs.Ytkedpifopclipaa
open Go.RowKit Go.Mem Go.Aig
theorem bits_and_i64_nat (a b : Nat) (ha : a < 9223372036854775808) (hb : b < 9223372036854775808) : bits .and .i64 (a : Int) (b : Int) = ((a &&& b : Nat) : Int) := by
  have hx : a &&& b ≤ a := Nat.and_le_left
  have h1 : (BitVec.ofInt 64 (a : Int)).toNat = a := by
    rw [BitVec.ofInt_natCast, BitVec.toNat_ofNat]; exact Nat.mod_eq_of_lt (by omega)
  have h2 : (BitVec.ofInt 64 (b : Int)).toNat = b := by
    rw [BitVec.ofInt_natCast, BitVec.toNat_ofNat]; exact Nat.mod_eq_of_lt (by omega)
  show IntKind.i64.wrap ((BitVec.ofInt 64 (a : Int) &&& BitVec.ofInt 64 (b : Int)).toNat : Int) = _
  rw [BitVec.toNat_and, h1, h2, IntKind.wrap_i64]
  omega
/-- a bit, as the code asks for it -/
theorem bit_i64 (x d : Nat) (hx : x < 9223372036854775808) : (bits .and .i64 ((x : Int) / 2 ^ d) 1 == 1) = decide (x / 2 ^ d % 2 = 1) := by
  have h1 : x / 2 ^ d < 9223372036854775808 := Nat.lt_of_le_of_lt (Nat.div_le_self _ _) hx
  have h2 := bits_and_i64_nat (x / 2 ^ d) 1 h1 (by omega)
  have h3 : ((x / 2 ^ d : Nat) : Int) = (x : Int) / 2 ^ d := by rw [Int.natCast_ediv]; simp
  rw [Nat.and_one_is_mod, h3] at h2
  rw [show (1 : Int) = ((1 : Nat) : Int) from rfl, h2]
  rcases Nat.mod_two_eq_zero_or_one (x / 2 ^ d) with h | h <;> rw [h] <;> rfl
section
variable {w : World}
end
end Go.Proofs.Ytkedpifopclipaa
namespace Go.Proofs.Ytkedpifopclipaa
open Go.RowKit Go.Mem Go.Aig
attribute [local go_sem] Oper.semAt_some
section
variable {w : World} {g : Nat} {G : Gra} {F : List Nat}
end
end Go.Proofs.Ytkedpifopclipaa
namespace Go.Aig
end Go.Aig
namespace Go.Proofs.Ytkedpifopclipaa
open Go.RowKit Go.Mem Go.Aig
attribute [local go_sem] Oper.semAt_some
section
variable {w : World} {g : Nat} {G : Gra} {F : List Nat}
end
end Go.Proofs.Ytkedpifopclipaa
namespace Go.Aig
end Go.Aig
namespace Go.Proofs.Ytkedpifopclipaa
open Go.RowKit Go.Mem Go.Aig
attribute [local go_sem] Oper.semAt_some
section
variable {w : World} {g : Nat} {G : Gra} {F : List Nat}
end
end Go.Proofs.Ytkedpifopclipaa
namespace Go.Proofs.Ytkedpifopclipaa
open Go.Aig
theorem nv_count (env : Nat → Bool) : ∀ (ms ns : List Nd), (nv env (ns ++ ms)).2 = (nv env ns).2 + (ms.filter fun x => x.k == 2).length
  | [], ns => by simp
  | x :: ms, ns => by
    rw [List.append_cons, nv_count env ms (ns ++ [x]), nv_snoc]
    unfold nvStep
    by_cases h3 : x.k = 3
    · simp [h3]
    · by_cases h2 : x.k = 2
      · simp [h2]; omega
      · simp [h3, h2]
end Go.Proofs.Ytkedpifopclipaa
namespace Go.Proofs.Ytkedpifopclipaa
open Go.Aig
def wvStep (s : List Nat × Nat) (x : Nd) : List Nat × Nat :=
  if x.k = 3 then (s.1 ++ [wv s.1 x.l &&& wv s.1 x.r], s.2) else if x.k = 2 then (s.1 ++ [inWords.getD s.2 0], s.2 + 1) else (s.1 ++ [0], s.2)
end Go.Proofs.Ytkedpifopclipaa
namespace Go.Aig
end Go.Aig
namespace Go.Proofs.Ytkedpifopclipaa
open Go.RowKit Go.Mem Go.Aig
section
variable {w : World} {g : Nat} {G : Gra} {F : List Nat}
set_option maxRecDepth 100000 in
set_option maxHeartbeats 2000000 in
theorem ReadsW_is (h : GIn w g G F) {a : Option Addr} {l : List Int} {m c : Nat} (hm : l.length = m) (hL : Sl w a l) (hbd : ∀ r ∈ l, -9223372036854775808 ≤ r ∧ r ≤ 9223372036854775807) {xa : Option Addr} {ins : List Bool} {k xc : Nat} (hk : ins.length = k) (hI : Sb w xa ins) (hkl : k ≤ 1000) {B : List Bool} (hR : bitsR G ins l = (B, 0)) (hB : B.length = m) (h1 : 1 ≤ m) (h16 : m ≤ 16) :
    Calls Try.prog 117 #[.pointer (some ⟨g, 0, none⟩), .slice a m c, .slice xa k xc] w fun e w' => e = .returned (.tuple #[.int .u32 (bitsVal B), .bool true]) ∧ Ch [] w w' := by
  have HB := simBits_is h (xa := xa) (ins := ins) k xc hk hI (by omega) m c hm hL hbd (by omega)
  rw [hR] at HB
  have HV := fun (W : World) (ba : Option Addr) (bc : Nat) (hS : Sb W ba B) => sValue_is (w := W) (x := ⟨a, l, c⟩) (by show l.length ≤ _; omega) bc (by omega) hS
  simp only [WV.val, hB, hm, h1, h16, and_self, if_true] at HV
  clear hI hL
  go_enter Try.func117, Try.ntmps117
  go_wp2_with fail
  refine HB.mono ?_
  rintro e w1 ⟨v, rfl, hrow, hown, hch⟩
  obtain ⟨ba, bc, rfl⟩ := hrow.parts (by show 0 < B.length; omega)
  have hS : Sb w1 (some ⟨ba, 0, none⟩) B := row.sv hrow rfl (by show B.length ≤ _; omega)
  simp only [hB]
  go_wp2_with fail
  refine (HV w1 _ bc hS).mono ?_
  rintro e w2 ⟨rfl, rfl⟩
  go_wp2_with fail
  go_ret2
  exact ⟨rfl, hch⟩
end
theorem givenA_snoc (n m a b k : Nat) (hk : k < n) : (givenL n m a b).take (k + 1) = (givenL n m a b).take k ++ [a.testBit k] := by
  rw [List.take_add_one]
  congr 1
  unfold givenL
  rw [List.getElem?_append_left (by simpa using hk), List.getElem?_map, List.getElem?_range hk]
  rfl
theorem givenB_snoc (n m a b k : Nat) (hk : k < m) : (givenL n m a b).take (n + k + 1) = (givenL n m a b).take (n + k) ++ [b.testBit k] := by
  rw [List.take_add_one]
  congr 1
  unfold givenL
  rw [List.getElem?_append_right (by simp), List.getElem?_map]
  simp only [List.length_map, List.length_range, Nat.add_sub_cancel_left]
  rw [List.getElem?_range hk]
  rfl
set_option maxRecDepth 100000 in
set_option maxHeartbeats 4000000 in
theorem Given_is {w : World} (n a b : Nat) (hn : n ≤ 60) (ha : a ≤ 1000000) (hb : b ≤ 1000000) :
    Calls Try.prog 118 #[.int .i64 n, .int .i64 a, .int .i64 b] w fun e w' => ∃ v, e = .returned v ∧ row w' 4 1 v (n + n) (bools (givenL n n a b)) ∧ (∀ q ∈ v.ownBlock.toList, w.heap.size ≤ q) ∧ Ch [] w w' := by
  have HS1 := Lib.hid (givenA_snoc n n a b)
  have HS2 := Lib.hid (givenB_snoc n n a b)
  have hlen := givenL_len n n a b
  obtain ⟨GL, hGL⟩ : ∃ GL, GL = givenL n n a b := ⟨_, rfl⟩
  rw [← hGL] at HS1 HS2 hlen ⊢
  clear hGL
  go_enter Try.func118, Try.ntmps118
  go_wp2_with fail
  go_loopw [7, 11] (fun o i wr => ∃ s : Nat, s ≤ n ∧ i = .int .i64 s ∧ Ch [] w wr ∧ row wr 4 1 o s (bools (GL.take s)) ∧ ∀ q ∈ o.ownBlock.toList, w.heap.size ≤ q) (fun _ i _ => n - (intOf i).toNat)
  case atStart => exact ⟨0, by omega, rfl, Ch.refl _ _, ⟨rfl, .inl ⟨rfl, rfl⟩⟩, by simp⟩
  case round =>
    obtain ⟨s, hs, rfl, hc, hrow, hlo⟩ := hrel
    obtain ⟨oa, oc, rfl⟩ := row.shape hrow
    have HROW := Lib.hid hrow; clear hrow
    by_cases hlt2 : s < n
    · have hsn := HS1.out s hlt2
      have hbit := bit_i64 a s (by omega)
      rw [← Nat.testBit_eq_decide_div_mod_eq] at hbit
      have HC2 := Lib.hid hc; clear hc
      have HLO := Lib.hid hlo; clear hlo
      generalize a.testBit s = tb' at hsn hbit
      have hcA : Ch [] wr (wr.alloc (.cells #[.bool tb'] 4)) := (Ch.refl _ _).alloc _
      have hrA := HROW.out.ch hcA (by simp)
      have hbA : blk (wr.alloc (.cells #[.bool tb'] 4)) wr.heap.size [.bool tb'] := blk.new' _ _ rfl
      have HSU := Lib.hid hsn; clear hsn
      have HRA := Lib.hid hrA; clear hrA
      have HBA := Lib.hid hbA; clear hbA
      have HCA := Lib.hid hcA; clear hcA
      go_wp2_with (at_builtin; go_loud (refine wpList_append_row slBools rfl _ _ rfl (v := .slice oa s oc) (n := s) (xs := bools (GL.take s)) rfl HRA.out (ad := ⟨wr.heap.size, 0, none⟩) (m := 1) (c := 1) (news := [.bool tb']) rfl rfl (news_blk HBA.out) (by simp [Value.oneCell']) (by omega) (by omega) ?_; intro v' w5 hown4 hC4 hf4; have HO4 := Lib.hid hown4; clear hown4; have HCC4 := Lib.hid hC4; clear hC4; have HF4 := Lib.hid hf4; clear hf4))
      go_roundw
      case rel =>
        obtain ⟨q1, q2⟩ := app_step HC2.out HCA.out HLO.out HCC4.out HF4.out
        refine ⟨s + 1, by omega, by go_num, q1, ?_, q2⟩
        rw [HSU.out, show bools (GL.take s ++ [tb']) = bools (GL.take s) ++ [.bool tb'] by simp [bools]]
        exact HO4.out
      case measure => simp [intOf]; omega
    · have hsn : s = n := by omega
      subst hsn
      have HC1 := Lib.hid hc; clear hc
      have HLO1 := Lib.hid hlo; clear hlo
      obtain ⟨wo, hwo⟩ : ∃ wo, wo = wr := ⟨_, rfl⟩
      subst hwo
      go_wp2_with fail
      go_loopw [7, 24] (fun o i wr => ∃ t : Nat, t ≤ s ∧ i = .int .i64 t ∧ Ch [] w wr ∧ row wr 4 1 o (s + t) (bools (GL.take (s + t))) ∧ ∀ q ∈ o.ownBlock.toList, w.heap.size ≤ q) (fun _ i _ => s - (intOf i).toNat)
      case atStart => exact ⟨0, by omega, rfl, HC1.out, HROW.out, HLO1.out⟩
      case round =>
        clear HROW HC1 HLO1
        obtain ⟨t, ht, rfl, hc, hrow, hlo⟩ := hrel
        obtain ⟨oa, oc, rfl⟩ := row.shape hrow
        have HROW := Lib.hid hrow; clear hrow
        by_cases hlt3 : t < s
        · have hsn := HS2.out t hlt3
          have hbit := bit_i64 b t (by omega)
          rw [← Nat.testBit_eq_decide_div_mod_eq] at hbit
          have HC2 := Lib.hid hc; clear hc
          have HLO := Lib.hid hlo; clear hlo
          generalize b.testBit t = tb' at hsn hbit
          have hcA : Ch [] wr (wr.alloc (.cells #[.bool tb'] 4)) := (Ch.refl _ _).alloc _
          have hrA := HROW.out.ch hcA (by simp)
          have hbA : blk (wr.alloc (.cells #[.bool tb'] 4)) wr.heap.size [.bool tb'] := blk.new' _ _ rfl
          have HSU := Lib.hid hsn; clear hsn
          have HRA := Lib.hid hrA; clear hrA
          have HBA := Lib.hid hbA; clear hbA
          have HCA := Lib.hid hcA; clear hcA
          go_wp2_with (at_builtin; go_loud (refine wpList_append_row slBools rfl _ _ rfl (v := .slice oa (s + t) oc) (n := s + t) (xs := bools (GL.take (s + t))) rfl HRA.out (ad := ⟨wr.heap.size, 0, none⟩) (m := 1) (c := 1) (news := [.bool tb']) rfl rfl (news_blk HBA.out) (by simp [Value.oneCell']) (by omega) (by omega) ?_; intro v' w5 hown4 hC4 hf4; have HO4 := Lib.hid hown4; clear hown4; have HCC4 := Lib.hid hC4; clear hC4; have HF4 := Lib.hid hf4; clear hf4))
          go_roundw
          case rel =>
            obtain ⟨q1, q2⟩ := app_step HC2.out HCA.out HLO.out HCC4.out HF4.out
            refine ⟨t + 1, by omega, by go_num, q1, ?_, q2⟩
            rw [show s + (t + 1) = s + t + 1 by omega, HSU.out, show bools (GL.take (s + t) ++ [tb']) = bools (GL.take (s + t)) ++ [.bool tb'] by simp [bools]]
            exact HO4.out
          case measure => simp [intOf]; omega
        · have htm : t = s := by omega
          subst htm
          have hrow := HROW.out
          rw [List.take_of_length_le (by omega)] at hrow
          have HR := Lib.hid hrow; clear hrow HROW
          have HC2 := Lib.hid hc; clear hc
          have HLO := Lib.hid hlo; clear hlo
          go_wp2_with fail
          go_ret
          exact ⟨_, rfl, HR.out, HLO.out, HC2.out⟩
end Go.Proofs.Ytkedpifopclipaa
namespace Go.Proofs.Ytkedpifopclipaa
open Go.RowKit Go.Mem Go.Aig
def ma0 : Gra := ⟨4000, [⟨1, 0, 0, 0⟩, ⟨2, 0, 0, 0⟩, ⟨2, 0, 0, 0⟩, ⟨2, 0, 0, 0⟩, ⟨2, 0, 0, 0⟩]⟩
def ma1 : Gra := (mulG ma0 (natInts [2, 4]) (natInts [6, 8])).1
theorem zeros_new (w : World) (n : Nat) (hn : n ≤ 1000000) : WNew w (.slice (some ⟨w.heap.size, 0, none⟩) n n) (intCells (List.replicate n 0)) (w.alloc (.cells (refsCells (List.replicate n 0)).toArray 45)) := by
  have e : intCells (List.replicate n 0) = refsCells (List.replicate n 0) := by simp [intCells, refsCells]
  have h := row_fresh (w := w) (l := List.replicate n 0) (n := n) rfl (by simp) hn
  rw [e] at h
  rw [e]
  exact ⟨by simpa [refsCells] using h, by simp [Value.ownBlock], (Ch.refl _ _).alloc _⟩
theorem Hold.zeros {w0 : Base} {w : World} {g : Nat} {G : Gra} {F : List Nat} {L : List (Value × List Int)} (h : Hold w0 w g G F L) (n : Nat) (hn : n ≤ 1000000) : Hold w0 (w.alloc (.cells (refsCells (List.replicate n 0)).toArray 45)) g G F ((.slice (some ⟨w.heap.size, 0, none⟩) n n, List.replicate n 0) :: L) := by
  obtain ⟨a, c, e, ho⟩ := h.new (zeros_new w n hn) (fun r hr => by rw [(List.mem_replicate.1 hr).2]; omega) (by simpa using hn)
  rw [← e] at ho
  exact ho
/-- the words of the examples, read for the assignments -/
theorem reads24 : ∀ k, k < 4 → bitsR ma1 (givenL 2 2 k 0) (natInts [1, 1]) = ([true, true], 0) ∧ (bitsR ma1 (givenL 2 2 k 0) (natInts [2, 4])).2 = 0 ∧ (bitsR ma1 (givenL 2 2 k 0) (natInts [2, 4])).1.length = 2 ∧ bitsVal (bitsR ma1 (givenL 2 2 k 0) (natInts [2, 4])).1 = k := by
  intro k hk
  have : k = 0 ∨ k = 1 ∨ k = 2 ∨ k = 3 := by omega
  rcases this with rfl | rfl | rfl | rfl <;> decide +kernel
section
set_option maxRecDepth 100000 in
set_option maxHeartbeats 8000000 in
theorem awake24_is (w : World) : Calls Try.prog 48 #[] w fun e w' => e = .returned (.bool true) ∧ Ch [] w w' := by
  have hP := Pair_is w 1 (by omega)
  rw [show (1 : Nat) % 5 + 1 = 2 from rfl, show gIn 4000 (2 * 2) = ma0 from rfl, show rIn 2 2 = [6, 8] from rfl, show rIn 0 2 = [2, 4] from rfl] at hP
  have HP := Lib.hid hP; clear hP
  go_enter Try.func48, Try.ntmps48
  go_wp2_with fail
  refine HP.out.mono ?_
  rintro e w1 ⟨g, F1, a1, c1, a2, c2, rfl, ho⟩
  have HO := Lib.hid ho; clear ho HP
  go_wp2_with fail
  refine (mdMul_h HO.out (xa := a1) (xc := c1) (n := 2) (xl := natInts [2, 4]) (by simp) rfl (ya := a2) (yc := c2) (m := 2) (yl := natInts [6, 8]) (by simp) rfl (G' := ma1) (l := [10, 21]) (e := 0) (k := 2) (by kernel_rfl) rfl (by decide) (by decide)).mono ?_
  rintro e w2 ⟨a3, c3, F3, rfl, ho⟩
  clear HO; have HO := Lib.hid ho; clear ho
  have hx := HO.out.sl (a := a1) (c := c1) (n := 2) (l := natInts [2, 4]) (by simp) rfl
  have hy := HO.out.sl (a := a2) (c := c2) (n := 2) (l := natInts [6, 8]) (by simp) rfl
  obtain ⟨xb, xo, rfl, cx⟩ := hx.cells 0 2 rfl
  obtain ⟨yb, yo, rfl, cy⟩ := hy.cells 0 6 rfl
  rw [Nat.add_zero] at cx cy
  clear hx hy
  go_wp2_with fail
  refine Ord.St.door (fun _ => True) [.fl, .fl, .fl, .rd, .fl, .fl, .rd, .ef, .fl, .fl, .fl, .fl, .fl] [0, 0, 2, 6, 0, 16, 48, 127, 255, 511, 511, 1023, 4095] [0, 1, 2, 3, 4, 5, 6, 7, 8, 9, 10, 11, 12] mixed (by kernel_rfl) rfl ?_
  obtain ⟨Wc, hWc⟩ : ∃ Wc, Wc = w2.drew := ⟨_, rfl⟩
  rw [← hWc]
  have hcur : Ch [] w2 Wc := by rw [hWc]; exact (Ch.refl _ _).drew
  clear hWc
  have ho := HO.out.same hcur
  replace cx := (hcur.cell (cell_lt cx) (by simp)).trans cx
  replace cy := (hcur.cell (cell_lt cy) (by simp)).trans cy
  clear HO; have HO := Lib.hid ho; clear ho hcur
  refine Ord.St.fl2 (T' := ?_) 0 [1, 2, 3, 4, 5, 6, 7, 8, 9, 10, 11, 12] _ _ rfl (by kernel_rfl) rfl rfl rfl rfl (fun K w' hk => ?_) ?_
  rotate_left
  · go_step; exact hk
  refine Ord.St.fl2 (T' := ?_) 1 [2, 3, 4, 5, 6, 7, 8, 9, 10, 11, 12] _ _ rfl (by kernel_rfl) rfl rfl rfl rfl (fun K w' hk => ?_) ?_
  rotate_left
  · go_step; exact hk
  refine Ord.St.fl2 (T' := ?_) 2 [3, 4, 5, 6, 7, 8, 9, 10, 11, 12] _ _ rfl (by kernel_rfl) rfl rfl rfl rfl (fun K w' hk => ?_) ?_
  rotate_left
  · go_step; exact hk
  refine Ord.St.rd2 (T' := ?_) 3 [4, 5, 6, 7, 8, 9, 10, 11, 12] _ _ rfl (by kernel_rfl) rfl rfl rfl rfl (fun K hk => ?_) ?_
  rotate_left
  · go_step; exact hk
  refine Ord.St.fl2 (T' := ?_) 4 [5, 6, 7, 8, 9, 10, 11, 12] _ _ rfl (by kernel_rfl) rfl rfl rfl rfl (fun K w' hk => ?_) ?_
  rotate_left
  · go_step; exact hk
  refine Ord.St.fl2 (T' := ?_) 5 [6, 7, 8, 9, 10, 11, 12] _ _ rfl (by kernel_rfl) rfl rfl rfl rfl (fun K w' hk => ?_) ?_
  rotate_left
  · go_step; exact hk
  refine Ord.St.rd2 (T' := ?_) 6 [7, 8, 9, 10, 11, 12] _ _ rfl (by kernel_rfl) rfl rfl rfl rfl (fun K hk => ?_) ?_
  rotate_left
  · go_step; exact hk
  refine Ord.St.ef 7 [8, 9, 10, 11, 12] _ rfl (by kernel_rfl) (fun K hK => ?_)
  go_wp2_with fail
  refine (And_h HO.out 2 6 (by decide) (by decide) (G' := ma1) (r := 10) (e := 0) (by kernel_rfl)).mono ?_
  rintro e w9 ⟨F4, rfl, ho⟩
  clear HO cx cy; have HO := Lib.hid ho; clear ho
  go_wp2_with fail
  refine ⟨rfl, hK _ _ ?_⟩; clear hK K
  refine Ord.St.fl2 (T' := ?_) 8 [9, 10, 11, 12] _ _ rfl (by kernel_rfl) rfl rfl rfl rfl (fun K w' hk => ?_) ?_
  rotate_left
  · go_step; exact hk
  refine Ord.St.fl2 (T' := ?_) 9 [10, 11, 12] _ _ rfl (by kernel_rfl) rfl rfl rfl rfl (fun K w' hk => ?_) ?_
  rotate_left
  · go_step; exact hk
  refine Ord.St.fl2 (T' := ?_) 10 [11, 12] _ _ rfl (by kernel_rfl) rfl rfl rfl rfl (fun K w' hk => ?_) ?_
  rotate_left
  · go_step; exact hk
  refine Ord.St.fl2 (T' := ?_) 11 [12] _ _ rfl (by kernel_rfl) rfl rfl rfl rfl (fun K w' hk => ?_) ?_
  rotate_left
  · go_step; exact hk
  refine Ord.St.fl2 (T' := ?_) 12 [] _ _ rfl (by kernel_rfl) rfl rfl rfl rfl (fun K w' hk => ?_) ?_
  rotate_left
  · go_step; exact hk
  refine Ord.St.nil ?_
  go_wp2_with fail
  refine (Len_h HO.out (n := 11) (by kernel_rfl)).mono ?_
  rintro e w10 ⟨rfl, ho⟩
  clear HO; have HO := Lib.hid ho; clear ho
  go_wp2_with fail
  refine (mdTimes_h HO.out (xa := some ⟨xb, xo, none⟩) (xc := c1) (n := 2) (xl := natInts [2, 4]) (by simp) rfl 1 (by decide) (G' := ma1) (l := [2, 4]) (e := 0) (k := 2) (by kernel_rfl) rfl (by decide) (by decide)).mono ?_
  rintro e w11 ⟨a4, c4, F5, rfl, ho⟩
  clear HO; have HO := Lib.hid ho; clear ho
  go_wp2_with fail
  refine (mdTimes_h HO.out (xa := some ⟨xb, xo, none⟩) (xc := c1) (n := 2) (xl := natInts [2, 4]) (by simp) rfl 2 (by decide) (G' := ma1) (l := [0, 2]) (e := 0) (k := 2) (by kernel_rfl) rfl (by decide) (by decide)).mono ?_
  rintro e w12 ⟨a5, c5, F6, rfl, ho⟩
  clear HO; have HO := Lib.hid ho; clear ho
  have h3 := HO.out.sl (a := a3) (c := c3) (n := 2) (l := natInts [10, 21]) (by simp) rfl
  obtain ⟨pb, po, rfl, cp⟩ := h3.cells 0 10 rfl
  rw [Nat.add_zero] at cp
  clear h3
  go_wp2_with fail
  refine (Eqref_h HO.out (xa := a4) (xc := c4) (n := 2) (xl := natInts [2, 4]) (by simp) rfl (ya := some ⟨xb, xo, none⟩) (yc := c1) (m := 2) (yl := natInts [2, 4]) (by simp) rfl (q := true) (by decide)).mono ?_
  rintro e w13 ⟨rfl, ho⟩
  clear HO; have HO := Lib.hid ho; clear ho
  go_wp2_with fail
  have ho := HO.out.same ((Ch.refl [] w13).alloc (.cells #[.int .i64 0, .int .i64 2] 45))
  clear HO; have HO := Lib.hid ho; clear ho
  refine (Eqref_c HO.out (xa := a5) (xc := c5) (n := 2) (xl := natInts [0, 2]) (by simp) rfl (b := w13.heap.size) (m := 2) (ys := [0, 2]) (blk.new' _ _ rfl) rfl (by decide) (q := true) (by decide)).mono ?_
  rintro e w14 ⟨rfl, ho⟩
  clear HO; have HO := Lib.hid ho; clear ho
  go_wp2_with fail
  refine (Len_h HO.out (n := 11) (by kernel_rfl)).mono ?_
  rintro e w15 ⟨rfl, ho⟩
  clear HO; have HO := Lib.hid ho; clear ho
  go_wp2_with fail
  refine (sConst_h HO.out 0 (by decide) 2 rfl).mono ?_
  rintro e w16 ⟨a6, c6, rfl, ho⟩
  clear HO; have HO := Lib.hid ho; clear ho
  rw [show constL 0 2 = [0, 0] from rfl] at HO
  go_wp2_with fail
  refine (mdBoth_h HO.out (xa := some ⟨xb, xo, none⟩) (xc := c1) (n := 2) (xl := natInts [2, 4]) (by simp) rfl (ya := a6) (yc := c6) (m := 2) (yl := natInts [0, 0]) (by simp) rfl (G' := ma1) (l1 := [1, 1]) (l2 := [2, 4]) (e := 0) (k1 := 2) (k2 := 2) (by kernel_rfl) rfl rfl (by decide) (by decide) (by decide) (by decide)).mono ?_
  rintro e w17 ⟨a7, c7, a8, c8, F7, rfl, ho⟩
  clear HO; have HO := Lib.hid ho; clear ho
  go_wp2_with fail
  go_loopw [127] (fun i wr => ∃ k : Nat, k ≤ 4 ∧ i = .int .i64 k ∧ Ch [] w17 wr) (fun i _ => 4 - (intOf i).toNat)
  case atStart => exact ⟨0, by omega, rfl, Ch.refl _ _⟩
  case round =>
    obtain ⟨k, hk, rfl, hc⟩ := hrel
    by_cases hk4 : k < 4
    · obtain ⟨r1, r2, r3, r4⟩ := reads24 k hk4
      have r2' : bitsR ma1 (givenL 2 2 k 0) (natInts [2, 4]) = ((bitsR ma1 (givenL 2 2 k 0) (natInts [2, 4])).1, 0) := Prod.ext rfl r2
      have hg1 := Given_is (w := wr) 2 k 0 (by omega) (by omega) (by omega)
      have HG1 := Lib.hid hg1; clear hg1
      have HC := Lib.hid hc; clear hc
      go_wp2_with fail
      refine HG1.out.mono ?_
      rintro e v1 ⟨gv, rfl, hrow, _, hc1⟩
      obtain ⟨ga, gc, rfl⟩ := row.shape hrow
      have hgl := givenL_len 2 2 k 0
      have hsb : Sb v1 ga (givenL 2 2 k 0) := row.sv hrow rfl (by omega)
      have hcc := HC.out.trans hc1 (by simp)
      have ho1 := HO.out.same hcc
      have hR := ReadsW_is ho1.own.gin (a := a7) (l := natInts [1, 1]) (m := 2) (c := c7) rfl (ho1.sl (a := a7) (c := c7) (n := 2) (l := natInts [1, 1]) (by simp) rfl) (ho1.at (a := a7) (n := 2) (c := c7) (l := natInts [1, 1]) (by simp) rfl).ok.bd (xa := ga) (ins := givenL 2 2 k 0) (k := 2 + 2) (xc := gc) hgl hsb (by omega) r1 rfl (by omega) (by omega)
      have HCC := Lib.hid hcc; clear hcc hc1 ho1 hsb hrow
      have HR := Lib.hid hR; clear hR
      go_wp2_with fail
      refine HR.out.mono ?_
      rintro e v2 ⟨rfl, hc2⟩
      have HC2 := Lib.hid (HCC.out.trans hc2 (by simp)); clear hc2
      have hg2 := Given_is (w := v2) 2 k 0 (by omega) (by omega) (by omega)
      have HG2 := Lib.hid hg2; clear hg2
      go_wp2_with fail
      refine HG2.out.mono ?_
      rintro e v3 ⟨gv, rfl, hrow, _, hc3⟩
      obtain ⟨ga2, gc2, rfl⟩ := row.shape hrow
      have hsb : Sb v3 ga2 (givenL 2 2 k 0) := row.sv hrow rfl (by omega)
      have hcc := HC2.out.trans hc3 (by simp)
      have ho1 := HO.out.same hcc
      have hR := ReadsW_is ho1.own.gin (a := a8) (l := natInts [2, 4]) (m := 2) (c := c8) rfl (ho1.sl (a := a8) (c := c8) (n := 2) (l := natInts [2, 4]) (by simp) rfl) (ho1.at (a := a8) (n := 2) (c := c8) (l := natInts [2, 4]) (by simp) rfl).ok.bd (xa := ga2) (ins := givenL 2 2 k 0) (k := 2 + 2) (xc := gc2) hgl hsb (by omega) r2' r3 (by omega) (by omega)
      rw [r4] at hR
      have HC3 := Lib.hid hcc; clear hcc hc3 ho1 hsb hrow
      have HR2 := Lib.hid hR; clear hR
      go_wp2_with fail
      refine HR2.out.mono ?_
      rintro e v4 ⟨rfl, hc4⟩
      have HC4 := Lib.hid (HC3.out.trans hc4 (by simp)); clear hc4
      go_wp2_with fail
      go_roundw
      case rel => exact ⟨k + 1, by omega, by go_num, HC4.out⟩
      case measure => simp [intOf]; omega
    · have ho := HO.out.same hc
      clear HO; have HO := Lib.hid ho; clear ho hc
      go_wp2_with fail
      refine (sConst_h HO.out 7 (by decide) 4 rfl).mono ?_
      rintro e w41 ⟨a9, c9, rfl, ho⟩
      clear HO; have HO := Lib.hid ho; clear ho
      rw [show constL 7 4 = [1, 1, 1, 0] from rfl] at HO
      go_wp2_with fail
      refine (sConst_h HO.out 2 (by decide) 4 rfl).mono ?_
      rintro e w42 ⟨a10, c10, rfl, ho⟩
      clear HO; have HO := Lib.hid ho; clear ho
      rw [show constL 2 4 = [0, 1, 0, 0] from rfl] at HO
      go_wp2_with fail
      refine (mdBoth_h HO.out (xa := a9) (xc := c9) (n := 4) (xl := natInts [1, 1, 1, 0]) (by simp) rfl (ya := a10) (yc := c10) (m := 4) (yl := natInts [0, 1, 0, 0]) (by simp) rfl (G' := ma1) (l1 := [1, 1, 0, 0]) (l2 := [1, 0, 0, 0]) (e := 0) (k1 := 4) (k2 := 4) (by kernel_rfl) rfl rfl (by decide) (by decide) (by decide) (by decide)).mono ?_
      rintro e w43 ⟨a11, c11, a12, c12, F8, rfl, ho⟩
      clear HO; have HO := Lib.hid ho; clear ho
      have hmk : ∀ W : World, (Instr.makeSlice 28 (.int .i64 17) (.int .i64 17)).run Try.prog W = .ok (.slice (some ⟨W.heap.size, 0, none⟩) 17 17) (W.alloc (.cells (refsCells (List.replicate 17 0)).toArray 45)) := fun W => run_make_refs W 17 (by omega)
      go_wp2_with fail
      refine Ord.St.door (fun _ => True) [.fl, .ef, .ef, .ef, .fl, .fl, .fl, .fl] [0, 0, 0, 7, 15, 31, 31, 127] [0, 1, 2, 3, 4, 5, 6, 7] mixed (by kernel_rfl) rfl ?_
      obtain ⟨Wc, hWc⟩ : ∃ Wc, Wc = w43.drew := ⟨_, rfl⟩
      rw [← hWc]
      have hcur : Ch [] w43 Wc := by rw [hWc]; exact (Ch.refl _ _).drew
      clear hWc
      have ho := HO.out.same hcur
      clear HO; have HO := Lib.hid ho; clear ho hcur
      refine Ord.St.fl2 (T' := ?_) 0 [1, 2, 3, 4, 5, 6, 7] _ _ rfl (by kernel_rfl) rfl rfl rfl rfl (fun K w' hk => ?_) ?_
      rotate_left
      · go_step; exact hk
      refine Ord.St.two 1 2 [2, 3, 4, 5, 6, 7] [1, 3, 4, 5, 6, 7] _ _ (by kernel_rfl) rfl rfl (by kernel_rfl) (by kernel_rfl) (fun K hK => ?_) (fun K hK => ?_)
      · go_wp2_with fail
        refine ⟨rfl, hK _ _ ?_ ?_⟩
        · trivial
        clear hK K
        refine Ord.St.ef 2 [3, 4, 5, 6, 7] _ rfl (by kernel_rfl) (fun K hK => ?_)
        go_wp2_with fail
        refine ⟨rfl, hK _ _ ?_⟩; clear hK K
        refine Ord.St.ef 3 [4, 5, 6, 7] _ rfl (by kernel_rfl) (fun K hK => ?_)
        have ho := (HO.out.zeros 17 (by omega)).zeros 17 (by omega)
        simp only [World.size_alloc] at ho
        clear HO; have HO := Lib.hid ho; clear ho
        go_wp2_with fail
        refine (mdMul_h HO.out (xl := List.replicate 17 0) (yl := List.replicate 17 0) (by simp) (by simp) (by simp) (by simp) (G' := ma1) (l := []) (e := 240) (k := 0) (by kernel_rfl) rfl (by simp) (by omega)).mono ?_
        rintro e w60 ⟨a13, c13, F9, rfl, ho⟩
        clear HO; have HO := Lib.hid ho; clear ho
        go_wp2_with fail
        refine ⟨rfl, hK _ _ ?_⟩; clear hK K
        refine Ord.St.fl2 (T' := ?_) 4 [5, 6, 7] _ _ rfl (by kernel_rfl) rfl rfl rfl rfl (fun K w' hk => ?_) ?_
        rotate_left
        · go_step; exact hk
        refine Ord.St.fl2 (T' := ?_) 5 [6, 7] _ _ rfl (by kernel_rfl) rfl rfl rfl rfl (fun K w' hk => ?_) ?_
        rotate_left
        · go_step; exact hk
        refine Ord.St.fl2 (T' := ?_) 6 [7] _ _ rfl (by kernel_rfl) rfl rfl rfl rfl (fun K w' hk => ?_) ?_
        rotate_left
        · go_step; exact hk
        refine Ord.St.fl2 (T' := ?_) 7 [] _ _ rfl (by kernel_rfl) rfl rfl rfl rfl (fun K w' hk => ?_) ?_
        rotate_left
        · go_step; exact hk
        refine Ord.St.nil ?_
        go_wp2_with fail
        have ho := HO.out.same ((Ch.refl [] w60).alloc (.cells #[.int .i64 1, .int .i64 1, .int .i64 0, .int .i64 0] 45))
        clear HO; have HO := Lib.hid ho; clear ho
        refine (Eqref_c HO.out (xa := a11) (xc := c11) (n := 4) (xl := natInts [1, 1, 0, 0]) (by simp) rfl (b := w60.heap.size) (m := 4) (ys := [1, 1, 0, 0]) (blk.new' _ _ rfl) rfl (by decide) (q := true) (by decide)).mono ?_
        rintro e w61 ⟨rfl, ho⟩
        clear HO; have HO := Lib.hid ho; clear ho
        go_wp2_with fail
        have ho := HO.out.same ((Ch.refl [] w61).alloc (.cells #[.int .i64 1, .int .i64 0, .int .i64 0, .int .i64 0] 45))
        clear HO; have HO := Lib.hid ho; clear ho
        refine (Eqref_c HO.out (xa := a12) (xc := c12) (n := 4) (xl := natInts [1, 0, 0, 0]) (by simp) rfl (b := w61.heap.size) (m := 4) (ys := [1, 0, 0, 0]) (blk.new' _ _ rfl) rfl (by decide) (q := true) (by decide)).mono ?_
        rintro e w62 ⟨rfl, ho⟩
        clear HO; have HO := Lib.hid ho; clear ho
        go_wp2_with fail
        go_ret
        exact ⟨rfl, HO.out.ch⟩
      · go_wp2_with fail
        refine ⟨rfl, hK _ _ ?_ ?_⟩
        · trivial
        clear hK K
        refine Ord.St.ef 1 [3, 4, 5, 6, 7] _ rfl (by kernel_rfl) (fun K hK => ?_)
        go_wp2_with fail
        refine ⟨rfl, hK _ _ ?_⟩; clear hK K
        refine Ord.St.ef 3 [4, 5, 6, 7] _ rfl (by kernel_rfl) (fun K hK => ?_)
        have ho := (HO.out.zeros 17 (by omega)).zeros 17 (by omega)
        simp only [World.size_alloc] at ho
        clear HO; have HO := Lib.hid ho; clear ho
        go_wp2_with fail
        refine (mdMul_h HO.out (xl := List.replicate 17 0) (yl := List.replicate 17 0) (by simp) (by simp) (by simp) (by simp) (G' := ma1) (l := []) (e := 240) (k := 0) (by kernel_rfl) rfl (by simp) (by omega)).mono ?_
        rintro e w60 ⟨a13, c13, F9, rfl, ho⟩
        clear HO; have HO := Lib.hid ho; clear ho
        go_wp2_with fail
        refine ⟨rfl, hK _ _ ?_⟩; clear hK K
        refine Ord.St.fl2 (T' := ?_) 4 [5, 6, 7] _ _ rfl (by kernel_rfl) rfl rfl rfl rfl (fun K w' hk => ?_) ?_
        rotate_left
        · go_step; exact hk
        refine Ord.St.fl2 (T' := ?_) 5 [6, 7] _ _ rfl (by kernel_rfl) rfl rfl rfl rfl (fun K w' hk => ?_) ?_
        rotate_left
        · go_step; exact hk
        refine Ord.St.fl2 (T' := ?_) 6 [7] _ _ rfl (by kernel_rfl) rfl rfl rfl rfl (fun K w' hk => ?_) ?_
        rotate_left
        · go_step; exact hk
        refine Ord.St.fl2 (T' := ?_) 7 [] _ _ rfl (by kernel_rfl) rfl rfl rfl rfl (fun K w' hk => ?_) ?_
        rotate_left
        · go_step; exact hk
        refine Ord.St.nil ?_
        go_wp2_with fail
        have ho := HO.out.same ((Ch.refl [] w60).alloc (.cells #[.int .i64 1, .int .i64 1, .int .i64 0, .int .i64 0] 45))
        clear HO; have HO := Lib.hid ho; clear ho
        refine (Eqref_c HO.out (xa := a11) (xc := c11) (n := 4) (xl := natInts [1, 1, 0, 0]) (by simp) rfl (b := w60.heap.size) (m := 4) (ys := [1, 1, 0, 0]) (blk.new' _ _ rfl) rfl (by decide) (q := true) (by decide)).mono ?_
        rintro e w61 ⟨rfl, ho⟩
        clear HO; have HO := Lib.hid ho; clear ho
        go_wp2_with fail
        have ho := HO.out.same ((Ch.refl [] w61).alloc (.cells #[.int .i64 1, .int .i64 0, .int .i64 0, .int .i64 0] 45))
        clear HO; have HO := Lib.hid ho; clear ho
        refine (Eqref_c HO.out (xa := a12) (xc := c12) (n := 4) (xl := natInts [1, 0, 0, 0]) (by simp) rfl (b := w61.heap.size) (m := 4) (ys := [1, 0, 0, 0]) (blk.new' _ _ rfl) rfl (by decide) (q := true) (by decide)).mono ?_
        rintro e w62 ⟨rfl, ho⟩
        clear HO; have HO := Lib.hid ho; clear ho
        go_wp2_with fail
        go_ret
        exact ⟨rfl, HO.out.ch⟩
end
end Go.Proofs.Ytkedpifopclipaa
namespace Go.Proofs.Ytkedpifopclipaa
open Go.RowKit Go.Mem Go.Aig
attribute [local go_sem] Oper.semAt_some
/-- what is known between two rounds of step -/
structure E5 (w : World) (g : Nat) (F : List Nat) (c : Nat) (W : World) (v : Value) (Gp : Gra) (l : List Nat) (F' : List Nat) : Prop where
  gin : GIn W g Gp F'
  ch : Ch F w W
  own : ∀ k ∈ F', k ∈ F ∨ w.heap.size + 7 + 2 ≤ k
  map : F'[2]? = F[2]?
  b4 : blk W w.heap.size [.pointer (some ⟨g, 0, none⟩)]
  b5 : blk W (w.heap.size + 1) [.int .i64 c]
  b8 : blk W (w.heap.size + 2) [.slice none 0 0]
  b9 : blk W (w.heap.size + 3) [.int .i64 0]
  b10 : blk W (w.heap.size + 4) [v]
  row : Go.Mem.row W 45 1 v l.length (refsCells l)
  fresh : ∀ k, v.ownBlock = some k → w.heap.size + 7 + 2 ≤ k ∧ k ∉ F'
structure I5 (w : World) (g : Nat) (G : Gra) (F : List Nat) (c : Nat) (pre : List (Nat × Nat)) (W : World) : Prop where
  ex : ∃ v Gp l F', eachF (rop (muxOf c)) (G, 0) pre = ((Gp, 0), l) ∧ Ok Gp ∧ Ext G Gp ∧ E5 w g F c W v Gp l F'
section
variable {w A A' : World} {g c : Nat} {G Gp : Gra} {F F' : List Nat} {v : Value} {l : List Nat}
end
end Go.Proofs.Ytkedpifopclipaa
namespace Go.Aig
/-- a word of references shifted -/
def shN (side : Nat) (x : List Nat) (n : Nat) : List Nat := (List.range x.length).map fun i => if side = 1 then (if n ≤ i then x.getD (i - n) 0 else 0) else x.getD (i + n) 0
@[simp] theorem shN_len (side : Nat) (x : List Nat) (n : Nat) : (shN side x n).length = x.length := by simp [shN]
end Go.Aig
namespace Go.Aig
@[simp] theorem turnL_len (x : List Int) (n : Int) : (turnL x n).length = x.length := by
  unfold turnL
  dsimp only
  by_cases hx : 0 < x.length
  · have h1 := Int.emod_nonneg n (show (x.length : Int) ≠ 0 by omega)
    have h2 := Int.emod_lt_of_pos n (show (0 : Int) < x.length by omega)
    have e : n.emod x.length = n % x.length := rfl
    rw [List.length_append, List.length_drop, List.length_take]
    omega
  · have : x = [] := List.eq_nil_of_length_eq_zero (by omega)
    subst this
    simp
/-! ### shifts by constants -/
instance : DecidableEq Gra := fun a b => decidable_of_iff (a.most = b.most ∧ a.nodes = b.nodes) ⟨fun h => by cases a; cases b; simp_all, fun h => by subst h; exact ⟨rfl, rfl⟩⟩
end Go.Aig
namespace Go.Aig
/-- what is made: a product, or a quotient and a rest -/
def mk24 (G : Gra) (n : Nat) (kind : Bool) : Gra × List (List Nat) × Nat :=
  if kind then ((bothG G (natInts (rIn 0 n)) (natInts (rIn n n))).1, [(bothG G (natInts (rIn 0 n)) (natInts (rIn n n))).2.1.1, (bothG G (natInts (rIn 0 n)) (natInts (rIn n n))).2.1.2], (bothG G (natInts (rIn 0 n)) (natInts (rIn n n))).2.2)
  else ((mulG G (natInts (rIn 0 n)) (natInts (rIn n n))).1, [(mulG G (natInts (rIn 0 n)) (natInts (rIn n n))).2.1], (mulG G (natInts (rIn 0 n)) (natInts (rIn n n))).2.2)
def agA (n : Nat) (kind : Bool) : Bool :=
  let A := mk24 (gIn 3000 (2 * n)) n kind
  let N := A.1.nodes.length
  let H := mk24 (gIn N (2 * n)) n kind
  let C := mk24 H.1 n kind
  A.2.2 == 0 && H.2.2 == 0 && C.2.2 == 0 && H.2.1 == A.2.1 && C.2.1 == A.2.1 && H.1.nodes.length == N && C.1.nodes.length == N && H.1.most == N && (A.2.1.all fun l => l.length == n && l.all fun r => decide (r ≤ 1000000)) && decide (2 * n < N) && decide (N ≤ 3000) && inputs A.1.nodes == rIn 0 (2 * n) && decide (C.1 = H.1)
def agD (n : Nat) (kind : Bool) : Bool :=
  let N := (mk24 (gIn 3000 (2 * n)) n kind).1.nodes.length
  (List.range 3).all fun j => decide (N - 1 - j ≤ 2 * n) || (let D := mk24 (gIn (N - 1 - j) (2 * n)) n kind; D.2.2 == 201 && D.1.nodes.length == 2 * n + 1 && D.2.1.all fun l => l.isEmpty)
set_option maxRecDepth 100000 in
theorem ag_A1f : agA 1 false = true := by decide +kernel
set_option maxRecDepth 100000 in
theorem ag_A1t : agA 1 true = true := by decide +kernel
set_option maxRecDepth 100000 in
theorem ag_A2f : agA 2 false = true := by decide +kernel
set_option maxRecDepth 100000 in
theorem ag_A2t : agA 2 true = true := by decide +kernel
set_option maxRecDepth 100000 in
theorem ag_A3f : agA 3 false = true := by decide +kernel
set_option maxRecDepth 100000 in
theorem ag_A3t : agA 3 true = true := by decide +kernel
set_option maxRecDepth 100000 in
theorem ag_A4f : agA 4 false = true := by decide +kernel
set_option maxRecDepth 100000 in
theorem ag_A4t : agA 4 true = true := by decide +kernel
set_option maxRecDepth 100000 in
theorem ag_D1f : agD 1 false = true := by decide +kernel
set_option maxRecDepth 100000 in
theorem ag_D1t : agD 1 true = true := by decide +kernel
set_option maxRecDepth 100000 in
theorem ag_D2f : agD 2 false = true := by decide +kernel
set_option maxRecDepth 100000 in
theorem ag_D2t : agD 2 true = true := by decide +kernel
set_option maxRecDepth 100000 in
theorem ag_D3f : agD 3 false = true := by decide +kernel
set_option maxRecDepth 100000 in
theorem ag_D3t : agD 3 true = true := by decide +kernel
set_option maxRecDepth 100000 in
theorem ag_D4f : agD 4 false = true := by decide +kernel
set_option maxRecDepth 100000 in
theorem ag_D4t : agD 4 true = true := by decide +kernel
theorem ag_allA {n : Nat} (h1 : 1 ≤ n) (h4 : n ≤ 4) (kind : Bool) : agA n kind = true := by
  rcases (by omega : n = 1 ∨ n = 2 ∨ n = 3 ∨ n = 4) with rfl | rfl | rfl | rfl <;> cases kind
  · exact ag_A1f
  · exact ag_A1t
  · exact ag_A2f
  · exact ag_A2t
  · exact ag_A3f
  · exact ag_A3t
  · exact ag_A4f
  · exact ag_A4t
theorem ag_allD {n : Nat} (h1 : 1 ≤ n) (h4 : n ≤ 4) (kind : Bool) : agD n kind = true := by
  rcases (by omega : n = 1 ∨ n = 2 ∨ n = 3 ∨ n = 4) with rfl | rfl | rfl | rfl <;> cases kind
  · exact ag_D1f
  · exact ag_D1t
  · exact ag_D2f
  · exact ag_D2t
  · exact ag_D3f
  · exact ag_D3t
  · exact ag_D4f
  · exact ag_D4t
/-- what MuldivAgain finds: what is made (twice, and once more), and what is refused -/
structure AgF (n : Nat) (kind : Bool) (N : Nat) (A H : Gra) (l : List (List Nat)) : Prop where
  a : mk24 (gIn 3000 (2 * n)) n kind = (A, l, 0)
  h : mk24 (gIn N (2 * n)) n kind = (H, l, 0)
  c : mk24 H n kind = (H, l, 0)
  an : A.nodes.length = N
  hn : H.nodes.length = N
  hm : H.most = N
  len : ∀ x ∈ l, x.length = n
  bd : ∀ x ∈ l, ∀ r ∈ x, r ≤ 1000000
  lo : 2 * n < N
  hi : N ≤ 3000
  inp : inputs A.nodes = rIn 0 (2 * n)
  d : ∀ M, 2 * n < M → M < N → N < M + 4 → ∃ D, mk24 (gIn M (2 * n)) n kind = (D, (if kind then [[], []] else [[]]), 201) ∧ D.nodes.length = 2 * n + 1
theorem ag_facts {n : Nat} (h1 : 1 ≤ n) (h4 : n ≤ 4) (kind : Bool) : ∃ N A H l, AgF n kind N A H l := by
  have hA := ag_allA h1 h4 kind
  have hD := ag_allD h1 h4 kind
  unfold agA at hA
  unfold agD at hD
  simp only at hA hD
  simp only [List.all_eq_true, Bool.or_eq_true, decide_eq_true_eq] at hD
  generalize hm : mk24 (gIn 3000 (2 * n)) n kind = A at hA hD
  obtain ⟨A, l, ae⟩ := A
  simp only at hA hD
  generalize hN : A.nodes.length = N at hA hD
  generalize hh : mk24 (gIn N (2 * n)) n kind = H at hA
  obtain ⟨H, hl, he⟩ := H
  simp only at hA
  generalize hc : mk24 H n kind = C at hA
  obtain ⟨C, cl, ce⟩ := C
  simp only [Bool.and_eq_true, beq_iff_eq, List.all_eq_true, decide_eq_true_eq] at hA
  obtain ⟨⟨⟨⟨⟨⟨⟨⟨⟨⟨⟨⟨rfl, rfl⟩, rfl⟩, rfl⟩, rfl⟩, g1⟩, _⟩, g3⟩, g4⟩, g5⟩, g6⟩, g7⟩, rfl⟩ := hA
  refine ⟨N, A, _, _, hm, hh, hc, hN, g1, g3, fun x hx => (g4 x hx).1, fun x hx => (g4 x hx).2, g5, g6, g7, fun M m1 m2 m3 => ?_⟩
  have h := hD (N - 1 - M) (List.mem_range.2 (by omega))
  rw [show N - 1 - (N - 1 - M) = M by omega] at h
  rcases h with h | h
  · omega
  · simp only [Bool.and_eq_true, beq_iff_eq, List.all_eq_true, List.isEmpty_iff] at h
    generalize hd : mk24 (gIn M (2 * n)) n kind = D at h
    obtain ⟨D, dl, de⟩ := D
    obtain ⟨⟨rfl, h2⟩, h3⟩ := h
    refine ⟨D, ?_, h2⟩
    congr 2
    unfold mk24 at hd
    cases kind
    · simp only [Bool.false_eq_true, if_false, Prod.mk.injEq] at hd
      obtain ⟨_, rfl, _⟩ := hd
      simp only [List.mem_singleton, forall_eq] at h3
      rw [h3]
      rfl
    · simp only [if_true, Prod.mk.injEq] at hd
      obtain ⟨_, rfl, _⟩ := hd
      simp only [List.mem_cons, List.not_mem_nil, or_false, forall_eq_or_imp, forall_eq] at h3
      rw [h3.1, h3.2]
      rfl
theorem mk24_f {G A : Gra} {n e : Nat} {l : List (List Nat)} (h : mk24 G n false = (A, l, e)) : ∃ p, l = [p] ∧ mulG G (natInts (rIn 0 n)) (natInts (rIn n n)) = (A, p, e) := by
  unfold mk24 at h
  simp only [Bool.false_eq_true, if_false, Prod.mk.injEq] at h
  obtain ⟨rfl, rfl, rfl⟩ := h
  exact ⟨_, rfl, rfl⟩
theorem mk24_t {G A : Gra} {n e : Nat} {l : List (List Nat)} (h : mk24 G n true = (A, l, e)) : ∃ q r, l = [q, r] ∧ bothG G (natInts (rIn 0 n)) (natInts (rIn n n)) = (A, (q, r), e) := by
  unfold mk24 at h
  simp only [if_true, Prod.mk.injEq] at h
  obtain ⟨rfl, rfl, rfl⟩ := h
  exact ⟨_, _, rfl, rfl⟩
structure AgM (n N : Nat) (A H : Gra) (p : List Nat) : Prop where
  a : mulG (gIn 3000 (2 * n)) (natInts (rIn 0 n)) (natInts (rIn n n)) = (A, p, 0)
  h : mulG (gIn N (2 * n)) (natInts (rIn 0 n)) (natInts (rIn n n)) = (H, p, 0)
  c : mulG H (natInts (rIn 0 n)) (natInts (rIn n n)) = (H, p, 0)
  an : A.nodes.length = N
  hn : H.nodes.length = N
  hm : H.most = N
  len : p.length = n
  bd : ∀ r ∈ p, r ≤ 1000000
  lo : 2 * n < N
  hi : N ≤ 3000
  inp : inputs A.nodes = rIn 0 (2 * n)
  d : ∀ M, 2 * n < M → M < N → N < M + 4 → ∃ D, mulG (gIn M (2 * n)) (natInts (rIn 0 n)) (natInts (rIn n n)) = (D, [], 201) ∧ D.nodes.length = 2 * n + 1
structure AgB (n N : Nat) (A H : Gra) (q r : List Nat) : Prop where
  a : bothG (gIn 3000 (2 * n)) (natInts (rIn 0 n)) (natInts (rIn n n)) = (A, (q, r), 0)
  h : bothG (gIn N (2 * n)) (natInts (rIn 0 n)) (natInts (rIn n n)) = (H, (q, r), 0)
  c : bothG H (natInts (rIn 0 n)) (natInts (rIn n n)) = (H, (q, r), 0)
  an : A.nodes.length = N
  hn : H.nodes.length = N
  hm : H.most = N
  len : q.length = n
  bd : ∀ r ∈ q, r ≤ 1000000
  len2 : r.length = n
  bd2 : ∀ x ∈ r, x ≤ 1000000
  lo : 2 * n < N
  hi : N ≤ 3000
  inp : inputs A.nodes = rIn 0 (2 * n)
  d : ∀ M, 2 * n < M → M < N → N < M + 4 → ∃ D, bothG (gIn M (2 * n)) (natInts (rIn 0 n)) (natInts (rIn n n)) = (D, ([], []), 201) ∧ D.nodes.length = 2 * n + 1
theorem agm_facts {n : Nat} (h1 : 1 ≤ n) (h4 : n ≤ 4) : ∃ N A H p, AgM n N A H p := by
  obtain ⟨N, A, H, l, h⟩ := ag_facts h1 h4 false
  obtain ⟨p, rfl, ha⟩ := mk24_f h.a
  obtain ⟨p1, e1, hh⟩ := mk24_f h.h
  obtain ⟨p2, e2, hc⟩ := mk24_f h.c
  cases e1
  cases e2
  refine ⟨N, A, H, p, ha, hh, hc, h.an, h.hn, h.hm, h.len p (by simp), h.bd p (by simp), h.lo, h.hi, h.inp, fun M m1 m2 m3 => ?_⟩
  obtain ⟨D, hd, hn⟩ := h.d M m1 m2 m3
  obtain ⟨p3, e3, hd⟩ := mk24_f hd
  cases e3
  exact ⟨D, hd, hn⟩
theorem agb_facts {n : Nat} (h1 : 1 ≤ n) (h4 : n ≤ 4) : ∃ N A H q r, AgB n N A H q r := by
  obtain ⟨N, A, H, l, h⟩ := ag_facts h1 h4 true
  obtain ⟨q, r, rfl, ha⟩ := mk24_t h.a
  obtain ⟨q1, r1, e1, hh⟩ := mk24_t h.h
  obtain ⟨q2, r2, e2, hc⟩ := mk24_t h.c
  cases e1
  cases e2
  refine ⟨N, A, H, q, r, ha, hh, hc, h.an, h.hn, h.hm, h.len q (by simp), h.bd q (by simp), h.len r (by simp), h.bd r (by simp), h.lo, h.hi, h.inp, fun M m1 m2 m3 => ?_⟩
  obtain ⟨D, hd, hn⟩ := h.d M m1 m2 m3
  obtain ⟨q3, r3, e3, hd⟩ := mk24_t hd
  cases e3
  exact ⟨D, hd, hn⟩
theorem rIn_cut (n : Nat) : rIn 0 (2 * n) = rIn 0 n ++ rIn n n := by
  unfold rIn
  rw [Nat.two_mul, List.range_add, List.map_append, List.map_map]
  congr 1
  exact List.map_congr_left fun i _ => by simp
end Go.Aig
namespace Go.Proofs.Ytkedpifopclipaa
open Go.RowKit Go.Mem Go.Aig
theorem fnvmk24f : Fnv 53 := fnv_of Try.func53 (by simp [Try.f53]) (by simp [Try.f53])
set_option maxRecDepth 100000 in
set_option maxHeartbeats 4000000 in
theorem mk24_mul {w : World} {b2 b3 wd kd n most : Nat} (h2 : blk w b2 [.int .u8 wd]) (h3 : blk w b3 [.int .u8 kd]) (hn : wd % 4 + 1 = n) (hk : kd % 2 = 0) (hm : 2 * n < most) (hm3 : most ≤ 3000) {G : Gra} {l : List Nat} {e k : Nat} (hR : mulG (gIn most (2 * n)) (natInts (rIn 0 n)) (natInts (rIn n n)) = (G, l, e)) (hl : l.length = k) (hb : ∀ r ∈ l, r ≤ 1000000) (hkl : k ≤ 1000000) :
    Calls Try.prog 53 #[.int .i64 most, .pointer (some ⟨b2, 0, none⟩), .pointer (some ⟨b3, 0, none⟩)] w fun en w' => ∃ g F lb a c xa xc ya yc, en = .returned (.tuple #[.pointer (some ⟨g, 0, none⟩), .slice (some ⟨lb, 0, none⟩) 1 1, .int .i64 e]) ∧
      Hold (Base.add (Base.mk w []) lb [.slice a k c]) w' g G F [(.slice a k c, natInts l), (.slice ya n yc, natInts (rIn n n)), (.slice xa n xc, natInts (rIn 0 n))] := by
  have hn1 : 1 ≤ n := by omega
  have hq : 1 + (wd : Int) % 4 = n := by omega
  have hq2 : (kd : Int) % 2 = 0 := by omega
  have hN := New_h (w := w) most (by omega) (by omega)
  have HN := Lib.hid hN; clear hN
  have H2 := Lib.hid h2; clear h2
  have H3 := Lib.hid h3; clear h3
  clear hn hk
  go_enter Try.func53, Try.ntmps53
  go_wp2_with fail
  refine HN.out.mono ?_
  rintro e1 w1 ⟨g, F1, rfl, ho⟩
  have d2 := (H2.out.ch ho.own.ch (by simp)).cell (i := 0) rfl
  have HO := Lib.hid ho; clear ho HN
  go_wp2_with fail
  refine (sInput_h HO.out n (G' := gIn most n) (l := rIn 0 n) (e := 0) (k := n) (by have := inG_gIn (most := most) (s := 0) hn1 (by omega) (by omega); rw [Nat.zero_add] at this; exact this) (by simp) (fun r hr => by have := rIn_le hr; omega) (by omega)).mono ?_
  rintro e2 w2 ⟨xa, xc, F2, rfl, ho⟩
  clear HO d2
  have d2 := (H2.out.ch ho.own.ch (by simp)).cell (i := 0) rfl
  have HO := Lib.hid ho; clear ho
  go_wp2_with fail
  refine (sInput_h HO.out n (G' := gIn most (2 * n)) (l := rIn n n) (e := 0) (k := n) (by have := inG_gIn (most := most) (s := n) hn1 (by omega) (by omega); rw [show n + n = 2 * n from by omega] at this; exact this) (by simp) (fun r hr => by have := rIn_le hr; omega) (by omega)).mono ?_
  rintro e3 w3 ⟨ya, yc, F3, rfl, ho⟩
  clear HO d2
  have d3 := (H3.out.ch ho.own.ch (by simp)).cell (i := 0) rfl
  have HO := Lib.hid ho; clear ho
  go_wp2_with fail
  refine (mdMul_h HO.out (xa := xa) (xc := xc) (n := n) (xl := natInts (rIn 0 n)) (by simp) (by simp) (ya := ya) (yc := yc) (m := n) (yl := natInts (rIn n n)) (by simp) (by simp) hR hl hb hkl).mono ?_
  rintro e4 w4 ⟨a, c, F4, rfl, ho⟩
  clear HO d3; have HO := Lib.hid ho; clear ho
  go_wp2_with fail
  have ho := HO.out.keepN ((Ch.refl [] w4).alloc (.cells #[.slice a k c] 28)) (blk.new w4 [.slice a k c] 28)
  have HO2 := Lib.hid ho; clear ho HO
  go_ret3
  exact ⟨g, F4, _, a, c, xa, xc, ya, yc, rfl, HO2.out⟩
set_option maxRecDepth 100000 in
set_option maxHeartbeats 4000000 in
theorem mk24_both {w : World} {b2 b3 wd kd n most : Nat} (h2 : blk w b2 [.int .u8 wd]) (h3 : blk w b3 [.int .u8 kd]) (hn : wd % 4 + 1 = n) (hk : kd % 2 = 1) (hm : 2 * n < most) (hm3 : most ≤ 3000) {G : Gra} {l1 l2 : List Nat} {e k1 k2 : Nat} (hR : bothG (gIn most (2 * n)) (natInts (rIn 0 n)) (natInts (rIn n n)) = (G, (l1, l2), e)) (hl1 : l1.length = k1) (hl2 : l2.length = k2) (hb1 : ∀ r ∈ l1, r ≤ 1000000) (hb2 : ∀ r ∈ l2, r ≤ 1000000) (hk1 : k1 ≤ 1000000) (hk2 : k2 ≤ 1000000) :
    Calls Try.prog 53 #[.int .i64 most, .pointer (some ⟨b2, 0, none⟩), .pointer (some ⟨b3, 0, none⟩)] w fun en w' => ∃ g F lb a c a2 c2 xa xc ya yc, en = .returned (.tuple #[.pointer (some ⟨g, 0, none⟩), .slice (some ⟨lb, 0, none⟩) 2 2, .int .i64 e]) ∧
      Hold (Base.add (Base.mk w []) lb [.slice a k1 c, .slice a2 k2 c2]) w' g G F [(.slice a2 k2 c2, natInts l2), (.slice a k1 c, natInts l1), (.slice ya n yc, natInts (rIn n n)), (.slice xa n xc, natInts (rIn 0 n))] := by
  have hn1 : 1 ≤ n := by omega
  have hq : 1 + (wd : Int) % 4 = n := by omega
  have hq2 : (kd : Int) % 2 = 1 := by omega
  have hN := New_h (w := w) most (by omega) (by omega)
  have HN := Lib.hid hN; clear hN
  have H2 := Lib.hid h2; clear h2
  have H3 := Lib.hid h3; clear h3
  clear hn hk
  go_enter Try.func53, Try.ntmps53
  go_wp2_with fail
  refine HN.out.mono ?_
  rintro e1 w1 ⟨g, F1, rfl, ho⟩
  have d2 := (H2.out.ch ho.own.ch (by simp)).cell (i := 0) rfl
  have HO := Lib.hid ho; clear ho HN
  go_wp2_with fail
  refine (sInput_h HO.out n (G' := gIn most n) (l := rIn 0 n) (e := 0) (k := n) (by have := inG_gIn (most := most) (s := 0) hn1 (by omega) (by omega); rw [Nat.zero_add] at this; exact this) (by simp) (fun r hr => by have := rIn_le hr; omega) (by omega)).mono ?_
  rintro e2 w2 ⟨xa, xc, F2, rfl, ho⟩
  clear HO d2
  have d2 := (H2.out.ch ho.own.ch (by simp)).cell (i := 0) rfl
  have HO := Lib.hid ho; clear ho
  go_wp2_with fail
  refine (sInput_h HO.out n (G' := gIn most (2 * n)) (l := rIn n n) (e := 0) (k := n) (by have := inG_gIn (most := most) (s := n) hn1 (by omega) (by omega); rw [show n + n = 2 * n from by omega] at this; exact this) (by simp) (fun r hr => by have := rIn_le hr; omega) (by omega)).mono ?_
  rintro e3 w3 ⟨ya, yc, F3, rfl, ho⟩
  clear HO d2
  have d3 := (H3.out.ch ho.own.ch (by simp)).cell (i := 0) rfl
  have HO := Lib.hid ho; clear ho
  go_wp2_with fail
  refine (mdBoth_h HO.out (xa := xa) (xc := xc) (n := n) (xl := natInts (rIn 0 n)) (by simp) (by simp) (ya := ya) (yc := yc) (m := n) (yl := natInts (rIn n n)) (by simp) (by simp) hR hl1 hl2 hb1 hb2 hk1 hk2).mono ?_
  rintro e4 w4 ⟨a, c, a2, c2, F4, rfl, ho⟩
  clear HO d3; have HO := Lib.hid ho; clear ho
  go_wp2_with fail
  have ho := HO.out.keepN ((Ch.refl [] w4).alloc (.cells #[.slice a k1 c, .slice a2 k2 c2] 28)) (blk.new w4 [.slice a k1 c, .slice a2 k2 c2] 28)
  have HO2 := Lib.hid ho; clear ho HO
  go_ret3
  exact ⟨g, F4, _, a, c, a2, c2, xa, xc, ya, yc, rfl, HO2.out⟩
end Go.Proofs.Ytkedpifopclipaa
namespace Go.Proofs.Ytkedpifopclipaa
open Go.RowKit Go.Mem Go.Aig
theorem fnvmk24g : Fnv 64 := fnv_of Try.func64 (by simp [Try.f64]) (by simp [Try.f64])
set_option maxRecDepth 100000 in
set_option maxHeartbeats 1000000 in
theorem mk24g_is (w : World) (a : Option Addr) (c : Nat) : Calls Try.prog 64 #[.slice a 0 c] w fun e w' => e = .returned (.bool false) ∧ w = w' := by
  go_enter Try.func64, Try.ntmps64
  go_wp2_with fail
  go_ret
  exact ⟨rfl, rfl⟩
set_option maxRecDepth 100000 in
set_option maxHeartbeats 1000000 in
theorem CFlst_no {w : World} {b n cap : Nat} (hn : n ≤ 1000) (hr : ∀ i, i < n → ∃ a c, w.cell? ⟨b, i, none⟩ = some (.slice a 0 c)) :
    Calls Try.prog 63 #[.slice (some ⟨b, 0, none⟩) n cap, .func (.func 64) #[] #[]] w fun e w' => e = .returned (.bool false) ∧ w = w' := by
  have hcf : ∀ args w, (callFunc 64 args).run Try.prog w = .ok (.enter 64 args) w := fnvmk24g
  have hI : Calls Try.prog 130 #[.slice (some ⟨b, 0, none⟩) n cap, .func (.func 64) #[] #[]] w fun e w' => e = .returned (.int .i64 (-1)) ∧ w = w' := by
    have HR := Lib.hid hr; clear hr
    go_enter Try.func130, Try.ntmps130
    go_wp2_with fail
    go_loopw [8] (fun i wr => ∃ k : Nat, k ≤ n ∧ i = .int .i64 k ∧ w = wr) (fun i _ => n - (intOf i).toNat)
    case atStart => exact ⟨0, by omega, rfl, by first | exact rfl | trivial⟩
    case round =>
      obtain ⟨k, hk, rfl, rfl⟩ := hrel
      by_cases hlt : k < n
      · obtain ⟨a, c, hc⟩ := HR.out k hlt
        have hg := mk24g_is w a c
        go_wp2_with fail
        refine hg.mono ?_
        rintro e w' ⟨rfl, rfl⟩
        go_wp2_with fail
        go_roundw
        case rel => exact ⟨k + 1, by omega, by go_num, trivial⟩
        case measure => simp [intOf]; omega
      · have hkn : k = n := by omega
        subst hkn
        go_wp2_with fail
        go_ret
        first | exact ⟨rfl, rfl⟩ | exact ⟨rfl, trivial⟩
  go_enter Try.func63, Try.ntmps63
  go_wp2_with fail
  refine hI.mono ?_
  rintro e w' ⟨rfl, rfl⟩
  go_wp2_with fail
  go_ret
  exact ⟨rfl, rfl⟩
end Go.Proofs.Ytkedpifopclipaa
namespace Go.Aig
end Go.Aig
namespace Go.Proofs.Ytkedpifopclipaa
open Go.RowKit Go.Mem Go.Aig
attribute [local go_sem] Oper.semAt_some
section
variable {w : World} {g m : Nat} {G : Gra} {F : List Nat}
end
end Go.Proofs.Ytkedpifopclipaa
namespace Go.Aig
end Go.Aig
namespace Go.Proofs.Ytkedpifopclipaa
open Go.RowKit Go.Mem Go.Aig
attribute [local go_sem] Oper.semAt_some
section
variable {w : World} {g m : Nat} {G : Gra} {F : List Nat}
end
end Go.Proofs.Ytkedpifopclipaa
namespace Go.Proofs.Ytkedpifopclipaa
open Go.RowKit Go.Mem Go.Aig
attribute [local go_sem] Oper.semAt_some
end Go.Proofs.Ytkedpifopclipaa
namespace Go.Proofs.Ytkedpifopclipaa
open Go.RowKit Go.Mem Go.Aig
attribute [local go_sem] Oper.semAt_some
section
variable {w : World} {g m : Nat} {G : Gra} {F : List Nat}
end
end Go.Proofs.Ytkedpifopclipaa
namespace Go.Proofs.Ytkedpifopclipaa
open Go.RowKit Go.Mem Go.Aig
section
variable {w0 : Base} {w : World} {g : Nat} {G : Gra} {F : List Nat} {L : List (Value × List Int)}
end
/-- an array of words that can be read -/
structure AR (w : World) (a : Option Addr) (L : List WV) : Prop where
  cells : ∀ (i : Nat) (x : WV), L[i]? = some x → ∃ b, a = some ⟨b, 0, none⟩ ∧ w.cell? ⟨b, i, none⟩ = some x.val ∧ WVok w x
theorem Hold.ar {w0 : Base} {w : World} {g : Nat} {G : Gra} {F : List Nat} {L : List (Value × List Int)} (h : Hold w0 w g G F L) {b : Nat} {cs : List Value} {ws : List WV} (hb : (b, cs) ∈ w0.K) (hc : ∀ (i : Nat) (x : WV), ws[i]? = some x → cs[i]? = some x.val) (hL : ∀ x ∈ ws, (x.val, x.l) ∈ L) : AR w (some ⟨b, 0, none⟩) ws :=
  ⟨fun i x hx => ⟨b, rfl, (h.kept _ hb).1.cell (hc i x hx), (h.at (hL x (List.mem_of_getElem? hx)) rfl).ok⟩⟩
theorem AR.ch {w w' : World} {a : Option Addr} {L : List WV} (h : AR w a L) (hc : Ch [] w w') : AR w' a L :=
  ⟨fun i x hx => by
    obtain ⟨b, e, h1, h2⟩ := h.cells i x hx
    exact ⟨b, e, (hc.cell (cell_lt h1) (by simp)).trans h1, h2.ch hc (by simp)⟩⟩
theorem fnvEqref : Fnv 59 := fnv_of Try.func59 (by simp [Try.f59]) (by simp [Try.f59])
set_option maxRecDepth 100000 in
set_option maxHeartbeats 2000000 in
theorem EFlst_yes {w : World} {a b : Option Addr} {As Bs : List WV} (n ca cb : Nat) (hn : n ≤ 1000000) (hA : AR w a As) (hB : AR w b Bs) (ha : As.length = n) (hb : Bs.length = n) (heq : ∀ (i : Nat) (x y : WV), As[i]? = some x → Bs[i]? = some y → x.l = y.l) :
    Calls Try.prog 58 #[.slice a n ca, .slice b n cb, .func (.func 59) #[] #[]] w fun e w' => e = .returned (.bool true) ∧ Ch [] w w' := by
  have hcf : ∀ args w, (callFunc 59 args).run Try.prog w = .ok (.enter 59 args) w := fnvEqref
  have HA := Lib.hid hA; clear hA
  have HB := Lib.hid hB; clear hB
  have HEQ := Lib.hid heq; clear heq
  go_enter Try.func58, Try.ntmps58
  go_wp2_with fail
  go_loopw [17] (fun i wr => ∃ k : Nat, k ≤ n ∧ i = .int .i64 k ∧ Ch [] w wr) (fun i _ => n - (intOf i).toNat)
  case atStart => exact ⟨0, Nat.zero_le _, rfl, Ch.refl _ _⟩
  case round =>
    obtain ⟨k, hk, rfl, hc⟩ := hrel
    by_cases hlt : k < n
    · obtain ⟨x, hx⟩ : ∃ x, As[k]? = some x := ⟨_, List.getElem?_eq_getElem (by omega)⟩
      obtain ⟨y, hy⟩ : ∃ y, Bs[k]? = some y := ⟨_, List.getElem?_eq_getElem (by omega)⟩
      have he := HEQ.out k x y hx hy
      obtain ⟨ab, rfl, c0, hxo⟩ := (HA.out.ch hc).cells k x hx
      obtain ⟨bb, rfl, c1, hyo⟩ := (HB.out.ch hc).cells k y hy
      have hE := Eqref_is (w := wr) x.c y.c hxo.sl hyo.sl
      rw [decide_eq_true he] at hE
      unfold WV.val at c0 c1
      obtain ⟨xa, xl, xc⟩ := x
      obtain ⟨ya, yl, yc⟩ := y
      simp only at c0 c1 hE
      have HE := Lib.hid hE; clear hE
      have HC := Lib.hid hc; clear hc
      clear hx hy he hxo hyo
      go_wp2_with fail
      refine HE.out.mono ?_
      rintro e w1 ⟨rfl, hc1⟩
      have HC1 := Lib.hid hc1; clear hc1 HE
      go_wp2_with fail
      go_roundw
      case rel => exact ⟨k + 1, by omega, by go_num, HC.out.trans HC1.out (by simp)⟩
      case measure => simp [intOf]; omega
    · have HC := Lib.hid hc; clear hc
      go_wp2_with fail
      go_ret
      exact ⟨rfl, HC.out⟩
end Go.Proofs.Ytkedpifopclipaa
namespace Go.Proofs.Ytkedpifopclipaa
open Go.RowKit Go.Mem Go.Aig
theorem Sl.cut2 {w : World} {b o : Nat} {xs ys : List Int} (h : Sl w (some ⟨b, o, none⟩) (xs ++ ys)) : Sl w (some ⟨b, o, none⟩) xs ∧ Sl w (some ⟨b, o + xs.length, none⟩) ys := by
  have hb := h.bd
  rw [List.length_append] at hb
  refine ⟨⟨fun i x hx => h.cells i x (by rw [List.getElem?_append_left (List.getElem?_eq_some_iff.1 hx).1]; exact hx), by omega⟩, ⟨fun i x hx => ?_, by omega⟩⟩
  obtain ⟨b', o', e, hc⟩ := h.cells (xs.length + i) x (by rw [List.getElem?_append_right (by omega), Nat.add_sub_cancel_left]; exact hx)
  cases e
  exact ⟨b, o + xs.length, rfl, by rw [Nat.add_assoc]; exact hc⟩
/-- the two halves of the inputs, as words -/
theorem halves {w : World} {F : List Nat} {ib ic n : Nat} (hr : row w 45 1 (.slice (some ⟨ib, 0, none⟩) (2 * n) ic) (2 * n) (refsCells (rIn 0 (2 * n)))) (hn : n ≤ 4) (hF : ib ∉ F ∧ ib < w.heap.size) : WVin w F ⟨some ⟨ib, 0, none⟩, natInts (rIn 0 n), ic⟩ ∧ WVin w F ⟨some ⟨ib, n, none⟩, natInts (rIn n n), ic - n⟩ := by
  have h := row.slN hr rfl (by omega)
  rw [rIn_cut, List.map_append] at h
  obtain ⟨h1, h2⟩ := Sl.cut2 h
  rw [List.length_map, rIn_len, Nat.zero_add] at h2
  have hb : ∀ s, s ≤ 4 → ∀ r ∈ natInts (rIn s n), -9223372036854775808 ≤ r ∧ r ≤ 9223372036854775807 := fun s hs r hr => by
    obtain ⟨z, hz, rfl⟩ := List.mem_map.1 hr
    have := rIn_le hz
    omega
  have hl : ∀ s, (natInts (rIn s n)).length ≤ 1000000 := fun s => by rw [natInts_len, rIn_len]; omega
  have ha : ∀ o k, k ∈ ablk (some (⟨ib, o, none⟩ : Addr)) → k ∉ F ∧ k < w.heap.size := fun o k hk => by
    simp [ablk] at hk
    subst hk
    exact hF
  exact ⟨⟨⟨h1, hb 0 (by omega), hl 0⟩, ha 0⟩, ⟨⟨h2, hb n hn, hl n⟩, ha n⟩⟩
theorem Hold.put {w0 : Base} {w : World} {g : Nat} {G : Gra} {F : List Nat} {L : List (Value × List Int)} (h : Hold w0 w g G F L) {v : Value} {l : List Nat} {n : Nat} (hn : l.length = n) (hr : row w 45 1 v n (refsCells l)) (hb : ∀ r ∈ l, r ≤ 1000000) (hl : n ≤ 1000000) (ho : ∀ k, v.ownBlock = some k → w0.w.heap.size ≤ k ∧ k ∉ F) : Hold w0 w g G F ((v, natInts l) :: L) := by
  refine ⟨h.own, fun p hp => ?_, h.kept⟩
  rcases List.mem_cons.1 hp with rfl | hp
  · refine ⟨?_, by rw [natInts_len]; omega, fun r hr => ?_, ho⟩
    · show row w _ 1 v (natInts l).length (intCells (natInts l))
      rw [natInts_len, hn, ← refs_natInts]
      exact hr
    · obtain ⟨z, hz, rfl⟩ := List.mem_map.1 hr
      have := hb z hz
      omega
  · exact h.held p hp
theorem halvesH {w0 : Base} {w : World} {g : Nat} {G : Gra} {F : List Nat} {L : List (Value × List Int)} {ib ic n : Nat} (h : Hold w0 w g G F L) (hm : (.slice (some ⟨ib, 0, none⟩) (2 * n) ic, natInts (rIn 0 (2 * n))) ∈ L) (hn : n ≤ 4) : WVin w F ⟨some ⟨ib, 0, none⟩, natInts (rIn 0 n), ic⟩ ∧ WVin w F ⟨some ⟨ib, n, none⟩, natInts (rIn n n), ic - n⟩ := by
  have hd := h.held _ hm
  have hr := hd.row
  rw [← refs_natInts, natInts_len, rIn_len] at hr
  exact halves hr hn ⟨(hd.own ib rfl).2, (hr.lt ib rfl).2⟩
set_option maxRecDepth 100000 in
set_option maxHeartbeats 8000000 in
theorem MuldivAgain_mul {w : World} (wd kd : Nat) (hw : wd ≤ 255) (hkk : kd ≤ 255) (hkd : kd % 2 = 0) : Calls Try.prog 11 #[.int .u8 wd, .int .u8 kd] w fun e w' => e = .returned (.bool true) ∧ Ch [] w w' := by
  obtain ⟨v, hv⟩ : ∃ v, wd % 4 = v := ⟨_, rfl⟩
  obtain ⟨n, hn, hn1, hn4⟩ : ∃ n, v + 1 = n ∧ 1 ≤ n ∧ n ≤ 4 := ⟨_, rfl, by omega, by omega⟩
  have hwn : wd % 4 + 1 = n := by omega
  have hq : 1 + (wd : Int) % 4 = n := by omega
  have hq2 : (kd : Int) % 2 = 0 := by omega
  obtain ⟨N, A, H, p, hf⟩ := agm_facts hn1 hn4
  have hN1 := hf.lo
  have hN2 := hf.hi
  have HF := Lib.hid hf; clear hf
  have HA := fun W => awake24_is W
  have hcf : ∀ args w, (callFunc 53 args).run Try.prog w = .ok (.enter 53 args) w := fnvmk24f
  have hcE : ∀ args w, (callFunc 59 args).run Try.prog w = .ok (.enter 59 args) w := fnvEqref
  clear hn hv
  have HWN := Lib.hid hwn; clear hwn
  have HKD := Lib.hid hkd; clear hkd
  go_enter Try.func11, Try.ntmps11
  go_wp2_with fail
  refine (HA _).mono ?_
  rintro e w1 ⟨rfl, hc1⟩
  obtain ⟨b2, hb2⟩ : ∃ b2, b2 = w.heap.size := ⟨_, rfl⟩
  have h2 := ((blk.new w [.int .u8 wd] 5).ch ((Ch.refl [] _).alloc (.cells #[.int .u8 kd] 5)) (by simp)).ch hc1 (by simp)
  have h3 := (blk.new (w.alloc (.cells #[.int .u8 wd] 5)) [.int .u8 kd] 5).ch hc1 (by simp)
  have hc0 := ((((Ch.refl [] w).alloc (.cells #[.int .u8 wd] 5)).alloc (.cells #[.int .u8 kd] 5))).trans hc1 (by simp)
  simp only [World.size_alloc] at h3 ⊢
  rw [← hb2] at h2 h3 ⊢
  clear hb2 hc1 HA
  have H2 := Lib.hid h2; clear h2
  have H3 := Lib.hid h3; clear h3
  have HC0 := Lib.hid hc0; clear hc0
  have hM := mk24_mul H2.out H3.out (n := n) HWN.out HKD.out (most := 3000) (by omega) (by omega) (l := p) (k := n) HF.out.a HF.out.len HF.out.bd (by omega)
  have HM := Lib.hid hM; clear hM
  go_wp2_with fail
  refine HM.out.mono ?_
  rintro e w2 ⟨g, F, lb, a, c, xa, xc, ya, yc, rfl, ho⟩
  have HO := Lib.hid ho; clear ho HM
  have hL := Len_g HO.out.own.gin
  rw [HF.out.an] at hL
  have HL := Lib.hid hL; clear hL
  go_wp2_with fail
  refine HL.out.mono ?_
  rintro e w3 ⟨rfl, rfl⟩
  clear HL
  have h2 := H2.out.ch HO.out.own.ch (by simp)
  have h3 := H3.out.ch HO.out.own.ch (by simp)
  have hM := mk24_mul h2 h3 (n := n) HWN.out HKD.out (most := N) (by omega) (by omega) (l := p) (k := n) HF.out.h HF.out.len HF.out.bd (by omega)
  have HM := Lib.hid hM; clear hM h2 h3
  go_wp2_with fail
  refine HM.out.mono ?_
  rintro e w4 ⟨gh, Fh, lbh, ah, ch, xah, xch, yah, ych, rfl, ho⟩
  have HH := Lib.hid ho; clear ho HM
  have hou := HO.out.same HH.out.own.ch
  have HOU := Lib.hid hou; clear hou
  have hA1 : AR w4 (some ⟨lb, 0, none⟩) [⟨a, natInts p, c⟩] := HOU.out.ar (b := lb) (cs := [.slice a n c]) (List.mem_cons_self ..) (fun i x hx => by rcases i with _ | i <;> simp at hx; subst hx; simp [WV.val, HF.out.len]) (fun x hx => by rcases List.mem_singleton.1 hx with rfl; simp [WV.val, HF.out.len])
  have hA2 : AR w4 (some ⟨lbh, 0, none⟩) [⟨ah, natInts p, ch⟩] := HH.out.ar (b := lbh) (cs := [.slice ah n ch]) (List.mem_cons_self ..) (fun i x hx => by rcases i with _ | i <;> simp at hx; subst hx; simp [WV.val, HF.out.len]) (fun x hx => by rcases List.mem_singleton.1 hx with rfl; simp [WV.val, HF.out.len])
  have hE := EFlst_yes 1 1 1 (by omega) hA1 hA2 rfl rfl (fun i x y hx hy => by rcases i with _ | i <;> simp at hx hy; subst hx; subst hy; rfl)
  have HE := Lib.hid hE; clear hE hA1 hA2
  go_wp2_with fail
  refine HE.out.mono ?_
  rintro e w5 ⟨rfl, hc5⟩
  have hh := HH.out.same hc5
  clear HOU HH HE hc5; have HH := Lib.hid hh; clear hh
  have hR := Room_g HH.out.own.gin
  rw [HF.out.hm, HF.out.hn, Nat.sub_self] at hR
  have HR := Lib.hid hR; clear hR
  go_wp2_with fail
  refine HR.out.mono ?_
  rintro e w6 ⟨rfl, hc6⟩
  have hh := HH.out.same hc6
  clear HH HR hc6; have HH := Lib.hid hh; clear hh
  have hI := Inputs_g (HO.out.same HH.out.own.ch).own.gin
  rw [HF.out.inp] at hI
  have HI := Lib.hid hI; clear hI
  go_wp2_with fail
  refine HI.out.mono ?_
  rintro e w7 ⟨v, rfl, hrow, hown, hc7⟩
  rw [rIn_len] at hrow
  obtain ⟨ib, ic, rfl⟩ := row.parts hrow (by omega)
  have hh := (HH.out.same hc7).put (rIn_len 0 (2 * n)) hrow (fun r hr => by have := rIn_le hr; omega) (by omega) (fun k hk => by
    cases hk
    have h1 := hown ib rfl
    have h2 := (HH.out.own.ch).size
    exact ⟨Nat.le_trans h2 h1, fun hk => by have h3 := HH.out.own.gin.lt ib hk; omega⟩)
  clear HH HI hc7; have HH := Lib.hid hh; clear hh
  have HROW := Lib.hid hrow; clear hrow hown
  have hdv : (((2 * n : Nat) : Int)) / 2 = n := by omega
  have d2 := ((H2.out.ch HO.out.own.ch (by simp)).ch HH.out.own.ch (by simp)).cell (i := 0) rfl
  have hcap : 2 * n ≤ ic ∧ ic ≤ 9223372036854775807 := by
    rcases HROW.out.2 with ⟨e1, h0⟩ | ⟨g', cap', cur, e1, _, _, h1, h2, _⟩
    · cases e1
    · cases e1; exact ⟨h1, by unfold maxLen at h2; exact h2⟩
  obtain ⟨hcap2, hcap3⟩ := hcap
  have hcap1 : n ≤ ic := by omega
  go_wp2_with fail
  clear d2
  refine Ord.St.door (fun _ => True) [.fl, .fl, .fl, .fl, .fl, .fl, .fl, .fl] [0, 0, 3, 0, 0, 24, 7, 127] [0, 1, 2, 3, 4, 5, 6, 7] mixed (by kernel_rfl) rfl ?_
  refine Ord.St.fl2 (T' := ?_) 0 [1, 2, 3, 4, 5, 6, 7] _ _ rfl (by kernel_rfl) rfl rfl rfl rfl (fun K w' hk => ?_) ?_
  rotate_left
  · go_step; exact hk
  refine Ord.St.fl2 (T' := ?_) 1 [2, 3, 4, 5, 6, 7] _ _ rfl (by kernel_rfl) rfl rfl rfl rfl (fun K w' hk => ?_) ?_
  rotate_left
  · go_step; exact hk
  refine Ord.St.fl2 (T' := ?_) 2 [3, 4, 5, 6, 7] _ _ rfl (by kernel_rfl) rfl rfl rfl rfl (fun K w' hk => ?_) ?_
  rotate_left
  · go_step; exact hk
  refine Ord.St.fl2 (T' := ?_) 3 [4, 5, 6, 7] _ _ rfl (by kernel_rfl) rfl rfl rfl rfl (fun K w' hk => ?_) ?_
  rotate_left
  · go_step; exact hk
  refine Ord.St.fl2 (T' := ?_) 4 [5, 6, 7] _ _ rfl (by kernel_rfl) rfl rfl rfl rfl (fun K w' hk => ?_) ?_
  rotate_left
  · go_step; exact hk
  refine Ord.St.fl2 (T' := ?_) 5 [6, 7] _ _ rfl (by kernel_rfl) rfl rfl rfl rfl (fun K w' hk => ?_) ?_
  rotate_left
  · go_step; exact hk
  refine Ord.St.fl2 (T' := ?_) 6 [7] _ _ rfl (by kernel_rfl) rfl rfl rfl rfl (fun K w' hk => ?_) ?_
  rotate_left
  · go_step; exact hk
  refine Ord.St.fl2 (T' := ?_) 7 [] _ _ rfl (by kernel_rfl) rfl rfl rfl rfl (fun K w' hk => ?_) ?_
  rotate_left
  · go_step; exact hk
  refine Ord.St.nil ?_
  rw [show 2 * n - n = n from by omega]
  have hh := HH.out.same (Ch.refl [] _).drew
  clear HH HROW
  generalize w7.drew = w8 at *
  have HH := Lib.hid hh; clear hh
  have hxy := halvesH HH.out (ib := ib) (ic := ic) (n := n) (List.mem_cons_self ..) hn4
  have d3 := ((H3.out.ch HO.out.own.ch (by simp)).ch HH.out.own.ch (by simp)).cell (i := 0) rfl
  have hC := mdMul_is HH.out.own.gin hxy.1 hxy.2 (by rw [natInts_len, rIn_len]; omega)
  simp only [WV.val, natInts_len, rIn_len] at hC
  have hM := Calls.word HH.out hC HF.out.c HF.out.len HF.out.bd (by omega)
  have HM := Lib.hid hM; clear hM hC hxy
  go_wp2_with fail
  clear d3
  refine HM.out.mono ?_
  rintro e w9 ⟨am, cm, Fm, rfl, ho⟩
  clear HH HM; have HH := Lib.hid ho; clear ho
  have d := ((HO.out.same HH.out.own.ch).kept (lb, [.slice a n c]) (List.mem_cons_self ..)).1.cell (i := 0) rfl
  have hE := Eqref_is (w := w9) cm c (xs := natInts p) (ys := natInts p) (HH.out.sl (List.mem_cons_self ..) (by rw [natInts_len, HF.out.len])) ((HO.out.same HH.out.own.ch).sl (List.mem_cons_self ..) (by rw [natInts_len, HF.out.len]))
  simp only [natInts_len, decide_true, HF.out.len] at hE
  have HE := Lib.hid hE; clear hE
  go_wp2_with fail
  refine HE.out.mono ?_
  rintro e w10 ⟨rfl, hc10⟩
  have hh := HH.out.same hc10
  clear HH HE hc10 d; have HH := Lib.hid hh; clear hh
  have hL := Len_g HH.out.own.gin
  rw [HF.out.hn] at hL
  have HL := Lib.hid hL; clear hL
  go_wp2_with fail
  refine HL.out.mono ?_
  rintro e w11 ⟨rfl, rfl⟩
  clear HL
  go_wp2_with fail
  have h2 := (H2.out.ch HO.out.own.ch (by simp)).ch HH.out.own.ch (by simp)
  have h3 := (H3.out.ch HO.out.own.ch (by simp)).ch HH.out.own.ch (by simp)
  have hca := (HC0.out.trans HO.out.own.ch (by simp)).trans HH.out.own.ch (by simp)
  have HCA := Lib.hid hca; clear hca HC0 HH HO H2 H3
  have H2 := Lib.hid h2; clear h2
  have H3 := Lib.hid h3; clear h3
  go_loopw [22] (fun i wr => ∃ M : Nat, i = .int .i64 M ∧ 2 * n ≤ M ∧ M < N ∧ N ≤ M + 4 ∧ Ch [] w10 wr) (fun i _ => (intOf i).toNat)
  case atStart => exact ⟨N - 1, by go_num, by omega, by omega, by omega, Ch.refl _ _⟩
  case round =>
    obtain ⟨M, rfl, m1, m2, m3, hc⟩ := hrel
    by_cases g1 : 2 * n < M
    · have q1 : decide (2 * (n : Int) < M) = true := decide_eq_true (by omega)
      by_cases g2 : N < M + 4
      · have q2 : decide ((N : Int) - 4 < M) = true := decide_eq_true (by omega)
        obtain ⟨D, hD, hDn⟩ := HF.out.d M g1 m2 g2
        have hM := mk24_mul (H2.out.ch hc (by simp)) (H3.out.ch hc (by simp)) (n := n) HWN.out HKD.out (most := M) (by omega) (by omega) (l := []) (k := 0) hD rfl (by simp) (by omega)
        have HM := Lib.hid hM; clear hM hD
        have HC := Lib.hid hc; clear hc
        go_wp2_with fail
        refine HM.out.mono ?_
        rintro e wm ⟨gm, Fm, lbm, am, cm, xam, xcm, yam, ycm, rfl, ho⟩
        have HX := Lib.hid ho; clear ho HM
        have hL := Len_g HX.out.own.gin
        rw [hDn] at hL
        have HL := Lib.hid hL; clear hL hDn
        go_wp2_with fail
        refine HL.out.mono ?_
        rintro e wz ⟨rfl, rfl⟩
        have hk := (HX.out.kept (lbm, [.slice am 0 cm]) (List.mem_cons_self ..)).1
        have hF := CFlst_no (w := wm) (b := lbm) (n := 1) (cap := 1) (by omega) (fun i hi => by
          rcases i with _ | i
          · exact ⟨_, _, hk.cell (i := 0) rfl⟩
          · omega)
        have HFF := Lib.hid hF; clear hF hk HL
        go_wp2_with fail
        refine HFF.out.mono ?_
        rintro e wz ⟨rfl, rfl⟩
        go_wp2_with fail
        go_roundw
        case rel => exact ⟨M - 1, by go_num, by omega, by omega, by omega, HC.out.trans HX.out.own.ch (by simp)⟩
        case measure => simp [intOf]; omega
      · have q2 : decide ((N : Int) - 4 < M) = false := decide_eq_false (by omega)
        have HC := Lib.hid hc; clear hc
        go_wp2_with fail
        go_ret
        exact ⟨rfl, HCA.out.trans HC.out (by simp)⟩
    · have q1 : decide (2 * (n : Int) < M) = false := decide_eq_false (by omega)
      have HC := Lib.hid hc; clear hc
      go_wp2_with fail
      go_ret
      exact ⟨rfl, HCA.out.trans HC.out (by simp)⟩
end Go.Proofs.Ytkedpifopclipaa
