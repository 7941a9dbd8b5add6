/-
  Drawn regions in a round of a range over a function, where an effect may panic. Conditions: no defer in the region.
  Walks over steps of muldiv and its iterator: the bits of a quotient. Conditions: a graph in memory, two words of its references, of the same width.
  Walk over the closure of Both of muldiv: the loop over the bits of the quotient. Conditions: a graph in memory, two words of its references, of the same width.
  Walks over Both, Div, Rem of muldiv. Conditions: a graph in memory, two words of any integers.
  Walks over Div, Rem, Square, Times of muldiv; all of them as steps of a law's walk. Conditions: a graph in memory, words of any integers.
  The functions of muldiv as steps of a law's walk: the graph and the words that are held. Conditions: none beyond the hypotheses.
  Two words of bits out of two numbers, plainly. No program in sight. Conditions: none.
  Reads of words for values of the inputs; the values of the inputs of chapter 23's law; slices.Clone of numbers. Conditions: a graph in memory, words of 1 to 16 bits.
  Walk over the chapter's examples (awake of muldiv): true. Conditions: none.
  Walks over bitword: the table of the operations, what each does, Apply. Conditions: words in range, a width from 1 to 16.
  Walks over bitword: Name, what each operation does, Cut, Apply. Conditions: words in range, a width from 1 to 16.
  Walks over bitword: product, quotient, rest, Apply of them. Conditions: words in range, a width from 1 to 16.
  Of constants everything is a constant, plainly: what the operations of sums make of words of constants, and the numbers that these are. No program in sight. Conditions: none beyond the hypotheses.
  What SumsIs asks, plainly: for words of one to five bits, all assignments at once, by evaluation. No program in sight. Conditions: none beyond the hypotheses.
  Walk over step of shifts: a word that is another one, if a bit is true. Conditions: a graph in memory, two words of it, a reference of it.
  What move and By of shifts make, plainly. No program in sight. Conditions: none beyond the hypotheses.
  Turns of a word, plainly: one after the other, and shifts by constants, by evaluation. No program in sight. Conditions: none beyond the hypotheses.
  What MuldivIs asks, plainly: for words of one to five bits, all assignments at once, by evaluation. No program in sight. Conditions: none beyond the hypotheses.
  Clone of the library over small numbers. Conditions: slices that are read.
  Walk over MuldivIs: true, whatever comes in. Conditions: a byte, a slice of any numbers.
-/
import Derived.Test.YtkedpifopclipaaGreatQC
import Derived.Deep.WholeRow
namespace Go.Ord.OrdP
open Go
section
variable {ops : Array Oper} {ks : List Kd} {A : List Nat} {C : World → Prop} {Q : Act → World → Prop} {QP : List PanicEntry → World → Prop}
section plain
variable {P : Program} {Q' : Exit → Act → World → Prop}
/-- the normal way out, and a panic -/
def onlyP (QP : List PanicEntry → World → Prop) (Q : Act → World → Prop) : Exit → Act → World → Prop := fun e a w => (e = .normal ∧ Q a w) ∨ ∃ c, e = .panic c ∧ a.defers = [] ∧ QP c w

theorem onlyP_lets (QP : List PanicEntry → World → Prop) (Q : Act → World → Prop) : ¬ LetsOut (onlyP QP Q) := fun ⟨_, _, h⟩ => by
  rcases h with ⟨h, _⟩ | ⟨_, h, _⟩ <;> cases h
theorem onlyP_out {QP : List PanicEntry → World → Prop} {K K' : Act → World → Prop} {a a' : Act} {w : World} {c : List PanicEntry} (h : onlyP QP K (.panic c) a w) (hd : a.defers = a'.defers) : onlyP QP K' (.panic c) a' w := by
  rcases h with ⟨h, _⟩ | ⟨c', h1, h2, h3⟩
  · cases h
  · exact .inr ⟨c', h1, hd ▸ h2, h3⟩
theorem onlyP_in {QP : List PanicEntry → World → Prop} {K : Act → World → Prop} {a : Act} {w : World} (h : onlyP QP K .normal a w) : Exit.normal = Exit.normal ∧ K a w := by
  rcases h with h | ⟨_, h, _⟩
  · exact h
  · cases h
theorem put_defers' (a : Act) (d : Option Tmp) (v : Value) : (a.put d v).defers = a.defers := by cases d <;> rfl

theorem lawsP (hs : Stat ops ks A) (Q : Act → World → Prop) : Laws ops (wpOp P ops (onlyP QP Q)) (yieldsP P ops) where
  mono h hh := wpOp_mono h hh
  out := by
    rintro i o v a w K ho ⟨o', ho', hy⟩ h
    rw [ho] at ho'; cases ho'
    unfold wpOp
    simp only [ho]
    rcases hy with ⟨hw, hv⟩ | ⟨hw, rfl⟩
    · rw [if_pos hw]; left; exact hv.wp h
    · rw [if_neg (by simp [hw])]; exact h
  comm := by
    intro i j oi oj v a w K hi hj hap h
    obtain ⟨h1, h2, h3⟩ := Oper.apart_spec hap
    have hsi := fun cs b => hs.sel i oi cs b hi
    have hsj := fun cs b => hs.sel j oj cs b hj
    have keep : ∀ (a' : Act) (u : Value), execOp a'.eval oi = execOp a.eval oi → Region.wanted oi (yielded ops a'.tmps) = Region.wanted oi (yielded ops a.tmps) →
        ∀ x w0, yieldsP P ops i x a w0 → yieldsP P ops i x (a'.put oj.dst u) w0 := by
      rintro a' u e1 e2 x w0 ⟨o, ho, hy⟩
      rw [hi] at ho; cases ho
      refine ⟨oi, hi, ?_⟩
      rw [wanted_put oi a' oj.dst u h3, e2]
      unfold RunsTo at *
      rw [execOp_put oi hsi a' oj.dst u h3, e1]
      exact hy
    unfold wpOp at *
    simp only [hj] at *
    rw [wanted_put oj a oi.dst v h1] at h
    split
    · rename_i hw
      rw [if_pos hw] at h
      left
      have h := h.resolve_right fun hh => onlyP_lets QP Q hh.2
      unfold Oper.wp at *
      rw [execOp_put oj hsj a oi.dst v h1] at h
      generalize (execOp a.eval oj).run P w = r at *
      cases r with
      | ok n w' =>
        cases n <;> simp only [Oper.upon] at h ⊢
        case value u => exact ⟨keep a u rfl rfl, by rw [← Act.put_comm a v u h2]; exact h⟩
        case skip => exact ⟨keep a _ rfl rfl, by rw [← Act.put_comm a v undef h2]; exact h⟩
        case defer d =>
          refine ⟨keep { a with defers := d :: a.defers } _ rfl rfl, ?_⟩
          rw [← Act.put_comm _ v undef h2, ← Act.put_defers]
          exact h
        case enter f args =>
          refine Calls.mono h fun e w'' he => ?_
          cases e with
          | returned u => exact ⟨keep a u rfl rfl, by rw [← Act.put_comm a v u h2]; exact he⟩
          | panicked c => exact onlyP_out he (put_defers' a oi.dst v)
          | outgrown => exact (onlyP_lets QP Q he).elim
        case row row args => exact Rows.mono h fun u w'' he => ⟨keep a u rfl rfl, by rw [← Act.put_comm a v u h2]; exact he⟩
      | halt x w' =>
        cases x <;> simp only [Oper.upon] at h ⊢
        case panic u => exact onlyP_out h (put_defers' a oi.dst v)
    · rename_i hw
      rw [if_neg hw] at h
      exact ⟨keep a _ rfl rfl, by rw [← Act.put_comm a v undef h2]; exact h⟩

theorem wpAny_of_all (hs : Stat ops ks A) (Q : Act → World → Prop) : ∀ (m : Nat) (R : List Nat) (listed : Array Bool) (a : Act) (w : World), R.Nodup → (∀ k ∈ R, k < ops.size) → R.length = m → listed.size = ops.size → Fits ops listed R →
    allOrd ops (wpOp P ops (onlyP QP Q)) ks A C Q m R a w → wpAny P .any ops (onlyP QP Q) m listed a w := by
  intro m
  induction m with
  | zero =>
    intro R listed a w hn hlt hlen hsz hf h
    have hR : R = [] := List.eq_nil_of_length_eq_zero hlen
    refine ⟨?_, .inl ⟨rfl, h⟩⟩
    cases hr : Region.ready .any ops listed with
    | nil => rfl
    | cons x xs =>
      have := (hf.mem hs (i := x) (by rw [hr]; simp)).1
      rw [hR] at this; cases this
  | succ m ih =>
    intro R listed a w hn hlt hlen hsz hf h
    refine ⟨fun h0 => (hf.nonempty hs hlt (by intro e; rw [e] at hlen; cases hlen) h0).elim, fun i hi => ?_⟩
    obtain ⟨hiR, hri⟩ := hf.mem hs hi
    refine wpOp_mono (fun a' w' h3 => ?_) (h i hiR hri)
    exact ih (R.erase i) _ a' w' (hn.erase _) (fun k hk => hlt k (List.mem_of_mem_erase hk)) (by rw [List.length_erase_of_mem hiR]; omega) (by simpa using hsz) (hf.set hn hsz) h3.2

/-! ### The steps -/
section steps
variable {l : List Oper}
/-- what is left, with all that the walk never asks of it again -/
def St (QP : List PanicEntry → World → Prop) (P : Program) (l : List Oper) (ks : List Kd) (A : List Nat) (C : World → Prop) (Q : Act → World → Prop) (R : List Nat) (a : Act) (w : World) : Prop :=
  R.Nodup → Up l.toArray R → (∀ k ∈ R, k < l.toArray.size) → Stat l.toArray ks A → allOrd l.toArray (wpOp P l.toArray (onlyP QP Q)) ks A C Q R.length R a w

theorem St.nil {a : Act} {w : World} (h : Q a w) : St QP P l ks A C Q [] a w := fun _ _ _ _ => h
theorem St.take {R R' : List Nat} {a : Act} {w : World} {v : Value} (i : Nat) (o : Oper) (hi : l.toArray[i]? = some o) (hiR : R.contains i = true) (hr : readyIn l.toArray R i = true) (hR : R.erase i = R')
    (ht : Takes (yieldsP P l.toArray) C (kd ks i) i v a w) (h : St QP P l ks A C Q R' (a.put o.dst v) w) : St QP P l ks A C Q R a w := by
  intro hn hu hlt hs
  have hm : i ∈ R := by simpa using hiR
  have hlen : R.length = R.length - 1 + 1 := by have := List.length_pos_of_mem hm; omega
  rw [hlen]
  refine Go.Ord.take (lawsP hs Q) hs hi (R.length - 1) R a w hn hu hlt hlen hm hr ht ?_
  subst hR
  have := h (hn.erase _) (hu.erase hn hr) (fun k hk => hlt k (List.mem_of_mem_erase hk)) hs
  rwa [List.length_erase_of_mem hm] at this

/-- passed over: the guard says no -/
theorem St.skip {R : List Nat} {a : Act} {w : World} (i : Nat) (R' : List Nat) (o : Oper) (hil : l[i]? = some o) (hchk : chk l.toArray ks R R' i .fl = true)
    (hg : Region.wanted o (yielded l.toArray a.tmps) = false) (h : ∀ K : Act → Prop, (∀ a, St QP P l ks A C Q R' a w → K a) → K (a.put o.dst undef)) : St QP P l ks A C Q R a w :=
  have hi : l.toArray[i]? = some o := by simpa using hil
  have ⟨hiR, hr, hR, hk⟩ := chk_spec hchk
  .take i o hi hiR hr hR (by rw [hk]; exact fun _ => ⟨o, hi, .inr ⟨hg, rfl⟩⟩) (h _ fun _ h => h)

theorem St.ho {R : List Nat} {a : Act} {w : World} {v : Value} (i : Nat) (R' : List Nat) (o : Oper) (hil : l[i]? = some o) (hchk : chk l.toArray ks R R' i .ho = true)
    (hg : Region.wanted o (yielded l.toArray a.tmps) = true) (hC : C w) (hv : ∀ w', C w' → (execOp a.eval o).run P w' = .ok (.value v) w') (h : ∀ K : Act → Prop, (∀ a, St QP P l ks A C Q R' a w → K a) → K (a.put o.dst v)) : St QP P l ks A C Q R a w :=
  have hi : l.toArray[i]? = some o := by simpa using hil
  have ⟨hiR, hr, hR, hk⟩ := chk_spec hchk
  .take i o hi hiR hr hR (by rw [hk]; exact ⟨hC, fun w' hw' => ⟨o, hi, .inl ⟨hg, by unfold RunsTo; rw [hv w' hw']; exact ⟨rfl, rfl⟩⟩⟩⟩) (h _ fun _ h => h)

theorem St.rd {R : List Nat} {a : Act} {w : World} (i : Nat) (R' : List Nat) (o : Oper) (hil : l[i]? = some o) (hchk : chk l.toArray ks R R' i .rd = true)
    (hg : Region.wanted o (yielded l.toArray a.tmps) = true) (h : ∀ K : Act → Prop, (∀ a, St QP P l ks A C Q R' a w → K a) → o.still P a w K) : St QP P l ks A C Q R a w := by
  have hi : l.toArray[i]? = some o := by simpa using hil
  have ⟨hiR, hr, hR, hk⟩ := chk_spec hchk
  have h1 := h _ (fun _ hh => hh)
  have key : ∃ v, RunsTo P o a w v ∧ St QP P l ks A C Q R' (a.put o.dst v) w := by
    unfold Oper.still at h1
    unfold RunsTo
    generalize (execOp a.eval o).run P w = r at *
    cases r with
    | ok n w' =>
      cases n <;> simp only [Oper.stillUpon] at h1
      case value u => exact ⟨u, ⟨h1.1, rfl⟩, h1.2⟩
      case skip => exact ⟨undef, ⟨h1.1, rfl⟩, h1.2⟩
      case enter f args => obtain ⟨e, v, hc, h2⟩ := h1; exact ⟨v, by rw [e]; exact hc, h2⟩
    | halt x w' => simp only [Oper.stillUpon] at h1
  obtain ⟨v, hy, hK⟩ := key
  exact .take i o hi hiR hr hR (v := v) (by rw [hk]; exact ⟨o, hi, .inl ⟨hg, hy⟩⟩) hK

/-- the effect that alone may come up: its own walk, as a list of one operation -/
theorem St.ef {R : List Nat} {a : Act} {w : World} (i : Nat) (R' : List Nat) (o : Oper) (hil : l[i]? = some o) (hchk : chkE l.toArray ks A R R' i = true)
    (h : ∀ K : Act → World → Prop, (∀ a w, St QP P l ks A C Q R' a w → K a w) → wpList P l.toArray (onlyP QP K) [o] a w) : St QP P l ks A C Q R a w := by
  have hi : l.toArray[i]? = some o := by simpa using hil
  have ⟨hr, hR, hk, hc⟩ := chkE_spec hchk
  intro hn hu hlt hs
  have hm : i ∈ R := (List.mem_filter.1 (hr ▸ List.mem_singleton.2 rfl : i ∈ R.filter (readyIn l.toArray R))).1
  have hri : readyIn l.toArray R i = true := (List.mem_filter.1 (hr ▸ List.mem_singleton.2 rfl : i ∈ R.filter (readyIn l.toArray R))).2
  have hlen : R.length = R.length - 1 + 1 := by have := List.length_pos_of_mem hm; omega
  rw [hlen]
  refine branch hr fun j hj => ?_
  have hji : j = i := List.mem_singleton.1 hj
  subst hji
  have h1 := h _ (fun _ _ hh => hh)
  unfold wpOp
  simp only [hi]
  unfold wpList at h1
  have key : ∀ a' w', (wpList P l.toArray (onlyP QP (fun a w => St QP P l ks A C Q R' a w)) [] a' w') → post ks A l.toArray.size C j w w' ∧ allOrd l.toArray (wpOp P l.toArray (onlyP QP Q)) ks A C Q (R.length - 1) (R.erase j) a' w' := by
    intro a' w' hh
    refine ⟨?_, ?_⟩
    · unfold post; rw [if_pos hk]; intro hh2; rw [hc] at hh2; exact absurd hh2 (by simp)
    subst hR
    have := (onlyP_in hh).2 (hn.erase _) (hu.erase hn hri) (fun k hk => hlt k (List.mem_of_mem_erase hk)) hs
    rwa [List.length_erase_of_mem hm] at this
  split
  · rename_i hw
    rw [if_pos hw] at h1
    have h1 := h1.resolve_right fun hh => onlyP_lets _ _ hh.2
    left
    have h2 := Oper.wp_mono (K' := fun a' w' => post ks A l.toArray.size C j w w' ∧ allOrd l.toArray (wpOp P l.toArray (onlyP QP Q)) ks A C Q (R.length - 1) (R.erase j) a' w') key h1
    unfold Oper.wp at h2 ⊢
    generalize (execOp a.eval o).run P w = r at h2 ⊢
    cases r with
    | ok n w' =>
      cases n <;> simp only [Oper.upon] at h2 ⊢
      case value u => exact h2
      case skip => exact h2
      case defer d => exact h2
      case enter f args =>
        refine Calls.mono h2 fun e w'' he => ?_
        cases e with
        | returned u => exact he
        | panicked c => exact onlyP_out he rfl
        | outgrown => exact (onlyP_lets _ _ he).elim
      case row row args => exact h2
    | halt x w' =>
      cases x <;> simp only [Oper.upon] at h2 ⊢
      case panic u => exact onlyP_out h2 rfl
  · rename_i hw
    rw [if_neg hw] at h1
    exact key _ _ h1
/-- the same where the class of worlds is asked for behind it -/
theorem St.efC {R : List Nat} {a : Act} {w : World} (i : Nat) (R' : List Nat) (o : Oper) (hil : l[i]? = some o) (hchk : chkEC l.toArray ks R R' i = true)
    (h : ∀ K : Act → World → Prop, (∀ a w, C w → St QP P l ks A C Q R' a w → K a w) → wpList P l.toArray (onlyP QP K) [o] a w) : St QP P l ks A C Q R a w := by
  have hi : l.toArray[i]? = some o := by simpa using hil
  have ⟨hr, hR, hk⟩ := chkEC_spec hchk
  intro hn hu hlt hs
  have hm : i ∈ R := (List.mem_filter.1 (hr ▸ List.mem_singleton.2 rfl : i ∈ R.filter (readyIn l.toArray R))).1
  have hri : readyIn l.toArray R i = true := (List.mem_filter.1 (hr ▸ List.mem_singleton.2 rfl : i ∈ R.filter (readyIn l.toArray R))).2
  have hlen : R.length = R.length - 1 + 1 := by have := List.length_pos_of_mem hm; omega
  rw [hlen]
  refine branch hr fun j hj => ?_
  have hji : j = i := List.mem_singleton.1 hj
  subst hji
  have h1 := h (fun a w => C w ∧ St QP P l ks A C Q R' a w) (fun _ _ hc hh => ⟨hc, hh⟩)
  unfold wpOp
  simp only [hi]
  unfold wpList at h1
  have key : ∀ a' w', (wpList P l.toArray (onlyP QP (fun a w => C w ∧ St QP P l ks A C Q R' a w)) [] a' w') → post ks A l.toArray.size C j w w' ∧ allOrd l.toArray (wpOp P l.toArray (onlyP QP Q)) ks A C Q (R.length - 1) (R.erase j) a' w' := by
    intro a' w' hh
    refine ⟨?_, ?_⟩
    · unfold post; rw [if_pos hk]; intro _; exact (onlyP_in hh).2.1
    subst hR
    have := (onlyP_in hh).2.2 (hn.erase _) (hu.erase hn hri) (fun k hk => hlt k (List.mem_of_mem_erase hk)) hs
    rwa [List.length_erase_of_mem hm] at this
  split
  · rename_i hw
    rw [if_pos hw] at h1
    have h1 := h1.resolve_right fun hh => onlyP_lets _ _ hh.2
    left
    have h2 := Oper.wp_mono (K' := fun a' w' => post ks A l.toArray.size C j w w' ∧ allOrd l.toArray (wpOp P l.toArray (onlyP QP Q)) ks A C Q (R.length - 1) (R.erase j) a' w') key h1
    unfold Oper.wp at h2 ⊢
    generalize (execOp a.eval o).run P w = r at h2 ⊢
    cases r with
    | ok n w' =>
      cases n <;> simp only [Oper.upon] at h2 ⊢
      case value u => exact h2
      case skip => exact h2
      case defer d => exact h2
      case enter f args =>
        refine Calls.mono h2 fun e w'' he => ?_
        cases e with
        | returned u => exact he
        | panicked c => exact onlyP_out he rfl
        | outgrown => exact (onlyP_lets _ _ he).elim
      case row row args => exact h2
    | halt x w' =>
      cases x <;> simp only [Oper.upon] at h2 ⊢
      case panic u => exact onlyP_out h2 rfl
  · rename_i hw
    rw [if_neg hw] at h1
    exact key _ _ h1
/-! ### The same steps, asked of the walk's own 'Oper.wp': the step itself finds the new frame -/
/-- all that the kernel looks at, with the slot that is written -/
theorem St.fl2 {R : List Nat} {a : Act} {T' : Array Value} {w : World} (i : Nat) (R' : List Nat) (o : Oper) (d : Nat) (hil : l[i]? = some o) (hchk : chk l.toArray ks R R' i .fl = true) (hg : Region.wanted o (yielded l.toArray a.tmps) = true)
    (hd : o.dst = some d) (hlt : Nat.blt d a.tmps.size = true) (hl : a.defers.length = a.defers.length) (hv : ∀ (K : Act → World → Prop) (w' : World), K ⟨T', a.defers⟩ w' → o.wp P a w' K noExit) (h : St QP P l ks A C Q R' ⟨T', a.defers⟩ w) : St QP P l ks A C Q R a w := by
  have hi : l.toArray[i]? = some o := by simpa using hil
  have ⟨hiR, hr, hR, hk⟩ := chk_spec hchk
  have hput := (runsTo_of_wp (a' := ⟨T', a.defers⟩) hd hlt rfl hl (fun K hK => hv K w hK)).2
  exact .take i o hi hiR hr hR (v := T'.getD d undef) (by rw [hk]; exact fun w' => ⟨o, hi, .inl ⟨hg, (runsTo_of_wp (a' := ⟨T', a.defers⟩) hd hlt rfl hl (fun K hK => hv K w' hK)).1⟩⟩) (by rw [← hput]; exact h)

theorem St.ho2 {R : List Nat} {a : Act} {T' : Array Value} {w : World} (i : Nat) (R' : List Nat) (o : Oper) (d : Nat) (hil : l[i]? = some o) (hchk : chk l.toArray ks R R' i .ho = true) (hg : Region.wanted o (yielded l.toArray a.tmps) = true)
    (hd : o.dst = some d) (hlt : Nat.blt d a.tmps.size = true) (hl : a.defers.length = a.defers.length) (hC : C w) (hv : ∀ (K : Act → World → Prop) (w' : World), C w' → K ⟨T', a.defers⟩ w' → o.wp P a w' K noExit) (h : St QP P l ks A C Q R' ⟨T', a.defers⟩ w) : St QP P l ks A C Q R a w := by
  have hi : l.toArray[i]? = some o := by simpa using hil
  have ⟨hiR, hr, hR, hk⟩ := chk_spec hchk
  have hput := (runsTo_of_wp (a' := ⟨T', a.defers⟩) hd hlt rfl hl (fun K hK => hv K w hC hK)).2
  exact .take i o hi hiR hr hR (v := T'.getD d undef) (by rw [hk]; exact ⟨hC, fun w' hw' => ⟨o, hi, .inl ⟨hg, (runsTo_of_wp (a' := ⟨T', a.defers⟩) hd hlt rfl hl (fun K hK => hv K w' hw' hK)).1⟩⟩⟩) (by rw [← hput]; exact h)

theorem St.rd2 {R : List Nat} {a : Act} {T' : Array Value} {w : World} (i : Nat) (R' : List Nat) (o : Oper) (d : Nat) (hil : l[i]? = some o) (hchk : chk l.toArray ks R R' i .rd = true) (hg : Region.wanted o (yielded l.toArray a.tmps) = true)
    (hd : o.dst = some d) (hlt : Nat.blt d a.tmps.size = true) (hl : a.defers.length = a.defers.length) (hv : ∀ K : Act → World → Prop, K ⟨T', a.defers⟩ w → o.wp P a w K noExit) (h : St QP P l ks A C Q R' ⟨T', a.defers⟩ w) : St QP P l ks A C Q R a w := by
  have hi : l.toArray[i]? = some o := by simpa using hil
  have ⟨hiR, hr, hR, hk⟩ := chk_spec hchk
  have ⟨hrun, hput⟩ := runsTo_of_wp (a' := ⟨T', a.defers⟩) hd hlt rfl hl hv
  exact .take i o hi hiR hr hR (v := T'.getD d undef) (by rw [hk]; exact ⟨o, hi, .inl ⟨hg, hrun⟩⟩) (by rw [← hput]; exact h)

/-- passed over: the guard of a reading operation says no -/
theorem St.skipr {R : List Nat} {a : Act} {w : World} (i : Nat) (R' : List Nat) (o : Oper) (hil : l[i]? = some o) (hchk : chk l.toArray ks R R' i .rd = true)
    (hg : Region.wanted o (yielded l.toArray a.tmps) = false) (h : ∀ K : Act → Prop, (∀ a, St QP P l ks A C Q R' a w → K a) → K (a.put o.dst undef)) : St QP P l ks A C Q R a w := by
  have hi : l.toArray[i]? = some o := by simpa using hil
  have ⟨hiR, hr, hR, hk⟩ := chk_spec hchk
  exact .take i o hi hiR hr hR (by rw [hk]; exact ⟨o, hi, .inr ⟨hg, rfl⟩⟩) (h _ fun _ h => h)
end steps
end plain
end
section
variable {n : Nat} {P : Program} {l : List Oper} {Q' : Exit → Act → World → Prop} {QP : List PanicEntry → World → Prop}
theorem St.doorR {lp id : Nat} {a : Act} {w : World} (C : World → Prop) (ks : List Kd) (A : List Nat) (R : List Nat) (hm : P.follows .mixedOrders = true) (hqq : l.all noDefer = true) (hs : stat l.toArray ks A = true) (hR : List.range l.length = R)
    (hQP : ∀ c a w, a.defers = [] → QP c w → Q' (.panic c) a w) (h : St QP P l ks A C (Q' .normal) R a w.drew) : (Code.region id l.toArray true).wpIn (Fence.wide.inRound lp) n P Q' a w := by
  refine wpIn_mono (Q := onlyP QP (Q' .normal)) ?_ (fun e a w h => h.elim (fun ⟨he, hq⟩ => he ▸ hq) (fun ⟨c, he, hd, hq⟩ => he ▸ hQP c a w hd hq))
  refine wpIn_region_any hm ?_
  subst hR
  have h2 := h List.nodup_range (fun k o e hk _ _ _ => List.mem_range.2 (by have := lt_size hk; simpa using this)) (by simp) (stat_spec hs)
  have := wpAny_of_all (P := P) (C := C) (QP := QP) (stat_spec hs) (Q' .normal) l.length (List.range l.length) (Array.replicate l.length false) a w.drew List.nodup_range (by simp) (by simp) (by simp)
    (fun k hk => by simp at hk; simp [hk]) (by simpa using h2)
  have h3 := any_wide (l := lp) (n := n) (onlyP_lets _ _) (fun o ho => List.all_eq_true.1 hqq o (by simpa using ho)) _ _ _ _ this
  simpa using h3
end
end Go.Ord.OrdP
namespace Go
/-- the widest fence does not count frames -/
theorem YieldAt.any {m : Nat} (m' : Nat) {P : Program} {l : Nat} {args : Array Value} {W : World} {R : Ending → World → Prop} (h : YieldAt Fence.wide m P l args W R) : YieldAt Fence.wide m' P l args W R := by
  obtain ⟨fn, tmps, assign, body, h1, h2, h3⟩ := h
  exact ⟨fn, tmps, assign, body, h1, h2, fun c cs _ => h3 c cs (room_wide _)⟩
theorem RoundIn.any {m : Nat} (m' : Nat) {P : Program} {l : Nat} {f : FuncId} {tmps : Array Value} {assign body : Code} {W : World} {R : Ending → World → Prop} (h : RoundIn Fence.wide m P l f tmps assign body W R) (l2 : Nat) : RoundIn (Fence.wide.inRound l2) m' P l f tmps assign body W R :=
  ⟨h.1, fun c cs _ => h.2 c cs (room_wide _)⟩
theorem CallsIn.any {m : Nat} (m' : Nat) {P : Program} {f : FuncId} {args : Array Value} {W : World} {R : Ending → World → Prop} (h : CallsIn Fence.wide m P f args W R) : CallsIn Fence.wide m' P f args W R := callsIn_wide.2 (callsIn_wide.1 h)
end Go
namespace Go.Proofs.YtkedpifopclipaaGreat
open Go.RowKit Go.Mem Go.Aig
attribute [local go_sem] Oper.semAt_some
/-- a yield of steps: the round, the blocks of the loop outside, the world; the bit, and what is left -/
structure YX where
  k : Nat
  T : List Nat
  W : World
  f : Nat
  rb : Nat
  rc : Nat
  r : List Nat
def sEnc (n : Nat) (x : YX) : Array Value := #[.int .i64 x.f, .slice (some ⟨x.rb, 0, none⟩) (n + 1) x.rc]
def KX (w : World) (F T0 : List Nat) (I : Nat → List Nat → World → Prop) (d : List Nat) (G : Gra) (bits : List Nat) (n : Nat) (x : YX) (W : World) : Prop :=
  Ch [w.heap.size, w.heap.size + 1] x.W W ∧ Ch (T0 ++ F) w x.W ∧ I x.k x.T x.W ∧ row x.W 53 1 (.slice (some ⟨x.rb, 0, none⟩) (n + 1) x.rc) (n + 1) (refsCells x.r) ∧ (x.rb ∉ x.T ∧ w.heap.size + 2 ≤ x.rb) ∧ (∀ q ∈ x.T, q ≠ w.heap.size ∧ q ≠ w.heap.size + 1 ∧ q < x.W.heap.size ∧ (q ∈ T0 ∨ w.heap.size + 2 ≤ q)) ∧ w.heap.size + 2 ≤ x.W.heap.size ∧ x.k < n ∧
    (divF d (G, 0) (bits.take (x.k + 1))).2 = ((divF d (G, 0) (bits.take x.k)).2.1 ++ [x.f], x.r) ∧ x.r.length = n + 1 ∧ ∀ z ∈ x.r, z ≤ 1000000
def JX (w : World) (I : Nat → List Nat → World → Prop) (x : YX) (W' : World) : Prop :=
  ∃ T', I (x.k + 1) T' W' ∧ Ch (w.heap.size :: (w.heap.size + 1) :: x.T) x.W W' ∧ (∀ q ∈ T', (q ∈ x.T ∨ x.W.heap.size ≤ q) ∧ q < W'.heap.size)
def DX (w : World) (g : Nat) (F T0 : List Nat) (I : Nat → List Nat → World → Prop) (R : Mk × List Nat × List Nat) (n : Nat) (W' : World) : Prop :=
  R.1.2 = 0 ∧ ∃ F' T', GIn W' g R.1.1 F' ∧ Ch (T0 ++ F) w W' ∧ (∀ q ∈ F', (q ∈ F ∧ q < w.heap.size) ∨ w.heap.size + 2 ≤ q) ∧ F'[2]? = F[2]? ∧ I n T' W' ∧ (∀ q ∈ T', ((q ∈ T0 ∧ q < w.heap.size) ∨ w.heap.size + 2 ≤ q) ∧ q ∉ F' ∧ q < W'.heap.size)
def DPX (w : World) (g : Nat) (F T0 : List Nat) (G : Gra) (er : Nat) (c : List PanicEntry) (W' : World) : Prop :=
  er ≠ 0 ∧ c = [{ v := stopV er, recovered := false }] ∧ ∃ G' F', Ext G G' ∧ GIn W' g G' F' ∧ Ch (T0 ++ F) w W' ∧ (∀ q ∈ F', (q ∈ F ∧ q < w.heap.size) ∨ w.heap.size + 2 ≤ q) ∧ F'[2]? = F[2]?
theorem bwd_bit {x : List Nat} {n k i b : Nat} (hn : x.length = n) (h : (bwd x)[k]? = some (i, b)) : k < n ∧ x.reverse[k]? = some b := by
  have hl := (List.getElem?_eq_some_iff.1 h).1
  rw [bwd_len] at hl
  refine ⟨by omega, ?_⟩
  obtain ⟨r, hr⟩ : ∃ r, x[x.length - 1 - k]? = some r := ⟨_, List.getElem?_eq_getElem (by omega)⟩
  have h2 := bwd_at (l := x) (k := k) (j := x.length - 1 - k) (by omega) hr
  rw [h] at h2
  cases h2
  rw [List.getElem?_reverse (by omega)]
  exact hr
theorem row_cap' {w : World} {e : TypeId} {b n m c : Nat} {xs : List Value} (h : row w e 1 (.slice (some ⟨b, 0, none⟩) n c) m xs) : n ≤ c := by
  rcases h.2 with ⟨e1, _⟩ | ⟨g, cap, cur, e1, h2, h3, h4, _⟩
  · cases e1
  · cases e1; omega
/-- between two rounds of steps -/
def II (w : World) (g : Nat) (G : Gra) (F T0 : List Nat) (I : Nat → List Nat → World → Prop) (X : World → Prop) (B2 b4 b5 b6 bb db dc : Nat) (yv bx : Value) (n : Nat) (d bits : List Nat) (k : Nat) (W : World) : Prop :=
  ∃ Gp F' T rb rc r, (divF d (G, 0) (bits.take k)).1 = (Gp, 0) ∧ (divF d (G, 0) (bits.take k)).2.2 = r ∧ r.length = n + 1 ∧ (∀ q ∈ r, q < 2 * Gp.nodes.length) ∧ Ext G Gp ∧ SR w g F T0 I X B2 b4 b5 b6 bb db dc yv bx n d W Gp F' T k rb rc r
/-- where steps stops -/
def DP2 (w : World) (g : Nat) (F T0 : List Nat) (G : Gra) (X : World → Prop) (B2 er : Nat) (c : List PanicEntry) (W' : World) : Prop :=
  er ≠ 0 ∧ c = [{ v := stopV er, recovered := false }] ∧ ∃ G' F', Ext G G' ∧ GIn W' g G' F' ∧ Ch (T0 ++ F) w W' ∧ (∀ q ∈ F', (q ∈ F ∧ q < w.heap.size) ∨ w.heap.size + 2 ≤ q) ∧ F'[2]? = F[2]? ∧ X W' ∧ (∀ q ∈ F', q < B2 ∨ B2 + 2 ≤ q)
theorem SR.stop {w : World} {g : Nat} {G : Gra} {F T0 : List Nat} {I : Nat → List Nat → World → Prop} {X : World → Prop} {B2 b4 b5 b6 bb db dc : Nat} {yv bx : Value} {n : Nat} {d : List Nat} {W : World} {Gp : Gra} {F' T : List Nat} {k rb rc : Nat} {r : List Nat} (h : SR w g F T0 I X B2 b4 b5 b6 bb db dc yv bx n d W Gp F' T k rb rc r) (he : Ext G Gp) {er e0 : Nat} (h0 : e0 ≠ 0) (hr : er = e0) : DP2 w g F T0 G X B2 er [{ v := stopV e0, recovered := false }] W :=
  ⟨by rw [hr]; exact h0, by rw [hr], Gp, F', he, h.sx.gin, h.sx.ch, h.sx.own, h.sx.f2, h.xw, h.sx.nb⟩
theorem SR.booksTo {w : World} {g : Nat} {F T0 : List Nat} {I : Nat → List Nat → World → Prop} {X : World → Prop} {B2 b4 b5 b6 bb db dc : Nat} {yv bx : Value} {n : Nat} {d : List Nat} {W W' : World} {Gp G1 : Gra} {F' T : List Nat} {k rb rc : Nat} {r : List Nat} (h : SR w g F T0 I X B2 b4 b5 b6 bb db dc yv bx n d W Gp F' T k rb rc r) (ht : GTo W g G1 F' W') : Books B2 W W' := by
  obtain ⟨_, _, hc, _⟩ := ht
  exact Books.of_ch hc h.hB (fun q hq => by have := h.sx.nb q hq; omega)
theorem fnvmdsteps1 : Fnv 56 := fnv_of Tryz.func56 (by simp [Tryz.f56]) (by simp [Tryz.f56])
section
variable {w : World} {g : Nat} {G : Gra} {F T0 : List Nat}
set_option maxRecDepth 100000 in
set_option maxHeartbeats 1000000 in
theorem mdsteps_is (w : World) (g : Nat) (xa ya : Option Addr) (n xc m yc : Nat) :
    Calls Tryz.prog 30 #[.pointer (some ⟨g, 0, none⟩), .slice xa n xc, .slice ya m yc] w fun e w' => e = .returned (.func (.func 56) #[] #[.pointer (some ⟨w.heap.size + 1 + 1, 0, none⟩), .pointer (some ⟨w.heap.size + 1, 0, none⟩), .pointer (some ⟨w.heap.size, 0, none⟩)]) ∧
      w' = ((w.alloc (.cells #[.pointer (some ⟨g, 0, none⟩)] 24)).alloc (.cells #[.slice xa n xc] 25)).alloc (.cells #[.slice ya m yc] 25) := by
  have hmf : ∀ (fn : Fn) (first cap : Array Value) (w : World), (Instr.makeFunc fn first cap).run Tryz.prog w = .ok (.func fn first cap) w := fun _ _ _ _ => rfl
  go_enter Tryz.func30, Tryz.ntmps30
  go_wp2_with fail
  go_ret
  exact ⟨rfl, rfl⟩
set_option maxRecDepth 100000 in
set_option maxHeartbeats 4000000 in
theorem mdsteps1_seq {I : Nat → List Nat → World → Prop} (h : GIn w g G F) {x y : List Nat} {xa ya : Option Addr} {xc yc : Nat} (n : Nat) (hxl : x.length = n) (hyl : y.length = n) (h1 : 1 ≤ n) (h16 : n ≤ 16)
    (hx : WVin w (T0 ++ F) ⟨xa, natInts x, xc⟩) (hy : WVin w (T0 ++ F) ⟨ya, natInts y, yc⟩) (hxr : ∀ r ∈ x, r < 2 * G.nodes.length) (hyr : ∀ r ∈ y, r < 2 * G.nodes.length)
    {bG bX bY : Nat} (hbg : blk w bG [.pointer (some ⟨g, 0, none⟩)]) (hbx : blk w bX [.slice xa n xc]) (hby : blk w bY [.slice ya n yc]) (hbF : bG ∉ T0 ++ F ∧ bX ∉ T0 ++ F ∧ bY ∉ T0 ++ F)
    (hI : IOk I) (hI0 : I 0 T0 w) (hT0 : ∀ q ∈ T0, q < w.heap.size ∧ q ∉ F)
    (N : Nat) (lp : Nat) (X : World → Prop) (hX : XOk w X) (hXB : ∀ A, X A → w.heap.size + 2 ≤ A.heap.size)
    (hY : ∀ q W, KX w F T0 I (y ++ [0]) G x.reverse n q W → X W → YieldAt Fence.wide N Tryz.prog lp (sEnc n q) W fun e W' => e = .returned (.bool true) ∧ JX w I q W' ∧ X W')
    (W : World) (hc0 : Ch [w.heap.size, w.heap.size + 1] w W) (hXW : X W) :
    CallsIn Fence.wide N Tryz.prog 56 (#[.func (.yield lp) #[] #[]] ++ #[.pointer (some ⟨bY, 0, none⟩), .pointer (some ⟨bX, 0, none⟩), .pointer (some ⟨bG, 0, none⟩)]) W fun e W' =>
      ((∃ v, e = .returned v) ∧ DX w g F T0 I (divF (y ++ [0]) (G, 0) x.reverse) n W' ∧ X W') ∨ (∃ c, e = .panicked c ∧ DPX w g F T0 G (divF (y ++ [0]) (G, 0) x.reverse).1.2 c W' ∧ X W') := by
  refine CallsIn.any (m := 4) N ?_
  show CallsIn Fence.wide 4 Tryz.prog 56 #[.func (.yield lp) #[] #[], .pointer (some ⟨bY, 0, none⟩), .pointer (some ⟨bX, 0, none⟩), .pointer (some ⟨bG, 0, none⟩)] W _
  obtain ⟨d, hd⟩ : ∃ d, y ++ [0] = d := ⟨_, rfl⟩
  have hdl : d.length = n + 1 := by rw [← hd]; simp [hyl]
  rw [hd] at hY ⊢
  refine callsIn_of_wpAt_marks Tryz.func56 rfl trivial ?_ rfl
  simp only [Tryz.ntmps56, List.size_toArray, List.length_cons, List.length_nil, Nat.reduceAdd, Nat.reduceSub, Array.replicate_succ, Array.replicate_zero, List.push_toArray, List.append_toArray, List.nil_append, List.cons_append]
  have hsz : w.heap.size + 2 ≤ W.heap.size := hXB _ hXW
  have hnw : ∀ q, q ∉ T0 ++ F → q < w.heap.size → q ∉ [w.heap.size, w.heap.size + 1] := fun q _ hq => by simp; omega
  have hbG0 := hbg.ch hc0 (hnw _ hbF.1 hbg.lt)
  have hbX0 := hbx.ch hc0 (hnw _ hbF.2.1 hbx.lt)
  have hbY0 := hby.ch hc0 (hnw _ hbF.2.2 hby.lt)
  have hyv := hy.ok.ch hc0 (fun p hp => hnw _ (hy.apart p.block (by simp only at hp; simp [ablk, hp])).1 (hy.apart p.block (by simp only at hp; simp [ablk, hp])).2)
  have hcl := fun W1 (hW1 : Ch [] W W1) => Clref_w (hyv.ch hW1 (by simp)) n (by simpa [natInts] using hyl)
  simp only at hcl
  have c0 := (hbY0.alloc (.cells #[.func (.yield lp) #[] #[]] 103)).cell (i := 0) rfl
  have HCL := Lib.hid hcl; clear hcl
  have HX := Lib.hid hx; clear hx
  have HY := Lib.hid hy; clear hy
  have HH := Lib.hid h; clear h
  have HYY := Lib.hid hY; clear hY
  have HI := Lib.hid hI; clear hI
  have HI0 := Lib.hid hI0; clear hI0
  have HT0 := Lib.hid hT0; clear hT0
  have HXX := Lib.hid hX; clear hX
  have HXW := Lib.hid hXW; clear hXW
  have HXB := Lib.hid hXB; clear hXB
  have HXR := Lib.hid hxr; clear hxr
  have HYR := Lib.hid hyr; clear hyr
  have HC0 := Lib.hid hc0; clear hc0
  clear hnw
  refine wpAt_seq (wpAt_of_wpIn (wpIn_wide.2 ?_))
  go_wp2_with fail
  refine wpAt_seq (wpAt_of_wpIn (wpIn_wide.2 ?_))
  go_wp2_with fail
  refine (HCL.out _ ((Ch.refl _ _).alloc _)).mono ?_
  rintro e w1 ⟨v, rfl, hrow1, hown1, hc1⟩
  have ecy : intCells (natInts y) = refsCells y := by simp [intCells, natInts, refsCells, Function.comp_def]
  have hrow1 : row w1 53 1 v n (refsCells y) := by
    rw [ecy] at hrow1
    simpa [refsCells, hyl] using hrow1
  obtain ⟨va, vc, rfl⟩ := row.shape hrow1
  have hcA : Ch [] w1 (w1.alloc (.cells #[.int .i64 0] 53)) := (Ch.refl _ _).alloc _
  have hrA := hrow1.ch hcA (by simp)
  have hbA : blk (w1.alloc (.cells #[.int .i64 0] 53)) w1.heap.size [.int .i64 0] := blk.new' _ _ rfl
  have hc01 : Ch [] W w1 := ((Ch.refl [] W).alloc _).trans hc1 (by simp)
  have hb4 : blk w1 W.heap.size [.func (.yield lp) #[] #[]] := (blk.new W _ _).ch hc1 (by simp)
  have HRA := Lib.hid hrA; clear hrA hrow1
  have HBA := Lib.hid hbA; clear hbA
  have HCA := Lib.hid hcA; clear hcA
  have HC01 := Lib.hid hc01; clear hc01 hc1
  have HB4 := Lib.hid hb4; clear hb4
  have HOWN1 := Lib.hid hown1; clear hown1 c0 hyv
  go_wp2_with (at_builtin; go_loud (refine wpList_append_row slRefs rfl _ _ rfl (v := .slice va n vc) (n := n) (xs := refsCells y) rfl HRA.out (ad := ⟨w1.heap.size, 0, none⟩) (m := 1) (c := 1) (news := [.int .i64 0]) rfl rfl (news_blk HBA.out) (by simp [Value.oneCell']) (by omega) (by omega) ?_; intro v' w5 hown4 hC4 hf4; obtain ⟨db, dc, rfl⟩ := row.parts hown4 (by omega); have HO4 := Lib.hid hown4; clear hown4; have HCC4 := Lib.hid hC4; clear hC4; have HF4 := Lib.hid hf4; clear hf4))
  refine wpAt_named fun W2 hW2 => ?_
  have hrd5 : row w5 53 1 (.slice (some ⟨db, 0, none⟩) (n + 1) dc) (n + 1) (refsCells d) := by
    have := HO4.out
    rw [← hd]
    simpa [refsCells] using this
  obtain ⟨hc05, hlo5⟩ := app_step (W0 := W) HC01.out HCA.out (fun q hq => by have := HOWN1.out q hq; simp at this; omega) HCC4.out HF4.out
  have hdb : W.heap.size < db := by
    rcases HF4.out db rfl with e | e
    · have := HOWN1.out db (by simp [e])
      simp at this; omega
    · have := HC01.out.size; have := HCA.out.size
      have := HB4.out.lt
      omega
  have hz5 := hc05.size
  have hb4' := (HB4.out.ch HCA.out (by simp)).ch HCC4.out (fun hm => by have := HOWN1.out _ hm; simp at this; omega)
  have hdl5 := (hrd5.lt db rfl).2
  have hC2 : Ch [] W W2 := by rw [hW2]; exact hc05.alloc _
  have hb42 : blk W2 W.heap.size [.func (.yield lp) #[] #[]] := by rw [hW2]; exact hb4'.alloc _
  have hb52 : blk W2 w5.heap.size [.slice (some ⟨db, 0, none⟩) (n + 1) dc] := by rw [hW2]; exact blk.new _ _ _
  have hrd2 : row W2 53 1 (.slice (some ⟨db, 0, none⟩) (n + 1) dc) (n + 1) (refsCells d) := by rw [hW2]; exact hrd5.ch (F := []) ((Ch.refl [] _).alloc _) (by simp)
  have hz2 : W2.heap.size = w5.heap.size + 1 := by rw [hW2]; simp
  have hdb5 : db < w5.heap.size := hdl5
  obtain ⟨b5, hb5⟩ : ∃ b5, w5.heap.size = b5 := ⟨_, rfl⟩
  rw [hb5] at hb52 hz2 hdb5 ⊢
  have hW5 : W.heap.size < b5 := by omega
  obtain ⟨b4, hb4e⟩ : ∃ b4, W.heap.size = b4 := ⟨_, rfl⟩
  rw [hb4e] at hb42 hdb hW5 hsz ⊢
  have c5 := hb52.cell (i := 0) rfl
  have hmk := run_make_refs W2 (n + 1) (by omega)
  rw [show ((n + 1 : Nat) : Int) = (n : Int) + 1 by omega] at hmk
  clear hW2 hrd5 hb4' hlo5 hc05 HB4 HC01 HCA HBA HRA HOWN1 HO4 HCC4 HF4 HCL hz5 hdl5 hb5
  have HRD2 := Lib.hid hrd2; clear hrd2
  have HB52 := Lib.hid hb52; clear hb52
  have HB42 := Lib.hid hb42; clear hb42
  have HC2 := Lib.hid hC2; clear hC2
  refine wpAt_seq (wpAt_of_wpIn (wpIn_wide.2 ?_))
  go_wp2_with fail
  refine wpAt_named fun W3 hW3 => ?_
  have hC3 : Ch [] W2 W3 := by rw [hW3]; exact ((Ch.refl _ _).alloc _).alloc _
  have hz3 : W3.heap.size = b5 + 3 := by rw [hW3]; simp; omega
  have hrr3 : row W3 53 1 (.slice (some ⟨b5 + 1, 0, none⟩) (n + 1) (n + 1)) (n + 1) (refsCells (List.replicate (n + 1) 0)) := by
    rw [hW3]
    have hz : W2.heap.size = b5 + 1 := hz2
    have h0 := row_fresh (w := W2) (l := List.replicate (n + 1) 0) (n := n + 1) rfl (by simp) (by omega)
    rw [hz] at h0
    have e : intCells (List.replicate (n + 1) 0) = refsCells (List.replicate (n + 1) 0) := by simp [intCells, refsCells]
    rw [e] at h0
    exact h0.ch (F := []) ((Ch.refl [] _).alloc _) (by simp)
  have hb63 : blk W3 (b5 + 1 + 1) [.slice (some ⟨b5 + 1, 0, none⟩) (n + 1) (n + 1)] := by rw [hW3]; exact blk.new' _ _ (by simp; omega)
  have hC03 := HC2.out.trans hC3 (by simp)
  have x3 := (hbX0.ch hC03 (by simp)).cell (i := 0) rfl
  have hbw := Bwref_is (w := W3) xa n xc
  clear hW3 hmk c5
  have HBW := Lib.hid hbw; clear hbw
  refine wpAt_seq (wpAt_of_wpIn (wpIn_wide.2 ?_))
  go_wp2_with fail
  refine HBW.out.mono ?_
  rintro e w4 ⟨rfl, hw4⟩
  have hC4 : Ch [] W3 w4 := by rw [hw4]; exact (Ch.refl _ _).alloc _
  have hbb4 : blk w4 (b5 + 3) [.slice xa n xc] := by rw [hw4]; exact blk.new' _ _ hz3.symm
  have hz4 : w4.heap.size = b5 + 4 := by rw [hw4]; simp; omega
  clear hw4
  rw [hz3]
  clear HBW
  go_wp2_with fail
  have hC04 := hC03.trans hC4 (by simp)
  have hsx : SX w g F T0 I (b5 + 4) [] w4 G F T0 0 := by
    have hcw := HC0.out.trans hC04 (by simp)
    have hcw' : Ch (T0 ++ F) w w4 := hcw.mono (fun q hq => .inr (by simp at hq; omega))
    have hFl := HH.out.lt
    refine ⟨HH.out.same hcw (fun q hq hm => by have := hFl q hq; simp at hm; omega), hcw', fun q hq => .inl ⟨hq, hFl q hq⟩, fun q hq => .inl (by have := hFl q hq; omega), rfl, HI.out.same _ _ _ _ _ HI0.out hcw (fun q hq hm => by have := (HT0.out q hm).1; simp at hq; omega), fun q hq => ?_, by simp⟩
    obtain ⟨t1, t2⟩ := HT0.out q hq
    exact ⟨.inl ⟨hq, t1⟩, t2, .inl (by omega), by omega⟩
  have hrl := (HRD2.out.lt db rfl).2
  have hFl := HH.out.lt
  have hbl : b4 < b5 + 4 := by omega
  have hsx2 : SX w g F T0 I (b5 + 4) [b5 + 1, b4, b5, b5 + 1 + 1, b5 + 3, db] w4 G F T0 0 := ⟨hsx.gin, hsx.ch, hsx.own, hsx.nb, hsx.f2, hsx.it, hsx.tb, fun q hq => by
    have hq2 : b4 ≤ q ∧ q < b5 + 4 := by
      simp only [List.mem_cons, List.not_mem_nil, or_false] at hq
      omega
    exact ⟨by omega, fun hm => by have := hFl q hm; omega, fun hm => by have := (HT0.out q hm).1; omega, .inl hq2.2, by omega⟩⟩
  have hC24 := hC3.trans hC4 (by simp)
  have hII : ∀ W1, Ch [b5 + 4, b5 + 4 + 1] w4 W1 → b5 + 4 + 2 ≤ W1.heap.size → II w g G F T0 I X (b5 + 4) b4 b5 (b5 + 1 + 1) (b5 + 3) db dc (.func (.yield lp) #[] #[]) (.slice xa n xc) n d x.reverse 0 W1 := by
    intro W1 hcb hz9
    have hnb : ∀ q, q < b5 + 4 → q ∉ [b5 + 4, b5 + 4 + 1] := fun q hq => by simp; omega
    refine ⟨G, F, T0, b5 + 1, n + 1, List.replicate (n + 1) 0, rfl, by show List.replicate d.length 0 = _; rw [hdl], by simp, fun q hq => ?_, .refl _, hsx2.same HI.out hcb (fun q hq => ⟨?_, fun hm => ?_, fun hm => ?_⟩), (HB42.out.ch hC24 (by simp)).ch hcb (hnb _ (by omega)), (HB52.out.ch hC24 (by simp)).ch hcb (hnb _ (by omega)), (hb63.ch hC4 (by simp)).ch hcb (hnb _ (by omega)), hbb4.ch hcb (hnb _ (by omega)), (HRD2.out.ch hC24 (by simp)).ch hcb (fun q hq => by cases hq; exact hnb db (by omega)), (hrr3.ch hC4 (by simp)).ch hcb (fun q hq => by cases hq; exact hnb _ (by show b5 + 1 < b5 + 4; omega)), ⟨by omega, by omega, by omega, by omega, by omega⟩, ⟨by omega, by omega, by omega, by omega⟩, HXX.out.same _ _ _ (HXX.out.same _ _ _ HXW.out hC04 (by simp)) hcb (fun q hq => by simp at hq; omega), by omega, by omega⟩
    · rw [(List.mem_replicate.1 hq).2]
      have := HH.out.ok.wf.pos
      omega
    · simp at hq; omega
    · have := hFl q hm; simp at hq; omega
    · have := (HT0.out q hm).1; simp at hq; omega
  have HII := Lib.hid hII; clear hII
  clear hsx hsx2 hbb4 hb63 hrr3 hC3 hC4 hC24 hC04 hC03 x3 HI0 HXW HB42 HB52 HRD2 hbX0 hbY0 hbG0 HC2
  refine wpAt_block ?_
  refine wpAt_rangeFunc_S (n := 4) (f₀ := 56) Tryz.func56 (b5 + 4) hz4 rfl (by omega) rfl trivial (fun args w => fnvBwref1 args w) (encs := fun (q : Nat × Nat × Nat) => fitEnc q.2) (fun _ => rfl)
    (fun W' => Ch [b5 + 4, b5 + 4 + 1] w4 W')
    (fun q W' => (bwd x)[q.1]? = some q.2 ∧ II w g G F T0 I X (b5 + 4) b4 b5 (b5 + 1 + 1) (b5 + 3) db dc (.func (.yield lp) #[] #[]) (.slice xa n xc) n d x.reverse q.1 W')
    (fun q W' => II w g G F T0 I X (b5 + 4) b4 b5 (b5 + 1 + 1) (b5 + 3) db dc (.func (.yield lp) #[] #[]) (.slice xa n xc) n d x.reverse (q.1 + 1) W')
    (II w g G F T0 I X (b5 + 4) b4 b5 (b5 + 1 + 1) (b5 + 3) db dc (.func (.yield lp) #[] #[]) (.slice xa n xc) n d x.reverse n)
    (DP2 w g F T0 G X (b5 + 4) (divF d (G, 0) x.reverse).1.2)
    ?seq ?j0 ?k ?j ?d ?pan (Ch.refl _ _) ?a1 ?assign ?body ?done
  case assign =>
    intro q x W K hK
    simp only [fitEnc]
    gi_wp2
    exact hK
  case j0 =>
    intro A A' h hc
    exact h.trans hc (fun q hq => .inl hq)
  case k =>
    rintro q A A' ⟨hq, Gp, F', T, rb, rc, r, i1, i2, i3, i4, i5, hs⟩ hc
    exact ⟨hq, Gp, F', T, rb, rc, r, i1, i2, i3, i4, i5, hs.books HI.out HXX.out (by omega) hc⟩
  case j =>
    rintro q A A' ⟨Gp, F', T, rb, rc, r, i1, i2, i3, i4, i5, hs⟩ hc
    exact ⟨Gp, F', T, rb, rc, r, i1, i2, i3, i4, i5, hs.books HI.out HXX.out (by omega) hc⟩
  case d =>
    rintro A A' ⟨Gp, F', T, rb, rc, r, i1, i2, i3, i4, i5, hs⟩ hc
    exact ⟨Gp, F', T, rb, rc, r, i1, i2, i3, i4, i5, hs.books HI.out HXX.out (by omega) hc⟩
  case seq =>
    intro l2 X2 Y2 hX2 hX2B hY2 W1 hI1 hXW1
    refine (Bw_mem (xa := xa) (xc := xc) (bx := b5 + 3) (x := x) n hxl (by omega) (fun k W' => II w g G F T0 I X (b5 + 4) b4 b5 (b5 + 1 + 1) (b5 + 3) db dc (.func (.yield lp) #[] #[]) (.slice xa n xc) n d x.reverse k W' ∧ X2 W') (fun c W' => DP2 w g F T0 G X (b5 + 4) (divF d (G, 0) x.reverse).1.2 c W' ∧ Y2 W') ?_ 3 (by omega) l2 ?_ W1 ⟨HII.out W1 hI1 (hX2B _ hXW1), hXW1⟩).mono ?_
    · rintro k W' ⟨⟨Gp, F', T, rb, rc, r, i1, i2, i3, i4, i5, hs⟩, hx2⟩
      refine ⟨hs.cb.cell rfl, ?_⟩
      exact HX.out.ok.sl.ch hs.sx.ch (fun p hp => (HX.out.apart p.block (by simp only at hp; simp [ablk, hp])).1)
    · rintro k i r W' hk ⟨hi, hx2⟩
      refine (hY2 (k, i, r) W' ⟨hk, hi⟩ hx2).mono ?_
      rintro e W3 (⟨rfl, q1, q2⟩ | ⟨c, rfl, q1, q2⟩)
      · exact .inl ⟨rfl, q1, q2⟩
      · exact .inr ⟨c, rfl, q1, q2⟩
    · rintro e W' (⟨hv, q1, q2⟩ | ⟨c, rfl, q1, q2⟩)
      · exact .inl ⟨hv, q1, q2⟩
      · exact .inr ⟨c, rfl, q1, q2⟩
  case pan =>
    rintro c W1 ⟨p0, rfl, G', F', p1, p2, p3, p4, p5, p6, p7⟩ hK hz
    refine .inr ⟨_, rfl, ?_⟩
    have hcp : Ch [b5 + 4] W1 (W1.putObj (b5 + 4) (.deferred none)) := ch_put (by simp)
    refine ⟨by simp, .inl ⟨_, _, rfl, run_takeDeferred hK, ?_⟩⟩
    refine .inr ⟨_, rfl, ⟨p0, rfl, G', F', p1, p2.same hcp (fun q hq hm => by have := p7 q hq; simp at hm; omega), p3.trans hcp (fun q hq => .inr (by simp at hq; omega)), p4, p5⟩, ?_⟩
    exact HXX.out.same _ _ _ p6 hcp (fun q hq => by simp at hq; omega)
  case done =>
    rintro W1 ⟨Gp, F', T, rb, rc, r, i1, i2, i3, i4, i5, hs⟩ hK hz
    refine .inl ⟨rfl, ?_⟩
    have hcp : Ch [b5 + 4] W1 (W1.putObj (b5 + 4) (.deferred none)) := ch_put (by simp)
    have hs2 := hs.books HI.out HXX.out (by omega) (hcp.mono (fun q hq => .inl (by simp at hq; simp [hq])))
    refine ⟨by simp, .inl ⟨_, _, rfl, run_takeDeferred hK, ?_⟩⟩
    refine ⟨_, results_none rfl _ _ _, .inl ⟨⟨_, rfl⟩, ?_, hs2.xw⟩⟩
    rw [List.take_of_length_le (by simp [hxl])] at i1
    exact ⟨by rw [i1], F', T, by rw [i1]; exact hs2.sx.gin, hs2.sx.ch, hs2.sx.own, hs2.sx.f2, hs2.sx.it, fun q hq => ⟨(hs2.sx.tb q hq).1, (hs2.sx.tb q hq).2.1, (hs2.sx.tb q hq).2.2.2⟩⟩
  case body =>
    rintro l2 ⟨k, i, b⟩ Wr ⟨hkb, Gp, F', T, rb, rc, r, i1, i2, i3, i4, i5, hs⟩ hWl
    simp only at hkb i1 i2 hs
    obtain ⟨hkn, hbk⟩ := bwd_bit hxl hkb
    have hbx2 := HXR.out b (by have := List.mem_of_getElem? hbk; simpa using this)
    have hdr : ∀ q ∈ d, q < 2 * Gp.nodes.length := fun q hq => by
      rw [← hd] at hq
      rcases List.mem_append.1 hq with hq | hq
      · exact i5.lt (HYR.out q hq)
      · rw [List.mem_singleton.1 hq]; have := hs.sx.gin.ok.wf.pos; omega
    have hrr : ∀ q ∈ b :: r.dropLast, q < 2 * Gp.nodes.length := fun q hq => by
      rcases List.mem_cons.1 hq with rfl | hq
      · exact i5.lt hbx2
      · exact i4 q (List.dropLast_subset _ hq)
    have hr1l : (b :: r.dropLast).length = n + 1 := by simp [i3]
    have hgl : ∀ W', Ch (T0 ++ F) w W' → W'.cell? ⟨bG, 0, none⟩ = some (.pointer (some ⟨g, 0, none⟩)) := fun W' hc => (hbg.ch hc hbF.1).cell rfl
    have hcA : Ch [] Wr (Wr.alloc (.cells #[.int .i64 b] 53)) := (Ch.refl _ _).alloc _
    have hrn : row (Wr.alloc (.cells #[.int .i64 b] 53)) 53 1 (.slice (some ⟨Wr.heap.size, 0, none⟩) 1 1) 1 [.int .i64 b] := by
      have := row_fresh (w := Wr) (l := [(b : Int)]) (n := 1) rfl rfl (by omega)
      simpa [intCells] using this
    have hra := hs.rr.ch hcA (by simp)
    have hnews : ∀ j u, (refsCells r.dropLast)[j]? = some u → (Wr.alloc (.cells #[.int .i64 b] 53)).cell? ((⟨rb, 0, none⟩ : Addr).add j) = some u := fun j u hu => by
      refine hra.cells (g := rb) rfl j u ?_
      have hj := (List.getElem?_eq_some_iff.1 hu).1
      unfold refsCells at hu ⊢
      rw [List.getElem?_map] at hu ⊢
      rw [List.getElem?_dropLast] at hu
      split at hu
      · exact hu
      · cases hu
    have hone : ∀ u ∈ refsCells r.dropLast, u.oneCell' = true := fun u hu => by
      obtain ⟨q, _, rfl⟩ := List.mem_map.1 hu
      rfl
    have hnl : (refsCells r.dropLast).length = n := by simp [refsCells, i3]
    have hc6 := (hs.c6.ch hcA (by simp)).cell (i := 0) rfl
    have hrc := row_cap' hs.rr
    have HS := Lib.hid hs; clear hs
    have HRN := Lib.hid hrn; clear hrn hra
    have HNEW := Lib.hid hnews; clear hnews
    have HONE := Lib.hid hone; clear hone
    have HCA := Lib.hid hcA; clear hcA
    have HDR := Lib.hid hdr; clear hdr
    have HRR := Lib.hid hrr; clear hrr
    have HGL := Lib.hid hgl; clear hgl
    have I1 := Lib.hid i1; clear i1
    have I2 := Lib.hid i2; clear i2
    have I4 := Lib.hid i4; clear i4
    have I5 := Lib.hid i5; clear i5
    have HBK := Lib.hid hbk; clear hbk hkb
    have HWR := Lib.hid hWl; clear hWl
    have e1 : (n : Int) + 1 - 1 = (n : Int) := by omega
    refine wpIn_block ?_
    refine wpIn_seq ?_
    refine Ord.plainR (by kernel_rfl) ?_
    go_wp2_with (at_builtin; go_loud (refine wpList_append_row slRefs rfl _ _ rfl (v := .slice (some ⟨Wr.heap.size, 0, none⟩) 1 1) (n := 1) (xs := [.int .i64 b]) rfl HRN.out (ad := ⟨rb, 0, none⟩) (m := n) (c := rc) (news := refsCells r.dropLast) rfl (by rw [hnl]; omega) HNEW.out HONE.out (by omega) (by omega) ?_; intro v' w5 hown4 hC4 hf4; rw [Nat.add_comm 1 n] at hown4; obtain ⟨rb', rc', rfl⟩ := row.parts hown4 (by omega); have HO4 := Lib.hid hown4; clear hown4; have HCC4 := Lib.hid hC4; clear hC4; have HF4 := Lib.hid hf4; clear hf4; have c66 := ((HS.out.c6.ch HCA.out (by simp)).ch HCC4.out (fun hm => by have := HS.out.c6.lt; simp at hm; omega)).cell (i := 0) rfl; have f66 := ((HS.out.c6.ch HCA.out (by simp)).ch HCC4.out (fun hm => by have := HS.out.c6.lt; simp at hm; omega)).frozen (i := 0)))
    refine ⟨rfl, ?_⟩
    obtain ⟨W2, hW2⟩ : ∃ W2, W2 = w5.setCell ⟨b5 + 1 + 1, 0, none⟩ (.slice (some ⟨rb', 0, none⟩) (n + 1) rc') := ⟨_, rfl⟩
    rw [← hW2]
    have hC45 : Ch [] Wr w5 := HCA.out.trans HCC4.out (fun q hq => .inr (by simp at hq; omega))
    have hrbn : Wr.heap.size ≤ rb' := by
      rcases HF4.out rb' rfl with e | e
      · simp at e; omega
      · have := HCA.out.size; omega
    have hro4 : row w5 53 1 (.slice (some ⟨rb', 0, none⟩) (n + 1) rc') (n + 1) (refsCells (b :: r.dropLast)) := HO4.out
    have hs2 := HS.out.move HI.out HXX.out hC45 hro4 hrbn hW2
    have hbk2 : Books (b5 + 4) Wr W2 := by
      have hcw : Ch [b5 + 1 + 1] Wr W2 := by rw [hW2]; exact (hC45.mono (by simp)).setCell (.inl (by simp)) _
      exact Books.of_ch hcw HWR.out (fun q hq => by simp at hq; omega)
    have HBK2 := Lib.hid hbk2; clear hbk2
    clear hW2 c66 f66 hc6 HNEW HONE HRN HO4 HCC4 HF4 HCA hro4 hC45 hrbn HS
    obtain ⟨r1, hr1⟩ : ∃ r1, b :: r.dropLast = r1 := ⟨_, rfl⟩
    rw [hr1] at hs2 HRR hr1l
    have hdrow : row W2 53 1 (.slice (some ⟨db, 0, none⟩) (n + 1) dc) d.length (refsCells d) := by rw [hdl]; exact hs2.rd
    have hrrow : row W2 53 1 (.slice (some ⟨rb', 0, none⟩) (n + 1) rc') r1.length (refsCells r1) := by rw [hr1l]; exact hs2.rr
    have hsm := hs2.sx.gin.ok.small
    have hle := sLeR hs2.sx.gin (n + 1) hdl hr1l (by omega) (by omega) (wv_of_row hdrow hdl (fun q hq => by cases hq; exact (hs2.sx.mine db (by simp)).2.1) (by omega) (fun q hq => by have := HDR.out q hq; omega)) (wv_of_row hrrow hr1l (fun q hq => by cases hq; exact (hs2.sx.mine rb' (by simp)).2.1) (by omega) (fun q hq => by have := HRR.out q hq; omega)) HDR.out HRR.out
    have hLf := leR_full hs2.sx.gin.ok HDR.out HRR.out
    have hq0 : divL d (divF d (G, 0) (x.reverse.take k)) b = rstep (Gp, 0) (leR Gp d r1) := by
      unfold divL; rw [I1.out, I2.out, hr1]
    obtain ⟨L, hL⟩ : ∃ L, leR Gp d r1 = L := ⟨_, rfl⟩
    rw [hL] at hle hLf hq0
    have c0 := HGL.out W2 hs2.sx.ch
    have c5 := hs2.c5.cell (i := 0) rfl
    have c6 := hs2.c6.cell (i := 0) rfl
    have HLE := Lib.hid hle; clear hle
    have HLF := Lib.hid hLf; clear hLf
    have HQ0 := Lib.hid hq0; clear hq0
    have HS2 := Lib.hid hs2; clear hs2 hdrow hrrow
    refine wpIn_seq ?_
    gi_wp2
    refine ⟨trivial, (CallsIn.inRound l2 ((callsIn_wide (n := _)).2 HLE.out)).mono ?_⟩
    rintro e w6 ⟨rfl, hto⟩
    obtain ⟨F6, hs6⟩ := HS2.out.to HI.out HXX.out hto
    have hbk6 := HBK2.out.trans (HS2.out.booksTo hto)
    have HBK6 := Lib.hid hbk6; clear hbk6
    have HS6 := Lib.hid hs6; clear hs6 hto HLE c0 c5 c6
    gi_wp2
    refine ⟨trivial, (CallsIn.inRound l2 ((callsIn_wide (n := _)).2 (mdmustR_is w6 (L.2.1 : Int) L.2.2))).mono ?_⟩
    rintro e w7 ⟨rfl, ⟨h0, rfl⟩ | ⟨h0, rfl⟩⟩
    rotate_left
    · have hL1 := HLF.out.keep h0
      have hR := divF_stopL (d := d) (s := (G, 0)) HBK.out (e := L.2.2) h0 (by rw [HQ0.out, rstep_no rfl h0])
      have hst := HS6.out.stop (I5.out.trans HLF.out.ok.ext) h0 hR
      have HST := Lib.hid hst; clear hst hR hL1
      gi_wp2
      exact .inr ⟨_, rfl, trivial, HBK6.out, HST.out⟩
    have hL0 : L.2.2 = 0 := h0
    have hDR6 : ∀ q ∈ d, q < 2 * L.1.nodes.length := fun q hq => HLF.out.ok.ext.lt (HDR.out q hq)
    have hRR6 : ∀ q ∈ r1, q < 2 * L.1.nodes.length := fun q hq => HLF.out.ok.ext.lt (HRR.out q hq)
    have hs6 := HS6.out
    have hsm6 := hs6.sx.gin.ok.small
    have hdrow : row w6 53 1 (.slice (some ⟨db, 0, none⟩) (n + 1) dc) d.length (refsCells d) := by rw [hdl]; exact hs6.rd
    have hrrow : row w6 53 1 (.slice (some ⟨rb', 0, none⟩) (n + 1) rc') r1.length (refsCells r1) := by rw [hr1l]; exact hs6.rr
    have hsub := sSubR hs6.sx.gin (n + 1) hr1l hdl (by omega) (by omega) (wv_of_row hrrow hr1l (fun q hq => by cases hq; exact (hs6.sx.mine rb' (by simp)).2.1) (by omega) (fun q hq => by have := hRR6 q hq; omega)) (wv_of_row hdrow hdl (fun q hq => by cases hq; exact (hs6.sx.mine db (by simp)).2.1) (by omega) (fun q hq => by have := hDR6 q hq; omega)) hRR6 hDR6
    have hSok := subR_wok hs6.sx.gin.ok hRR6 hDR6
    have hSln := subR_len (G := L.1) hr1l hdl
    have hq1 : divD d (divF d (G, 0) (x.reverse.take k)) b = wstep (L.1, 0) (subR L.1 r1 d) := by
      unfold divD; rw [HQ0.out, rstep_ok rfl hL0, I2.out, hr1]
    have hq2 : (divL d (divF d (G, 0) (x.reverse.take k)) b).2 = L.2.1 := by rw [HQ0.out, rstep_ok rfl hL0]
    obtain ⟨S, hS⟩ : ∃ S, subR L.1 r1 d = S := ⟨_, rfl⟩
    rw [hS] at hsub hSok hSln hq1
    have c0 := HGL.out w6 hs6.sx.ch
    have c5 := hs6.c5.cell (i := 0) rfl
    have c6 := hs6.c6.cell (i := 0) rfl
    have HSUB := Lib.hid hsub; clear hsub
    have HSOK := Lib.hid hSok; clear hSok
    have HSLN := Lib.hid hSln; clear hSln
    have HQ1 := Lib.hid hq1; clear hq1
    have HQ2 := Lib.hid hq2; clear hq2
    have hL00 : L.2.2 = 0 := hL0
    clear hs6 hdrow hrrow HS2 hDR6 hS
    have HRR6 := Lib.hid hRR6; clear hRR6
    gi_wp2
    refine ⟨trivial, (CallsIn.inRound l2 ((callsIn_wide (n := _)).2 HSUB.out)).mono ?_⟩
    rintro e w8 ⟨v, rfl, F8, g1, g2, g3, g4, g5, g6⟩
    have g2 : Ch F6 w6 w8 := by simpa using g2
    have hs8 := HS6.out.to2 HI.out HXX.out g1 g2 g3 g4
    have hbk8 := HBK6.out.trans (HS6.out.booksTo ⟨F8, g1, g2, g3, g4⟩)
    obtain ⟨sa, sc, rfl⟩ := row.shape g5
    have hsz6 : ∀ q ∈ T, q < w6.heap.size := fun q hq => (HS6.out.sx.tb q hq).2.2.2
    have hsm6' : ∀ q ∈ [rb', b4, b5, b5 + 1 + 1, b5 + 3, db], q < w6.heap.size := fun q hq => (HS6.out.sx.mine q hq).2.2.2.2
    have hsB : w.heap.size + 2 ≤ w6.heap.size ∧ b5 + 4 + 2 ≤ w6.heap.size := ⟨HS6.out.hw, HS6.out.hB⟩
    have HBK8 := Lib.hid hbk8; clear hbk8
    have HS8 := Lib.hid hs8; clear hs8 g1 g2 g3 g4 HSUB c0 c5 c6
    have G5 := Lib.hid g5; clear g5
    have G6 := Lib.hid g6; clear g6
    gi_wp2
    refine ⟨trivial, (CallsIn.inRound l2 ((callsIn_wide (n := _)).2 (mdmustW_is w8 sa S.2.1.length sc S.2.2))).mono ?_⟩
    rintro e w9 ⟨rfl, ⟨h0, rfl⟩ | ⟨h0, rfl⟩⟩
    rotate_left
    · have hR := divF_stopD (d := d) (s := (G, 0)) HBK.out (e := S.2.2) h0 (by rw [HQ1.out, wstep_no rfl h0])
      have hst := HS8.out.stop ((I5.out.trans HLF.out.ok.ext).trans HSOK.out.ext) h0 hR
      have HST := Lib.hid hst; clear hst hR
      gi_wp2
      exact .inr ⟨_, rfl, trivial, HBK8.out, HST.out⟩
    have hS0 : S.2.2 = 0 := h0
    have hSl := HSLN.out hS0
    have hrS := G5.out
    rw [hSl] at hrS ⊢
    obtain ⟨sb, hsb0⟩ : ∃ sb, sa = some ⟨sb, 0, none⟩ := by
      obtain ⟨q, c, e⟩ := row.parts hrS (by omega)
      cases e
      exact ⟨_, rfl⟩
    subst hsb0
    have hsb : w6.heap.size ≤ sb ∧ sb ∉ F8 := G6.out sb rfl
    obtain ⟨Z, hZ⟩ : ∃ Z, S.2.1.zip r1 = Z := ⟨_, rfl⟩
    have hZl : Z.length = n + 1 := by rw [← hZ, List.length_zip]; omega
    have HRS := Lib.hid hrS; clear hrS G5 G6
    have hq3 : divM d (divF d (G, 0) (x.reverse.take k)) b = chF L.2.1 (S.1, 0) Z := by
      unfold divM; rw [HQ1.out, HQ2.out, wstep_ok rfl hS0, I2.out, hr1, hZ]
    have HQ3 := Lib.hid hq3; clear hq3
    have HZ := Lib.hid hZ; clear hZ
    have hf2 : L.2.1 < 2 * S.1.nodes.length := HSOK.out.ext.lt HLF.out.ok.lt
    have HF2 := Lib.hid hf2; clear hf2
    gi_wp2
    gi_loopw [48] (fun i wr => ∃ (j : Nat) (Gq : Gra) (mm F2 : List Nat), j ≤ n + 1 ∧ i = .int .i64 j ∧ chF L.2.1 (S.1, 0) (Z.take j) = ((Gq, 0), mm) ∧ (∀ q ∈ mm, q < 2 * Gq.nodes.length) ∧ SR w g F T0 I X (b5 + 4) b4 b5 (b5 + 1 + 1) (b5 + 3) db dc (.func (.yield lp) #[] #[]) (.slice xa n xc) n d wr Gq F2 T k rb' rc' (mm ++ r1.drop j) ∧ row wr 53 1 (.slice (some ⟨sb, 0, none⟩) (n + 1) sc) (n + 1) (refsCells S.2.1) ∧ sb ∉ F2 ∧ Books (b5 + 4) Wr wr ∧ Ext S.1 Gq) (fun i _ => n + 1 - (intOf i).toNat)
    case atStart => exact ⟨0, S.1, [], F8, by omega, rfl, rfl, by simp, HS8.out, HRS.out, hsb.2, HBK8.out, .refl _⟩
    case round =>
      obtain ⟨j, Gq, mm, F2, hj, rfl, heq, hmm, hs, hsr, hsF, hbk, hexq⟩ := hrel
      have hmml : mm.length = j := by
        have h9 := eachF_lenT (fun s a b => sMux s L.2.1 a b) (S.1, 0) (Z.take j)
        have h8 : eachF (fun s a b => sMux s L.2.1 a b) (S.1, 0) (Z.take j) = ((Gq, 0), mm) := heq
        rw [h8, List.length_take] at h9
        have h9 : mm.length = min j Z.length := h9
        omega
      by_cases hjn : j < n + 1
      · obtain ⟨a, ha⟩ : ∃ a, S.2.1[j]? = some a := ⟨_, List.getElem?_eq_getElem (by omega)⟩
        obtain ⟨c, hc⟩ : ∃ c, r1[j]? = some c := ⟨_, List.getElem?_eq_getElem (by omega)⟩
        have hzj : Z[j]? = some (a, c) := by rw [← HZ.out, List.getElem?_zip_eq_some]; exact ⟨ha, hc⟩
        have hat : (mm ++ r1.drop j)[j]? = some c := by rw [List.getElem?_append_right (by omega), hmml, Nat.sub_self, List.getElem?_drop, Nat.add_zero, hc]
        have s0 := row_at2 hsr (show (refsCells S.2.1)[j]? = some (.int .i64 a) by simp [refsCells, ha])
        have hal := hexq.lt (HSOK.out.lt a (List.mem_of_getElem? ha))
        have hcl := hexq.lt (HSOK.out.ext.lt (HRR6.out c (List.mem_of_getElem? hc)))
        have hfl := hexq.lt HF2.out
        have hMf := rMux_full hs.sx.gin.ok hfl hal hcl
        have hsn : Z.take (j + 1) = Z.take j ++ [(a, c)] := by rw [List.take_add_one, hzj]; rfl
        have hnx := chF_snoc L.2.1 (S.1, 0) (Z.take j) (a, c)
        rw [heq, ← hsn] at hnx
        have hset : ∀ v, (mm ++ r1.drop j).set j v = (mm ++ [v]) ++ r1.drop (j + 1) := fun v => by
          rw [List.set_append_right _ _ (by omega), hmml, Nat.sub_self]
          have hd2 : r1.drop j = c :: r1.drop (j + 1) := by
            have hlt := (List.getElem?_eq_some_iff.1 hc).1
            rw [List.drop_eq_getElem_cons hlt]
            congr 1
            exact (List.getElem?_eq_some_iff.1 hc).2
          rw [hd2, List.set_cons_zero, List.append_assoc]
          rfl
        have hsmq := hs.sx.gin.ok.small
        have hMux : ∀ W', Ch [] wr W' → Calls Tryz.prog 60 #[.pointer (some ⟨g, 0, none⟩), .int .i64 L.2.1, .int .i64 a, .int .i64 c] W' fun e w' => e = .returned (.tuple #[.int .i64 (rMux Gq L.2.1 a c).2.1, .int .i64 (rMux Gq L.2.1 a c).2.2]) ∧ GTo W' g (rMux Gq L.2.1 a c).1 F2 w' := fun W' hc' => by
          have := Mux_g (hs.sx.gin.same hc' (by simp)) (L.2.1 : Int) (a : Int) (c : Int) (by omega) (by omega) (by omega)
          rw [doMux_r hfl hal hcl] at this
          exact this
        obtain ⟨M, hM⟩ : ∃ M, rMux Gq L.2.1 a c = M := ⟨_, rfl⟩
        have hopm : sMux (Gq, 0) L.2.1 a c = rstep (Gq, 0) M := by rw [← hM]; rfl
        rw [hM] at hMf
        simp only [hM] at hMux
        have HMUX := Lib.hid hMux; clear hMux
        have HMF := Lib.hid hMf; clear hMf
        have HNX := Lib.hid hnx; clear hnx
        have HSET := Lib.hid hset; clear hset
        have HAT := Lib.hid hat; clear hat
        have HSQ := Lib.hid hs; clear hs
        have HSR := Lib.hid hsr; clear hsr
        have HBQ := Lib.hid hbk; clear hbk
        have HEQ := Lib.hid heq; clear heq
        have HOPM := Lib.hid hopm; clear hopm
        have HMM := Lib.hid hmm; clear hmm
        have HEXQ := Lib.hid hexq; clear hexq
        have HSN := Lib.hid hsn; clear hsn
        have s0' : wr.cell? ⟨sb, j, none⟩ = some (.int .i64 a) := s0
        clear hal hcl hfl ha hc hzj hM s0
        gi_wp2
        refine Ord.OrdP.St.doorR (QP := fun c W' => Books (b5 + 4) Wr W' ∧ DP2 w g F T0 G X (b5 + 4) (divF d (G, 0) x.reverse).1.2 c W') (fun w' => w'.cell? ⟨b5 + 1 + 1, 0, none⟩ = some (.slice (some ⟨rb', 0, none⟩) (n + 1) rc')) [.ho, .fl, .rd, .fl, .fl, .rd, .fl, .fl, .rd, .ef, .fl, .fl, .ef, .fl, .ef] [0, 0, 0, 0, 0, 0, 0, 96, 224, 508, 1020, 1020, 4092, 8191, 16383] [0, 1, 2, 3, 4, 5, 6, 7, 8, 9, 10, 11, 12, 13, 14] mixed (by kernel_rfl) (by kernel_rfl) rfl (fun c a w hd hq => Or.inr ⟨c, rfl, hd, hq⟩) ?_
        obtain ⟨Wc, hWc⟩ : ∃ Wc, Wc = wr.drew := ⟨_, rfl⟩
        rw [← hWc]
        have hcur : Ch [] wr Wc := by rw [hWc]; exact (Ch.refl _ _).drew
        clear hWc
        have hsc := HSQ.out.same HI.out HXX.out hcur (by simp)
        have c0 := HGL.out Wc hsc.sx.ch
        have c6 := hsc.c6.cell (i := 0) rfl
        have c8 : Wc.cell? ⟨rb', j, none⟩ = some (.int .i64 c) := row_at2 hsc.rr (by unfold refsCells; rw [List.getElem?_map, HAT.out]; rfl)
        have hmux := HMUX.out Wc hcur
        have HMUX2 := Lib.hid hmux; clear hmux HMUX
        have HSC := Lib.hid hsc; clear hsc
        have HCUR := Lib.hid hcur; clear hcur
        refine Ord.OrdP.St.ho2 (T' := ?_) 0 [1, 2, 3, 4, 5, 6, 7, 8, 9, 10, 11, 12, 13, 14] _ _ rfl (by kernel_rfl) rfl rfl rfl rfl ?_ (fun K w' hw' hk => ?_) ?_
        rotate_left
        · exact c6
        · have q1 := hw'; go_step; exact hk
        refine Ord.OrdP.St.fl2 (T' := ?_) 1 [2, 3, 4, 5, 6, 7, 8, 9, 10, 11, 12, 13, 14] _ _ rfl (by kernel_rfl) rfl rfl rfl rfl (fun K w' hk => ?_) ?_
        rotate_left
        · go_step; exact hk
        refine Ord.OrdP.St.rd2 (T' := ?_) 2 [3, 4, 5, 6, 7, 8, 9, 10, 11, 12, 13, 14] _ _ rfl (by kernel_rfl) rfl rfl rfl rfl (fun K hk => ?_) ?_
        rotate_left
        · go_step; exact hk
        refine Ord.OrdP.St.fl2 (T' := ?_) 3 [4, 5, 6, 7, 8, 9, 10, 11, 12, 13, 14] _ _ rfl (by kernel_rfl) rfl rfl rfl rfl (fun K w' hk => ?_) ?_
        rotate_left
        · go_step; exact hk
        refine Ord.OrdP.St.fl2 (T' := ?_) 4 [5, 6, 7, 8, 9, 10, 11, 12, 13, 14] _ _ rfl (by kernel_rfl) rfl rfl rfl rfl (fun K w' hk => ?_) ?_
        rotate_left
        · go_step; exact hk
        refine Ord.OrdP.St.rd2 (T' := ?_) 5 [6, 7, 8, 9, 10, 11, 12, 13, 14] _ _ rfl (by kernel_rfl) rfl rfl rfl rfl (fun K hk => ?_) ?_
        rotate_left
        · go_step; exact hk
        refine Ord.OrdP.St.fl2 (T' := ?_) 6 [7, 8, 9, 10, 11, 12, 13, 14] _ _ rfl (by kernel_rfl) rfl rfl rfl rfl (fun K w' hk => ?_) ?_
        rotate_left
        · go_step; exact hk
        refine Ord.OrdP.St.fl2 (T' := ?_) 7 [8, 9, 10, 11, 12, 13, 14] _ _ rfl (by kernel_rfl) rfl rfl rfl rfl (fun K w' hk => ?_) ?_
        rotate_left
        · go_step; exact hk
        refine Ord.OrdP.St.rd2 (T' := ?_) 8 [9, 10, 11, 12, 13, 14] _ _ rfl (by kernel_rfl) rfl rfl rfl rfl (fun K hk => ?_) ?_
        rotate_left
        · go_step; exact hk
        refine Ord.OrdP.St.efC 9 [10, 11, 12, 13, 14] _ rfl (by kernel_rfl) (fun K hK => ?_)
        go_wp2_with fail
        refine HMUX2.out.mono ?_
        rintro e w10 ⟨rfl, hto⟩
        obtain ⟨F10, a1, a2, a3, a4⟩ := hto
        have hs10 := HSC.out.to2 HI.out HXX.out a1 a2 a3 a4
        have hbk10 : Books (b5 + 4) Wr w10 := (HBQ.out.trans (Books.of_ch HCUR.out HSQ.out.hB (by simp))).trans (HSC.out.booksTo ⟨F10, a1, a2, a3, a4⟩)
        have hsr10 := (HSR.out.ch HCUR.out (by simp)).ch a2 (fun q hq => by cases hq; exact hsF)
        have hsF10 : sb ∉ F10 := fun hm => (a3 sb hm).elim hsF (fun e => by have h1 : sb < wr.heap.size := (HSR.out.lt sb rfl).2; have h2 := HCUR.out.size; omega)
        clear a1 a2 a3 a4 c0 c6 c8 HMUX2
        have c6 := hs10.c6.cell (i := 0) rfl
        have HS10 := Lib.hid hs10; clear hs10
        have HBK10 := Lib.hid hbk10; clear hbk10
        have HSR10 := Lib.hid hsr10; clear hsr10
        have HSF10 := Lib.hid hsF10; clear hsF10
        have HMU := Lib.hid (mdmustR_is w10 (M.2.1 : Int) M.2.2)
        go_wp2_with fail
        refine .inl ⟨rfl, hK _ _ ?_ ?_⟩
        · exact c6
        clear hK K
        refine Ord.OrdP.St.fl2 (T' := ?_) 10 [11, 12, 13, 14] _ _ rfl (by kernel_rfl) rfl rfl rfl rfl (fun K w' hk => ?_) ?_
        rotate_left
        · go_step; exact hk
        refine Ord.OrdP.St.fl2 (T' := ?_) 11 [12, 13, 14] _ _ rfl (by kernel_rfl) rfl rfl rfl rfl (fun K w' hk => ?_) ?_
        rotate_left
        · go_step; exact hk
        refine Ord.OrdP.St.efC 12 [13, 14] _ rfl (by kernel_rfl) (fun K hK => ?_)
        go_wp2_with fail
        refine HMU.out.mono ?_
        rintro e w11 ⟨rfl, ⟨h0, rfl⟩ | ⟨h0, rfl⟩⟩
        rotate_left
        · have hMk := HMF.out.keep h0
          have hnx := HNX.out
          unfold eachS at hnx
          simp only [HOPM.out, rstep_no (s := (Gq, 0)) rfl h0] at hnx
          have hb2 := chF_bad L.2.1 (S.1, 0) (Z.take (j + 1)) (by rw [hnx]; exact h0) (Z.drop (j + 1))
          rw [List.take_append_drop, hnx] at hb2
          have hR := divF_stop (d := d) (s := (G, 0)) HBK.out (e := M.2.2) h0 (by show (divM d (divF d (G, 0) (x.reverse.take k)) b).1.2 = _; rw [HQ3.out, hb2])
          exact .inr ⟨_, rfl, rfl, HBK10.out, HS10.out.stop (((I5.out.trans HLF.out.ok.ext).trans HSOK.out.ext).trans (HEXQ.out.trans HMF.out.ok.ext)) h0 hR⟩
        have hM0 : M.2.2 = 0 := h0
        have f10 := row_fz HS10.out.rr (by omega) j
        have c10 := row_at2 HS10.out.rr (show (refsCells (mm ++ r1.drop j))[j]? = some (.int .i64 c) by unfold refsCells; rw [List.getElem?_map, HAT.out]; rfl)
        go_wp2_with fail
        refine .inl ⟨rfl, hK _ _ ?_ ?_⟩
        · exact c6
        clear hK K
        refine Ord.OrdP.St.fl2 (T' := ?_) 13 [14] _ _ rfl (by kernel_rfl) rfl rfl rfl rfl (fun K w' hk => ?_) ?_
        rotate_left
        · go_step; exact hk
        refine Ord.OrdP.St.ef 14 [] _ rfl (by kernel_rfl) (fun K hK => ?_)
        go_wp2_with fail
        refine .inl ⟨rfl, hK _ _ ?_⟩; clear hK K
        refine Ord.OrdP.St.nil ?_
        gi_wp2
        have hs12 := HS10.out.put HI.out HXX.out j M.2.1
        rw [HSET.out] at hs12
        have hsr12 := HSR10.out.ch (F := [rb']) ((Ch.refl [rb'] w10).setCell (p := ⟨rb', j, none⟩) (.inl (by simp)) (.int .i64 M.2.1)) (fun q hq => by cases hq; simp; have := hsm6' rb' (by simp); omega)
        have hbk12 : Books (b5 + 4) Wr (w10.setCell ⟨rb', j, none⟩ (.int .i64 M.2.1)) := HBK10.out.trans (Books.of_ch ((Ch.refl [rb'] w10).setCell (p := ⟨rb', j, none⟩) (.inl (by simp)) (.int .i64 M.2.1)) HS10.out.hB (fun q hq => by have := (HS10.out.sx.mine rb' (by simp)).2.2.2.1; simp at hq; omega))
        have hnx := HNX.out
        unfold eachS at hnx
        simp only [HOPM.out, rstep_ok (s := (Gq, 0)) rfl hM0] at hnx
        have HS12 := Lib.hid hs12; clear hs12
        have HSR12 := Lib.hid hsr12; clear hsr12
        have HBK12 := Lib.hid hbk12; clear hbk12
        have HNX2 := Lib.hid hnx; clear hnx
        clear f10 c10 c6
        gi_wp2
        go_roundw
        case rel =>
          refine ⟨j + 1, M.1, mm ++ [M.2.1], F10, by omega, by go_num, HNX2.out, fun q hq => ?_, HS12.out, HSR12.out, HSF10.out, HBK12.out, HEXQ.out.trans HMF.out.ok.ext⟩
          rcases List.mem_append.1 hq with hq | hq
          · exact HMF.out.ok.ext.lt (HMM.out q hq)
          · rw [List.mem_singleton.1 hq]; exact HMF.out.ok.lt
        case measure => simp [intOf]; omega
      · have hjn1 : j = n + 1 := by omega
        subst hjn1
        rw [List.take_of_length_le (by omega)] at heq
        rw [List.drop_eq_nil_of_le (by omega), List.append_nil] at hs
        have hd1 : divF d (G, 0) (x.reverse.take (k + 1)) = ((Gq, 0), (divF d (G, 0) (x.reverse.take k)).2.1 ++ [L.2.1], mm) := by
          rw [divF_next HBK.out]
          unfold divS
          rw [HQ3.out, HQ2.out, heq]
        have hxg : Ext G Gq := ((I5.out.trans HLF.out.ok.ext).trans HSOK.out.ext).trans hexq
        have hkx : KX w F T0 I d G x.reverse n ⟨k, T, wr, L.2.1, rb', rc', mm⟩ wr := by
          refine ⟨Ch.refl _ _, hs.sx.ch, hs.sx.it, hs.rr, ⟨(hs.sx.mine rb' (by simp)).2.2.1, (hs.sx.mine rb' (by simp)).1⟩, fun q hq => ?_, hs.hw, hkn, by rw [hd1], hmml, fun z hz => by have := hmm z hz; have := hs.sx.gin.ok.small; omega⟩
          obtain ⟨t1, t2, t3, t4⟩ := hs.sx.tb q hq
          refine ⟨?_, ?_, t4, t1.imp (fun e => e.1) id⟩
          · rcases t1 with t1 | t1 <;> omega
          · rcases t1 with t1 | t1 <;> omega
        obtain ⟨fn, tmps, assign, body, hy1, hRound⟩ := HYY.out _ _ hkx hs.xw
        have hRnd := RoundIn.any 1 hRound l2
        simp only [sEnc] at hy1
        have c4 := hs.c4.cell (i := 0) rfl
        have c6 := hs.c6.cell (i := 0) rfl
        have HS := Lib.hid hs; clear hs
        have HRND := Lib.hid hRnd; clear hRnd hRound
        have HD1 := Lib.hid hd1; clear hd1
        have HMM := Lib.hid hmm; clear hmm
        have HBK9 := Lib.hid hbk; clear hbk
        clear hkx heq hsr
        gi_wp2
        refine HRND.out.mono ?_
        rintro e W9 ⟨rfl, ⟨T', t1, t2, t3⟩, hxw⟩
        have hs9 := HS.out.next t1 t2 (fun q hq => (t3 q hq).1) (fun q hq => (t3 q hq).2) hxw
        have hbk9 : Books (b5 + 4) Wr W9 := HBK9.out.trans (Books.of_ch t2 HS.out.hB (fun q hq => by
          simp only [List.mem_cons] at hq
          have := HWR.out
          rcases hq with e | e | e
          · omega
          · omega
          · have := (HS.out.sx.tb q e).2.2.1; omega))
        have HS9 := Lib.hid hs9; clear hs9 t1 t2 t3
        have HBK99 := Lib.hid hbk9; clear hbk9 c4 c6 hy1
        gi_wp2
        exact .inl ⟨trivial, HBK99.out, Gq, F2, T', rb', rc', mm, by rw [HD1.out], by rw [HD1.out], hmml, HMM.out, hxg, HS9.out⟩
end
end Go.Proofs.YtkedpifopclipaaGreat
namespace Go.Proofs.YtkedpifopclipaaGreat
open Go.RowKit Go.Mem Go.Aig
attribute [local go_sem] Oper.semAt_some
/-- what the loop keeps: the quotient so far, what is left -/
def QI (bq be : Nat) (d : List Nat) (G : Gra) (bits : List Nat) (n : Nat) (k : Nat) (T : List Nat) (W : World) : Prop :=
  ∃ qv ev, T = bq :: be :: (qv.ownBlock.toList ++ ev.ownBlock.toList) ∧ blk W bq [qv] ∧ blk W be [ev] ∧ row W 53 1 qv k (refsCells (divF d (G, 0) (bits.take k)).2.1) ∧ (0 < k → row W 53 1 ev n (refsCells ((divF d (G, 0) (bits.take k)).2.2.take n))) ∧ (∀ q, qv.ownBlock = some q → q ≠ bq ∧ q ≠ be ∧ ev.ownBlock ≠ some q) ∧ (∀ q, ev.ownBlock = some q → q ≠ bq ∧ q ≠ be)
theorem QI.ok (bq be : Nat) (d : List Nat) (G : Gra) (bits : List Nat) (n : Nat) : IOk (QI bq be d G bits n) := ⟨by
  rintro k T A A' L ⟨qv, ev, rfl, h1, h2, h3, h4, h5, h6⟩ hc hL
  have hm : ∀ q ∈ bq :: be :: (qv.ownBlock.toList ++ ev.ownBlock.toList), q ∉ L := fun q hq hm => hL q hm hq
  exact ⟨qv, ev, rfl, h1.ch hc (hm _ (by simp)), h2.ch hc (hm _ (by simp)), h3.ch hc (fun q hq => hm _ (by simp [hq])), fun h0 => (h4 h0).ch hc (fun q hq => hm _ (by simp [hq])), h5, h6⟩⟩
theorem JX.books {w : World} {F T0 : List Nat} {bq be : Nat} {d : List Nat} {G : Gra} {bits : List Nat} {n : Nat} {q : YX} {W A W' : World} (hk : KX w F T0 (QI bq be d G bits n) d G bits n q W) (hj : JX w (QI bq be d G bits n) q A) (hc : Ch [w.heap.size, w.heap.size + 1] A W') : JX w (QI bq be d G bits n) q W' := by
  obtain ⟨_, _, _, _, _, k6, k7, _⟩ := hk
  obtain ⟨T', j1, j2, j3⟩ := hj
  have hs := hc.size
  refine ⟨T', (QI.ok bq be d G bits n).same _ _ _ _ _ j1 hc (fun z hz hm => ?_), j2.trans hc (fun z hz => .inl (by simp at hz; rcases hz with e | e <;> simp [e])), fun z hz => ⟨(j3 z hz).1, by have := (j3 z hz).2; omega⟩⟩
  have hz2 : z = w.heap.size ∨ z = w.heap.size + 1 := by simpa using hz
  rcases (j3 z hm).1 with e | e
  · have := k6 z e; omega
  · omega
theorem fnvmdBoth1 : Fnv 29 := fnv_of Tryz.func29 (by simp [Tryz.f29]) (by simp [Tryz.f29])
/-- what the closure of Both does if it is not stopped -/
def BothD (g n : Nat) (F : List Nat) (R : Mk × List Nat × List Nat) (bq be : Nat) (w w' : World) : Prop :=
  R.1.2 = 0 ∧ ∃ F' qv ev, GIn w' g R.1.1 F' ∧ Ch ([bq, be] ++ F) w w' ∧ (∀ q ∈ F', q ∈ F ∨ w.heap.size ≤ q) ∧ F'[2]? = F[2]? ∧ blk w' bq [qv] ∧ blk w' be [ev] ∧ row w' 53 1 qv n (refsCells R.2.1) ∧ row w' 53 1 ev n (refsCells (R.2.2.take n)) ∧ (∀ q, qv.ownBlock = some q → w.heap.size ≤ q ∧ q ∉ F' ∧ ev.ownBlock ≠ some q) ∧ (∀ q, ev.ownBlock = some q → w.heap.size ≤ q ∧ q ∉ F')
section
variable {w : World} {g : Nat} {G : Gra} {F : List Nat}
set_option maxRecDepth 100000 in
set_option maxHeartbeats 4000000 in
theorem mdBoth1_is (h : GIn w g G F) {x y : List Nat} {xa ya : Option Addr} {xc yc : Nat} (n : Nat) (hxl : x.length = n) (hyl : y.length = n) (h1 : 1 ≤ n) (h16 : n ≤ 16)
    (hx : WVin w F ⟨xa, natInts x, xc⟩) (hy : WVin w F ⟨ya, natInts y, yc⟩) (hxr : ∀ r ∈ x, r < 2 * G.nodes.length) (hyr : ∀ r ∈ y, r < 2 * G.nodes.length)
    {bg bx bY bq be : Nat} (hg : blk w bg [.pointer (some ⟨g, 0, none⟩)]) (hbx : blk w bx [.slice xa n xc]) (hby : blk w bY [.slice ya n yc]) (hbq : blk w bq [.slice none 0 0]) (hbe : blk w be [.slice none 0 0]) (hne : bq ≠ be) (hF : bq ∉ F ∧ be ∉ F) (hap : ∀ q ∈ [bq, be], q ≠ bx ∧ q ∉ ablk xa ∧ q ∉ ablk ya) (hxF : bx ∉ F) :
    Calls Tryz.prog 29 #[.pointer (some ⟨bg, 0, none⟩), .pointer (some ⟨bx, 0, none⟩), .pointer (some ⟨bY, 0, none⟩), .pointer (some ⟨bq, 0, none⟩), .pointer (some ⟨be, 0, none⟩)] w (Stops w g G [bq, be] F (divF (y ++ [0]) (G, 0) x.reverse).1.2 (BothD g n F (divF (y ++ [0]) (G, 0) x.reverse) bq be)) := by
  have c0 := hg.cell (i := 0) rfl
  have c1 := hbx.cell (i := 0) rfl
  have c2 := hby.cell (i := 0) rfl
  obtain ⟨d, hd⟩ : ∃ d, y ++ [0] = d := ⟨_, rfl⟩
  rw [hd]
  have hst := mdsteps_is w g xa ya n xc n yc
  have HST := Lib.hid hst; clear hst
  refine (callsIn_wide (n := 4)).1 ?_
  refine callsIn_of_wp_marks Tryz.func29 rfl trivial ?_ rfl
  simp only [Tryz.ntmps29, List.size_toArray, List.length_cons, List.length_nil, Nat.reduceAdd, Nat.reduceSub, Array.replicate_succ, Array.replicate_zero, List.push_toArray, List.append_toArray, List.nil_append, List.cons_append]
  refine wpIn_wide.2 ?_
  go_wp2_with fail
  refine HST.out.mono ?_
  rintro e w1 ⟨rfl, hw1⟩
  have hc1 : Ch [] w w1 := by rw [hw1]; exact (((Ch.refl _ _).alloc _).alloc _).alloc _
  have hz1 : w1.heap.size = w.heap.size + 3 := by rw [hw1]; simp
  have hb0 : blk w1 w.heap.size [.pointer (some ⟨g, 0, none⟩)] := by rw [hw1]; exact ((blk.new w _ _).alloc _).alloc _
  have hb1 : blk w1 (w.heap.size + 1) [.slice xa n xc] := by rw [hw1]; exact (blk.new' _ _ (by simp)).alloc _
  have hb2 : blk w1 (w.heap.size + 1 + 1) [.slice ya n yc] := by rw [hw1]; exact blk.new' _ _ (by simp)
  clear hw1
  have hFl := h.lt
  have hqlt := hbq.lt
  have helt := hbe.lt
  have hG1 := h.same hc1 (by simp)
  have hins : ∀ {a : Option Addr} {l : List Nat} {c : Nat}, WVin w F ⟨a, natInts l, c⟩ → (∀ q ∈ [bq, be], q ∉ ablk a) → WVin w1 ([bq, be] ++ F) ⟨a, natInts l, c⟩ := fun {a l c} hv ha => ⟨hv.ok.ch hc1 (by simp), fun k hk => by
    obtain ⟨k1, k2⟩ := hv.apart k hk
    refine ⟨fun hm => ?_, by omega⟩
    rcases List.mem_append.1 hm with hm | hm
    · exact ha k hm hk
    · exact k1 hm⟩
  have hi0 : QI bq be (y ++ [0]) G x.reverse n 0 [bq, be] w1 := ⟨.slice none 0 0, .slice none 0 0, by simp [Value.ownBlock], hbq.ch hc1 (by simp), hbe.ch hc1 (by simp), ⟨rfl, .inl ⟨rfl, rfl⟩⟩, by omega, by simp [Value.ownBlock], by simp [Value.ownBlock]⟩
  have hseq := fun (N : Nat) => mdsteps1_seq (T0 := [bq, be]) hG1 n hxl hyl h1 h16 (hins hx (fun q hq => (hap q hq).2.1)) (hins hy (fun q hq => (hap q hq).2.2)) hxr hyr hb0 hb1 hb2 (by
    refine ⟨fun hm => ?_, fun hm => ?_, fun hm => ?_⟩ <;> rcases List.mem_append.1 hm with hm | hm
    · simp at hm; omega
    · have := hFl _ hm; omega
    · simp at hm; omega
    · have := hFl _ hm; omega
    · simp at hm; omega
    · have := hFl _ hm; omega) (QI.ok bq be (y ++ [0]) G x.reverse n) hi0 (fun q hq => by
    simp only [List.mem_cons, List.not_mem_nil, or_false] at hq
    rcases hq with rfl | rfl
    · exact ⟨by omega, hF.1⟩
    · exact ⟨by omega, hF.2⟩) N
  simp only [hd] at hseq hi0
  have HSEQ := Lib.hid hseq; clear hseq
  have hbx1 := hbx.ch hc1 (by simp)
  have hxb : bx ∉ [bq, be] ++ F := fun hm => by
    rcases List.mem_append.1 hm with hm | hm
    · exact (hap bx hm).1 rfl
    · exact hxF hm
  clear hins hb0 hb1 hb2 c0 c1 c2 HST
  go_wp2_with fail
  refine (wpIn_wide (n := 4)).1 ?_
  refine wpIn_rangeFunc_R (n := 4) w1.heap.size rfl rfl (by omega) rfl trivial (fun args w => fnvmdsteps1 args w) (encs := sEnc n) (fun _ => rfl)
    (fun W' => Ch [w1.heap.size, w1.heap.size + 1] w1 W')
    (KX w1 F [bq, be] (QI bq be d G x.reverse n) d G x.reverse n)
    (fun q W' => ∃ A, JX w1 (QI bq be d G x.reverse n) q A ∧ Ch [w1.heap.size, w1.heap.size + 1] A W')
    (fun W' => ∃ A, DX w1 g F [bq, be] (QI bq be d G x.reverse n) (divF d (G, 0) x.reverse) n A ∧ Ch [w1.heap.size, w1.heap.size + 1] A W')
    (fun c W' => DPX w1 g F [bq, be] G (divF d (G, 0) x.reverse).1.2 c W')
    ?seq ?j0 ?k ?j ?d ?pan (Ch.refl _ _) ?a1 ?assign ?body ?done
  case assign =>
    intro q x W K hK
    simp only [sEnc]
    gi_wp2
    exact hK
  case j0 => exact fun A A' h hc => h.trans hc (fun q hq => .inl hq)
  case k => exact fun x A A' h hc => ⟨h.1.trans hc (fun q hq => .inl hq), h.2⟩
  case j => exact fun x A A' ⟨A0, h1, h2⟩ hc => ⟨A0, h1, h2.trans hc (fun q hq => .inl hq)⟩
  case d => exact fun A A' ⟨A0, h1, h2⟩ hc => ⟨A0, h1, h2.trans hc (fun q hq => .inl hq)⟩
  case seq =>
    intro l X hX hXB hY W hcW hXW
    refine (HSEQ.out 3 l X ⟨hX⟩ hXB (fun q W hk hx => YieldAt.any 3 ((hY q W hk hx).mono ?_)) W hcW hXW).mono ?_
    · rintro e W' ⟨rfl, ⟨A, hj, hca⟩, hx⟩
      exact ⟨rfl, hj.books hk hca, hx⟩
    · rintro e W' (⟨hv, hd, hx⟩ | ⟨c, rfl, hp, hx⟩)
      · exact .inl ⟨hv, ⟨W', hd, Ch.refl _ _⟩, hx⟩
      · exact .inr ⟨c, rfl, hp, hx⟩
  case pan =>
    rintro c W1 ⟨p0, rfl, G', F', p1, p2, p3, p4, p5⟩ hK hz
    have hcp : Ch [w1.heap.size] W1 (W1.putObj w1.heap.size (.deferred none)) := ch_put (by simp)
    refine ⟨by simp, .inl ⟨_, _, rfl, run_takeDeferred hK, ?_⟩⟩
    refine .inr ⟨p0, rfl, G', F', p1, p2.same hcp (fun q hq hm => by rcases p4 q hq with e | e <;> (simp at hm; omega)), ?_, fun q hq => (p4 q hq).elim (fun e => .inl e.1) (fun e => .inr (by omega)), p5⟩
    exact ((hc1.mono (by simp)).trans p3 (fun q hq => .inl hq)).trans hcp (fun q hq => .inr (by simp at hq; omega))
  case done =>
    rintro W1 ⟨A, ⟨p0, F', T', p1, p2, p3, p4, p5, p6⟩, hca⟩ hK hz
    obtain ⟨qv, ev, rfl, q1, q2, q3, q4, q5, q6⟩ := p5
    have htk : x.reverse.take n = x.reverse := List.take_of_length_le (by simp [hxl])
    rw [htk] at q3 q4
    have hcp : Ch [w1.heap.size] W1 (W1.putObj w1.heap.size (.deferred none)) := ch_put (by simp)
    have hca2 : Ch [w1.heap.size, w1.heap.size + 1] A (W1.putObj w1.heap.size (.deferred none)) := hca.trans hcp (fun q hq => .inl (by simp at hq; simp [hq]))
    have hnb : ∀ q ∈ bq :: be :: (qv.ownBlock.toList ++ ev.ownBlock.toList), q ∉ [w1.heap.size, w1.heap.size + 1] := fun q hq hm => by
      have hm2 : q = w1.heap.size ∨ q = w1.heap.size + 1 := by simpa using hm
      rcases (p6 q hq).1 with e | e <;> omega
    refine ⟨by simp, .inl ⟨_, _, rfl, run_takeDeferred hK, ?_⟩⟩
    refine ⟨_, results_none rfl _ _ _, .inl ⟨p0, rfl, p0, F', qv, ev, p1.same hca2 (fun q hq hm => ?_), ?_, fun q hq => (p3 q hq).elim (fun e => .inl e.1) (fun e => .inr (by omega)), p4, q1.ch hca2 (hnb _ (by simp)), q2.ch hca2 (hnb _ (by simp)), q3.ch hca2 (fun q hq => hnb _ (by simp [hq])), (q4 h1).ch hca2 (fun q hq => hnb _ (by simp [hq])), fun q hq => ?_, fun q hq => ?_⟩⟩
    · have hm2 : q = w1.heap.size ∨ q = w1.heap.size + 1 := by simpa using hm
      rcases p3 q hq with e | e <;> omega
    · exact ((hc1.mono (by simp)).trans p2 (fun q hq => .inl hq)).trans hca2 (fun q hq => .inr (by simp at hq; omega))
    · obtain ⟨t1, t2, _⟩ := p6 q (by simp [hq])
      refine ⟨?_, t2, (q5 q hq).2.2⟩
      rcases t1 with ⟨e, _⟩ | e
      · have := q5 q hq; simp at e; omega
      · omega
    · obtain ⟨t1, t2, _⟩ := p6 q (by simp [hq])
      refine ⟨?_, t2⟩
      rcases t1 with ⟨e, _⟩ | e
      · have := q6 q hq; simp at e; omega
      · omega
  case body =>
    rintro l2 q W ⟨k1, k2, k3, k4, k5, k6, k7, k8, k9, k10, k11⟩ hWl
    obtain ⟨qv, ev, hT, q1, q2, q3, q4, q5, q6⟩ := (QI.ok bq be d G x.reverse n).same _ _ _ _ _ k3 k1 (fun z hz hm => by have := k6 z hm; simp at hz; omega)
    have hrr := k4.ch k1 (fun z hz => by cases hz; simp; have := k5.2; omega)
    have hrc := row_cap' k4
    have cx := ((hbx1.ch k2 hxb).ch k1 (by have := hbx1.lt; simp; omega)).cell (i := 0) rfl
    obtain ⟨qa, qc, rfl⟩ := row.shape q3
    have hks : q.W.heap.size ≤ W.heap.size := k1.size
    have hcA : Ch [] W (W.alloc (.cells #[.int .i64 q.f] 53)) := (Ch.refl _ _).alloc _
    have hrA := q3.ch hcA (by simp)
    have hbA : blk (W.alloc (.cells #[.int .i64 q.f] 53)) W.heap.size [.int .i64 q.f] := blk.new' _ _ rfl
    have cq := (q1.ch hcA (by simp)).cell (i := 0) rfl
    have cq0 := q1.cell (i := 0) rfl
    have hkn : q.k ≤ 1000000 := by omega
    obtain ⟨k, T, Wq, f, rb, rc, r⟩ := q
    simp only at k1 k2 k3 k4 k5 k6 k7 k8 k9 k10 k11 hT q3 q4 hrr hrc hks hrA cq hbA hcA hkn
    have HRA := Lib.hid hrA; clear hrA
    have HBA := Lib.hid hbA; clear hbA
    have HCA := Lib.hid hcA; clear hcA
    have K1 := Lib.hid k1; clear k1
    have K2 := Lib.hid k2; clear k2
    have K3 := Lib.hid k3; clear k3
    have K5 := Lib.hid k5; clear k5
    have K6 := Lib.hid k6; clear k6
    have K9 := Lib.hid k9; clear k9
    have HRR := Lib.hid hrr; clear hrr k4
    have Q1 := Lib.hid q1; clear q1
    have Q2 := Lib.hid q2; clear q2
    have Q3 := Lib.hid q3; clear q3 q4
    have Q5 := Lib.hid q5; clear q5
    have Q6 := Lib.hid q6; clear q6
    have HT := Lib.hid hT; clear hT
    refine wpIn_block ?_
    refine wpIn_seq ?_
    refine Ord.plainR (by kernel_rfl) ?_
    go_wp2_with (at_builtin; go_loud (refine wpList_append_row slRefs rfl _ _ rfl (v := .slice qa k qc) (n := k) (xs := refsCells (divF d (G, 0) (x.reverse.take k)).2.1) rfl HRA.out (ad := ⟨W.heap.size, 0, none⟩) (m := 1) (c := 1) (news := [.int .i64 f]) rfl rfl (news_blk HBA.out) (by simp [Value.oneCell']) (by omega) (by omega) ?_; intro v' w5 hown4 hC4 hf4; obtain ⟨gb, gc, rfl⟩ := row.parts hown4 (by omega); have HO4 := Lib.hid hown4; clear hown4; have HCC4 := Lib.hid hC4; clear hC4; have HF4 := Lib.hid hf4; clear hf4; have c55 := ((Q1.out.ch HCA.out (by simp)).ch HCC4.out (fun hm => (Q5.out bq (by simpa using hm)).1 rfl)).cell (i := 0) rfl; have f55 := ((Q1.out.ch HCA.out (by simp)).ch HCC4.out (fun hm => (Q5.out bq (by simpa using hm)).1 rfl)).frozen (i := 0)))
    refine ⟨rfl, ?_⟩
    obtain ⟨W6, hW6⟩ : ∃ W6, W6 = w5.setCell ⟨bq, 0, none⟩ (.slice (some ⟨gb, 0, none⟩) (k + 1) gc) := ⟨_, rfl⟩
    rw [← hW6]
    change Code.wpIn _ _ _ _ _ _ _
    have hC5 : Ch (Value.slice qa k qc).ownBlock.toList W w5 := (HCA.out.mono (by simp)).trans HCC4.out (fun z hz => .inl hz)
    have hC56 : Ch [bq] w5 W6 := by rw [hW6]; exact (Ch.refl _ _).setCell (.inl (by simp)) _
    have hC6 : Ch (bq :: (Value.slice qa k qc).ownBlock.toList) W W6 := (hC5.mono (fun z hz => .inl (by simp [hz]))).trans hC56 (fun z hz => .inl (by simp at hz; simp [hz]))
    have hLT : ∀ z ∈ bq :: (Value.slice qa k qc).ownBlock.toList, z ∈ T := fun z hz => by
      rw [HT.out]
      rcases List.mem_cons.1 hz with rfl | hz
      · simp
      · simp [hz]
    have hbxT : bx ∉ T := fun hm => by
      rcases (K6.out bx hm).2.2.2 with e | e
      · exact hxb (List.mem_append_left _ e)
      · have := hbx1.lt; omega
    have hrbT : rb ∉ T := K5.out.1
    have cx6 := (((hbx1.ch K2.out hxb).ch K1.out (by have := hbx1.lt; simp; omega)).ch hC6 (fun hm => hbxT (hLT _ hm))).cell (i := 0) rfl
    have hrr6 := HRR.out.ch hC6 (fun z hz hm => by cases hz; exact hrbT (hLT _ hm))
    have hbe6 := Q2.out.ch hC6 (fun hm => by
      rcases List.mem_cons.1 hm with e | e
      · exact hne e.symm
      · exact (Q5.out be (by simpa using e)).2.1 rfl)
    have hgbn : gb ∈ (Value.slice qa k qc).ownBlock.toList ∨ W.heap.size ≤ gb := by
      rcases HF4.out gb rfl with e | e
      · exact .inl (by simp [e])
      · exact .inr (by have := HCA.out.size; omega)
    have hgq : gb ≠ bq ∧ gb ≠ be := by
      rcases hgbn with e | e
      · have := Q5.out gb (by simpa using e); exact ⟨this.1, this.2.1⟩
      · have := Q1.out.lt; have := Q2.out.lt; omega
    have hq6 : row W6 53 1 (.slice (some ⟨gb, 0, none⟩) (k + 1) gc) (k + 1) (refsCells (divF d (G, 0) (x.reverse.take (k + 1))).2.1) := by
      rw [K9.out]
      have := HO4.out.ch hC56 (fun z hz => by cases hz; simpa using hgq.1)
      simpa [refsCells] using this
    have hbq6 : blk W6 bq [.slice (some ⟨gb, 0, none⟩) (k + 1) gc] := by
      rw [hW6]
      exact ((Q1.out.ch HCA.out (by simp)).ch HCC4.out (fun hm => (Q5.out bq (by simpa using hm)).1 rfl)).set _
    have hslr : Sl W6 (some ⟨rb, 0, none⟩) (natInts r) := Sl.of_row' hrr6 k10 (by omega)
    have hwv : WVok W6 ⟨some ⟨rb, 0, none⟩, natInts (r.take n), rc⟩ := by
      refine ⟨⟨fun i z hz => hslr.cells i z ?_, by simp; omega⟩, fun z hz => ?_, by simp [natInts]; omega⟩
      · simp only [natInts, List.getElem?_map, List.getElem?_take] at hz ⊢
        split at hz
        · exact hz
        · cases hz
      · obtain ⟨u, hu, rfl⟩ := List.mem_map.1 hz
        have := k11 u (List.mem_of_mem_take hu)
        omega
    have hcl := Clref_w hwv n (by simp [natInts]; omega)
    simp only at hcl
    have HCL := Lib.hid hcl; clear hcl
    have HC6 := Lib.hid hC6; clear hC6
    have HQ6 := Lib.hid hq6; clear hq6
    have HBQ6 := Lib.hid hbq6; clear hbq6
    have HBE6 := Lib.hid hbe6; clear hbe6
    have HLT := Lib.hid hLT; clear hLT
    clear hC5 hC56 hW6 c55 f55 hslr hwv hrr6 cq cq0 cx HO4 HCC4 HF4 HBA HRA HCA
    gi_wp2
    refine ⟨trivial, (CallsIn.inRound l2 ((callsIn_wide (n := _)).2 HCL.out)).mono ?_⟩
    rintro e w7 ⟨v, rfl, hv1, hv2, hv3⟩
    obtain ⟨va, vc, rfl⟩ := row.shape hv1
    have hvl : (intCells (natInts (r.take n))).length = n := by simp [intCells, natInts]; omega
    have hve : intCells (natInts (r.take n)) = refsCells (r.take n) := by simp [intCells, natInts, refsCells, Function.comp_def]
    have HV1 := Lib.hid hv1; clear hv1
    have HV2 := Lib.hid hv2; clear hv2
    have HV3 := Lib.hid hv3; clear hv3
    have c7 := (HBE6.out.ch HV3.out (by simp)).cell (i := 0) rfl
    have f7 := (HBE6.out.ch HV3.out (by simp)).frozen (i := 0)
    gi_wp2
    rw [← hz1]
    have hvl2 : (refsCells (r.take n)).length = n := by rw [← hve]; exact hvl
    rw [hvl2]
    have hve1 : row w7 53 1 (.slice va n vc) n (refsCells (r.take n)) := by
      have := HV1.out
      rw [hve, hvl2] at this
      exact this
    have hv2' : ∀ z, (Value.slice va n vc).ownBlock = some z → W6.heap.size ≤ z := fun z hz => by
      have := HV2.out z (by cases va <;> simp_all [Value.ownBlock])
      exact this
    obtain ⟨W8, hW8⟩ : ∃ W8, W8 = w7.setCell ⟨be, 0, none⟩ (.slice va n vc) := ⟨_, rfl⟩
    rw [← hW8]
    have hC78 : Ch [be] w7 W8 := by rw [hW8]; exact (Ch.refl _ _).setCell (.inl (by simp)) _
    have hC68 : Ch [be] W6 W8 := (HV3.out.mono (by simp)).trans hC78 (fun z hz => .inl hz)
    have hgb6 : gb < W6.heap.size := (HQ6.out.lt gb rfl).2
    have hbe6 := HBE6.out.lt
    have hbq6 := HBQ6.out.lt
    have hs68 := hC68.size
    have hs6 := HC6.out.size
    have hbeT : be ∈ T := by rw [HT.out]; simp
    have hC8 : Ch (be :: bq :: (Value.slice qa k qc).ownBlock.toList) W W8 := (HC6.out.mono (fun z hz => .inl (List.mem_cons_of_mem _ hz))).trans hC68 (fun z hz => .inl (by simp at hz; simp [hz]))
    have hL8 : ∀ z ∈ be :: bq :: (Value.slice qa k qc).ownBlock.toList, z ∈ T := fun z hz => by
      rcases List.mem_cons.1 hz with rfl | hz
      · exact hbeT
      · exact HLT.out z hz
    have hrw8 := hve1.ch hC78 (fun z hz => by have := hv2' z hz; simp; omega)
    have hrw8l := fun z hz => (hrw8.lt z hz).2
    refine ⟨Books.of_ch hC8 hWl (fun z hz => by have := K6.out z (hL8 z hz); omega), trivial, W8, ⟨bq :: be :: ((Value.slice (some ⟨gb, 0, none⟩) (k + 1) gc).ownBlock.toList ++ (Value.slice va n vc).ownBlock.toList), ⟨.slice (some ⟨gb, 0, none⟩) (k + 1) gc, .slice va n vc, rfl, ?_, ?_, ?_, fun _ => ?_, fun z hz => ?_, fun z hz => ?_⟩, ?_, fun z hz => ?_⟩, Ch.refl _ _⟩
    · exact HBQ6.out.ch hC68 (by simpa using hne)
    · rw [hW8]; exact (HBE6.out.ch HV3.out (by simp)).set _
    · exact HQ6.out.ch hC68 (fun z hz => by cases hz; simpa using hgq.2)
    · show row W8 53 1 (.slice va n vc) n (refsCells ((divF d (G, 0) (x.reverse.take (k + 1))).2.2.take n))
      rw [K9.out]
      exact hrw8
    · cases hz
      exact ⟨hgq.1, hgq.2, fun hm => by have := hv2' gb hm; omega⟩
    · have := hv2' z hz
      omega
    · exact (K1.out.mono (fun z hz => .inl (by simp at hz; rcases hz with e | e <;> simp [e]))).trans hC8 (fun z hz => .inl (by simp only [List.mem_cons]; exact .inr (.inr (hL8 z hz))))
    · simp only [List.mem_cons, List.mem_append, Option.mem_toList] at hz
      rcases hz with rfl | rfl | hz | hz
      · exact ⟨.inl (HLT.out _ (by simp)), by omega⟩
      · exact ⟨.inl hbeT, by omega⟩
      · cases hz
        refine ⟨?_, by show gb < _; omega⟩
        rcases hgbn with e | e
        · exact .inl (HLT.out gb (List.mem_cons_of_mem _ e))
        · exact .inr (by show Wq.heap.size ≤ gb; omega)
      · exact ⟨.inr (by have := hv2' z hz; show Wq.heap.size ≤ z; omega), hrw8l z hz⟩
end
end Go.Proofs.YtkedpifopclipaaGreat
namespace Go.Aig
/-- what is left of a quotient and a rest -/
def bres (G : Gra) (n : Nat) (R : Mk × List Nat × List Nat) : Gra × (List Nat × List Nat) × Nat := if R.1.2 ≠ 0 then (G, ([], []), R.1.2) else (R.1.1, (R.2.1.reverse, R.2.2.take n), 0)
def bothG (G : Gra) (x y : List Int) : Gra × (List Nat × List Nat) × Nat := if chk24 G [x, y] ≠ 0 then (G, ([], []), chk24 G [x, y]) else bres G x.length (divF (nats y ++ [0]) (G, 0) (nats x).reverse)
end Go.Aig
namespace Go.Proofs.YtkedpifopclipaaGreat
open Go.RowKit Go.Mem Go.Aig
/-- what a function leaves of a graph, with two words of its own -/
def GVV (w : World) (g : Nat) (G : Gra) (F : List Nat) (v1 : Value) (l1 : List Nat) (v2 : Value) (l2 : List Nat) (w' : World) : Prop :=
  ∃ F', GIn w' g G F' ∧ Ch F w w' ∧ (∀ k ∈ F', k ∈ F ∨ w.heap.size ≤ k) ∧ F'[2]? = F[2]? ∧ row w' 53 1 v1 l1.length (refsCells l1) ∧ row w' 53 1 v2 l2.length (refsCells l2) ∧ (∀ k, v1.ownBlock = some k → w.heap.size ≤ k ∧ k ∉ F' ∧ v2.ownBlock ≠ some k) ∧ (∀ k, v2.ownBlock = some k → w.heap.size ≤ k ∧ k ∉ F')
theorem GVV.none {w w' : World} {g : Nat} {G : Gra} {F F' : List Nat} (h1 : GIn w' g G F') (h2 : Ch F w w') (h3 : ∀ k ∈ F', k ∈ F ∨ w.heap.size ≤ k) (h4 : F'[2]? = F[2]?) : GVV w g G F (.slice none 0 0) [] (.slice none 0 0) [] w' :=
  ⟨F', h1, h2, h3, h4, ⟨rfl, .inl ⟨rfl, rfl⟩⟩, ⟨rfl, .inl ⟨rfl, rfl⟩⟩, by simp [Value.ownBlock], by simp [Value.ownBlock]⟩
section
variable {w : World} {g : Nat} {G : Gra} {F : List Nat}
set_option maxRecDepth 100000 in
set_option maxHeartbeats 4000000 in
theorem mdBoth_is (h : GIn w g G F) {x y : WV} (hx : WVin w F x) (hy : WVin w F y) :
    Calls Tryz.prog 8 #[.pointer (some ⟨g, 0, none⟩), x.val, y.val] w fun e w' => ∃ v1 v2, e = .returned (.tuple #[v1, v2, .int .i64 (bothG G x.l y.l).2.2]) ∧ GVV w g (bothG G x.l y.l).1 F v1 (bothG G x.l y.l).2.1.1 v2 (bothG G x.l y.l).2.1.2 w' := by
  have hFl := h.lt
  obtain ⟨xa, xl, xc⟩ := x
  obtain ⟨ya, yl, yc⟩ := y
  simp only [WV.val] at *
  unfold bothG
  have hch := chk24_ok (G := G) (x := xl) (y := yl)
  have hcs := chk24_small G [xl, yl]
  have hmf : ∀ (fn : Fn) (first cap : Array Value) (w : World), (Instr.makeFunc fn first cap).run Tryz.prog w = .ok (.func fn first cap) w := fun _ _ _ _ => rfl
  generalize hc : chk24 G [xl, yl] = cc at *
  have hC : ∀ W, Ch [] w W → ∀ b, blk W b [.slice xa xl.length xc, .slice ya yl.length yc] → Calls Tryz.prog 25 #[.pointer (some ⟨g, 0, none⟩), .slice (some ⟨b, 0, none⟩) 2 2] W fun e w' => e = .returned (.int .i64 cc) ∧ Ch [] W w' := fun W hW b hb => by
    have := mdcheck_is (h.same hW (by simp)) (b := b) (ws := [⟨xa, xl, xc⟩, ⟨ya, yl, yc⟩]) 2 2 rfl (by omega) (fun i z hz => by
      match i, hz with
      | 0, hz => cases hz; exact hb.cell rfl
      | 1, hz => cases hz; exact hb.cell rfl) (fun z hz => by
      simp only [List.mem_cons, List.not_mem_nil, or_false] at hz
      rcases hz with rfl | rfl
      · exact (hx.ch hW).ok
      · exact (hy.ch hW).ok)
    rw [show ([⟨xa, xl, xc⟩, ⟨ya, yl, yc⟩] : List WV).map WV.l = [xl, yl] from rfl, hc] at this
    exact this
  have HC := Lib.hid hC; clear hC
  have HX := Lib.hid hx; clear hx
  have HY := Lib.hid hy; clear hy
  have H := Lib.hid h; clear h
  have HCH := Lib.hid hch; clear hch
  clear hc
  generalize hWW : (if cc ≠ 0 then (G, ([], []), cc) else bres G xl.length (divF (nats yl ++ [0]) (G, 0) (nats xl).reverse) : Gra × (List Nat × List Nat) × Nat) = WW
  have HWW := Lib.hid hWW; clear hWW
  go_enter Tryz.func8, Tryz.ntmps8
  go_wp2_with fail
  refine calls_named fun W0 hW0 => ?_
  have hc0 : Ch [] w W0 := by rw [hW0]; exact ((((Ch.refl _ _).alloc _).alloc _).alloc _).alloc _
  have hbg : blk W0 w.heap.size [.pointer (some ⟨g, 0, none⟩)] := by rw [hW0]; exact (((blk.new w _ _).alloc _).alloc _).alloc _
  have hbx : blk W0 (w.heap.size + 1) [.slice xa xl.length xc] := by rw [hW0]; exact ((blk.new' _ _ (by simp)).alloc _).alloc _
  have hby : blk W0 (w.heap.size + 1 + 1) [.slice ya yl.length yc] := by rw [hW0]; exact (blk.new' _ _ (by simp)).alloc _
  have hbl : blk W0 (w.heap.size + 1 + 1 + 1) [.slice xa xl.length xc, .slice ya yl.length yc] := by rw [hW0]; exact blk.new' _ _ (by simp)
  clear hW0
  refine (HC.out W0 hc0 _ hbl).mono ?_
  rintro e w1 ⟨rfl, hc1⟩
  have hc01 := hc0.trans hc1 (by simp)
  have hbg := hbg.ch hc1 (by simp)
  have hbx := hbx.ch hc1 (by simp)
  have hby := hby.ch hc1 (by simp)
  clear hbl hc0 hc1
  by_cases hcc : cc = 0
  · subst hcc
    obtain ⟨k1, k2, k3, k4, k5, k6, k7⟩ := HCH.out rfl
    have d0 := ((hbg.alloc (.cells #[.slice none 0 0] 25)).alloc (.cells #[.slice none 0 0] 25)).cell (i := 0) rfl
    have hc2 : Ch [] w ((w1.alloc (.cells #[.slice none 0 0] 25)).alloc (.cells #[.slice none 0 0] 25)) := (hc01.alloc _).alloc _
    have hbq : blk ((w1.alloc (.cells #[.slice none 0 0] 25)).alloc (.cells #[.slice none 0 0] 25)) w1.heap.size [.slice none 0 0] := (blk.new _ _ _).alloc _
    have hbe : blk ((w1.alloc (.cells #[.slice none 0 0] 25)).alloc (.cells #[.slice none 0 0] 25)) (w1.heap.size + 1) [.slice none 0 0] := blk.new' _ _ (by simp)
    have hz1 := hc01.size
    have hxap : ∀ q, w.heap.size ≤ q → q ∉ ablk xa ∧ q ∉ ablk ya := fun q hq => ⟨fun hm => by have := (HX.out.apart q hm).2; omega, fun hm => by have := (HY.out.apart q hm).2; omega⟩
    have hbxl := hbx.lt
    have hB := mdbuild_is (H.out.same hc2 (by simp)) 29 #[.pointer (some ⟨w.heap.size, 0, none⟩), .pointer (some ⟨w.heap.size + 1, 0, none⟩), .pointer (some ⟨w.heap.size + 1 + 1, 0, none⟩), .pointer (some ⟨w1.heap.size, 0, none⟩), .pointer (some ⟨w1.heap.size + 1, 0, none⟩)] fnvmdBoth1 [w1.heap.size, w1.heap.size + 1] (fun k hk => by simp at hk ⊢; omega) (divF (nats yl ++ [0]) (G, 0) (nats xl).reverse).1.2 (BothD g xl.length F (divF (nats yl ++ [0]) (G, 0) (nats xl).reverse) w1.heap.size (w1.heap.size + 1)) (fun a b hd => by
      obtain ⟨_, _, _, _, _, q, _⟩ := hd
      exact q) (fun W hW hG => by
      have := mdBoth1_is hG (x := nats xl) (y := nats yl) (xa := xa) (ya := ya) (xc := xc) (yc := yc) xl.length (by simp) (by simp [k1]) k2 k3
        (by rw [k4]; exact HX.out.ch (hc2.trans hW (by simp))) (by rw [k5]; exact HY.out.ch (hc2.trans hW (by simp))) k6 k7 (((hbg.alloc _).alloc _).ch hW (by simp)) (((hbx.alloc _).alloc _).ch hW (by simp)) (by rw [← k1]; exact ((hby.alloc _).alloc _).ch hW (by simp)) (hbq.ch hW (by simp)) (hbe.ch hW (by simp)) (by omega) ⟨fun hm => by have := hFl _ hm; omega, fun hm => by have := hFl _ hm; omega⟩ (fun q hq => by
          simp only [List.mem_cons, List.not_mem_nil, or_false] at hq
          exact ⟨by omega, hxap q (by omega)⟩) (fun hm => by have := hFl _ hm; omega)
      exact this)
    have HB := Lib.hid hB; clear hB
    have hww := HWW.out
    rw [if_neg (by simp)] at hww
    clear HWW
    generalize divF (nats yl ++ [0]) (G, 0) (nats xl).reverse = R at *
    unfold bres at hww
    have HC01 := Lib.hid hc01; clear hc01
    have HBQ := Lib.hid hbq; clear hbq
    have HBE := Lib.hid hbe; clear hbe
    have HC2 := Lib.hid hc2; clear hc2
    clear hbg hbx hby HX HY HCH HC k1 k4 k5 k6 k7 hxap
    go_wp2_with fail
    refine HB.out.mono ?_
    rintro e w2 ⟨rfl, ⟨h0, bk, W1, W2, hb1, hb2, hW1, ⟨_, F', qv, ev, p1, p2, p3, p4, p5, p6, p7, p8, p9, p10⟩, hc2⟩ | ⟨h0, F', q1, q2, q3, q4⟩⟩
    · rw [if_neg (by simpa using h0)] at hww
      subst hww
      have hzc := HC2.out.size
      have hz2 : ((w1.alloc (.cells #[.slice none 0 0] 25)).alloc (.cells #[.slice none 0 0] 25)).heap.size = w1.heap.size + 2 := by simp
      rw [hz2] at hb1
      have hzW := hW1.size
      rw [hz2] at hzW
      have hnk : ∀ q, q < w1.heap.size + 2 → q ∉ [bk] := fun q hq hm => by simp at hm; omega
      have r1 := p5.ch hc2 (hnk _ (by omega))
      have r2 := p6.ch hc2 (hnk _ (by omega))
      have r3 := p7.ch hc2 (fun q hq hm => by have := (p9 q hq).1; simp at hm; omega)
      have r4 := p8.ch hc2 (fun q hq hm => by have := (p10 q hq).1; simp at hm; omega)
      have hFk : ∀ q ∈ F', q ∉ [bk] := fun q hq hm => by
        simp at hm
        rcases p3 q hq with e | e
        · have := hFl q e; omega
        · omega
      have hG2 := p1.same hc2 hFk
      obtain ⟨qb, qc, rfl⟩ := row.parts r3 (by omega)
      obtain ⟨ea, ec, rfl⟩ := row.shape r4
      have hql : R.2.1.length = xl.length := by have := r3.1; simpa [refsCells] using this
      have hel : (R.2.2.take xl.length).length = xl.length := by have := r4.1; simpa [refsCells] using this
      have hrev := Revref_some r3 (by omega)
      have hqb := p9 qb rfl
      have d1 := r1.cell (i := 0) rfl
      have hqbn : qb ≠ w1.heap.size ∧ qb ≠ w1.heap.size + 1 := by have := hqb.1; constructor <;> omega
      have hc12 : Ch F w w2 := by
        have h1 := ((HC2.out.trans hW1 (by simp)).mono (F' := [w1.heap.size, w1.heap.size + 1] ++ F) (by simp)).trans p2 (fun q hq => .inl hq)
        have h2 := h1.trans hc2 (fun q hq => .inr (by simp at hq; omega))
        refine h2.mono (fun q hq => ?_)
        rcases List.mem_append.1 hq with e | e
        · right; simp at e; omega
        · exact .inl e
      have HREV := Lib.hid hrev; clear hrev
      have R1 := Lib.hid r1; clear r1
      have R2 := Lib.hid r2; clear r2
      have R4 := Lib.hid r4; clear r4 r3
      have HG2 := Lib.hid hG2; clear hG2
      have HC12 := Lib.hid hc12; clear hc12
      have P9 := Lib.hid p9; clear p9
      have P10 := Lib.hid p10; clear p10
      have P3 := Lib.hid p3; clear p3
      have P4 := Lib.hid p4; clear p4
      clear p1 p2 p5 p6 p7 p8 hc2 hFk
      rw [h0]
      go_wp2_with fail
      refine HREV.out.mono ?_
      rintro e w3 ⟨⟨v, rfl⟩, hr3, hc3⟩
      have e1 := (R1.out.ch hc3 (by simpa using fun e => hqbn.1 e.symm)).cell (i := 0) rfl
      have e2 := (R2.out.ch hc3 (by simpa using fun e => hqbn.2 e.symm)).cell (i := 0) rfl
      have hfin : GVV w g R.1.1 F (.slice (some ⟨qb, 0, none⟩) xl.length qc) R.2.1.reverse (.slice ea xl.length ec) (R.2.2.take xl.length) w3.drew := by
        have hcd : Ch [qb] w2 w3.drew := hc3.trans (Ch.refl [] _).drew (by simp)
        refine ⟨F', HG2.out.same hcd (fun q hq hm => hqb.2.1 (by simp at hm; rw [← hm]; exact hq)), HC12.out.trans hcd (fun q hq => .inr (by simp at hq; have := hqb.1; omega)), fun q hq => (P3.out q hq).imp id (fun e => by omega), P4.out, ?_, ?_, fun q hq => ?_, fun q hq => ?_⟩
        · rw [List.length_reverse, hql]
          exact hr3.ch (Ch.refl [] _).drew (by simp)
        · rw [hel]
          exact R4.out.ch hcd (fun q hq hm => by simp at hm; exact hqb.2.2 (by rw [← hm]; exact hq))
        · have := P9.out q hq
          exact ⟨by omega, this.2.1, this.2.2⟩
        · have := P10.out q hq
          exact ⟨by omega, this.2⟩
      have HFIN := Lib.hid hfin; clear hfin hr3 hc3
      go_wp2_with fail
      refine Ord.St.door (fun _ => True) [.rd, .rd, .fl, .fl, .fl] [0, 0, 1, 7, 15] [0, 1, 2, 3, 4] mixed (by kernel_rfl) rfl ?_
      refine Ord.St.rd2 (T' := ?_) 0 [1, 2, 3, 4] _ _ rfl (by kernel_rfl) rfl rfl rfl rfl (fun K hk => ?_) ?_
      rotate_left
      · go_step; exact hk
      refine Ord.St.rd2 (T' := ?_) 1 [2, 3, 4] _ _ rfl (by kernel_rfl) rfl rfl rfl rfl (fun K hk => ?_) ?_
      rotate_left
      · go_step; exact hk
      refine Ord.St.fl2 (T' := ?_) 2 [3, 4] _ _ rfl (by kernel_rfl) rfl rfl rfl rfl (fun K w' hk => ?_) ?_
      rotate_left
      · go_step; exact hk
      refine Ord.St.fl2 (T' := ?_) 3 [4] _ _ rfl (by kernel_rfl) rfl rfl rfl rfl (fun K w' hk => ?_) ?_
      rotate_left
      · go_step; exact hk
      refine Ord.St.fl2 (T' := ?_) 4 [] _ _ rfl (by kernel_rfl) rfl rfl rfl rfl (fun K w' hk => ?_) ?_
      rotate_left
      · go_step; exact hk
      refine Ord.St.nil ?_
      go_wp2_with fail
      go_ret3
      exact ⟨_, _, rfl, HFIN.out⟩
    · have he : ((R.1.2 : Int) != 0) = true := by simp; omega
      rw [if_pos h0] at hww
      subst hww
      have hzc := HC2.out.size
      have hgv : GVV w g G F (.slice none 0 0) [] (.slice none 0 0) [] w2 := by
        refine GVV.none q1 ((HC2.out.mono (by simp)).trans q2 (fun k hk => ?_)) (fun k hk => (q3 k hk).imp id (fun e => by omega)) q4
        rcases List.mem_append.1 hk with hk | hk
        · right; simp at hk; omega
        · exact .inl hk
      have HGV := Lib.hid hgv
      clear hgv q1 q2 q3 q4
      go_wp2_with fail
      go_ret3
      exact ⟨_, _, rfl, HGV.out⟩
  · have hq : ((cc : Int) != 0) = true := by simp; omega
    have hgv : GVV w g G F (.slice none 0 0) [] (.slice none 0 0) [] w1 := GVV.none (H.out.same hc01 (by simp)) (hc01.mono (by simp)) (fun k hk => .inl hk) rfl
    have HGV := Lib.hid hgv; clear hgv hc01 hbg hbx hby HX HY HCH HC
    have hww := HWW.out
    rw [if_pos hcc] at hww
    subst hww
    have HQ := Lib.hid hcc; clear hcc
    go_wp2_with fail
    go_ret3
    exact ⟨_, _, rfl, HGV.out⟩
end
end Go.Proofs.YtkedpifopclipaaGreat
namespace Go.Aig
/-- the product of a word and a constant -/
def timesG (G : Gra) (x : List Int) (n : Nat) : Gra × List Nat × Nat := if chk24 G [x] ≠ 0 then (G, [], chk24 G [x]) else mulG G x (natInts (constL n x.length))
theorem chk24_one {G : Gra} {x : List Int} (h : chk24 G [x] = 0) : 1 ≤ x.length ∧ x.length ≤ 16 ∧ natInts (nats x) = x ∧ ∀ r ∈ nats x, r < 2 * G.nodes.length := by
  unfold chk24 at h
  split at h
  · cases h
  · rename_i h1
    split at h
    · cases h
    · rename_i h2
      simp only [List.any_cons, List.any_nil, Bool.or_false, List.headD_cons, Bool.not_eq_true] at h1 h2
      have hx := badIn_no h2
      unfold bad24 at h1
      simp only [Bool.or_eq_false_iff, decide_eq_false_iff_not] at h1
      exact ⟨by omega, by omega, hx.1, hx.2⟩
end Go.Aig
namespace Go.Proofs.YtkedpifopclipaaGreat
open Go.RowKit Go.Mem Go.Aig
section
variable {w : World} {g : Nat} {G : Gra} {F : List Nat}
set_option maxRecDepth 100000 in
set_option maxHeartbeats 1000000 in
theorem mdSquare_is (h : GIn w g G F) {x : WV} (hx : WVin w F x) (hxc : x.l.length ≤ x.c) :
    Calls Tryz.prog 9 #[.pointer (some ⟨g, 0, none⟩), x.val] w fun e w' => ∃ v, e = .returned (.tuple #[v, .int .i64 (mulG G x.l x.l).2.2]) ∧ GVo w g (mulG G x.l x.l).1 [] F v (mulG G x.l x.l).2.1 w' := by
  have HB := mdMul_is h hx hx hxc
  generalize mulG G x.l x.l = R at *
  unfold WV.val at *
  clear h hx
  go_enter Tryz.func9, Tryz.ntmps9
  go_wp2_with fail
  refine HB.mono ?_
  rintro e w' ⟨v, rfl, hgv⟩
  obtain ⟨va, vc, rfl⟩ : ∃ va vc, v = .slice va R.2.1.length vc := by
    obtain ⟨_, _, _, _, _, hr, _⟩ := hgv
    exact row.shape hr
  have HV := Lib.hid hgv; clear hgv
  go_wp2_with fail
  go_ret2
  exact ⟨_, rfl, HV.out⟩
set_option maxRecDepth 100000 in
set_option maxHeartbeats 2000000 in
theorem mdTimes_is (h : GIn w g G F) {x : WV} (hx : WVin w F x) (hxc : x.l.length ≤ x.c) (n : Nat) (hn : n < 4294967296) :
    Calls Tryz.prog 16 #[.pointer (some ⟨g, 0, none⟩), x.val, .int .u32 n] w fun e w' => ∃ v, e = .returned (.tuple #[v, .int .i64 (timesG G x.l n).2.2]) ∧ GVo w g (timesG G x.l n).1 [] F v (timesG G x.l n).2.1 w' := by
  have hFl := h.lt
  obtain ⟨xa, xl, xc⟩ := x
  simp only [WV.val] at *
  unfold timesG
  have hch := chk24_one (G := G) (x := xl)
  have hcs := chk24_small G [xl]
  generalize hc : chk24 G [xl] = cc at *
  have hC : ∀ W, Ch [] w W → ∀ b, blk W b [.slice xa xl.length xc] → Calls Tryz.prog 25 #[.pointer (some ⟨g, 0, none⟩), .slice (some ⟨b, 0, none⟩) 1 1] W fun e w' => e = .returned (.int .i64 cc) ∧ Ch [] W w' := fun W hW b hb => by
    have := mdcheck_is (h.same hW (by simp)) (b := b) (ws := [⟨xa, xl, xc⟩]) 1 1 rfl (by omega) (fun i z hz => by
      match i, hz with
      | 0, hz => cases hz; exact hb.cell rfl) (fun z hz => by
      simp only [List.mem_cons, List.not_mem_nil, or_false] at hz
      rcases hz with rfl
      exact (hx.ch hW).ok)
    rw [show ([⟨xa, xl, xc⟩] : List WV).map WV.l = [xl] from rfl, hc] at this
    exact this
  have HC := Lib.hid hC; clear hC
  have HX := Lib.hid hx; clear hx
  have H := Lib.hid h; clear h
  have HCH := Lib.hid hch; clear hch
  clear hc
  generalize hWW : (if cc ≠ 0 then (G, [], cc) else mulG G xl (natInts (constL n xl.length)) : Gra × List Nat × Nat) = WW
  have HWW := Lib.hid hWW; clear hWW
  go_enter Tryz.func16, Tryz.ntmps16
  go_wp2_with fail
  refine calls_named fun W0 hW0 => ?_
  have hc0 : Ch [] w W0 := by rw [hW0]; exact (Ch.refl _ _).alloc _
  have hbl : blk W0 w.heap.size [.slice xa xl.length xc] := by rw [hW0]; exact blk.new' _ _ (by simp)
  clear hW0
  refine (HC.out W0 hc0 _ hbl).mono ?_
  rintro e w1 ⟨rfl, hc1⟩
  have hc01 := hc0.trans hc1 (by simp)
  clear hbl hc0 hc1
  by_cases hcc : cc = 0
  · subst hcc
    obtain ⟨k1, k2, k3, k4⟩ := HCH.out rfl
    have hww := HWW.out
    rw [if_neg (by simp)] at hww
    have hrw : rightW (xl.length : Int) = true := by unfold rightW; simp; omega
    have hco := sConst_is (w := w1) n hn (xl.length : Int)
    rw [hrw] at hco
    simp only [if_true, Int.toNat_natCast] at hco
    have HCO := Lib.hid hco; clear hco
    have HC01 := Lib.hid hc01; clear hc01
    clear HC HCH HWW
    go_wp2_with fail
    refine HCO.out.mono ?_
    rintro e w2 ⟨v, rfl, hv1, hv2, hv3⟩
    have hcl : (refsCells (constL n xl.length)).length = xl.length := by simp [refsCells, constL]
    rw [hcl] at hv1
    obtain ⟨va, vc, rfl⟩ := row.shape hv1
    have hc02 := HC01.out.trans hv3 (by simp)
    have hz := HC01.out.size
    have hcnl : (constL n xl.length).length = xl.length := by simp [constL]
    have hyin : WVin w2 F ⟨va, natInts (constL n xl.length), vc⟩ := wv_of_row (by rw [hcnl]; exact hv1) hcnl (fun k hk hm => by have := hv2 k (by simp [hk]); have := hFl k hm; omega) (by omega) (fun r hr => by have := constL_le n xl.length r hr; omega)
    have hmul := mdMul_is (H.out.same hc02 (by simp)) (HX.out.ch hc02) hyin hxc
    simp only [WV.val, natInts_len, hcnl] at hmul
    rw [hww] at hmul
    have HMUL := Lib.hid hmul; clear hmul
    have HC02 := Lib.hid hc02; clear hc02 hv1 hv2 hv3 hyin
    go_wp2_with fail
    refine HMUL.out.mono ?_
    rintro e w3 ⟨v, rfl, hgv⟩
    obtain ⟨ua, uc, rfl⟩ : ∃ ua uc, v = .slice ua WW.2.1.length uc := by
      obtain ⟨_, _, _, _, _, hr, _⟩ := hgv
      exact row.shape hr
    have HV := Lib.hid (GVo.since HC02.out hgv); clear hgv
    go_wp2_with fail
    go_ret2
    exact ⟨_, rfl, HV.out⟩
  · have hq : ((cc : Int) != 0) = true := by simp; omega
    have hgv : GVo w g G [] F (.slice none 0 0) [] w1 := GVo.none H.out hc01
    have HGV := Lib.hid hgv; clear hgv hc01 HX HCH HC
    have hww := HWW.out
    rw [if_pos hcc] at hww
    subst hww
    have HQ := Lib.hid hcc; clear hcc
    go_wp2_with fail
    go_ret2
    exact ⟨_, rfl, HGV.out⟩
end
end Go.Proofs.YtkedpifopclipaaGreat
namespace Go.Proofs.YtkedpifopclipaaGreat
open Go.RowKit Go.Mem Go.Aig
section
variable {w0 : Base} {w : World} {g : Nat} {G : Gra} {F : List Nat} {L : List (Value × List Int)}
theorem Hold.word2 {w' : World} {G' : Gra} {v1 v2 : Value} {l1 l2 : List Nat} (h : Hold w0 w g G F L) (ht : GVV w g G' F v1 l1 v2 l2 w') (hb1 : ∀ r ∈ l1, r ≤ 1000000) (hl1 : l1.length ≤ 1000000) (hb2 : ∀ r ∈ l2, r ≤ 1000000) (hl2 : l2.length ≤ 1000000) :
    ∃ a1 c1 a2 c2 F', v1 = .slice a1 l1.length c1 ∧ v2 = .slice a2 l2.length c2 ∧ Hold w0 w' g G' F' ((.slice a2 l2.length c2, natInts l2) :: (.slice a1 l1.length c1, natInts l1) :: L) := by
  obtain ⟨F', h1, h2, h3, h4, h5, h6, h7, h8⟩ := ht
  obtain ⟨a1, c1, rfl⟩ := row.shape h5
  obtain ⟨a2, c2, rfl⟩ := row.shape h6
  have hs := h.own.ch.size
  have mk : ∀ {v : Value} {l : List Nat}, row w' 53 1 v l.length (refsCells l) → (∀ r ∈ l, r ≤ 1000000) → l.length ≤ 1000000 → (∀ k, v.ownBlock = some k → w.heap.size ≤ k ∧ k ∉ F') → Held w0.w w' F' v (natInts l) := fun {v l} hr hb hl ho => by
    refine ⟨?_, by simpa using hl, fun r hr => ?_, fun k hk => ⟨Nat.le_trans hs (ho k hk).1, (ho k hk).2⟩⟩
    · simp only [natInts_len]
      rw [← refs_natInts]
      exact hr
    · obtain ⟨q, hq, rfl⟩ := List.mem_map.1 hr
      have := hb q hq
      omega
  refine ⟨a1, c1, a2, c2, F', rfl, rfl, ⟨⟨h1, fun k hk => (h3 k hk).elim (h.own.own k) (fun e => Nat.le_trans hs e), h.own.ch.trans h2 (fun k hk => .inr (h.own.own k hk))⟩, fun p hp => ?_, h.keptTo h2 h3⟩⟩
  rcases List.mem_cons.1 hp with rfl | hp
  · exact mk h6 hb2 hl2 h8
  rcases List.mem_cons.1 hp with rfl | hp
  · exact mk h5 hb1 hl1 (fun k hk => ⟨(h7 k hk).1, (h7 k hk).2.1⟩)
  · exact (h.held p hp).keep h2 h3
theorem mdMul_h (h : Hold w0 w g G F L) {xa ya : Option Addr} {xl yl : List Int} {n m xc yc : Nat} (hx : (.slice xa n xc, xl) ∈ L) (hxn : xl.length = n) (hy : (.slice ya m yc, yl) ∈ L) (hym : yl.length = m) {G' : Gra} {l : List Nat} {e k : Nat} (hR : mulG G xl yl = (G', l, e)) (hk : l.length = k) (hb : ∀ r ∈ l, r ≤ 1000000) (hl : k ≤ 1000000) :
    Calls Tryz.prog 7 #[.pointer (some ⟨g, 0, none⟩), .slice xa n xc, .slice ya m yc] w fun en w' => ∃ a c F', en = .returned (.tuple #[.slice a k c, .int .i64 e]) ∧ Hold w0 w' g G' F' ((.slice a k c, natInts l) :: L) := by
  have hc := mdMul_is h.own.gin (h.at hx hxn) (h.at hy hym) (by rw [hxn]; exact (h.held _ hx).cap)
  simp only [WV.val, hxn, hym] at hc
  exact Calls.word h hc hR hk hb hl
theorem mdSquare_h (h : Hold w0 w g G F L) {xa : Option Addr} {xl : List Int} {n xc : Nat} (hx : (.slice xa n xc, xl) ∈ L) (hxn : xl.length = n) {G' : Gra} {l : List Nat} {e k : Nat} (hR : mulG G xl xl = (G', l, e)) (hk : l.length = k) (hb : ∀ r ∈ l, r ≤ 1000000) (hl : k ≤ 1000000) :
    Calls Tryz.prog 9 #[.pointer (some ⟨g, 0, none⟩), .slice xa n xc] w fun en w' => ∃ a c F', en = .returned (.tuple #[.slice a k c, .int .i64 e]) ∧ Hold w0 w' g G' F' ((.slice a k c, natInts l) :: L) := by
  have hc := mdSquare_is h.own.gin (h.at hx hxn) (by rw [hxn]; exact (h.held _ hx).cap)
  simp only [WV.val, hxn] at hc
  exact Calls.word h hc hR hk hb hl
theorem mdTimes_h (h : Hold w0 w g G F L) {xa : Option Addr} {xl : List Int} {n xc : Nat} (hx : (.slice xa n xc, xl) ∈ L) (hxn : xl.length = n) (z : Nat) (hz : z < 4294967296) {G' : Gra} {l : List Nat} {e k : Nat} (hR : timesG G xl z = (G', l, e)) (hk : l.length = k) (hb : ∀ r ∈ l, r ≤ 1000000) (hl : k ≤ 1000000) :
    Calls Tryz.prog 16 #[.pointer (some ⟨g, 0, none⟩), .slice xa n xc, .int .u32 z] w fun en w' => ∃ a c F', en = .returned (.tuple #[.slice a k c, .int .i64 e]) ∧ Hold w0 w' g G' F' ((.slice a k c, natInts l) :: L) := by
  have hc := mdTimes_is h.own.gin (h.at hx hxn) (by rw [hxn]; exact (h.held _ hx).cap) z hz
  simp only [WV.val, hxn] at hc
  exact Calls.word h hc hR hk hb hl
theorem mdBoth_h (h : Hold w0 w g G F L) {xa ya : Option Addr} {xl yl : List Int} {n m xc yc : Nat} (hx : (.slice xa n xc, xl) ∈ L) (hxn : xl.length = n) (hy : (.slice ya m yc, yl) ∈ L) (hym : yl.length = m) {G' : Gra} {l1 l2 : List Nat} {e k1 k2 : Nat} (hR : bothG G xl yl = (G', (l1, l2), e)) (hk1 : l1.length = k1) (hk2 : l2.length = k2) (hb1 : ∀ r ∈ l1, r ≤ 1000000) (hb2 : ∀ r ∈ l2, r ≤ 1000000) (hl1 : k1 ≤ 1000000) (hl2 : k2 ≤ 1000000) :
    Calls Tryz.prog 8 #[.pointer (some ⟨g, 0, none⟩), .slice xa n xc, .slice ya m yc] w fun en w' => ∃ a1 c1 a2 c2 F', en = .returned (.tuple #[.slice a1 k1 c1, .slice a2 k2 c2, .int .i64 e]) ∧ Hold w0 w' g G' F' ((.slice a2 k2 c2, natInts l2) :: (.slice a1 k1 c1, natInts l1) :: L) := by
  have hc := mdBoth_is h.own.gin (h.at hx hxn) (h.at hy hym)
  simp only [WV.val, hxn, hym] at hc
  rw [hR] at hc
  subst hk1 hk2
  refine hc.mono ?_
  rintro en w' ⟨v1, v2, rfl, hg⟩
  obtain ⟨a1, c1, a2, c2, F', rfl, rfl, ho⟩ := h.word2 hg hb1 hl1 hb2 hl2
  exact ⟨a1, c1, a2, c2, F', rfl, ho⟩
end
end Go.Proofs.YtkedpifopclipaaGreat
namespace Go.Aig
/-- the values of the inputs for two numbers -/
def givenL (n m a b : Nat) : List Bool := (List.range n).map a.testBit ++ (List.range m).map b.testBit
theorem givenL_len (n m a b : Nat) : (givenL n m a b).length = n + m := by simp [givenL]
end Go.Aig
namespace Go.Aig
def u16l (l : List Nat) : List Value := l.map fun (x : Nat) => .int .u16 x
theorem u16l_get {l : List Nat} {i v : Nat} (h : l[i]? = some v) : (u16l l)[i]? = some (.int .u16 v) := by simp [u16l, h]
end Go.Aig
namespace Go.Proofs.YtkedpifopclipaaGreat
open Go.RowKit Go.Mem Go.Aig
section
variable {w : World} {g : Nat} {G : Gra} {F : List Nat}
set_option maxRecDepth 100000 in
set_option maxHeartbeats 2000000 in
theorem ReadsW_is (h : GIn w g G F) {a : Option Addr} {l : List Int} {m c : Nat} (hm : l.length = m) (hL : Sl w a l) (hbd : ∀ r ∈ l, -9223372036854775808 ≤ r ∧ r ≤ 9223372036854775807) {xa : Option Addr} {ins : List Bool} {k xc : Nat} (hk : ins.length = k) (hI : Sb w xa ins) (hkl : k ≤ 1000) {B : List Bool} (hR : bitsR G ins l = (B, 0)) (hB : B.length = m) (h1 : 1 ≤ m) (h16 : m ≤ 16) :
    Calls Tryz.prog 12 #[.pointer (some ⟨g, 0, none⟩), .slice a m c, .slice xa k xc] w fun e w' => e = .returned (.tuple #[.int .u32 (bitsVal B), .bool true]) ∧ Ch [] w w' := by
  have HB := simBits_is h (xa := xa) (ins := ins) k xc hk hI (by omega) m c hm hL hbd (by omega)
  rw [hR] at HB
  have HV := fun (W : World) (ba : Option Addr) (bc : Nat) (hS : Sb W ba B) => sValue_is (w := W) (x := ⟨a, l, c⟩) (by show l.length ≤ _; omega) bc (by omega) hS
  simp only [WV.val, hB, hm, h1, h16, and_self, if_true] at HV
  clear hI hL
  go_enter Tryz.func12, Tryz.ntmps12
  go_wp2_with fail
  refine HB.mono ?_
  rintro e w1 ⟨v, rfl, hrow, hown, hch⟩
  obtain ⟨ba, bc, rfl⟩ := hrow.parts (by show 0 < B.length; omega)
  have hS : Sb w1 (some ⟨ba, 0, none⟩) B := row.sv hrow rfl (by show B.length ≤ _; omega)
  simp only [hB]
  go_wp2_with fail
  refine (HV w1 _ bc hS).mono ?_
  rintro e w2 ⟨rfl, rfl⟩
  go_wp2_with fail
  go_ret2
  exact ⟨rfl, hch⟩
end
theorem givenA_snoc (n m a b k : Nat) (hk : k < n) : (givenL n m a b).take (k + 1) = (givenL n m a b).take k ++ [a.testBit k] := by
  rw [List.take_add_one]
  congr 1
  unfold givenL
  rw [List.getElem?_append_left (by simpa using hk), List.getElem?_map, List.getElem?_range hk]
  rfl
theorem givenB_snoc (n m a b k : Nat) (hk : k < m) : (givenL n m a b).take (n + k + 1) = (givenL n m a b).take (n + k) ++ [b.testBit k] := by
  rw [List.take_add_one]
  congr 1
  unfold givenL
  rw [List.getElem?_append_right (by simp), List.getElem?_map]
  simp only [List.length_map, List.length_range, Nat.add_sub_cancel_left]
  rw [List.getElem?_range hk]
  rfl
set_option maxRecDepth 100000 in
set_option maxHeartbeats 4000000 in
theorem Given_is {w : World} (n a b : Nat) (hn : n ≤ 60) (ha : a ≤ 1000000) (hb : b ≤ 1000000) :
    Calls Tryz.prog 11 #[.int .i64 n, .int .i64 a, .int .i64 b] w fun e w' => ∃ v, e = .returned v ∧ row w' 4 1 v (n + n) (bools (givenL n n a b)) ∧ (∀ q ∈ v.ownBlock.toList, w.heap.size ≤ q) ∧ Ch [] w w' := by
  have HS1 := Lib.hid (givenA_snoc n n a b)
  have HS2 := Lib.hid (givenB_snoc n n a b)
  have hlen := givenL_len n n a b
  obtain ⟨GL, hGL⟩ : ∃ GL, GL = givenL n n a b := ⟨_, rfl⟩
  rw [← hGL] at HS1 HS2 hlen ⊢
  clear hGL
  go_enter Tryz.func11, Tryz.ntmps11
  go_wp2_with fail
  go_loopw [7, 11] (fun o i wr => ∃ s : Nat, s ≤ n ∧ i = .int .i64 s ∧ Ch [] w wr ∧ row wr 4 1 o s (bools (GL.take s)) ∧ ∀ q ∈ o.ownBlock.toList, w.heap.size ≤ q) (fun _ i _ => n - (intOf i).toNat)
  case atStart => exact ⟨0, by omega, rfl, Ch.refl _ _, ⟨rfl, .inl ⟨rfl, rfl⟩⟩, by simp⟩
  case round =>
    obtain ⟨s, hs, rfl, hc, hrow, hlo⟩ := hrel
    obtain ⟨oa, oc, rfl⟩ := row.shape hrow
    have HROW := Lib.hid hrow; clear hrow
    by_cases hlt2 : s < n
    · have hsn := HS1.out s hlt2
      have hbit := bit_i64 a s (by omega)
      rw [← Nat.testBit_eq_decide_div_mod_eq] at hbit
      have HC2 := Lib.hid hc; clear hc
      have HLO := Lib.hid hlo; clear hlo
      generalize a.testBit s = tb' at hsn hbit
      have hcA : Ch [] wr (wr.alloc (.cells #[.bool tb'] 4)) := (Ch.refl _ _).alloc _
      have hrA := HROW.out.ch hcA (by simp)
      have hbA : blk (wr.alloc (.cells #[.bool tb'] 4)) wr.heap.size [.bool tb'] := blk.new' _ _ rfl
      have HSU := Lib.hid hsn; clear hsn
      have HRA := Lib.hid hrA; clear hrA
      have HBA := Lib.hid hbA; clear hbA
      have HCA := Lib.hid hcA; clear hcA
      go_wp2_with (at_builtin; go_loud (refine wpList_append_row slBools rfl _ _ rfl (v := .slice oa s oc) (n := s) (xs := bools (GL.take s)) rfl HRA.out (ad := ⟨wr.heap.size, 0, none⟩) (m := 1) (c := 1) (news := [.bool tb']) rfl rfl (news_blk HBA.out) (by simp [Value.oneCell']) (by omega) (by omega) ?_; intro v' w5 hown4 hC4 hf4; have HO4 := Lib.hid hown4; clear hown4; have HCC4 := Lib.hid hC4; clear hC4; have HF4 := Lib.hid hf4; clear hf4))
      go_roundw
      case rel =>
        obtain ⟨q1, q2⟩ := app_step HC2.out HCA.out HLO.out HCC4.out HF4.out
        refine ⟨s + 1, by omega, by go_num, q1, ?_, q2⟩
        rw [HSU.out, show bools (GL.take s ++ [tb']) = bools (GL.take s) ++ [.bool tb'] by simp [bools]]
        exact HO4.out
      case measure => simp [intOf]; omega
    · have hsn : s = n := by omega
      subst hsn
      have HC1 := Lib.hid hc; clear hc
      have HLO1 := Lib.hid hlo; clear hlo
      obtain ⟨wo, hwo⟩ : ∃ wo, wo = wr := ⟨_, rfl⟩
      subst hwo
      go_wp2_with fail
      go_loopw [7, 24] (fun o i wr => ∃ t : Nat, t ≤ s ∧ i = .int .i64 t ∧ Ch [] w wr ∧ row wr 4 1 o (s + t) (bools (GL.take (s + t))) ∧ ∀ q ∈ o.ownBlock.toList, w.heap.size ≤ q) (fun _ i _ => s - (intOf i).toNat)
      case atStart => exact ⟨0, by omega, rfl, HC1.out, HROW.out, HLO1.out⟩
      case round =>
        clear HROW HC1 HLO1
        obtain ⟨t, ht, rfl, hc, hrow, hlo⟩ := hrel
        obtain ⟨oa, oc, rfl⟩ := row.shape hrow
        have HROW := Lib.hid hrow; clear hrow
        by_cases hlt3 : t < s
        · have hsn := HS2.out t hlt3
          have hbit := bit_i64 b t (by omega)
          rw [← Nat.testBit_eq_decide_div_mod_eq] at hbit
          have HC2 := Lib.hid hc; clear hc
          have HLO := Lib.hid hlo; clear hlo
          generalize b.testBit t = tb' at hsn hbit
          have hcA : Ch [] wr (wr.alloc (.cells #[.bool tb'] 4)) := (Ch.refl _ _).alloc _
          have hrA := HROW.out.ch hcA (by simp)
          have hbA : blk (wr.alloc (.cells #[.bool tb'] 4)) wr.heap.size [.bool tb'] := blk.new' _ _ rfl
          have HSU := Lib.hid hsn; clear hsn
          have HRA := Lib.hid hrA; clear hrA
          have HBA := Lib.hid hbA; clear hbA
          have HCA := Lib.hid hcA; clear hcA
          go_wp2_with (at_builtin; go_loud (refine wpList_append_row slBools rfl _ _ rfl (v := .slice oa (s + t) oc) (n := s + t) (xs := bools (GL.take (s + t))) rfl HRA.out (ad := ⟨wr.heap.size, 0, none⟩) (m := 1) (c := 1) (news := [.bool tb']) rfl rfl (news_blk HBA.out) (by simp [Value.oneCell']) (by omega) (by omega) ?_; intro v' w5 hown4 hC4 hf4; have HO4 := Lib.hid hown4; clear hown4; have HCC4 := Lib.hid hC4; clear hC4; have HF4 := Lib.hid hf4; clear hf4))
          go_roundw
          case rel =>
            obtain ⟨q1, q2⟩ := app_step HC2.out HCA.out HLO.out HCC4.out HF4.out
            refine ⟨t + 1, by omega, by go_num, q1, ?_, q2⟩
            rw [show s + (t + 1) = s + t + 1 by omega, HSU.out, show bools (GL.take (s + t) ++ [tb']) = bools (GL.take (s + t)) ++ [.bool tb'] by simp [bools]]
            exact HO4.out
          case measure => simp [intOf]; omega
        · have htm : t = s := by omega
          subst htm
          have hrow := HROW.out
          rw [List.take_of_length_le (by omega)] at hrow
          have HR := Lib.hid hrow; clear hrow HROW
          have HC2 := Lib.hid hc; clear hc
          have HLO := Lib.hid hlo; clear hlo
          go_wp2_with fail
          go_ret
          exact ⟨_, rfl, HR.out, HLO.out, HC2.out⟩
end Go.Proofs.YtkedpifopclipaaGreat
namespace Go.Proofs.YtkedpifopclipaaGreat
open Go.RowKit Go.Mem Go.Aig
def ma0 : Gra := ⟨4000, [⟨1, 0, 0, 0⟩, ⟨2, 0, 0, 0⟩, ⟨2, 0, 0, 0⟩, ⟨2, 0, 0, 0⟩, ⟨2, 0, 0, 0⟩]⟩
def ma1 : Gra := (mulG ma0 (natInts [2, 4]) (natInts [6, 8])).1
theorem zeros_new (w : World) (n : Nat) (hn : n ≤ 1000000) : WNew w (.slice (some ⟨w.heap.size, 0, none⟩) n n) (intCells (List.replicate n 0)) (w.alloc (.cells (refsCells (List.replicate n 0)).toArray 53)) := by
  have e : intCells (List.replicate n 0) = refsCells (List.replicate n 0) := by simp [intCells, refsCells]
  have h := row_fresh (w := w) (l := List.replicate n 0) (n := n) rfl (by simp) hn
  rw [e] at h
  rw [e]
  exact ⟨by simpa [refsCells] using h, by simp [Value.ownBlock], (Ch.refl _ _).alloc _⟩
theorem Hold.zeros {w0 : Base} {w : World} {g : Nat} {G : Gra} {F : List Nat} {L : List (Value × List Int)} (h : Hold w0 w g G F L) (n : Nat) (hn : n ≤ 1000000) : Hold w0 (w.alloc (.cells (refsCells (List.replicate n 0)).toArray 53)) g G F ((.slice (some ⟨w.heap.size, 0, none⟩) n n, List.replicate n 0) :: L) := by
  obtain ⟨a, c, e, ho⟩ := h.new (zeros_new w n hn) (fun r hr => by rw [(List.mem_replicate.1 hr).2]; omega) (by simpa using hn)
  rw [← e] at ho
  exact ho
/-- the words of the examples, read for the assignments -/
theorem reads24 : ∀ k, k < 4 → bitsR ma1 (givenL 2 2 k 0) (natInts [1, 1]) = ([true, true], 0) ∧ (bitsR ma1 (givenL 2 2 k 0) (natInts [2, 4])).2 = 0 ∧ (bitsR ma1 (givenL 2 2 k 0) (natInts [2, 4])).1.length = 2 ∧ bitsVal (bitsR ma1 (givenL 2 2 k 0) (natInts [2, 4])).1 = k := by
  intro k hk
  have : k = 0 ∨ k = 1 ∨ k = 2 ∨ k = 3 := by omega
  rcases this with rfl | rfl | rfl | rfl <;> decide +kernel
section
set_option maxRecDepth 100000 in
set_option maxHeartbeats 8000000 in
theorem awake24_is (w : World) : Calls Tryz.prog 5 #[] w fun e w' => e = .returned (.bool true) ∧ Ch [] w w' := by
  have hP := Pair_is w 1 (by omega)
  rw [show (1 : Nat) % 5 + 1 = 2 from rfl, show gIn 4000 (2 * 2) = ma0 from rfl, show rIn 2 2 = [6, 8] from rfl, show rIn 0 2 = [2, 4] from rfl] at hP
  have HP := Lib.hid hP; clear hP
  go_enter Tryz.func5, Tryz.ntmps5
  go_wp2_with fail
  refine HP.out.mono ?_
  rintro e w1 ⟨g, F1, a1, c1, a2, c2, rfl, ho⟩
  have HO := Lib.hid ho; clear ho HP
  go_wp2_with fail
  refine (mdMul_h HO.out (xa := a1) (xc := c1) (n := 2) (xl := natInts [2, 4]) (by simp) rfl (ya := a2) (yc := c2) (m := 2) (yl := natInts [6, 8]) (by simp) rfl (G' := ma1) (l := [10, 21]) (e := 0) (k := 2) (by kernel_rfl) rfl (by decide) (by decide)).mono ?_
  rintro e w2 ⟨a3, c3, F3, rfl, ho⟩
  clear HO; have HO := Lib.hid ho; clear ho
  have hx := HO.out.sl (a := a1) (c := c1) (n := 2) (l := natInts [2, 4]) (by simp) rfl
  have hy := HO.out.sl (a := a2) (c := c2) (n := 2) (l := natInts [6, 8]) (by simp) rfl
  obtain ⟨xb, xo, rfl, cx⟩ := hx.cells 0 2 rfl
  obtain ⟨yb, yo, rfl, cy⟩ := hy.cells 0 6 rfl
  rw [Nat.add_zero] at cx cy
  clear hx hy
  go_wp2_with fail
  refine Ord.St.door (fun _ => True) [.fl, .fl, .fl, .rd, .fl, .fl, .rd, .ef, .fl, .fl, .fl, .fl, .fl] [0, 0, 2, 6, 0, 16, 48, 127, 255, 511, 511, 1023, 4095] [0, 1, 2, 3, 4, 5, 6, 7, 8, 9, 10, 11, 12] mixed (by kernel_rfl) rfl ?_
  obtain ⟨Wc, hWc⟩ : ∃ Wc, Wc = w2.drew := ⟨_, rfl⟩
  rw [← hWc]
  have hcur : Ch [] w2 Wc := by rw [hWc]; exact (Ch.refl _ _).drew
  clear hWc
  have ho := HO.out.same hcur
  replace cx := (hcur.cell (cell_lt cx) (by simp)).trans cx
  replace cy := (hcur.cell (cell_lt cy) (by simp)).trans cy
  clear HO; have HO := Lib.hid ho; clear ho hcur
  refine Ord.St.fl2 (T' := ?_) 0 [1, 2, 3, 4, 5, 6, 7, 8, 9, 10, 11, 12] _ _ rfl (by kernel_rfl) rfl rfl rfl rfl (fun K w' hk => ?_) ?_
  rotate_left
  · go_step; exact hk
  refine Ord.St.fl2 (T' := ?_) 1 [2, 3, 4, 5, 6, 7, 8, 9, 10, 11, 12] _ _ rfl (by kernel_rfl) rfl rfl rfl rfl (fun K w' hk => ?_) ?_
  rotate_left
  · go_step; exact hk
  refine Ord.St.fl2 (T' := ?_) 2 [3, 4, 5, 6, 7, 8, 9, 10, 11, 12] _ _ rfl (by kernel_rfl) rfl rfl rfl rfl (fun K w' hk => ?_) ?_
  rotate_left
  · go_step; exact hk
  refine Ord.St.rd2 (T' := ?_) 3 [4, 5, 6, 7, 8, 9, 10, 11, 12] _ _ rfl (by kernel_rfl) rfl rfl rfl rfl (fun K hk => ?_) ?_
  rotate_left
  · go_step; exact hk
  refine Ord.St.fl2 (T' := ?_) 4 [5, 6, 7, 8, 9, 10, 11, 12] _ _ rfl (by kernel_rfl) rfl rfl rfl rfl (fun K w' hk => ?_) ?_
  rotate_left
  · go_step; exact hk
  refine Ord.St.fl2 (T' := ?_) 5 [6, 7, 8, 9, 10, 11, 12] _ _ rfl (by kernel_rfl) rfl rfl rfl rfl (fun K w' hk => ?_) ?_
  rotate_left
  · go_step; exact hk
  refine Ord.St.rd2 (T' := ?_) 6 [7, 8, 9, 10, 11, 12] _ _ rfl (by kernel_rfl) rfl rfl rfl rfl (fun K hk => ?_) ?_
  rotate_left
  · go_step; exact hk
  refine Ord.St.ef 7 [8, 9, 10, 11, 12] _ rfl (by kernel_rfl) (fun K hK => ?_)
  go_wp2_with fail
  refine (And_h HO.out 2 6 (by decide) (by decide) (G' := ma1) (r := 10) (e := 0) (by kernel_rfl)).mono ?_
  rintro e w9 ⟨F4, rfl, ho⟩
  clear HO cx cy; have HO := Lib.hid ho; clear ho
  go_wp2_with fail
  refine ⟨rfl, hK _ _ ?_⟩; clear hK K
  refine Ord.St.fl2 (T' := ?_) 8 [9, 10, 11, 12] _ _ rfl (by kernel_rfl) rfl rfl rfl rfl (fun K w' hk => ?_) ?_
  rotate_left
  · go_step; exact hk
  refine Ord.St.fl2 (T' := ?_) 9 [10, 11, 12] _ _ rfl (by kernel_rfl) rfl rfl rfl rfl (fun K w' hk => ?_) ?_
  rotate_left
  · go_step; exact hk
  refine Ord.St.fl2 (T' := ?_) 10 [11, 12] _ _ rfl (by kernel_rfl) rfl rfl rfl rfl (fun K w' hk => ?_) ?_
  rotate_left
  · go_step; exact hk
  refine Ord.St.fl2 (T' := ?_) 11 [12] _ _ rfl (by kernel_rfl) rfl rfl rfl rfl (fun K w' hk => ?_) ?_
  rotate_left
  · go_step; exact hk
  refine Ord.St.fl2 (T' := ?_) 12 [] _ _ rfl (by kernel_rfl) rfl rfl rfl rfl (fun K w' hk => ?_) ?_
  rotate_left
  · go_step; exact hk
  refine Ord.St.nil ?_
  go_wp2_with fail
  refine (Len_h HO.out (n := 11) (by kernel_rfl)).mono ?_
  rintro e w10 ⟨rfl, ho⟩
  clear HO; have HO := Lib.hid ho; clear ho
  go_wp2_with fail
  refine (mdTimes_h HO.out (xa := some ⟨xb, xo, none⟩) (xc := c1) (n := 2) (xl := natInts [2, 4]) (by simp) rfl 1 (by decide) (G' := ma1) (l := [2, 4]) (e := 0) (k := 2) (by kernel_rfl) rfl (by decide) (by decide)).mono ?_
  rintro e w11 ⟨a4, c4, F5, rfl, ho⟩
  clear HO; have HO := Lib.hid ho; clear ho
  go_wp2_with fail
  refine (mdTimes_h HO.out (xa := some ⟨xb, xo, none⟩) (xc := c1) (n := 2) (xl := natInts [2, 4]) (by simp) rfl 2 (by decide) (G' := ma1) (l := [0, 2]) (e := 0) (k := 2) (by kernel_rfl) rfl (by decide) (by decide)).mono ?_
  rintro e w12 ⟨a5, c5, F6, rfl, ho⟩
  clear HO; have HO := Lib.hid ho; clear ho
  have h3 := HO.out.sl (a := a3) (c := c3) (n := 2) (l := natInts [10, 21]) (by simp) rfl
  obtain ⟨pb, po, rfl, cp⟩ := h3.cells 0 10 rfl
  rw [Nat.add_zero] at cp
  clear h3
  go_wp2_with fail
  refine (Eqref_h HO.out (xa := a4) (xc := c4) (n := 2) (xl := natInts [2, 4]) (by simp) rfl (ya := some ⟨xb, xo, none⟩) (yc := c1) (m := 2) (yl := natInts [2, 4]) (by simp) rfl (q := true) (by decide)).mono ?_
  rintro e w13 ⟨rfl, ho⟩
  clear HO; have HO := Lib.hid ho; clear ho
  go_wp2_with fail
  have ho := HO.out.same ((Ch.refl [] w13).alloc (.cells #[.int .i64 0, .int .i64 2] 53))
  clear HO; have HO := Lib.hid ho; clear ho
  refine (Eqref_c HO.out (xa := a5) (xc := c5) (n := 2) (xl := natInts [0, 2]) (by simp) rfl (b := w13.heap.size) (m := 2) (ys := [0, 2]) (blk.new' _ _ rfl) rfl (by decide) (q := true) (by decide)).mono ?_
  rintro e w14 ⟨rfl, ho⟩
  clear HO; have HO := Lib.hid ho; clear ho
  go_wp2_with fail
  refine (Len_h HO.out (n := 11) (by kernel_rfl)).mono ?_
  rintro e w15 ⟨rfl, ho⟩
  clear HO; have HO := Lib.hid ho; clear ho
  go_wp2_with fail
  refine (sConst_h HO.out 0 (by decide) 2 rfl).mono ?_
  rintro e w16 ⟨a6, c6, rfl, ho⟩
  clear HO; have HO := Lib.hid ho; clear ho
  rw [show constL 0 2 = [0, 0] from rfl] at HO
  go_wp2_with fail
  refine (mdBoth_h HO.out (xa := some ⟨xb, xo, none⟩) (xc := c1) (n := 2) (xl := natInts [2, 4]) (by simp) rfl (ya := a6) (yc := c6) (m := 2) (yl := natInts [0, 0]) (by simp) rfl (G' := ma1) (l1 := [1, 1]) (l2 := [2, 4]) (e := 0) (k1 := 2) (k2 := 2) (by kernel_rfl) rfl rfl (by decide) (by decide) (by decide) (by decide)).mono ?_
  rintro e w17 ⟨a7, c7, a8, c8, F7, rfl, ho⟩
  clear HO; have HO := Lib.hid ho; clear ho
  go_wp2_with fail
  go_loopw [127] (fun i wr => ∃ k : Nat, k ≤ 4 ∧ i = .int .i64 k ∧ Ch [] w17 wr) (fun i _ => 4 - (intOf i).toNat)
  case atStart => exact ⟨0, by omega, rfl, Ch.refl _ _⟩
  case round =>
    obtain ⟨k, hk, rfl, hc⟩ := hrel
    by_cases hk4 : k < 4
    · obtain ⟨r1, r2, r3, r4⟩ := reads24 k hk4
      have r2' : bitsR ma1 (givenL 2 2 k 0) (natInts [2, 4]) = ((bitsR ma1 (givenL 2 2 k 0) (natInts [2, 4])).1, 0) := Prod.ext rfl r2
      have hg1 := Given_is (w := wr) 2 k 0 (by omega) (by omega) (by omega)
      have HG1 := Lib.hid hg1; clear hg1
      have HC := Lib.hid hc; clear hc
      go_wp2_with fail
      refine HG1.out.mono ?_
      rintro e v1 ⟨gv, rfl, hrow, _, hc1⟩
      obtain ⟨ga, gc, rfl⟩ := row.shape hrow
      have hgl := givenL_len 2 2 k 0
      have hsb : Sb v1 ga (givenL 2 2 k 0) := row.sv hrow rfl (by omega)
      have hcc := HC.out.trans hc1 (by simp)
      have ho1 := HO.out.same hcc
      have hR := ReadsW_is ho1.own.gin (a := a7) (l := natInts [1, 1]) (m := 2) (c := c7) rfl (ho1.sl (a := a7) (c := c7) (n := 2) (l := natInts [1, 1]) (by simp) rfl) (ho1.at (a := a7) (n := 2) (c := c7) (l := natInts [1, 1]) (by simp) rfl).ok.bd (xa := ga) (ins := givenL 2 2 k 0) (k := 2 + 2) (xc := gc) hgl hsb (by omega) r1 rfl (by omega) (by omega)
      have HCC := Lib.hid hcc; clear hcc hc1 ho1 hsb hrow
      have HR := Lib.hid hR; clear hR
      go_wp2_with fail
      refine HR.out.mono ?_
      rintro e v2 ⟨rfl, hc2⟩
      have HC2 := Lib.hid (HCC.out.trans hc2 (by simp)); clear hc2
      have hg2 := Given_is (w := v2) 2 k 0 (by omega) (by omega) (by omega)
      have HG2 := Lib.hid hg2; clear hg2
      go_wp2_with fail
      refine HG2.out.mono ?_
      rintro e v3 ⟨gv, rfl, hrow, _, hc3⟩
      obtain ⟨ga2, gc2, rfl⟩ := row.shape hrow
      have hsb : Sb v3 ga2 (givenL 2 2 k 0) := row.sv hrow rfl (by omega)
      have hcc := HC2.out.trans hc3 (by simp)
      have ho1 := HO.out.same hcc
      have hR := ReadsW_is ho1.own.gin (a := a8) (l := natInts [2, 4]) (m := 2) (c := c8) rfl (ho1.sl (a := a8) (c := c8) (n := 2) (l := natInts [2, 4]) (by simp) rfl) (ho1.at (a := a8) (n := 2) (c := c8) (l := natInts [2, 4]) (by simp) rfl).ok.bd (xa := ga2) (ins := givenL 2 2 k 0) (k := 2 + 2) (xc := gc2) hgl hsb (by omega) r2' r3 (by omega) (by omega)
      rw [r4] at hR
      have HC3 := Lib.hid hcc; clear hcc hc3 ho1 hsb hrow
      have HR2 := Lib.hid hR; clear hR
      go_wp2_with fail
      refine HR2.out.mono ?_
      rintro e v4 ⟨rfl, hc4⟩
      have HC4 := Lib.hid (HC3.out.trans hc4 (by simp)); clear hc4
      go_wp2_with fail
      go_roundw
      case rel => exact ⟨k + 1, by omega, by go_num, HC4.out⟩
      case measure => simp [intOf]; omega
    · have ho := HO.out.same hc
      clear HO; have HO := Lib.hid ho; clear ho hc
      go_wp2_with fail
      refine (sConst_h HO.out 7 (by decide) 4 rfl).mono ?_
      rintro e w41 ⟨a9, c9, rfl, ho⟩
      clear HO; have HO := Lib.hid ho; clear ho
      rw [show constL 7 4 = [1, 1, 1, 0] from rfl] at HO
      go_wp2_with fail
      refine (sConst_h HO.out 2 (by decide) 4 rfl).mono ?_
      rintro e w42 ⟨a10, c10, rfl, ho⟩
      clear HO; have HO := Lib.hid ho; clear ho
      rw [show constL 2 4 = [0, 1, 0, 0] from rfl] at HO
      go_wp2_with fail
      refine (mdBoth_h HO.out (xa := a9) (xc := c9) (n := 4) (xl := natInts [1, 1, 1, 0]) (by simp) rfl (ya := a10) (yc := c10) (m := 4) (yl := natInts [0, 1, 0, 0]) (by simp) rfl (G' := ma1) (l1 := [1, 1, 0, 0]) (l2 := [1, 0, 0, 0]) (e := 0) (k1 := 4) (k2 := 4) (by kernel_rfl) rfl rfl (by decide) (by decide) (by decide) (by decide)).mono ?_
      rintro e w43 ⟨a11, c11, a12, c12, F8, rfl, ho⟩
      clear HO; have HO := Lib.hid ho; clear ho
      have hmk : ∀ W : World, (Instr.makeSlice 25 (.int .i64 17) (.int .i64 17)).run Tryz.prog W = .ok (.slice (some ⟨W.heap.size, 0, none⟩) 17 17) (W.alloc (.cells (refsCells (List.replicate 17 0)).toArray 53)) := fun W => run_make_refs W 17 (by omega)
      go_wp2_with fail
      refine Ord.St.door (fun _ => True) [.fl, .ef, .ef, .ef, .fl, .fl, .fl, .fl] [0, 0, 0, 7, 15, 31, 31, 127] [0, 1, 2, 3, 4, 5, 6, 7] mixed (by kernel_rfl) rfl ?_
      obtain ⟨Wc, hWc⟩ : ∃ Wc, Wc = w43.drew := ⟨_, rfl⟩
      rw [← hWc]
      have hcur : Ch [] w43 Wc := by rw [hWc]; exact (Ch.refl _ _).drew
      clear hWc
      have ho := HO.out.same hcur
      clear HO; have HO := Lib.hid ho; clear ho hcur
      refine Ord.St.fl2 (T' := ?_) 0 [1, 2, 3, 4, 5, 6, 7] _ _ rfl (by kernel_rfl) rfl rfl rfl rfl (fun K w' hk => ?_) ?_
      rotate_left
      · go_step; exact hk
      refine Ord.St.two 1 2 [2, 3, 4, 5, 6, 7] [1, 3, 4, 5, 6, 7] _ _ (by kernel_rfl) rfl rfl (by kernel_rfl) (by kernel_rfl) (fun K hK => ?_) (fun K hK => ?_)
      · go_wp2_with fail
        refine ⟨rfl, hK _ _ ?_ ?_⟩
        · trivial
        clear hK K
        refine Ord.St.ef 2 [3, 4, 5, 6, 7] _ rfl (by kernel_rfl) (fun K hK => ?_)
        go_wp2_with fail
        refine ⟨rfl, hK _ _ ?_⟩; clear hK K
        refine Ord.St.ef 3 [4, 5, 6, 7] _ rfl (by kernel_rfl) (fun K hK => ?_)
        have ho := (HO.out.zeros 17 (by omega)).zeros 17 (by omega)
        simp only [World.size_alloc] at ho
        clear HO; have HO := Lib.hid ho; clear ho
        go_wp2_with fail
        refine (mdMul_h HO.out (xl := List.replicate 17 0) (yl := List.replicate 17 0) (by simp) (by simp) (by simp) (by simp) (G' := ma1) (l := []) (e := 240) (k := 0) (by kernel_rfl) rfl (by simp) (by omega)).mono ?_
        rintro e w60 ⟨a13, c13, F9, rfl, ho⟩
        clear HO; have HO := Lib.hid ho; clear ho
        go_wp2_with fail
        refine ⟨rfl, hK _ _ ?_⟩; clear hK K
        refine Ord.St.fl2 (T' := ?_) 4 [5, 6, 7] _ _ rfl (by kernel_rfl) rfl rfl rfl rfl (fun K w' hk => ?_) ?_
        rotate_left
        · go_step; exact hk
        refine Ord.St.fl2 (T' := ?_) 5 [6, 7] _ _ rfl (by kernel_rfl) rfl rfl rfl rfl (fun K w' hk => ?_) ?_
        rotate_left
        · go_step; exact hk
        refine Ord.St.fl2 (T' := ?_) 6 [7] _ _ rfl (by kernel_rfl) rfl rfl rfl rfl (fun K w' hk => ?_) ?_
        rotate_left
        · go_step; exact hk
        refine Ord.St.fl2 (T' := ?_) 7 [] _ _ rfl (by kernel_rfl) rfl rfl rfl rfl (fun K w' hk => ?_) ?_
        rotate_left
        · go_step; exact hk
        refine Ord.St.nil ?_
        go_wp2_with fail
        have ho := HO.out.same ((Ch.refl [] w60).alloc (.cells #[.int .i64 1, .int .i64 1, .int .i64 0, .int .i64 0] 53))
        clear HO; have HO := Lib.hid ho; clear ho
        refine (Eqref_c HO.out (xa := a11) (xc := c11) (n := 4) (xl := natInts [1, 1, 0, 0]) (by simp) rfl (b := w60.heap.size) (m := 4) (ys := [1, 1, 0, 0]) (blk.new' _ _ rfl) rfl (by decide) (q := true) (by decide)).mono ?_
        rintro e w61 ⟨rfl, ho⟩
        clear HO; have HO := Lib.hid ho; clear ho
        go_wp2_with fail
        have ho := HO.out.same ((Ch.refl [] w61).alloc (.cells #[.int .i64 1, .int .i64 0, .int .i64 0, .int .i64 0] 53))
        clear HO; have HO := Lib.hid ho; clear ho
        refine (Eqref_c HO.out (xa := a12) (xc := c12) (n := 4) (xl := natInts [1, 0, 0, 0]) (by simp) rfl (b := w61.heap.size) (m := 4) (ys := [1, 0, 0, 0]) (blk.new' _ _ rfl) rfl (by decide) (q := true) (by decide)).mono ?_
        rintro e w62 ⟨rfl, ho⟩
        clear HO; have HO := Lib.hid ho; clear ho
        go_wp2_with fail
        go_ret
        exact ⟨rfl, HO.out.ch⟩
      · go_wp2_with fail
        refine ⟨rfl, hK _ _ ?_ ?_⟩
        · trivial
        clear hK K
        refine Ord.St.ef 1 [3, 4, 5, 6, 7] _ rfl (by kernel_rfl) (fun K hK => ?_)
        go_wp2_with fail
        refine ⟨rfl, hK _ _ ?_⟩; clear hK K
        refine Ord.St.ef 3 [4, 5, 6, 7] _ rfl (by kernel_rfl) (fun K hK => ?_)
        have ho := (HO.out.zeros 17 (by omega)).zeros 17 (by omega)
        simp only [World.size_alloc] at ho
        clear HO; have HO := Lib.hid ho; clear ho
        go_wp2_with fail
        refine (mdMul_h HO.out (xl := List.replicate 17 0) (yl := List.replicate 17 0) (by simp) (by simp) (by simp) (by simp) (G' := ma1) (l := []) (e := 240) (k := 0) (by kernel_rfl) rfl (by simp) (by omega)).mono ?_
        rintro e w60 ⟨a13, c13, F9, rfl, ho⟩
        clear HO; have HO := Lib.hid ho; clear ho
        go_wp2_with fail
        refine ⟨rfl, hK _ _ ?_⟩; clear hK K
        refine Ord.St.fl2 (T' := ?_) 4 [5, 6, 7] _ _ rfl (by kernel_rfl) rfl rfl rfl rfl (fun K w' hk => ?_) ?_
        rotate_left
        · go_step; exact hk
        refine Ord.St.fl2 (T' := ?_) 5 [6, 7] _ _ rfl (by kernel_rfl) rfl rfl rfl rfl (fun K w' hk => ?_) ?_
        rotate_left
        · go_step; exact hk
        refine Ord.St.fl2 (T' := ?_) 6 [7] _ _ rfl (by kernel_rfl) rfl rfl rfl rfl (fun K w' hk => ?_) ?_
        rotate_left
        · go_step; exact hk
        refine Ord.St.fl2 (T' := ?_) 7 [] _ _ rfl (by kernel_rfl) rfl rfl rfl rfl (fun K w' hk => ?_) ?_
        rotate_left
        · go_step; exact hk
        refine Ord.St.nil ?_
        go_wp2_with fail
        have ho := HO.out.same ((Ch.refl [] w60).alloc (.cells #[.int .i64 1, .int .i64 1, .int .i64 0, .int .i64 0] 53))
        clear HO; have HO := Lib.hid ho; clear ho
        refine (Eqref_c HO.out (xa := a11) (xc := c11) (n := 4) (xl := natInts [1, 1, 0, 0]) (by simp) rfl (b := w60.heap.size) (m := 4) (ys := [1, 1, 0, 0]) (blk.new' _ _ rfl) rfl (by decide) (q := true) (by decide)).mono ?_
        rintro e w61 ⟨rfl, ho⟩
        clear HO; have HO := Lib.hid ho; clear ho
        go_wp2_with fail
        have ho := HO.out.same ((Ch.refl [] w61).alloc (.cells #[.int .i64 1, .int .i64 0, .int .i64 0, .int .i64 0] 53))
        clear HO; have HO := Lib.hid ho; clear ho
        refine (Eqref_c HO.out (xa := a12) (xc := c12) (n := 4) (xl := natInts [1, 0, 0, 0]) (by simp) rfl (b := w61.heap.size) (m := 4) (ys := [1, 0, 0, 0]) (blk.new' _ _ rfl) rfl (by decide) (q := true) (by decide)).mono ?_
        rintro e w62 ⟨rfl, ho⟩
        clear HO; have HO := Lib.hid ho; clear ho
        go_wp2_with fail
        go_ret
        exact ⟨rfl, HO.out.ch⟩
end
end Go.Proofs.YtkedpifopclipaaGreat
namespace Go.Aig
end Go.Aig
namespace Go.Proofs.YtkedpifopclipaaGreat
open Go.RowKit Go.Mem Go.Aig
def Stop (p : Prop) : Prop := p
theorem wpList_store_one {P : Program} {ops : Array Oper} {o : Oper} {a : Act} {w w' : World} {Q : Exit → Act → World → Prop} (t : TypeId) (p v : Operand) (vp vv : Value) (hg : o.guard = none) (ho : o.op = .store t p v)
    (h : (Instr.storeAt t vp vv).run P w = .ok () w') (hp : Stop (a.eval p = vp)) (hv : Stop (a.eval v = vv)) (hn : Stop (wpList P ops Q [] (a.put o.dst undef) w')) : wpList P ops Q [o] a w :=
  wpList_plain hg fun _ hK => by
    unfold Stop at hp hv hn
    unfold Oper.wp execOp
    simp only [ho, Sem.run_bind, Sem.run_pure, Result.andThen_ok, hp, hv, h]
    exact hK _ _ hn
section
variable {w : World}
set_option maxRecDepth 100000 in
set_option maxHeartbeats 4000000 in
theorem table_is : Calls Tryz.prog 37 #[] w fun e w' => e = .returned (.agg #[.string ⟨#[]⟩, .int .i64 0, .bool false, .nilFunc, .string ⟨#[126]⟩, .int .i64 0, .bool false, .func (.func 63) #[] #[], .string ⟨#[45]⟩, .int .i64 0, .bool false, .func (.func 64) #[] #[], .string ⟨#[43]⟩, .int .i64 5, .bool false, .func (.func 65) #[] #[], .string ⟨#[45]⟩, .int .i64 5, .bool false, .func (.func 66) #[] #[], .string ⟨#[42]⟩, .int .i64 6, .bool false, .func (.func 67) #[] #[], .string ⟨#[47]⟩, .int .i64 6, .bool false, .func (.func 68) #[] #[], .string ⟨#[37]⟩, .int .i64 6, .bool false, .func (.func 69) #[] #[], .string ⟨#[38]⟩, .int .i64 2, .bool false, .func (.func 70) #[] #[], .string ⟨#[124]⟩, .int .i64 1, .bool false, .func (.func 71) #[] #[], .string ⟨#[94]⟩, .int .i64 1, .bool false, .func (.func 72) #[] #[], .string ⟨#[60, 60]⟩, .int .i64 4, .bool false, .func (.func 73) #[] #[], .string ⟨#[62, 62]⟩, .int .i64 4, .bool false, .func (.func 74) #[] #[], .string ⟨#[61, 61]⟩, .int .i64 3, .bool true, .func (.func 75) #[] #[], .string ⟨#[33, 61]⟩, .int .i64 3, .bool true, .func (.func 77) #[] #[], .string ⟨#[60]⟩, .int .i64 3, .bool true, .func (.func 78) #[] #[], .string ⟨#[60, 61]⟩, .int .i64 3, .bool true, .func (.func 79) #[] #[]]) ∧ Ch [] w w' := by
  have hs1 := run_storeAt_new (P := Tryz.prog) w 77 Tryz.zeroCells77 #[.string ⟨#[]⟩, .int .i64 0, .bool false, .nilFunc, .string ⟨#[126]⟩, .int .i64 0, .bool false, .func (.func 63) #[] #[], .string ⟨#[45]⟩, .int .i64 0, .bool false, .func (.func 64) #[] #[], .string ⟨#[43]⟩, .int .i64 5, .bool false, .func (.func 65) #[] #[], .string ⟨#[45]⟩, .int .i64 5, .bool false, .func (.func 66) #[] #[], .string ⟨#[42]⟩, .int .i64 6, .bool false, .func (.func 67) #[] #[], .string ⟨#[47]⟩, .int .i64 6, .bool false, .func (.func 68) #[] #[], .string ⟨#[37]⟩, .int .i64 6, .bool false, .func (.func 69) #[] #[], .string ⟨#[38]⟩, .int .i64 2, .bool false, .func (.func 70) #[] #[], .string ⟨#[124]⟩, .int .i64 1, .bool false, .func (.func 71) #[] #[], .string ⟨#[94]⟩, .int .i64 1, .bool false, .func (.func 72) #[] #[], .string ⟨#[60, 60]⟩, .int .i64 4, .bool false, .func (.func 73) #[] #[], .string ⟨#[62, 62]⟩, .int .i64 4, .bool false, .func (.func 74) #[] #[], .string ⟨#[61, 61]⟩, .int .i64 3, .bool true, .func (.func 75) #[] #[], .string ⟨#[33, 61]⟩, .int .i64 3, .bool true, .func (.func 77) #[] #[], .string ⟨#[60]⟩, .int .i64 3, .bool true, .func (.func 78) #[] #[], .string ⟨#[60, 61]⟩, .int .i64 3, .bool true, .func (.func 79) #[] #[]] (by kernel_rfl) (by kernel_rfl) (by kernel_rfl)
  go_enter Tryz.func37, Tryz.ntmps37
  go_wp2_with (refine wpList_store_one 77 (.tmp 0) (.tmp 18) _ _ rfl rfl hs1 ?_ ?_ ?_)
  · unfold Stop
    exact trivial
  · unfold Stop
    kernel_rfl
  · unfold Stop
    go_wp2_with fail
    exact bodyPost_ret (results_cell_row (d := .array 17 76) rfl _ _ w.heap.size 77 #[.string ⟨#[]⟩, .int .i64 0, .bool false, .nilFunc, .string ⟨#[126]⟩, .int .i64 0, .bool false, .func (.func 63) #[] #[], .string ⟨#[45]⟩, .int .i64 0, .bool false, .func (.func 64) #[] #[], .string ⟨#[43]⟩, .int .i64 5, .bool false, .func (.func 65) #[] #[], .string ⟨#[45]⟩, .int .i64 5, .bool false, .func (.func 66) #[] #[], .string ⟨#[42]⟩, .int .i64 6, .bool false, .func (.func 67) #[] #[], .string ⟨#[47]⟩, .int .i64 6, .bool false, .func (.func 68) #[] #[], .string ⟨#[37]⟩, .int .i64 6, .bool false, .func (.func 69) #[] #[], .string ⟨#[38]⟩, .int .i64 2, .bool false, .func (.func 70) #[] #[], .string ⟨#[124]⟩, .int .i64 1, .bool false, .func (.func 71) #[] #[], .string ⟨#[94]⟩, .int .i64 1, .bool false, .func (.func 72) #[] #[], .string ⟨#[60, 60]⟩, .int .i64 4, .bool false, .func (.func 73) #[] #[], .string ⟨#[62, 62]⟩, .int .i64 4, .bool false, .func (.func 74) #[] #[], .string ⟨#[61, 61]⟩, .int .i64 3, .bool true, .func (.func 75) #[] #[], .string ⟨#[33, 61]⟩, .int .i64 3, .bool true, .func (.func 77) #[] #[], .string ⟨#[60]⟩, .int .i64 3, .bool true, .func (.func 78) #[] #[], .string ⟨#[60, 61]⟩, .int .i64 3, .bool true, .func (.func 79) #[] #[]] (0, 0) (by kernel_rfl) (heap_alloc_last w _) (by kernel_rfl) rfl (by kernel_rfl)) rfl ⟨rfl, (Ch.refl _ w).alloc _⟩
end
end Go.Proofs.YtkedpifopclipaaGreat
namespace Go.Proofs.YtkedpifopclipaaGreat
open Go.RowKit Go.Mem Go.Aig
section
variable {w : World}
def TabC : Array Value := #[.string ⟨#[]⟩, .int .i64 0, .bool false, .nilFunc, .string ⟨#[126]⟩, .int .i64 0, .bool false, .func (.func 63) #[] #[], .string ⟨#[45]⟩, .int .i64 0, .bool false, .func (.func 64) #[] #[], .string ⟨#[43]⟩, .int .i64 5, .bool false, .func (.func 65) #[] #[], .string ⟨#[45]⟩, .int .i64 5, .bool false, .func (.func 66) #[] #[], .string ⟨#[42]⟩, .int .i64 6, .bool false, .func (.func 67) #[] #[], .string ⟨#[47]⟩, .int .i64 6, .bool false, .func (.func 68) #[] #[], .string ⟨#[37]⟩, .int .i64 6, .bool false, .func (.func 69) #[] #[], .string ⟨#[38]⟩, .int .i64 2, .bool false, .func (.func 70) #[] #[], .string ⟨#[124]⟩, .int .i64 1, .bool false, .func (.func 71) #[] #[], .string ⟨#[94]⟩, .int .i64 1, .bool false, .func (.func 72) #[] #[], .string ⟨#[60, 60]⟩, .int .i64 4, .bool false, .func (.func 73) #[] #[], .string ⟨#[62, 62]⟩, .int .i64 4, .bool false, .func (.func 74) #[] #[], .string ⟨#[61, 61]⟩, .int .i64 3, .bool true, .func (.func 75) #[] #[], .string ⟨#[33, 61]⟩, .int .i64 3, .bool true, .func (.func 77) #[] #[], .string ⟨#[60]⟩, .int .i64 3, .bool true, .func (.func 78) #[] #[], .string ⟨#[60, 61]⟩, .int .i64 3, .bool true, .func (.func 79) #[] #[]]
theorem frozen_alloc (w : World) (c : Array Value) (t : TypeId) (j : Nat) : (w.alloc (.cells c t)).frozen? ⟨w.heap.size, j, none⟩ = false := by
  simp only [World.frozen?]
  rw [heap_alloc_last]
  simp
set_option maxRecDepth 100000 in
set_option maxHeartbeats 4000000 in
theorem bName_is (k : Nat) (v : Value) (hk : k < 17) (hx : TabC[k * 4]? = some v) : Calls Tryz.prog 35 #[.int .u8 k] w fun e w' => e = .returned v ∧ Ch [] w w' := by
  have hk1 : ¬ ((17 : Int) ≤ (k : Int)) := by omega
  have hk2 : ¬ (17 ≤ k) := by omega
  have hk3 : ((k : Int)) < 17 := by omega
  go_enter Tryz.func35, Tryz.ntmps35
  go_wp2_with fail
  refine table_is.mono ?_
  rintro e w1 ⟨rfl, h1⟩
  have hs1 := run_storeAt_new (P := Tryz.prog) w1 77 Tryz.zeroCells77 #[.string ⟨#[]⟩, .int .i64 0, .bool false, .nilFunc, .string ⟨#[126]⟩, .int .i64 0, .bool false, .func (.func 63) #[] #[], .string ⟨#[45]⟩, .int .i64 0, .bool false, .func (.func 64) #[] #[], .string ⟨#[43]⟩, .int .i64 5, .bool false, .func (.func 65) #[] #[], .string ⟨#[45]⟩, .int .i64 5, .bool false, .func (.func 66) #[] #[], .string ⟨#[42]⟩, .int .i64 6, .bool false, .func (.func 67) #[] #[], .string ⟨#[47]⟩, .int .i64 6, .bool false, .func (.func 68) #[] #[], .string ⟨#[37]⟩, .int .i64 6, .bool false, .func (.func 69) #[] #[], .string ⟨#[38]⟩, .int .i64 2, .bool false, .func (.func 70) #[] #[], .string ⟨#[124]⟩, .int .i64 1, .bool false, .func (.func 71) #[] #[], .string ⟨#[94]⟩, .int .i64 1, .bool false, .func (.func 72) #[] #[], .string ⟨#[60, 60]⟩, .int .i64 4, .bool false, .func (.func 73) #[] #[], .string ⟨#[62, 62]⟩, .int .i64 4, .bool false, .func (.func 74) #[] #[], .string ⟨#[61, 61]⟩, .int .i64 3, .bool true, .func (.func 75) #[] #[], .string ⟨#[33, 61]⟩, .int .i64 3, .bool true, .func (.func 77) #[] #[], .string ⟨#[60]⟩, .int .i64 3, .bool true, .func (.func 78) #[] #[], .string ⟨#[60, 61]⟩, .int .i64 3, .bool true, .func (.func 79) #[] #[]] (by kernel_rfl) (by kernel_rfl) (by kernel_rfl)
  go_wp2_with (refine wpList_store_one 77 (.tmp 3) (.tmp 4) _ _ rfl rfl hs1 ?_ ?_ ?_)
  · unfold Stop
    rfl
  · unfold Stop
    rfl
  · unfold Stop
    have hf : (w1.alloc (.cells #[.string ⟨#[]⟩, .int .i64 0, .bool false, .nilFunc, .string ⟨#[126]⟩, .int .i64 0, .bool false, .func (.func 63) #[] #[], .string ⟨#[45]⟩, .int .i64 0, .bool false, .func (.func 64) #[] #[], .string ⟨#[43]⟩, .int .i64 5, .bool false, .func (.func 65) #[] #[], .string ⟨#[45]⟩, .int .i64 5, .bool false, .func (.func 66) #[] #[], .string ⟨#[42]⟩, .int .i64 6, .bool false, .func (.func 67) #[] #[], .string ⟨#[47]⟩, .int .i64 6, .bool false, .func (.func 68) #[] #[], .string ⟨#[37]⟩, .int .i64 6, .bool false, .func (.func 69) #[] #[], .string ⟨#[38]⟩, .int .i64 2, .bool false, .func (.func 70) #[] #[], .string ⟨#[124]⟩, .int .i64 1, .bool false, .func (.func 71) #[] #[], .string ⟨#[94]⟩, .int .i64 1, .bool false, .func (.func 72) #[] #[], .string ⟨#[60, 60]⟩, .int .i64 4, .bool false, .func (.func 73) #[] #[], .string ⟨#[62, 62]⟩, .int .i64 4, .bool false, .func (.func 74) #[] #[], .string ⟨#[61, 61]⟩, .int .i64 3, .bool true, .func (.func 75) #[] #[], .string ⟨#[33, 61]⟩, .int .i64 3, .bool true, .func (.func 77) #[] #[], .string ⟨#[60]⟩, .int .i64 3, .bool true, .func (.func 78) #[] #[], .string ⟨#[60, 61]⟩, .int .i64 3, .bool true, .func (.func 79) #[] #[]] 77)).frozen? ⟨w1.heap.size, k * 4, none⟩ = false := frozen_alloc _ _ _ _
    have hc : (w1.alloc (.cells #[.string ⟨#[]⟩, .int .i64 0, .bool false, .nilFunc, .string ⟨#[126]⟩, .int .i64 0, .bool false, .func (.func 63) #[] #[], .string ⟨#[45]⟩, .int .i64 0, .bool false, .func (.func 64) #[] #[], .string ⟨#[43]⟩, .int .i64 5, .bool false, .func (.func 65) #[] #[], .string ⟨#[45]⟩, .int .i64 5, .bool false, .func (.func 66) #[] #[], .string ⟨#[42]⟩, .int .i64 6, .bool false, .func (.func 67) #[] #[], .string ⟨#[47]⟩, .int .i64 6, .bool false, .func (.func 68) #[] #[], .string ⟨#[37]⟩, .int .i64 6, .bool false, .func (.func 69) #[] #[], .string ⟨#[38]⟩, .int .i64 2, .bool false, .func (.func 70) #[] #[], .string ⟨#[124]⟩, .int .i64 1, .bool false, .func (.func 71) #[] #[], .string ⟨#[94]⟩, .int .i64 1, .bool false, .func (.func 72) #[] #[], .string ⟨#[60, 60]⟩, .int .i64 4, .bool false, .func (.func 73) #[] #[], .string ⟨#[62, 62]⟩, .int .i64 4, .bool false, .func (.func 74) #[] #[], .string ⟨#[61, 61]⟩, .int .i64 3, .bool true, .func (.func 75) #[] #[], .string ⟨#[33, 61]⟩, .int .i64 3, .bool true, .func (.func 77) #[] #[], .string ⟨#[60]⟩, .int .i64 3, .bool true, .func (.func 78) #[] #[], .string ⟨#[60, 61]⟩, .int .i64 3, .bool true, .func (.func 79) #[] #[]] 77)).cell? ⟨w1.heap.size, k * 4, none⟩ = some v := (cell_of_row _ _ (k * 4) _ 77 (0, 0) (heap_alloc_last w1 (.cells TabC 77))).trans hx
    go_wp2_with fail
    go_ret
    exact ⟨rfl, h1.alloc _⟩
end
end Go.Proofs.YtkedpifopclipaaGreat
namespace Go.Aig
def mulW (x y _m : Nat) : Nat := x * y % 4294967296
def quoW (x y m : Nat) : Nat := if y = 0 then m else x / y
def remW (x y _m : Nat) : Nat := if y = 0 then x else x % y
end Go.Aig
namespace Go.Proofs.YtkedpifopclipaaGreat
open Go.RowKit Go.Mem Go.Aig
section
variable {w : World}
set_option maxRecDepth 100000 in
theorem bt5_is (x y m : Nat) : Calls Tryz.prog 67 #[.int .u32 x, .int .u32 y, .int .u32 m] w fun e w' => e = .returned (.int .u32 (mulW x y m : Nat)) ∧ w = w' := by
  have hr : ((x : Int) * y % 4294967296) = ((mulW x y m : Nat) : Int) := by unfold mulW; simp
  have HR := Lib.hid hr; clear hr
  go_enter Tryz.func67, Tryz.ntmps67
  go_wp2_with fail
  go_ret
  refine ⟨?_, rfl⟩
  exact ret_int HR.out
set_option maxRecDepth 100000 in
theorem bt6_is (x y m : Nat) (hx : x < 65536) (hy : y < 65536) (_hm : m < 65536) : Calls Tryz.prog 68 #[.int .u32 x, .int .u32 y, .int .u32 m] w fun e w' => e = .returned (.int .u32 (quoW x y m : Nat)) ∧ w = w' := by
  by_cases h0 : y = 0
  · subst h0
    have hr : quoW x 0 m = m := by unfold quoW; simp
    rw [hr]
    go_enter Tryz.func68, Tryz.ntmps68
    go_wp2_with fail
    go_ret
    exact ⟨rfl, rfl⟩
  · have hr : ((x : Int) / (y : Int)) = ((quoW x y m : Nat) : Int) := by unfold quoW; rw [if_neg h0]; simp
    have hb : ((y : Int) == 0) = false := beqN (by omega)
    have hy1 : (y : Int) ≠ 0 := by omega
    have hr2 : ((x : Int) / (y : Int)) % 4294967296 = ((quoW x y m : Nat) : Int) := by
      rw [hr]
      have hlt : quoW x y m < 4294967296 := by
        unfold quoW
        rw [if_neg h0]
        exact Nat.lt_of_le_of_lt (Nat.div_le_self _ _) (by omega)
      generalize quoW x y m = z at *
      omega
    have HR := Lib.hid hr; clear hr h0
    have HR2 := Lib.hid hr2; clear hr2
    go_enter Tryz.func68, Tryz.ntmps68
    go_wp2_with fail
    go_ret
    refine ⟨?_, rfl⟩
    first | exact ret_int HR.out | exact ret_int HR2.out
set_option maxRecDepth 100000 in
theorem bt7_is (x y m : Nat) (hx : x < 65536) (hy : y < 65536) (_hm : m < 65536) : Calls Tryz.prog 69 #[.int .u32 x, .int .u32 y, .int .u32 m] w fun e w' => e = .returned (.int .u32 (remW x y m : Nat)) ∧ w = w' := by
  by_cases h0 : y = 0
  · subst h0
    have hr : remW x 0 m = x := by unfold remW; simp
    rw [hr]
    go_enter Tryz.func69, Tryz.ntmps69
    go_wp2_with fail
    go_ret
    exact ⟨rfl, rfl⟩
  · have hr : ((x : Int) % (y : Int)) = ((remW x y m : Nat) : Int) := by unfold remW; rw [if_neg h0]; simp
    have hb : ((y : Int) == 0) = false := beqN (by omega)
    have hy1 : (y : Int) ≠ 0 := by omega
    have hr2 : ((x : Int) % (y : Int)) % 4294967296 = ((remW x y m : Nat) : Int) := by
      rw [hr]
      have hlt : remW x y m < 4294967296 := by
        unfold remW
        rw [if_neg h0]
        exact Nat.lt_of_le_of_lt (Nat.mod_le _ _) (by omega)
      generalize remW x y m = z at *
      omega
    have HR := Lib.hid hr; clear hr h0
    have HR2 := Lib.hid hr2; clear hr2
    go_enter Tryz.func69, Tryz.ntmps69
    go_wp2_with fail
    go_ret
    refine ⟨?_, rfl⟩
    first | exact ret_int HR.out | exact ret_int HR2.out
set_option maxRecDepth 100000 in
set_option maxHeartbeats 4000000 in
theorem bApply5_is (x y n : Nat) (hx : x < 4294967296) (hy : y < 4294967296) (h1 : 1 ≤ n) (h16 : n ≤ 16) : Calls Tryz.prog 13 #[.int .u8 5, .int .i64 n, .int .u32 x, .int .u32 y] w fun e w' => e = .returned (.tuple #[.int .u32 (mulW (x &&& (2 ^ n - 1)) (y &&& (2 ^ n - 1)) (2 ^ n - 1) &&& (2 ^ n - 1) : Nat), .int .i64 0]) ∧ Ch [] w w' := by
  have h3 : 2 ^ n ≤ 2 ^ 16 := Nat.pow_le_pow_right (by omega) h16
  have HN := bName_is (w := w) 5 (.string ⟨#[42]⟩) (by omega) rfl
  have HM := fun w => Most_is (w := w) n h1 h16
  generalize hm : 2 ^ n - 1 = m at *
  have hm16 : m < 65536 := by omega
  have hux := u32_and_nat x m hx (by omega)
  have huy := u32_and_nat y m hy (by omega)
  have hXm : x &&& m ≤ m := Nat.and_le_right
  have hYm : y &&& m ≤ m := Nat.and_le_right
  generalize hX : x &&& m = X at *
  generalize hY : y &&& m = Y at *
  have HB := fun w => bt5_is (w := w) X Y m
  have hv : mulW X Y m < 4294967296 := by
    unfold mulW; exact Nat.mod_lt _ (by omega)
  have huv := u32_and_nat (mulW X Y m) m hv (by omega)
  generalize mulW X Y m = v at *
  go_enter Tryz.func13, Tryz.ntmps13
  go_wp2_with fail
  refine HN.mono ?_
  rintro e w1 ⟨rfl, hw1⟩
  go_wp2_with fail
  refine (HM w1).mono ?_
  rintro e w2 ⟨rfl, rfl⟩
  go_wp2_with fail
  refine table_is.mono ?_
  rintro e w3 ⟨rfl, hw3⟩
  have hix : ∀ w, (Instr.index 77 (.agg #[.string ⟨#[]⟩, .int .i64 0, .bool false, .nilFunc, .string ⟨#[126]⟩, .int .i64 0, .bool false, .func (.func 63) #[] #[], .string ⟨#[45]⟩, .int .i64 0, .bool false, .func (.func 64) #[] #[], .string ⟨#[43]⟩, .int .i64 5, .bool false, .func (.func 65) #[] #[], .string ⟨#[45]⟩, .int .i64 5, .bool false, .func (.func 66) #[] #[], .string ⟨#[42]⟩, .int .i64 6, .bool false, .func (.func 67) #[] #[], .string ⟨#[47]⟩, .int .i64 6, .bool false, .func (.func 68) #[] #[], .string ⟨#[37]⟩, .int .i64 6, .bool false, .func (.func 69) #[] #[], .string ⟨#[38]⟩, .int .i64 2, .bool false, .func (.func 70) #[] #[], .string ⟨#[124]⟩, .int .i64 1, .bool false, .func (.func 71) #[] #[], .string ⟨#[94]⟩, .int .i64 1, .bool false, .func (.func 72) #[] #[], .string ⟨#[60, 60]⟩, .int .i64 4, .bool false, .func (.func 73) #[] #[], .string ⟨#[62, 62]⟩, .int .i64 4, .bool false, .func (.func 74) #[] #[], .string ⟨#[61, 61]⟩, .int .i64 3, .bool true, .func (.func 75) #[] #[], .string ⟨#[33, 61]⟩, .int .i64 3, .bool true, .func (.func 77) #[] #[], .string ⟨#[60]⟩, .int .i64 3, .bool true, .func (.func 78) #[] #[], .string ⟨#[60, 61]⟩, .int .i64 3, .bool true, .func (.func 79) #[] #[]]) (.int .u8 5)).run Tryz.prog w = .ok (.agg #[.string ⟨#[42]⟩, .int .i64 6, .bool false, .func (.func 67) #[] #[]]) w := fun w => by first | kernel_rfl | rfl
  have hfl : ∀ w, (Instr.field 76 (.agg #[.string ⟨#[42]⟩, .int .i64 6, .bool false, .func (.func 67) #[] #[]]) 3).run Tryz.prog w = .ok (.func (.func 67) #[] #[]) w := fun w => by first | kernel_rfl | rfl
  go_wp2_with fail
  refine (HB w3).mono ?_
  rintro e w4 ⟨rfl, rfl⟩
  go_wp2_with fail
  go_ret2
  exact ⟨rfl, hw1.trans hw3 (by simp)⟩
set_option maxRecDepth 100000 in
set_option maxHeartbeats 4000000 in
theorem bApply6_is (x y n : Nat) (hx : x < 4294967296) (hy : y < 4294967296) (h1 : 1 ≤ n) (h16 : n ≤ 16) : Calls Tryz.prog 13 #[.int .u8 6, .int .i64 n, .int .u32 x, .int .u32 y] w fun e w' => e = .returned (.tuple #[.int .u32 (quoW (x &&& (2 ^ n - 1)) (y &&& (2 ^ n - 1)) (2 ^ n - 1) &&& (2 ^ n - 1) : Nat), .int .i64 0]) ∧ Ch [] w w' := by
  have h3 : 2 ^ n ≤ 2 ^ 16 := Nat.pow_le_pow_right (by omega) h16
  have HN := bName_is (w := w) 6 (.string ⟨#[47]⟩) (by omega) rfl
  have HM := fun w => Most_is (w := w) n h1 h16
  generalize hm : 2 ^ n - 1 = m at *
  have hm16 : m < 65536 := by omega
  have hux := u32_and_nat x m hx (by omega)
  have huy := u32_and_nat y m hy (by omega)
  have hXm : x &&& m ≤ m := Nat.and_le_right
  have hYm : y &&& m ≤ m := Nat.and_le_right
  generalize hX : x &&& m = X at *
  generalize hY : y &&& m = Y at *
  have HB := fun w => bt6_is (w := w) X Y m (by omega) (by omega) hm16
  have hv : quoW X Y m < 4294967296 := by
    unfold quoW; split; · omega
    · exact Nat.lt_of_le_of_lt (Nat.div_le_self _ _) (by omega)
  have huv := u32_and_nat (quoW X Y m) m hv (by omega)
  generalize quoW X Y m = v at *
  go_enter Tryz.func13, Tryz.ntmps13
  go_wp2_with fail
  refine HN.mono ?_
  rintro e w1 ⟨rfl, hw1⟩
  go_wp2_with fail
  refine (HM w1).mono ?_
  rintro e w2 ⟨rfl, rfl⟩
  go_wp2_with fail
  refine table_is.mono ?_
  rintro e w3 ⟨rfl, hw3⟩
  have hix : ∀ w, (Instr.index 77 (.agg #[.string ⟨#[]⟩, .int .i64 0, .bool false, .nilFunc, .string ⟨#[126]⟩, .int .i64 0, .bool false, .func (.func 63) #[] #[], .string ⟨#[45]⟩, .int .i64 0, .bool false, .func (.func 64) #[] #[], .string ⟨#[43]⟩, .int .i64 5, .bool false, .func (.func 65) #[] #[], .string ⟨#[45]⟩, .int .i64 5, .bool false, .func (.func 66) #[] #[], .string ⟨#[42]⟩, .int .i64 6, .bool false, .func (.func 67) #[] #[], .string ⟨#[47]⟩, .int .i64 6, .bool false, .func (.func 68) #[] #[], .string ⟨#[37]⟩, .int .i64 6, .bool false, .func (.func 69) #[] #[], .string ⟨#[38]⟩, .int .i64 2, .bool false, .func (.func 70) #[] #[], .string ⟨#[124]⟩, .int .i64 1, .bool false, .func (.func 71) #[] #[], .string ⟨#[94]⟩, .int .i64 1, .bool false, .func (.func 72) #[] #[], .string ⟨#[60, 60]⟩, .int .i64 4, .bool false, .func (.func 73) #[] #[], .string ⟨#[62, 62]⟩, .int .i64 4, .bool false, .func (.func 74) #[] #[], .string ⟨#[61, 61]⟩, .int .i64 3, .bool true, .func (.func 75) #[] #[], .string ⟨#[33, 61]⟩, .int .i64 3, .bool true, .func (.func 77) #[] #[], .string ⟨#[60]⟩, .int .i64 3, .bool true, .func (.func 78) #[] #[], .string ⟨#[60, 61]⟩, .int .i64 3, .bool true, .func (.func 79) #[] #[]]) (.int .u8 6)).run Tryz.prog w = .ok (.agg #[.string ⟨#[47]⟩, .int .i64 6, .bool false, .func (.func 68) #[] #[]]) w := fun w => by first | kernel_rfl | rfl
  have hfl : ∀ w, (Instr.field 76 (.agg #[.string ⟨#[47]⟩, .int .i64 6, .bool false, .func (.func 68) #[] #[]]) 3).run Tryz.prog w = .ok (.func (.func 68) #[] #[]) w := fun w => by first | kernel_rfl | rfl
  go_wp2_with fail
  refine (HB w3).mono ?_
  rintro e w4 ⟨rfl, rfl⟩
  go_wp2_with fail
  go_ret2
  exact ⟨rfl, hw1.trans hw3 (by simp)⟩
set_option maxRecDepth 100000 in
set_option maxHeartbeats 4000000 in
theorem bApply7_is (x y n : Nat) (hx : x < 4294967296) (hy : y < 4294967296) (h1 : 1 ≤ n) (h16 : n ≤ 16) : Calls Tryz.prog 13 #[.int .u8 7, .int .i64 n, .int .u32 x, .int .u32 y] w fun e w' => e = .returned (.tuple #[.int .u32 (remW (x &&& (2 ^ n - 1)) (y &&& (2 ^ n - 1)) (2 ^ n - 1) &&& (2 ^ n - 1) : Nat), .int .i64 0]) ∧ Ch [] w w' := by
  have h3 : 2 ^ n ≤ 2 ^ 16 := Nat.pow_le_pow_right (by omega) h16
  have HN := bName_is (w := w) 7 (.string ⟨#[37]⟩) (by omega) rfl
  have HM := fun w => Most_is (w := w) n h1 h16
  generalize hm : 2 ^ n - 1 = m at *
  have hm16 : m < 65536 := by omega
  have hux := u32_and_nat x m hx (by omega)
  have huy := u32_and_nat y m hy (by omega)
  have hXm : x &&& m ≤ m := Nat.and_le_right
  have hYm : y &&& m ≤ m := Nat.and_le_right
  generalize hX : x &&& m = X at *
  generalize hY : y &&& m = Y at *
  have HB := fun w => bt7_is (w := w) X Y m (by omega) (by omega) hm16
  have hv : remW X Y m < 4294967296 := by
    unfold remW; split; · omega
    · exact Nat.lt_of_le_of_lt (Nat.mod_le _ _) (by omega)
  have huv := u32_and_nat (remW X Y m) m hv (by omega)
  generalize remW X Y m = v at *
  go_enter Tryz.func13, Tryz.ntmps13
  go_wp2_with fail
  refine HN.mono ?_
  rintro e w1 ⟨rfl, hw1⟩
  go_wp2_with fail
  refine (HM w1).mono ?_
  rintro e w2 ⟨rfl, rfl⟩
  go_wp2_with fail
  refine table_is.mono ?_
  rintro e w3 ⟨rfl, hw3⟩
  have hix : ∀ w, (Instr.index 77 (.agg #[.string ⟨#[]⟩, .int .i64 0, .bool false, .nilFunc, .string ⟨#[126]⟩, .int .i64 0, .bool false, .func (.func 63) #[] #[], .string ⟨#[45]⟩, .int .i64 0, .bool false, .func (.func 64) #[] #[], .string ⟨#[43]⟩, .int .i64 5, .bool false, .func (.func 65) #[] #[], .string ⟨#[45]⟩, .int .i64 5, .bool false, .func (.func 66) #[] #[], .string ⟨#[42]⟩, .int .i64 6, .bool false, .func (.func 67) #[] #[], .string ⟨#[47]⟩, .int .i64 6, .bool false, .func (.func 68) #[] #[], .string ⟨#[37]⟩, .int .i64 6, .bool false, .func (.func 69) #[] #[], .string ⟨#[38]⟩, .int .i64 2, .bool false, .func (.func 70) #[] #[], .string ⟨#[124]⟩, .int .i64 1, .bool false, .func (.func 71) #[] #[], .string ⟨#[94]⟩, .int .i64 1, .bool false, .func (.func 72) #[] #[], .string ⟨#[60, 60]⟩, .int .i64 4, .bool false, .func (.func 73) #[] #[], .string ⟨#[62, 62]⟩, .int .i64 4, .bool false, .func (.func 74) #[] #[], .string ⟨#[61, 61]⟩, .int .i64 3, .bool true, .func (.func 75) #[] #[], .string ⟨#[33, 61]⟩, .int .i64 3, .bool true, .func (.func 77) #[] #[], .string ⟨#[60]⟩, .int .i64 3, .bool true, .func (.func 78) #[] #[], .string ⟨#[60, 61]⟩, .int .i64 3, .bool true, .func (.func 79) #[] #[]]) (.int .u8 7)).run Tryz.prog w = .ok (.agg #[.string ⟨#[37]⟩, .int .i64 6, .bool false, .func (.func 69) #[] #[]]) w := fun w => by first | kernel_rfl | rfl
  have hfl : ∀ w, (Instr.field 76 (.agg #[.string ⟨#[37]⟩, .int .i64 6, .bool false, .func (.func 69) #[] #[]]) 3).run Tryz.prog w = .ok (.func (.func 69) #[] #[]) w := fun w => by first | kernel_rfl | rfl
  go_wp2_with fail
  refine (HB w3).mono ?_
  rintro e w4 ⟨rfl, rfl⟩
  go_wp2_with fail
  go_ret2
  exact ⟨rfl, hw1.trans hw3 (by simp)⟩
end
end Go.Proofs.YtkedpifopclipaaGreat
namespace Go.Aig
def cp (p : Bool × Bool) : Nat × Nat := (p.1.toNat, p.2.toNat)
end Go.Aig
namespace Go.Aig
/-- bit k is bit i of k, for k below 2^N -/
def pat : Nat → Nat → Nat
  | 0, _ => 0
  | N + 1, i => if i = N then 2 ^ 2 ^ N * (2 ^ 2 ^ N - 1) else 2 ^ 2 ^ N * pat N i + pat N i
theorem pow_pow_succ (N : Nat) : 2 ^ 2 ^ (N + 1) = 2 ^ 2 ^ N * 2 ^ 2 ^ N := by rw [← Nat.pow_add]; congr 1; rw [Nat.pow_succ]; omega
theorem pat_lt : ∀ N i : Nat, pat N i < 2 ^ 2 ^ N
  | 0, _ => by unfold pat; decide
  | N + 1, i => by
    have ih := pat_lt N i
    rw [pow_pow_succ]
    unfold pat
    have hp : 0 < 2 ^ 2 ^ N := Nat.two_pow_pos _
    generalize 2 ^ 2 ^ N = P at *
    obtain ⟨Q, rfl⟩ : ∃ Q, P = Q + 1 := ⟨P - 1, by omega⟩
    split
    · rw [Nat.add_sub_cancel]
      exact Nat.mul_lt_mul_of_pos_left (by omega) hp
    · have := Nat.mul_le_mul_left (Q + 1) (show pat N i ≤ Q by omega)
      rw [Nat.mul_add]
      omega
theorem pat_bit : ∀ N i k : Nat, i < N → k < 2 ^ N → (pat N i).testBit k = k.testBit i
  | 0, i, k, hi, _ => by omega
  | N + 1, i, k, hi, hk => by
    rw [Nat.pow_succ] at hk
    have hlt := pat_lt N i
    unfold pat
    split
    · rename_i e
      subst e
      rw [Nat.testBit_two_pow_mul, Nat.testBit_two_pow_sub_one]
      by_cases h : 2 ^ i ≤ k
      · rw [decide_eq_true h, decide_eq_true (by omega), show k = 2 ^ i * 1 + (k - 2 ^ i) by omega, Nat.testBit_two_pow_mul_add _ (by omega), if_neg (by omega)]
        simp
      · rw [decide_eq_false h, Nat.testBit_lt_two_pow (by omega)]
        simp
    · rename_i e
      rw [Nat.testBit_two_pow_mul_add _ hlt]
      split
      · rename_i h
        exact pat_bit N i k (by omega) h
      · rename_i h
        rw [pat_bit N i (k - 2 ^ N) (by omega) (by omega)]
        conv => rhs; rw [show k = 2 ^ N * 1 + (k - 2 ^ N) by omega, Nat.testBit_two_pow_mul_add _ (by omega), if_pos (by omega)]
def pats (N : Nat) : List Nat := (List.range N).map (pat N)
/-- the words of the nodes, for all assignments of N inputs at once -/
def allV (N : Nat) (ns : List Nd) : List Nat := (wvF (2 ^ 2 ^ N - 1) (pats N) ns).1
theorem pats_bit {N k : Nat} (hk : k < 2 ^ N) : (fun i => ((pats N).getD i 0).testBit k) = asg N k := by
  funext i
  unfold pats asg
  rw [List.getD_eq_getElem?_getD, List.getElem?_map]
  by_cases hi : i < N
  · rw [List.getElem?_range hi, decide_eq_true hi, Bool.true_and]
    exact pat_bit N i k hi hk
  · rw [List.getElem?_eq_none (by simp; omega), decide_eq_false hi, Bool.false_and]
    simp
theorem allV_bit {N k : Nat} (hk : k < 2 ^ N) (ns : List Nd) (r : Nat) : (wref (2 ^ 2 ^ N - 1) (allV N ns) r).testBit k = bv (asg N k) ns r := by
  unfold allV
  rw [wv_bv hk, pats_bit hk]
theorem given_bit {n m a b : Nat} (ha : a < 2 ^ n) : (fun i => (givenL n m a b).getD i false) = asg (n + m) (2 ^ n * b + a) := by
  funext i
  unfold givenL asg
  rw [List.getD_eq_getElem?_getD, Nat.testBit_two_pow_mul_add _ ha]
  by_cases hi : i < n
  · rw [List.getElem?_append_left (by simpa using hi), List.getElem?_map, List.getElem?_range hi, if_pos hi, decide_eq_true (by omega)]
    rfl
  · rw [List.getElem?_append_right (by simp; omega), List.getElem?_map, if_neg hi]
    simp only [List.length_map, List.length_range]
    by_cases hm : i - n < m
    · rw [List.getElem?_range hm, decide_eq_true (by omega)]
      rfl
    · rw [List.getElem?_eq_none (by simp; omega), decide_eq_false (by omega)]
      rfl
/-- what a word is for an assignment, out of the words for all of them -/
theorem bits_all {n m a b : Nat} {G : Gra} {l : List Nat} (ha : a < 2 ^ n) (hb : b < 2 ^ m) (hbad : badIn G (natInts l) = false) (hi : (inputs G.nodes).length = n + m) :
    Go.Proofs.YtkedpifopclipaaGreat.bitsR G (givenL n m a b) (natInts l) = (l.map fun r => (wref (2 ^ 2 ^ (n + m) - 1) (allV (n + m) G.nodes) r).testBit (2 ^ n * b + a), 0) := by
  have hk : 2 ^ n * b + a < 2 ^ (n + m) := by
    rw [Nat.pow_add]
    have := Nat.mul_le_mul_left (2 ^ n) (show b + 1 ≤ 2 ^ m from hb)
    rw [Nat.mul_add] at this
    omega
  unfold Go.Proofs.YtkedpifopclipaaGreat.bitsR
  rw [hbad, givenL_len, hi, if_neg (by simp), if_neg (by simp)]
  unfold bsOf
  rw [given_bit ha]
  congr 1
  rw [show nats (natInts l) = l from Go.Proofs.YtkedpifopclipaaGreat.toNats l]
  exact List.map_congr_left fun r _ => (allV_bit hk G.nodes r).symm
end Go.Aig
namespace Go.Proofs.YtkedpifopclipaaGreat
open Go.RowKit Go.Mem Go.Aig
attribute [local go_sem] Oper.semAt_some
/-- what is known between two rounds of step -/
structure E5 (w : World) (g : Nat) (F : List Nat) (c : Nat) (W : World) (v : Value) (Gp : Gra) (l : List Nat) (F' : List Nat) : Prop where
  gin : GIn W g Gp F'
  ch : Ch F w W
  own : ∀ k ∈ F', k ∈ F ∨ w.heap.size + 7 + 2 ≤ k
  map : F'[2]? = F[2]?
  b4 : blk W w.heap.size [.pointer (some ⟨g, 0, none⟩)]
  b5 : blk W (w.heap.size + 1) [.int .i64 c]
  b8 : blk W (w.heap.size + 2) [.slice none 0 0]
  b9 : blk W (w.heap.size + 3) [.int .i64 0]
  b10 : blk W (w.heap.size + 4) [v]
  row : Go.Mem.row W 53 1 v l.length (refsCells l)
  fresh : ∀ k, v.ownBlock = some k → w.heap.size + 7 + 2 ≤ k ∧ k ∉ F'
structure I5 (w : World) (g : Nat) (G : Gra) (F : List Nat) (c : Nat) (pre : List (Nat × Nat)) (W : World) : Prop where
  ex : ∃ v Gp l F', eachF (rop (muxOf c)) (G, 0) pre = ((Gp, 0), l) ∧ Ok Gp ∧ Ext G Gp ∧ E5 w g F c W v Gp l F'
section
variable {w A A' : World} {g c : Nat} {G Gp : Gra} {F F' : List Nat} {v : Value} {l : List Nat}
end
end Go.Proofs.YtkedpifopclipaaGreat
namespace Go.Aig
/-- a word of references shifted -/
def shN (side : Nat) (x : List Nat) (n : Nat) : List Nat := (List.range x.length).map fun i => if side = 1 then (if n ≤ i then x.getD (i - n) 0 else 0) else x.getD (i + n) 0
@[simp] theorem shN_len (side : Nat) (x : List Nat) (n : Nat) : (shN side x n).length = x.length := by simp [shN]
end Go.Aig
namespace Go.Aig
@[simp] theorem turnL_len (x : List Int) (n : Int) : (turnL x n).length = x.length := by
  unfold turnL
  dsimp only
  by_cases hx : 0 < x.length
  · have h1 := Int.emod_nonneg n (show (x.length : Int) ≠ 0 by omega)
    have h2 := Int.emod_lt_of_pos n (show (0 : Int) < x.length by omega)
    have e : n.emod x.length = n % x.length := rfl
    rw [List.length_append, List.length_drop, List.length_take]
    omega
  · have : x = [] := List.eq_nil_of_length_eq_zero (by omega)
    subst this
    simp
/-! ### shifts by constants -/
instance : DecidableEq Gra := fun a b => decidable_of_iff (a.most = b.most ∧ a.nodes = b.nodes) ⟨fun h => by cases a; cases b; simp_all, fun h => by subst h; exact ⟨rfl, rfl⟩⟩
end Go.Aig
namespace Go.Aig
/-- what Apply returns of an operation -/
def appW (f : Nat → Nat → Nat → Nat) (n a b : Nat) : Nat := f (a &&& (2 ^ n - 1)) (b &&& (2 ^ n - 1)) (2 ^ n - 1) &&& (2 ^ n - 1)
def sqrW (x _y m : Nat) : Nat := mulW x x m
def isW4 (n : Nat) (V : List Nat) (f : Nat → Nat → Nat → Nat) (l : List Nat) : Bool :=
  (List.range (2 ^ (n + n))).all fun k => bitsVal (l.map fun r => (wref (2 ^ 2 ^ (n + n) - 1) V r).testBit k) == appW f n (k % 2 ^ n) (k / 2 ^ n)
def isM (n : Nat) : Bool :=
  let A := mulG (gIn 4000 (2 * n)) (natInts (rIn 0 n)) (natInts (rIn n n))
  let B := bothG A.1 (natInts (rIn 0 n)) (natInts (rIn n n))
  let C := mulG B.1 (natInts (rIn 0 n)) (natInts (rIn 0 n))
  let V := allV (n + n) C.1.nodes
  A.2.2 == 0 && B.2.2 == 0 && C.2.2 == 0 && (inputs C.1.nodes).length == n + n && ([A.2.1, B.2.1.1, B.2.1.2, C.2.1].all fun l => l.length == n && (l.all fun r => decide (r ≤ 1000000)) && !badIn C.1 (natInts l)) && isW4 n V mulW A.2.1 && isW4 n V quoW B.2.1.1 && isW4 n V remW B.2.1.2 && isW4 n V sqrW C.2.1
/-- a number, a node, a list, a graph brought to its value before what follows: for evaluation -/
def fN {A : Type} (n : Nat) (k : Nat → A) : A := Nat.rec (motive := fun _ => A) (k 0) (fun m _ => k (Nat.succ m)) n
theorem fN_eq {A : Type} (n : Nat) (k : Nat → A) : fN n k = k n := by cases n <;> rfl
def fNd {A : Type} (x : Nd) (k : Nd → A) : A := fN x.k fun a => fN x.l fun b => fN x.r fun c => fN x.d fun d => k ⟨a, b, c, d⟩
theorem fNd_eq {A : Type} (x : Nd) (k : Nd → A) : fNd x k = k x := by unfold fNd; simp only [fN_eq]
def fL {A : Type} : List Nd → (List Nd → A) → A
  | [], k => k []
  | x :: t, k => fNd x fun x' => fL t fun t' => k (x' :: t')
theorem fL_eq {A : Type} : ∀ (l : List Nd) (k : List Nd → A), fL l k = k l
  | [], _ => rfl
  | x :: t, k => by unfold fL; rw [fNd_eq, fL_eq t]
def fNs {A : Type} : List Nat → (List Nat → A) → A
  | [], k => k []
  | x :: t, k => fN x fun x' => fNs t fun t' => k (x' :: t')
theorem fNs_eq {A : Type} : ∀ (l : List Nat) (k : List Nat → A), fNs l k = k l
  | [], _ => rfl
  | x :: t, k => by unfold fNs; rw [fN_eq, fNs_eq t]
def fG {A : Type} (G : Gra) (k : Gra → A) : A := fN G.most fun m => fL G.nodes fun l => k ⟨m, l⟩
theorem fG_eq {A : Type} (G : Gra) (k : Gra → A) : fG G k = k G := by unfold fG; simp only [fN_eq, fL_eq]
def fS {A : Type} (q : Mk × List Nat × List Nat) (k : Mk × List Nat × List Nat → A) : A := fG q.1.1 fun g => fN q.1.2 fun e => fNs q.2.1 fun a => fNs q.2.2 fun b => k ((g, e), a, b)
theorem fS_eq {A : Type} (q : Mk × List Nat × List Nat) (k : Mk × List Nat × List Nat → A) : fS q k = k q := by unfold fS; simp only [fN_eq, fG_eq, fNs_eq]
def fW {A : Type} (q : Gra × List Nat × Nat) (k : Gra × List Nat × Nat → A) : A := fG q.1 fun g => fNs q.2.1 fun a => fN q.2.2 fun e => k (g, a, e)
theorem fW_eq {A : Type} (q : Gra × List Nat × Nat) (k : Gra × List Nat × Nat → A) : fW q k = k q := by unfold fW; simp only [fN_eq, fG_eq, fNs_eq]
def divK {A : Type} (d : List Nat) : List Nat → Mk × List Nat × List Nat → (Mk × List Nat × List Nat → A) → A
  | [], q, k => k q
  | b :: l, q, k => fS (divS d q b) fun q' => divK d l q' k
theorem divK_eq {A : Type} (d : List Nat) : ∀ (l : List Nat) (q : Mk × List Nat × List Nat) (k : Mk × List Nat × List Nat → A), divK d l q k = k (l.foldl (divS d) q)
  | [], _, _ => rfl
  | b :: l, q, k => by unfold divK; rw [fS_eq, divK_eq d l]; rfl
def bothK {A : Type} (G : Gra) (x y : List Int) (k : Gra × (List Nat × List Nat) × Nat → A) : A :=
  if chk24 G [x, y] ≠ 0 then k (G, ([], []), chk24 G [x, y]) else divK (nats y ++ [0]) (nats x).reverse ((G, 0), [], List.replicate (nats y ++ [0]).length 0) fun R => k (bres G x.length R)
theorem bothK_eq {A : Type} (G : Gra) (x y : List Int) (k : Gra × (List Nat × List Nat) × Nat → A) : bothK G x y k = k (bothG G x y) := by
  unfold bothK bothG
  split
  · rfl
  · rw [divK_eq]; rfl
def isMK (n : Nat) : Bool :=
  fW (mulG (gIn 4000 (2 * n)) (natInts (rIn 0 n)) (natInts (rIn n n))) fun A =>
  bothK A.1 (natInts (rIn 0 n)) (natInts (rIn n n)) fun B =>
  fW (mulG B.1 (natInts (rIn 0 n)) (natInts (rIn 0 n))) fun C =>
  fNs (allV (n + n) C.1.nodes) fun V =>
  A.2.2 == 0 && B.2.2 == 0 && C.2.2 == 0 && (inputs C.1.nodes).length == n + n && ([A.2.1, B.2.1.1, B.2.1.2, C.2.1].all fun l => l.length == n && (l.all fun r => decide (r ≤ 1000000)) && !badIn C.1 (natInts l)) && isW4 n V mulW A.2.1 && isW4 n V quoW B.2.1.1 && isW4 n V remW B.2.1.2 && isW4 n V sqrW C.2.1
theorem isMK_eq (n : Nat) : isMK n = isM n := by
  unfold isMK isM
  simp only [fW_eq, bothK_eq, fNs_eq]
set_option maxRecDepth 100000 in
theorem isM_1 : isM 1 = true := (isMK_eq 1).symm.trans (by decide +kernel)
set_option maxRecDepth 100000 in
theorem isM_2 : isM 2 = true := (isMK_eq 2).symm.trans (by decide +kernel)
set_option maxRecDepth 100000 in
theorem isM_3 : isM 3 = true := (isMK_eq 3).symm.trans (by decide +kernel)
set_option maxRecDepth 100000 in
theorem isM_4 : isM 4 = true := (isMK_eq 4).symm.trans (by decide +kernel)
def n5a : List Nd := [⟨1, 0, 0, 0⟩, ⟨2, 0, 0, 0⟩, ⟨2, 0, 0, 0⟩, ⟨2, 0, 0, 0⟩, ⟨2, 0, 0, 0⟩, ⟨2, 0, 0, 0⟩, ⟨2, 0, 0, 0⟩, ⟨2, 0, 0, 0⟩, ⟨2, 0, 0, 0⟩, ⟨2, 0, 0, 0⟩, ⟨2, 0, 0, 0⟩, ⟨3, 2, 12, 1⟩, ⟨3, 4, 12, 1⟩, ⟨3, 6, 12, 1⟩, ⟨3, 8, 12, 1⟩, ⟨3, 10, 12, 1⟩, ⟨3, 2, 14, 1⟩, ⟨3, 4, 14, 1⟩, ⟨3, 6, 14, 1⟩, ⟨3, 8, 14, 1⟩, ⟨3, 24, 33, 2⟩, ⟨3, 25, 32, 2⟩, ⟨3, 41, 43, 3⟩, ⟨3, 24, 32, 2⟩, ⟨3, 26, 35, 2⟩, ⟨3, 27, 34, 2⟩, ⟨3, 49, 51, 3⟩, ⟨3, 47, 53, 4⟩, ⟨3, 46, 52, 4⟩, ⟨3, 55, 57, 5⟩, ⟨3, 26, 34, 2⟩, ⟨3, 46, 53, 4⟩, ⟨3, 61, 63, 5⟩, ⟨3, 28, 37, 2⟩, ⟨3, 29, 36, 2⟩, ⟨3, 67, 69, 3⟩, ⟨3, 64, 71, 6⟩, ⟨3, 65, 70, 6⟩, ⟨3, 73, 75, 7⟩, ⟨3, 28, 36, 2⟩, ⟨3, 65, 71, 6⟩, ⟨3, 79, 81, 7⟩, ⟨3, 30, 39, 2⟩, ⟨3, 31, 38, 2⟩, ⟨3, 85, 87, 3⟩, ⟨3, 82, 89, 8⟩, ⟨3, 83, 88, 8⟩, ⟨3, 91, 93, 9⟩, ⟨3, 2, 16, 1⟩, ⟨3, 4, 16, 1⟩, ⟨3, 6, 16, 1⟩, ⟨3, 59, 97, 6⟩, ⟨3, 58, 96, 6⟩, ⟨3, 103, 105, 7⟩, ⟨3, 59, 96, 6⟩, ⟨3, 77, 99, 8⟩, ⟨3, 76, 98, 8⟩, ⟨3, 111, 113, 9⟩, ⟨3, 109, 115, 10⟩, ⟨3, 108, 114, 10⟩, ⟨3, 117, 119, 11⟩, ⟨3, 77, 98, 8⟩, ⟨3, 108, 115, 10⟩, ⟨3, 123, 125, 11⟩, ⟨3, 95, 101, 10⟩, ⟨3, 94, 100, 10⟩, ⟨3, 129, 131, 11⟩, ⟨3, 126, 133, 12⟩, ⟨3, 127, 132, 12⟩, ⟨3, 135, 137, 13⟩, ⟨3, 2, 18, 1⟩, ⟨3, 4, 18, 1⟩, ⟨3, 121, 141, 12⟩, ⟨3, 120, 140, 12⟩, ⟨3, 145, 147, 13⟩, ⟨3, 121, 140, 12⟩, ⟨3, 139, 143, 14⟩, ⟨3, 138, 142, 14⟩, ⟨3, 153, 155, 15⟩, ⟨3, 151, 157, 16⟩, ⟨3, 150, 156, 16⟩, ⟨3, 159, 161, 17⟩, ⟨3, 2, 20, 1⟩, ⟨3, 163, 165, 18⟩, ⟨3, 162, 164, 18⟩, ⟨3, 167, 169, 19⟩]
def n5b : List Nd := [⟨3, 10, 13, 1⟩, ⟨3, 11, 12, 1⟩, ⟨3, 173, 175, 2⟩, ⟨3, 12, 177, 3⟩, ⟨3, 15, 178, 4⟩, ⟨3, 15, 181, 5⟩, ⟨3, 17, 183, 6⟩, ⟨3, 17, 185, 7⟩, ⟨3, 19, 187, 8⟩, ⟨3, 19, 189, 9⟩, ⟨3, 21, 191, 10⟩, ⟨3, 21, 193, 11⟩, ⟨3, 11, 13, 1⟩, ⟨3, 31, 197, 2⟩, ⟨3, 173, 198, 3⟩, ⟨3, 15, 200, 4⟩, ⟨3, 14, 201, 4⟩, ⟨3, 203, 205, 5⟩, ⟨3, 15, 201, 4⟩, ⟨3, 17, 209, 5⟩, ⟨3, 16, 208, 5⟩, ⟨3, 211, 213, 6⟩, ⟨3, 17, 208, 5⟩, ⟨3, 19, 217, 6⟩, ⟨3, 18, 216, 6⟩, ⟨3, 219, 221, 7⟩, ⟨3, 19, 216, 6⟩, ⟨3, 21, 225, 7⟩, ⟨3, 20, 224, 7⟩, ⟨3, 227, 229, 8⟩, ⟨3, 21, 224, 7⟩, ⟨3, 194, 198, 12⟩, ⟨3, 10, 195, 12⟩, ⟨3, 235, 237, 13⟩, ⟨3, 194, 207, 12⟩, ⟨3, 194, 215, 12⟩, ⟨3, 194, 223, 12⟩, ⟨3, 194, 231, 12⟩, ⟨3, 194, 233, 12⟩]
def n5c : List Nd := [⟨3, 8, 13, 1⟩, ⟨3, 9, 12, 1⟩, ⟨3, 251, 253, 2⟩, ⟨3, 12, 255, 3⟩, ⟨3, 15, 239, 14⟩, ⟨3, 14, 238, 14⟩, ⟨3, 259, 261, 15⟩, ⟨3, 14, 263, 16⟩, ⟨3, 256, 262, 16⟩, ⟨3, 265, 267, 17⟩, ⟨3, 17, 240, 13⟩, ⟨3, 16, 241, 13⟩, ⟨3, 271, 273, 14⟩, ⟨3, 16, 275, 15⟩, ⟨3, 269, 274, 18⟩, ⟨3, 277, 279, 19⟩, ⟨3, 19, 242, 13⟩, ⟨3, 18, 243, 13⟩, ⟨3, 283, 285, 14⟩, ⟨3, 18, 287, 15⟩, ⟨3, 281, 286, 20⟩, ⟨3, 289, 291, 21⟩, ⟨3, 21, 244, 13⟩, ⟨3, 20, 245, 13⟩, ⟨3, 295, 297, 14⟩, ⟨3, 20, 299, 15⟩, ⟨3, 293, 298, 22⟩, ⟨3, 301, 303, 23⟩, ⟨3, 247, 305, 24⟩, ⟨3, 9, 13, 1⟩, ⟨3, 29, 309, 2⟩, ⟨3, 251, 310, 3⟩, ⟨3, 14, 239, 14⟩, ⟨3, 15, 238, 14⟩, ⟨3, 315, 317, 15⟩, ⟨3, 312, 319, 16⟩, ⟨3, 313, 318, 16⟩, ⟨3, 321, 323, 17⟩, ⟨3, 313, 319, 16⟩, ⟨3, 259, 327, 17⟩, ⟨3, 16, 240, 13⟩, ⟨3, 17, 241, 13⟩, ⟨3, 331, 333, 14⟩, ⟨3, 328, 335, 18⟩, ⟨3, 329, 334, 18⟩, ⟨3, 337, 339, 19⟩, ⟨3, 329, 335, 18⟩, ⟨3, 271, 343, 19⟩, ⟨3, 18, 242, 13⟩, ⟨3, 19, 243, 13⟩, ⟨3, 347, 349, 14⟩, ⟨3, 344, 351, 20⟩, ⟨3, 345, 350, 20⟩, ⟨3, 353, 355, 21⟩, ⟨3, 345, 351, 20⟩, ⟨3, 283, 359, 21⟩, ⟨3, 20, 244, 13⟩, ⟨3, 21, 245, 13⟩, ⟨3, 363, 365, 14⟩, ⟨3, 360, 367, 22⟩, ⟨3, 361, 366, 22⟩, ⟨3, 369, 371, 23⟩, ⟨3, 361, 367, 22⟩, ⟨3, 295, 375, 23⟩, ⟨3, 247, 376, 24⟩, ⟨3, 246, 377, 24⟩, ⟨3, 379, 381, 25⟩, ⟨3, 307, 310, 25⟩, ⟨3, 8, 306, 25⟩, ⟨3, 385, 387, 26⟩, ⟨3, 307, 325, 25⟩, ⟨3, 239, 306, 25⟩, ⟨3, 391, 393, 26⟩, ⟨3, 307, 341, 25⟩, ⟨3, 240, 306, 25⟩, ⟨3, 397, 399, 26⟩, ⟨3, 307, 357, 25⟩, ⟨3, 242, 306, 25⟩, ⟨3, 403, 405, 26⟩, ⟨3, 307, 373, 25⟩, ⟨3, 244, 306, 25⟩, ⟨3, 409, 411, 26⟩, ⟨3, 307, 383, 26⟩, ⟨3, 246, 306, 25⟩, ⟨3, 415, 417, 27⟩]
def n5d : List Nd := [⟨3, 6, 13, 1⟩, ⟨3, 7, 12, 1⟩, ⟨3, 421, 423, 2⟩, ⟨3, 12, 425, 3⟩, ⟨3, 15, 389, 27⟩, ⟨3, 14, 388, 27⟩, ⟨3, 429, 431, 28⟩, ⟨3, 14, 433, 29⟩, ⟨3, 426, 432, 29⟩, ⟨3, 435, 437, 30⟩, ⟨3, 17, 395, 27⟩, ⟨3, 16, 394, 27⟩, ⟨3, 441, 443, 28⟩, ⟨3, 16, 445, 29⟩, ⟨3, 439, 444, 31⟩, ⟨3, 447, 449, 32⟩, ⟨3, 19, 401, 27⟩, ⟨3, 18, 400, 27⟩, ⟨3, 453, 455, 28⟩, ⟨3, 18, 457, 29⟩, ⟨3, 451, 456, 33⟩, ⟨3, 459, 461, 34⟩, ⟨3, 21, 407, 27⟩, ⟨3, 20, 406, 27⟩, ⟨3, 465, 467, 28⟩, ⟨3, 20, 469, 29⟩, ⟨3, 463, 468, 35⟩, ⟨3, 471, 473, 36⟩, ⟨3, 412, 475, 37⟩, ⟨3, 7, 13, 1⟩, ⟨3, 27, 479, 2⟩, ⟨3, 421, 480, 3⟩, ⟨3, 14, 389, 27⟩, ⟨3, 15, 388, 27⟩, ⟨3, 485, 487, 28⟩, ⟨3, 482, 489, 29⟩, ⟨3, 483, 488, 29⟩, ⟨3, 491, 493, 30⟩, ⟨3, 483, 489, 29⟩, ⟨3, 429, 497, 30⟩, ⟨3, 16, 395, 27⟩, ⟨3, 17, 394, 27⟩, ⟨3, 501, 503, 28⟩, ⟨3, 498, 505, 31⟩, ⟨3, 499, 504, 31⟩, ⟨3, 507, 509, 32⟩, ⟨3, 499, 505, 31⟩, ⟨3, 441, 513, 32⟩, ⟨3, 18, 401, 27⟩, ⟨3, 19, 400, 27⟩, ⟨3, 517, 519, 28⟩, ⟨3, 514, 521, 33⟩, ⟨3, 515, 520, 33⟩, ⟨3, 523, 525, 34⟩, ⟨3, 515, 521, 33⟩, ⟨3, 453, 529, 34⟩, ⟨3, 20, 407, 27⟩, ⟨3, 21, 406, 27⟩, ⟨3, 533, 535, 28⟩, ⟨3, 530, 537, 35⟩, ⟨3, 531, 536, 35⟩, ⟨3, 539, 541, 36⟩, ⟨3, 531, 537, 35⟩, ⟨3, 465, 545, 36⟩, ⟨3, 412, 546, 37⟩, ⟨3, 413, 547, 37⟩, ⟨3, 549, 551, 38⟩, ⟨3, 477, 480, 38⟩, ⟨3, 6, 476, 38⟩, ⟨3, 555, 557, 39⟩, ⟨3, 477, 495, 38⟩, ⟨3, 389, 476, 38⟩, ⟨3, 561, 563, 39⟩, ⟨3, 477, 511, 38⟩, ⟨3, 395, 476, 38⟩, ⟨3, 567, 569, 39⟩, ⟨3, 477, 527, 38⟩, ⟨3, 401, 476, 38⟩, ⟨3, 573, 575, 39⟩, ⟨3, 477, 543, 38⟩, ⟨3, 407, 476, 38⟩, ⟨3, 579, 581, 39⟩, ⟨3, 477, 553, 39⟩, ⟨3, 413, 476, 38⟩, ⟨3, 585, 587, 40⟩]
def n5e : List Nd := [⟨3, 4, 13, 1⟩, ⟨3, 5, 12, 1⟩, ⟨3, 591, 593, 2⟩, ⟨3, 12, 595, 3⟩, ⟨3, 15, 559, 40⟩, ⟨3, 14, 558, 40⟩, ⟨3, 599, 601, 41⟩, ⟨3, 14, 603, 42⟩, ⟨3, 596, 602, 42⟩, ⟨3, 605, 607, 43⟩, ⟨3, 17, 565, 40⟩, ⟨3, 16, 564, 40⟩, ⟨3, 611, 613, 41⟩, ⟨3, 16, 615, 42⟩, ⟨3, 609, 614, 44⟩, ⟨3, 617, 619, 45⟩, ⟨3, 19, 571, 40⟩, ⟨3, 18, 570, 40⟩, ⟨3, 623, 625, 41⟩, ⟨3, 18, 627, 42⟩, ⟨3, 621, 626, 46⟩, ⟨3, 629, 631, 47⟩, ⟨3, 21, 577, 40⟩, ⟨3, 20, 576, 40⟩, ⟨3, 635, 637, 41⟩, ⟨3, 20, 639, 42⟩, ⟨3, 633, 638, 48⟩, ⟨3, 641, 643, 49⟩, ⟨3, 582, 645, 50⟩, ⟨3, 5, 13, 1⟩, ⟨3, 25, 649, 2⟩, ⟨3, 591, 650, 3⟩, ⟨3, 14, 559, 40⟩, ⟨3, 15, 558, 40⟩, ⟨3, 655, 657, 41⟩, ⟨3, 652, 659, 42⟩, ⟨3, 653, 658, 42⟩, ⟨3, 661, 663, 43⟩, ⟨3, 653, 659, 42⟩, ⟨3, 599, 667, 43⟩, ⟨3, 16, 565, 40⟩, ⟨3, 17, 564, 40⟩, ⟨3, 671, 673, 41⟩, ⟨3, 668, 675, 44⟩, ⟨3, 669, 674, 44⟩, ⟨3, 677, 679, 45⟩, ⟨3, 669, 675, 44⟩, ⟨3, 611, 683, 45⟩, ⟨3, 18, 571, 40⟩, ⟨3, 19, 570, 40⟩, ⟨3, 687, 689, 41⟩, ⟨3, 684, 691, 46⟩, ⟨3, 685, 690, 46⟩, ⟨3, 693, 695, 47⟩, ⟨3, 685, 691, 46⟩, ⟨3, 623, 699, 47⟩, ⟨3, 20, 577, 40⟩, ⟨3, 21, 576, 40⟩, ⟨3, 703, 705, 41⟩, ⟨3, 700, 707, 48⟩, ⟨3, 701, 706, 48⟩, ⟨3, 709, 711, 49⟩, ⟨3, 701, 707, 48⟩, ⟨3, 635, 715, 49⟩, ⟨3, 582, 716, 50⟩, ⟨3, 583, 717, 50⟩, ⟨3, 719, 721, 51⟩, ⟨3, 647, 650, 51⟩, ⟨3, 4, 646, 51⟩, ⟨3, 725, 727, 52⟩, ⟨3, 647, 665, 51⟩, ⟨3, 559, 646, 51⟩, ⟨3, 731, 733, 52⟩, ⟨3, 647, 681, 51⟩, ⟨3, 565, 646, 51⟩, ⟨3, 737, 739, 52⟩, ⟨3, 647, 697, 51⟩, ⟨3, 571, 646, 51⟩, ⟨3, 743, 745, 52⟩, ⟨3, 647, 713, 51⟩, ⟨3, 577, 646, 51⟩, ⟨3, 749, 751, 52⟩, ⟨3, 647, 723, 52⟩, ⟨3, 583, 646, 51⟩, ⟨3, 755, 757, 53⟩]
def n5f : List Nd := [⟨3, 2, 13, 1⟩, ⟨3, 3, 12, 1⟩, ⟨3, 761, 763, 2⟩, ⟨3, 12, 765, 3⟩, ⟨3, 15, 729, 53⟩, ⟨3, 14, 728, 53⟩, ⟨3, 769, 771, 54⟩, ⟨3, 14, 773, 55⟩, ⟨3, 766, 772, 55⟩, ⟨3, 775, 777, 56⟩, ⟨3, 17, 735, 53⟩, ⟨3, 16, 734, 53⟩, ⟨3, 781, 783, 54⟩, ⟨3, 16, 785, 55⟩, ⟨3, 779, 784, 57⟩, ⟨3, 787, 789, 58⟩, ⟨3, 19, 741, 53⟩, ⟨3, 18, 740, 53⟩, ⟨3, 793, 795, 54⟩, ⟨3, 18, 797, 55⟩, ⟨3, 791, 796, 59⟩, ⟨3, 799, 801, 60⟩, ⟨3, 21, 747, 53⟩, ⟨3, 20, 746, 53⟩, ⟨3, 805, 807, 54⟩, ⟨3, 20, 809, 55⟩, ⟨3, 803, 808, 61⟩, ⟨3, 811, 813, 62⟩, ⟨3, 752, 815, 63⟩, ⟨3, 3, 13, 1⟩, ⟨3, 23, 819, 2⟩, ⟨3, 761, 820, 3⟩, ⟨3, 14, 729, 53⟩, ⟨3, 15, 728, 53⟩, ⟨3, 825, 827, 54⟩, ⟨3, 822, 829, 55⟩, ⟨3, 823, 828, 55⟩, ⟨3, 831, 833, 56⟩, ⟨3, 823, 829, 55⟩, ⟨3, 769, 837, 56⟩, ⟨3, 16, 735, 53⟩, ⟨3, 17, 734, 53⟩, ⟨3, 841, 843, 54⟩, ⟨3, 838, 845, 57⟩, ⟨3, 839, 844, 57⟩, ⟨3, 847, 849, 58⟩, ⟨3, 839, 845, 57⟩, ⟨3, 781, 853, 58⟩, ⟨3, 18, 741, 53⟩, ⟨3, 19, 740, 53⟩, ⟨3, 857, 859, 54⟩, ⟨3, 854, 861, 59⟩, ⟨3, 855, 860, 59⟩, ⟨3, 863, 865, 60⟩, ⟨3, 855, 861, 59⟩, ⟨3, 793, 869, 60⟩, ⟨3, 20, 747, 53⟩, ⟨3, 21, 746, 53⟩, ⟨3, 873, 875, 54⟩, ⟨3, 870, 877, 61⟩, ⟨3, 871, 876, 61⟩, ⟨3, 879, 881, 62⟩, ⟨3, 871, 877, 61⟩, ⟨3, 805, 885, 62⟩, ⟨3, 752, 886, 63⟩, ⟨3, 753, 887, 63⟩, ⟨3, 889, 891, 64⟩, ⟨3, 817, 820, 64⟩, ⟨3, 2, 816, 64⟩, ⟨3, 895, 897, 65⟩, ⟨3, 817, 835, 64⟩, ⟨3, 729, 816, 64⟩, ⟨3, 901, 903, 65⟩, ⟨3, 817, 851, 64⟩, ⟨3, 735, 816, 64⟩, ⟨3, 907, 909, 65⟩, ⟨3, 817, 867, 64⟩, ⟨3, 741, 816, 64⟩, ⟨3, 913, 915, 65⟩, ⟨3, 817, 883, 64⟩, ⟨3, 747, 816, 64⟩, ⟨3, 919, 921, 65⟩, ⟨3, 817, 893, 65⟩, ⟨3, 753, 816, 64⟩, ⟨3, 925, 927, 66⟩]
def n5g : List Nd := [⟨3, 2, 4, 1⟩, ⟨3, 2, 6, 1⟩, ⟨3, 2, 8, 1⟩, ⟨3, 2, 10, 1⟩, ⟨3, 4, 6, 1⟩, ⟨3, 4, 8, 1⟩, ⟨3, 5, 932, 2⟩, ⟨3, 4, 933, 2⟩, ⟨3, 943, 945, 3⟩, ⟨3, 931, 947, 4⟩, ⟨3, 930, 946, 4⟩, ⟨3, 949, 951, 5⟩, ⟨3, 4, 932, 2⟩, ⟨3, 930, 947, 4⟩, ⟨3, 955, 957, 5⟩, ⟨3, 934, 939, 2⟩, ⟨3, 935, 938, 2⟩, ⟨3, 961, 963, 3⟩, ⟨3, 958, 965, 6⟩, ⟨3, 959, 964, 6⟩, ⟨3, 967, 969, 7⟩, ⟨3, 934, 938, 2⟩, ⟨3, 959, 965, 6⟩, ⟨3, 973, 975, 7⟩, ⟨3, 936, 941, 2⟩, ⟨3, 937, 940, 2⟩, ⟨3, 979, 981, 3⟩, ⟨3, 976, 983, 8⟩, ⟨3, 977, 982, 8⟩, ⟨3, 985, 987, 9⟩, ⟨3, 933, 953, 6⟩, ⟨3, 932, 952, 6⟩, ⟨3, 991, 993, 7⟩, ⟨3, 932, 953, 6⟩, ⟨3, 939, 971, 8⟩, ⟨3, 938, 970, 8⟩, ⟨3, 999, 1001, 9⟩, ⟨3, 997, 1003, 10⟩, ⟨3, 996, 1002, 10⟩, ⟨3, 1005, 1007, 11⟩, ⟨3, 938, 971, 8⟩, ⟨3, 996, 1003, 10⟩, ⟨3, 1011, 1013, 11⟩, ⟨3, 7, 989, 10⟩, ⟨3, 6, 988, 10⟩, ⟨3, 1017, 1019, 11⟩, ⟨3, 1014, 1021, 12⟩, ⟨3, 1015, 1020, 12⟩, ⟨3, 1023, 1025, 13⟩, ⟨3, 935, 1009, 12⟩, ⟨3, 934, 1008, 12⟩, ⟨3, 1029, 1031, 13⟩, ⟨3, 934, 1009, 12⟩, ⟨3, 941, 1027, 14⟩, ⟨3, 940, 1026, 14⟩, ⟨3, 1037, 1039, 15⟩, ⟨3, 1035, 1041, 16⟩, ⟨3, 1034, 1040, 16⟩, ⟨3, 1043, 1045, 17⟩, ⟨3, 937, 1047, 18⟩, ⟨3, 936, 1046, 18⟩, ⟨3, 1049, 1051, 19⟩]
def g5a : Gra := ⟨4000, n5a⟩
def g5b : Gra := ⟨4000, (n5a ++ n5b)⟩
def g5c : Gra := ⟨4000, ((n5a ++ n5b) ++ n5c)⟩
def g5d : Gra := ⟨4000, (((n5a ++ n5b) ++ n5c) ++ n5d)⟩
def g5e : Gra := ⟨4000, ((((n5a ++ n5b) ++ n5c) ++ n5d) ++ n5e)⟩
def g5f : Gra := ⟨4000, (((((n5a ++ n5b) ++ n5c) ++ n5d) ++ n5e) ++ n5f)⟩
def g5g : Gra := ⟨4000, ((((((n5a ++ n5b) ++ n5c) ++ n5d) ++ n5e) ++ n5f) ++ n5g)⟩
set_option maxRecDepth 100000 in
theorem m5_a : mulG (gIn 4000 10) (natInts (rIn 0 5)) (natInts (rIn 5 5)) = (g5a, [22, 45, 107, 149, 171], 0) := by decide +kernel
set_option maxRecDepth 100000 in
theorem m5_bB : (fG g5a fun G => decide (divS [12, 14, 16, 18, 20, 0] ((G, 0), [], [0, 0, 0, 0, 0, 0]) 10 = ((g5b, 0), [194], [239, 240, 242, 244, 246, 248]))) = true := by decide +kernel
theorem m5_b : divS [12, 14, 16, 18, 20, 0] ((g5a, 0), [], [0, 0, 0, 0, 0, 0]) 10 = ((g5b, 0), [194], [239, 240, 242, 244, 246, 248]) := by
  have h := m5_bB
  rw [fG_eq] at h
  exact of_decide_eq_true h
set_option maxRecDepth 100000 in
theorem m5_cB : (fG g5b fun G => decide (divS [12, 14, 16, 18, 20, 0] ((G, 0), [194], [239, 240, 242, 244, 246, 248]) 8 = ((g5c, 0), [194, 307], [389, 395, 401, 407, 413, 419]))) = true := by decide +kernel
theorem m5_c : divS [12, 14, 16, 18, 20, 0] ((g5b, 0), [194], [239, 240, 242, 244, 246, 248]) 8 = ((g5c, 0), [194, 307], [389, 395, 401, 407, 413, 419]) := by
  have h := m5_cB
  rw [fG_eq] at h
  exact of_decide_eq_true h
set_option maxRecDepth 100000 in
theorem m5_dB : (fG g5c fun G => decide (divS [12, 14, 16, 18, 20, 0] ((G, 0), [194, 307], [389, 395, 401, 407, 413, 419]) 6 = ((g5d, 0), [194, 307, 477], [559, 565, 571, 577, 583, 589]))) = true := by decide +kernel
theorem m5_d : divS [12, 14, 16, 18, 20, 0] ((g5c, 0), [194, 307], [389, 395, 401, 407, 413, 419]) 6 = ((g5d, 0), [194, 307, 477], [559, 565, 571, 577, 583, 589]) := by
  have h := m5_dB
  rw [fG_eq] at h
  exact of_decide_eq_true h
set_option maxRecDepth 100000 in
theorem m5_eB : (fG g5d fun G => decide (divS [12, 14, 16, 18, 20, 0] ((G, 0), [194, 307, 477], [559, 565, 571, 577, 583, 589]) 4 = ((g5e, 0), [194, 307, 477, 647], [729, 735, 741, 747, 753, 759]))) = true := by decide +kernel
theorem m5_e : divS [12, 14, 16, 18, 20, 0] ((g5d, 0), [194, 307, 477], [559, 565, 571, 577, 583, 589]) 4 = ((g5e, 0), [194, 307, 477, 647], [729, 735, 741, 747, 753, 759]) := by
  have h := m5_eB
  rw [fG_eq] at h
  exact of_decide_eq_true h
set_option maxRecDepth 100000 in
theorem m5_fB : (fG g5e fun G => decide (divS [12, 14, 16, 18, 20, 0] ((G, 0), [194, 307, 477, 647], [729, 735, 741, 747, 753, 759]) 2 = ((g5f, 0), [194, 307, 477, 647, 817], [899, 905, 911, 917, 923, 929]))) = true := by decide +kernel
theorem m5_f : divS [12, 14, 16, 18, 20, 0] ((g5e, 0), [194, 307, 477, 647], [729, 735, 741, 747, 753, 759]) 2 = ((g5f, 0), [194, 307, 477, 647, 817], [899, 905, 911, 917, 923, 929]) := by
  have h := m5_fB
  rw [fG_eq] at h
  exact of_decide_eq_true h
set_option maxRecDepth 100000 in
theorem m5_gB : (fG g5f fun G => decide (mulG G (natInts (rIn 0 5)) (natInts (rIn 0 5)) = (g5g, [2, 0, 995, 1033, 1053], 0))) = true := by decide +kernel
theorem m5_g : mulG g5f (natInts (rIn 0 5)) (natInts (rIn 0 5)) = (g5g, [2, 0, 995, 1033, 1053], 0) := by
  have h := m5_gB
  rw [fG_eq] at h
  exact of_decide_eq_true h
set_option maxRecDepth 100000 in
theorem m5_c0 : chk24 g5a [(natInts (rIn 0 5)), (natInts (rIn 5 5))] = 0 := by decide +kernel
theorem m5_both : bothG g5a (natInts (rIn 0 5)) (natInts (rIn 5 5)) = (g5f, ([817, 647, 477, 307, 194], [899, 905, 911, 917, 923]), 0) := by
  unfold bothG
  rw [if_neg (by rw [m5_c0]; simp), show nats (natInts (rIn 5 5)) ++ [0] = [12, 14, 16, 18, 20, 0] from rfl, show (nats (natInts (rIn 0 5))).reverse = [10, 8, 6, 4, 2] from rfl]
  unfold divF
  rw [show List.replicate ([12, 14, 16, 18, 20, 0] : List Nat).length 0 = [0, 0, 0, 0, 0, 0] from rfl]
  simp only [List.foldl_cons, List.foldl_nil, m5_b, m5_c, m5_d, m5_e, m5_f]
  rfl
set_option maxRecDepth 100000 in
theorem m5_pB : (fG g5g fun G => fNs (allV 10 G.nodes) fun V => isW4 5 V mulW [22, 45, 107, 149, 171]) = true := by decide +kernel
theorem m5_p : isW4 5 (allV (5 + 5) g5g.nodes) mulW [22, 45, 107, 149, 171] = true := by
  have h := m5_pB
  rw [fG_eq, fNs_eq] at h
  exact h
set_option maxRecDepth 100000 in
theorem m5_qB : (fG g5g fun G => fNs (allV 10 G.nodes) fun V => isW4 5 V quoW [817, 647, 477, 307, 194]) = true := by decide +kernel
theorem m5_q : isW4 5 (allV (5 + 5) g5g.nodes) quoW [817, 647, 477, 307, 194] = true := by
  have h := m5_qB
  rw [fG_eq, fNs_eq] at h
  exact h
set_option maxRecDepth 100000 in
theorem m5_rB : (fG g5g fun G => fNs (allV 10 G.nodes) fun V => isW4 5 V remW [899, 905, 911, 917, 923]) = true := by decide +kernel
theorem m5_r : isW4 5 (allV (5 + 5) g5g.nodes) remW [899, 905, 911, 917, 923] = true := by
  have h := m5_rB
  rw [fG_eq, fNs_eq] at h
  exact h
set_option maxRecDepth 100000 in
theorem m5_sB : (fG g5g fun G => fNs (allV 10 G.nodes) fun V => isW4 5 V sqrW [2, 0, 995, 1033, 1053]) = true := by decide +kernel
theorem m5_s : isW4 5 (allV (5 + 5) g5g.nodes) sqrW [2, 0, 995, 1033, 1053] = true := by
  have h := m5_sB
  rw [fG_eq, fNs_eq] at h
  exact h
set_option maxRecDepth 100000 in
theorem m5_w : ((inputs g5g.nodes).length == 5 + 5 && ([[22, 45, 107, 149, 171], [817, 647, 477, 307, 194], [899, 905, 911, 917, 923], [2, 0, 995, 1033, 1053]].all fun l => l.length == 5 && (l.all fun r => decide (r ≤ 1000000)) && !badIn g5g (natInts l))) = true := by decide +kernel
theorem isM_5 : isM 5 = true := by
  unfold isM
  rw [show (2 * 5 : Nat) = 10 from rfl, m5_a]
  simp only
  rw [m5_both]
  simp only
  rw [m5_g]
  simp only
  have h := m5_w
  rw [Bool.and_eq_true] at h
  rw [m5_p, m5_q, m5_r, m5_s, h.1, h.2]
  rfl
structure WdF (n : Nat) (G : Gra) (f : Nat → Nat → Nat → Nat) (l : List Nat) : Prop where
  len : l.length = n
  bd : ∀ r ∈ l, r ≤ 1000000
  reads : ∀ a b, a < 2 ^ n → b < 2 ^ n → ∃ B, Go.Proofs.YtkedpifopclipaaGreat.bitsR G (givenL n n a b) (natInts l) = (B, 0) ∧ B.length = n ∧ bitsVal B = appW f n a b
structure IsMF (n : Nat) (G1 G2 G3 : Gra) (P Q R S : List Nat) : Prop where
  p : mulG (gIn 4000 (2 * n)) (natInts (rIn 0 n)) (natInts (rIn n n)) = (G1, P, 0)
  q : bothG G1 (natInts (rIn 0 n)) (natInts (rIn n n)) = (G2, (Q, R), 0)
  s : mulG G2 (natInts (rIn 0 n)) (natInts (rIn 0 n)) = (G3, S, 0)
  pf : WdF n G3 mulW P
  qf : WdF n G3 quoW Q
  rf : WdF n G3 remW R
  sf : WdF n G3 sqrW S
theorem wd_f {n : Nat} {G : Gra} {f : Nat → Nat → Nat → Nat} {l : List Nat} (hi : (inputs G.nodes).length = n + n) (h1 : l.length = n) (h2 : ∀ r ∈ l, r ≤ 1000000) (h3 : badIn G (natInts l) = false) (hw : isW4 n (allV (n + n) G.nodes) f l = true) : WdF n G f l := by
  refine ⟨h1, h2, fun a b ha hb => ⟨_, bits_all ha hb h3 hi, by simp [h1], ?_⟩⟩
  have hk : 2 ^ n * b + a < 2 ^ (n + n) := by
    rw [Nat.pow_add]
    have := Nat.mul_le_mul_left (2 ^ n) (show b + 1 ≤ 2 ^ n from hb)
    rw [Nat.mul_add] at this
    omega
  unfold isW4 at hw
  have h := List.all_eq_true.1 hw _ (List.mem_range.2 hk)
  rw [Nat.mul_add_mod, Nat.mod_eq_of_lt ha, Nat.mul_add_div (Nat.two_pow_pos n), Nat.div_eq_of_lt ha, Nat.add_zero] at h
  exact beq_iff_eq.1 h
theorem ism_facts {n : Nat} (h1 : 1 ≤ n) (h5 : n ≤ 5) : ∃ G1 G2 G3 P Q R S, IsMF n G1 G2 G3 P Q R S := by
  have h : isM n = true := by
    rcases (by omega : n = 1 ∨ n = 2 ∨ n = 3 ∨ n = 4 ∨ n = 5) with rfl | rfl | rfl | rfl | rfl
    · exact isM_1
    · exact isM_2
    · exact isM_3
    · exact isM_4
    · exact isM_5
  unfold isM at h
  simp only at h
  generalize hA : mulG (gIn 4000 (2 * n)) (natInts (rIn 0 n)) (natInts (rIn n n)) = A at h
  obtain ⟨G1, P, e1⟩ := A
  simp only at h
  generalize hB : bothG G1 (natInts (rIn 0 n)) (natInts (rIn n n)) = B at h
  obtain ⟨G2, ⟨Q, R⟩, e2⟩ := B
  simp only at h
  generalize hC : mulG G2 (natInts (rIn 0 n)) (natInts (rIn 0 n)) = C at h
  obtain ⟨G3, S, e3⟩ := C
  simp only [Bool.and_eq_true, beq_iff_eq, List.all_cons, List.all_nil, Bool.not_eq_true', List.all_eq_true, decide_eq_true_eq, and_true] at h
  obtain ⟨⟨⟨⟨⟨⟨⟨⟨rfl, rfl⟩, rfl⟩, hi⟩, ⟨⟨p1, p2⟩, p3⟩, ⟨⟨q1, q2⟩, q3⟩, ⟨⟨r1, r2⟩, r3⟩, ⟨⟨s1, s2⟩, s3⟩⟩, wp⟩, wq⟩, wr⟩, ws⟩ := h
  exact ⟨G1, G2, G3, P, Q, R, S, hA, hB, hC, wd_f hi p1 p2 p3 wp, wd_f hi q1 q2 q3 wq, wd_f hi r1 r2 r3 wr, wd_f hi s1 s2 s3 ws⟩
end Go.Aig
namespace Go.Proofs.YtkedpifopclipaaGreat
open Go.RowKit Go.Mem Go.Aig
theorem infoU16l : (Tryz.prog.info? 35).map (fun i => (i.zero, i.size, i.bytes)) = some (some (.int .u16 0), 1, 2) := by kernel_rfl
theorem slU16l : SliceTy Tryz.prog 22 35 1 2 (.int .u16 0) := ⟨Tryz.underlying22, infoU16l, rfl, by decide⟩
theorem eqSliceNilH2 (w : World) (a : Option Addr) (n c : Nat) : (binOp .eql 22 (.slice a n c) (.slice none 0 0)).run Tryz.prog w = .ok (.bool a.isNone) w := by
  have h : Tryz.prog.underlying 22 = some (.slice 35) := Tryz.underlying22
  simp only [binOp]
  simp [run_equal_slice_nil w _ _ a n c h]
attribute [local go_sem] eqSliceNilH2
section
variable {w : World}
set_option maxRecDepth 100000 in
set_option maxHeartbeats 1000000 in
theorem CLu16l_is {a : Option Addr} {l : List Nat} (n c : Nat) (hn : l.length = n) (h : Sv w a (u16l l)) (hm : n ≤ 1000000) : Calls Tryz.prog 10 #[.slice a n c] w fun e w' => ∃ v, e = .returned v ∧ row w' 35 1 v n (u16l l) ∧ (∀ q ∈ v.ownBlock.toList, w.heap.size ≤ q) ∧ Ch [] w w' := by
  subst hn
  cases a with
  | none =>
    have hl : l = [] := by
      cases l with
      | nil => rfl
      | cons y l =>
        obtain ⟨b, o, e, _⟩ := h.cells 0 (.int .u16 y) rfl
        cases e
    subst hl
    clear h
    go_enter Tryz.func10, Tryz.ntmps10
    go_wp2_with fail
    go_ret
    exact ⟨_, rfl, ⟨rfl, .inl ⟨rfl, rfl⟩⟩, by simp, Ch.refl _ _⟩
  | some p =>
    have hO : row (w.alloc (.cells #[] 35)) 35 1 (.slice (some ⟨w.heap.size, 0, none⟩) 0 0) 0 [] := ⟨rfl, .inr ⟨w.heap.size, 0, #[], rfl, by omega, heap_alloc_new w _, by omega, by unfold maxLen; omega, rfl, rfl⟩⟩
    have hN : ∀ j u, (u16l l)[j]? = some u → (w.alloc (.cells #[] 35)).cell? (p.add j) = some u := fun j u hu => by
      obtain ⟨b, o, e, hc⟩ := h.cells j u hu
      cases e
      rw [Addr.add_lit]
      exact (((Ch.refl [] w).alloc _).cell (cell_lt hc) (by simp)).trans hc
    have h1 : ∀ u ∈ u16l l, u.oneCell' = true := fun u hu => by
      obtain ⟨r, _, rfl⟩ := List.mem_map.1 hu
      rfl
    have HO := Lib.hid hO; clear hO
    have HN := Lib.hid hN; clear hN h
    have H1 := Lib.hid h1; clear h1
    go_enter Tryz.func10, Tryz.ntmps10
    go_wp2_with (at_builtin; go_loud (refine wpList_append_row slU16l rfl _ _ rfl (v := .slice (some ⟨w.heap.size, 0, none⟩) 0 0) (n := 0) (xs := []) rfl HO.out (ad := p) (m := l.length) (c := c) (news := u16l l) rfl (by simp [u16l]) HN.out H1.out (by omega) (by omega) ?_; intro v' w2 hown hC2 hfresh; have HOWN := Lib.hid hown; clear hown; have HC2 := Lib.hid hC2; clear hC2; have HFR := Lib.hid hfresh; clear hfresh))
    go_ret
    have hown := HOWN.out
    rw [Nat.zero_add, List.nil_append] at hown
    refine ⟨_, rfl, hown, fun k hk => ?_, (((Ch.refl [] w).alloc (.cells #[] 35))).trans HC2.out (by simp)⟩
    rcases HFR.out k (by simpa using hk) with e | e
    · simp at e; omega
    · simp at e; omega

end
end Go.Proofs.YtkedpifopclipaaGreat
namespace Go.Proofs.YtkedpifopclipaaGreat
open Go.RowKit Go.Mem Go.Aig
theorem u16l_two (L : List Nat) (x y : Nat) : u16l L ++ [.int .u16 x, .int .u16 y] = u16l (L ++ [x, y]) := by simp [u16l]
set_option maxRecDepth 100000 in
set_option maxHeartbeats 16000000 in
theorem MuldivIs_walk {w : World} (wd : Nat) (hw : wd ≤ 255) {xa : Option Addr} {m xc : Nat} {l : List Nat} (hX : NumS .u16 16 w xa m xc l) :
    Calls Tryz.prog 3 #[.int .u8 wd, .slice xa m xc] w fun e w' => e = .returned (.bool true) ∧ Ch [] w w' := by
  have hlen := hX.len
  have hle := hX.le
  have hmxc := hX.max
  have hP := fun W => Pair_is W wd hw
  obtain ⟨n, hn⟩ : ∃ n, n = wd % 5 + 1 := ⟨_, rfl⟩
  rw [← hn] at hP
  have hn1 : 1 ≤ n := by omega
  have hn5 : n ≤ 5 := by omega
  clear hn
  obtain ⟨G1, G2, G3, P, Q, R, S, hF⟩ := ism_facts hn1 hn5
  obtain ⟨D, hD⟩ : ∃ D, 2 ^ n = D := ⟨_, rfl⟩
  have hD5 : D ≤ 32 := by
    have : (2 : Nat) ^ n ≤ 2 ^ 5 := Nat.pow_le_pow_right (by omega) (by omega)
    omega
  have hD1 : 1 ≤ D := by rw [← hD]; exact Nat.one_le_two_pow
  have hwD : wrap64 ((2 : Int) ^ n) = ((D : Nat) : Int) := by
    have : ((2 : Int) ^ n) = ((2 ^ n : Nat) : Int) := by simp
    rw [this, hD]
    exact IntWalk.wrap64_in _ (by omega)
  obtain ⟨M, hM, hM8, hMm⟩ : ∃ M, min m 20 = M ∧ M ≤ 20 ∧ M ≤ m := ⟨_, rfl, by omega, by omega⟩
  have hmin : ∀ ats ty, Builtin.min_ ats ty #[.int .i64 (m : Int), .int .i64 20] = pure (.int .i64 (M : Int)) := fun ats ty => by
    have e : (if (20 : Int) < m then 20 else (m : Int)) = M := by split <;> omega
    rw [← e]
    simp [Builtin.min_, Builtin.min2]
  have hLn : (l.take M).length = M := by rw [List.length_take, hlen]; omega
  have hLb : ∀ z ∈ l.take M, z < 65536 := fun z hz => hX.bd z (List.mem_of_mem_take hz)
  have hLs : Sv w xa (u16l (l.take M)) := by
    refine ⟨fun i x hx => ?_, by simp [u16l]; omega⟩
    refine hX.sv.cells i x ?_
    unfold u16l at hx
    rw [List.getElem?_map] at hx ⊢
    rw [List.getElem?_take] at hx
    split at hx
    · exact hx
    · cases hx
  generalize l.take M = L0 at *
  have HP := Lib.hid hP; clear hP
  have HF := Lib.hid hF; clear hF
  have HWD := Lib.hid hwD
  have HD := Lib.hid hD; clear hD
  have HLN := Lib.hid hLn; clear hLn
  have HLB := Lib.hid hLb; clear hLb
  have HLS := Lib.hid hLs; clear hLs
  clear hM hX hlen hwD
  have HA := Lib.hid (fun W => awake24_is W)
  go_enter Tryz.func3, Tryz.ntmps3
  go_wp2_with fail
  refine (HA.out _).mono ?_
  rintro e w1 ⟨rfl, hc1⟩
  have HC1 := Lib.hid hc1; clear hc1 HA
  go_wp2_with fail
  refine (HP.out _).mono ?_
  rintro e w2 ⟨g, F2, ya, yc, za, zc, rfl, ho⟩
  have HO := Lib.hid ho; clear ho HP
  go_wp2_with fail
  refine (mdMul_h HO.out (xa := ya) (xc := yc) (n := n) (xl := natInts (rIn 0 n)) (by simp) (by simp) (ya := za) (yc := zc) (m := n) (yl := natInts (rIn n n)) (by simp) (by simp) HF.out.p HF.out.pf.len HF.out.pf.bd (by omega)).mono ?_
  rintro e w3 ⟨pa, pc, F3, rfl, ho⟩
  clear HO; have HO := Lib.hid ho; clear ho
  go_wp2_with fail
  refine (mdBoth_h HO.out (xa := ya) (xc := yc) (n := n) (xl := natInts (rIn 0 n)) (by simp) (by simp) (ya := za) (yc := zc) (m := n) (yl := natInts (rIn n n)) (by simp) (by simp) HF.out.q HF.out.qf.len HF.out.rf.len HF.out.qf.bd HF.out.rf.bd (by omega) (by omega)).mono ?_
  rintro e w4 ⟨qa, qc, ra, rc, F4, rfl, ho⟩
  clear HO; have HO := Lib.hid ho; clear ho
  go_wp2_with fail
  refine (mdSquare_h HO.out (xa := ya) (xc := yc) (n := n) (xl := natInts (rIn 0 n)) (by simp) (by simp) HF.out.s HF.out.sf.len HF.out.sf.bd (by omega)).mono ?_
  rintro e w5 ⟨ta, tc, F5, rfl, ho⟩
  clear HO; have HO := Lib.hid ho; clear ho
  have HLS5 := Lib.hid (HLS.out.ch (HC1.out.trans HO.out.own.ch (by simp)) (by simp)); clear HLS
  have hcl := CLu16l_is (w := w5) (a := xa) (l := L0) M xc HLN.out HLS5.out (by omega)
  have HCL := Lib.hid hcl; clear hcl
  go_wp2_with fail
  clear hmin
  refine HCL.out.mono ?_
  rintro e w6 ⟨v, rfl, hrow, hvv, hc6⟩
  obtain ⟨ca, cc, rfl⟩ := row.shape hrow
  have HROW0 := Lib.hid hrow; clear hrow
  have HVV0 := Lib.hid hvv; clear hvv
  have HC6 := Lib.hid hc6; clear hc6
  clear HCL HLS5
  have hwD : ∀ [Nonempty Unit], wrap64 ((2 : Int) ^ n) = ((D : Nat) : Int) := HWD.out
  go_wp2_with fail
  rw [HWD.out]
  go_loopw [16, 78] (fun t i wr => ∃ (s kk : Nat) (sa : Option Addr) (sc : Nat) (LV : List Nat), s ≤ D ∧ i = .int .i64 s ∧ t = .slice sa kk sc ∧ LV.length = kk ∧ kk ≤ 20 + 4 * s ∧ (∀ z ∈ LV, z < 65536) ∧ row wr 35 1 (.slice sa kk sc) kk (u16l LV) ∧ (∀ q ∈ (Value.slice sa kk sc).ownBlock.toList, w5.heap.size ≤ q) ∧ Ch [] w5 wr) (fun _ i _ => D - (intOf i).toNat)
  case atStart => exact ⟨0, M, ca, cc, L0, by omega, rfl, rfl, HLN.out, by omega, HLB.out, HROW0.out, HVV0.out, HC6.out⟩
  case round =>
    obtain ⟨s, kk, sa, sc, LV, hs, rfl, rfl, hl1, hK, hb1, hr1, ho1, hc1⟩ := hrel
    by_cases hlt : s < D
    · have HL1 := Lib.hid hl1; clear hl1
      have HB1 := Lib.hid hb1; clear hb1
      have HR1 := Lib.hid hr1; clear hr1
      have HO1 := Lib.hid ho1; clear ho1
      have HC1' := Lib.hid hc1; clear hc1
      have eD : ((s + D : Nat) : Int) = (s : Int) + D := by omega
      have hcA : Ch [] wr (wr.alloc (.cells #[.int .u16 s, .int .u16 ((s : Int) + D)] 35)) := (Ch.refl _ _).alloc _
      have hbA : blk (wr.alloc (.cells #[.int .u16 s, .int .u16 ((s : Int) + D)] 35)) wr.heap.size [.int .u16 (s : Nat), .int .u16 (s + D : Nat)] := by rw [eD]; exact blk.new' _ _ rfl
      have hrA := HR1.out.ch hcA (by simp)
      have HRA := Lib.hid hrA; clear hrA HR1
      have HBA := Lib.hid hbA; clear hbA
      have hcc := HC1'.out.trans hcA (by simp)
      have HCB := Lib.hid hcc; clear hcc hcA HC1' eD
      by_cases hn3 : n < 3
      · have d3 : decide ((n : Int) < 3) = true := decide_eq_true (by omega)
        go_wp2_with (at_builtin; go_loud (refine wpList_append_row slU16l rfl _ _ rfl (v := .slice sa kk sc) (n := kk) (xs := u16l LV) rfl HRA.out (ad := ⟨wr.heap.size, 0, none⟩) (m := 2) (c := 2) (news := [.int .u16 (s : Nat), .int .u16 (s + D : Nat)]) rfl rfl (news_blk HBA.out) (by simp [Value.oneCell']) (by omega) (by omega) ?_; intro v' w7 hown4 hC4 hf4; obtain ⟨da, dc, rfl⟩ := row.shape hown4; have HO4 := Lib.hid hown4; clear hown4; have HCC4 := Lib.hid hC4; clear hC4; have HF4 := Lib.hid hf4; clear hf4))
        obtain ⟨D2, hD2⟩ : ∃ D2, D2 = 2 * D := ⟨_, rfl⟩
        obtain ⟨D3, hD3⟩ : ∃ D3, D3 = 3 * D := ⟨_, rfl⟩
        have hpw : ((2 : Int) ^ n) = (D : Int) := by rw [← HD.out]; simp
        have hw2 : ∀ [Nonempty Unit], wrap64 (2 * (2 : Int) ^ n) = ((D2 : Nat) : Int) := by
          rw [hpw, hD2]
          exact IntWalk.wrap64_in _ (by omega)
        have hw3 : ∀ [Nonempty Unit], wrap64 (3 * (2 : Int) ^ n) = ((D3 : Nat) : Int) := by
          rw [hpw, hD3]
          exact IntWalk.wrap64_in _ (by omega)
        have eD : ((s + D2 : Nat) : Int) = (s : Int) + D2 := by omega
        have eD3 : ((s + D3 : Nat) : Int) = (s : Int) + D3 := by omega
        have hcA : Ch [] w7 (w7.alloc (.cells #[.int .u16 ((s : Int) + D2), .int .u16 ((s : Int) + D3)] 35)).drew := ((Ch.refl _ _).alloc _).drew
        have hbA : blk (w7.alloc (.cells #[.int .u16 ((s : Int) + D2), .int .u16 ((s : Int) + D3)] 35)).drew w7.heap.size [.int .u16 (s + D2 : Nat), .int .u16 (s + D3 : Nat)] := by rw [eD, eD3]; exact (blk.new' _ _ rfl).ch (Ch.refl [] _).drew (by simp)
        have hrA := HO4.out.ch hcA (by simp)
        rw [u16l_two] at hrA
        have HRB := Lib.hid hrA; clear hrA
        have HBB := Lib.hid hbA; clear hbA
        have HF45 := Lib.hid (fun q (hq : q ∈ (Value.slice da (kk + 2) dc).ownBlock.toList) => show w5.heap.size ≤ q from by
          rcases HF4.out q (by simpa using hq) with e | e
          · exact HO1.out q (by simpa using e)
          · exact Nat.le_trans HCB.out.size e)
        have hcc := (HCB.out.trans HCC4.out (fun q hq => .inr (HO1.out q hq))).trans hcA (by simp)
        have HCE := Lib.hid hcc; clear hcc hcA eD eD3 hpw
        have hb2 : D2 ≤ 64 := by omega
        have hb3 : D3 ≤ 96 := by omega
        have HD2 := Lib.hid hD2; clear hD2
        have HD3 := Lib.hid hD3; clear hD3
        clear hwD
        refine Ord.St.door (fun _ => True) [.fl, .fl, .fl, .fl, .fl, .fl, .fl, .fl, .fl, .fl, .fl, .ef, .ef, .fl] [0, 0, 0, 4, 14, 30, 0, 0, 128, 448, 960, 2046, 4095, 8191] [0, 1, 2, 3, 4, 5, 6, 7, 8, 9, 10, 11, 12, 13] mixed (by kernel_rfl) rfl ?_
        refine Ord.St.fl2 (T' := ?_) 0 [1, 2, 3, 4, 5, 6, 7, 8, 9, 10, 11, 12, 13] _ _ rfl (by kernel_rfl) rfl rfl rfl rfl (fun K w' hk => ?_) ?_
        rotate_left
        · go_step; exact hk
        refine Ord.St.fl2 (T' := ?_) 1 [2, 3, 4, 5, 6, 7, 8, 9, 10, 11, 12, 13] _ _ rfl (by kernel_rfl) rfl rfl rfl rfl (fun K w' hk => ?_) ?_
        rotate_left
        · go_step; exact hk
        refine Ord.St.fl2 (T' := ?_) 2 [3, 4, 5, 6, 7, 8, 9, 10, 11, 12, 13] _ _ rfl (by kernel_rfl) rfl rfl rfl rfl (fun K w' hk => ?_) ?_
        rotate_left
        · go_step; exact hk
        refine Ord.St.fl2 (T' := ?_) 3 [4, 5, 6, 7, 8, 9, 10, 11, 12, 13] _ _ rfl (by kernel_rfl) rfl rfl rfl rfl (fun K w' hk => ?_) ?_
        rotate_left
        · go_step; exact hk
        refine Ord.St.fl2 (T' := ?_) 4 [5, 6, 7, 8, 9, 10, 11, 12, 13] _ _ rfl (by kernel_rfl) rfl rfl rfl rfl (fun K w' hk => ?_) ?_
        rotate_left
        · go_step; exact hk
        refine Ord.St.fl2 (T' := ?_) 5 [6, 7, 8, 9, 10, 11, 12, 13] _ _ rfl (by kernel_rfl) rfl rfl rfl rfl (fun K w' hk => ?_) ?_
        rotate_left
        · go_step; exact hk
        refine Ord.St.fl2 (T' := ?_) 6 [7, 8, 9, 10, 11, 12, 13] _ _ rfl (by kernel_rfl) rfl rfl rfl rfl (fun K w' hk => ?_) ?_
        rotate_left
        · go_step; exact hk
        refine Ord.St.fl2 (T' := ?_) 7 [8, 9, 10, 11, 12, 13] _ _ rfl (by kernel_rfl) rfl rfl rfl rfl (fun K w' hk => ?_) ?_
        rotate_left
        · go_step; exact hk
        refine Ord.St.fl2 (T' := ?_) 8 [9, 10, 11, 12, 13] _ _ rfl (by kernel_rfl) rfl rfl rfl rfl (fun K w' hk => ?_) ?_
        rotate_left
        · go_step; exact hk
        refine Ord.St.fl2 (T' := ?_) 9 [10, 11, 12, 13] _ _ rfl (by kernel_rfl) rfl rfl rfl rfl (fun K w' hk => ?_) ?_
        rotate_left
        · go_step; exact hk
        refine Ord.St.fl2 (T' := ?_) 10 [11, 12, 13] _ _ rfl (by kernel_rfl) rfl rfl rfl rfl (fun K w' hk => ?_) ?_
        rotate_left
        · go_step; exact hk
        refine Ord.St.ef 11 [12, 13] _ rfl (by kernel_rfl) (fun K hK => ?_)
        go_wp2_with fail
        refine ⟨rfl, hK _ _ ?_⟩; clear hK K
        refine Ord.St.ef 12 [13] _ rfl (by kernel_rfl) (fun K hK => ?_)
        go_wp2_with (at_builtin; go_loud (refine wpList_append_row slU16l rfl _ _ rfl (v := .slice da (kk + 2) dc) (n := (kk + 2)) (xs := u16l (LV ++ [s, s + D])) rfl HRB.out (ad := ⟨w7.heap.size, 0, none⟩) (m := 2) (c := 2) (news := [.int .u16 (s + D2 : Nat), .int .u16 (s + D3 : Nat)]) rfl rfl (news_blk HBB.out) (by simp [Value.oneCell']) (by omega) (by omega) ?_; intro v' w8 hown4 hC4 hf4; obtain ⟨ea, ec, rfl⟩ := row.shape hown4; have HO5 := Lib.hid hown4; clear hown4; have HCC5 := Lib.hid hC4; clear hC4; have HF5 := Lib.hid hf4; clear hf4))
        refine ⟨rfl, hK _ _ ?_⟩; clear hK K
        refine Ord.St.fl2 (T' := ?_) 13 [] _ _ rfl (by kernel_rfl) rfl rfl rfl rfl (fun K w' hk => ?_) ?_
        rotate_left
        · go_step; exact hk
        refine Ord.St.nil ?_
        go_wp2_with fail
        go_roundw
        case rel =>
          have hrow := HO5.out
          rw [u16l_two] at hrow
          refine ⟨s + 1, kk + 2 + 2, ea, ec, LV ++ [s, s + D] ++ [s + D2, s + D3], by omega, by go_num, rfl, by rw [List.length_append, List.length_append, HL1.out]; rfl, by omega, fun z hz => ?_, hrow, fun q hq => ?_, HCE.out.trans HCC5.out (fun q hq => .inr (HF45.out q hq))⟩
          · rcases List.mem_append.1 hz with hz | hz
            · rcases List.mem_append.1 hz with hz | hz
              · exact HB1.out z hz
              · simp at hz; omega
            · simp at hz; omega
          · rcases HF5.out q (by simpa using hq) with e | e
            · exact HF45.out q (by simpa using e)
            · exact Nat.le_trans HCE.out.size e
        case measure => simp [intOf]; omega
      · have d3 : decide ((n : Int) < 3) = false := decide_eq_false (by omega)
        go_wp2_with (at_builtin; go_loud (refine wpList_append_row slU16l rfl _ _ rfl (v := .slice sa kk sc) (n := kk) (xs := u16l LV) rfl HRA.out (ad := ⟨wr.heap.size, 0, none⟩) (m := 2) (c := 2) (news := [.int .u16 (s : Nat), .int .u16 (s + D : Nat)]) rfl rfl (news_blk HBA.out) (by simp [Value.oneCell']) (by omega) (by omega) ?_; intro v' w7 hown4 hC4 hf4; obtain ⟨da, dc, rfl⟩ := row.shape hown4; have HO4 := Lib.hid hown4; clear hown4; have HCC4 := Lib.hid hC4; clear hC4; have HF4 := Lib.hid hf4; clear hf4))
        go_roundw
        case rel =>
          have hrow := HO4.out
          rw [u16l_two] at hrow
          refine ⟨s + 1, kk + 2, da, dc, LV ++ [s, s + D], by omega, by go_num, rfl, by rw [List.length_append, HL1.out]; rfl, by omega, fun z hz => ?_, hrow, fun q hq => ?_, HCB.out.trans HCC4.out (fun q hq => .inr (HO1.out q hq))⟩
          · rcases List.mem_append.1 hz with hz | hz
            · exact HB1.out z hz
            · simp at hz; omega
          · rcases HF4.out q (by simpa using hq) with e | e
            · exact HO1.out q (by simpa using e)
            · exact Nat.le_trans HCB.out.size e
        case measure => simp [intOf]; omega
    · obtain ⟨wc, hwc⟩ : ∃ X : World, X = wr := ⟨_, rfl⟩
      rw [← hwc] at hr1 hc1 ⊢
      have hkk : kk ≤ 148 := by omega
      clear hwc ho1
      have hsv : Sv wc sa (u16l LV) := row.sv hr1 rfl (by omega)
      have ho := HO.out.same hc1
      clear HO HROW0 HVV0 HC6 hr1 hc1 hK HLN HLB
      have HO := Lib.hid ho; clear ho
      have HSV := Lib.hid hsv; clear hsv
      have HLV := Lib.hid hl1; clear hl1
      have HLVB := Lib.hid hb1; clear hb1
      clear hwD
      go_wp2_with fail
      clear hs hlt
      go_loopw [109] (fun i wr => ∃ x : Nat, x ≤ kk ∧ i = .int .i64 x ∧ Ch [] wc wr) (fun i _ => kk - (intOf i).toNat)
      case atStart => exact ⟨0, by omega, rfl, Ch.refl _ _⟩
      case round =>
        obtain ⟨x, hx, rfl, hc⟩ := hrel
        obtain ⟨wo, hwo⟩ : ∃ wo, wo = wr := ⟨_, rfl⟩
        subst hwo
        by_cases hlt : x < kk
        · obtain ⟨z, hz⟩ : ∃ z, LV[x]? = some z := ⟨_, List.getElem?_eq_getElem (by rw [HLV.out]; exact hlt)⟩
          have hzb := HLVB.out z (List.mem_of_getElem? hz)
          obtain ⟨b1, o1, rfl, c0⟩ := (HSV.out.ch hc (by simp)).cells x (.int .u16 z) (u16l_get hz)
          have hDne : ¬ D = 0 := by omega
          obtain ⟨A, hA⟩ : ∃ A, z % D = A := ⟨_, rfl⟩
          obtain ⟨Z, hZ⟩ : ∃ Z, z / 2 ^ n = Z := ⟨_, rfl⟩
          obtain ⟨B, hB⟩ : ∃ B, Z % D = B := ⟨_, rfl⟩
          have hAD : A < D := by rw [← hA]; exact Nat.mod_lt _ (by omega)
          have hBD : B < D := by rw [← hB]; exact Nat.mod_lt _ (by omega)
          have hZb : Z ≤ z := by rw [← hZ]; exact Nat.div_le_self _ _
          have eA : (z : Int) % (D : Int) = (A : Int) := by rw [← hA]; simp
          have eZ : ∀ [Nonempty Unit], (z : Int) / 2 ^ n = (Z : Int) := by rw [← hZ]; simp
          have eB : (Z : Int) % (D : Int) = (B : Int) := by rw [← hB]; simp
          have hwD : ∀ [Nonempty Unit], wrap64 ((2 : Int) ^ n) = ((D : Nat) : Int) := HWD.out
          have HC := Lib.hid hc; clear hc hz hA hB hZ
          go_wp2_with fail
          refine Ord.St.door (fun _ => True) [.fl, .fl, .fl, .fl, .fl, .fl, .fl, .fl, .fl, .fl, .fl, .fl, .fl, .fl] [0, 1, 0, 4, 15, 0, 32, 0, 224, 0, 512, 2016, 31, 8191] [0, 1, 2, 3, 4, 5, 6, 7, 8, 9, 10, 11, 12, 13] mixed (by kernel_rfl) rfl ?_
          refine Ord.St.fl2 (T' := ?_) 0 [1, 2, 3, 4, 5, 6, 7, 8, 9, 10, 11, 12, 13] _ _ rfl (by kernel_rfl) rfl rfl rfl rfl (fun K w' hk => ?_) ?_
          rotate_left
          · go_step; exact hk
          refine Ord.St.fl2 (T' := ?_) 1 [2, 3, 4, 5, 6, 7, 8, 9, 10, 11, 12, 13] _ _ rfl (by kernel_rfl) rfl rfl rfl rfl (fun K w' hk => ?_) ?_
          rotate_left
          · go_step; exact hk
          refine Ord.St.fl2 (T' := ?_) 2 [3, 4, 5, 6, 7, 8, 9, 10, 11, 12, 13] _ _ rfl (by kernel_rfl) rfl rfl rfl rfl (fun K w' hk => ?_) ?_
          rotate_left
          · go_step; exact hk
          refine Ord.St.fl2 (T' := ?_) 3 [4, 5, 6, 7, 8, 9, 10, 11, 12, 13] _ _ rfl (by kernel_rfl) rfl rfl rfl rfl (fun K w' hk => ?_) ?_
          rotate_left
          · go_step; exact hk
          refine Ord.St.fl2 (T' := ?_) 4 [5, 6, 7, 8, 9, 10, 11, 12, 13] _ _ rfl (by kernel_rfl) rfl rfl rfl rfl (fun K w' hk => ?_) ?_
          rotate_left
          · go_step; exact hk
          refine Ord.St.fl2 (T' := ?_) 5 [6, 7, 8, 9, 10, 11, 12, 13] _ _ rfl (by kernel_rfl) rfl rfl rfl rfl (fun K w' hk => ?_) ?_
          rotate_left
          · go_step; exact hk
          refine Ord.St.fl2 (T' := ?_) 6 [7, 8, 9, 10, 11, 12, 13] _ _ rfl (by kernel_rfl) rfl rfl rfl rfl (fun K w' hk => ?_) ?_
          rotate_left
          · go_step; exact hk
          refine Ord.St.fl2 (T' := ?_) 7 [8, 9, 10, 11, 12, 13] _ _ rfl (by kernel_rfl) rfl rfl rfl rfl (fun K w' hk => ?_) ?_
          rotate_left
          · go_step; exact hk
          refine Ord.St.fl2 (T' := ?_) 8 [9, 10, 11, 12, 13] _ _ rfl (by kernel_rfl) rfl rfl rfl rfl (fun K w' hk => ?_) ?_
          rotate_left
          · go_step; exact hk
          refine Ord.St.fl2 (T' := ?_) 9 [10, 11, 12, 13] _ _ rfl (by kernel_rfl) rfl rfl rfl rfl (fun K w' hk => ?_) ?_
          rotate_left
          · go_step; exact hk
          refine Ord.St.fl2 (T' := ?_) 10 [11, 12, 13] _ _ rfl (by kernel_rfl) rfl rfl rfl rfl (fun K w' hk => ?_) ?_
          rotate_left
          · go_step; exact hk
          refine Ord.St.fl2 (T' := ?_) 11 [12, 13] _ _ rfl (by kernel_rfl) rfl rfl rfl rfl (fun K w' hk => ?_) ?_
          rotate_left
          · go_step; exact hk
          refine Ord.St.fl2 (T' := ?_) 12 [13] _ _ rfl (by kernel_rfl) rfl rfl rfl rfl (fun K w' hk => ?_) ?_
          rotate_left
          · go_step; exact hk
          refine Ord.St.fl2 (T' := ?_) 13 [] _ _ rfl (by kernel_rfl) rfl rfl rfl rfl (fun K w' hk => ?_) ?_
          rotate_left
          · go_step; exact hk
          refine Ord.St.nil ?_
          clear c0 eZ hwD
          rw [eA, eB, HWD.out]
          clear eA eB
          have hgv := Given_is (w := wo.drew) n A B (by omega) (by omega) (by omega)
          go_wp2_with fail
          refine hgv.mono ?_
          rintro e w7 ⟨v, rfl, hrow, _, hc7⟩
          obtain ⟨ga, gc, rfl⟩ := row.shape hrow
          have hgl := givenL_len n n A B
          have hsb : Sb w7 ga (givenL n n A B) := row.sv hrow rfl (by omega)
          have hcc := (HC.out.drew).trans hc7 (by simp)
          have HSB := Lib.hid hsb
          clear hgv hrow hc7 HC hsb
          go_wp2_with fail
          have hsb := HSB.out.ch ((Ch.refl [] w7).alloc (.cells #[.slice pa n pc, .slice qa n qc, .slice ra n rc, .slice ta n tc] 25)) (by simp)
          have hcd := hcc.trans ((Ch.refl [] w7).alloc (.cells #[.slice pa n pc, .slice qa n qc, .slice ra n rc, .slice ta n tc] 25)) (by simp)
          have hbw : blk (w7.alloc (.cells #[.slice pa n pc, .slice qa n qc, .slice ra n rc, .slice ta n tc] 25)) w7.heap.size [.slice pa n pc, .slice qa n qc, .slice ra n rc, .slice ta n tc] := blk.new' _ _ rfl
          generalize w7.alloc (.cells #[.slice pa n pc, .slice qa n qc, .slice ra n rc, .slice ta n tc] 25) = w8 at hsb hcd hbw ⊢
          generalize w7.heap.size = wb at hbw ⊢
          clear HSB hcc
          have HSB := Lib.hid hsb; clear hsb
          have HC8 := Lib.hid hcd; clear hcd
          have HBW := Lib.hid hbw; clear hbw
          go_loopw [135] (fun i wr => ∃ k : Nat, k ≤ 4 ∧ i = .int .i64 k ∧ Ch [] w8 wr) (fun i _ => 4 - (intOf i).toNat)
          case atStart => exact ⟨0, by omega, rfl, Ch.refl _ _⟩
          case round =>
            obtain ⟨k, hk, rfl, hc⟩ := hrel
            by_cases hk4 : k < 4
            · have hh := HO.out.same (HC8.out.trans hc (by simp))
              obtain ⟨a1, c1, lk, Bs, op, ot, hv1, hm1, hop, hll, hr1, hBl, hot, hap⟩ : ∃ a1 c1 lk Bs op ot, [Value.slice pa n pc, .slice qa n qc, .slice ra n rc, .slice ta n tc][k]? = some (.slice a1 n c1) ∧ WVin wr F5 ⟨a1, natInts lk, c1⟩ ∧ [Value.int .u8 5, .int .u8 6, .int .u8 7, .int .u8 5][k]? = some (.int .u8 op) ∧ lk.length = n ∧ bitsR G3 (givenL n n A B) (natInts lk) = (Bs, 0) ∧ Bs.length = n ∧ ot = (if k = 3 then A else B) ∧
                  ∀ W, Calls Tryz.prog 13 #[.int .u8 op, .int .i64 n, .int .u32 A, .int .u32 ot] W fun e w' => e = .returned (.tuple #[.int .u32 (bitsVal Bs : Nat), .int .i64 0]) ∧ Ch [] W w' := by
                have hA2 : A < 2 ^ n := by rw [HD.out]; exact hAD
                have hB2 : B < 2 ^ n := by rw [HD.out]; exact hBD
                obtain ⟨B1, p1, p2, p3⟩ := HF.out.pf.reads A B hA2 hB2
                obtain ⟨B2, q1, q2, q3⟩ := HF.out.qf.reads A B hA2 hB2
                obtain ⟨B3, r1, r2, r3⟩ := HF.out.rf.reads A B hA2 hB2
                obtain ⟨B4, s1, s2, s3⟩ := HF.out.sf.reads A B hA2 hB2
                have ip := fun W => bApply5_is (w := W) A B n (by omega) (by omega) hn1 (by omega)
                have iq := fun W => bApply6_is (w := W) A B n (by omega) (by omega) hn1 (by omega)
                have ir := fun W => bApply7_is (w := W) A B n (by omega) (by omega) hn1 (by omega)
                have is := fun W => bApply5_is (w := W) A A n (by omega) (by omega) hn1 (by omega)
                unfold appW at p3 q3 r3 s3
                unfold sqrW at s3
                rw [← p3] at ip
                rw [← q3] at iq
                rw [← r3] at ir
                rw [show mulW (A &&& (2 ^ n - 1)) (A &&& (2 ^ n - 1)) (2 ^ n - 1) &&& (2 ^ n - 1) = bitsVal B4 from s3.symm] at is
                have ll : ∀ {l : List Nat}, l.length = n → (natInts l).length = n := fun h => by rw [natInts_len]; exact h
                rcases k with _ | _ | _ | _ | k
                · exact ⟨pa, pc, P, B1, 5, B, rfl, hh.at (by simp) (ll HF.out.pf.len), rfl, HF.out.pf.len, p1, p2, rfl, ip⟩
                · exact ⟨qa, qc, Q, B2, 6, B, rfl, hh.at (by simp) (ll HF.out.qf.len), rfl, HF.out.qf.len, q1, q2, rfl, iq⟩
                · exact ⟨ra, rc, R, B3, 7, B, rfl, hh.at (by simp) (ll HF.out.rf.len), rfl, HF.out.rf.len, r1, r2, rfl, ir⟩
                · exact ⟨ta, tc, S, B4, 5, A, rfl, hh.at (by simp) (ll HF.out.sf.len), rfl, HF.out.sf.len, s1, s2, rfl, is⟩
                · omega
              have d1 := (HBW.out.ch hc (by simp)).cell (i := k) hv1
              have hcb := hc.trans ((Ch.refl [] wr).alloc (.cells #[.int .u8 5, .int .u8 6, .int .u8 7, .int .u8 5] 39)) (by simp)
              have d2 := (blk.new wr [.int .u8 5, .int .u8 6, .int .u8 7, .int .u8 5] 39).cell (i := k) hop
              have hha := hh.same ((Ch.refl [] wr).alloc (.cells #[.int .u8 5, .int .u8 6, .int .u8 7, .int .u8 5] 39))
              have hm2 := hm1.ch ((Ch.refl [] wr).alloc (.cells #[.int .u8 5, .int .u8 6, .int .u8 7, .int .u8 5] 39))
              have hR := ReadsW_is hha.own.gin (a := a1) (l := natInts lk) (m := n) (c := c1) (by rw [natInts_len]; exact hll) hm2.ok.sl hm2.ok.bd (xa := ga) (ins := givenL n n A B) (k := n + n) (xc := gc) hgl (HSB.out.ch hcb (by simp)) (by omega) hr1 hBl hn1 (by omega)
              have HR := Lib.hid hR
              have HAP := Lib.hid hap
              have HCB := Lib.hid hcb
              clear hR hap hcb hc hh hha hm1 hm2 hr1 hop hv1 hll
              by_cases hk3 : k = 3
              · have hq : ((k : Int) == 3) = true := beqI (by omega)
                rw [if_pos hk3] at hot
                subst hot
                have HK3 := Lib.hid hk3; clear hk3
                go_wp2_with fail
                generalize wr.alloc (.cells #[.int .u8 5, .int .u8 6, .int .u8 7, .int .u8 5] 39) = w9 at HR HCB d2 ⊢
                clear d1 d2
                refine HR.out.mono ?_
                rintro e w10 ⟨rfl, hc10⟩
                have hcc := HCB.out.trans hc10 (by simp)
                have HCC := Lib.hid hcc
                clear hcc hc10 HR HCB
                go_wp2_with fail
                refine (HAP.out w10).mono ?_
                rintro e w11 ⟨rfl, hc11⟩
                have hcc := HCC.out.trans hc11 (by simp)
                have HCD := Lib.hid hcc
                clear hcc hc11 HAP HCC
                go_wp2_with fail
                go_roundw
                case rel => exact ⟨k + 1, by omega, by go_num, HCD.out⟩
                case measure => simp [intOf]; omega
              · have hq : ((k : Int) == 3) = false := beqN (by omega)
                rw [if_neg hk3] at hot
                subst hot
                have HK3 := Lib.hid hk3; clear hk3
                go_wp2_with fail
                generalize wr.alloc (.cells #[.int .u8 5, .int .u8 6, .int .u8 7, .int .u8 5] 39) = w9 at HR HCB d2 ⊢
                clear d1 d2
                refine HR.out.mono ?_
                rintro e w10 ⟨rfl, hc10⟩
                have hcc := HCB.out.trans hc10 (by simp)
                have HCC := Lib.hid hcc
                clear hcc hc10 HR HCB
                go_wp2_with fail
                refine (HAP.out w10).mono ?_
                rintro e w11 ⟨rfl, hc11⟩
                have hcc := HCC.out.trans hc11 (by simp)
                have HCD := Lib.hid hcc
                clear hcc hc11 HAP HCC
                go_wp2_with fail
                go_roundw
                case rel => exact ⟨k + 1, by omega, by go_num, HCD.out⟩
                case measure => simp [intOf]; omega
            · have hcc := HC8.out.trans hc (by simp)
              have HCC := Lib.hid hcc
              clear hc hcc
              go_wp2_with fail
              go_roundw
              case rel => exact ⟨x + 1, by omega, by go_num, HCC.out⟩
              case measure => simp [intOf]; omega
        · have HC := Lib.hid hc; clear hc
          go_wp2_with fail
          go_ret
          exact ⟨rfl, (HC1.out.trans HO.out.own.ch (by simp)).trans HC.out (by simp)⟩
end Go.Proofs.YtkedpifopclipaaGreat
