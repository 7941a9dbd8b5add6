/-
  Drawn regions behind the widest fence, outside a round: calls, and rounds of a range over a function. Conditions: those of the steps.
  Walk over sim: Bits. Conditions: a graph in memory, references of any integers, values that can be read.
  Walks over the closures of made (chapter 23's law): a result is noted; what is known while results are noted. Conditions: a graph in memory, words that are held.
  What is known while results are noted (made of chapter 23's law). Conditions: none beyond the hypotheses.
  Walk over made of chapter 23's law: what each operation makes of two words. Conditions: a graph in memory, words that are held.
  What SumsAgain asks, plainly: for words of one to five bits, by evaluation. No program in sight. Conditions: none.
  Walks over sim: one, table. Conditions: a graph of at most 16 inputs in memory, what tells a word.
  A region in the text's order, in a round of a range over a function, under the widest fence: from the plain walk. Conditions: no defer in it.
  Walks over sim: tabled, Table. Conditions: a graph in memory, any reference.
  Walk over sim: Count. Conditions: a graph in memory, any reference.
  A range over a function whose body may leave it by an exit: the caller's law. Conditions: those of XRng2's law.
  Walk over sim: first. Conditions: a graph of at most 16 inputs in memory, what tells a word.
  Walks over sim: First, Parts. Conditions: a graph in memory, any references.
  The laws' graphs, plainly: what small numbers make. No program in sight.
  Walks over pick. Conditions: slices that are read.
  Walks over step. Conditions: a graph in memory, slices that are read.
  What small numbers make, plainly: no error where there is room, and what it means. No program in sight. Conditions: none beyond the hypotheses.
  The laws' graphs, plainly: built step by step. No program in sight. Conditions: none beyond the hypotheses.
  The words of the nodes, plainly, and their bits. No program in sight. Conditions: none beyond the hypotheses.
  What was made is made again, plainly: over a graph that was cut off the one that came of it. No program in sight. Conditions: none beyond the hypotheses.
  The steps of a built graph, plainly: what lies between them, and that each made again is the same. No program in sight. Conditions: none beyond the hypotheses.
  The cone that AigCone looks through, plainly: in which order, what is marked when, how many. No program in sight. Conditions: none beyond the hypotheses.
  What Sides and Depth say of a node of the cone, plainly. No program in sight. Conditions: a well-formed graph.
  Walks over slices.BinarySearch of ints, sim's Nodes and Support. Conditions: a rising slice; a graph in memory.
-/
import Derived.Test.YtnmfdiiehkkjcaaQB
import Derived.RangeFuncCalls
import Derived.TacticsIn
import Derived.Test.YtnmfdiiehkkjcaaQD
import Derived.Deep.DeepCutAuto
import Derived.Test.YtnmfdiiehkkjcaaQC
namespace Go.Ord
open Go
section
variable {ops : Array Oper} {ks : List Kd} {A : List Nat} {C : World → Prop} {Q : Act → World → Prop} {P : Program} {Q' : Exit → Act → World → Prop} {n : Nat}
theorem wide0 {o : Oper} {a : Act} {w : World} {K : Act → World → Prop} {Q : Exit → Act → World → Prop} (h : o.wp P a w K Q) : o.wpIn Fence.wide n P a w K Q := by
  refine ⟨fun f _ => trivial, ?_⟩
  rw [show o.semAt Fence.wide.round a.eval = execOp a.eval o from rfl]
  unfold Oper.wp at h
  cases hr : (execOp a.eval o).run P w with
  | ok x w' =>
    rw [hr] at h
    cases x with
    | enter f args => exact ⟨(fun hd => by cases hd), (callsIn_wide (n := n - 1)).2 h⟩
    | row row args => exact ⟨(fun hd => by cases hd), fun c cs _ => let ⟨v, w1, r, s⟩ := h c cs; ⟨v, w1, r, (stepsIn_wide (P := P)).2 s⟩⟩
    | round => exact h.elim
    | _ => exact h
  | halt x w' =>
    rw [hr] at h
    cases x <;> exact h
/-- the same way on, with other normal ways out -/
theorem onlyK {o : Oper} {a : Act} {w : World} {J K' : Act → World → Prop} {Q Q2 : Act → World → Prop} (hk : ∀ a w, J a w → K' a w) (h : o.wpIn Fence.wide n P a w J (only Q)) : o.wpIn Fence.wide n P a w K' (only Q2) := by
  refine ⟨h.1, ?_⟩
  have h := h.2
  generalize (o.semAt Fence.wide.round a.eval).run P w = r at *
  cases r with
  | ok x w' =>
    cases x <;> simp only [Oper.uponIn] at h ⊢
    case value u => exact hk _ _ h
    case skip => exact hk _ _ h
    case defer d => exact hk _ _ h
    case enter f args =>
      refine ⟨h.1, CallsIn.mono h.2 fun e w'' he => ?_⟩
      cases e with
      | returned u => exact hk _ _ he
      | panicked c => cases he.1
      | outgrown => exact (only_lets Q he).elim
    case row row args => exact ⟨h.1, fun c cs hr => let ⟨u, w1, r, s⟩ := h.2 c cs hr; ⟨u, w1, hk _ _ r, s⟩⟩
    case round l f tmps assign body =>
      refine ⟨h.1, RoundIn.mono h.2 fun e w'' he => ?_⟩
      cases e with
      | returned u => exact hk _ _ he
      | panicked c => cases he.1
      | outgrown => exact (only_lets Q he).elim
  | halt x w' =>
    cases x <;> simp only [Oper.uponIn] at h ⊢
    case panic u => cases h.1
theorem lawsI (hs : Stat ops ks A) (Q : Act → World → Prop) : Laws ops (wpOpIn Fence.wide n P ops (only Q)) (yieldsP P ops) where
  mono h hh := wpOpIn_mono h hh
  out := by
    rintro i o v a w K ho ⟨o', ho', hy⟩ h
    rw [ho] at ho'; cases ho'
    unfold wpOpIn
    simp only [ho]
    rcases hy with ⟨hw, hv⟩ | ⟨hw, rfl⟩
    · rw [if_pos hw]; exact wide0 (hv.wp h)
    · rw [if_neg (by simp [hw])]; exact ⟨fun _ _ => trivial, h⟩
  comm := by
    intro i j oi oj v a w K hi hj hap h
    obtain ⟨h1, h2, h3⟩ := Oper.apart_spec hap
    have hsi := fun cs b => hs.sel i oi cs b hi
    have hsj := fun cs b => hs.sel j oj cs b hj
    have keep : ∀ (a' : Act) (u : Value), execOp a'.eval oi = execOp a.eval oi → Region.wanted oi (yielded ops a'.tmps) = Region.wanted oi (yielded ops a.tmps) →
        ∀ x w0, yieldsP P ops i x a w0 → yieldsP P ops i x (a'.put oj.dst u) w0 := by
      rintro a' u e1 e2 x w0 ⟨o, ho, hy⟩
      rw [hi] at ho; cases ho
      refine ⟨oi, hi, ?_⟩
      rw [wanted_put oi a' oj.dst u h3, e2]
      unfold RunsTo at *
      rw [execOp_put oi hsi a' oj.dst u h3, e1]
      exact hy
    unfold wpOpIn at *
    simp only [hj] at *
    rw [wanted_put oj a oi.dst v h1] at h
    split
    · rename_i hw
      rw [if_pos hw] at h
      obtain ⟨_, h⟩ := h
      refine ⟨fun f _ => trivial, ?_⟩
      rw [show ∀ ρ, oj.semAt Fence.wide.round ρ = execOp ρ oj from fun _ => rfl] at h ⊢
      rw [execOp_put oj hsj a oi.dst v h1] at h
      generalize (execOp a.eval oj).run P w = r at *
      cases r with
      | ok x w' =>
        cases x <;> simp only [Oper.uponIn] at h ⊢
        case value u => exact ⟨keep a u rfl rfl, by rw [← Act.put_comm a v u h2]; exact h⟩
        case skip => exact ⟨keep a _ rfl rfl, by rw [← Act.put_comm a v undef h2]; exact h⟩
        case defer d =>
          refine ⟨keep { a with defers := d :: a.defers } _ rfl rfl, ?_⟩
          rw [← Act.put_comm _ v undef h2, ← Act.put_defers]
          exact h
        case enter f args =>
          refine ⟨h.1, CallsIn.mono h.2 fun e w'' he => ?_⟩
          cases e with
          | returned u => exact ⟨keep a u rfl rfl, by rw [← Act.put_comm a v u h2]; exact he⟩
          | panicked c => cases he.1
          | outgrown => exact (only_lets Q he).elim
        case row row args => exact ⟨h.1, fun c cs hr => let ⟨u, w1, r, s⟩ := h.2 c cs hr; ⟨u, w1, ⟨keep a u rfl rfl, by rw [← Act.put_comm a v u h2]; exact r⟩, s⟩⟩
        case round l f tmps assign body =>
          refine ⟨h.1, RoundIn.mono h.2 fun e w'' he => ?_⟩
          cases e with
          | returned u => exact ⟨keep a u rfl rfl, by rw [← Act.put_comm a v u h2]; exact he⟩
          | panicked c => cases he.1
          | outgrown => exact (only_lets Q he).elim
      | halt x w' =>
        cases x <;> simp only [Oper.uponIn] at h ⊢
        case panic u => cases h.1
    · rename_i hw
      rw [if_neg hw] at h
      exact ⟨fun _ _ => trivial, keep a _ rfl rfl, by rw [← Act.put_comm a v undef h2]; exact h.2⟩
theorem wpAnyIn_of_all (hs : Stat ops ks A) (Q : Act → World → Prop) : ∀ (m : Nat) (R : List Nat) (listed : Array Bool) (a : Act) (w : World), R.Nodup → (∀ k ∈ R, k < ops.size) → R.length = m → listed.size = ops.size → Fits ops listed R →
    allOrd ops (wpOpIn Fence.wide n P ops (only Q)) ks A C Q m R a w → wpAnyIn Fence.wide n P .any ops (only Q) m listed a w := by
  intro m
  induction m with
  | zero =>
    intro R listed a w hn hlt hlen hsz hf h
    have hR : R = [] := List.eq_nil_of_length_eq_zero hlen
    refine ⟨?_, rfl, h⟩
    cases hr : Region.ready .any ops listed with
    | nil => rfl
    | cons x xs =>
      have := (hf.mem hs (i := x) (by rw [hr]; simp)).1
      rw [hR] at this; cases this
  | succ m ih =>
    intro R listed a w hn hlt hlen hsz hf h
    refine ⟨fun h0 => (hf.nonempty hs hlt (by intro e; rw [e] at hlen; cases hlen) h0).elim, fun i hi => ?_⟩
    obtain ⟨hiR, hri⟩ := hf.mem hs hi
    refine wpOpIn_mono (fun a' w' h3 => ?_) (h i hiR hri)
    exact ih (R.erase i) _ a' w' (hn.erase _) (fun k hk => hlt k (List.mem_of_mem_erase hk)) (by rw [List.length_erase_of_mem hiR]; omega) (by simpa using hsz) (hf.set hn hsz) h3.2

/-- **The door, behind the widest fence.** -/
theorem regionI {id : Nat} {a : Act} {w : World} {l : List Oper} (C : World → Prop) (ks : List Kd) (A : List Nat) (hm : P.follows .mixedOrders = true) (hs : stat l.toArray ks A = true)
    (h : allOrd l.toArray (wpOpIn Fence.wide n P l.toArray (only (Q' .normal))) ks A C (Q' .normal) l.length (List.range l.length) a w.drew) : (Code.region id l.toArray true).wpIn Fence.wide n P Q' a w := by
  refine wpIn_mono (Q := only (Q' .normal)) ?_ (fun e a w ⟨he, hq⟩ => he ▸ hq)
  refine wpIn_region_any hm ?_
  have := wpAnyIn_of_all (P := P) (C := C) (stat_spec hs) (Q' .normal) l.length (List.range l.length) (Array.replicate l.length false) a w.drew List.nodup_range (by simp) (by simp) (by simp)
    (fun k hk => by simp at hk; simp [hk]) h
  simpa using this

/-! ### The steps -/
section steps
variable {l : List Oper}
/-- what is left, with all that the walk never asks of it again -/
def StI (n : Nat) (P : Program) (l : List Oper) (ks : List Kd) (A : List Nat) (C : World → Prop) (Q : Act → World → Prop) (R : List Nat) (a : Act) (w : World) : Prop :=
  R.Nodup → Up l.toArray R → (∀ k ∈ R, k < l.toArray.size) → Stat l.toArray ks A → allOrd l.toArray (wpOpIn Fence.wide n P l.toArray (only Q)) ks A C Q R.length R a w

theorem StI.door {id : Nat} {a : Act} {w : World} (C : World → Prop) (ks : List Kd) (A : List Nat) (R : List Nat) (hm : P.follows .mixedOrders = true) (hs : stat l.toArray ks A = true) (hR : List.range l.length = R)
    (h : StI n P l ks A C (Q' .normal) R a w.drew) : (Code.region id l.toArray true).wpIn Fence.wide n P Q' a w := by
  refine regionI C ks A hm hs ?_
  subst hR
  have := h List.nodup_range (fun k o e hk _ _ _ => List.mem_range.2 (by have := lt_size hk; simpa using this)) (by simp) (stat_spec hs)
  simpa using this

theorem StI.nil {a : Act} {w : World} (h : Q a w) : StI n P l ks A C Q [] a w := fun _ _ _ _ => h

theorem StI.take {R R' : List Nat} {a : Act} {w : World} {v : Value} (i : Nat) (o : Oper) (hi : l.toArray[i]? = some o) (hiR : R.contains i = true) (hr : readyIn l.toArray R i = true) (hR : R.erase i = R')
    (ht : Takes (yieldsP P l.toArray) C (kd ks i) i v a w) (h : StI n P l ks A C Q R' (a.put o.dst v) w) : StI n P l ks A C Q R a w := by
  intro hn hu hlt hs
  have hm : i ∈ R := by simpa using hiR
  have hlen : R.length = R.length - 1 + 1 := by have := List.length_pos_of_mem hm; omega
  rw [hlen]
  refine Go.Ord.take (lawsI hs Q) hs hi (R.length - 1) R a w hn hu hlt hlen hm hr ht ?_
  subst hR
  have := h (hn.erase _) (hu.erase hn hr) (fun k hk => hlt k (List.mem_of_mem_erase hk)) hs
  rwa [List.length_erase_of_mem hm] at this

/-- passed over: the guard says no -/
theorem StI.skip {R : List Nat} {a : Act} {w : World} (i : Nat) (R' : List Nat) (o : Oper) (hil : l[i]? = some o) (hchk : chk l.toArray ks R R' i .fl = true)
    (hg : Region.wanted o (yielded l.toArray a.tmps) = false) (h : ∀ K : Act → Prop, (∀ a, StI n P l ks A C Q R' a w → K a) → K (a.put o.dst undef)) : StI n P l ks A C Q R a w :=
  have hi : l.toArray[i]? = some o := by simpa using hil
  have ⟨hiR, hr, hR, hk⟩ := chk_spec hchk
  .take i o hi hiR hr hR (by rw [hk]; exact fun _ => ⟨o, hi, .inr ⟨hg, rfl⟩⟩) (h _ fun _ h => h)

theorem StI.fl {R : List Nat} {a : Act} {w : World} {v : Value} (i : Nat) (R' : List Nat) (o : Oper) (hil : l[i]? = some o) (hchk : chk l.toArray ks R R' i .fl = true)
    (hg : Region.wanted o (yielded l.toArray a.tmps) = true) (hv : ∀ w', (execOp a.eval o).run P w' = .ok (.value v) w') (h : ∀ K : Act → Prop, (∀ a, StI n P l ks A C Q R' a w → K a) → K (a.put o.dst v)) : StI n P l ks A C Q R a w :=
  have hi : l.toArray[i]? = some o := by simpa using hil
  have ⟨hiR, hr, hR, hk⟩ := chk_spec hchk
  .take i o hi hiR hr hR (by rw [hk]; exact fun w' => ⟨o, hi, .inl ⟨hg, by unfold RunsTo; rw [hv w']; exact ⟨rfl, rfl⟩⟩⟩) (h _ fun _ h => h)

theorem StI.ho {R : List Nat} {a : Act} {w : World} {v : Value} (i : Nat) (R' : List Nat) (o : Oper) (hil : l[i]? = some o) (hchk : chk l.toArray ks R R' i .ho = true)
    (hg : Region.wanted o (yielded l.toArray a.tmps) = true) (hC : C w) (hv : ∀ w', C w' → (execOp a.eval o).run P w' = .ok (.value v) w') (h : ∀ K : Act → Prop, (∀ a, StI n P l ks A C Q R' a w → K a) → K (a.put o.dst v)) : StI n P l ks A C Q R a w :=
  have hi : l.toArray[i]? = some o := by simpa using hil
  have ⟨hiR, hr, hR, hk⟩ := chk_spec hchk
  .take i o hi hiR hr hR (by rw [hk]; exact ⟨hC, fun w' hw' => ⟨o, hi, .inl ⟨hg, by unfold RunsTo; rw [hv w' hw']; exact ⟨rfl, rfl⟩⟩⟩⟩) (h _ fun _ h => h)

theorem StI.rd {R : List Nat} {a : Act} {w : World} (i : Nat) (R' : List Nat) (o : Oper) (hil : l[i]? = some o) (hchk : chk l.toArray ks R R' i .rd = true)
    (hg : Region.wanted o (yielded l.toArray a.tmps) = true) (h : ∀ K : Act → Prop, (∀ a, StI n P l ks A C Q R' a w → K a) → o.still P a w K) : StI n P l ks A C Q R a w := by
  have hi : l.toArray[i]? = some o := by simpa using hil
  have ⟨hiR, hr, hR, hk⟩ := chk_spec hchk
  have h1 := h _ (fun _ hh => hh)
  have key : ∃ v, RunsTo P o a w v ∧ StI n P l ks A C Q R' (a.put o.dst v) w := by
    unfold Oper.still at h1
    unfold RunsTo
    generalize (execOp a.eval o).run P w = r at *
    cases r with
    | ok n w' =>
      cases n <;> simp only [Oper.stillUpon] at h1
      case value u => exact ⟨u, ⟨h1.1, rfl⟩, h1.2⟩
      case skip => exact ⟨undef, ⟨h1.1, rfl⟩, h1.2⟩
      case enter f args => obtain ⟨e, v, hc, h2⟩ := h1; exact ⟨v, by rw [e]; exact hc, h2⟩
    | halt x w' => simp only [Oper.stillUpon] at h1
  obtain ⟨v, hy, hK⟩ := key
  exact .take i o hi hiR hr hR (v := v) (by rw [hk]; exact ⟨o, hi, .inl ⟨hg, hy⟩⟩) hK

/-- the effect that alone may come up: its own walk, as a list of one operation -/
theorem StI.ef {R : List Nat} {a : Act} {w : World} (i : Nat) (R' : List Nat) (o : Oper) (hil : l[i]? = some o) (hchk : chkE l.toArray ks A R R' i = true)
    (h : ∀ K : Act → World → Prop, (∀ a w, StI n P l ks A C Q R' a w → K a w) → wpList P l.toArray (only K) [o] a w) : StI n P l ks A C Q R a w := by
  have hi : l.toArray[i]? = some o := by simpa using hil
  have ⟨hr, hR, hk, hc⟩ := chkE_spec hchk
  intro hn hu hlt hs
  have hm : i ∈ R := (List.mem_filter.1 (hr ▸ List.mem_singleton.2 rfl : i ∈ R.filter (readyIn l.toArray R))).1
  have hri : readyIn l.toArray R i = true := (List.mem_filter.1 (hr ▸ List.mem_singleton.2 rfl : i ∈ R.filter (readyIn l.toArray R))).2
  have hlen : R.length = R.length - 1 + 1 := by have := List.length_pos_of_mem hm; omega
  rw [hlen]
  refine branch hr fun j hj => ?_
  have hji : j = i := List.mem_singleton.1 hj
  subst hji
  have h1 := h (fun a w => StI n P l ks A C Q R' a w) (fun _ _ hh => hh)
  have key : ∀ a' w', (StI n P l ks A C Q R' a' w') → post ks A l.toArray.size C j w w' ∧ allOrd l.toArray (wpOpIn Fence.wide n P l.toArray (only Q)) ks A C Q (R.length - 1) (R.erase j) a' w' := by
    intro a' w' hh
    refine ⟨?_, ?_⟩
    · unfold post; rw [if_pos hk]; intro hh2; rw [hc] at hh2; exact absurd hh2 (by simp)
    subst hR
    have := hh (hn.erase _) (hu.erase hn hri) (fun k hk => hlt k (List.mem_of_mem_erase hk)) hs
    rwa [List.length_erase_of_mem hm] at this
  unfold wpOpIn
  simp only [hi]
  unfold wpList at h1
  split
  · rename_i hw
    rw [if_pos hw] at h1
    have h1 := h1.resolve_right fun hh => only_lets _ hh.2
    exact onlyK (fun a' w' hh => key a' w' hh.2) (wide0 h1)
  · rename_i hw
    rw [if_neg hw] at h1
    exact ⟨fun _ _ => trivial, key _ _ h1.2⟩
theorem StI.efC {R : List Nat} {a : Act} {w : World} (i : Nat) (R' : List Nat) (o : Oper) (hil : l[i]? = some o) (hchk : chkEC l.toArray ks R R' i = true)
    (h : ∀ K : Act → World → Prop, (∀ a w, C w → StI n P l ks A C Q R' a w → K a w) → wpList P l.toArray (only K) [o] a w) : StI n P l ks A C Q R a w := by
  have hi : l.toArray[i]? = some o := by simpa using hil
  have ⟨hr, hR, hk⟩ := chkEC_spec hchk
  intro hn hu hlt hs
  have hm : i ∈ R := (List.mem_filter.1 (hr ▸ List.mem_singleton.2 rfl : i ∈ R.filter (readyIn l.toArray R))).1
  have hri : readyIn l.toArray R i = true := (List.mem_filter.1 (hr ▸ List.mem_singleton.2 rfl : i ∈ R.filter (readyIn l.toArray R))).2
  have hlen : R.length = R.length - 1 + 1 := by have := List.length_pos_of_mem hm; omega
  rw [hlen]
  refine branch hr fun j hj => ?_
  have hji : j = i := List.mem_singleton.1 hj
  subst hji
  have h1 := h (fun a w => C w ∧ StI n P l ks A C Q R' a w) (fun _ _ hc hh => ⟨hc, hh⟩)
  have key : ∀ a' w', (C w' ∧ StI n P l ks A C Q R' a' w') → post ks A l.toArray.size C j w w' ∧ allOrd l.toArray (wpOpIn Fence.wide n P l.toArray (only Q)) ks A C Q (R.length - 1) (R.erase j) a' w' := by
    intro a' w' hh
    refine ⟨?_, ?_⟩
    · unfold post; rw [if_pos hk]; intro _; exact hh.1
    subst hR
    have := hh.2 (hn.erase _) (hu.erase hn hri) (fun k hk => hlt k (List.mem_of_mem_erase hk)) hs
    rwa [List.length_erase_of_mem hm] at this
  unfold wpOpIn
  simp only [hi]
  unfold wpList at h1
  split
  · rename_i hw
    rw [if_pos hw] at h1
    have h1 := h1.resolve_right fun hh => only_lets _ hh.2
    exact onlyK (fun a' w' hh => key a' w' hh.2) (wide0 h1)
  · rename_i hw
    rw [if_neg hw] at h1
    exact ⟨fun _ _ => trivial, key _ _ h1.2⟩
theorem StI.efY {R : List Nat} {a : Act} {w : World} (i : Nat) (R' : List Nat) (o : Oper) (hil : l[i]? = some o) (hchk : chkE l.toArray ks A R R' i = true)
    (h : ∀ K : Act → World → Prop, (∀ a w, StI n P l ks A C Q R' a w → K a w) → wpListIn Fence.wide n P l.toArray (only K) [o] a w) : StI n P l ks A C Q R a w := by
  have hi : l.toArray[i]? = some o := by simpa using hil
  have ⟨hr, hR, hk, hc⟩ := chkE_spec hchk
  intro hn hu hlt hs
  have hm : i ∈ R := (List.mem_filter.1 (hr ▸ List.mem_singleton.2 rfl : i ∈ R.filter (readyIn l.toArray R))).1
  have hri : readyIn l.toArray R i = true := (List.mem_filter.1 (hr ▸ List.mem_singleton.2 rfl : i ∈ R.filter (readyIn l.toArray R))).2
  have hlen : R.length = R.length - 1 + 1 := by have := List.length_pos_of_mem hm; omega
  rw [hlen]
  refine branch hr fun j hj => ?_
  have hji : j = i := List.mem_singleton.1 hj
  subst hji
  have h1 := h (fun a w => StI n P l ks A C Q R' a w) (fun _ _ hh => hh)
  have key : ∀ a' w', (StI n P l ks A C Q R' a' w') → post ks A l.toArray.size C j w w' ∧ allOrd l.toArray (wpOpIn Fence.wide n P l.toArray (only Q)) ks A C Q (R.length - 1) (R.erase j) a' w' := by
    intro a' w' hh
    refine ⟨?_, ?_⟩
    · unfold post; rw [if_pos hk]; intro hh2; rw [hc] at hh2; exact absurd hh2 (by simp)
    subst hR
    have := hh (hn.erase _) (hu.erase hn hri) (fun k hk => hlt k (List.mem_of_mem_erase hk)) hs
    rwa [List.length_erase_of_mem hm] at this
  unfold wpOpIn
  simp only [hi]
  unfold wpListIn at h1
  split
  · rename_i hw
    rw [if_pos hw] at h1
    exact onlyK (fun a' w' hh => key a' w' hh.2) h1
  · rename_i hw
    rw [if_neg hw] at h1
    exact ⟨h1.1, key _ _ h1.2.2⟩
theorem StI.efYC {R : List Nat} {a : Act} {w : World} (i : Nat) (R' : List Nat) (o : Oper) (hil : l[i]? = some o) (hchk : chkEC l.toArray ks R R' i = true)
    (h : ∀ K : Act → World → Prop, (∀ a w, C w → StI n P l ks A C Q R' a w → K a w) → wpListIn Fence.wide n P l.toArray (only K) [o] a w) : StI n P l ks A C Q R a w := by
  have hi : l.toArray[i]? = some o := by simpa using hil
  have ⟨hr, hR, hk⟩ := chkEC_spec hchk
  intro hn hu hlt hs
  have hm : i ∈ R := (List.mem_filter.1 (hr ▸ List.mem_singleton.2 rfl : i ∈ R.filter (readyIn l.toArray R))).1
  have hri : readyIn l.toArray R i = true := (List.mem_filter.1 (hr ▸ List.mem_singleton.2 rfl : i ∈ R.filter (readyIn l.toArray R))).2
  have hlen : R.length = R.length - 1 + 1 := by have := List.length_pos_of_mem hm; omega
  rw [hlen]
  refine branch hr fun j hj => ?_
  have hji : j = i := List.mem_singleton.1 hj
  subst hji
  have h1 := h (fun a w => C w ∧ StI n P l ks A C Q R' a w) (fun _ _ hc hh => ⟨hc, hh⟩)
  have key : ∀ a' w', (C w' ∧ StI n P l ks A C Q R' a' w') → post ks A l.toArray.size C j w w' ∧ allOrd l.toArray (wpOpIn Fence.wide n P l.toArray (only Q)) ks A C Q (R.length - 1) (R.erase j) a' w' := by
    intro a' w' hh
    refine ⟨?_, ?_⟩
    · unfold post; rw [if_pos hk]; intro _; exact hh.1
    subst hR
    have := hh.2 (hn.erase _) (hu.erase hn hri) (fun k hk => hlt k (List.mem_of_mem_erase hk)) hs
    rwa [List.length_erase_of_mem hm] at this
  unfold wpOpIn
  simp only [hi]
  unfold wpListIn at h1
  split
  · rename_i hw
    rw [if_pos hw] at h1
    exact onlyK (fun a' w' hh => key a' w' hh.2) h1
  · rename_i hw
    rw [if_neg hw] at h1
    exact ⟨h1.1, key _ _ h1.2.2⟩
/-- all that the kernel looks at, with the slot that is written -/
theorem StI.fl2 {R : List Nat} {a : Act} {T' : Array Value} {w : World} (i : Nat) (R' : List Nat) (o : Oper) (d : Nat) (hil : l[i]? = some o) (hchk : chk l.toArray ks R R' i .fl = true) (hg : Region.wanted o (yielded l.toArray a.tmps) = true)
    (hd : o.dst = some d) (hlt : Nat.blt d a.tmps.size = true) (hl : a.defers.length = a.defers.length) (hv : ∀ (K : Act → World → Prop) (w' : World), K ⟨T', a.defers⟩ w' → o.wp P a w' K noExit) (h : StI n P l ks A C Q R' ⟨T', a.defers⟩ w) : StI n P l ks A C Q R a w := by
  have hi : l.toArray[i]? = some o := by simpa using hil
  have ⟨hiR, hr, hR, hk⟩ := chk_spec hchk
  have hput := (runsTo_of_wp (a' := ⟨T', a.defers⟩) hd hlt rfl hl (fun K hK => hv K w hK)).2
  exact .take i o hi hiR hr hR (v := T'.getD d undef) (by rw [hk]; exact fun w' => ⟨o, hi, .inl ⟨hg, (runsTo_of_wp (a' := ⟨T', a.defers⟩) hd hlt rfl hl (fun K hK => hv K w' hK)).1⟩⟩) (by rw [← hput]; exact h)

theorem StI.ho2 {R : List Nat} {a : Act} {T' : Array Value} {w : World} (i : Nat) (R' : List Nat) (o : Oper) (d : Nat) (hil : l[i]? = some o) (hchk : chk l.toArray ks R R' i .ho = true) (hg : Region.wanted o (yielded l.toArray a.tmps) = true)
    (hd : o.dst = some d) (hlt : Nat.blt d a.tmps.size = true) (hl : a.defers.length = a.defers.length) (hC : C w) (hv : ∀ (K : Act → World → Prop) (w' : World), C w' → K ⟨T', a.defers⟩ w' → o.wp P a w' K noExit) (h : StI n P l ks A C Q R' ⟨T', a.defers⟩ w) : StI n P l ks A C Q R a w := by
  have hi : l.toArray[i]? = some o := by simpa using hil
  have ⟨hiR, hr, hR, hk⟩ := chk_spec hchk
  have hput := (runsTo_of_wp (a' := ⟨T', a.defers⟩) hd hlt rfl hl (fun K hK => hv K w hC hK)).2
  exact .take i o hi hiR hr hR (v := T'.getD d undef) (by rw [hk]; exact ⟨hC, fun w' hw' => ⟨o, hi, .inl ⟨hg, (runsTo_of_wp (a' := ⟨T', a.defers⟩) hd hlt rfl hl (fun K hK => hv K w' hw' hK)).1⟩⟩⟩) (by rw [← hput]; exact h)

theorem StI.rd2 {R : List Nat} {a : Act} {T' : Array Value} {w : World} (i : Nat) (R' : List Nat) (o : Oper) (d : Nat) (hil : l[i]? = some o) (hchk : chk l.toArray ks R R' i .rd = true) (hg : Region.wanted o (yielded l.toArray a.tmps) = true)
    (hd : o.dst = some d) (hlt : Nat.blt d a.tmps.size = true) (hl : a.defers.length = a.defers.length) (hv : ∀ K : Act → World → Prop, K ⟨T', a.defers⟩ w → o.wp P a w K noExit) (h : StI n P l ks A C Q R' ⟨T', a.defers⟩ w) : StI n P l ks A C Q R a w := by
  have hi : l.toArray[i]? = some o := by simpa using hil
  have ⟨hiR, hr, hR, hk⟩ := chk_spec hchk
  have ⟨hrun, hput⟩ := runsTo_of_wp (a' := ⟨T', a.defers⟩) hd hlt rfl hl hv
  exact .take i o hi hiR hr hR (v := T'.getD d undef) (by rw [hk]; exact ⟨o, hi, .inl ⟨hg, hrun⟩⟩) (by rw [← hput]; exact h)

/-- 'move' and 'assign' hand a slot's value on -/
theorem StI.mv {R : List Nat} {a a' : Act} {w : World} (i : Nat) (R' : List Nat) (o : Oper) (x : Operand) (hil : l[i]? = some o) (hchk : chk l.toArray ks R R' i .fl = true) (hg : Region.wanted o (yielded l.toArray a.tmps) = true)
    (hop : o.op = .move x ∨ o.op = .assign x) (hp : a.put o.dst (a.eval x) = a') (h : StI n P l ks A C Q R' a' w) : StI n P l ks A C Q R a w := by
  have hi : l.toArray[i]? = some o := by simpa using hil
  have ⟨hiR, hr, hR, hk⟩ := chk_spec hchk
  have hrun : ∀ w', RunsTo P o a w' (a.eval x) := by
    intro w'
    unfold RunsTo execOp
    rcases hop with e | e <;> rw [e] <;> exact ⟨rfl, rfl⟩
  exact .take i o hi hiR hr hR (v := a.eval x) (by rw [hk]; exact fun w' => ⟨o, hi, .inl ⟨hg, hrun w'⟩⟩) (by rw [hp]; exact h)

/-- passed over: the guard of a reading operation says no -/
theorem StI.skipr {R : List Nat} {a : Act} {w : World} (i : Nat) (R' : List Nat) (o : Oper) (hil : l[i]? = some o) (hchk : chk l.toArray ks R R' i .rd = true)
    (hg : Region.wanted o (yielded l.toArray a.tmps) = false) (h : ∀ K : Act → Prop, (∀ a, StI n P l ks A C Q R' a w → K a) → K (a.put o.dst undef)) : StI n P l ks A C Q R a w := by
  have hi : l.toArray[i]? = some o := by simpa using hil
  have ⟨hiR, hr, hR, hk⟩ := chk_spec hchk
  exact .take i o hi hiR hr hR (by rw [hk]; exact ⟨o, hi, .inr ⟨hg, rfl⟩⟩) (h _ fun _ h => h)
end steps
end
end Go.Ord
namespace Go.Proofs.Ytnmfdiiehkkjcaa
open Go.RowKit Go.Mem Go.Aig
theorem row.capLe' {w : World} {e : TypeId} {size : Nat} {a : Option Addr} {n c m : Nat} {xs : List Value} (h : row w e size (.slice a n c) m xs) : m ≤ c ∧ c ≤ 9223372036854775807 := by
  rcases h.2 with ⟨e1, h0⟩ | ⟨g', cap', cur, e1, _, _, h1, h2, _⟩
  · cases e1; omega
  · cases e1; exact ⟨h1, by unfold maxLen at h2; exact h2⟩
/-- what Bits returns -/
def bitsR (G : Gra) (ins : List Bool) (l : List Int) : List Bool × Nat := if badIn G l then ([], 200) else if ins.length ≠ (inputs G.nodes).length then ([], 210) else (bsOf ins G.nodes (nats l), 0)
theorem wOf_len (l : List Bool) : (wOf l).length = l.length := by simp [wOf]
theorem bitsR_words (G : Gra) (ins : List Bool) (l : List Int) : bitsR G ins l = ((wordsR G (wOf ins) l).1.map (fun v => v.testBit 0), (wordsR G (wOf ins) l).2) := by
  unfold bitsR wordsR
  rw [wOf_len]
  split
  · rfl
  · split
    · rfl
    · rw [wsOf_bits]
/-- a new slice of truths -/
def BNew (w : World) (v : Value) (l : List Bool) (w' : World) : Prop := row w' 4 1 v l.length (bools l) ∧ (∀ q ∈ v.ownBlock.toList, w.heap.size ≤ q) ∧ Ch [] w w'
section
variable {w : World} {g : Nat} {G : Gra} {F : List Nat}
set_option maxRecDepth 100000 in
set_option maxHeartbeats 8000000 in
theorem simBits_is (h : GIn w g G F) {xa : Option Addr} {ins : List Bool} (n xc : Nat) (hn : ins.length = n) (hS : Sb w xa ins) (hnl : n ≤ 100000) {a : Option Addr} {l : List Int} (m c : Nat) (hm : l.length = m) (hL : Sl w a l) (hbd : ∀ r ∈ l, -9223372036854775808 ≤ r ∧ r ≤ 9223372036854775807) (hll : m ≤ 100000) :
    Calls Try.prog 24 #[.pointer (some ⟨g, 0, none⟩), .slice xa n xc, .slice a m c] w fun e w' => ∃ v, e = .returned (.tuple #[v, .int .i64 (bitsR G ins l).2]) ∧ BNew w v (bitsR G ins l).1 w' := by
  subst hn hm
  have hW := fun (W : World) (hW : Ch [] w W) (wa : Option Addr) (wc : Nat) (hwa : row W 45 1 (.slice wa ins.length wc) ins.length (u64s (wOf ins))) => simWords_is (h.same hW (by simp)) (ins := wOf ins) (xa := wa) wc (row.sv hwa rfl (by omega)) (wOf_lt ins) (by rw [wOf_len]; exact (row.capLe' hwa).1) (row.capLe' hwa).2 c (hL.ch hW (by simp)) hbd hll
  simp only [wOf_len] at hW
  rw [bitsR_words]
  have hwl : (wordsR G (wOf ins) l).1.length ≤ l.length := by
    unfold wordsR
    split
    · simp
    · split
      · simp
      · simp [wsOf]
  have hwb : ∀ v ∈ (wordsR G (wOf ins) l).1, v < 2 ^ 64 := by
    unfold wordsR
    split
    · simp
    · split
      · simp
      · exact wsOf_lt (wOf_lt ins) _ _
  generalize wordsR G (wOf ins) l = R at *
  obtain ⟨ws, e0⟩ := R
  simp only at hwl hwb hW ⊢
  have HW := Lib.hid hW; clear hW
  have HS := Lib.hid hS; clear hS h hL hbd
  have HWB := Lib.hid hwb; clear hwb
  go_enter Try.func24, Try.ntmps24
  go_wp2_with fail
  go_loopw [8, 19] (fun o i wr => ∃ k : Nat, k ≤ ins.length ∧ i = .int .i64 k ∧ Ch [] w wr ∧ row wr 45 1 o k (u64s (wOf (ins.take k))) ∧ ∀ q ∈ o.ownBlock.toList, w.heap.size ≤ q) (fun _ i _ => ins.length - (intOf i).toNat)
  case atStart => exact ⟨0, by omega, rfl, Ch.refl _ _, ⟨rfl, .inl ⟨rfl, rfl⟩⟩, by simp⟩
  case round =>
    obtain ⟨k, hk, rfl, hc, hrow, hlo⟩ := hrel
    obtain ⟨oa, oc, rfl⟩ := row.shape hrow
    by_cases hlt : k < ins.length
    · obtain ⟨x, hx⟩ : ∃ x, ins[k]? = some x := ⟨_, List.getElem?_eq_getElem hlt⟩
      obtain ⟨xb, xo, rfl, hcl⟩ := HS.out.cells k (.bool x) (by simp [hx])
      have c0 := (hc.cell (cell_lt hcl) (by simp)).trans hcl
      cases x
      · have hsu : u64s (wOf (ins.take (k + 1))) = u64s (wOf (ins.take k)) ++ [.int .u64 0] := by rw [List.take_add_one, hx]; simp [u64s, wOf]
        have hcA : Ch [] wr (wr.alloc (.cells #[.int .u64 0] 45)) := (Ch.refl _ _).alloc _
        have hrA := hrow.ch hcA (by simp)
        have hbA : blk (wr.alloc (.cells #[.int .u64 0] 45)) wr.heap.size [.int .u64 0] := blk.new' _ _ rfl
        have HSU := Lib.hid hsu; clear hsu
        have HRA := Lib.hid hrA; clear hrA hrow
        have HBA := Lib.hid hbA; clear hbA
        have HCA := Lib.hid hcA; clear hcA
        have HCP := Lib.hid hc; clear hc
        have HLO := Lib.hid hlo; clear hlo hcl hx
        go_wp2_with (at_builtin; go_loud (refine wpList_append_row slU64s rfl _ _ rfl (v := .slice oa k oc) (n := k) (xs := u64s (wOf (ins.take k))) rfl HRA.out (ad := ⟨wr.heap.size, 0, none⟩) (m := 1) (c := 1) (news := [.int .u64 0]) rfl rfl (news_blk HBA.out) (by simp [Value.oneCell']) (by omega) (by omega) ?_; intro v' w5 hown4 hC4 hf4; have HO4 := Lib.hid hown4; clear hown4; have HCC4 := Lib.hid hC4; clear hC4; have HF4 := Lib.hid hf4; clear hf4))
        go_roundw
        case rel =>
          obtain ⟨q1, q2⟩ := app_step HCP.out HCA.out HLO.out HCC4.out HF4.out
          refine ⟨k + 1, by omega, by go_num, q1, ?_, q2⟩
          rw [HSU.out]; exact HO4.out
        case measure => simp [intOf]; omega
      · have hsu : u64s (wOf (ins.take (k + 1))) = u64s (wOf (ins.take k)) ++ [.int .u64 1] := by rw [List.take_add_one, hx]; simp [u64s, wOf]
        have hcA : Ch [] wr (wr.alloc (.cells #[.int .u64 1] 45)) := (Ch.refl _ _).alloc _
        have hrA := hrow.ch hcA (by simp)
        have hbA : blk (wr.alloc (.cells #[.int .u64 1] 45)) wr.heap.size [.int .u64 1] := blk.new' _ _ rfl
        have HSU := Lib.hid hsu; clear hsu
        have HRA := Lib.hid hrA; clear hrA hrow
        have HBA := Lib.hid hbA; clear hbA
        have HCA := Lib.hid hcA; clear hcA
        have HCP := Lib.hid hc; clear hc
        have HLO := Lib.hid hlo; clear hlo hcl hx
        go_wp2_with (at_builtin; go_loud (refine wpList_append_row slU64s rfl _ _ rfl (v := .slice oa k oc) (n := k) (xs := u64s (wOf (ins.take k))) rfl HRA.out (ad := ⟨wr.heap.size, 0, none⟩) (m := 1) (c := 1) (news := [.int .u64 1]) rfl rfl (news_blk HBA.out) (by simp [Value.oneCell']) (by omega) (by omega) ?_; intro v' w5 hown4 hC4 hf4; have HO4 := Lib.hid hown4; clear hown4; have HCC4 := Lib.hid hC4; clear hC4; have HF4 := Lib.hid hf4; clear hf4))
        go_roundw
        case rel =>
          obtain ⟨q1, q2⟩ := app_step HCP.out HCA.out HLO.out HCC4.out HF4.out
          refine ⟨k + 1, by omega, by go_num, q1, ?_, q2⟩
          rw [HSU.out]; exact HO4.out
        case measure => simp [intOf]; omega
    · have hkn : k = ins.length := by omega
      rw [hkn, List.take_of_length_le (Nat.le_refl _)] at hrow
      rw [hkn] at hlo
      rw [hkn]
      have hW1 := HW.out wr hc oa oc hrow
      have HW1 := Lib.hid hW1; clear hW1 HW hrow hlo hkn
      have HC := Lib.hid hc; clear hc
      go_wp2_with fail
      refine HW1.out.mono ?_
      rintro e w3 ⟨v, rfl, hrv, _, hc3⟩
      obtain ⟨va, vc, rfl⟩ := row.shape hrv
      have hsv := row.sv hrv rfl (by omega)
      have HSV := Lib.hid hsv; clear hsv hrv
      have HC3 := Lib.hid (HC.out.trans hc3 (by simp)); clear hc3 HC HW1
      go_wp2_with fail
      go_loopw [14, 38] (fun o i wq => ∃ j : Nat, j ≤ ws.length ∧ i = .int .i64 j ∧ Ch [] w3 wq ∧ row wq 4 1 o j (bools ((ws.take j).map (fun v => v.testBit 0))) ∧ ∀ q ∈ o.ownBlock.toList, w3.heap.size ≤ q) (fun _ i _ => ws.length - (intOf i).toNat)
      case atStart => exact ⟨0, by omega, rfl, Ch.refl _ _, ⟨rfl, .inl ⟨rfl, rfl⟩⟩, by simp⟩
      case round =>
        obtain ⟨j, hj, rfl, hc, hrow, hlo⟩ := hrel
        obtain ⟨oa, oc, rfl⟩ := row.shape hrow
        by_cases hlt : j < ws.length
        · obtain ⟨x, hx⟩ : ∃ x, ws[j]? = some x := ⟨_, List.getElem?_eq_getElem hlt⟩
          have hxb := HWB.out x (List.mem_of_getElem? hx)
          obtain ⟨xb, xo, rfl, hcl⟩ := HSV.out.cells j (.int .u64 x) (u64s_get hx)
          have c0 := (hc.cell (cell_lt hcl) (by simp)).trans hcl
          have hand : bits .and .u64 (x : Int) 1 = ((x &&& 1 : Nat) : Int) := bits_and_u64_nat x 1 (by omega) (by omega)
          have hbe : (((x &&& 1 : Nat) : Int) == 1) = x.testBit 0 := by
            rw [Nat.testBit_zero, show x &&& 1 = x % 2 from Nat.and_one_is_mod x]
            rcases Nat.mod_two_eq_zero_or_one x with h | h <;> simp [h]
          have hsu : bools ((ws.take (j + 1)).map (fun v => v.testBit 0)) = bools ((ws.take j).map (fun v => v.testBit 0)) ++ [.bool (x.testBit 0)] := by rw [List.take_add_one, hx]; simp [bools]
          generalize x.testBit 0 = tb at hbe hsu
          generalize x &&& 1 = x1 at hand hbe
          have hcA : Ch [] wr (wr.alloc (.cells #[.bool tb] 4)) := (Ch.refl _ _).alloc _
          have hrA := hrow.ch hcA (by simp)
          have hbA : blk (wr.alloc (.cells #[.bool tb] 4)) wr.heap.size [.bool tb] := blk.new' _ _ rfl
          have HSU := Lib.hid hsu; clear hsu
          have HRA := Lib.hid hrA; clear hrA hrow
          have HBA := Lib.hid hbA; clear hbA
          have HCA := Lib.hid hcA; clear hcA
          have HCP := Lib.hid hc; clear hc
          have HLO := Lib.hid hlo; clear hlo hcl hx hxb
          go_wp2_with (at_builtin; go_loud (refine wpList_append_row slBools rfl _ _ rfl (v := .slice oa j oc) (n := j) (xs := bools ((ws.take j).map (fun v => v.testBit 0))) rfl HRA.out (ad := ⟨wr.heap.size, 0, none⟩) (m := 1) (c := 1) (news := [.bool tb]) rfl rfl (news_blk HBA.out) (by simp [Value.oneCell']) (by omega) (by omega) ?_; intro v' w5 hown4 hC4 hf4; have HO4 := Lib.hid hown4; clear hown4; have HCC4 := Lib.hid hC4; clear hC4; have HF4 := Lib.hid hf4; clear hf4))
          go_roundw
          case rel =>
            obtain ⟨q1, q2⟩ := app_step HCP.out HCA.out HLO.out HCC4.out HF4.out
            refine ⟨j + 1, by omega, by go_num, q1, ?_, q2⟩
            rw [HSU.out]; exact HO4.out
          case measure => simp [intOf]; omega
        · have hkn : j = ws.length := by omega
          rw [hkn, List.take_of_length_le (Nat.le_refl _)] at hrow
          rw [hkn] at hlo
          rw [hkn]
          have HROW := Lib.hid hrow; clear hrow
          have HLO := Lib.hid hlo; clear hlo
          have HCP := Lib.hid hc; clear hc hkn
          go_wp2_with fail
          go_ret2
          refine ⟨.slice oa ws.length oc, rfl, ?_, fun q hq => Nat.le_trans HC3.out.size (HLO.out q hq), HC3.out.trans HCP.out (by simp)⟩
          have := HROW.out
          simpa using this
end
end Go.Proofs.Ytnmfdiiehkkjcaa
namespace Go.Proofs.Ytnmfdiiehkkjcaa
open Go.RowKit Go.Mem Go.Aig
theorem infoRefs : (Try.prog.info? 31).map (fun i => (i.zero, i.size, i.bytes)) = some (some (.slice none 0 0), 1, 24) := by kernel_rfl
theorem slRows : SliceTy Try.prog 213 31 1 24 (.slice none 0 0) := ⟨Try.underlying213, infoRefs, rfl, by decide⟩
section
variable {w : World}
end
end Go.Proofs.Ytnmfdiiehkkjcaa
namespace Go.Proofs.Ytnmfdiiehkkjcaa
open Go.RowKit Go.Mem Go.Aig
section
variable {w0 w1 w : World} {F0 : List Nat} {g : Nat} {G : Gra} {F : List Nat} {L : List (Value × List Int)} {bok bout bfn : Nat} {ok : Bool} {oa : Option Addr} {m oc : Nat} {vs : List Value}
theorem Hold.chX {w' : World} {X : List Nat} (h : Hold w0 w g G F L) (hc : Ch X w w') (hX : ∀ k ∈ X, k ∉ F ∧ w0.heap.size ≤ k) (hL : ∀ p ∈ L, ∀ k, p.1.ownBlock = some k → k ∉ X) : Hold w0 w' g G F L :=
  ⟨⟨h.own.gin.same hc (fun k hk hk2 => (hX k hk2).1 hk), h.own.own, h.own.ch.trans hc (fun k hk => .inr (hX k hk).2)⟩, fun p hp => ⟨(h.held p hp).row.ch hc (hL p hp), (h.held p hp).len, (h.held p hp).bd, (h.held p hp).own⟩, fun p hp => by cases hp⟩
end
end Go.Proofs.Ytnmfdiiehkkjcaa
namespace Go.Aig
def bitR (R : Res) : Gra × List Nat × Nat := (R.1, [R.2.1], R.2.2)
/-- what the operations make -/
def mkOp (i : Nat) (G : Gra) (x y : List Int) : Gra × List Nat × Nat := match i with
  | 0 => wordG G [x] ((G, 0), (nats x).map neg)
  | 1 => subG G (List.replicate x.length 0) x
  | 2 => wordG G [x, y] (eachF (rop and) (G, 0) ((nats x).zip (nats y)))
  | 3 => wordG G [x, y] (eachF (rop rOr) (G, 0) ((nats x).zip (nats y)))
  | 4 => wordG G [x, y] (eachF (rop rXor) (G, 0) ((nats x).zip (nats y)))
  | 5 => wordG G [x, y] (sumW x.length (G, 0) ((nats x).zip (nats y)) 0)
  | 6 => subG G x y
  | 7 => bitR (negG (refG G [x, y] (neF (G, 0) ((nats x).zip (nats y)))))
  | 8 => bitR (refG G [x, y] (neF (G, 0) ((nats x).zip (nats y))))
  | 9 => bitR (refG G [x, y] (ltF (G, 0) ((nats x).zip (nats y))))
  | _ => bitR (negG (refG G [y, x] (ltF (G, 0) ((nats y).zip (nats x)))))
theorem mkOp_0 (G : Gra) (x y : List Int) : mkOp 0 G x y = wordG G [x] ((G, 0), (nats x).map neg) := rfl
theorem mkOp_1 (G : Gra) (x y : List Int) : mkOp 1 G x y = subG G (List.replicate x.length 0) x := rfl
theorem mkOp_2 (G : Gra) (x y : List Int) : mkOp 2 G x y = wordG G [x, y] (eachF (rop and) (G, 0) ((nats x).zip (nats y))) := rfl
theorem mkOp_3 (G : Gra) (x y : List Int) : mkOp 3 G x y = wordG G [x, y] (eachF (rop rOr) (G, 0) ((nats x).zip (nats y))) := rfl
theorem mkOp_4 (G : Gra) (x y : List Int) : mkOp 4 G x y = wordG G [x, y] (eachF (rop rXor) (G, 0) ((nats x).zip (nats y))) := rfl
theorem mkOp_5 (G : Gra) (x y : List Int) : mkOp 5 G x y = wordG G [x, y] (sumW x.length (G, 0) ((nats x).zip (nats y)) 0) := rfl
theorem mkOp_6 (G : Gra) (x y : List Int) : mkOp 6 G x y = subG G x y := rfl
theorem mkOp_7 (G : Gra) (x y : List Int) : mkOp 7 G x y = bitR (negG (refG G [x, y] (neF (G, 0) ((nats x).zip (nats y))))) := rfl
theorem mkOp_8 (G : Gra) (x y : List Int) : mkOp 8 G x y = bitR (refG G [x, y] (neF (G, 0) ((nats x).zip (nats y)))) := rfl
theorem mkOp_9 (G : Gra) (x y : List Int) : mkOp 9 G x y = bitR (refG G [x, y] (ltF (G, 0) ((nats x).zip (nats y)))) := rfl
theorem mkOp_10 (G : Gra) (x y : List Int) : mkOp 10 G x y = bitR (negG (refG G [y, x] (ltF (G, 0) ((nats y).zip (nats x))))) := rfl
def madeStep (x y : List Int) (s : Gra × List (List Nat) × Bool) (i : Nat) : Gra × List (List Nat) × Bool := ((mkOp i s.1 x y).1, s.2.1 ++ [(mkOp i s.1 x y).2.1], s.2.2 && ((mkOp i s.1 x y).2.2 == 0))
def madeG (G : Gra) (x y : List Int) (n : Nat) : Gra × List (List Nat) × Bool := (List.range n).foldl (madeStep x y) (G, [], true)
theorem madeG_succ (G : Gra) (x y : List Int) (n : Nat) : madeG G x y (n + 1) = madeStep x y (madeG G x y n) n := by
  unfold madeG
  rw [List.range_succ, List.foldl_append]; rfl
theorem eachF_len (op : Mk → Nat → Nat → Mk × Nat) (s : Mk) (l : List (Nat × Nat)) : (eachF op s l).2.length = l.length := by
  have : ∀ (l : List (Nat × Nat)) (q : Mk × List Nat), (l.foldl (eachS op) q).2.length = q.2.length + l.length := by
    intro l
    induction l with
    | nil => intro q; rfl
    | cons p l ih =>
      intro q
      rw [List.foldl_cons, ih]
      unfold eachS
      simp; omega
  have h := this l (s, [])
  simpa [eachF] using h
theorem wordG_len {G : Gra} {ws : List (List Int)} {R : Mk × List Nat} {n : Nat} (h : R.2.length ≤ n) : (wordG G ws R).2.1.length ≤ n := by
  unfold wordG wres
  split
  · simp
  · split
    · simp
    · exact h
theorem chk1_lt {G : Gra} {x : List Int} (h : chk G [x] = 0) : ∀ r ∈ nats x, r < 2 * G.nodes.length := (chk_ok h x (by simp)).lt
theorem subG_ok {G : Gra} (hG : Ok G) (x y : List Int) : WOk G (subG G x y) := wordG_ok hG fun hc => by
  have hp := hG.wf.pos
  have h1 := (chk_ok hc x (by simp)).lt
  have h2 := (chk_ok hc y (by simp)).lt
  exact sumF_lok hG _ _ (zip_lt h1 (fun r hr => by obtain ⟨q, hq, rfl⟩ := List.mem_map.1 hr; exact neg_lt (h2 q hq))) (by omega)
theorem subG_len {G : Gra} {x y : List Int} {n : Nat} (h : x.length ≤ n) : (subG G x y).2.1.length ≤ n := wordG_len (by
  unfold sumW
  dsimp only
  rw [Go.Proofs.Ytnmfdiiehkkjcaa.sumF_len, List.length_zip]
  simp only [nats_len]
  omega)
theorem bitR_ok {G : Gra} {R : Res} (h1 : Ok R.1) (h2 : Ext G R.1) (h3 : R.2.1 < 2 * R.1.nodes.length) : WOk G (bitR R) := ⟨h1, h2, fun r hr => by rw [List.mem_singleton.1 hr]; exact h3⟩
theorem negG_ok {G : Gra} {R : Res} (h : Ok R.1 ∧ Ext G R.1 ∧ R.2.1 < 2 * R.1.nodes.length) : Ok (negG R).1 ∧ Ext G (negG R).1 ∧ (negG R).2.1 < 2 * (negG R).1.nodes.length := by
  have := h.1.wf.pos
  unfold negG
  split
  · exact ⟨h.1, h.2.1, by show 0 < 2 * R.1.nodes.length; omega⟩
  · exact ⟨h.1, h.2.1, neg_lt h.2.2⟩
theorem mkOp_ok {G : Gra} (hG : Ok G) (i : Nat) (hi : i < 11) (x y : List Int) (hx : x.length ≤ 1000000) : WOk G (mkOp i G x y) ∧ (mkOp i G x y).2.1.length ≤ 1000000 := by
  have hp := hG.wf.pos
  rcases i with _ | _ | _ | _ | _ | _ | _ | _ | _ | _ | _ | i
  · exact ⟨wordG_ok hG fun hc => ⟨.start hG, fun r hr => by obtain ⟨q, hq, rfl⟩ := List.mem_map.1 hr; exact neg_lt (chk1_lt hc q hq)⟩, wordG_len (by simpa using hx)⟩
  · exact ⟨subG_ok hG _ _, subG_len (by simpa using hx)⟩
  · exact ⟨wordG_ok hG fun hc => eachF_lok hG full_and _ (chk_zip hc), wordG_len (by rw [eachF_len, List.length_zip]; simp only [nats_len]; omega)⟩
  · exact ⟨wordG_ok hG fun hc => eachF_lok hG full_or _ (chk_zip hc), wordG_len (by rw [eachF_len, List.length_zip]; simp only [nats_len]; omega)⟩
  · exact ⟨wordG_ok hG fun hc => eachF_lok hG full_xor _ (chk_zip hc), wordG_len (by rw [eachF_len, List.length_zip]; simp only [nats_len]; omega)⟩
  · exact ⟨wordG_ok hG fun hc => sumF_lok hG _ _ (chk_zip hc) (by omega), wordG_len (by unfold sumW; dsimp only; rw [Go.Proofs.Ytnmfdiiehkkjcaa.sumF_len, List.length_zip]; simp only [nats_len]; omega)⟩
  · exact ⟨subG_ok hG _ _, subG_len hx⟩
  · have h := negG_ok (refG_ok hG (ws := [x, y]) (R := neF (G, 0) ((nats x).zip (nats y))) fun hc => neF_vok hG _ (chk_zip hc))
    exact ⟨bitR_ok h.1 h.2.1 h.2.2, by show (1 : Nat) ≤ 1000000; omega⟩
  · have h := refG_ok hG (ws := [x, y]) (R := neF (G, 0) ((nats x).zip (nats y))) fun hc => neF_vok hG _ (chk_zip hc)
    exact ⟨bitR_ok h.1 h.2.1 h.2.2, by show (1 : Nat) ≤ 1000000; omega⟩
  · have h := refG_ok hG (ws := [x, y]) (R := ltF (G, 0) ((nats x).zip (nats y))) fun hc => ltF_vok hG _ (chk_zip hc)
    exact ⟨bitR_ok h.1 h.2.1 h.2.2, by show (1 : Nat) ≤ 1000000; omega⟩
  · have h := negG_ok (refG_ok hG (ws := [y, x]) (R := ltF (G, 0) ((nats y).zip (nats x))) fun hc => ltF_vok hG _ (chk_zip hc))
    exact ⟨bitR_ok h.1 h.2.1 h.2.2, by show (1 : Nat) ≤ 1000000; omega⟩
  · omega
theorem WOk.small {G : Gra} {R : Gra × List Nat × Nat} (h : WOk G R) : ∀ r ∈ R.2.1, r ≤ 1000000 := fun r hr => by
  have h1 := h.lt r hr
  have h2 := h.ok.small
  omega
end Go.Aig
namespace Go.Proofs.Ytnmfdiiehkkjcaa
open Go.RowKit Go.Mem Go.Aig
theorem run_storeFunc {P : Program} {w : World} {a : Addr} {m : Mode} (f : Fn) (b c : Array Value) : (store a (.func f b c) m).run P w = stored P w a (.func f b c) m := run_store P w a _ m rfl
attribute [local go_sem] run_storeFunc
/-- values that are held words, one for each list -/
structure VL (vs : List Value) (ls : List (List Nat)) (L : List (Value × List Int)) : Prop where
  len : vs.length = ls.length
  mem : ∀ (i : Nat) (v : Value) (l : List Nat), vs[i]? = some v → ls[i]? = some l → (v, natInts l) ∈ L
theorem VL.snoc {vs : List Value} {ls : List (List Nat)} {L : List (Value × List Int)} (h : VL vs ls L) (v : Value) (l : List Nat) : VL (vs ++ [v]) (ls ++ [l]) ((v, natInts l) :: L) := by
  refine ⟨by simp [h.len], fun i u q hu hq => ?_⟩
  by_cases hi : i < vs.length
  · rw [List.getElem?_append_left hi] at hu
    rw [List.getElem?_append_left (by rw [← h.len]; exact hi)] at hq
    exact List.mem_cons_of_mem _ (h.mem i u q hu hq)
  · have hlt := (List.getElem?_eq_some_iff.1 hu).1
    rw [List.length_append] at hlt
    simp at hlt
    have he : i = vs.length := by omega
    subst he
    have hl := h.len
    rw [List.getElem?_append_right (by omega)] at hu
    rw [List.getElem?_append_right (by omega)] at hq
    simp at hu
    simp [hl] at hq
    rw [← hu, ← hq]
    exact List.mem_cons_self
section
variable {w0 w1 w : World} {F0 : List Nat} {g : Nat} {G : Gra} {F : List Nat} {L : List (Value × List Int)} {bok bout bfn : Nat} {ok : Bool} {oa : Option Addr} {m oc : Nat} {vs : List Value}
end
end Go.Proofs.Ytnmfdiiehkkjcaa
namespace Go.Aig
theorem madeG_len (G : Gra) (x y : List Int) : ∀ n, (madeG G x y n).2.1.length = n
  | 0 => rfl
  | n + 1 => by
    rw [madeG_succ]
    unfold madeStep
    simp [madeG_len G x y n]
def goodL (L A : List (List Nat)) : Prop := ∀ (i : Nat) (l a : List Nat), L[i]? = some l → A[i]? = some a → l = [] ∨ l = a ∨ l = [0]
def goodB (L A : List (List Nat)) : Bool := (L.zip A).all fun p => p.1 == [] || p.1 == p.2 || p.1 == [0]
theorem goodB_L {L A : List (List Nat)} (h : goodB L A = true) : goodL L A := fun i l a hl ha => by
  have hz : (L.zip A)[i]? = some (l, a) := by rw [List.getElem?_zip_eq_some]; exact ⟨hl, ha⟩
  have := List.all_eq_true.1 h (l, a) (List.mem_of_getElem? hz)
  simp at this
  rcases this with (h | h) | h
  · exact .inl h
  · exact .inr (.inl h)
  · exact .inr (.inr h)
def againB (n : Nat) : Bool :=
  let x := natInts (rIn 0 n)
  let y := natInts (rIn n n)
  let A := madeG (gIn 4000 (2 * n)) x y 11
  let N := A.1.nodes.length
  let B := madeG A.1 x y 11
  let C := madeG (gIn N (2 * n)) x y 11
  let D := madeG (gIn (N - 1) (2 * n)) x y 11
  A.2.2 && B.2.2 && B.1.nodes.length == N && A.2.1 == B.2.1 && C.2.2 && !D.2.2 && decide (D.1.nodes.length ≤ N - 1) && decide (2 * n + 1 < N - 1) && decide (N ≤ 4000) && goodB C.2.1 A.2.1 && goodB D.2.1 A.2.1
set_option maxRecDepth 100000 in
theorem again_all : (List.range 5).all (fun i => againB (i + 1)) = true := by decide +kernel
structure AgainF (n N : Nat) (GA GB GC GD : Gra) (lA lC lD : List (List Nat)) : Prop where
  a : madeG (gIn 4000 (2 * n)) (natInts (rIn 0 n)) (natInts (rIn n n)) 11 = (GA, lA, true)
  an : GA.nodes.length = N
  b : madeG GA (natInts (rIn 0 n)) (natInts (rIn n n)) 11 = (GB, lA, true)
  bn : GB.nodes.length = N
  c : madeG (gIn N (2 * n)) (natInts (rIn 0 n)) (natInts (rIn n n)) 11 = (GC, lC, true)
  d : madeG (gIn (N - 1) (2 * n)) (natInts (rIn 0 n)) (natInts (rIn n n)) 11 = (GD, lD, false)
  dn : GD.nodes.length ≤ N - 1
  lo : 2 * n + 1 < N - 1
  hi : N ≤ 4000
  gc : goodL lC lA
  gd : goodL lD lA
  la : lA.length = 11
  lc : lC.length = 11
  ld : lD.length = 11
theorem again_facts {n : Nat} (h1 : 1 ≤ n) (h5 : n ≤ 5) : ∃ N GA GB GC GD lA lC lD, AgainF n N GA GB GC GD lA lC lD := by
  have h := List.all_eq_true.1 again_all (n - 1) (List.mem_range.2 (by omega))
  rw [show n - 1 + 1 = n by omega] at h
  unfold againB at h
  dsimp only at h
  have l1 := madeG_len (gIn 4000 (2 * n)) (natInts (rIn 0 n)) (natInts (rIn n n)) 11
  generalize hA : madeG (gIn 4000 (2 * n)) (natInts (rIn 0 n)) (natInts (rIn n n)) 11 = A at h l1
  have l2 := madeG_len (gIn A.1.nodes.length (2 * n)) (natInts (rIn 0 n)) (natInts (rIn n n)) 11
  have l3 := madeG_len (gIn (A.1.nodes.length - 1) (2 * n)) (natInts (rIn 0 n)) (natInts (rIn n n)) 11
  generalize hB : madeG A.1 (natInts (rIn 0 n)) (natInts (rIn n n)) 11 = B at h
  generalize hC : madeG (gIn A.1.nodes.length (2 * n)) (natInts (rIn 0 n)) (natInts (rIn n n)) 11 = C at h l2
  generalize hD : madeG (gIn (A.1.nodes.length - 1) (2 * n)) (natInts (rIn 0 n)) (natInts (rIn n n)) 11 = D at h l3
  obtain ⟨GA, lA, oA⟩ := A
  obtain ⟨GB, lB, oB⟩ := B
  obtain ⟨GC, lC, oC⟩ := C
  obtain ⟨GD, lD, oD⟩ := D
  simp only [Bool.and_eq_true, Bool.not_eq_true', decide_eq_true_eq, beq_iff_eq] at h
  obtain ⟨⟨⟨⟨⟨⟨⟨⟨⟨⟨a1, a2⟩, a3⟩, a4⟩, a5⟩, a6⟩, a7⟩, a8⟩, a9⟩, a10⟩, a11⟩ := h
  subst a1 a2 a4 a5 a6
  exact ⟨GA.nodes.length, GA, GB, GC, GD, lA, lC, lD, ⟨hA, rfl, hB, a3, hC, hD, a7, a8, a9, goodB_L a10, goodB_L a11, l1, l2, l3⟩⟩
end Go.Aig
namespace Go.Proofs.Ytnmfdiiehkkjcaa
open Go.RowKit Go.Mem Go.Aig
theorem VL.at {w0 w : World} {g : Nat} {G : Gra} {F : List Nat} {L : List (Value × List Int)} {vs : List Value} {ls : List (List Nat)} (hv : VL vs ls L) (h : Hold w0 w g G F L) {k : Nat} {l : List Nat} (hl : ls[k]? = some l) : ∃ a c, vs[k]? = some (.slice a l.length c) ∧ (.slice a l.length c, natInts l) ∈ L := by
  have hlt := (List.getElem?_eq_some_iff.1 hl).1
  rw [← hv.len] at hlt
  have hu : vs[k]? = some vs[k] := List.getElem?_eq_getElem hlt
  have hm := hv.mem k _ l hu hl
  have hr := (h.held _ hm).row
  simp only [natInts_len] at hr
  obtain ⟨a, c, e⟩ := row.shape hr
  have e2 : vs[k] = .slice a l.length c := e
  rw [e2] at hu hm
  exact ⟨a, c, hu, hm⟩
theorem row_at {w : World} {e : TypeId} {b n c : Nat} {vs : List Value} (h : row w e 1 (.slice (some ⟨b, 0, none⟩) n c) n vs) {k : Nat} {v : Value} (hk : vs[k]? = some v) : w.cell? ⟨b, k, none⟩ = some v := by
  have := h.cells (g := b) rfl k v hk
  rw [Addr.add_lit] at this
  simpa using this
theorem max_nat (z : Int) (k m : Nat) (h : max z k = m) (ats : Array TypeId) (ty : TypeId) : Builtin.max_ ats ty #[.int .i64 z, .int .i64 (k : Int)] = pure (.int .i64 (m : Int)) := by
  have e : (if z < (k : Int) then (k : Int) else z) = m := by split <;> omega
  rw [← e]
  simp [Builtin.max_, Builtin.max2]
theorem max_one (z : Int) (m : Nat) (h : max z 1 = m) (ats : Array TypeId) (ty : TypeId) : Builtin.max_ ats ty #[.int .i64 z, .int .i64 1] = pure (.int .i64 (m : Int)) := max_nat z 1 m h ats ty
end Go.Proofs.Ytnmfdiiehkkjcaa
namespace Go.Proofs.Ytnmfdiiehkkjcaa
open Go.RowKit Go.Mem Go.Aig
theorem _root_.Go.Mem.blk.keep {w W : World} {b : Nat} {xs : List Value} (h : blk w b xs) (hk : W.heap[b]? = w.heap[b]?) : blk W b xs := by
  obtain ⟨T, h⟩ := h
  exact ⟨T, hk.trans h⟩
theorem _root_.Go.Mem.row.keep {w W : World} {e : TypeId} {size : Nat} {v : Value} {n : Nat} {xs : List Value} (h : row w e size v n xs) (hk : ∀ k, v.ownBlock = some k → W.heap[k]? = w.heap[k]?) : row W e size v n xs := by
  refine ⟨h.1, ?_⟩
  rcases h.2 with hn' | ⟨g, cap, cur, rfl, hb, hgg, rest⟩
  · exact .inl hn'
  · exact .inr ⟨g, cap, cur, rfl, hb, (hk g rfl).trans hgg, rest⟩
theorem GIn.keep {w W : World} {g : Nat} {G : Gra} {F : List Nat} (h : GIn w g G F) (hk : ∀ k ∈ F, W.heap[k]? = w.heap[k]?) : GIn W g G F := by
  obtain ⟨nb, ncap, iv, mb, h, rfl⟩ := h
  refine ⟨nb, ncap, iv, mb, ⟨h.st.keep (hk g (by simp [fp])), h.nodes.keep (fun k hk' => hk k (by simp [Value.ownBlock] at hk'; simp [fp, hk'])), ?_, h.ins.keep (fun k hk' => hk k (by simp [fp, hk'])), h.gm, h.gn, h.mn, h.gi, h.ni, h.mi, h.ok⟩, rfl⟩
  obtain ⟨es, clock, hm, ho⟩ := h.mp
  exact ⟨es, clock, (hk mb (by simp [fp])).trans hm, ho⟩
/-- a closure that tells a word, by the words of the nodes -/
structure TellW (w : World) (fid : Nat) (caps : Array Value) (K : List Nat) (n : Nat) (f : List Nat → Nat) : Prop where
  fn : Fnv fid
  lt : ∀ vs : List Nat, (∀ v ∈ vs, v < 2 ^ 64) → vs.length = n → f vs < 2 ^ 64
  ksz : ∀ k ∈ K, k < w.heap.size
  tells : ∀ W, (∀ k ∈ K, W.heap[k]? = w.heap[k]?) → ∀ (bx nb : Nat) (vs : List Nat), vs.length = n → (∀ v ∈ vs, v < 2 ^ 64) → W.cell? ⟨bx, 0, none⟩ = some (.slice (some ⟨nb, 0, none⟩) n n) → blk W nb (u64s vs) →
    Calls Try.prog fid (#[.func (.func 152) #[] #[.pointer (some ⟨bx, 0, none⟩)]] ++ caps) W fun e w' => e = .returned (.int .u64 (f vs)) ∧ Ch [] W w'
theorem fnvsimone1 : Fnv 150 := fnv_of Try.func150 (by simp [Try.f150]) (by simp [Try.f150])
theorem fnvsimtable1 : Fnv 148 := fnv_of Try.func148 (by simp [Try.f148]) (by simp [Try.f148])
set_option maxRecDepth 100000 in
set_option maxHeartbeats 1000000 in
theorem simone_is (w : World) (r : Int) : Calls Try.prog 85 #[.int .i64 r] w fun e w' => e = .returned (.func (.func 150) #[] #[.pointer (some ⟨w.heap.size, 0, none⟩)]) ∧ w' = w.alloc (.cells #[.int .i64 r] 29) := by
  go_enter Try.func85, Try.ntmps85
  go_wp2_with fail
  go_ret
  exact ⟨rfl, rfl⟩
set_option maxRecDepth 100000 in
set_option maxHeartbeats 1000000 in
theorem simone1_is {w : World} {bx bo nb n r : Nat} {vs : List Nat} (hr : r < 2 * n) (hn6 : n ≤ 65536) (hb : w.cell? ⟨bo, 0, none⟩ = some (.int .i64 r)) (hn : vs.length = n) (hlt : ∀ v ∈ vs, v < 2 ^ 64) (hx : w.cell? ⟨bx, 0, none⟩ = some (.slice (some ⟨nb, 0, none⟩) n n)) (hk : blk w nb (u64s vs)) :
    Calls Try.prog 150 (#[.func (.func 152) #[] #[.pointer (some ⟨bx, 0, none⟩)]] ++ #[.pointer (some ⟨bo, 0, none⟩)]) w fun e w' => e = .returned (.int .u64 (wref U64 vs r)) ∧ w = w' := by
  show Calls Try.prog 150 #[.func (.func 152) #[] #[.pointer (some ⟨bx, 0, none⟩)], .pointer (some ⟨bo, 0, none⟩)] w _
  have hcf : ∀ args w, (callFunc 152 args).run Try.prog w = .ok (.enter 152 args) w := fnvsimof1
  have hO := simof1_is hx hk hn hlt r hr (by omega)
  have HO := Lib.hid hO; clear hO hx hk hlt hn
  go_enter Try.func150, Try.ntmps150
  go_wp2_with fail
  refine HO.out.mono ?_
  rintro e w' ⟨rfl, rfl⟩
  go_wp2_with fail
  go_ret
  exact ⟨rfl, rfl⟩
theorem one_tells {w : World} {bo n r : Nat} (hr : r < 2 * n) (hn6 : n ≤ 65536) (hb : blk w bo [.int .i64 r]) : TellW w 150 #[.pointer (some ⟨bo, 0, none⟩)] [bo] n (fun vs => wref U64 vs r) :=
  ⟨fnvsimone1, fun vs h _ => by have := wref_lt (N := 64) h r; rwa [u64_pow] at this, fun k hk => by rw [List.mem_singleton.1 hk]; exact hb.lt, fun W hW bx nb vs hn hlt hx hk => (simone1_is hr hn6 ((hb.keep (hW bo (by simp))).cell (i := 0) rfl) hn hlt hx hk).mono fun e w' ⟨he, hw⟩ => ⟨he, hw ▸ Ch.refl _ _⟩⟩
set_option maxRecDepth 100000 in
set_option maxHeartbeats 1000000 in
theorem simtable_is (w : World) (g fid : Nat) (caps : Array Value) : Calls Try.prog 84 #[.pointer (some ⟨g, 0, none⟩), .func (.func fid) #[] caps] w fun e w' => e = .returned (.func (.func 148) #[] #[.pointer (some ⟨w.heap.size, 0, none⟩), .pointer (some ⟨w.heap.size + 1, 0, none⟩)]) ∧ Ch [] w w' ∧ blk w' w.heap.size [.pointer (some ⟨g, 0, none⟩)] ∧ blk w' (w.heap.size + 1) [.func (.func fid) #[] caps] ∧ w.heap.size + 2 ≤ w'.heap.size := by
  go_enter Try.func84, Try.ntmps84
  go_wp2_with fail
  go_ret
  exact ⟨rfl, ((Ch.refl _ _).alloc _).alloc _, (blk.new' _ _ (by simp)).alloc _, blk.new' _ _ (by simp), by simp⟩
/-- what the table yields: the block's number, and its word -/
def tabL (ns : List Nd) (f : List Nat → Nat) (n : Nat) : List (Nat × Nat) := (List.range (2 ^ (n - 6))).map fun b => (b, f (wvF M64 (inW n b) ns).1 &&& maskW n)
def tabEnc (p : Nat × Nat) : Array Value := #[.int .i64 p.1, .int .u64 p.2]
theorem tabL_snd (ns : List Nd) (f : List Nat → Nat) (n : Nat) : (tabL ns f n).map Prod.snd = tabW ns f n := by
  unfold tabL tabW
  rw [List.map_map]; rfl
theorem tabL_len (ns : List Nd) (f : List Nat → Nat) (n : Nat) : (tabL ns f n).length = 2 ^ (n - 6) := by simp [tabL]
theorem tabL_at (ns : List Nd) (f : List Nat → Nat) (n : Nat) {k : Nat} (hk : k < 2 ^ (n - 6)) : (tabL ns f n)[k]? = some (k, f (wvF M64 (inW n k) ns).1 &&& maskW n) := by
  unfold tabL
  rw [List.getElem?_map, List.getElem?_range hk]; rfl
theorem mask_lt (n : Nat) : maskW n < 18446744073709551616 := by
  unfold maskW
  split
  · rename_i h
    have h2 : 2 ^ n ≤ 2 ^ 5 := Nat.pow_le_pow_right (by omega) (by omega)
    have h3 : 2 ^ 2 ^ n ≤ 2 ^ 2 ^ 5 := Nat.pow_le_pow_right (by omega) h2
    have h4 : (2 : Nat) ^ 2 ^ 5 = 4294967296 := by decide
    omega
  · unfold M64; omega
set_option maxRecDepth 100000 in
set_option maxHeartbeats 8000000 in
theorem simtable_seq {W0 : World} {g : Nat} {G : Gra} {F : List Nat} (h : GIn W0 g G F) {fid : Nat} {caps : Array Value} {Kf : List Nat} {f : List Nat → Nat} {N : Nat} (hT : TellW W0 fid caps Kf N f) (hN : G.nodes.length = N) {n : Nat} (hn : (inputs G.nodes).length = n) (hn16 : n ≤ 16)
    {bg bf : Nat} (hbg : blk W0 bg [.pointer (some ⟨g, 0, none⟩)]) (hbf : blk W0 bf [.func (.func fid) #[] caps]) (m : Nat) (hm : 1 ≤ m) :
    SeqP Fence.wide m Try.prog 148 #[.pointer (some ⟨bg, 0, none⟩), .pointer (some ⟨bf, 0, none⟩)] tabEnc (bg :: bf :: (F ++ Kf)) (tabL G.nodes f n) W0 := by
  intro lp J Jx W hK hJ hJx hY h0
  have hg := h.keep (fun k hk => hK k (by simp [hk]))
  have c_g := (hbg.keep (hK bg (by simp))).cell (i := 0) rfl
  have HIN := Inputs_g hg
  rw [hn] at HIN
  have hmxN : max ((n : Int) - 6) 0 = ((n - 6 : Nat) : Int) := by omega
  have hmx : ∀ ats ty, Builtin.max_ ats ty #[.int .i64 ((n : Int) - 6), .int .i64 0] = pure (.int .i64 ((n - 6 : Nat) : Int)) := fun ats ty => by
    have := max_nat ((n : Int) - 6) 0 (n - 6) (by omega) ats ty
    simpa using this
  show CallsIn Fence.wide m Try.prog 148 #[.func (.yield lp) #[] #[], .pointer (some ⟨bg, 0, none⟩), .pointer (some ⟨bf, 0, none⟩)] W _
  have HY := Lib.hid hY; clear hY
  have HJ := Lib.hid hJ; clear hJ
  have HJX := Lib.hid hJx; clear hJx
  have H0 := Lib.hid h0; clear h0
  have HK := Lib.hid hK; clear hK
  have H := Lib.hid h; clear h
  have HG := Lib.hid hg; clear hg
  have HT := Lib.hid hT; clear hT
  have HBG := Lib.hid hbg; clear hbg
  have HBF := Lib.hid hbf; clear hbf
  have HNI := Lib.hid hn; clear hn
  have HIN := Lib.hid HIN
  have hml := mask_lt n
  have hml2 : n < 6 → maskW n = 2 ^ 2 ^ n - 1 := fun h => by unfold maskW; rw [if_pos h]
  have hml3 : ¬ n < 6 → maskW n = 18446744073709551615 := fun h => by unfold maskW; rw [if_neg h]; rfl
  obtain ⟨M, hM⟩ : ∃ M, M = maskW n := ⟨_, rfl⟩
  rw [← hM] at hml hml2 hml3
  have HM := Lib.hid hM; clear hM
  have HM2 := Lib.hid hml2; clear hml2
  have HM3 := Lib.hid hml3; clear hml3
  refine callsIn_of_wp Try.func148 rfl trivial ?_ rfl
  simp only [Try.ntmps148, List.size_toArray, List.length_cons, List.length_nil, Nat.reduceAdd, Nat.reduceSub, Array.replicate_succ, Array.replicate_zero, List.push_toArray, List.append_toArray, List.nil_append, List.cons_append]
  refine wpIn_wide.2 ?_
  go_wp2_with fail
  refine HIN.out.mono ?_
  rintro e W1 ⟨v, rfl, hrow, _, hc1⟩
  obtain ⟨ia, ic, rfl⟩ := row.shape hrow
  have HC1 := Lib.hid hc1; clear hc1 hrow HIN
  clear c_g
  go_upto_if 11 with fail
  go_cut [5] (fun mk wd => wd = W1 ∧ mk = .int .u64 M)
  case first =>
    by_cases hn6 : n < 6
    · have hm2 := HM2.out hn6
      have h6 : n = 0 ∨ n = 1 ∨ n = 2 ∨ n = 3 ∨ n = 4 ∨ n = 5 := by omega
      rcases h6 with rfl | rfl | rfl | rfl | rfl | rfl
      all_goals
        have HM2' := Lib.hid hm2
        clear hm2
        go_wp2_with fail
        go_meet
        case rel => exact ⟨rfl, by rw [HM2'.out]; rfl⟩
    · have hm3 := Lib.hid (HM3.out hn6)
      go_wp2_with fail
      go_meet
      case rel => exact ⟨rfl, by rw [hm3.out]; rfl⟩
  case rest =>
    obtain ⟨rfl, rfl⟩ := hcut
    go_wp2_with fail
    obtain ⟨C, hC, hC10⟩ : ∃ C, 2 ^ (n - 6) = C ∧ C ≤ 1024 := ⟨2 ^ (n - 6), rfl, by
      have : (2 : Nat) ^ (n - 6) ≤ 2 ^ 10 := Nat.pow_le_pow_right (by omega) (by omega)
      omega⟩
    have hwC : wrap64 ((2 : Int) ^ (n - 6)) = ((C : Nat) : Int) := by
      have : ((2 : Int) ^ (n - 6)) = ((2 ^ (n - 6) : Nat) : Int) := by simp
      rw [this, hC]
      exact IntWalk.wrap64_in _ (by omega)
    rw [hwC]
    have hlen : (tabL G.nodes f n).length = C := by rw [tabL_len]; exact hC
    have hat := fun (k : Nat) (hk : k < C) => tabL_at G.nodes f n (k := k) (by rw [hC]; exact hk)
    obtain ⟨T, hTt⟩ : ∃ T, T = tabL G.nodes f n := ⟨_, rfl⟩
    rw [← hTt] at hlen hat HY
    have HLEN := Lib.hid hlen; clear hlen
    have HAT := Lib.hid hat; clear hat
    have HTT := Lib.hid hTt; clear hTt
    clear hwC hC hmx hmxN
    refine (wpIn_wide (n := m)).1 ?_
    gi_loopw [20] (fun i wr => ∃ k : Nat, k ≤ C ∧ i = .int .i64 k ∧ (∀ q ∈ bg :: bf :: (F ++ Kf), wr.heap[q]? = W0.heap[q]?) ∧ J (T.take k) wr) (fun i _ => C - (intOf i).toNat)
    case atStart =>
      refine ⟨0, Nat.zero_le _, rfl, fun q hq => ?_, HJ.out _ _ _ H0.out HC1.out⟩
      have hlt : q < W.heap.size := by
        have h1 := HK.out q hq
        have h2 : q < W0.heap.size := by
          simp only [List.mem_cons, List.mem_append] at hq
          rcases hq with rfl | rfl | hq | hq
          · exact HBG.out.lt
          · exact HBF.out.lt
          · exact H.out.lt q hq
          · exact HT.out.ksz q hq
        rw [Array.getElem?_eq_getElem h2] at h1
        exact (Array.getElem?_eq_some_iff.1 h1).1
      rw [HC1.out.block q hlt (by simp)]
      exact HK.out q hq
    case round =>
      clear HG HIN
      obtain ⟨k, hk, rfl, hq, hj⟩ := hrel
      by_cases hlt : k < C
      · have hxk := HAT.out k hlt
        have hsu : T.take (k + 1) = T.take k ++ [(k, f (wvF M64 (inW n k) G.nodes).1 &&& maskW n)] := by rw [List.take_add_one, hxk]; rfl
        have hqs : ∀ q ∈ bg :: bf :: (F ++ Kf), q < wr.heap.size := fun q hq' => by
          have h1 := hq q hq'
          have h2 : q < W0.heap.size := by
            simp only [List.mem_cons, List.mem_append] at hq'
            rcases hq' with rfl | rfl | hq' | hq'
            · exact HBG.out.lt
            · exact HBF.out.lt
            · exact H.out.lt q hq'
            · exact HT.out.ksz q hq'
          rw [Array.getElem?_eq_getElem h2] at h1
          exact (Array.getElem?_eq_some_iff.1 h1).1
        have hg := H.out.keep (fun q hq' => hq q (by simp [hq']))
        have hbg := HBG.out.keep (hq bg (by simp))
        have hbf := HBF.out.keep (hq bf (by simp))
        have hvs := wvF_lt (N := 64) (inW_lt n k) G.nodes
        rw [u64_pow] at hvs
        have hvl := wvF_len U64 (inW n k) G.nodes
        rw [hN] at hvl
        have hfl := HT.out.lt _ hvs.1 hvl
        have hHY := HY.out (T.take k) (k, f (wvF M64 (inW n k) G.nodes).1 &&& maskW n)
        rw [← hsu, show M64 = U64 from rfl, ← HM.out] at hHY
        rw [show M64 = U64 from rfl, ← HM.out] at hsu
        have HND := fun (w1 : World) (hc1 : Ch [] wr w1) (xa : Option Addr) (xc : Nat) (hr : row w1 45 1 (.slice xa n xc) n (u64s (inW n k))) => simnodes_is (hg.same hc1 (by simp)) (ins := inW n k) (xa := xa) xc (row.sv hr rfl (by omega)) (by rw [HNI.out, inW_len]) (inW_lt n k) (by rw [inW_len]; exact (row.capLe' hr).1) (row.capLe' hr).2
        simp only [inW_len, hN] at HND
        have hand := bits_and_u64_nat (f (wvF U64 (inW n k) G.nodes).1) M (by omega) hml
        generalize hVS : (wvF U64 (inW n k) G.nodes).1 = VS at *
        generalize hfv : f VS = fv at *
        generalize fv &&& M = x at hand hsu hHY
        have HTL := fun W hW bx nb => HT.out.tells W hW bx nb VS hvl hvs.1
        rw [hfv] at HTL
        have HHY := Lib.hid hHY; clear hHY
        have HSU := Lib.hid hsu; clear hsu
        have HND := Lib.hid HND
        have HTL := Lib.hid HTL
        have HQ := Lib.hid hq; clear hq
        have HJ1 := Lib.hid hj; clear hj
        have HQS := Lib.hid hqs; clear hqs
        clear hxk hg hvs hvl hfl hVS hfv
        gi_wp2
        refine Ord.StI.door (fun w' => w'.cell? ⟨bf, 0, none⟩ = some (.func (.func fid) #[] caps) ∧ w'.cell? ⟨bg, 0, none⟩ = some (.pointer (some ⟨g, 0, none⟩))) [.fl, .fl, .ho, .ho, .fl, .fl, .ef, .ef, .ef, .ef, .fl, .fl, .ef, .fl] [0, 0, 0, 0, 0, 0, 48, 120, 248, 508, 0, 2044, 4095, 8191] [0, 1, 2, 3, 4, 5, 6, 7, 8, 9, 10, 11, 12, 13] mixed (by kernel_rfl) rfl ?_
        obtain ⟨Wc, hWc⟩ : ∃ Wc, Wc = wr.drew := ⟨_, rfl⟩
        rw [← hWc]
        have hcur : Ch [] wr Wc := by rw [hWc]; exact (Ch.refl _ _).drew
        clear hWc
        replace hbg := hbg.ch hcur (by simp)
        replace hbf := hbf.ch hcur (by simp)
        have HCUR := Lib.hid hcur; clear hcur
        refine Ord.StI.fl2 (T' := ?_) 0 [1, 2, 3, 4, 5, 6, 7, 8, 9, 10, 11, 12, 13] _ _ rfl (by kernel_rfl) rfl rfl rfl rfl (fun K w' hk => ?_) ?_
        rotate_left
        · go_step; exact hk
        refine Ord.StI.fl2 (T' := ?_) 1 [2, 3, 4, 5, 6, 7, 8, 9, 10, 11, 12, 13] _ _ rfl (by kernel_rfl) rfl rfl rfl rfl (fun K w' hk => ?_) ?_
        rotate_left
        · go_step; exact hk
        refine Ord.StI.ho2 (T' := ?_) 2 [3, 4, 5, 6, 7, 8, 9, 10, 11, 12, 13] _ _ rfl (by kernel_rfl) rfl rfl rfl rfl ?_ (fun K w' hw' hk => ?_) ?_
        rotate_left
        · exact ⟨hbf.cell rfl, hbg.cell rfl⟩
        · obtain ⟨q1, q2⟩ := hw'; go_step; exact hk
        refine Ord.StI.ho2 (T' := ?_) 3 [4, 5, 6, 7, 8, 9, 10, 11, 12, 13] _ _ rfl (by kernel_rfl) rfl rfl rfl rfl ?_ (fun K w' hw' hk => ?_) ?_
        rotate_left
        · exact ⟨hbf.cell rfl, hbg.cell rfl⟩
        · obtain ⟨q1, q2⟩ := hw'; go_step; exact hk
        refine Ord.StI.fl2 (T' := ?_) 4 [5, 6, 7, 8, 9, 10, 11, 12, 13] _ _ rfl (by kernel_rfl) rfl rfl rfl rfl (fun K w' hk => ?_) ?_
        rotate_left
        · go_step; exact hk
        refine Ord.StI.fl2 (T' := ?_) 5 [6, 7, 8, 9, 10, 11, 12, 13] _ _ rfl (by kernel_rfl) rfl rfl rfl rfl (fun K w' hk => ?_) ?_
        rotate_left
        · go_step; exact hk
        refine Ord.StI.fl2 (T' := ?_) 10 [6, 7, 8, 9, 11, 12, 13] _ _ rfl (by kernel_rfl) rfl rfl rfl rfl (fun K w' hk => ?_) ?_
        rotate_left
        · go_step; exact hk
        refine Ord.StI.efC 6 [7, 8, 9, 11, 12, 13] _ rfl (by kernel_rfl) (fun K hK => ?_)
        go_wp2_with fail
        refine (siminputs_is n k (by omega) (by omega)).mono ?_
        rintro e w1 ⟨v1, rfl, hr1, _, hc1⟩
        obtain ⟨xa, xc, rfl⟩ := row.shape hr1
        replace hbg := hbg.ch hc1 (by simp)
        replace hbf := hbf.ch hc1 (by simp)
        have hc1 := HCUR.out.trans hc1 (by simp)
        have hnd := HND.out w1 hc1 xa xc hr1
        have HN1 := Lib.hid hnd; clear hnd HND hr1
        have HC2 := Lib.hid hc1; clear hc1 HCUR
        go_wp2_with fail
        refine ⟨rfl, hK _ _ ?_ ?_⟩
        · exact ⟨hbf.cell rfl, hbg.cell rfl⟩
        clear hK K
        refine Ord.StI.efC 7 [8, 9, 11, 12, 13] _ rfl (by kernel_rfl) (fun K hK => ?_)
        go_wp2_with fail
        refine HN1.out.mono ?_
        rintro e w2 ⟨rfl, hbn, hc2⟩
        replace hbg := hbg.ch hc2 (by simp)
        replace hbf := hbf.ch hc2 (by simp)
        have HC3 := Lib.hid (HC2.out.trans hc2 (by simp)); clear hc2 HC2 HN1
        generalize w1.heap.size = nb at *
        have HBN := Lib.hid hbn; clear hbn
        go_wp2_with fail
        refine ⟨rfl, hK _ _ ?_ ?_⟩
        · exact ⟨hbf.cell rfl, hbg.cell rfl⟩
        clear hK K
        refine Ord.StI.efC 8 [9, 11, 12, 13] _ rfl (by kernel_rfl) (fun K hK => ?_)
        go_wp2_with fail
        refine (simof_is (w := w2) (some ⟨nb, 0, none⟩) N N).mono ?_
        rintro e w3 ⟨rfl, hw3⟩
        have hbx := alw_blk (xs := [.slice (some ⟨nb, 0, none⟩) N N]) hw3
        replace hbg := hbg.ch (alw_ch hw3) (by simp)
        replace hbf := hbf.ch (alw_ch hw3) (by simp)
        have hbn := HBN.out.ch (alw_ch hw3) (by simp)
        have hc3 := HC3.out.trans (alw_ch hw3) (by simp)
        clear hw3 HC3 HBN
        generalize w2.heap.size = bx at *
        have htl := HTL.out w3 (fun q hq => (hc3.block q (HQS.out q (by simp [hq])) (by simp)).trans (HQ.out q (by simp [hq]))) bx nb (hbx.cell (i := 0) rfl) hbn
        have HT1 := Lib.hid htl; clear htl HTL hbx hbn
        have HC4 := Lib.hid hc3; clear hc3
        go_wp2_with fail
        refine ⟨rfl, hK _ _ ?_ ?_⟩
        · exact ⟨hbf.cell rfl, hbg.cell rfl⟩
        clear hK K
        refine Ord.StI.ef 9 [11, 12, 13] _ rfl (by kernel_rfl) (fun K hK => ?_)
        have hcf : ∀ args w, (callFunc fid args).run Try.prog w = .ok (.enter fid args) w := HT.out.fn
        go_wp2_with fail
        refine HT1.out.mono ?_
        rintro e w4 ⟨rfl, hc5⟩
        have HC5 := Lib.hid (HC4.out.trans hc5 (by simp)); clear hc5 HC4
        clear hcf HT1
        go_wp2_with fail
        refine ⟨rfl, hK _ _ ?_⟩; clear hK K
        refine Ord.StI.fl2 (T' := ?_) 11 [12, 13] _ _ rfl (by kernel_rfl) rfl rfl rfl rfl (fun K w' hk => ?_) ?_
        rotate_left
        · go_step; exact hk
        refine Ord.StI.efY 12 [13] _ rfl (by kernel_rfl) (fun K hK => ?_)
        obtain ⟨fn, tmps, assign, body, hy1, hR⟩ := HHY.out w4 (HJ.out _ _ _ HJ1.out HC5.out) (List.take_prefix _ _)
        simp only [tabEnc] at hy1
        gi_wp2
        refine hR.mono ?_
        intro e W2 hcase
        obtain ⟨b, rfl, hb⟩ : ∃ b, e = .returned (.bool b) ∧ (b = true ∧ J (T.take (k + 1)) W2 ∧ Kept (bg :: bf :: (F ++ Kf)) w4 W2 ∨ b = false ∧ Jx W2) := by rcases hcase with ⟨rfl, h1, h2⟩ | ⟨rfl, h1⟩; exact ⟨true, rfl, .inl ⟨rfl, h1, h2⟩⟩; exact ⟨false, rfl, .inr ⟨rfl, h1⟩⟩
        have HB := Lib.hid hb; clear hb hcase hR hy1
        gi_wp2
        refine ⟨rfl, hK _ _ ?_⟩; clear hK K
        refine Ord.StI.fl2 (T' := ?_) 13 [] _ _ rfl (by kernel_rfl) rfl rfl rfl rfl (fun K w' hk => ?_) ?_
        rotate_left
        · go_step; exact hk
        refine Ord.StI.nil ?_
        have hbb := HB.out
        clear HB
        cases b
        · have hj2 := Lib.hid ((hbb.resolve_left (by simp)).2); clear hbb
          gi_wp2
          refine bodyPost_ret (results_none rfl _ _ _) rfl ?_
          exact ⟨⟨_, rfl⟩, .inr hj2.out⟩
        · have hj2 := Lib.hid ((hbb.resolve_right (by simp)).2); clear hbb
          gi_wp2
          go_roundw
          case rel => exact ⟨k + 1, by omega, by go_num, fun q hq => (hj2.out.2 q hq).trans ((HC5.out.block q (HQS.out q hq) (by simp)).trans (HQ.out q hq)), hj2.out.1⟩
          case measure => simp [intOf]; omega
      · have hkl : T.take k = T := List.take_of_length_le (by have := HLEN.out; omega)
        rw [hkl] at hj
        have HJ1 := Lib.hid hj; clear hj
        clear hkl
        gi_wp2
        go_end0
        exact ⟨⟨_, rfl⟩, .inl (by rw [← HTT.out]; exact HJ1.out)⟩
end Go.Proofs.Ytnmfdiiehkkjcaa
namespace Go.Ord
open Go
theorem list_wide {lp n : Nat} {P : Program} {ops : Array Oper} {Q : Exit → Act → World → Prop} (hnl : ¬ LetsOut Q) : ∀ (l : List Oper) (a : Act) (w : World), l.all noDefer = true → wpList P ops Q l a w → wpListIn (Fence.wide.inRound lp) n P ops Q l a w
  | [], _, _, _, h => h
  | o :: rest, a, w, hq, h => by
    rw [List.all_cons, Bool.and_eq_true] at hq
    unfold wpList at h
    unfold wpListIn
    split
    · rename_i hw
      rw [if_pos hw] at h
      exact wide_in hq.1 (Oper.wp_mono (fun a w hh => list_wide hnl rest a w hq.2 hh) (h.resolve_right fun hh => hnl hh.2))
    · rename_i hw
      rw [if_neg hw] at h
      exact ⟨fun _ _ => trivial, list_wide hnl rest _ w hq.2 h⟩
theorem plainR {lp n id : Nat} {P : Program} {l : List Oper} {Q' : Exit → Act → World → Prop} {a : Act} {w : World} (hqq : l.all noDefer = true) (h : wpList P l.toArray (only (Q' .normal)) l a w) :
    (Code.region id l.toArray false).wpIn (Fence.wide.inRound lp) n P Q' a w := by
  refine Go.wpIn_mono (Q := only (Q' .normal)) ?_ (fun e a w ⟨he, hq⟩ => he ▸ hq)
  exact wpIn_region_lit (list_wide (only_lets _) l a w hqq h)
end Go.Ord
namespace Go.Proofs.Ytnmfdiiehkkjcaa
open Go.RowKit Go.Mem Go.Aig
attribute [local go_sem] Oper.semAt_some
/-- what tabled tells -/
def tabE (G : Gra) (l : List Int) : Nat := if badIn G l then 200 else if 16 < (inputs G.nodes).length then 211 else 0
theorem tabE_lt (G : Gra) (l : List Int) : tabE G l ≤ 211 := by unfold tabE; (repeat' split) <;> omega
theorem tabE_ok {G : Gra} {l : List Int} (h : tabE G l = 0) : badIn G l = false ∧ (inputs G.nodes).length ≤ 16 := by
  unfold tabE at h
  by_cases h1 : badIn G l = true
  · rw [if_pos h1] at h; cases h
  · rw [if_neg h1] at h
    split at h
    · cases h
    · exact ⟨by simpa using h1, by omega⟩
section
variable {w : World} {g : Nat} {G : Gra} {F : List Nat}
set_option maxRecDepth 100000 in
set_option maxHeartbeats 2000000 in
theorem simtabled_is (h : GIn w g G F) {a : Option Addr} {l : List Int} (n c : Nat) (hn : l.length = n) (hS : Sl w a l) (hbd : ∀ r ∈ l, r ≤ 9223372036854775807) :
    Calls Try.prog 83 #[.pointer (some ⟨g, 0, none⟩), .slice a n c] w fun e w' => e = .returned (.int .i64 (tabE G l)) ∧ Ch [] w w' := by
  have HCK := simcheck_is h n c hn hS hbd
  have HIN := fun (W : World) (hW : Ch [] w W) => Inputs_g (h.same hW (by simp))
  have HIN := Lib.hid HIN
  unfold tabE
  clear h hS
  cases hb : badIn G l
  · rw [hb] at HCK
    simp only [Bool.false_eq_true, if_false] at HCK ⊢
    by_cases h16 : 16 < (inputs G.nodes).length
    · rw [if_pos h16]
      have e1 : decide (((inputs G.nodes).length : Int) > 16) = true := decide_eq_true (by omega)
      have H16 := Lib.hid h16; clear h16
      generalize hni : (inputs G.nodes).length = ni at *
      have HNI := Lib.hid hni; clear hni
      go_enter Try.func83, Try.ntmps83
      go_wp2_with fail
      refine HCK.mono ?_
      rintro e w1 ⟨rfl, hc1⟩
      have hI := HIN.out w1 hc1
      have HI := Lib.hid hI; clear hI HIN
      have HC1 := Lib.hid hc1; clear hc1
      go_wp2_with fail
      refine HI.out.mono ?_
      rintro e w2 ⟨v, rfl, hr, _, hc2⟩
      obtain ⟨ia, ic, rfl⟩ := row.shape hr
      have HC2 := Lib.hid (HC1.out.trans hc2 (by simp)); clear hc2 hr HI HC1
      go_wp2_with fail
      go_ret
      exact ⟨rfl, HC2.out⟩
    · rw [if_neg h16]
      have e1 : decide (((inputs G.nodes).length : Int) > 16) = false := decide_eq_false (by omega)
      have H16 := Lib.hid h16; clear h16
      generalize hni : (inputs G.nodes).length = ni at *
      have HNI := Lib.hid hni; clear hni
      go_enter Try.func83, Try.ntmps83
      go_wp2_with fail
      refine HCK.mono ?_
      rintro e w1 ⟨rfl, hc1⟩
      have hI := HIN.out w1 hc1
      have HI := Lib.hid hI; clear hI HIN
      have HC1 := Lib.hid hc1; clear hc1
      go_wp2_with fail
      refine HI.out.mono ?_
      rintro e w2 ⟨v, rfl, hr, _, hc2⟩
      obtain ⟨ia, ic, rfl⟩ := row.shape hr
      have HC2 := Lib.hid (HC1.out.trans hc2 (by simp)); clear hc2 hr HI HC1
      go_wp2_with fail
      go_ret
      exact ⟨rfl, HC2.out⟩
  · rw [hb] at HCK
    simp only [if_true] at HCK ⊢
    go_enter Try.func83, Try.ntmps83
    go_wp2_with fail
    refine HCK.mono ?_
    rintro e w1 ⟨rfl, hc1⟩
    have HC1 := Lib.hid hc1; clear hc1
    go_wp2_with fail
    go_ret
    exact ⟨rfl, HC1.out⟩
theorem Sl.one {w : World} {b : Nat} {r : Int} (h : blk w b [.int .i64 r]) : Sl w (some ⟨b, 0, none⟩) [r] := ⟨fun i x hx => by
  rcases i with _ | i
  · cases hx; exact ⟨b, 0, rfl, h.cell rfl⟩
  · simp at hx, by simp⟩
/-- the word of a reference, of the words of the nodes -/
def oneF (r : Int) : List Nat → Nat := fun vs => wref M64 vs r.toNat
/-- what Table returns -/
def tableR (G : Gra) (r : Int) : List Nat × Nat := (if tabE G [r] = 0 then tabW G.nodes (oneF r) (inputs G.nodes).length else [], tabE G [r])
set_option maxRecDepth 100000 in
set_option maxHeartbeats 8000000 in
theorem simTable_is (h : GIn w g G F) (r : Int) (hr : -9223372036854775808 ≤ r ∧ r ≤ 9223372036854775807) :
    Calls Try.prog 20 #[.pointer (some ⟨g, 0, none⟩), .int .i64 r] w fun e w' => ∃ v, e = .returned (.tuple #[v, .int .i64 (tableR G r).2]) ∧ UNew w v (tableR G r).1 w' := by
  have HTD := fun (W : World) (hW : Ch [] w W) (b : Nat) (hb : blk W b [.int .i64 r]) => simtabled_is (h.same hW (by simp)) (l := [r]) 1 1 rfl (Sl.one hb) (by simpa using hr.2)
  unfold tableR
  have hle := tabE_lt G [r]
  have hok := tabE_ok (G := G) (l := [r])
  generalize tabE G [r] = te at *
  have HTD := Lib.hid HTD
  by_cases h0 : te = 0
  · subst h0
    obtain ⟨hbad, h16⟩ := hok rfl
    have hrr := badIn_no hbad
    obtain ⟨r0, rfl⟩ : ∃ r0 : Nat, r = (r0 : Int) := ⟨r.toNat, by
      have := hrr.1
      simp [nats] at this
      omega⟩
    have hrl : r0 < 2 * G.nodes.length := hrr.2 r0 (by simp [nats])
    have hnl : G.nodes.length ≤ 65536 := by have := h.ok.room; have := h.ok.most; omega
    have hFl := h.lt
    clear hok hbad hrr hle
    obtain ⟨n, hn⟩ : ∃ n, (inputs G.nodes).length = n := ⟨_, rfl⟩
    rw [hn] at h16 ⊢
    have H := Lib.hid h; clear h
    have HN := Lib.hid hn; clear hn
    rw [if_pos rfl]
    refine callsIn_wide (n := 4) |>.1 ?_
    refine callsIn_of_wp_marks Try.func20 rfl trivial ?_ rfl
    simp only [Try.ntmps20, List.size_toArray, List.length_cons, List.length_nil, Nat.reduceAdd, Nat.reduceSub, Array.replicate_succ, Array.replicate_zero, List.push_toArray, List.append_toArray, List.nil_append, List.cons_append]
    refine wpIn_wide.2 ?_
    go_upto_region 1 with fail
    go_wp2_with fail
    refine calls_named fun W1 hW1 => ?_
    have hc1 := alw_ch hW1
    have hb1 := alw_blk (xs := [.int .i64 r0]) hW1
    clear hW1
    refine (HTD.out W1 hc1 _ hb1).mono ?_
    rintro e w2 ⟨rfl, hc2⟩
    have hc2 := hc1.trans hc2 (by simp)
    clear HTD hb1 hc1
    go_upto_region 5 with fail
    refine wp_alw ?_
    intro W3 hW3
    have hb7 := alw_blk (xs := [.slice none 0 0]) hW3
    have hc3 := hc2.trans (alw_ch hW3) (by simp)
    have hz3 : w.heap.size ≤ w2.heap.size := hc2.size
    clear hW3 hc2
    generalize w2.heap.size = b7 at *
    have HB7 := Lib.hid hb7; clear hb7
    have HC3 := Lib.hid hc3; clear hc3
    go_wp2_with fail
    refine (simone_is W3 r0).mono ?_
    rintro e W4 ⟨rfl, hW4⟩
    have hbo := alw_blk (xs := [.int .i64 r0]) hW4
    have hb7 := HB7.out.ch (alw_ch hW4) (by simp)
    have hc4 := HC3.out.trans (alw_ch hW4) (by simp)
    have hz4 : b7 < W3.heap.size := HB7.out.lt
    clear hW4 HB7 HC3
    generalize W3.heap.size = bo at *
    have HBO := Lib.hid hbo; clear hbo
    have HB7 := Lib.hid hb7; clear hb7
    have HC4 := Lib.hid hc4; clear hc4
    go_wp2_with fail
    refine (simtable_is W4 g 150 #[.pointer (some ⟨bo, 0, none⟩)]).mono ?_
    rintro e W5 ⟨rfl, hc5, hbg, hbf, hz5⟩
    have hb7 := HB7.out.ch hc5 (by simp)
    have hbo := HBO.out.ch hc5 (by simp)
    have hz45 := HBO.out.lt
    have hc := HC4.out.trans hc5 (by simp)
    clear hc5 HB7 HBO HC4
    generalize hbG : W4.heap.size = bg at *
    have H7 := Lib.hid hb7; clear hb7
    have HO := Lib.hid hbo; clear hbo
    have HG := Lib.hid hbg; clear hbg
    have HF := Lib.hid hbf; clear hbf
    have HC5 := Lib.hid hc; clear hc
    go_wp2_with fail
    have hseq := simtable_seq (H.out.same HC5.out (by simp)) (one_tells hrl hnl HO.out) rfl HN.out h16 HG.out HF.out 3 (by omega)
    refine (wpIn_wide (n := 4)).1 ?_
    obtain ⟨B, hB⟩ : ∃ B, W5.heap.size = B := ⟨_, rfl⟩
    refine wpIn_rangeFunc_P (n := 4) B hB rfl (by omega) rfl trivial (fun args w => fnvsimtable1 args w) hseq ?kb (fun _ => rfl)
      (fun pre W => ∃ v, row W 45 1 v pre.length (u64s (pre.map Prod.snd)) ∧ blk W b7 [v] ∧ Ch [b7, B, B + 1] W5 W ∧ ∀ q ∈ v.ownBlock.toList, B + 2 ≤ q)
      (fun _ => False) ?hi (fun _ _ h _ => h) ?h0 ?a1 ?assign ?body ?done (fun _ h _ _ => h.elim)
    case assign =>
      intro q x W K hK
      simp only [tabEnc]
      gi_wp2
      exact hK
    case kb =>
      intro k hk
      simp only [List.mem_cons, List.mem_append, List.not_mem_nil, or_false] at hk
      rcases hk with rfl | rfl | hk | rfl
      · omega
      · omega
      · have := hFl k hk; have := HC5.out.size; omega
      · omega
    case hi =>
      rintro pre A A' ⟨v, h1, h2, h3, h4⟩ hc
      exact ⟨v, h1.ch hc (fun k hk hin => by have := h4 k (by rw [hk]; simp); simp only [List.mem_cons, List.not_mem_nil, or_false] at hin; omega), h2.ch hc (by simp; omega), h3.trans (hc.mono (F' := [b7, B, B + 1]) (by simp)) (fun q hq => .inl hq), h4⟩
    case h0 => exact ⟨.slice none 0 0, ⟨rfl, .inl ⟨rfl, rfl⟩⟩, H7.out, Ch.refl _ _, by simp⟩
    case body =>
      rintro q pre ⟨i, x⟩ W ⟨v, hrow, hb7, hc, hv⟩ hWl hpx
      obtain ⟨va, vc, rfl⟩ := row.shape hrow
      have hpl : pre.length + 1 ≤ 1024 := by
        have h1 := hpx.length_le
        rw [tabL_len, List.length_append] at h1
        have : (2 : Nat) ^ (n - 6) ≤ 2 ^ 10 := Nat.pow_le_pow_right (by omega) (by omega)
        simp at h1
        omega
      have hb7B : b7 < B := by omega
      have hbgB : bg + 2 ≤ B := by omega
      have HB := Lib.hid hB
      have c7 := hb7.cell (i := 0) rfl
      have hcA : Ch [] W (W.alloc (.cells #[.int .u64 x] 45)) := (Ch.refl _ _).alloc _
      have hrA := hrow.ch hcA (by simp)
      have hbA : blk (W.alloc (.cells #[.int .u64 x] 45)) W.heap.size [.int .u64 x] := blk.new' _ _ rfl
      have h7A := hb7.alloc (.cells #[.int .u64 x] 45)
      have HCA := Lib.hid hcA; clear hcA
      have HRA := Lib.hid hrA; clear hrA hrow
      have HBA := Lib.hid hbA; clear hbA
      have H7A := Lib.hid h7A; clear h7A hb7
      have HCC := Lib.hid hc; clear hc
      have HV := Lib.hid hv; clear hv
      clear hpx hseq hB
      refine wpIn_block ?_
      refine Ord.plainR (by kernel_rfl) ?_
      go_wp2_with (at_builtin; go_loud (refine wpList_append_row slU64s rfl _ _ rfl (v := .slice va pre.length vc) (n := pre.length) (xs := u64s (pre.map Prod.snd)) rfl HRA.out (ad := ⟨W.heap.size, 0, none⟩) (m := 1) (c := 1) (news := [.int .u64 x]) rfl rfl (news_blk HBA.out) (by simp [Value.oneCell']) (by omega) (by omega) ?_; intro v' w6 hown4 hC4 hf4; obtain ⟨gb, gc, rfl⟩ := row.parts hown4 (by omega); have h76 := H7A.out.ch hC4 (fun hk => by have := HV.out _ hk; omega); have k1 := h76.cell (i := 0) rfl; have k2 := h76.frozen (i := 0); have H76 := Lib.hid h76; clear h76; have HO4 := Lib.hid hown4; clear hown4; have HC4 := Lib.hid hC4; clear hC4; have HF4 := Lib.hid hf4; clear hf4))
      refine ⟨rfl, ?_⟩
      have hgb : B + 2 ≤ gb := by
        rcases HF4.out gb rfl with e | e
        · exact HV.out gb (by rw [e]; simp)
        · simp at e; omega
      have hc6 : Ch (b7 :: (Value.slice va pre.length vc).ownBlock.toList) W (w6.setCell ⟨b7, 0, none⟩ (.slice (some ⟨gb, 0, none⟩) (pre.length + 1) gc)) := ((HCA.out.mono (F' := b7 :: (Value.slice va pre.length vc).ownBlock.toList) (by simp)).trans HC4.out (fun q hq => .inl (List.mem_cons_of_mem _ hq))).setCell (.inl (by simp)) _
      have hF6 : ∀ q ∈ b7 :: (Value.slice va pre.length vc).ownBlock.toList, q = b7 ∨ B + 2 ≤ q := fun q hq => by
        rcases List.mem_cons.1 hq with e | e
        · exact .inl e
        · exact .inr (HV.out q e)
      refine ⟨Books.of_ch hc6 hWl (fun q hq => by rcases hF6 q hq with e | e <;> omega), .inl ⟨rfl, ⟨.slice (some ⟨gb, 0, none⟩) (pre.length + 1) gc, ?_, ?_, ?_, fun q hq => ?_⟩, Kept.of_ch hc6 (fun q hq => ?_)⟩⟩
      · have hr := HO4.out.ch (F := [b7]) ((Ch.refl _ _).setCell (p := ⟨b7, 0, none⟩) (.inl (by simp)) (.slice (some ⟨gb, 0, none⟩) (pre.length + 1) gc)) (fun k hk hin => by simp [Value.ownBlock] at hk hin; omega)
        rw [List.length_append, List.map_append, show List.map Prod.snd [(i, x)] = [x] from rfl, u64s_snoc]
        exact hr
      · have := H76.out.set (i := 0) (.slice (some ⟨gb, 0, none⟩) (pre.length + 1) gc)
        exact this
      · refine HCC.out.trans hc6 (fun q hq => ?_)
        rcases hF6 q hq with e | e
        · exact .inl (by simp [e])
        · exact .inr (by rw [HB.out]; omega)
      · simp [Value.ownBlock] at hq
        omega
      · have hkk : q < B ∧ q ≠ b7 := by
          simp only [List.mem_cons, List.mem_append, List.not_mem_nil, or_false] at hq
          rcases hq with rfl | rfl | hq | rfl
          · omega
          · omega
          · have := hFl q hq; omega
          · omega
        refine ⟨by omega, fun hin => ?_⟩
        rcases hF6 q hin with e | e <;> omega
    case done =>
      rintro W ⟨v, hrow, hb7, hc, hv⟩ hK _
      obtain ⟨va, vc, rfl⟩ := row.shape hrow
      have c7 := hb7.cell (i := 0) rfl
      have HROW := Lib.hid hrow; clear hrow
      have HB7 := Lib.hid hb7; clear hb7
      have HCC := Lib.hid hc; clear hc
      have HV := Lib.hid hv; clear hv
      have HK := Lib.hid hK; clear hK
      clear hseq
      go_wp2
      refine ⟨by simp, .inl ⟨_, _, rfl, run_takeDeferred HK.out, ?_⟩⟩
      refine ⟨_, results_tmp2 rfl _ _ _, .slice va (tabL G.nodes (fun vs => wref U64 vs r0) n).length vc, rfl, ?_, fun q hq => ?_, ?_⟩
      · have h1 := HROW.out.ch (ch_put (l := B) (L := [B]) (o' := .deferred none) (by simp)) (fun k hk hin => by have := HV.out k (by rw [hk]; simp); simp at hin; omega)
        have e : (tabL G.nodes (fun vs => wref U64 vs r0) n).map Prod.snd = tabW G.nodes (oneF r0) n := tabL_snd _ _ _
        rw [e] at h1
        have el : (tabL G.nodes (fun vs => wref U64 vs r0) n).length = (tabW G.nodes (oneF r0) n).length := by rw [← e, List.length_map]
        rw [el] at h1 ⊢
        exact h1
      · have := HV.out q hq
        have := HC5.out.size
        omega
      · exact HC5.out.trans (HCC.out.trans (ch_put (l := B) (L := [B]) (by simp)) (fun q hq => .inl (by simp at hq; simp [hq]))) (fun q hq => .inr (by have := HC5.out.size; simp only [List.mem_cons, List.not_mem_nil, or_false] at hq; omega))
  · rw [if_neg h0]
    have e1 : ((te : Int) != 0) = true := by simp; omega
    have HH0 := Lib.hid h0; clear h0 hok
    go_enter Try.func20, Try.ntmps20
    go_upto_region 1 with fail
    go_wp2_with fail
    refine calls_named fun W1 hW1 => ?_
    have hc1 := alw_ch hW1
    have hb1 := alw_blk (xs := [.int .i64 r]) hW1
    clear hW1
    refine (HTD.out W1 hc1 _ hb1).mono ?_
    rintro e w2 ⟨rfl, hc2⟩
    have HC2 := Lib.hid (hc1.trans hc2 (by simp)); clear hc1 hc2 hb1
    go_wp2_with fail
    go_ret2
    exact ⟨_, rfl, ⟨rfl, .inl ⟨rfl, rfl⟩⟩, by simp, HC2.out⟩
end
end Go.Proofs.Ytnmfdiiehkkjcaa
namespace Go.Aig
theorem cntT_le (t : List Nat) : cntT t ≤ 64 * t.length := by
  unfold cntT
  induction t with
  | nil => simp
  | cons a t ih => have := cnt_le a; simp only [List.map_cons, List.sum_cons, List.length_cons]; omega
end Go.Aig
namespace Go.Proofs.Ytnmfdiiehkkjcaa
open Go.RowKit Go.Mem Go.Aig
attribute [local go_sem] Oper.semAt_some
/-- what Count returns -/
def countR (G : Gra) (r : Int) : Nat × Nat := (if tabE G [r] = 0 then countV (inputs G.nodes).length (tellR G.nodes (inputs G.nodes).length r.toNat) else 0, tabE G [r])
section
variable {w : World} {g : Nat} {G : Gra} {F : List Nat}
set_option maxRecDepth 100000 in
set_option maxHeartbeats 8000000 in
theorem simCount_is (h : GIn w g G F) (r : Int) (hr : -9223372036854775808 ≤ r ∧ r ≤ 9223372036854775807) :
    Calls Try.prog 22 #[.pointer (some ⟨g, 0, none⟩), .int .i64 r] w fun e w' => e = .returned (.tuple #[.int .i64 (countR G r).1, .int .i64 (countR G r).2]) ∧ Ch [] w w' := by
  have HTD := fun (W : World) (hW : Ch [] w W) (b : Nat) (hb : blk W b [.int .i64 r]) => simtabled_is (h.same hW (by simp)) (l := [r]) 1 1 rfl (Sl.one hb) (by simpa using hr.2)
  unfold countR
  have hle := tabE_lt G [r]
  have hok := tabE_ok (G := G) (l := [r])
  generalize tabE G [r] = te at *
  have HTD := Lib.hid HTD
  by_cases h0 : te = 0
  · subst h0
    obtain ⟨hbad, h16⟩ := hok rfl
    have hrr := badIn_no hbad
    obtain ⟨r0, rfl⟩ : ∃ r0 : Nat, r = (r0 : Int) := ⟨r.toNat, by
      have := hrr.1
      simp [nats] at this
      omega⟩
    have hrl : r0 < 2 * G.nodes.length := hrr.2 r0 (by simp [nats])
    have hnl : G.nodes.length ≤ 65536 := by have := h.ok.room; have := h.ok.most; omega
    have hFl := h.lt
    clear hok hbad hrr hle
    obtain ⟨n, hn⟩ : ∃ n, (inputs G.nodes).length = n := ⟨_, rfl⟩
    rw [hn] at h16 ⊢
    have H := Lib.hid h; clear h
    have HN := Lib.hid hn; clear hn
    rw [if_pos rfl]
    refine callsIn_wide (n := 4) |>.1 ?_
    refine callsIn_of_wp_marks Try.func22 rfl trivial ?_ rfl
    simp only [Try.ntmps22, List.size_toArray, List.length_cons, List.length_nil, Nat.reduceAdd, Nat.reduceSub, Array.replicate_succ, Array.replicate_zero, List.push_toArray, List.append_toArray, List.nil_append, List.cons_append]
    refine wpIn_wide.2 ?_
    go_upto_region 1 with fail
    go_wp2_with fail
    refine calls_named fun W1 hW1 => ?_
    have hc1 := alw_ch hW1
    have hb1 := alw_blk (xs := [.int .i64 r0]) hW1
    clear hW1
    refine (HTD.out W1 hc1 _ hb1).mono ?_
    rintro e w2 ⟨rfl, hc2⟩
    have hc2 := hc1.trans hc2 (by simp)
    clear HTD hb1 hc1
    go_upto_region 5 with fail
    refine wp_alw ?_
    intro W3 hW3
    have hb7 := alw_blk (xs := [.int .i64 0]) hW3
    have hc3 := hc2.trans (alw_ch hW3) (by simp)
    have hz3 : w.heap.size ≤ w2.heap.size := hc2.size
    clear hW3 hc2
    generalize w2.heap.size = b7 at *
    have HB7 := Lib.hid hb7; clear hb7
    have HC3 := Lib.hid hc3; clear hc3
    go_wp2_with fail
    refine (simone_is W3 r0).mono ?_
    rintro e W4 ⟨rfl, hW4⟩
    have hbo := alw_blk (xs := [.int .i64 r0]) hW4
    have hb7 := HB7.out.ch (alw_ch hW4) (by simp)
    have hc4 := HC3.out.trans (alw_ch hW4) (by simp)
    have hz4 : b7 < W3.heap.size := HB7.out.lt
    clear hW4 HB7 HC3
    generalize W3.heap.size = bo at *
    have HBO := Lib.hid hbo; clear hbo
    have HB7 := Lib.hid hb7; clear hb7
    have HC4 := Lib.hid hc4; clear hc4
    go_wp2_with fail
    refine (simtable_is W4 g 150 #[.pointer (some ⟨bo, 0, none⟩)]).mono ?_
    rintro e W5 ⟨rfl, hc5, hbg, hbf, hz5⟩
    have hb7 := HB7.out.ch hc5 (by simp)
    have hbo := HBO.out.ch hc5 (by simp)
    have hz45 := HBO.out.lt
    have hc := HC4.out.trans hc5 (by simp)
    clear hc5 HB7 HBO HC4
    generalize hbG : W4.heap.size = bg at *
    have H7 := Lib.hid hb7; clear hb7
    have HO := Lib.hid hbo; clear hbo
    have HG := Lib.hid hbg; clear hbg
    have HF := Lib.hid hbf; clear hbf
    have HC5 := Lib.hid hc; clear hc
    go_wp2_with fail
    have hseq := simtable_seq (H.out.same HC5.out (by simp)) (one_tells hrl hnl HO.out) rfl HN.out h16 HG.out HF.out 3 (by omega)
    refine (wpIn_wide (n := 4)).1 ?_
    obtain ⟨B, hB⟩ : ∃ B, W5.heap.size = B := ⟨_, rfl⟩
    refine wpIn_rangeFunc_P (n := 4) B hB rfl (by omega) rfl trivial (fun args w => fnvsimtable1 args w) hseq ?kb (fun _ => rfl)
      (fun pre W => blk W b7 [.int .i64 (cntT (pre.map Prod.snd) : Nat)] ∧ Ch [b7, B, B + 1] W5 W)
      (fun _ => False) ?hi (fun _ _ h _ => h) ?h0 ?a1 ?assign ?body ?done (fun _ h _ _ => h.elim)
    case assign =>
      intro q x W K hK
      simp only [tabEnc]
      gi_wp2
      exact hK
    case kb =>
      intro k hk
      simp only [List.mem_cons, List.mem_append, List.not_mem_nil, or_false] at hk
      rcases hk with rfl | rfl | hk | rfl
      · omega
      · omega
      · have := hFl k hk; have := HC5.out.size; omega
      · omega
    case hi =>
      rintro pre A A' ⟨h2, h3⟩ hc
      exact ⟨h2.ch hc (by simp; omega), h3.trans (hc.mono (F' := [b7, B, B + 1]) (by simp)) (fun q hq => .inl hq)⟩
    case h0 => exact ⟨H7.out, Ch.refl _ _⟩
    case body =>
      rintro q pre ⟨i, x⟩ W ⟨hb7, hc⟩ hWl hpx
      have hxm : x ∈ tabW G.nodes (fun vs => wref U64 vs r0) n := by
        have h1 := List.IsPrefix.subset hpx (List.mem_append_right pre (List.mem_singleton.2 rfl))
        rw [← tabL_snd]
        exact List.mem_map.2 ⟨(i, x), h1, rfl⟩
      have hx := tabW_lt _ _ _ x hxm
      have hpl : pre.length + 1 ≤ 1024 := by
        have h1 := hpx.length_le
        rw [tabL_len, List.length_append] at h1
        have : (2 : Nat) ^ (n - 6) ≤ 2 ^ 10 := Nat.pow_le_pow_right (by omega) (by omega)
        simp at h1
        omega
      have hcl := cntT_le (pre.map Prod.snd)
      rw [List.length_map] at hcl
      have hcs : cntT ((pre ++ [(i, x)]).map Prod.snd) = cntT (pre.map Prod.snd) + cnt x := by
        unfold cntT
        rw [List.map_append, List.map_append, List.sum_append]
        simp
      generalize cntT (pre.map Prod.snd) = c0 at *
      generalize cntT ((pre ++ [(i, x)]).map Prod.snd) = c1 at *
      have hb7B : b7 < B := by omega
      have hbgB : bg + 2 ≤ B := by omega
      have HB := Lib.hid hB
      have HCC := Lib.hid hc; clear hc
      have HB7' := Lib.hid hb7; clear hb7
      have HCS := Lib.hid hcs; clear hcs
      clear hpx hseq hB hxm
      gi_wp2
      gi_loopw [9] (fun y wr => ∃ v c : Nat, y = .int .u64 v ∧ v < 2 ^ 64 ∧ c + cnt v = c0 + cnt x ∧ blk wr b7 [.int .i64 c] ∧ Ch [b7] W wr) (fun y _ => cnt (intOf y).toNat)
      case atStart => exact ⟨x, c0, rfl, hx, rfl, HB7'.out, Ch.refl _ _⟩
      case round =>
        obtain ⟨v, c, rfl, hv, hcv, hb7, hc⟩ := hrel
        have hcl2 := cnt_le x
        by_cases h0 : v = 0
        · subst h0
          rw [cnt_zero] at hcv
          have HB7' := Lib.hid hb7; clear hb7
          have HC := Lib.hid hc; clear hc
          gi_wp2
          refine ⟨Books.of_ch HC.out hWl (by simp; omega), ⟨by rw [HCS.out, ← hcv]; exact HB7'.out, HCC.out.trans HC.out (by simp)⟩, Kept.of_ch HC.out (fun q hq => ?_)⟩
          have hkk : q < B ∧ q ≠ b7 := by
            simp only [List.mem_cons, List.mem_append, List.not_mem_nil, or_false] at hq
            rcases hq with rfl | rfl | hq | rfl
            · omega
            · omega
            · have := hFl q hq; omega
            · omega
          exact ⟨by omega, fun hin => hkk.2 (by simpa using hin)⟩
        · have hst := cnt_step h0 hv
          have hlt : v &&& (v - 1) ≤ v := Nat.and_le_left
          have e1 : ((v : Int) != 0) = true := by simp; omega
          have e2 : (v : Int) - 1 = ((v - 1 : Nat) : Int) := by omega
          have e3 := bits_and_u64_nat v (v - 1) (by omega) (by omega)
          generalize hu : v &&& (v - 1) = u at *
          have E2 := Lib.hid e2; clear e2
          have E3 := Lib.hid e3; clear e3
          have hcb : c ≤ 100000 := by omega
          have c7 := hb7.cell (i := 0) rfl
          have f7 := hb7.frozen (i := 0)
          have HB7' := Lib.hid hb7; clear hb7
          have HC := Lib.hid hc; clear hc
          have HU := Lib.hid hu; clear hu
          have HST := Lib.hid hst; clear hst
          have HCV := Lib.hid hcv; clear hcv
          gi_wp2
          go_roundw
          case rel =>
            refine ⟨u, c + 1, by rw [E2.out, E3.out], by omega, by have := HST.out; have := HCV.out; omega, ?_, HC.out.setCell (.inl (by simp)) _⟩
            have := HB7'.out.set (i := 0) (.int .i64 ((c + 1 : Nat) : Int))
            simpa using this
          case measure =>
            show cnt (bits .and .u64 (v : Int) ((v : Int) - 1)).toNat < cnt (v : Int).toNat
            rw [E2.out, E3.out]
            have := HST.out
            simp only [Int.toNat_natCast]
            omega
    case done =>
      rintro W ⟨hb7, hc⟩ hK _
      have e : (tabL G.nodes (fun vs => wref U64 vs r0) n).map Prod.snd = tabW G.nodes (oneF r0) n := tabL_snd _ _ _
      have hcnt : cntT (tabW G.nodes (oneF (r0 : Int)) n) = countV n (tellR G.nodes n (r0 : Int).toNat) := (tabW_of G.nodes r0 n).cnt
      rw [e, hcnt] at hb7
      have c7 := hb7.cell (i := 0) rfl
      have HB7 := Lib.hid hb7; clear hb7
      have HCC := Lib.hid hc; clear hc
      have HK := Lib.hid hK; clear hK
      clear hseq e hcnt
      go_wp2
      refine ⟨by simp, .inl ⟨_, _, rfl, run_takeDeferred HK.out, ?_⟩⟩
      refine ⟨_, results_tmp2 rfl _ _ _, rfl, ?_⟩
      exact HC5.out.trans (HCC.out.trans (ch_put (l := B) (L := [B]) (by simp)) (fun q hq => .inl (by simp at hq; simp [hq]))) (fun q hq => .inr (by have := HC5.out.size; simp only [List.mem_cons, List.not_mem_nil, or_false] at hq; omega))
  · rw [if_neg h0]
    have e1 : ((te : Int) != 0) = true := by simp; omega
    have HH0 := Lib.hid h0; clear h0 hok
    go_enter Try.func22, Try.ntmps22
    go_upto_region 1 with fail
    go_wp2_with fail
    refine calls_named fun W1 hW1 => ?_
    have hc1 := alw_ch hW1
    have hb1 := alw_blk (xs := [.int .i64 r]) hW1
    clear hW1
    refine (HTD.out W1 hc1 _ hb1).mono ?_
    rintro e w2 ⟨rfl, hc2⟩
    have HC2 := Lib.hid (hc1.trans hc2 (by simp)); clear hc1 hc2 hb1
    go_wp2_with fail
    go_ret2
    exact ⟨rfl, HC2.out⟩
end
end Go.Proofs.Ytnmfdiiehkkjcaa
namespace Go
open Go.RowKit Go.Mem
section
variable {F : Fence} {n : Nat} {P : Program}
theorem wpIn_rangeFunc_E {α : Type} {g : Operand} {ps : Array Tmp} {assign body : Code} {Q : Exit → Act → World → Prop} {a : Act} {w : World} (id : Nat) (B : Nat) (hB : w.heap.size = B)
    (hro : F.round = none) (h1 : 1 ≤ n) {gf : Nat} {lb : Array Value} (hg : a.eval g = .func (.func gf) #[] lb) (hFg : F.fn gf) (eg : ∀ args w, (callFunc gf args).run P w = .ok (.enter gf args) w)
    {encs : α → Array Value} {K : List Nat} {xs : List α} (hseq : SeqP F (n - 1) P gf lb encs K xs w) (hK : ∀ k ∈ K, k < B) (hps : ∀ x, (encs x).size = ps.size)
    (I : List α → World → Prop) (Ix : World → Prop) (hI : ∀ s A A', I s A → Ch [B, B + 1] A A' → I s A') (hIx : ∀ A A', Ix A → Ch [B, B + 1] A A' → Ix A') (h0 : I [] w) (a₁ : α → Act)
    (hassign : ∀ (l : Nat) (x : α) (W : World) (K : Act → World → Prop), K (a₁ x) W →
      assign.wpIn (F.inRound l) (n - 1 - 1) P (Exit.then K (fun _ _ _ => False)) { tmps := (ps.zip (encs x)).foldl (fun t (p, v) => t.setIfInBounds p v) a.tmps, defers := [] } W)
    (hbody : ∀ (l : Nat) (pre : List α) (x : α) (W : World), I pre W → B + 2 ≤ W.heap.size → (pre ++ [x]) <+: xs → body.wpIn (F.inRound l) (n - 1 - 1) P (fun e _ W' => Books B W W' ∧ ((e = .normal ∧ I (pre ++ [x]) W' ∧ Kept K W W') ∨ (e = .exit id ∧ Ix W'))) (a₁ x) W)
    (hdone : ∀ (W : World), I xs W → W.heap[B]? = some (.deferred (some [])) → B + 2 ≤ W.heap.size → Q .normal { a with defers := { target := .collected B, args := #[] } :: a.defers } W)
    (hstop : ∀ (W : World), Ix W → W.heap[B]? = some (.deferred (some [])) → B + 2 ≤ W.heap.size → (Code.exit id).wpIn F n P Q { a with defers := { target := .collected B, args := #[] } :: a.defers } W) :
    (Code.rangeFunc g ps assign body).wpIn F n P Q a w := by
  subst hB
  refine wpIn_rangeFunc fun fn hfn => ?_
  rw [hro]
  let rec0 : LoopState → Option Code → Loop := fun st pe => { state := st, pending := pe, fn, tmps := a.tmps, params := ps, assign, body, defers := w.heap.size }
  obtain ⟨W1, hW1⟩ : ∃ W1, (w.alloc (.deferred (some []))).alloc (.loop (rec0 .ready none)) = W1 := ⟨_, rfl⟩
  have hz1 : W1.heap.size = w.heap.size + 2 := by rw [← hW1]; simp
  have hL1 : W1.heap[w.heap.size + 1]? = some (.loop (rec0 .ready none)) := by
    rw [← hW1]; have := World.alloc_heap_new (w.alloc (.deferred (some []))) (.loop (rec0 .ready none)); rwa [World.size_alloc] at this
  have hK1 : W1.heap[w.heap.size]? = some (.deferred (some [])) := by
    rw [← hW1]; exact (Below.heap_alloc _ _ _ (by simp)).trans (World.alloc_heap_new w _)
  have hc1 : Ch [] w W1 := by rw [← hW1]; exact ((Ch.refl _ _).alloc _).alloc _
  have hI1 : I [] W1 := hI _ _ _ h0 (hc1.mono (by simp))
  refine ⟨w.heap.size + 1, [{ target := .collected w.heap.size, args := #[] }], W1, { target := .fn (.func gf) lb, args := #[.func (.yield (w.heap.size + 1)) #[] #[]] }, W1, gf,
    #[.func (.yield (w.heap.size + 1)) #[] #[]] ++ lb, W1, ?_, ?_, ?_, ?_, fun _ => h1, ?_⟩
  · rw [← hW1]; exact run_enterLoop_outer _ _ _ _ _
  · simp only [resolve, hg]
    simp [go_sem]
  · intro f' hf'; simp [Target.leads] at hf'; subst hf'; exact hFg
  · simp [invoke, go_sem, eg]
  · have hKne : ∀ k ∈ K, k ≠ w.heap.size + 1 := fun k hk => by have := hK k hk; omega
    refine (hseq (w.heap.size + 1) (fun pre W => I pre W ∧ w.heap.size + 2 ≤ W.heap.size ∧ W.heap[w.heap.size + 1]? = some (.loop (rec0 .ready none)) ∧ W.heap[w.heap.size]? = some (.deferred (some [])))
      (fun W => Ix W ∧ w.heap.size + 2 ≤ W.heap.size ∧ W.heap[w.heap.size + 1]? = some (.loop (rec0 .done (some (.exit id)))) ∧ W.heap[w.heap.size]? = some (.deferred (some []))) W1 (fun k hk => hc1.block k (hK k hk) (by simp))
      (fun s A A' hs hc => ⟨hI s A A' hs.1 (hc.mono (by simp)), Nat.le_trans hs.2.1 hc.size, (hc.block _ (by have := hs.2.1; omega) (by simp)).trans hs.2.2.1, (hc.block _ (by have := hs.2.1; omega) (by simp)).trans hs.2.2.2⟩)
      (fun A A' hs hc => ⟨hIx A A' hs.1 (hc.mono (by simp)), Nat.le_trans hs.2.1 hc.size, (hc.block _ (by have := hs.2.1; omega) (by simp)).trans hs.2.2.1, (hc.block _ (by have := hs.2.1; omega) (by simp)).trans hs.2.2.2⟩)
      ?_ ⟨hI1, by omega, hL1, hK1⟩).mono ?_
    · rintro pre x W ⟨hi, hz, hl, hk⟩ hpre
      have hlt : w.heap.size + 1 < W.heap.size := by omega
      refine ⟨fn, _, assign, body, run_yield (P := P) (args := encs x) hl (hps x), roundIn_of_wpIn hfn (hassign _ x W _ ⟨_, run_beginRound hl rfl, ?_⟩)⟩
      have hl2 : (W.putObj (w.heap.size + 1) (.loop (rec0 .busy none))).heap[w.heap.size + 1]? = some (.loop (rec0 .busy none)) := World.putObj_heap_same hlt
      have hk2 : (W.putObj (w.heap.size + 1) (.loop (rec0 .busy none))).heap[w.heap.size]? = some (.deferred (some [])) := (World.putObj_heap_other (by omega)).trans hk
      have hK2 : ∀ k ∈ K, (W.putObj (w.heap.size + 1) (.loop (rec0 .busy none))).heap[k]? = W.heap[k]? := fun k hk => World.putObj_heap_other (hKne k hk)
      refine wpIn_mono (hbody _ pre x _ (hI _ _ _ hi (ch_put (by simp))) (by simp; omega) hpre) ?_
      rintro e a3 W3 ⟨⟨hb0, hb1⟩, (⟨rfl, hi3, hk3⟩ | ⟨rfl, hi3⟩)⟩
      · have hl3 := hb1.trans hl2
        have hlt3 := (Array.getElem?_eq_some_iff.1 hl3).1
        refine ⟨_, _, run_endRound (P := P) none hl3, .inl ⟨rfl, ⟨hI _ _ _ hi3 (ch_put (by simp)), by simp; omega, World.putObj_heap_same hlt3, (World.putObj_heap_other (by omega)).trans (hb0.trans hk2)⟩, fun k hk => ?_⟩⟩
        exact (World.putObj_heap_other (hKne k hk)).trans ((hk3 k hk).trans (hK2 k hk))
      · have hl3 := hb1.trans hl2
        have hlt3 := (Array.getElem?_eq_some_iff.1 hl3).1
        refine ⟨_, _, run_endRound (P := P) (some (.exit id)) hl3, .inr ⟨rfl, hIx _ _ hi3 (ch_put (by simp)), by simp; omega, World.putObj_heap_same hlt3, (World.putObj_heap_other (by omega)).trans (hb0.trans hk2)⟩⟩
    · rintro e W2 ⟨⟨v, rfl⟩, (⟨hi, hz, hl, hk⟩ | ⟨hi, hz, hl, hk⟩)⟩
      · exact ⟨none, _, run_endLoop (P := P) hl (by simp [rec0]), hdone _ (hI _ _ _ hi (ch_put (by simp))) ((World.putObj_heap_other (by omega)).trans hk) (by simp; omega)⟩
      · exact ⟨some (.exit id), _, run_endLoop (P := P) hl (by simp [rec0]), hstop _ (hIx _ _ hi (ch_put (by simp))) ((World.putObj_heap_other (by omega)).trans hk) (by simp; omega)⟩
end
end Go
namespace Go.Aig
theorem tabL_prefix {ns : List Nd} {f : List Nat → Nat} {n : Nat} {pre : List (Nat × Nat)} {i x : Nat} (h : (pre ++ [(i, x)]) <+: Go.Proofs.Ytnmfdiiehkkjcaa.tabL ns f n) : i = pre.length ∧ i < 2 ^ (n - 6) ∧ (tabW ns f n).getD i 0 = x := by
  obtain ⟨t, ht⟩ := h
  have h1 : (Go.Proofs.Ytnmfdiiehkkjcaa.tabL ns f n)[pre.length]? = some (i, x) := by rw [← ht]; simp
  have hl := (List.getElem?_eq_some_iff.1 h1).1
  rw [Go.Proofs.Ytnmfdiiehkkjcaa.tabL_len] at hl
  rw [Go.Proofs.Ytnmfdiiehkkjcaa.tabL_at ns f n hl] at h1
  have h2 := Option.some.inj h1
  have e1 := congrArg Prod.fst h2
  have e2 := congrArg Prod.snd h2
  simp only at e1 e2
  refine ⟨e1.symm, by omega, ?_⟩
  rw [List.getD_eq_getElem?_getD, ← e1, tab_at ns f n hl]
  exact e2
theorem firstR_none {T : List Nat} {n : Nat} {p : Nat → Bool} (h : TabOf T n p) (h0 : ∀ a, a < 64 * 2 ^ (n - 6) → tbit T a = false) : firstR n p = ([], false) := by
  have : firstV n p = none := firstV_none.2 fun a ha => by
    rw [← h.at' a ha]
    exact h0 a (Nat.lt_of_lt_of_le ha (blocks_le n))
  unfold firstR
  rw [this]
theorem firstR_some {T : List Nat} {n : Nat} {p : Nat → Bool} {a : Nat} (h : TabOf T n p) (ha : a < 64 * 2 ^ (n - 6)) (h1 : tbit T a = true) (h0 : ∀ b, b < a → tbit T b = false) : firstR n p = (asgBits n a, true) ∧ a < 2 ^ n := by
  have hn : a < 2 ^ n := by
    by_cases hn : a < 2 ^ n
    · exact hn
    · rw [h.out a (by omega) ha] at h1; cases h1
  have : firstV n p = some a := by
    unfold firstV
    refine find_range p a (by rw [← h.at' a hn]; exact h1) (fun b hb => by rw [← h.at' b (by omega)]; exact h0 b hb) _ hn
  unfold firstR
  rw [this]
  exact ⟨rfl, hn⟩
theorem asgBits_snoc (n a k : Nat) (hk : k < n) : (asgBits n a).take (k + 1) = (asgBits n a).take k ++ [a.testBit k] := by
  rw [List.take_add_one]
  congr 1
  unfold asgBits
  rw [List.getElem?_map, List.getElem?_range hk]
  rfl
end Go.Aig
namespace Go.Proofs.Ytnmfdiiehkkjcaa
open Go.RowKit Go.Mem Go.Aig
attribute [local go_sem] Oper.semAt_some
section
variable {w : World} {g : Nat} {G : Gra} {F : List Nat}
set_option maxRecDepth 100000 in
set_option maxHeartbeats 8000000 in
theorem simfirst_is (h : GIn w g G F) {fid : Nat} {caps : Array Value} {Kf : List Nat} {f : List Nat → Nat} (hT : TellW w fid caps Kf G.nodes.length f) {n : Nat} (hn : (inputs G.nodes).length = n) (h16 : n ≤ 16) {p : Nat → Bool} (hp : TabOf (tabW G.nodes f n) n p) :
    Calls Try.prog 86 #[.pointer (some ⟨g, 0, none⟩), .func (.func fid) #[] caps] w fun e w' => ∃ v, e = .returned (.tuple #[v, .bool (firstR n p).2]) ∧ BNew w v (firstR n p).1 w' := by
  have hFl := h.lt
  have hKl := hT.ksz
  have H := Lib.hid h; clear h
  have HT := Lib.hid hT; clear hT
  have HN := Lib.hid hn; clear hn
  have HP := Lib.hid hp; clear hp
  refine callsIn_wide (n := 4) |>.1 ?_
  refine callsIn_of_wp_marks Try.func86 rfl trivial ?_ rfl
  simp only [Try.ntmps86, List.size_toArray, List.length_cons, List.length_nil, Nat.reduceAdd, Nat.reduceSub, Array.replicate_succ, Array.replicate_zero, List.push_toArray, List.append_toArray, List.nil_append, List.cons_append]
  refine wpIn_wide.2 ?_
  go_wp2_with fail
  refine wp_scope_straight ?_
  go_wp2_with fail
  refine wp_label ?_
  go_upto_region 2 with fail
  refine wp_named fun W3 hW3 => ?_
  have hb6 : blk W3 w.heap.size [.int .i64 (-1)] := by rw [hW3]; exact blk.new' _ _ rfl
  have hc3 : Ch [] w W3 := by rw [hW3]; exact (Ch.refl _ _).alloc _
  clear hW3
  have HB6 := Lib.hid hb6; clear hb6
  have HC3 := Lib.hid hc3; clear hc3
  go_wp2_with fail
  refine (simtable_is W3 g fid caps).mono ?_
  rintro e W5 ⟨rfl, hc5, hbg, hbf, hz5⟩
  have hb6 := HB6.out.ch hc5 (by simp)
  have hz6 := HB6.out.lt
  have hc := HC3.out.trans hc5 (by simp)
  clear hc5 HB6 HC3
  generalize hbG : W3.heap.size = bg at *
  obtain ⟨b6, hb6e⟩ : ∃ b6, w.heap.size = b6 := ⟨_, rfl⟩
  rw [hb6e] at hb6 hz6 hFl hKl
  have H6 := Lib.hid hb6; clear hb6
  have HG := Lib.hid hbg; clear hbg
  have HF := Lib.hid hbf; clear hbf
  have HC5 := Lib.hid hc; clear hc
  have HKT : TellW W5 fid caps Kf G.nodes.length f := ⟨HT.out.fn, HT.out.lt, fun k hk => by have := HT.out.ksz k hk; have := HC5.out.size; omega, fun W hW => HT.out.tells W (fun k hk => (hW k hk).trans (HC5.out.block k (HT.out.ksz k hk) (by simp)))⟩
  have hseq := simtable_seq (H.out.same HC5.out (by simp)) HKT rfl HN.out h16 HG.out HF.out 3 (by omega)
  clear HKT
  rw [hb6e]
  go_wp2_with fail
  refine (wpIn_wide (n := 4)).1 ?_
  obtain ⟨B, hB⟩ : ∃ B, W5.heap.size = B := ⟨_, rfl⟩
  have HB6e := Lib.hid hb6e; clear hb6e
  refine wpIn_rangeFunc_E (n := 4) 0 B hB rfl (by omega) rfl trivial (fun args w => fnvsimtable1 args w) hseq ?kb (fun _ => rfl)
    (fun pre W => blk W b6 [.int .i64 (-1)] ∧ Ch [b6, B, B + 1] W5 W ∧ ∀ a, a < 64 * pre.length → tbit (tabW G.nodes f n) a = false)
    (fun W => ∃ a : Nat, a < 64 * 2 ^ (n - 6) ∧ tbit (tabW G.nodes f n) a = true ∧ (∀ b, b < a → tbit (tabW G.nodes f n) b = false) ∧ blk W b6 [.int .i64 a] ∧ Ch [b6, B, B + 1] W5 W) ?hi ?hx ?h0 ?a1 ?assign ?body ?done ?stop
  case assign =>
    intro q x W K hK
    simp only [tabEnc]
    gi_wp2
    exact hK
  case kb =>
    intro k hk
    simp only [List.mem_cons, List.mem_append] at hk
    rcases hk with rfl | rfl | hk | hk
    · omega
    · omega
    · have := hFl k hk; omega
    · have := hKl k hk; omega
  case hi =>
    rintro pre A A' ⟨h2, h3, h4⟩ hc
    exact ⟨h2.ch hc (by simp; omega), h3.trans (hc.mono (F' := [b6, B, B + 1]) (by simp)) (fun q hq => .inl hq), h4⟩
  case hx =>
    rintro A A' ⟨a, h1, h2, h3, h4, h5⟩ hc
    exact ⟨a, h1, h2, h3, h4.ch hc (by simp; omega), h5.trans (hc.mono (F' := [b6, B, B + 1]) (by simp)) (fun q hq => .inl hq)⟩
  case h0 => exact ⟨H6.out, Ch.refl _ _, fun a ha => by simp at ha⟩
  case body =>
    rintro q pre ⟨i, x⟩ W ⟨hb6, hc, hz⟩ hWl hpx
    obtain ⟨hi, hi2, hxg⟩ := tabL_prefix hpx
    have hxm : x ∈ tabW G.nodes f n := by
      have h1 := List.IsPrefix.subset hpx (List.mem_append_right pre (List.mem_singleton.2 rfl))
      rw [← tabL_snd]
      exact List.mem_map.2 ⟨(i, x), h1, rfl⟩
    have hx := tabW_lt _ _ _ x hxm
    have hi10 : i ≤ 1024 := by
      have : (2 : Nat) ^ (n - 6) ≤ 2 ^ 10 := Nat.pow_le_pow_right (by omega) (by omega)
      omega
    rw [← hi] at hz
    have hbt : ∀ k, k < 64 → tbit (tabW G.nodes f n) (64 * i + k) = x.testBit k := fun k hk => by rw [tbit_at _ _ _ hk, hxg]
    have hb6B : b6 < B := by omega
    have hbgB : bg + 2 ≤ B := by omega
    have hlen : (pre ++ [(i, x)]).length = i + 1 := by simp [hi]
    have HLEN := Lib.hid hlen; clear hlen
    have HBT := Lib.hid hbt; clear hbt
    have HZ := Lib.hid hz; clear hz
    have HB := Lib.hid hB
    have HCC := Lib.hid hc; clear hc
    have HB6' := Lib.hid hb6; clear hb6
    have HI0 := Lib.hid hi; clear hi
    clear hpx hseq hB hxm hxg
    gi_wp2
    gi_loopw [17] (fun y wr => ∃ k : Nat, k ≤ 64 ∧ y = .int .i64 k ∧ wr = W ∧ ∀ j, j < k → x.testBit j = false) (fun y _ => 64 - (intOf y).toNat)
    case atStart => exact ⟨0, by omega, rfl, rfl, fun j hj => by omega⟩
    case round =>
      obtain ⟨k, hk, rfl, rfl, hzk⟩ := hrel
      have HZK := Lib.hid hzk; clear hzk
      by_cases hlt : k < 64
      · have hbit := bit_u64 x k (by omega)
        cases hb : x.testBit k
        · rw [hb] at hbit
          have HBK := Lib.hid hb; clear hb
          gi_wp2
          go_roundw
          case rel =>
            refine ⟨k + 1, by omega, by go_num, trivial, fun j hj => ?_⟩
            by_cases hjk : j < k
            · exact HZK.out j hjk
            · rw [show j = k by omega]; exact HBK.out
          case measure => simp [intOf]; omega
        · rw [hb] at hbit
          have HBK := Lib.hid hb; clear hb
          have c6 := HB6'.out.cell (i := 0) rfl
          have f6 := HB6'.out.frozen (i := 0)
          gi_wp2
          have hcS : Ch [b6] wr (wr.setCell ⟨b6, 0, none⟩ (.int .i64 (64 * (i : Int) + k))) := (Ch.refl _ _).setCell (.inl (by simp)) _
          refine ⟨Books.of_ch hcS hWl (by simp; omega), 64 * i + k, by omega, by rw [HBT.out k hlt]; exact HBK.out, fun b hb => ?_, ?_, HCC.out.trans hcS (by simp)⟩
          · by_cases hbi : b < 64 * i
            · exact HZ.out b hbi
            · rw [show b = 64 * i + (b - 64 * i) by omega, HBT.out _ (by omega)]
              exact HZK.out _ (by omega)
          · have := HB6'.out.set (i := 0) (.int .i64 (64 * (i : Int) + k))
            simpa using this
      · have hk6 : k = 64 := by omega
        subst hk6
        gi_wp2
        have hz := HZ.out
        have hbt := HBT.out
        rw [HI0.out] at hz hbt
        refine ⟨⟨rfl, rfl⟩, ⟨HB6'.out, HCC.out, fun a ha => ?_⟩, fun _ _ => rfl⟩
        by_cases hai : a < 64 * pre.length
        · exact hz a hai
        · rw [show a = 64 * pre.length + (a - 64 * pre.length) by omega, hbt _ (by omega)]
          exact HZK.out _ (by omega)
  case done =>
    rintro W ⟨hb6, hc, hz⟩ hK _
    rw [tabL_len] at hz
    have hfr := firstR_none HP.out hz
    have HFR := Lib.hid hfr; clear hfr
    have c6 := hb6.cell (i := 0) rfl
    have HB6 := Lib.hid hb6; clear hb6
    have HCC := Lib.hid hc; clear hc
    have HK := Lib.hid hK; clear hK
    clear hseq hz
    go_wp2
    simp only [Exit.noGoto]
    refine ⟨by simp, .inl ⟨_, _, rfl, run_takeDeferred HK.out, ?_⟩⟩
    refine ⟨_, results_tmp2 rfl _ _ _, .slice none 0 0, by rw [HFR.out]; rfl, ?_⟩
    rw [HFR.out]
    exact ⟨⟨rfl, .inl ⟨rfl, rfl⟩⟩, by simp, HC5.out.trans (HCC.out.trans (ch_put (l := B) (L := [B]) (by simp)) (fun q hq => .inl (by simp at hq; simp [hq]))) (fun q hq => .inr (by have := HC5.out.size; have := HB6e.out; simp only [List.mem_cons, List.not_mem_nil, or_false] at hq; omega))⟩
  case stop =>
    rintro W ⟨a, ha, hta, hza, hb6, hc⟩ hK hzB
    obtain ⟨hfr, han⟩ := firstR_some HP.out ha hta hza
    have HFR := Lib.hid hfr; clear hfr
    have c6 := hb6.cell (i := 0) rfl
    have HB6 := Lib.hid hb6; clear hb6
    have HCC := Lib.hid hc; clear hc
    have HK := Lib.hid hK; clear hK
    have HI := Inputs_g ((H.out.same HC5.out (by simp)).same HCC.out (fun k hk hin => by have := hFl k hk; simp only [List.mem_cons, List.not_mem_nil, or_false] at hin; omega))
    rw [HN.out] at HI
    have HI := Lib.hid HI
    clear hseq hta hza
    have hzB' : B < W.heap.size := by omega
    refine wpIn_exit ?_
    go_wp2_with fail
    refine HI.out.mono ?_
    rintro e W6 ⟨v, rfl, hrI, _, hc6⟩
    obtain ⟨ia, ic, rfl⟩ := row.shape hrI
    have hk6 := (hc6.block B hzB' (by simp)).trans HK.out
    have c6 := (HB6.out.ch hc6 (by simp)).cell (i := 0) rfl
    have hz66 := hc6.size
    have HCC6 := Lib.hid (HCC.out.trans hc6 (by simp)); clear hc6 hrI
    have HC66 := Lib.hid c6
    have HK6 := Lib.hid hk6; clear hk6
    have hlen : (asgBits n a).length = n := asgBits_len n a
    have HSN := Lib.hid (asgBits_snoc n a)
    have hz6 := HCC6.out.size
    have hz7 := HC5.out.size
    have ha63 : a < 9223372036854775808 := by
      have : (2 : Nat) ^ n ≤ 2 ^ 16 := Nat.pow_le_pow_right (by omega) (by omega)
      omega
    clear HI
    go_wp2_with fail
    go_loopw [10, 35] (fun o i wr => ∃ k : Nat, k ≤ n ∧ i = .int .i64 k ∧ Ch [] W6 wr ∧ row wr 4 1 o k (bools ((asgBits n a).take k)) ∧ ∀ q ∈ o.ownBlock.toList, W6.heap.size ≤ q) (fun _ i _ => n - (intOf i).toNat)
    case atStart => exact ⟨0, by omega, rfl, Ch.refl _ _, ⟨rfl, .inl ⟨rfl, rfl⟩⟩, by simp⟩
    case round =>
      clear c6
      obtain ⟨k, hk, rfl, hc, hrow, hlo⟩ := hrel
      obtain ⟨oa, oc, rfl⟩ := row.shape hrow
      have HROW := Lib.hid hrow; clear hrow
      by_cases hlt : k < n
      · have hsn := HSN.out k hlt
        have c6 := (hc.cell (p := ⟨b6, 0, none⟩) (cell_lt HC66.out) (by simp)).trans HC66.out
        have hbit := bit_i64 a k ha63
        rw [← Nat.testBit_eq_decide_div_mod_eq] at hbit
        have HC := Lib.hid hc; clear hc
        have HLO := Lib.hid hlo; clear hlo
        generalize a.testBit k = tb at hsn hbit
        have hcA : Ch [] wr (wr.alloc (.cells #[.bool tb] 4)) := (Ch.refl _ _).alloc _
        have hrA := HROW.out.ch hcA (by simp)
        have hbA : blk (wr.alloc (.cells #[.bool tb] 4)) wr.heap.size [.bool tb] := blk.new' _ _ rfl
        have HSU := Lib.hid hsn; clear hsn
        have HRA := Lib.hid hrA; clear hrA
        have HBA := Lib.hid hbA; clear hbA
        have HCA := Lib.hid hcA; clear hcA
        go_wp2_with (at_builtin; go_loud (refine wpList_append_row slBools rfl _ _ rfl (v := .slice oa k oc) (n := k) (xs := bools ((asgBits n a).take k)) rfl HRA.out (ad := ⟨wr.heap.size, 0, none⟩) (m := 1) (c := 1) (news := [.bool tb]) rfl rfl (news_blk HBA.out) (by simp [Value.oneCell']) (by omega) (by omega) ?_; intro v' w5 hown4 hC4 hf4; have HO4 := Lib.hid hown4; clear hown4; have HCC4 := Lib.hid hC4; clear hC4; have HF4 := Lib.hid hf4; clear hf4))
        go_roundw
        case rel =>
          obtain ⟨q1, q2⟩ := app_step HC.out HCA.out HLO.out HCC4.out HF4.out
          refine ⟨k + 1, by omega, by go_num, q1, ?_, q2⟩
          rw [HSU.out, show bools ((asgBits n a).take k ++ [tb]) = bools ((asgBits n a).take k) ++ [.bool tb] by simp [bools]]
          exact HO4.out
        case measure => simp [intOf]; omega
      · have hkn : k = n := by omega
        have hall : (asgBits n a).take k = asgBits n a := List.take_of_length_le (by omega)
        have hrow := HROW.out
        rw [hall, hkn] at hrow
        clear HROW
        rw [hkn] at hlo ⊢
        have hk7 := (hc.block B (by omega) (by simp)).trans HK6.out
        have HK7 := Lib.hid hk7; clear hk7
        have HROW := Lib.hid hrow; clear hrow
        have HLO := Lib.hid hlo; clear hlo
        have HC := Lib.hid hc; clear hc hall hkn
        go_wp2_with fail
        simp only [Exit.noGoto]
        refine ⟨by simp, .inl ⟨_, _, rfl, run_takeDeferred HK7.out, ?_⟩⟩
        refine ⟨_, results_tmp2 rfl _ _ _, .slice oa n oc, by rw [HFR.out]; rfl, ?_⟩
        rw [HFR.out]
        have hcB := ch_put (l := B) (L := [B]) (o' := .deferred none) (A := wr) (by simp)
        refine ⟨?_, fun q hq => ?_, ?_⟩
        · have h1 := HROW.out.ch hcB (fun q hq hin => by have := HLO.out q (by rw [hq]; simp); simp at hin; omega)
          show row _ _ 1 _ (asgBits n a).length (bools (asgBits n a))
          rw [asgBits_len]
          exact h1
        · have := HLO.out q hq
          omega
        · exact HC5.out.trans ((HCC6.out.trans HC.out (by simp)).trans hcB (fun q hq => .inl (by simp at hq; simp [hq]))) (fun q hq => .inr (by have := HB6e.out; simp only [List.mem_cons, List.not_mem_nil, or_false] at hq; omega))
end
end Go.Proofs.Ytnmfdiiehkkjcaa
namespace Go.Proofs.Ytnmfdiiehkkjcaa
open Go.RowKit Go.Mem Go.Aig
/-- what First returns, and what Parts does -/
def firstG (G : Gra) (r : Int) : (List Bool × Bool) × Nat := (if tabE G [r] = 0 then firstR (inputs G.nodes).length (tellR G.nodes (inputs G.nodes).length r.toNat) else ([], false), tabE G [r])
def partsG (G : Gra) (a b : Int) : (List Bool × Bool) × Nat := (if tabE G [a, b] = 0 then firstR (inputs G.nodes).length (tellX G.nodes (inputs G.nodes).length a.toNat b.toNat) else ([], false), tabE G [a, b])
theorem fnvsimParts1 : Fnv 91 := fnv_of Try.func91 (by simp [Try.f91]) (by simp [Try.f91])
theorem bits_xor_u64 (a b : Nat) (ha : a < 18446744073709551616) (hb : b < 18446744073709551616) : bits .xor .u64 (a : Int) (b : Int) = ((a ^^^ b : Nat) : Int) := bits_xor_u64_nat a b ha hb
section
variable {w : World} {g : Nat} {G : Gra} {F : List Nat}
set_option maxRecDepth 100000 in
set_option maxHeartbeats 2000000 in
theorem simFirst_is (h : GIn w g G F) (r : Int) (hr : -9223372036854775808 ≤ r ∧ r ≤ 9223372036854775807) :
    Calls Try.prog 23 #[.pointer (some ⟨g, 0, none⟩), .int .i64 r] w fun e w' => ∃ v, e = .returned (.tuple #[v, .bool (firstG G r).1.2, .int .i64 (firstG G r).2]) ∧ BNew w v (firstG G r).1.1 w' := by
  have HTD := fun (W : World) (hW : Ch [] w W) (b : Nat) (hb : blk W b [.int .i64 r]) => simtabled_is (h.same hW (by simp)) (l := [r]) 1 1 rfl (Sl.one hb) (by simpa using hr.2)
  unfold firstG
  have hok := tabE_ok (G := G) (l := [r])
  generalize tabE G [r] = te at *
  have HTD := Lib.hid HTD
  by_cases h0 : te = 0
  · subst h0
    obtain ⟨hbad, h16⟩ := hok rfl
    have hrr := badIn_no hbad
    obtain ⟨r0, rfl⟩ : ∃ r0 : Nat, r = (r0 : Int) := ⟨r.toNat, by
      have := hrr.1
      simp [nats] at this
      omega⟩
    have hrl : r0 < 2 * G.nodes.length := hrr.2 r0 (by simp [nats])
    have hnl : G.nodes.length ≤ 65536 := by have := h.ok.room; have := h.ok.most; omega
    rw [if_pos rfl]
    have HF := fun (W : World) (hW : Ch [] w W) (bo : Nat) (hb : blk W bo [.int .i64 r0]) => simfirst_is (h.same hW (by simp)) (one_tells hrl hnl hb) rfl h16 (tabW_of G.nodes r0 _)
    rw [show (r0 : Int).toNat = r0 from rfl]
    generalize firstR (inputs G.nodes).length (tellR G.nodes (inputs G.nodes).length r0) = R at *
    obtain ⟨rl, rb⟩ := R
    have HF := Lib.hid HF
    clear hok hbad hrr h h16 hrl
    go_enter Try.func23, Try.ntmps23
    go_wp2_with fail
    refine calls_named fun W1 hW1 => ?_
    have hc1 := alw_ch hW1
    have hb1 := alw_blk (xs := [.int .i64 r0]) hW1
    clear hW1
    refine (HTD.out W1 hc1 _ hb1).mono ?_
    rintro e w2 ⟨rfl, hc2⟩
    have HC2 := Lib.hid (hc1.trans hc2 (by simp)); clear HTD hb1 hc1 hc2
    go_wp2_with fail
    refine (simone_is w2 r0).mono ?_
    rintro e W4 ⟨rfl, hW4⟩
    have hf := HF.out W4 (HC2.out.trans (alw_ch hW4) (by simp)) _ (alw_blk (xs := [.int .i64 r0]) hW4)
    have HC4 := Lib.hid (HC2.out.trans (alw_ch hW4) (by simp)); clear hW4 HC2 HF
    have HF := Lib.hid hf; clear hf
    go_wp2_with fail
    refine HF.out.mono ?_
    rintro e W5 ⟨v, rfl, hrow, hv, hc5⟩
    obtain ⟨va, vc, rfl⟩ := row.shape hrow
    have HR := Lib.hid hrow; clear hrow
    have HV := Lib.hid hv; clear hv
    have HC5 := Lib.hid hc5; clear hc5
    go_wp2_with fail
    go_ret3
    exact ⟨_, rfl, HR.out, fun q hq => Nat.le_trans HC4.out.size (HV.out q hq), HC4.out.trans HC5.out (by simp)⟩
  · rw [if_neg h0]
    have e1 : ((te : Int) != 0) = true := by simp; omega
    have HH0 := Lib.hid h0; clear h0 hok
    go_enter Try.func23, Try.ntmps23
    go_wp2_with fail
    refine calls_named fun W1 hW1 => ?_
    have hc1 := alw_ch hW1
    have hb1 := alw_blk (xs := [.int .i64 r]) hW1
    clear hW1
    refine (HTD.out W1 hc1 _ hb1).mono ?_
    rintro e w2 ⟨rfl, hc2⟩
    have HC2 := Lib.hid (hc1.trans hc2 (by simp)); clear hc1 hc2 hb1
    go_wp2_with fail
    go_ret3
    exact ⟨_, rfl, ⟨rfl, .inl ⟨rfl, rfl⟩⟩, by simp, HC2.out⟩
theorem Sl.two {w : World} {b : Nat} {r s : Int} (h : blk w b [.int .i64 r, .int .i64 s]) : Sl w (some ⟨b, 0, none⟩) [r, s] := ⟨fun i x hx => by
  rcases i with _ | _ | i
  · cases hx; exact ⟨b, 0, rfl, h.cell rfl⟩
  · cases hx; exact ⟨b, 0, rfl, h.cell rfl⟩
  · simp at hx, by simp⟩
set_option maxRecDepth 100000 in
set_option maxHeartbeats 2000000 in
theorem simParts1_is {w : World} {bx bo bp nb n r s : Nat} {vs : List Nat} (hr : r < 2 * n) (hs : s < 2 * n) (hn6 : n ≤ 65536) (hb : w.cell? ⟨bo, 0, none⟩ = some (.int .i64 r)) (hb2 : w.cell? ⟨bp, 0, none⟩ = some (.int .i64 s)) (hn : vs.length = n) (hlt : ∀ v ∈ vs, v < 2 ^ 64) (hx : w.cell? ⟨bx, 0, none⟩ = some (.slice (some ⟨nb, 0, none⟩) n n)) (hk : blk w nb (u64s vs)) :
    Calls Try.prog 91 (#[.func (.func 152) #[] #[.pointer (some ⟨bx, 0, none⟩)]] ++ #[.pointer (some ⟨bo, 0, none⟩), .pointer (some ⟨bp, 0, none⟩)]) w fun e w' => e = .returned (.int .u64 (wref U64 vs r ^^^ wref U64 vs s : Nat)) ∧ Ch [] w w' := by
  show Calls Try.prog 91 #[.func (.func 152) #[] #[.pointer (some ⟨bx, 0, none⟩)], .pointer (some ⟨bo, 0, none⟩), .pointer (some ⟨bp, 0, none⟩)] w _
  have hcf : ∀ args w, (callFunc 152 args).run Try.prog w = .ok (.enter 152 args) w := fnvsimof1
  have hO1 := fun (W : World) (hW : Ch [] w W) => simof1_is ((hW.cell (cell_lt hx) (by simp)).trans hx) (hk.ch hW (by simp)) hn hlt r hr (by omega)
  have hO2 := fun (W : World) (hW : Ch [] w W) => simof1_is ((hW.cell (cell_lt hx) (by simp)).trans hx) (hk.ch hW (by simp)) hn hlt s hs (by omega)
  have h1 := wref_lt (N := 64) hlt r
  have h2 := wref_lt (N := 64) hlt s
  rw [u64_pow] at h1 h2
  have hxo := bits_xor_u64_nat (wref U64 vs r) (wref U64 vs s) (by omega) (by omega)
  generalize wref U64 vs r = x at *
  generalize wref U64 vs s = y at *
  have HXO := Lib.hid hxo; clear hxo
  have HO1 := Lib.hid hO1; clear hO1
  have HO2 := Lib.hid hO2; clear hO2
  clear hx hk hlt hn
  go_enter Try.func91, Try.ntmps91
  go_wp2_with fail
  refine Ord.St.door (fun w' => Ch [] w w') [.fl, .ho, .ef, .fl, .ho, .ef, .fl, .fl] [0, 0, 3, 0, 0, 31, 63, 127] [0, 1, 2, 3, 4, 5, 6, 7] mixed (by kernel_rfl) rfl ?_
  obtain ⟨Wc, hWc⟩ : ∃ Wc, Wc = w.drew := ⟨_, rfl⟩
  rw [← hWc]
  have hcur : Ch [] w Wc := by rw [hWc]; exact (Ch.refl _ _).drew
  clear hWc
  refine Ord.St.fl2 (T' := ?_) 0 [1, 2, 3, 4, 5, 6, 7] _ _ rfl (by kernel_rfl) rfl rfl rfl rfl (fun K w' hk => ?_) ?_
  rotate_left
  · go_step; exact hk
  refine Ord.St.ho2 (T' := ?_) 1 [2, 3, 4, 5, 6, 7] _ _ rfl (by kernel_rfl) rfl rfl rfl rfl ?_ (fun K w' hw' hk => ?_) ?_
  rotate_left
  · exact hcur
  · have q1 := (hw'.cell (cell_lt hb) (by simp)).trans hb; have q2 := (hw'.cell (cell_lt hb2) (by simp)).trans hb2; go_step; exact hk
  refine Ord.St.fl2 (T' := ?_) 3 [2, 4, 5, 6, 7] _ _ rfl (by kernel_rfl) rfl rfl rfl rfl (fun K w' hk => ?_) ?_
  rotate_left
  · go_step; exact hk
  refine Ord.St.ho2 (T' := ?_) 4 [2, 5, 6, 7] _ _ rfl (by kernel_rfl) rfl rfl rfl rfl ?_ (fun K w' hw' hk => ?_) ?_
  rotate_left
  · exact hcur
  · have q1 := (hw'.cell (cell_lt hb) (by simp)).trans hb; have q2 := (hw'.cell (cell_lt hb2) (by simp)).trans hb2; go_step; exact hk
  refine Ord.St.efC 2 [5, 6, 7] _ rfl (by kernel_rfl) (fun K hK => ?_)
  go_wp2_with fail
  refine (HO1.out _ hcur).mono ?_
  rintro e w' ⟨rfl, rfl⟩
  go_wp2_with fail
  refine ⟨rfl, hK _ _ ?_ ?_⟩
  · exact hcur
  clear hK K
  refine Ord.St.ef 5 [6, 7] _ rfl (by kernel_rfl) (fun K hK => ?_)
  go_wp2_with fail
  refine (HO2.out _ hcur).mono ?_
  rintro e w' ⟨rfl, rfl⟩
  go_wp2_with fail
  refine ⟨rfl, hK _ _ ?_⟩; clear hK K
  refine Ord.St.fl2 (T' := ?_) 6 [7] _ _ rfl (by kernel_rfl) rfl rfl rfl rfl (fun K w' hk => ?_) ?_
  rotate_left
  · go_step; exact hk
  refine Ord.St.fl2 (T' := ?_) 7 [] _ _ rfl (by kernel_rfl) rfl rfl rfl rfl (fun K w' hk => ?_) ?_
  rotate_left
  · go_step; exact hk
  refine Ord.St.nil ?_
  go_wp2_with fail
  go_ret
  exact ⟨ret_int HXO.out, hcur⟩
theorem two_tells {w : World} {bo bp n r s : Nat} (hr : r < 2 * n) (hs : s < 2 * n) (hn6 : n ≤ 65536) (hb : blk w bo [.int .i64 r]) (hb2 : blk w bp [.int .i64 s]) : TellW w 91 #[.pointer (some ⟨bo, 0, none⟩), .pointer (some ⟨bp, 0, none⟩)] [bo, bp] n (fun vs => wref U64 vs r ^^^ wref U64 vs s) :=
  ⟨fnvsimParts1, fun vs h _ => by
    have h1 := wref_lt (N := 64) h r
    have h2 := wref_lt (N := 64) h s
    rw [u64_pow] at h1 h2
    exact Nat.xor_lt_two_pow h1 h2, fun k hk => by
      simp only [List.mem_cons, List.not_mem_nil, or_false] at hk
      rcases hk with rfl | rfl
      · exact hb.lt
      · exact hb2.lt, fun W hW bx nb vs hn hlt hx hk => simParts1_is hr hs hn6 ((hb.keep (hW bo (by simp))).cell (i := 0) rfl) ((hb2.keep (hW bp (by simp))).cell (i := 0) rfl) hn hlt hx hk⟩
set_option maxRecDepth 100000 in
set_option maxHeartbeats 2000000 in
theorem simParts_is (h : GIn w g G F) (r s : Int) (hr : -9223372036854775808 ≤ r ∧ r ≤ 9223372036854775807) (hs : -9223372036854775808 ≤ s ∧ s ≤ 9223372036854775807) :
    Calls Try.prog 32 #[.pointer (some ⟨g, 0, none⟩), .int .i64 r, .int .i64 s] w fun e w' => ∃ v, e = .returned (.tuple #[v, .bool (partsG G r s).1.2, .int .i64 (partsG G r s).2]) ∧ BNew w v (partsG G r s).1.1 w' := by
  have HTD := fun (W : World) (hW : Ch [] w W) (b : Nat) (hb : blk W b [.int .i64 r, .int .i64 s]) => simtabled_is (h.same hW (by simp)) (l := [r, s]) 2 2 rfl (Sl.two hb) (by simp; omega)
  unfold partsG
  have hok := tabE_ok (G := G) (l := [r, s])
  generalize tabE G [r, s] = te at *
  have HTD := Lib.hid HTD
  by_cases h0 : te = 0
  · subst h0
    obtain ⟨hbad, h16⟩ := hok rfl
    have hrr := badIn_no hbad
    obtain ⟨r0, rfl⟩ : ∃ r0 : Nat, r = (r0 : Int) := ⟨r.toNat, by
      have := hrr.1
      simp [nats] at this
      omega⟩
    obtain ⟨s0, rfl⟩ : ∃ s0 : Nat, s = (s0 : Int) := ⟨s.toNat, by
      have := hrr.1
      simp [nats] at this
      omega⟩
    have hrl : r0 < 2 * G.nodes.length := hrr.2 r0 (by simp [nats])
    have hsl : s0 < 2 * G.nodes.length := hrr.2 s0 (by simp [nats])
    have hnl : G.nodes.length ≤ 65536 := by have := h.ok.room; have := h.ok.most; omega
    rw [if_pos rfl]
    have HF := fun (W : World) (hW : Ch [] w W) (bo bp : Nat) (hb : blk W bo [.int .i64 r0]) (hb2 : blk W bp [.int .i64 s0]) => simfirst_is (h.same hW (by simp)) (two_tells hrl hsl hnl hb hb2) rfl h16 (tabx_of G.nodes r0 s0 _)
    rw [show (r0 : Int).toNat = r0 from rfl, show (s0 : Int).toNat = s0 from rfl]
    generalize firstR (inputs G.nodes).length (tellX G.nodes (inputs G.nodes).length r0 s0) = R at *
    obtain ⟨rl, rb⟩ := R
    have HF := Lib.hid HF
    clear hok hbad hrr h h16 hrl hsl
    go_enter Try.func32, Try.ntmps32
    go_wp2_with fail
    refine calls_named fun W1 hW1 => ?_
    have hc1 : Ch [] w W1 := by rw [hW1]; exact (((Ch.refl _ _).alloc _).alloc _).alloc _
    have hb1 : blk W1 w.heap.size [.int .i64 r0] := by rw [hW1]; exact ((blk.new' _ _ (by simp)).alloc _).alloc _
    have hb2 : blk W1 (w.heap.size + 1) [.int .i64 s0] := by rw [hW1]; exact (blk.new' _ _ (by simp)).alloc _
    have hb3 : blk W1 (w.heap.size + 2) [.int .i64 r0, .int .i64 s0] := by rw [hW1]; exact blk.new' _ _ (by simp)
    clear hW1
    refine (HTD.out W1 hc1 _ hb3).mono ?_
    rintro e w2 ⟨rfl, hc2⟩
    have hf := HF.out w2 (hc1.trans hc2 (by simp)) _ _ (hb1.ch hc2 (by simp)) (hb2.ch hc2 (by simp))
    have HC4 := Lib.hid (hc1.trans hc2 (by simp)); clear HTD hb1 hb2 hb3 hc1 hc2
    have HF := Lib.hid hf; clear hf
    go_wp2_with fail
    refine HF.out.mono ?_
    rintro e W5 ⟨v, rfl, hrow, hv, hc5⟩
    obtain ⟨va, vc, rfl⟩ := row.shape hrow
    have HR := Lib.hid hrow; clear hrow
    have HV := Lib.hid hv; clear hv
    have HC5 := Lib.hid hc5; clear hc5
    go_wp2_with fail
    go_ret3
    exact ⟨_, rfl, HR.out, fun q hq => Nat.le_trans HC4.out.size (HV.out q hq), HC4.out.trans HC5.out (by simp)⟩
  · rw [if_neg h0]
    have e1 : ((te : Int) != 0) = true := by simp; omega
    have HH0 := Lib.hid h0; clear h0 hok
    go_enter Try.func32, Try.ntmps32
    go_wp2_with fail
    refine calls_named fun W1 hW1 => ?_
    have hc1 : Ch [] w W1 := by rw [hW1]; exact (((Ch.refl _ _).alloc _).alloc _).alloc _
    have hb3 : blk W1 (w.heap.size + 2) [.int .i64 r, .int .i64 s] := by rw [hW1]; exact blk.new' _ _ (by simp)
    clear hW1
    refine (HTD.out W1 hc1 _ hb3).mono ?_
    rintro e w2 ⟨rfl, hc2⟩
    have HC2 := Lib.hid (hc1.trans hc2 (by simp)); clear hc1 hc2 hb3
    go_wp2_with fail
    go_ret3
    exact ⟨_, rfl, ⟨rfl, .inl ⟨rfl, rfl⟩⟩, by simp, HC2.out⟩
end
end Go.Proofs.Ytnmfdiiehkkjcaa
namespace Go.Aig
/-- a small one: kind, and three numbers -/
structure Sm where
  k : Nat
  a : Nat
  b : Nat
  c : Nat
def pickI (len n : Nat) : Nat := len - 1 - n / 2 % len
def pickR (refs : List Nat) (n : Nat) : Nat := if n % 2 = 1 then neg (refs.getD (pickI refs.length n) 0) else refs.getD (pickI refs.length n) 0
def pickW (want : List Nat) (n : Nat) : Nat := if n % 2 = 1 then want.getD (pickI want.length n) 0 ^^^ 65535 else want.getD (pickI want.length n) 0
def stepW (want : List Nat) (x : Sm) : Nat :=
  let u := pickW want x.a; let v := pickW want x.b; let w := pickW want x.c
  if x.k % 6 = 0 then u &&& v else if x.k % 6 = 1 then u ||| v else if x.k % 6 = 2 then u ^^^ v else if x.k % 6 = 3 then (u &&& v) ||| ((u ^^^ 65535) &&& w) else if x.k % 6 = 4 then u &&& v &&& w else u ||| v ||| w
theorem xor_lt {a : Nat} (h : a < 65536) : a ^^^ 65535 < 65536 := Nat.xor_lt_two_pow (n := 16) h (by decide)
theorem pickW_lt {want : List Nat} (h : ∀ x ∈ want, x < 65536) (n : Nat) : pickW want n < 65536 := by
  have hd : ∀ i, want.getD i 0 < 65536 := fun i => by
    rw [List.getD_eq_getElem?_getD]
    cases hi : want[i]? with
    | none => simp
    | some x => exact h x (List.mem_of_getElem? hi)
  unfold pickW; split
  · exact xor_lt (hd _)
  · exact hd _
theorem pickI_lt {len : Nat} (h : 0 < len) (n : Nat) : pickI len n < len := by unfold pickI; omega
theorem pickR_lt {refs : List Nat} {m : Nat} (h : ∀ r ∈ refs, r < 2 * m) (h0 : 0 < refs.length) (n : Nat) : pickR refs n < 2 * m := by
  have hd : refs.getD (pickI refs.length n) 0 < 2 * m := by
    rw [List.getD_eq_getElem?_getD, List.getElem?_eq_getElem (pickI_lt h0 n)]
    exact h _ (List.getElem_mem _)
  unfold pickR; split
  · exact neg_lt hd
  · exact hd
theorem stepW_lt {want : List Nat} (h : ∀ x ∈ want, x < 65536) (x : Sm) : stepW want x < 65536 := by
  have hu := pickW_lt h x.a
  have hv := pickW_lt h x.b
  have hw := pickW_lt h x.c
  have ha : ∀ {a b : Nat}, a < 65536 → b < 65536 → a &&& b < 65536 := fun {a b} h1 h2 => Nat.and_lt_two_pow (n := 16) _ h2
  have ho : ∀ {a b : Nat}, a < 65536 → b < 65536 → a ||| b < 65536 := fun {a b} h1 h2 => Nat.or_lt_two_pow (n := 16) h1 h2
  have hx : ∀ {a b : Nat}, a < 65536 → b < 65536 → a ^^^ b < 65536 := fun {a b} h1 h2 => Nat.xor_lt_two_pow (n := 16) h1 h2
  unfold stepW
  (repeat' split)
  · exact ha hu hv
  · exact ho hu hv
  · exact hx hu hv
  · exact ho (ha hu hv) (ha (xor_lt hu) hw)
  · exact ha (ha hu hv) hw
  · exact ho (ho hu hv) hw
end Go.Aig
namespace Go.Proofs.Ytnmfdiiehkkjcaa
open Go.RowKit Go.Mem Go.Aig
section
variable {w : World} {g : Value} {ra wa : Option Addr} {refs want : List Nat}
end
end Go.Proofs.Ytnmfdiiehkkjcaa
namespace Go.Proofs.Ytnmfdiiehkkjcaa
open Go.RowKit Go.Mem Go.Aig
def stepRes (G : Gra) (refs : List Nat) (x : Sm) : Res :=
  let p := pickR refs x.a; let q := pickR refs x.b; let r := pickR refs x.c
  if x.k % 6 = 0 then doAnd G p q else if x.k % 6 = 1 then doOr G p q else if x.k % 6 = 2 then doXor G p q else if x.k % 6 = 3 then doMux G p q r else if x.k % 6 = 4 then doAll G [p, q, r] else doAny G [p, q, r]
theorem and_words (x y : Nat) (hx : x < 65536) (hy : y < 65536) : bits .and .u64 (x : Int) (y : Int) = ((x &&& y : Nat) : Int) := bits_and_u64_nat x y (by omega) (by omega)
theorem or_words (x y : Nat) (hx : x < 65536) (hy : y < 65536) : bits .or .u64 (x : Int) (y : Int) = ((x ||| y : Nat) : Int) := bits_or_u64_nat x y (by omega) (by omega)
theorem xor_words (x y : Nat) (hx : x < 65536) (hy : y < 65536) : bits .xor .u64 (x : Int) (y : Int) = ((x ^^^ y : Nat) : Int) := bits_xor_u64_nat x y (by omega) (by omega)
theorem ret_iii {k l m : IntKind} {a b c d e f : Int} (h : a = b) (h' : c = d) (h'' : e = f) : Ending.returned (.tuple #[.int k a, .int l c, .int m e]) = .returned (.tuple #[.int k b, .int l d, .int m f]) := by rw [h, h', h'']
theorem and3_lt {a b : Nat} (_h1 : a < 65536) (h2 : b < 65536) : a &&& b < 65536 := Nat.and_lt_two_pow (n := 16) _ h2
theorem or3_lt {a b : Nat} (h1 : a < 65536) (h2 : b < 65536) : a ||| b < 65536 := Nat.or_lt_two_pow (n := 16) h1 h2
theorem mux_words (u v w : Nat) (hu : u < 65536) (hv : v < 65536) (hw : w < 65536) : bits .or .u64 (bits .and .u64 (u : Int) (v : Int)) (bits .and .u64 (bits .and .u64 (bits .xor .u64 IntKind.u64.max (u : Int)) (w : Int)) 65535) = (((u &&& v) ||| ((u ^^^ 65535) &&& w) : Nat) : Int) := by
  have h1 := bits_xor_u64_nat 18446744073709551615 u (by omega) (by omega)
  have h2 : 18446744073709551615 ^^^ u < 2 ^ 64 := Nat.xor_lt_two_pow (by omega) (by omega)
  have h3 := bits_and_u64_nat (18446744073709551615 ^^^ u) w (by omega) (by omega)
  have h4 : (18446744073709551615 ^^^ u) &&& w < 65536 := Nat.and_lt_two_pow (n := 16) _ hw
  have h5 := and_words ((18446744073709551615 ^^^ u) &&& w) 65535 h4 (by omega)
  have h6 : ((18446744073709551615 ^^^ u) &&& w) &&& 65535 < 65536 := Nat.and_lt_two_pow (n := 16) _ (by omega)
  rw [show IntKind.u64.max = ((18446744073709551615 : Nat) : Int) from by decide, h1, h3, show (65535 : Int) = ((65535 : Nat) : Int) from rfl, h5, and_words u v hu hv, or_words _ _ (and3_lt hu hv) h6]
  congr 2
  apply Nat.eq_of_testBit_eq
  intro i
  simp only [Nat.testBit_and, Nat.testBit_xor]
  rw [show (18446744073709551615 : Nat) = 2 ^ 64 - 1 from rfl, show (65535 : Nat) = 2 ^ 16 - 1 from rfl, Nat.testBit_two_pow_sub_one, Nat.testBit_two_pow_sub_one]
  by_cases hi : i < 16
  · have : i < 64 := by omega
    simp [hi, this]
  · have hw' : w.testBit i = false := Nat.testBit_lt_two_pow (Nat.lt_of_lt_of_le hw (by show 2 ^ 16 ≤ 2 ^ i; exact Nat.pow_le_pow_right (by omega) (by omega)))
    simp [hw']
section
variable {w : World} {g : Nat} {G : Gra} {F : List Nat} {ra wa : Option Addr} {refs want : List Nat}
/-- what step is told of the graph, and of the two slices -/
structure Told (w : World) (g : Nat) (G : Gra) (F : List Nat) (ra wa : Option Addr) (len : Nat) (refs want : List Nat) : Prop where
  gin : GIn w g G F
  hr : Sv w ra (refsCells refs)
  hw : Sv w wa (u64s want)
  l1 : refs.length = len
  l2 : want.length = len
  pos : 0 < len
  max : len ≤ 1000000
  ar : ∀ p, ra = some p → p.block < w.heap.size ∧ p.block ∉ F
  aw : ∀ p, wa = some p → p.block < w.heap.size ∧ p.block ∉ F
  words : ∀ x ∈ want, x < 65536
  refs : ∀ r ∈ refs, r < 2 * G.nodes.length
theorem Told.same {w' : World} {len : Nat} (h : Told w g G F ra wa len refs want) (hc : Ch [] w w') : Told w' g G F ra wa len refs want :=
  ⟨h.gin.same hc (by simp), h.hr.ch hc (by simp), h.hw.ch hc (by simp), h.l1, h.l2, h.pos, h.max, fun p hp => ⟨Nat.lt_of_lt_of_le (h.ar p hp).1 hc.size, (h.ar p hp).2⟩, fun p hp => ⟨Nat.lt_of_lt_of_le (h.aw p hp).1 hc.size, (h.aw p hp).2⟩, h.words, h.refs⟩
theorem Sl.new3 (w : World) (p q z : Int) : Sl (w.alloc (.cells #[.int .i64 p, .int .i64 q, .int .i64 z] 29)) (some ⟨w.heap.size, 0, none⟩) [p, q, z] := ⟨fun i y hy => ⟨_, _, rfl, by
  have hb : blk (w.alloc (.cells #[.int .i64 p, .int .i64 q, .int .i64 z] 29)) w.heap.size [.int .i64 p, .int .i64 q, .int .i64 z] := blk.new' _ _ rfl
  have hi : i < 3 := (List.getElem?_eq_some_iff.1 hy).1
  rcases i with _ | _ | _ | i
  all_goals first | omega | (simp at hy; subst hy; exact hb.cell rfl)⟩, by simp⟩
theorem blk3 {w : World} {b : Nat} {x y z : Value} (h : blk w b [x, y, z]) : w.cell? ⟨b, 0, none⟩ = some x ∧ w.cell? ⟨b, 1, none⟩ = some y ∧ w.cell? ⟨b, 2, none⟩ = some z := ⟨h.cell rfl, h.cell rfl, h.cell rfl⟩
theorem blk4 {w : World} {b : Nat} {x y z t : Value} (h : blk w b [x, y, z, t]) : w.cell? ⟨b, 0, none⟩ = some x ∧ w.cell? ⟨b, 1, none⟩ = some y ∧ w.cell? ⟨b, 2, none⟩ = some z ∧ w.cell? ⟨b, 3, none⟩ = some t := ⟨h.cell rfl, h.cell rfl, h.cell rfl, h.cell rfl⟩
end
end Go.Proofs.Ytnmfdiiehkkjcaa
namespace Go.Proofs.Ytnmfdiiehkkjcaa
open Go.Aig
theorem and_room {G : Gra} {a b : Nat} (h : G.nodes.length < G.most) : (Aig.and G a b).2.2 = 0 ∧ (Aig.and G a b).1.nodes.length ≤ G.nodes.length + 1 := by
  unfold Aig.and
  split
  · exact ⟨rfl, by show G.nodes.length ≤ _; omega⟩
  · split
    · exact ⟨rfl, by show G.nodes.length ≤ _; omega⟩
    · unfold put
      rw [if_neg (by omega)]
      exact ⟨rfl, by simp⟩
theorem and_most (G : Gra) (a b : Nat) : (Aig.and G a b).1.most = G.most := by
  unfold Aig.and put; (repeat' split) <;> rfl
theorem mand_room {s : Mk} {a b : Nat} (he : s.2 = 0) (h : s.1.nodes.length < s.1.most) : (mand s a b).1.2 = 0 ∧ (mand s a b).1.1.nodes.length ≤ s.1.nodes.length + 1 ∧ (mand s a b).1.1.most = s.1.most := by
  unfold mand
  rw [if_neg (by omega)]
  obtain ⟨h1, h2⟩ := and_room (a := a) (b := b) h
  exact ⟨h1, h2, and_most _ _ _⟩
theorem mor_room {s : Mk} {a b : Nat} (he : s.2 = 0) (h : s.1.nodes.length < s.1.most) : (mor s a b).1.2 = 0 ∧ (mor s a b).1.1.nodes.length ≤ s.1.nodes.length + 1 ∧ (mor s a b).1.1.most = s.1.most := mand_room (a := neg a) (b := neg b) he h
theorem mmux_room {s : Mk} {c a b : Nat} (he : s.2 = 0) (h : s.1.nodes.length + 3 ≤ s.1.most) : (mmux s c a b).1.2 = 0 ∧ (mmux s c a b).1.1.nodes.length ≤ s.1.nodes.length + 3 ∧ (mmux s c a b).1.1.most = s.1.most := by
  obtain ⟨h1, h2, h3⟩ := mand_room (a := c) (b := a) he (by omega)
  obtain ⟨h4, h5, h6⟩ := mand_room (a := neg c) (b := b) h1 (by omega)
  obtain ⟨h7, h8, h9⟩ := mor_room (a := (mand s c a).2) (b := (mand (mand s c a).1 (neg c) b).2) h4 (by omega)
  exact ⟨h7, by show (mor _ _ _).1.1.nodes.length ≤ _; omega, by show (mor _ _ _).1.1.most = _; omega⟩
theorem mall_room : ∀ (l : List Nat) {s : Mk} {out : Nat}, s.2 = 0 → s.1.nodes.length + l.length ≤ s.1.most → (mall s out l).1.2 = 0 ∧ (mall s out l).1.1.nodes.length ≤ s.1.nodes.length + l.length ∧ (mall s out l).1.1.most = s.1.most
  | [], s, out, he, _ => ⟨he, by simp [mall], rfl⟩
  | r :: l, s, out, he, h => by
    simp only [List.length_cons] at h ⊢
    obtain ⟨h1, h2, h3⟩ := mand_room (a := out) (b := r) he (by omega)
    obtain ⟨h4, h5, h6⟩ := mall_room l (s := (mand s out r).1) (out := (mand s out r).2) h1 (by omega)
    refine ⟨h4, ?_, ?_⟩
    · show (mall (mand s out r).1 (mand s out r).2 l).1.1.nodes.length ≤ _; omega
    · show (mall (mand s out r).1 (mand s out r).2 l).1.1.most = _; omega
/-- what a maker is that keeps all in order -/
structure Good (f : Mk → Mk × Nat) (G : Gra) (k : Nat) (v : (Nat → Bool) → Bool) : Prop where
  ok : MOk (f (G, 0)).1
  ext : Ext G (f (G, 0)).1.1
  lt : (f (G, 0)).2 < 2 * (f (G, 0)).1.1.nodes.length
  sem : ∀ env, (f (G, 0)).1.2 = 0 → bv env (f (G, 0)).1.1.nodes (f (G, 0)).2 = v env
  room : G.nodes.length + k ≤ G.most → (f (G, 0)).1.2 = 0 ∧ (f (G, 0)).1.1.nodes.length ≤ G.nodes.length + k
theorem right_of {ns : List Nd} {r : Nat} (h : r < 2 * ns.length) : right ns (r : Int) = true := by unfold right; simp; omega
theorem whole_good {G : Gra} {l : List Nat} {f : Mk → Mk × Nat} {k : Nat} {v : (Nat → Bool) → Bool} (hl : ∀ r ∈ l, r < 2 * G.nodes.length) (h : Good f G k v) (hok : Ok G) :
    Ok (whole G (l.map fun (r : Nat) => (r : Int)) f).1 ∧ Ext G (whole G (l.map fun (r : Nat) => (r : Int)) f).1 ∧ (whole G (l.map fun (r : Nat) => (r : Int)) f).2.1 < 2 * (whole G (l.map fun (r : Nat) => (r : Int)) f).1.nodes.length ∧
      (∀ env, (whole G (l.map fun (r : Nat) => (r : Int)) f).2.2 = 0 → bv env (whole G (l.map fun (r : Nat) => (r : Int)) f).1.nodes (whole G (l.map fun (r : Nat) => (r : Int)) f).2.1 = v env) ∧
      (G.nodes.length + k ≤ G.most → (whole G (l.map fun (r : Nat) => (r : Int)) f).2.2 = 0 ∧ (whole G (l.map fun (r : Nat) => (r : Int)) f).1.nodes.length ≤ G.nodes.length + k) := by
  have hany : ((l.map fun (r : Nat) => (r : Int)).any fun r => !right G.nodes r) = false := by
    rw [List.any_eq_false]
    intro x hx
    obtain ⟨r, hr, rfl⟩ := List.mem_map.1 hx
    simp [right_of (hl r hr)]
  have hp := hok.wf.pos
  unfold whole
  rw [hany]
  simp only [Bool.false_eq_true, if_false]
  by_cases he : (f (G, 0)).1.2 = 0
  · rw [if_neg (by omega)]
    exact ⟨h.ok.ok, h.ext, h.lt, fun env _ => h.sem env he, fun hk => ⟨rfl, (h.room hk).2⟩⟩
  · rw [if_pos (by omega)]
    exact ⟨hok, Ext.refl _, by show 0 < 2 * G.nodes.length; omega, fun env hz => (he hz).elim, fun hk => (he (h.room hk).1).elim⟩
section
variable {G : Gra} (h : Ok G)
include h
theorem mok0 : MOk (G, 0) := ⟨h, .inl rfl⟩
theorem good_and {a b : Nat} (ha : a < 2 * G.nodes.length) (hb : b < 2 * G.nodes.length) : Good (fun s => mand s a b) G 1 (fun env => bv env G.nodes a && bv env G.nodes b) := by
  obtain ⟨h1, h2, h3⟩ := mand_ok (mok0 h) ha hb
  exact ⟨h1, h2, h3, fun env he => mand_sem env (mok0 h) ha hb he, fun hk => ⟨(mand_room (s := (G, 0)) rfl hk).1, (mand_room (s := (G, 0)) rfl hk).2.1⟩⟩
theorem good_or {a b : Nat} (ha : a < 2 * G.nodes.length) (hb : b < 2 * G.nodes.length) : Good (fun s => mor s a b) G 1 (fun env => bv env G.nodes a || bv env G.nodes b) := by
  obtain ⟨h1, h2, h3⟩ := mor_ok (mok0 h) ha hb
  exact ⟨h1, h2, h3, fun env he => mor_sem env (mok0 h) ha hb he, fun hk => ⟨(mor_room (s := (G, 0)) rfl hk).1, (mor_room (s := (G, 0)) rfl hk).2.1⟩⟩
theorem good_mux {c a b : Nat} (hc : c < 2 * G.nodes.length) (ha : a < 2 * G.nodes.length) (hb : b < 2 * G.nodes.length) : Good (fun s => mmux s c a b) G 3 (fun env => bv env G.nodes c && bv env G.nodes a || !bv env G.nodes c && bv env G.nodes b) := by
  obtain ⟨h1, h2, h3⟩ := mmux_ok (mok0 h) hc ha hb
  exact ⟨h1, h2, h3, fun env he => mmux_sem env (mok0 h) hc ha hb he, fun hk => ⟨(mmux_room (s := (G, 0)) rfl hk).1, (mmux_room (s := (G, 0)) rfl hk).2.1⟩⟩
theorem good_all {l : List Nat} (hl : ∀ r ∈ l, r < 2 * G.nodes.length) : Good (fun s => mall s 1 l) G l.length (fun env => l.all fun r => bv env G.nodes r) := by
  have hp := h.wf.pos
  obtain ⟨h1, h2, h3⟩ := mall_ok l (mok0 h) (show 1 < 2 * G.nodes.length by omega) hl
  refine ⟨h1, h2, h3, fun env he => ?_, fun hk => ⟨(mall_room l (s := (G, 0)) rfl hk).1, (mall_room l (s := (G, 0)) rfl hk).2.1⟩⟩
  have := mall_sem env l (mok0 h) (show 1 < 2 * G.nodes.length by omega) hl he
  rw [this]
  show (bv env G.nodes 1 && _) = _
  rw [bv_one env h.wf, Bool.true_and]
theorem good_any {l : List Nat} (hl : ∀ r ∈ l, r < 2 * G.nodes.length) : Good (fun s => many s l) G l.length (fun env => l.any fun r => bv env G.nodes r) := by
  have hl' : ∀ r ∈ l.map neg, r < 2 * G.nodes.length := fun r hr => by
    obtain ⟨x, hx, rfl⟩ := List.mem_map.1 hr
    exact neg_lt (hl x hx)
  have := good_all h hl'
  refine ⟨this.ok, this.ext, neg_lt this.lt, fun env he => ?_, fun hk => ?_⟩
  rotate_left
  · obtain ⟨h1, h2⟩ := this.room (by simpa using hk)
    exact ⟨h1, by simpa [many] using h2⟩
  have h2 := this.sem env he
  show bv env (mall (G, 0) 1 (l.map neg)).1.1.nodes (neg (mall (G, 0) 1 (l.map neg)).2) = _
  rw [bv_neg, h2]
  simp only [List.all_map, Function.comp_def, bv_neg]
  simp [List.any_eq_not_all_not]
end
/-- the maker of a small one, the references that it takes, and what it means -/
def stepMk (refs : List Nat) (x : Sm) : Mk → Mk × Nat := fun s =>
  let p := pickR refs x.a; let q := pickR refs x.b; let r := pickR refs x.c
  if x.k % 6 = 0 then mand s p q else if x.k % 6 = 1 then mor s p q else if x.k % 6 = 2 then mmux s p (neg q) q else if x.k % 6 = 3 then mmux s p q r else if x.k % 6 = 4 then mall s 1 [p, q, r] else many s [p, q, r]
def stepArgs (refs : List Nat) (x : Sm) : List Nat := if x.k % 6 < 3 then [pickR refs x.a, pickR refs x.b] else [pickR refs x.a, pickR refs x.b, pickR refs x.c]
def stepV (u v w : Bool) (k : Nat) : Bool :=
  if k % 6 = 0 then u && v else if k % 6 = 1 then u || v else if k % 6 = 2 then Bool.xor u v else if k % 6 = 3 then (u && v || !u && w) else if k % 6 = 4 then u && v && w else u || v || w
theorem stepRes_eq (G : Gra) (refs : List Nat) (x : Sm) : stepRes G refs x = whole G ((stepArgs refs x).map fun (r : Nat) => (r : Int)) (stepMk refs x) := by
  unfold stepRes stepArgs stepMk
  rcases (show x.k % 6 = 0 ∨ x.k % 6 = 1 ∨ x.k % 6 = 2 ∨ x.k % 6 = 3 ∨ x.k % 6 = 4 ∨ x.k % 6 = 5 by omega) with e | e | e | e | e | e <;> simp [e, doAnd, doOr, doXor, doMux, doAll, doAny]
theorem stepMk_good {G : Gra} (h : Ok G) {refs : List Nat} (hr : ∀ r ∈ refs, r < 2 * G.nodes.length) (h0 : 0 < refs.length) (x : Sm) :
    Good (stepMk refs x) G 3 (fun env => stepV (bv env G.nodes (pickR refs x.a)) (bv env G.nodes (pickR refs x.b)) (bv env G.nodes (pickR refs x.c)) x.k) := by
  have hp := pickR_lt hr h0 x.a
  have hq := pickR_lt hr h0 x.b
  have hz := pickR_lt hr h0 x.c
  have hl : ∀ r ∈ [pickR refs x.a, pickR refs x.b, pickR refs x.c], r < 2 * G.nodes.length := fun r hr => by
    simp at hr; rcases hr with rfl | rfl | rfl <;> assumption
  have up : ∀ {f : Mk → Mk × Nat} {v : (Nat → Bool) → Bool}, Good f G 1 v → Good f G 3 v := fun g => ⟨g.ok, g.ext, g.lt, g.sem, fun hk => ⟨(g.room (by omega)).1, by have := (g.room (by omega)).2; omega⟩⟩
  unfold stepMk stepV
  rcases (show x.k % 6 = 0 ∨ x.k % 6 = 1 ∨ x.k % 6 = 2 ∨ x.k % 6 = 3 ∨ x.k % 6 = 4 ∨ x.k % 6 = 5 by omega) with e | e | e | e | e | e <;> simp (decide := true) only [e, if_true, if_false]
  · exact up (good_and h hp hq)
  · exact up (good_or h hp hq)
  · have := good_mux h hp (neg_lt hq) hq
    refine ⟨this.ok, this.ext, this.lt, fun env he => (this.sem env he).trans ?_, this.room⟩
    rw [bv_neg]
    cases bv env G.nodes (pickR refs x.a) <;> cases bv env G.nodes (pickR refs x.b) <;> rfl
  · exact good_mux h hp hq hz
  · have := good_all h hl
    refine ⟨this.ok, this.ext, this.lt, fun env he => (this.sem env he).trans ?_, this.room⟩
    simp [Bool.and_assoc]
  · have := good_any h hl
    refine ⟨this.ok, this.ext, this.lt, fun env he => (this.sem env he).trans ?_, this.room⟩
    simp [Bool.or_assoc]
end Go.Proofs.Ytnmfdiiehkkjcaa
namespace Go.Proofs.Ytnmfdiiehkkjcaa
open Go.Aig
structure Bd where
  G : Gra
  refs : List Nat
  want : List Nat
def inNodes (k : Nat) : List Nd := ⟨1, 0, 0, 0⟩ :: List.replicate k ⟨2, 0, 0, 0⟩
def bd0 (most k : Nat) : Bd := ⟨⟨most, inNodes k⟩, 0 :: (List.range k).map (fun i => 2 * (i + 1)), 0 :: inWords.take k⟩
def stepB (b : Bd) (x : Sm) : Bd := ⟨(stepRes b.G b.refs x).1, b.refs ++ [(stepRes b.G b.refs x).2.1], b.want ++ [stepW b.want x]⟩
def builtB (most : Nat) (l : List Sm) : Bd := l.foldl stepB (bd0 most 4)
/-- the bits of the inputs, for the assignment j -/
def envOf (j k : Nat) : Bool := (inWords.getD k 0).testBit j
structure BOk (b : Bd) : Prop where
  ok : Ok b.G
  len : b.refs.length = b.want.length
  pos : 0 < b.refs.length
  refs : ∀ r ∈ b.refs, r < 2 * b.G.nodes.length
  words : ∀ x ∈ b.want, x < 65536
  sem : ∀ j, j < 16 → ∀ (i r x : Nat), b.refs[i]? = some r → b.want[i]? = some x → x.testBit j = bv (envOf j) b.G.nodes r
  ins : ∀ env, (nv env b.G.nodes).2 = 4
theorem inNodes_len (k : Nat) : (inNodes k).length = k + 1 := by simp [inNodes]
theorem doInput_in {most k : Nat} (h : k + 1 < most) : doInput ⟨most, inNodes k⟩ = (⟨most, inNodes (k + 1)⟩, 2 * (k + 1), 0) := by
  unfold doInput put
  rw [if_neg (by simp [inNodes_len]; omega)]
  simp [inNodes, List.replicate_succ']
theorem nv_count (env : Nat → Bool) : ∀ (ms ns : List Nd), (nv env (ns ++ ms)).2 = (nv env ns).2 + (ms.filter fun x => x.k == 2).length
  | [], ns => by simp
  | x :: ms, ns => by
    rw [List.append_cons, nv_count env ms (ns ++ [x]), nv_snoc]
    unfold nvStep
    by_cases h3 : x.k = 3
    · simp [h3]
    · by_cases h2 : x.k = 2
      · simp [h2]; omega
      · simp [h3, h2]
/-- what the ands make holds no input -/
theorem and_noin {G : Gra} {a b : Nat} : ∃ more, (Aig.and G a b).1.nodes = G.nodes ++ more ∧ ∀ x ∈ more, x.k = 3 := by
  unfold Aig.and put
  (repeat' split)
  · exact ⟨[], by simp, by simp⟩
  · exact ⟨[], by simp, by simp⟩
  · exact ⟨[], by simp, by simp⟩
  · exact ⟨_, rfl, fun x hx => by simp at hx; subst hx; rfl⟩
def NoIn (G G' : Gra) : Prop := ∃ more, G'.nodes = G.nodes ++ more ∧ ∀ x ∈ more, x.k = 3
theorem NoIn.refl (G : Gra) : NoIn G G := ⟨[], by simp, by simp⟩
theorem NoIn.trans {a b c : Gra} (h : NoIn a b) (h' : NoIn b c) : NoIn a c := by
  obtain ⟨m, e, h1⟩ := h
  obtain ⟨m', e', h2⟩ := h'
  exact ⟨m ++ m', by rw [e', e, List.append_assoc], fun x hx => (List.mem_append.1 hx).elim (h1 x) (h2 x)⟩
theorem mand_noin (s : Mk) (a b : Nat) : NoIn s.1 (mand s a b).1.1 := by
  unfold mand
  split
  · exact .refl _
  · exact and_noin
theorem mall_noin : ∀ (l : List Nat) (s : Mk) (out : Nat), NoIn s.1 (mall s out l).1.1
  | [], _, _ => .refl _
  | r :: l, s, out => (mand_noin s out r).trans (mall_noin l _ _)
theorem stepMk_noin (refs : List Nat) (x : Sm) (G : Gra) : NoIn G (stepMk refs x (G, 0)).1.1 := by
  unfold stepMk
  (repeat' split)
  · exact mand_noin _ _ _
  · exact mand_noin _ _ _
  · exact ((mand_noin _ _ _).trans (mand_noin _ _ _)).trans (mand_noin _ _ _)
  · exact ((mand_noin _ _ _).trans (mand_noin _ _ _)).trans (mand_noin _ _ _)
  · exact mall_noin _ _ _
  · exact mall_noin _ _ _
theorem whole_noin {G : Gra} {l : List Int} {f : Mk → Mk × Nat} (h : NoIn G (f (G, 0)).1.1) : NoIn G (whole G l f).1 := by
  unfold whole
  split
  · exact .refl _
  · dsimp only
    split
    · exact .refl _
    · exact h
theorem stepRes_noin (G : Gra) (refs : List Nat) (x : Sm) : NoIn G (stepRes G refs x).1 := by
  rw [stepRes_eq]
  exact whole_noin (stepMk_noin refs x G)
theorem NoIn.count {G G' : Gra} (h : NoIn G G') (env : Nat → Bool) : (nv env G'.nodes).2 = (nv env G.nodes).2 := by
  obtain ⟨more, e, hm⟩ := h
  rw [e, nv_count]
  have : more.filter (fun x => x.k == 2) = [] := by
    rw [List.filter_eq_nil_iff]
    intro x hx
    simp [hm x hx]
  simp [this]
theorem pickR_sem {b : Bd} (h : BOk b) (j : Nat) (hj : j < 16) (n : Nat) : (pickW b.want n).testBit j = bv (envOf j) b.G.nodes (pickR b.refs n) := by
  have hi := pickI_lt h.pos n
  have g1 : b.refs[pickI b.refs.length n]? = some b.refs[pickI b.refs.length n] := List.getElem?_eq_getElem hi
  have hi2 : pickI b.refs.length n < b.want.length := by rw [← h.len]; exact hi
  have g2 : b.want[pickI b.refs.length n]? = some b.want[pickI b.refs.length n] := List.getElem?_eq_getElem hi2
  have hs := h.sem j hj _ _ _ g1 g2
  have e1 : b.refs.getD (pickI b.refs.length n) 0 = b.refs[pickI b.refs.length n] := by rw [List.getD_eq_getElem?_getD, g1]; rfl
  have e2 : b.want.getD (pickI b.want.length n) 0 = b.want[pickI b.refs.length n] := by rw [← h.len, List.getD_eq_getElem?_getD, g2]; rfl
  unfold pickW pickR
  rw [e1, e2]
  split
  · rw [Nat.testBit_xor, hs, bv_neg, show (65535 : Nat) = 2 ^ 16 - 1 from rfl, Nat.testBit_two_pow_sub_one]
    simp [hj]
  · exact hs
theorem stepW_sem {b : Bd} (h : BOk b) (j : Nat) (hj : j < 16) (x : Sm) :
    (stepW b.want x).testBit j = stepV (bv (envOf j) b.G.nodes (pickR b.refs x.a)) (bv (envOf j) b.G.nodes (pickR b.refs x.b)) (bv (envOf j) b.G.nodes (pickR b.refs x.c)) x.k := by
  have hu := pickR_sem h j hj x.a
  have hv := pickR_sem h j hj x.b
  have hw := pickR_sem h j hj x.c
  have hm : Nat.testBit 65535 j = true := by rw [show (65535 : Nat) = 2 ^ 16 - 1 from rfl, Nat.testBit_two_pow_sub_one]; simp [hj]
  unfold stepW stepV
  rcases (show x.k % 6 = 0 ∨ x.k % 6 = 1 ∨ x.k % 6 = 2 ∨ x.k % 6 = 3 ∨ x.k % 6 = 4 ∨ x.k % 6 = 5 by omega) with e | e | e | e | e | e <;> simp (decide := true) only [e, if_true, if_false, Nat.testBit_and, Nat.testBit_or, Nat.testBit_xor, hu, hv, hw, hm, Bool.xor_true]
/-- a step where there is room -/
theorem stepB_ok {b : Bd} (h : BOk b) (x : Sm) (hr : b.G.nodes.length + 3 ≤ b.G.most) :
    (stepRes b.G b.refs x).2.2 = 0 ∧ BOk (stepB b x) ∧ Ext b.G (stepB b x).G ∧ (stepB b x).G.nodes.length ≤ b.G.nodes.length + 3 := by
  have hg := stepMk_good h.ok h.refs h.pos x
  have ha : ∀ r ∈ stepArgs b.refs x, r < 2 * b.G.nodes.length := fun r hr => by
    unfold stepArgs at hr
    split at hr <;> simp at hr
    · rcases hr with rfl | rfl <;> exact pickR_lt h.refs h.pos _
    · rcases hr with rfl | rfl | rfl <;> exact pickR_lt h.refs h.pos _
  obtain ⟨h1, h2, h3, h4, h5⟩ := whole_good ha hg h.ok
  rw [← stepRes_eq] at h1 h2 h3 h4 h5
  obtain ⟨h6, h7⟩ := h5 hr
  refine ⟨h6, ⟨h1, by simp [stepB, h.len], by simp [stepB], fun r hr => ?_, fun y hy => ?_, fun j hj i r y hi hy => ?_, fun env => ?_⟩, h2, h7⟩
  · simp only [stepB, List.mem_append, List.mem_singleton] at hr
    rcases hr with hr | rfl
    · exact h2.lt (h.refs r hr)
    · exact h3
  · simp only [stepB, List.mem_append, List.mem_singleton] at hy
    rcases hy with hy | rfl
    · exact h.words y hy
    · exact stepW_lt h.words x
  · simp only [stepB] at hi hy ⊢
    by_cases hlt : i < b.refs.length
    · rw [List.getElem?_append_left hlt] at hi
      rw [List.getElem?_append_left (by rw [← h.len]; exact hlt)] at hy
      rw [bv_of (envOf j) h2 (h.refs r (List.mem_of_getElem? hi))]
      exact h.sem j hj i r y hi hy
    · have hi' := (List.getElem?_eq_some_iff.1 hi).1
      simp at hi'
      have e : i = b.refs.length := by omega
      subst e
      rw [List.getElem?_append_right (Nat.le_refl _)] at hi
      rw [List.getElem?_append_right (by rw [h.len]; exact Nat.le_refl _)] at hy
      simp [h.len] at hi hy
      subst hi; subst hy
      rw [stepW_sem h j hj x, h4 (envOf j) h6]
  · exact ((stepRes_noin b.G b.refs x).count env).trans (h.ins env)
theorem bd0_ok {most : Nat} (h5 : 5 ≤ most) (hm : most ≤ 65536) : BOk (bd0 most 4) := by
  have hin : (bd0 most 4).G.nodes = [⟨1, 0, 0, 0⟩, ⟨2, 0, 0, 0⟩, ⟨2, 0, 0, 0⟩, ⟨2, 0, 0, 0⟩, ⟨2, 0, 0, 0⟩] := rfl
  have hw : WF (bd0 most 4).G.nodes := by
    have h1 := (newG_ok (n := 1) (by omega) (by omega)).wf
    exact (((h1.input).input).input).input
  refine ⟨⟨hw, by rw [hin]; simpa [bd0] using h5, hm⟩, rfl, by simp [bd0], ?_, ?_, ?_, fun env => rfl⟩
  · rw [hin]; intro r hr; simp [bd0, List.range, List.range.loop] at hr ⊢; omega
  · intro x hx; simp [bd0, inWords] at hx; omega
  · intro j hj i r x hi hx
    rcases i with _ | _ | _ | _ | _ | i <;> simp [bd0, List.range, List.range.loop, inWords] at hi hx
    all_goals subst hi; subst hx; simp [hin, bv, rv, nv, nvStep, envOf, inWords]
theorem run_ok : ∀ (l : List Sm) {b : Bd}, BOk b → b.G.nodes.length + 3 * l.length ≤ b.G.most → BOk (l.foldl stepB b) ∧ Ext b.G (l.foldl stepB b).G ∧ (l.foldl stepB b).G.nodes.length ≤ b.G.nodes.length + 3 * l.length ∧ (l.foldl stepB b).refs.length = b.refs.length + l.length
  | [], b, h, _ => ⟨h, .refl _, by simp, by simp⟩
  | x :: l, b, h, hr => by
    simp only [List.length_cons] at hr ⊢
    obtain ⟨_, h1, h2, h3⟩ := stepB_ok h x (by omega)
    obtain ⟨h4, h5, h6, h7⟩ := run_ok l h1 (by have : (stepB b x).G.most = b.G.most := h2.most; omega)
    refine ⟨h4, h2.trans h5, by simp only [List.foldl_cons]; omega, ?_⟩
    simp only [List.foldl_cons]
    rw [h7]
    simp [stepB]; omega
end Go.Proofs.Ytnmfdiiehkkjcaa
namespace Go.Proofs.Ytnmfdiiehkkjcaa
open Go.Aig
def wvStep (s : List Nat × Nat) (x : Nd) : List Nat × Nat :=
  if x.k = 3 then (s.1 ++ [wv s.1 x.l &&& wv s.1 x.r], s.2) else if x.k = 2 then (s.1 ++ [inWords.getD s.2 0], s.2 + 1) else (s.1 ++ [0], s.2)
def wvs (ns : List Nd) : List Nat × Nat := ns.foldl wvStep ([], 0)
theorem wvs_snoc (ns : List Nd) (x : Nd) : wvs (ns ++ [x]) = wvStep (wvs ns) x := by unfold wvs; rw [List.foldl_append]; rfl
theorem inWords_lt (k : Nat) : inWords.getD k 0 < 65536 := by
  rcases k with _ | _ | _ | _ | k <;> simp [inWords]
theorem wv_lt {vs : List Nat} (h : ∀ x ∈ vs, x < 65536) (r : Nat) : wv vs r < 65536 := by
  have hd : vs.getD (r / 2) 0 < 65536 := by
    rw [List.getD_eq_getElem?_getD]
    cases hi : vs[r / 2]? with
    | none => simp
    | some x => exact h x (List.mem_of_getElem? hi)
  unfold wv; split
  · exact xor_lt hd
  · exact hd
/-- the words go with the bits -/
structure WB (ns : List Nd) : Prop where
  len : (wvs ns).1.length = ns.length
  cnt : ∀ env, (wvs ns).2 = (nv env ns).2
  lt : ∀ x ∈ (wvs ns).1, x < 65536
  bit : ∀ j, j < 16 → ∀ i, ((wvs ns).1.getD i 0).testBit j = (nv (envOf j) ns).1.getD i false
theorem wv_bit {ns : List Nd} (h : WB ns) {j : Nat} (hj : j < 16) (r : Nat) : (wv (wvs ns).1 r).testBit j = bv (envOf j) ns r := by
  unfold wv bv rv
  split
  · rename_i h1
    rw [Nat.testBit_xor, h.bit j hj, show (65535 : Nat) = 2 ^ 16 - 1 from rfl, Nat.testBit_two_pow_sub_one]
    simp [hj, h1]
  · rename_i h1
    rw [h.bit j hj]
    simp [h1]
theorem getD_snoc {α : Type} (l : List α) (x d : α) (i : Nat) : (l ++ [x]).getD i d = if i < l.length then l.getD i d else if i = l.length then x else d := by
  simp only [List.getD_eq_getElem?_getD]
  by_cases h : i < l.length
  · rw [if_pos h, List.getElem?_append_left h]
  · rw [if_neg h]
    by_cases h2 : i = l.length
    · subst h2; rw [if_pos rfl, List.getElem?_append_right (Nat.le_refl _)]; simp
    · rw [if_neg h2, List.getElem?_eq_none (by simp; omega)]; rfl
theorem wb_nil : WB [] := ⟨rfl, fun _ => rfl, by simp [wvs], by intro j _ i; simp [wvs, nv]⟩
theorem wb_snoc {ns : List Nd} (h : WB ns) (x : Nd) : WB (ns ++ [x]) := by
  have hl : ∀ env, (nv env ns).1.length = (wvs ns).1.length := fun env => by rw [nv_len, h.len]
  refine ⟨?_, fun env => ?_, fun y hy => ?_, fun j hj i => ?_⟩
  · rw [wvs_snoc]; unfold wvStep; (repeat' split) <;> simp [h.len]
  · rw [wvs_snoc, nv_snoc]; unfold wvStep nvStep; (repeat' split) <;> simp [h.cnt env]
  · rw [wvs_snoc] at hy
    unfold wvStep at hy
    (repeat' split at hy) <;> simp at hy <;> rcases hy with hy | rfl
    · exact h.lt y hy
    · exact Nat.and_lt_two_pow (n := 16) _ (wv_lt h.lt _)
    · exact h.lt y hy
    · have := inWords_lt (wvs ns).2; simpa using this
    · exact h.lt y hy
    · omega
  · rw [wvs_snoc, nv_snoc]
    have e := h.cnt (envOf j)
    unfold wvStep nvStep
    split
    · rw [getD_snoc, getD_snoc, hl]
      (repeat' split)
      · exact h.bit j hj i
      · rw [Nat.testBit_and, wv_bit h hj, wv_bit h hj]; rfl
      · simp
    · split
      · rw [getD_snoc, getD_snoc, hl]
        (repeat' split)
        · exact h.bit j hj i
        · rw [e]; rfl
        · simp
      · rw [getD_snoc, getD_snoc, hl]
        (repeat' split)
        · exact h.bit j hj i
        · simp
        · simp
theorem wb_all : ∀ (ms ns : List Nd), WB ns → WB (ns ++ ms)
  | [], ns, h => by simpa using h
  | x :: ms, ns, h => by
    rw [List.append_cons]
    exact wb_all ms (ns ++ [x]) (wb_snoc h x)
theorem wb (ns : List Nd) : WB ns := by simpa using wb_all ns [] wb_nil
theorem cnt_mono (ns : List Nd) (k : Nat) : (wvs (ns.take k)).2 ≤ (wvs ns).2 := by
  rw [(wb _).cnt (fun _ => false), (wb _).cnt (fun _ => false)]
  have := nv_count (fun _ => false) (ns.drop k) (ns.take k)
  rw [List.take_append_drop] at this
  omega
/-- what the laws compare: the words of the references -/
theorem want_is {b : Bd} (h : BOk b) {i r x : Nat} (hr : b.refs[i]? = some r) (hx : b.want[i]? = some x) : wv (wvs b.G.nodes).1 r = x := by
  apply Nat.eq_of_testBit_eq
  intro j
  have hxl := h.words x (List.mem_of_getElem? hx)
  by_cases hj : j < 16
  · rw [wv_bit (wb _) hj, h.sem j hj i r x hr hx]
  · have hp : 2 ^ 16 ≤ 2 ^ j := Nat.pow_le_pow_right (by omega) (by omega)
    rw [Nat.testBit_lt_two_pow (Nat.lt_of_lt_of_le (wv_lt (wb _).lt r) hp), Nat.testBit_lt_two_pow (Nat.lt_of_lt_of_le hxl hp)]
end Go.Proofs.Ytnmfdiiehkkjcaa
namespace Go.Proofs.Ytnmfdiiehkkjcaa
open Go.Aig
/-- the first p nodes of a graph -/
structure Pre (B : Gra) (p : Nat) (H : Gra) : Prop where
  most : H.most = B.most
  le : p ≤ B.nodes.length
  nodes : H.nodes = B.nodes.take p
theorem Pre.len {B H : Gra} {p : Nat} (h : Pre B p H) : H.nodes.length = p := by rw [h.nodes, List.length_take]; have := h.le; omega
theorem _root_.Go.Aig.Ext.take {G B : Gra} (h : Ext G B) : B.nodes.take G.nodes.length = G.nodes := by
  obtain ⟨_, more, e⟩ := h
  rw [e, List.take_left]
theorem _root_.Go.Aig.Ext.get {G B : Gra} (h : Ext G B) {n : Nat} {x : Nd} (hx : G.nodes[n]? = some x) : B.nodes[n]? = some x := by
  obtain ⟨_, more, e⟩ := h
  rw [e, List.getElem?_append_left (List.getElem?_eq_some_iff.1 hx).1]; exact hx
theorem and_again {B G H : Gra} {p a b : Nat} (hB : Ok B) (hG : Ok G) (hH : Pre B p H) (hp : G.nodes.length ≤ p) (he : (Aig.and G a b).2.2 = 0) (hx : Ext (Aig.and G a b).1 B) (_ha : a < 2 * G.nodes.length) (_hb : b < 2 * G.nodes.length) :
    (Aig.and H a b).2.2 = 0 ∧ (Aig.and H a b).2.1 = (Aig.and G a b).2.1 ∧ Pre B (max p (Aig.and G a b).1.nodes.length) (Aig.and H a b).1 := by
  have hpos := hG.wf.pos
  have hwH : WF H.nodes := by rw [hH.nodes]; exact hB.wf.take (by omega)
  unfold Aig.and at he hx ⊢
  split at he
  · rename_i r hi
    exact ⟨rfl, rfl, by show Pre B (max p G.nodes.length) H; rw [Nat.max_eq_left hp]; exact hH⟩
  · rename_i l r hi
    rw [hi] at hx
    dsimp only at hx
    split at he
    · rename_i n hn
      rw [hn] at hx
      obtain ⟨x, hxn, hk, hl, hr⟩ := findAnd_some hn
      have hxB := hx.get hxn
      have hxH : H.nodes[n]? = some x := by rw [hH.nodes, List.getElem?_take, if_pos (by have := (List.getElem?_eq_some_iff.1 hxn).1; omega)]; exact hxB
      have hf := findAnd_of hwH hxH hk
      rw [hl, hr] at hf
      rw [hf]
      exact ⟨rfl, rfl, by show Pre B (max p G.nodes.length) H; rw [Nat.max_eq_left hp]; exact hH⟩
    · rename_i hn
      rw [hn] at hx
      unfold put at he hx ⊢
      split at he
      · cases he
      · rename_i hm
        rw [if_neg hm] at hx
        rw [if_neg hm]
        dsimp only at hx ⊢
        have hxB : B.nodes[G.nodes.length]? = some ⟨3, l, r, 1 + max (dep G.nodes a) (dep G.nodes b)⟩ := hx.get (by simp)
        have hBl := (List.getElem?_eq_some_iff.1 hxB).1
        have hmB : B.most = G.most := hx.most
        by_cases hlt : G.nodes.length < p
        · have hxH : H.nodes[G.nodes.length]? = some ⟨3, l, r, 1 + max (dep G.nodes a) (dep G.nodes b)⟩ := by rw [hH.nodes, List.getElem?_take, if_pos hlt]; exact hxB
          have hf := findAnd_of hwH hxH rfl
          dsimp only at hf
          rw [hf]
          refine ⟨rfl, rfl, ?_⟩
          show Pre B (max p (G.nodes ++ [_]).length) H
          rw [Nat.max_eq_left (by simp; omega)]
          exact hH
        · have hpe : p = G.nodes.length := by omega
          subst hpe
          have hGB : Ext G B := ⟨hmB, by obtain ⟨_, more, e⟩ := hx; exact ⟨[⟨3, l, r, 1 + max (dep G.nodes a) (dep G.nodes b)⟩] ++ more, by rw [e]; simp⟩⟩
          have hHG : H.nodes = G.nodes := by rw [hH.nodes, hGB.take]
          rw [hHG, hn]
          dsimp only
          rw [if_neg (by rw [hH.most, hmB]; exact hm)]
          refine ⟨rfl, rfl, ⟨hH.most, by simp; omega, ?_⟩⟩
          have := hx.take
          simp only [List.length_append, List.length_singleton] at this
          have hm2 : max G.nodes.length (G.nodes ++ [(⟨3, l, r, 1 + max (dep G.nodes a) (dep G.nodes b)⟩ : Nd)]).length = G.nodes.length + 1 := by simp
          rw [hm2]
          exact this.symm
/-- a maker over a cut graph goes with the one that made it -/
theorem mand_again {B : Gra} {s t : Mk} {p a b : Nat} (hB : Ok B) (hs : MOk s) (ht : t.2 = 0) (hH : Pre B p t.1) (hp : s.1.nodes.length ≤ p) (he : (mand s a b).1.2 = 0) (hx : Ext (mand s a b).1.1 B) (ha : a < 2 * s.1.nodes.length) (hb : b < 2 * s.1.nodes.length) :
    (mand t a b).1.2 = 0 ∧ (mand t a b).2 = (mand s a b).2 ∧ Pre B (max p (mand s a b).1.1.nodes.length) (mand t a b).1.1 := by
  obtain ⟨h0, e, h1⟩ := mand_err0 he
  rw [e] at hx ⊢
  obtain ⟨q1, q2, q3⟩ := and_again hB hs.ok hH hp h1 hx ha hb
  unfold mand
  rw [if_neg (by omega)]
  exact ⟨q1, q2, q3⟩
theorem mor_again {B : Gra} {s t : Mk} {p a b : Nat} (hB : Ok B) (hs : MOk s) (ht : t.2 = 0) (hH : Pre B p t.1) (hp : s.1.nodes.length ≤ p) (he : (mor s a b).1.2 = 0) (hx : Ext (mor s a b).1.1 B) (ha : a < 2 * s.1.nodes.length) (hb : b < 2 * s.1.nodes.length) :
    (mor t a b).1.2 = 0 ∧ (mor t a b).2 = (mor s a b).2 ∧ Pre B (max p (mor s a b).1.1.nodes.length) (mor t a b).1.1 := by
  obtain ⟨q1, q2, q3⟩ := mand_again hB hs ht hH hp (a := neg a) (b := neg b) he hx (neg_lt ha) (neg_lt hb)
  exact ⟨q1, by show neg _ = neg _; rw [q2], q3⟩
theorem mmux_again {B : Gra} {s t : Mk} {p c a b : Nat} (hB : Ok B) (hs : MOk s) (ht : t.2 = 0) (hH : Pre B p t.1) (hp : s.1.nodes.length ≤ p) (he : (mmux s c a b).1.2 = 0) (hx : Ext (mmux s c a b).1.1 B) (hc : c < 2 * s.1.nodes.length) (ha : a < 2 * s.1.nodes.length) (hb : b < 2 * s.1.nodes.length) :
    (mmux t c a b).1.2 = 0 ∧ (mmux t c a b).2 = (mmux s c a b).2 ∧ Pre B (max p (mmux s c a b).1.1.nodes.length) (mmux t c a b).1.1 := by
  obtain ⟨h1, h2, h3⟩ := mand_ok hs hc ha
  obtain ⟨h4, h5, h6⟩ := mand_ok h1 (h2.lt (neg_lt hc)) (h2.lt hb)
  obtain ⟨h7, h8, h9⟩ := mor_ok h4 (h5.lt h3) h6
  have e3 : (mor (mand (mand s c a).1 (neg c) b).1 (mand s c a).2 (mand (mand s c a).1 (neg c) b).2).1.2 = 0 := he
  have e2 := (mand_err0 (show (mand (mand (mand s c a).1 (neg c) b).1 (neg (mand s c a).2) (neg (mand (mand s c a).1 (neg c) b).2)).1.2 = 0 from e3)).1
  have e1 := (mand_err0 e2).1
  have hx3 : Ext (mor (mand (mand s c a).1 (neg c) b).1 (mand s c a).2 (mand (mand s c a).1 (neg c) b).2).1.1 B := hx
  have l1 := h2.len
  have l2 := h5.len
  have l3 := h8.len
  obtain ⟨q1, q2, q3⟩ := mand_again hB hs ht hH hp e1 ((h5.trans h8).trans hx3) hc ha
  obtain ⟨q4, q5, q6⟩ := mand_again hB h1 q1 q3 (by omega) e2 (h8.trans hx3) (h2.lt (neg_lt hc)) (h2.lt hb)
  obtain ⟨q7, q8, q9⟩ := mor_again hB h4 q4 q6 (by omega) e3 hx3 (h5.lt h3) h6
  show (mor (mand (mand t c a).1 (neg c) b).1 (mand t c a).2 (mand (mand t c a).1 (neg c) b).2).1.2 = 0 ∧ (mor (mand (mand t c a).1 (neg c) b).1 (mand t c a).2 (mand (mand t c a).1 (neg c) b).2).2 = (mor (mand (mand s c a).1 (neg c) b).1 (mand s c a).2 (mand (mand s c a).1 (neg c) b).2).2 ∧ Pre B (max p (mor (mand (mand s c a).1 (neg c) b).1 (mand s c a).2 (mand (mand s c a).1 (neg c) b).2).1.1.nodes.length) (mor (mand (mand t c a).1 (neg c) b).1 (mand t c a).2 (mand (mand t c a).1 (neg c) b).2).1.1
  rw [q2, q5]
  refine ⟨q7, q8, ?_⟩
  have hm : max (max (max p (mand s c a).1.1.nodes.length) (mand (mand s c a).1 (neg c) b).1.1.nodes.length) (mor (mand (mand s c a).1 (neg c) b).1 (mand s c a).2 (mand (mand s c a).1 (neg c) b).2).1.1.nodes.length = max p (mor (mand (mand s c a).1 (neg c) b).1 (mand s c a).2 (mand (mand s c a).1 (neg c) b).2).1.1.nodes.length := by omega
  rw [← hm]
  exact q9
theorem mall_again {B : Gra} (hB : Ok B) : ∀ (l : List Nat) {s t : Mk} {p out : Nat}, MOk s → t.2 = 0 → Pre B p t.1 → s.1.nodes.length ≤ p → (mall s out l).1.2 = 0 → Ext (mall s out l).1.1 B → out < 2 * s.1.nodes.length → (∀ r ∈ l, r < 2 * s.1.nodes.length) →
    (mall t out l).1.2 = 0 ∧ (mall t out l).2 = (mall s out l).2 ∧ Pre B (max p (mall s out l).1.1.nodes.length) (mall t out l).1.1
  | [], s, t, p, out, _, ht, hH, hp, _, _, _, _ => ⟨ht, rfl, by show Pre B (max p s.1.nodes.length) t.1; rw [Nat.max_eq_left hp]; exact hH⟩
  | r :: l, s, t, p, out, hs, ht, hH, hp, he, hx, ho, hl => by
    obtain ⟨h1, h2, h3⟩ := mand_ok hs ho (hl r (by simp))
    have hr : ∀ x ∈ l, x < 2 * (mand s out r).1.1.nodes.length := fun x hx => h2.lt (hl x (by simp [hx]))
    obtain ⟨h4, h5, h6⟩ := mall_ok l h1 h3 hr
    have e1 : (mand s out r).1.2 = 0 := mall_err0 l he
    have hx1 : Ext (mall (mand s out r).1 (mand s out r).2 l).1.1 B := hx
    obtain ⟨q1, q2, q3⟩ := mand_again hB hs ht hH hp e1 (h5.trans hx1) ho (hl r (by simp))
    have l1 := h2.len
    have l2 := h5.len
    obtain ⟨q4, q5, q6⟩ := mall_again hB l h1 q1 q3 (by omega) he hx1 h3 hr
    show (mall (mand t out r).1 (mand t out r).2 l).1.2 = 0 ∧ (mall (mand t out r).1 (mand t out r).2 l).2 = (mall (mand s out r).1 (mand s out r).2 l).2 ∧ Pre B (max p (mall (mand s out r).1 (mand s out r).2 l).1.1.nodes.length) (mall (mand t out r).1 (mand t out r).2 l).1.1
    rw [q2]
    refine ⟨q4, q5, ?_⟩
    have hm : max (max p (mand s out r).1.1.nodes.length) (mall (mand s out r).1 (mand s out r).2 l).1.1.nodes.length = max p (mall (mand s out r).1 (mand s out r).2 l).1.1.nodes.length := by omega
    rw [← hm]
    exact q6
theorem stepMk_again {B G H : Gra} {p : Nat} {refs : List Nat} (hB : Ok B) (hG : Ok G) (hH : Pre B p H) (hp : G.nodes.length ≤ p) (hr : ∀ r ∈ refs, r < 2 * G.nodes.length) (h0 : 0 < refs.length) (x : Sm) (he : (stepMk refs x (G, 0)).1.2 = 0) (hx : Ext (stepMk refs x (G, 0)).1.1 B) :
    (stepMk refs x (H, 0)).1.2 = 0 ∧ (stepMk refs x (H, 0)).2 = (stepMk refs x (G, 0)).2 ∧ Pre B (max p (stepMk refs x (G, 0)).1.1.nodes.length) (stepMk refs x (H, 0)).1.1 := by
  have hpa := pickR_lt hr h0 x.a
  have hqa := pickR_lt hr h0 x.b
  have hza := pickR_lt hr h0 x.c
  have hpos := hG.wf.pos
  have hl : ∀ r ∈ [pickR refs x.a, pickR refs x.b, pickR refs x.c], r < 2 * G.nodes.length := fun r hr => by
    simp at hr; rcases hr with rfl | rfl | rfl <;> assumption
  have hln : ∀ r ∈ [pickR refs x.a, pickR refs x.b, pickR refs x.c].map neg, r < 2 * G.nodes.length := fun r hr => by
    obtain ⟨y, hy, rfl⟩ := List.mem_map.1 hr
    exact neg_lt (hl y hy)
  unfold stepMk at he hx ⊢
  rcases (show x.k % 6 = 0 ∨ x.k % 6 = 1 ∨ x.k % 6 = 2 ∨ x.k % 6 = 3 ∨ x.k % 6 = 4 ∨ x.k % 6 = 5 by omega) with e | e | e | e | e | e <;> simp (decide := true) only [e, if_true, if_false] at he hx ⊢
  · exact mand_again (s := (G, 0)) (t := (H, 0)) hB ⟨hG, .inl rfl⟩ rfl hH hp he hx hpa hqa
  · exact mor_again (s := (G, 0)) (t := (H, 0)) hB ⟨hG, .inl rfl⟩ rfl hH hp he hx hpa hqa
  · exact mmux_again (s := (G, 0)) (t := (H, 0)) hB ⟨hG, .inl rfl⟩ rfl hH hp he hx hpa (neg_lt hqa) hqa
  · exact mmux_again (s := (G, 0)) (t := (H, 0)) hB ⟨hG, .inl rfl⟩ rfl hH hp he hx hpa hqa hza
  · exact mall_again hB _ (s := (G, 0)) (t := (H, 0)) ⟨hG, .inl rfl⟩ rfl hH hp he hx (by show 1 < 2 * G.nodes.length; omega) hl
  · obtain ⟨q1, q2, q3⟩ := mall_again hB _ (s := (G, 0)) (t := (H, 0)) ⟨hG, .inl rfl⟩ rfl hH hp he hx (by show 1 < 2 * G.nodes.length; omega) hln
    exact ⟨q1, by show neg _ = neg _; rw [q2], q3⟩
theorem whole_yes {G : Gra} {l : List Nat} {f : Mk → Mk × Nat} (hl : ∀ r ∈ l, r < 2 * G.nodes.length) (he : (f (G, 0)).1.2 = 0) : whole G (l.map fun (r : Nat) => (r : Int)) f = ((f (G, 0)).1.1, (f (G, 0)).2, 0) := by
  have hany : ((l.map fun (r : Nat) => (r : Int)).any fun r => !right G.nodes r) = false := by
    rw [List.any_eq_false]
    intro x hx
    obtain ⟨r, hr, rfl⟩ := List.mem_map.1 hx
    simp [right_of (hl r hr)]
  unfold whole
  rw [hany]
  simp only [Bool.false_eq_true, if_false]
  rw [if_neg (by omega)]
theorem stepArgs_lt {refs : List Nat} {m : Nat} (hr : ∀ r ∈ refs, r < 2 * m) (h0 : 0 < refs.length) (x : Sm) : ∀ r ∈ stepArgs refs x, r < 2 * m := fun r h => by
  unfold stepArgs at h
  split at h <;> simp at h
  · rcases h with rfl | rfl <;> exact pickR_lt hr h0 _
  · rcases h with rfl | rfl | rfl <;> exact pickR_lt hr h0 _
/-- a step made again -/
theorem stepRes_again {B H : Gra} {b : Bd} {p : Nat} (hB : Ok B) (h : BOk b) (hH : Pre B p H) (hp : b.G.nodes.length ≤ p) (x : Sm) (hroom : b.G.nodes.length + 3 ≤ b.G.most) (hx : Ext (stepB b x).G B) :
    stepRes H b.refs x = ((stepRes H b.refs x).1, (stepRes b.G b.refs x).2.1, 0) ∧ Pre B (max p (stepB b x).G.nodes.length) (stepRes H b.refs x).1 := by
  have hg := stepMk_good h.ok h.refs h.pos x
  have he := (hg.room hroom).1
  have ha := stepArgs_lt h.refs h.pos x
  have hw : stepRes b.G b.refs x = ((stepMk b.refs x (b.G, 0)).1.1, (stepMk b.refs x (b.G, 0)).2, 0) := by rw [stepRes_eq]; exact whole_yes ha he
  have hx2 : Ext (stepMk b.refs x (b.G, 0)).1.1 B := by unfold stepB at hx; rw [hw] at hx; exact hx
  obtain ⟨q1, q2, q3⟩ := stepMk_again hB h.ok hH hp h.refs h.pos x he hx2
  have hHl := hH.len
  have hwH : stepRes H b.refs x = ((stepMk b.refs x (H, 0)).1.1, (stepMk b.refs x (H, 0)).2, 0) := by rw [stepRes_eq]; exact whole_yes (fun r hr => by have := ha r hr; omega) q1
  refine ⟨by rw [hwH, hw, q2], ?_⟩
  rw [hwH]
  unfold stepB
  rw [hw]
  exact q3
end Go.Proofs.Ytnmfdiiehkkjcaa
namespace Go.Proofs.Ytnmfdiiehkkjcaa
open Go.Aig
theorem run_prefix : ∀ (l : List Sm) (b : Bd), (∃ m, (l.foldl stepB b).refs = b.refs ++ m) ∧ ∃ m, (l.foldl stepB b).want = b.want ++ m
  | [], b => ⟨⟨[], by simp⟩, ⟨[], by simp⟩⟩
  | x :: l, b => by
    obtain ⟨⟨m, h⟩, ⟨m', h'⟩⟩ := run_prefix l (stepB b x)
    exact ⟨⟨_, by rw [List.foldl_cons, h]; unfold stepB; rw [List.append_assoc]⟩, ⟨_, by rw [List.foldl_cons, h']; unfold stepB; rw [List.append_assoc]⟩⟩
/-- the graph behind i steps -/
def runTo (l : List Sm) (i : Nat) : Bd := ((l.take 60).take i).foldl stepB (bd0 4000 4)
structure AtStep (l : List Sm) (B : Bd) (i : Nat) (x : Sm) : Prop where
  ok : BOk (runTo l i)
  len : (runTo l i).G.nodes.length + 3 ≤ (runTo l i).G.most
  refs : (runTo l i).refs = B.refs.take (5 + i)
  want : (runTo l i).want = B.want.take (5 + i)
  next : runTo l (i + 1) = stepB (runTo l i) x
  ext : Ext (stepB (runTo l i) x).G B.G
  got : B.refs[5 + i]? = some (stepRes (runTo l i).G (runTo l i).refs x).2.1
  le : (runTo l i).G.nodes.length ≤ B.G.nodes.length
theorem runTo_all (l : List Sm) : runTo l (l.take 60).length = builtB 4000 (l.take 60) := by unfold runTo builtB; rw [List.take_length]
theorem runTo_zero (l : List Sm) : runTo l 0 = bd0 4000 4 := by unfold runTo; simp
theorem at_step {l : List Sm} {i : Nat} {x : Sm} (hx : (l.take 60)[i]? = some x) : AtStep l (builtB 4000 (l.take 60)) i x := by
  have hi := (List.getElem?_eq_some_iff.1 hx).1
  have hm : (l.take 60).length ≤ 60 := by rw [List.length_take]; omega
  have hn0 : (bd0 4000 4).G.nodes.length = 5 := rfl
  have hr0 : (bd0 4000 4).refs.length = 5 := rfl
  have hli : ((l.take 60).take i).length = i := by rw [List.length_take]; omega
  have hrun := run_ok ((l.take 60).take i) (bd0_ok (most := 4000) (by omega) (by omega)) (by rw [hli, hn0]; show 5 + 3 * i ≤ 4000; omega)
  rw [show ((l.take 60).take i).foldl stepB (bd0 4000 4) = runTo l i from rfl] at hrun
  obtain ⟨r1, r2, r3, r4⟩ := hrun
  rw [hli] at r3 r4
  rw [hn0] at r3
  rw [hr0] at r4
  have hmost : (runTo l i).G.most = 4000 := r2.most
  have hsplit : builtB 4000 (l.take 60) = ((l.take 60).drop i).foldl stepB (runTo l i) := by
    unfold builtB runTo
    rw [← List.foldl_append, List.take_append_drop]
  have hd : (l.take 60).drop i = x :: (l.take 60).drop (i + 1) := by
    rw [List.drop_eq_getElem_cons hi]
    rw [List.getElem?_eq_getElem hi] at hx
    cases hx; rfl
  obtain ⟨s1, s2, s3, s4⟩ := stepB_ok r1 x (by show (runTo l i).G.nodes.length + 3 ≤ (runTo l i).G.most; rw [hmost]; have : (runTo l i).G.nodes.length ≤ 5 + 3 * i := r3; omega)
  have hsplit2 : builtB 4000 (l.take 60) = ((l.take 60).drop (i + 1)).foldl stepB (stepB (runTo l i) x) := by rw [hsplit, hd]; rfl
  have hdl : ((l.take 60).drop (i + 1)).length ≤ 60 - (i + 1) := by rw [List.length_drop]; omega
  have hnl : (runTo l i).G.nodes.length ≤ 5 + 3 * i := r3
  have hsm : (stepB (runTo l i) x).G.most = 4000 := s3.most.trans hmost
  have hs4 : (stepB (runTo l i) x).G.nodes.length ≤ (runTo l i).G.nodes.length + 3 := s4
  obtain ⟨t1, t2, t3, t4⟩ := run_ok ((l.take 60).drop (i + 1)) s2 (by show (stepB (runTo l i) x).G.nodes.length + _ ≤ (stepB (runTo l i) x).G.most; omega)
  rw [← hsplit2] at t2
  obtain ⟨⟨m1, p1⟩, ⟨m2, p2⟩⟩ := run_prefix ((l.take 60).drop i) (runTo l i)
  rw [← hsplit] at p1 p2
  have hrl : (runTo l i).refs.length = 5 + i := r4
  have hwl : (runTo l i).want.length = 5 + i := by have := r1.len; show (runTo l i).want.length = _; have h2 : (runTo l i).refs.length = (runTo l i).want.length := this; omega
  obtain ⟨⟨m3, p3⟩, _⟩ := run_prefix ((l.take 60).drop (i + 1)) (stepB (runTo l i) x)
  rw [← hsplit2] at p3
  refine ⟨r1, by omega, by rw [p1, ← hrl, List.take_left], by rw [p2, ← hwl, List.take_left], ?_, t2, ?_, ?_⟩
  · unfold runTo
    rw [List.take_add_one, hx, List.foldl_append]; rfl
  · rw [p3]
    unfold stepB
    dsimp only
    rw [List.append_assoc, List.getElem?_append_right (by omega), hrl]
    simp
  · have := s3.len
    have h2 := t2.len
    have h3 : (runTo l i).G.nodes.length ≤ (stepB (runTo l i) x).G.nodes.length := this
    omega
/-- the and of a node's sides is that node -/
theorem doAnd_node {G : Gra} (h : Ok G) {i : Nat} {x : Nd} (hx : G.nodes[i]? = some x) (hk : x.k = 3) : doAnd G x.l x.r = (G, 2 * i, 0) ∧ doAnd G x.r x.l = (G, 2 * i, 0) := by
  obtain ⟨s1, s2, s3, s4, s5⟩ := h.wf.sides hx hk
  have hi := (List.getElem?_eq_some_iff.1 hx).1
  have hf := findAnd_of h.wf hx hk
  have hn : ∀ a b, (a = x.l ∧ b = x.r ∨ a = x.r ∧ b = x.l) → andIs a b = .node x.l x.r := by
    intro a b hab
    unfold andIs
    have e1 : min a b = x.l := by omega
    have e2 : max a b = x.r := by omega
    rw [e1, e2, if_neg, if_neg]
    · omega
    · intro hc
      rcases hc with hc | hc
      · omega
      · unfold neg at hc
        split at hc <;> omega
  have go : ∀ a b : Nat, (a = x.l ∧ b = x.r ∨ a = x.r ∧ b = x.l) → doAnd G a b = (G, 2 * i, 0) := by
    intro a b hab
    have hand : Aig.and G a b = (G, 2 * i, 0) := by unfold Aig.and; rw [hn a b hab]; dsimp only; rw [hf]
    have hm : mand (G, 0) a b = ((G, 0), 2 * i) := by unfold mand; rw [if_neg (by simp), hand]
    have := whole_yes (G := G) (l := [a, b]) (f := fun s => mand s a b) (fun r hr => by simp at hr; omega) (by rw [hm])
    unfold doAnd
    simp only [List.map_cons, List.map_nil, hm] at this
    simpa using this
  exact ⟨go _ _ (.inl ⟨rfl, rfl⟩), go _ _ (.inr ⟨rfl, rfl⟩)⟩
end Go.Proofs.Ytnmfdiiehkkjcaa
namespace Go.Proofs.Ytnmfdiiehkkjcaa
open Go.Aig
theorem coneFrom_cons {ns : List Nd} : ∀ {n : Nat} {met : List Bool} {d : Nat} {rest : List Nat}, coneFrom ns n met = d :: rest → d < n ∧ met.getD d false = true ∧ (∀ m, d < m → m < n → met.getD m false = false) ∧ rest = coneFrom ns d (stepMet ns met d)
  | 0, met, d, rest, h => by cases h
  | n + 1, met, d, rest, h => by
    unfold coneFrom at h
    split at h
    · rename_i hm
      obtain ⟨rfl, rfl⟩ := List.cons.inj h
      exact ⟨by omega, hm, fun m h1 h2 => by omega, rfl⟩
    · rename_i hm
      obtain ⟨h1, h2, h3, h4⟩ := coneFrom_cons h
      refine ⟨by omega, h2, fun m q1 q2 => ?_, h4⟩
      by_cases e : m = n
      · subst e; simpa using hm
      · exact h3 m q1 (by omega)
theorem coneFrom_nil {ns : List Nd} : ∀ {n : Nat} {met : List Bool}, coneFrom ns n met = [] → ∀ m, m < n → met.getD m false = false
  | 0, _, _, m, hm => by omega
  | n + 1, met, h, m, hm => by
    unfold coneFrom at h
    split at h
    · cases h
    · rename_i hn
      by_cases e : m = n
      · subst e; simpa using hn
      · exact coneFrom_nil h m (by omega)
theorem getD_set {l : List Bool} {i j : Nat} : (l.set i true).getD j false = true ↔ (l.getD j false = true ∨ (j = i ∧ i < l.length)) := by
  rw [List.getD_eq_getElem?_getD, List.getD_eq_getElem?_getD, List.getElem?_set]
  by_cases e : i = j
  · subst e
    by_cases h : i < l.length
    · simp [h]
    · simp [h]
  · simp [e, Ne.symm e]
/-- one node of the cone after the other -/
structure ConeAt (ns : List Nd) (D : List Nat) (k n : Nat) (met : List Bool) : Prop where
  len : met.length = ns.length
  rest : D.drop k = coneFrom ns n met
  done : ∀ m, (met.getD m false = true ∧ n ≤ m) ↔ m ∈ D.take k
theorem ConeAt.start (ns : List Nd) (l : List Nat) : ConeAt ns (coneDown ns l) 0 ns.length (met0 ns.length l) := by
  refine ⟨met0_len _ _, by simp [coneDown], fun m => ⟨fun ⟨h1, h2⟩ => ?_, fun h => by simp at h⟩⟩
  rw [List.getD_eq_getElem?_getD, List.getElem?_eq_none (by rw [met0_len]; exact h2)] at h1
  cases h1
theorem stepMet_getD {ns : List Nd} {met : List Bool} (hw : WF ns) {d : Nat} (hl : met.length = ns.length) (m : Nat) : (stepMet ns met d).getD m false = true ↔ (met.getD m false = true ∨ ∃ x, ns[d]? = some x ∧ x.k = 3 ∧ (m = x.l / 2 ∨ m = x.r / 2)) := by
  unfold stepMet
  split
  · rename_i x hx
    have hd := (List.getElem?_eq_some_iff.1 hx).1
    by_cases h3 : x.k = 3
    · obtain ⟨s1, s2, s3, s4, s5⟩ := hw.sides hx h3
      rw [if_pos h3]
      unfold setMark
      rw [getD_set, getD_set]
      simp only [List.length_set]
      constructor
      · rintro ((h | ⟨rfl, _⟩) | ⟨rfl, _⟩)
        · exact .inl h
        · exact .inr ⟨x, hx, h3, .inl rfl⟩
        · exact .inr ⟨x, hx, h3, .inr rfl⟩
      · rintro (h | ⟨y, hy, _, hm⟩)
        · exact .inl (.inl h)
        · rw [hx] at hy; cases hy
          rcases hm with rfl | rfl
          · exact .inl (.inr ⟨rfl, by omega⟩)
          · exact .inr ⟨rfl, by omega⟩
    · rw [if_neg h3]
      constructor
      · exact .inl
      · rintro (h | ⟨y, hy, hk, _⟩)
        · exact h
        · rw [hx] at hy; cases hy; exact absurd hk h3
  · rename_i hx
    constructor
    · exact .inl
    · rintro (h | ⟨y, hy, _⟩)
      · exact h
      · rw [hx] at hy; cases hy
theorem ConeAt.next {ns : List Nd} {D : List Nat} {k n : Nat} {met : List Bool} (h : ConeAt ns D k n met) (hw : WF ns) {d : Nat} (hd : D[k]? = some d) : d < n ∧ met.getD d false = true ∧ ConeAt ns D (k + 1) d (stepMet ns met d) := by
  have hdrop : D.drop k = d :: D.drop (k + 1) := by
    have hlt := (List.getElem?_eq_some_iff.1 hd).1
    rw [List.drop_eq_getElem_cons hlt]
    rw [List.getElem?_eq_getElem hlt] at hd
    cases hd; rfl
  have hr := h.rest
  rw [hdrop] at hr
  obtain ⟨h1, h2, h3, h4⟩ := coneFrom_cons hr.symm
  refine ⟨h1, h2, by rw [stepMet_len, h.len], h4, fun m => ?_⟩
  rw [List.take_add_one, hd, stepMet_getD hw h.len m]
  simp only [Option.toList_some, List.mem_append, List.mem_singleton]
  rw [← h.done m]
  constructor
  · rintro ⟨hm | ⟨x, hx, h3', hm⟩, hle⟩
    · by_cases e : m = d
      · exact .inr e
      · exact .inl ⟨hm, by
          rcases Nat.lt_or_ge m n with q | q
          · have := h3 m (by omega) q; rw [this] at hm; cases hm
          · exact q⟩
    · obtain ⟨s1, s2, s3, s4, s5⟩ := hw.sides hx h3'
      omega
  · rintro (⟨hm, hle⟩ | rfl)
    · exact ⟨.inl hm, by omega⟩
    · exact ⟨.inl h2, Nat.le_refl _⟩
/-- at the end just the cone is marked -/
theorem ConeAt.all {ns : List Nd} {D : List Nat} {k n : Nat} {met : List Bool} (h : ConeAt ns D k n met) (hk : D.length ≤ k) (m : Nat) : met.getD m false = true ↔ m ∈ D := by
  have hr := h.rest
  rw [List.drop_eq_nil_of_le hk] at hr
  have hd := h.done m
  rw [List.take_of_length_le hk] at hd
  rw [← hd]
  constructor
  · intro hm
    refine ⟨hm, ?_⟩
    rcases Nat.lt_or_ge m n with q | q
    · have := coneFrom_nil hr.symm m q; rw [this] at hm; cases hm
    · exact q
  · exact fun h => h.1
theorem coneFrom_desc {ns : List Nd} : ∀ (n : Nat) (met : List Bool), (coneFrom ns n met).Pairwise (fun a b => b < a)
  | 0, _ => List.Pairwise.nil
  | n + 1, met => by
    unfold coneFrom
    split
    · exact List.Pairwise.cons (fun r hr => coneFrom_lt ns n _ r hr) (coneFrom_desc n _)
    · exact coneFrom_desc n met
theorem cone_asc (ns : List Nd) (l : List Nat) : (cone ns l).Pairwise (fun a b => a < b) := by
  unfold cone
  rw [List.pairwise_reverse]
  exact coneFrom_desc _ _
/-- it grows with what is marked -/
theorem coneFrom_mono {ns : List Nd} (hw : WF ns) : ∀ (n : Nat) (met met' : List Bool), met.length = ns.length → met'.length = ns.length → (∀ m, met.getD m false = true → met'.getD m false = true) → ∀ x ∈ coneFrom ns n met, x ∈ coneFrom ns n met'
  | 0, _, _, _, _, _, x, hx => by cases hx
  | n + 1, met, met', hl, hl', hle, x, hx => by
    unfold coneFrom at hx ⊢
    have hle2 : ∀ m, (stepMet ns met n).getD m false = true → (stepMet ns met' n).getD m false = true := fun m hm => by
      rw [stepMet_getD hw hl] at hm
      rw [stepMet_getD hw hl']
      exact hm.imp (hle m) id
    have hle3 : ∀ m, met.getD m false = true → (stepMet ns met' n).getD m false = true := fun m hm => by
      rw [stepMet_getD hw hl']
      exact .inl (hle m hm)
    split at hx
    · rename_i h1
      rw [if_pos (hle n h1)]
      rcases List.mem_cons.1 hx with rfl | hx
      · exact List.mem_cons_self ..
      · exact List.mem_cons_of_mem _ (coneFrom_mono hw n _ _ (by rw [stepMet_len, hl]) (by rw [stepMet_len, hl']) hle2 x hx)
    · split
      · exact List.mem_cons_of_mem _ (coneFrom_mono hw n _ _ hl (by rw [stepMet_len, hl']) hle3 x hx)
      · exact coneFrom_mono hw n _ _ hl hl' hle x hx
theorem foldl_mark_mono : ∀ (l : List Nat) (met : List Bool) (m : Nat), met.getD m false = true → (l.foldl setMark met).getD m false = true
  | [], _, _, h => h
  | r :: l, met, m, h => foldl_mark_mono l _ m (by unfold setMark; rw [getD_set]; exact .inl h)
/-- the cone of some of the references is in that of all -/
theorem cone_take {ns : List Nd} (hw : WF ns) (l : List Nat) (i : Nat) : ∀ x ∈ cone ns (l.take i), x ∈ cone ns l := by
  intro x hx
  unfold cone coneDown at hx ⊢
  rw [List.mem_reverse] at hx ⊢
  refine coneFrom_mono hw _ _ _ (met0_len _ _) (met0_len _ _) (fun m hm => ?_) x hx
  unfold met0 at hm ⊢
  conv => lhs; arg 1; rw [← List.take_append_drop i l, List.foldl_append]
  exact foldl_mark_mono _ _ _ hm
end Go.Proofs.Ytnmfdiiehkkjcaa
namespace Go.Proofs.Ytnmfdiiehkkjcaa
open Go.Mem Go.Aig
theorem nodeAt_even {ns : List Nd} {d : Nat} {x : Nd} (hx : ns[d]? = some x) : nodeAt ns (2 * (d : Int)) = some x := by
  unfold nodeAt
  rw [if_pos (by omega), show ((2 * (d : Int)).toNat / 2) = d from by omega, hx]
theorem nodeAt_odd {ns : List Nd} {d : Nat} {x : Nd} (hx : ns[d]? = some x) : nodeAt ns (2 * (d : Int) + 1) = some x := by
  unfold nodeAt
  rw [if_pos (by omega), show ((2 * (d : Int) + 1).toNat / 2) = d from by omega, hx]
structure NodeIs (ns : List Nd) (d : Nat) (x : Nd) : Prop where
  l : lOf ns (2 * (d : Int)) = if x.k = 3 then x.l else 0
  r : rOf ns (2 * (d : Int)) = if x.k = 3 then x.r else 0
  is : isAndAt ns (2 * (d : Int)) = (x.k == 3)
  dep : depthOf ns (2 * (d : Int) + 1) = x.d
  err : depthErr ns (2 * (d : Int) + 1) = 0
theorem node_is {ns : List Nd} {d : Nat} {x : Nd} (hx : ns[d]? = some x) : NodeIs ns d x := by
  refine ⟨?_, ?_, ?_, ?_, ?_⟩
  · unfold lOf; rw [nodeAt_even hx]
  · unfold rOf; rw [nodeAt_even hx]
  · unfold isAndAt kindOf; rw [nodeAt_even hx]
  · unfold depthOf; rw [nodeAt_odd hx]
  · unfold depthErr; rw [nodeAt_odd hx]
theorem dep_is {ns : List Nd} {r : Nat} (hr : r < 2 * ns.length) : depthOf ns (r : Int) = dep ns r ∧ depthErr ns (r : Int) = 0 := by
  have hx : ns[r / 2]? = some ns[r / 2] := List.getElem?_eq_getElem (by omega)
  have hn : nodeAt ns (r : Int) = some ns[r / 2] := by
    unfold nodeAt
    rw [if_pos (by omega), show ((r : Int).toNat / 2) = r / 2 from by omega, hx]
  unfold depthOf depthErr dep
  rw [hn, hx]
  exact ⟨rfl, rfl⟩
theorem leaf_d {ns : List Nd} (hw : WF ns) {d : Nat} {x : Nd} (hx : ns[d]? = some x) (hk : ¬ x.k = 3) : x.d = 0 := by
  rcases Nat.eq_zero_or_pos d with h0 | h0
  · subst h0
    rw [hw.const] at hx; cases hx; rfl
  · rcases hw.other d x hx h0 with h | h
    · rw [h]
    · exact absurd h.1 hk
theorem cone_at {ns : List Nd} {l : List Nat} {j d : Nat} (h : (cone ns l)[j]? = some d) : (coneDown ns l)[(cone ns l).length - (j + 1)]? = some d := by
  have hlt := (List.getElem?_eq_some_iff.1 h).1
  unfold cone at h hlt ⊢
  rw [List.length_reverse] at hlt ⊢
  rw [List.getElem?_reverse hlt] at h
  rw [← h]; congr 1; omega
theorem cone_lt' {ns : List Nd} {l : List Nat} {j p q : Nat} (h1 : (cone ns l)[j]? = some p) (h2 : (cone ns l)[j + 1]? = some q) : p < q := by
  obtain ⟨l1, e1⟩ := List.getElem?_eq_some_iff.1 h1
  obtain ⟨l2, e2⟩ := List.getElem?_eq_some_iff.1 h2
  have := List.pairwise_iff_getElem.1 (cone_asc ns l) j (j + 1) l1 l2 (by omega)
  rw [e1, e2] at this
  exact this
theorem nodup_le : ∀ (l m : List Nat), l.Nodup → (∀ x ∈ l, x ∈ m) → l.length ≤ m.length
  | [], _, _, _ => by simp
  | a :: l, m, h, hs => by
    have ha := hs a (List.mem_cons_self ..)
    obtain ⟨h1, h2⟩ := List.nodup_cons.1 h
    have := nodup_le l (m.erase a) h2 fun x hx => (List.mem_erase_of_ne (show x ≠ a from fun e => h1 (by rw [← e]; exact hx))).2 (hs x (List.mem_cons_of_mem _ hx))
    rw [List.length_erase_of_mem ha] at this
    have := List.length_pos_of_mem ha
    simp only [List.length_cons]
    omega
theorem cone_len_of {ns : List Nd} {l L : List Nat} {k n : Nat} {met : List Bool} (h : ConeAt ns (coneDown ns l) k n met) (hk : (coneDown ns l).length ≤ k) (hL : L.Nodup) (hm : ∀ q, q ∈ L ↔ met.getD q false = true) : L.length = (cone ns l).length := by
  have h2 : (coneDown ns l).Nodup := (coneFrom_desc _ _).imp fun h => by omega
  have h3 : ∀ q, q ∈ L ↔ q ∈ coneDown ns l := fun q => (hm q).trans (h.all hk q)
  have h4 : L.length ≤ (coneDown ns l).length := nodup_le _ _ hL fun q hq => (h3 q).1 hq
  have h5 : (coneDown ns l).length ≤ L.length := nodup_le _ _ h2 fun q hq => (h3 q).2 hq
  unfold cone
  rw [List.length_reverse]
  omega
end Go.Proofs.Ytnmfdiiehkkjcaa
namespace Go.Proofs.Ytnmfdiiehkkjcaa
open Go.RowKit Go.Mem Go.Aig
set_option maxRecDepth 100000 in
theorem cmpIsNaN_is (w : World) (x : Int) : Calls Try.prog 160 #[.int .i64 x] w fun e w' => e = .returned (.bool false) ∧ w = w' := by
  go_enter Try.func160, Try.ntmps160
  go_wp2_with fail
  go_ret
  exact ⟨ret_bool (by simp), rfl⟩
set_option maxRecDepth 100000 in
theorem slIsNaN_is (w : World) (x : Int) : Calls Try.prog 156 #[.int .i64 x] w fun e w' => e = .returned (.bool false) ∧ w = w' := by
  go_enter Try.func156, Try.ntmps156
  go_wp2_with fail
  go_ret
  exact ⟨ret_bool (by simp), rfl⟩
set_option maxRecDepth 100000 in
set_option maxHeartbeats 1000000 in
theorem cmpLess_is (w : World) (x y : Int) : Calls Try.prog 100 #[.int .i64 x, .int .i64 y] w fun e w' => e = .returned (.bool (decide (x < y))) ∧ w = w' := by
  go_enter Try.func100, Try.ntmps100
  go_wp2_with fail
  refine (cmpIsNaN_is w x).mono ?_
  rintro e w' ⟨rfl, rfl⟩
  go_wp2_with fail
  go_ret
  exact ⟨rfl, rfl⟩
theorem rising_lt {l : List Nat} (h : l.Pairwise (· < ·)) {i j a b : Nat} (hi : l[i]? = some a) (hj : l[j]? = some b) (hij : i < j) : a < b := by
  obtain ⟨h1, h2⟩ := List.getElem?_eq_some_iff.1 hi
  obtain ⟨h3, h4⟩ := List.getElem?_eq_some_iff.1 hj
  rw [← h2, ← h4]
  exact List.pairwise_iff_getElem.1 h i j h1 h3 hij
set_option maxRecDepth 100000 in
set_option maxHeartbeats 4000000 in
theorem BSint_is {w : World} {a : Option Addr} {l : List Nat} (hP : l.Pairwise (· < ·)) (n c : Nat) (hn : l.length = n) (hnl : n ≤ 1000000) (hS : Sl w a (l.map fun (r : Nat) => (r : Int))) (x : Nat) :
    Calls Try.prog 93 #[.slice a n c, .int .i64 x] w fun e w' => ∃ i : Nat, e = .returned (.tuple #[.int .i64 i, .bool (decide (x ∈ l))]) ∧ w = w' := by
  have HS := Lib.hid hS; clear hS
  have HP := Lib.hid hP; clear hP
  have HN := Lib.hid hn; clear hn
  go_enter Try.func93, Try.ntmps93
  go_wp2_with fail
  go_loopw [7, 8] (fun s t wr => ∃ i j : Nat, s = .int .i64 i ∧ t = .int .i64 j ∧ i ≤ j ∧ j ≤ n ∧ wr = w ∧ (∀ k y : Nat, k < i → l[k]? = some y → y < x) ∧ (∀ k y : Nat, j ≤ k → l[k]? = some y → x ≤ y)) (fun s t _ => (intOf t).toNat - (intOf s).toNat)
  case atStart => exact ⟨0, n, rfl, rfl, by omega, by omega, rfl, fun k y hk => by omega, fun k y hk hy => by have := (List.getElem?_eq_some_iff.1 hy).1; have := HN.out; omega⟩
  case round =>
    obtain ⟨i, j, rfl, rfl, hij, hjn, rfl, h1, h2⟩ := hrel
    have H1 := Lib.hid h1; clear h1
    have H2 := Lib.hid h2; clear h2
    by_cases hlt : i < j
    · obtain ⟨m, hm⟩ : ∃ m, (i + j) / 2 = m := ⟨_, rfl⟩
      have hmi : i ≤ m ∧ m < j := by omega
      obtain ⟨y, hy⟩ : ∃ y, l[m]? = some y := ⟨_, List.getElem?_eq_getElem (by have := HN.out; omega)⟩
      obtain ⟨xb, xo, rfl, hcl⟩ := HS.out.cells m (y : Int) (by simp [hy])
      have em : ((i : Int) + (j : Int)) / 2 = m := by omega
      have HL := Lib.hid (cmpLess_is wr y x)
      have HY := Lib.hid hy; clear hy
      have HM := Lib.hid hm; clear hm
      by_cases hyx : y < x
      · have e1 : decide ((y : Int) < x) = true := decide_eq_true (by omega)
        rw [e1] at HL
        have HYX := Lib.hid hyx; clear hyx e1
        go_wp2_with fail
        refine HL.out.mono ?_
        rintro e w' ⟨rfl, rfl⟩
        go_wp2_with fail
        go_roundw
        case rel =>
          refine ⟨m + 1, j, by go_num, rfl, by omega, hjn, trivial, fun k z hk hz => ?_, H2.out⟩
          by_cases hkm : k = m
          · subst hkm
            have := HY.out.symm.trans hz
            cases this
            exact HYX.out
          · exact Nat.lt_trans (rising_lt HP.out hz HY.out (by omega)) HYX.out
        case measure => simp [intOf]; omega
      · have e1 : decide ((y : Int) < x) = false := decide_eq_false (by omega)
        rw [e1] at HL
        have HYX := Lib.hid hyx; clear hyx e1
        go_wp2_with fail
        refine HL.out.mono ?_
        rintro e w' ⟨rfl, rfl⟩
        go_wp2_with fail
        go_roundw
        case rel =>
          refine ⟨i, m, rfl, by go_num, by omega, by omega, trivial, H1.out, fun k z hk hz => ?_⟩
          have h3 := HYX.out
          by_cases hkm : k = m
          · subst hkm
            have := HY.out.symm.trans hz
            cases this
            omega
          · have := rising_lt HP.out HY.out hz (by omega)
            omega
        case measure => simp [intOf]; omega
    · have hij2 : j = i := by omega
      subst hij2
      by_cases hin : j < n
      · obtain ⟨y, hy⟩ : ∃ y, l[j]? = some y := ⟨_, List.getElem?_eq_getElem (by have := HN.out; omega)⟩
        obtain ⟨xb, xo, rfl, hcl⟩ := HS.out.cells j (y : Int) (by simp [hy])
        have HNA := Lib.hid (slIsNaN_is wr y)
        have hmem : decide (x ∈ l) = ((y : Int) == (x : Int)) := by
          have h3 := H2.out j y (Nat.le_refl _) hy
          by_cases hyx : y = x
          · subst hyx
            rw [decide_eq_true (List.mem_of_getElem? hy)]
            simp
          · have hne : x ∉ l := fun hmem => by
              obtain ⟨k, hk⟩ := List.mem_iff_getElem?.1 hmem
              by_cases hkj : k < j
              · have := H1.out k x hkj hk; omega
              · by_cases hkj2 : k = j
                · subst hkj2; rw [hy] at hk; cases hk; exact hyx rfl
                · have := rising_lt HP.out hy hk (by omega); omega
            rw [decide_eq_false hne]
            symm
            rw [beq_eq_false_iff_ne]
            omega
        have HMEM := Lib.hid hmem; clear hmem
        have HY := Lib.hid hy; clear hy
        cases hb : ((y : Int) == (x : Int))
        · go_wp2_with fail
          refine HNA.out.mono ?_
          rintro e w' ⟨rfl, rfl⟩
          go_wp2_with fail
          go_ret2
          exact ⟨j, by rw [HMEM.out, hb]; rfl, rfl⟩
        · go_wp2_with fail
          go_ret2
          exact ⟨j, by rw [HMEM.out, hb]; rfl, rfl⟩
      · have hjn2 : j = n := by omega
        have hne : decide (x ∈ l) = false := decide_eq_false fun hmem => by
          obtain ⟨k, hk⟩ := List.mem_iff_getElem?.1 hmem
          have h4 := (List.getElem?_eq_some_iff.1 hk).1
          have := H1.out k x (by have := HN.out; omega) hk
          omega
        have HNE := Lib.hid hne; clear hne
        have e1 : decide ((j : Int) < n) = false := decide_eq_false (by omega)
        clear hjn2
        go_wp2_with fail
        go_ret2
        exact ⟨j, by rw [HNE.out]; rfl, rfl⟩
/-- what Nodes returns -/
def nodesR (G : Gra) (ins : List Nat) : List Nat × Nat := if ins.length ≠ (inputs G.nodes).length then ([], 210) else ((wvF U64 ins G.nodes).1, 0)
section
variable {w : World} {g : Nat} {G : Gra} {F : List Nat}
set_option maxRecDepth 100000 in
set_option maxHeartbeats 2000000 in
theorem simNodes_is (h : GIn w g G F) {xa : Option Addr} {ins : List Nat} (m xc : Nat) (hm : ins.length = m) (hS : Sv w xa (u64s ins)) (hlt : ∀ v ∈ ins, v < 2 ^ 64) (hcap : m ≤ xc) (hxc : xc ≤ 9223372036854775807) (hml : m ≤ 1000000) :
    Calls Try.prog 27 #[.pointer (some ⟨g, 0, none⟩), .slice xa m xc] w fun e w' => ∃ v, e = .returned (.tuple #[v, .int .i64 (nodesR G ins).2]) ∧ ((nodesR G ins).2 = 0 → ∃ b, v = .slice (some ⟨b, 0, none⟩) G.nodes.length G.nodes.length ∧ w.heap.size ≤ b ∧ blk w' b (u64s (nodesR G ins).1)) ∧ ((nodesR G ins).2 ≠ 0 → v = .slice none 0 0) ∧ Ch [] w w' := by
  subst hm
  have HCK := simcheck_is h (a := none) (l := []) 0 0 rfl ⟨fun i x hx => by simp at hx, by simp⟩ (by simp)
  have hb0 : badIn G [] = false := rfl
  rw [hb0] at HCK
  have HIN := fun (W : World) (hW : Ch [] w W) => Inputs_g (h.same hW (by simp))
  have HIN := Lib.hid HIN
  have HND := fun (W : World) (hW : Ch [] w W) (hi : (inputs G.nodes).length = ins.length) => simnodes_is (h.same hW (by simp)) xc (hS.ch hW (by simp)) hi hlt hcap hxc
  have HND := Lib.hid HND
  unfold nodesR
  have hil : (inputs G.nodes).length ≤ 65536 := by
    have := inputs_le G.nodes
    have := h.ok.room
    have := h.ok.most
    omega
  by_cases hi : ins.length = (inputs G.nodes).length
  · rw [if_neg (by simp [hi])]
    have hie : ((ins.length : Int) != (inputs G.nodes).length) = false := by simp [hi]
    have hi' := Lib.hid hi.symm
    clear hi h hS hlt
    generalize (inputs G.nodes).length = ni at *
    go_enter Try.func27, Try.ntmps27
    go_wp2_with fail
    refine HCK.mono ?_
    rintro e w1 ⟨rfl, hc1⟩
    have hI := HIN.out w1 hc1
    have HI := Lib.hid hI; clear hI HIN
    have HC1 := Lib.hid hc1; clear hc1
    go_wp2_with fail
    refine HI.out.mono ?_
    rintro e w2 ⟨v, rfl, hr, _, hc2⟩
    obtain ⟨ia, ic, rfl⟩ := row.shape hr
    have hc12 := HC1.out.trans hc2 (by simp)
    have hN := HND.out w2 hc12 hi'.out
    have HN := Lib.hid hN; clear hN HND hr hc2
    have HC2 := Lib.hid hc12; clear hc12 HC1 HI
    go_wp2_with fail
    refine HN.out.mono ?_
    rintro e w3 ⟨rfl, hb, hc3⟩
    have HB := Lib.hid hb; clear hb
    have HC3 := Lib.hid hc3; clear hc3
    go_wp2_with fail
    go_ret2
    exact ⟨_, rfl, fun _ => ⟨_, rfl, HC2.out.size, HB.out⟩, fun hne => absurd rfl hne, HC2.out.trans HC3.out (by simp)⟩
  · rw [if_pos hi]
    have hie : ((ins.length : Int) != (inputs G.nodes).length) = true := by simp; omega
    clear hi h hS hlt HND
    generalize (inputs G.nodes).length = ni at *
    go_enter Try.func27, Try.ntmps27
    go_wp2_with fail
    refine HCK.mono ?_
    rintro e w1 ⟨rfl, hc1⟩
    have hI := HIN.out w1 hc1
    have HI := Lib.hid hI; clear hI HIN
    have HC1 := Lib.hid hc1; clear hc1
    go_wp2_with fail
    refine HI.out.mono ?_
    rintro e w2 ⟨v, rfl, hr, _, hc2⟩
    obtain ⟨ia, ic, rfl⟩ := row.shape hr
    have HC2 := Lib.hid (HC1.out.trans hc2 (by simp)); clear hr hc2 HC1 HI
    go_wp2_with fail
    go_ret2
    exact ⟨_, rfl, fun h => by simp at h, fun _ => rfl, HC2.out⟩
/-- the inputs in the cone -/
def suppL (ns : List Nd) (l : List Nat) (k : Nat) : List Nat := (List.range k).filter fun i => decide ((inputs ns).getD i 0 / 2 ∈ cone ns l)
def suppR (G : Gra) (l : List Int) : List Nat × Nat := if badIn G l then ([], 200) else (suppL G.nodes (nats l) (inputs G.nodes).length, 0)
theorem suppL_succ (ns : List Nd) (l : List Nat) (k : Nat) : suppL ns l (k + 1) = suppL ns l k ++ (if (inputs ns).getD k 0 / 2 ∈ cone ns l then [k] else []) := by
  unfold suppL
  rw [List.range_succ, List.filter_append]
  congr 1
  by_cases h : (inputs ns).getD k 0 / 2 ∈ cone ns l
  · rw [if_pos h, List.filter_cons, if_pos (by simpa using h)]; rfl
  · rw [if_neg h, List.filter_cons, if_neg (by simpa using h)]; rfl
theorem suppL_len (ns : List Nd) (l : List Nat) (k : Nat) : (suppL ns l k).length ≤ k := by
  unfold suppL
  exact Nat.le_trans (List.length_filter_le _ _) (by simp)
/-- a new slice of ints -/
def INew (w : World) (v : Value) (l : List Nat) (w' : World) : Prop := row w' 3 1 v l.length (refsCells l) ∧ (∀ q ∈ v.ownBlock.toList, w.heap.size ≤ q) ∧ Ch [] w w'
set_option maxRecDepth 100000 in
set_option maxHeartbeats 1000000 in
theorem simSupport_is (h : GIn w g G F) {a : Option Addr} {l : List Int} (n c : Nat) (hn : l.length = n) (hL : Sl w a l) (hlow : ∀ q, a = some q → q.block < w.heap.size) (hbd : ∀ r ∈ l, -9223372036854775808 ≤ r ∧ r ≤ 9223372036854775807) :
    Calls Try.prog 33 #[.pointer (some ⟨g, 0, none⟩), .slice a n c] w fun e w' => ∃ v, e = .returned (.tuple #[v, .int .i64 (suppR G l).2]) ∧ INew w v (suppR G l).1 w' := by
  subst hn
  have HCK := simcheck_is h l.length c rfl hL (fun r hr => (hbd r hr).2)
  unfold suppR
  cases hb : badIn G l
  · rw [hb] at HCK
    simp only [Bool.false_eq_true, if_false] at HCK ⊢
    obtain ⟨hnat, hnl⟩ := badIn_no hb
    have HCN := fun (W : World) (hW : Ch [] w W) => Cone_g (h.same hW (by simp)) (l := nats l) l.length c (by rw [← hnat]; simp [nats]) (by rw [hnat]; exact hL.ch hW (by simp)) (fun p hp => Nat.lt_of_lt_of_le (hlow p hp) hW.size) hnl
    have HCN := Lib.hid HCN
    have HIN := fun (W : World) (hW : Ch [] w W) => Inputs_g (h.same hW (by simp))
    have HIN := Lib.hid HIN
    have hca := cone_asc G.nodes (nats l)
    have hcl : (cone G.nodes (nats l)).length ≤ 65536 := by
      have h1 : (cone G.nodes (nats l)).length ≤ G.nodes.length := by
        unfold cone coneDown
        rw [List.length_reverse]
        exact coneFrom_len _ _ _
      have := h.ok.room
      have := h.ok.most
      omega
    have HSU := Lib.hid (suppL_succ G.nodes (nats l))
    have HSL := Lib.hid (suppL_len G.nodes (nats l))
    obtain ⟨IN, hIN⟩ : ∃ IN, IN = inputs G.nodes := ⟨_, rfl⟩
    rw [← hIN] at HIN HSU ⊢
    have hil : IN.length ≤ 65536 := by
      rw [hIN]
      have := inputs_le G.nodes
      have := h.ok.room
      have := h.ok.most
      omega
    have hibd : ∀ r ∈ IN, r ≤ 1000000 := fun r hr => by
      rw [hIN] at hr
      have := (inputsFrom_ge _ _ _ hr).2.2
      have := h.ok.room
      have := h.ok.most
      omega
    have HIB := Lib.hid hibd; clear hibd
    clear hIN
    generalize hCC : cone G.nodes (nats l) = CC at *
    generalize hSS : suppL G.nodes (nats l) = SS at *
    have hSS0 : SS 0 = [] := by rw [← hSS]; rfl
    have HSS0 := Lib.hid hSS0; clear hSS0
    have HCA := Lib.hid hca; clear hca
    clear h hL hlow hbd hb hnat hnl hCC hSS
    go_enter Try.func33, Try.ntmps33
    go_wp2_with fail
    refine HCK.mono ?_
    rintro e w1 ⟨rfl, hc1⟩
    have hC := HCN.out w1 hc1
    have HCo := Lib.hid hC; clear hC HCN
    have HC1 := Lib.hid hc1; clear hc1 HCK
    go_wp2_with fail
    refine HCo.out.mono ?_
    rintro e w2 ⟨v, rfl, hro, _, hc2⟩
    obtain ⟨ca, cc, rfl⟩ := row.shape hro
    have hsc := Sl.of_row' hro rfl (by omega)
    have hc12 := HC1.out.trans hc2 (by simp)
    have hI := HIN.out w2 hc12
    have HI := Lib.hid hI; clear hI HIN hro hc2 HCo
    have HC2 := Lib.hid hc12; clear hc12 HC1
    have HSC := Lib.hid hsc; clear hsc
    go_wp2_with fail
    refine HI.out.mono ?_
    rintro e w3 ⟨v, rfl, hri, _, hc3⟩
    obtain ⟨ia, ic, rfl⟩ := row.shape hri
    have hsi := Sl.of_row' hri rfl (by omega)
    have hsc := HSC.out.ch hc3 (by simp)
    have hc23 := HC2.out.trans hc3 (by simp)
    clear hri hc3 HI HSC
    have HC3 := Lib.hid hc23; clear hc23 HC2
    have HSC := Lib.hid hsc; clear hsc
    have HSI := Lib.hid hsi; clear hsi
    go_wp2_with fail
    go_loopw [9, 29] (fun o i wr => ∃ k : Nat, k ≤ IN.length ∧ i = .int .i64 k ∧ Ch [] w3 wr ∧ row wr 3 1 o (SS k).length (refsCells (SS k)) ∧ ∀ q ∈ o.ownBlock.toList, w3.heap.size ≤ q) (fun _ i _ => IN.length - (intOf i).toNat)
    case atStart => exact ⟨0, by omega, rfl, Ch.refl _ _, by rw [HSS0.out]; exact ⟨rfl, .inl ⟨rfl, rfl⟩⟩, by simp⟩
    case round =>
      obtain ⟨k, hk, rfl, hc, hrow, hlo⟩ := hrel
      obtain ⟨oa, oc, rfl⟩ := row.shape hrow
      have HROW := Lib.hid hrow; clear hrow
      by_cases hlt : k < IN.length
      · obtain ⟨x, hx⟩ : ∃ x, IN[k]? = some x := ⟨_, List.getElem?_eq_getElem hlt⟩
        have hxb := HIB.out x (List.mem_of_getElem? hx)
        have hsn := HSU.out k
        rw [show IN.getD k 0 = x by rw [List.getD_eq_getElem?_getD, hx]; rfl] at hsn
        have hsl := HSL.out k
        have hsl2 := HSL.out (k + 1)
        obtain ⟨xb, xo, rfl, hcl'⟩ := HSI.out.cells k (x : Int) (by simp [hx])
        have c0 := (hc.cell (cell_lt hcl') (by simp)).trans hcl'
        have ex : (x : Int) / 2 = ((x / 2 : Nat) : Int) := by omega
        have hBS := BSint_is HCA.out CC.length cc rfl (by omega) (HSC.out.ch hc (by simp)) (x / 2)
        rw [← ex] at hBS
        have HC := Lib.hid hc; clear hc
        have HLO := Lib.hid hlo; clear hlo
        have HBS := Lib.hid hBS; clear hBS ex hcl' hx
        by_cases hm : x / 2 ∈ CC
        · rw [if_pos hm] at hsn
          rw [decide_eq_true hm] at HBS
          have HM := Lib.hid hm; clear hm
          have hcA : Ch [] wr (wr.alloc (.cells #[.int .i64 k] 3)) := (Ch.refl _ _).alloc _
          have hrA := HROW.out.ch hcA (by simp)
          have hbA : blk (wr.alloc (.cells #[.int .i64 k] 3)) wr.heap.size [.int .i64 k] := blk.new' _ _ rfl
          have HSN := Lib.hid hsn; clear hsn
          have HRA := Lib.hid hrA; clear hrA
          have HBA := Lib.hid hbA; clear hbA
          have HCA' := Lib.hid hcA; clear hcA
          go_wp2_with fail
          refine HBS.out.mono ?_
          rintro e w' ⟨i0, rfl, rfl⟩
          go_wp2_with (at_builtin; go_loud (refine wpList_append_row slInts rfl _ _ rfl (v := .slice oa (SS k).length oc) (n := (SS k).length) (xs := refsCells (SS k)) rfl HRA.out (ad := ⟨wr.heap.size, 0, none⟩) (m := 1) (c := 1) (news := [.int .i64 k]) rfl rfl (news_blk HBA.out) (by simp [Value.oneCell']) (by omega) (by omega) ?_; intro v' w5 hown4 hC4 hf4; have HO4 := Lib.hid hown4; clear hown4; have HCC4 := Lib.hid hC4; clear hC4; have HF4 := Lib.hid hf4; clear hf4))
          go_roundw
          case rel =>
            obtain ⟨q1, q2⟩ := app_step HC.out HCA'.out HLO.out HCC4.out HF4.out
            refine ⟨k + 1, by omega, by go_num, q1, ?_, q2⟩
            rw [HSN.out, List.length_append, show refsCells (SS k ++ [k]) = refsCells (SS k) ++ [.int .i64 k] by simp [refsCells]]
            exact HO4.out
          case measure => simp [intOf]; omega
        · rw [if_neg hm] at hsn
          rw [decide_eq_false hm] at HBS
          have HM := Lib.hid hm; clear hm
          have HSN := Lib.hid hsn; clear hsn
          go_wp2_with fail
          refine HBS.out.mono ?_
          rintro e w' ⟨i0, rfl, rfl⟩
          go_wp2_with fail
          go_roundw
          case rel => exact ⟨k + 1, by omega, by go_num, HC.out, by rw [HSN.out, List.append_nil]; exact HROW.out, HLO.out⟩
          case measure => simp [intOf]; omega
      · have hkn : k = IN.length := by omega
        subst hkn
        have HLO := Lib.hid hlo; clear hlo
        have HC := Lib.hid hc; clear hc
        go_wp2_with fail
        go_ret2
        exact ⟨_, rfl, HROW.out, fun q hq => Nat.le_trans HC3.out.size (HLO.out q hq), HC3.out.trans HC.out (by simp)⟩
  · rw [hb] at HCK
    simp only [if_true] at HCK ⊢
    go_enter Try.func33, Try.ntmps33
    go_wp2_with fail
    refine HCK.mono ?_
    rintro e w1 ⟨rfl, hc1⟩
    have HC1 := Lib.hid hc1; clear hc1
    go_wp2_with fail
    go_ret2
    exact ⟨_, rfl, ⟨rfl, .inl ⟨rfl, rfl⟩⟩, by simp, HC1.out⟩
end
end Go.Proofs.Ytnmfdiiehkkjcaa
