/-
  Contracts of functions that MuxesWrong reaches, and plain facts (part A). Conditions: the hypotheses of each theorem.
-/
import Derived.Orders
import Derived.Still
import Derived.KernelRfl
import Derived.RegionTactic
import Derived.WalkKit
import Derived.WalkSpells
import Derived.WalkLawsBesides
import Derived.Carry
import Derived.Laws.StructEq
import Derived.ChangeMaps
import Derived.Test.YtndcgfnlgcincaaProg
import Derived.Lib.Hide
import Derived.Deep.Draws
import Derived.Lib.SliceRun
import Derived.OrdersIn
import Derived.ControlIn
import Derived.Scope
import Derived.WalkMore
import Derived.RangeFuncFrom
import Derived.Laws.Bits64b
import Derived.MapKept
import Derived.Lib.AppendZeros
import Derived.OwnWalkIn
namespace Go.Ord
inductive Kd where
  | fl | ho | rd | ef
  deriving DecidableEq, Repr, Inhabited

structure Laws (ops : Array Oper) (step : Nat → (Act → World → Prop) → Act → World → Prop) (yields : Nat → Value → Act → World → Prop) : Prop where
  mono : ∀ {i a w} {K K' : Act → World → Prop}, (∀ a w, K a w → K' a w) → step i K a w → step i K' a w
  out : ∀ {i o v a w} {K : Act → World → Prop}, ops[i]? = some o → yields i v a w → K (a.put o.dst v) w → step i K a w
  comm : ∀ {i j oi oj v a w} {K : Act → World → Prop}, ops[i]? = some oi → ops[j]? = some oj → oi.apart ops oj = true → step j K (a.put oi.dst v) w →
    step j (fun a' w' => (∀ u w0, yields i u a w0 → yields i u a' w0) ∧ K (a'.put oi.dst v) w') a w

def kd (ks : List Kd) (i : Nat) : Kd := ks.getD i .ef
def isAnc (A : List Nat) (j i : Nat) : Bool := (A.getD i 0).testBit j
def needsC (ks : List Kd) (A : List Nat) (n i : Nat) : Bool := (List.range n).any fun r => kd ks r == .ho && r != i && !isAnc A r i && !isAnc A i r
def post (ks : List Kd) (A : List Nat) (n : Nat) (C : World → Prop) (i : Nat) (w w' : World) : Prop := if kd ks i = .ef then (needsC ks A n i = true → C w') else w' = w
def readyIn (ops : Array Oper) (R : List Nat) (i : Nat) : Bool := ((ops[i]?).map (·.after.all fun e => !Region.binds .any e || !R.contains e.on)).getD false

def allOrd (ops : Array Oper) (step : Nat → (Act → World → Prop) → Act → World → Prop) (ks : List Kd) (A : List Nat) (C : World → Prop) (Q : Act → World → Prop) : Nat → List Nat → Act → World → Prop
  | 0, _, a, w => Q a w
  | m + 1, R, a, w => ∀ i ∈ R, readyIn ops R i = true → step i (fun a' w' => post ks A ops.size C i w w' ∧ allOrd ops step ks A C Q m (R.erase i) a' w') a w

def stat (ops : Array Oper) (ks : List Kd) (A : List Nat) : Bool :=
  (List.range ops.size).all fun i => match ops[i]? with
    | none => true
    | some oi =>
      (match oi.op with | .select .. => false | _ => true) &&
      oi.after.all (fun e => !Region.binds .any e || decide (e.on < i)) &&
      (List.range ops.size).all fun j =>
        (!isAnc A j i || oi.after.any (fun e => Region.binds .any e && (e.on == j || isAnc A j e.on))) &&
        (j == i || isAnc A j i || isAnc A i j ||
          match ops[j]? with
          | none => true
          | some oj => (kd ks i == .ef || oi.apart ops oj) && !(kd ks i == .rd && kd ks j == .ef))

section
variable {ops : Array Oper} {step : Nat → (Act → World → Prop) → Act → World → Prop} {yields : Nat → Value → Act → World → Prop} {ks : List Kd} {A : List Nat} {C : World → Prop} {Q : Act → World → Prop}

structure Stat (ops : Array Oper) (ks : List Kd) (A : List Nat) : Prop where
  sel : ∀ (i : Nat) (o : Oper) (cs : Array SelectCase) (b : Bool), ops[i]? = some o → o.op ≠ .select cs b
  lt : ∀ (i : Nat) (o : Oper) (e : Edge), ops[i]? = some o → e ∈ o.after → Region.binds .any e = true → e.on < i
  anc : ∀ (i : Nat) (o : Oper) (j : Nat), ops[i]? = some o → j < ops.size → isAnc A j i = true → ∃ e ∈ o.after, Region.binds .any e = true ∧ (e.on = j ∨ isAnc A j e.on = true)
  apart : ∀ (i : Nat) (oi : Oper) (j : Nat) (oj : Oper), ops[i]? = some oi → ops[j]? = some oj → j ≠ i → isAnc A j i = false → isAnc A i j = false → (kd ks i ≠ .ef → oi.apart ops oj = true) ∧ ¬ (kd ks i = .rd ∧ kd ks j = .ef)

theorem lt_size {i : Nat} {o : Oper} (h : ops[i]? = some o) : i < ops.size := (Array.getElem?_eq_some_iff.1 h).1

theorem stat_spec (h : stat ops ks A = true) : Stat ops ks A := by
  have H : ∀ i oi, ops[i]? = some oi → _ := fun i oi hi => by
    have h1 := (List.all_eq_true.1 h) i (List.mem_range.2 (lt_size hi))
    rw [hi] at h1
    exact h1
  simp only [Bool.and_eq_true, List.all_eq_true, List.mem_range, Array.all_eq_true_iff_forall_mem, Bool.or_eq_true] at H
  refine ⟨fun i o cs b hi he => ?_, fun i o e hi he hb => ?_, fun i o j hi hj ha => ?_, fun i oi j oj hi hj hne h1 h2 => ?_⟩
  · have := (H i o hi).1.1
    simp [he] at this
  · have := (H i o hi).1.2 e he
    simpa [hb] using this
  · have := ((H i o hi).2 j hj).1
    rw [ha] at this
    simp only [Bool.not_true, Bool.false_eq_true, false_or] at this
    obtain ⟨k, hk, hh⟩ := Array.any_eq_true.1 this
    simp only [Bool.and_eq_true, Bool.or_eq_true, beq_iff_eq] at hh
    exact ⟨_, Array.getElem_mem hk, hh.1, hh.2⟩
  · have := ((H i oi hi).2 j (lt_size hj)).2
    rw [h1, h2, hj] at this
    simp only [beq_iff_eq, hne, Bool.false_eq_true, or_self, false_or, Bool.and_eq_true, Bool.or_eq_true, Bool.not_eq_true', Bool.and_eq_false_iff, beq_eq_false_iff_ne] at this
    refine ⟨fun hk => this.1.resolve_left hk, fun ⟨ha, hb⟩ => ?_⟩
    rcases this.2 with h | h
    · exact h ha
    · exact h hb

def Up (ops : Array Oper) (R : List Nat) : Prop := ∀ (k : Nat) (o : Oper) (e : Edge), ops[k]? = some o → e ∈ o.after → Region.binds .any e = true → e.on ∈ R → k ∈ R

theorem readyIn_spec {R : List Nat} {i : Nat} : readyIn ops R i = true ↔ ∃ o, ops[i]? = some o ∧ ∀ e ∈ o.after, Region.binds .any e = true → e.on ∉ R := by
  unfold readyIn
  cases h : ops[i]? with
  | none => simp
  | some o =>
    simp only [Option.map_some, Option.getD_some, Array.all_eq_true_iff_forall_mem, Bool.or_eq_true, Bool.not_eq_true', Option.some.injEq, exists_eq_left', List.contains_eq_mem, decide_eq_false_iff_not]
    exact ⟨fun hh e he hb => (hh e he).resolve_left (by simp [hb]), fun hh e he => by cases hb : Region.binds .any e; exact .inl rfl; exact .inr (hh e he hb)⟩

theorem Up.erase {R : List Nat} {i : Nat} (hn : R.Nodup) (hu : Up ops R) (hr : readyIn ops R i = true) : Up ops (R.erase i) := fun k o e hk he hb hin => by
  have h1 : e.on ∈ R := List.mem_of_mem_erase hin
  have h2 := hu k o e hk he hb h1
  refine (List.Nodup.mem_erase_iff hn).2 ⟨fun h => ?_, h2⟩
  subst h
  obtain ⟨o', ho', hall⟩ := readyIn_spec.1 hr
  rw [hk] at ho'
  cases ho'
  exact hall e he hb h1

theorem not_anc (hs : Stat ops ks A) {R : List Nat} (hu : Up ops R) : ∀ (i j : Nat), readyIn ops R i = true → j ∈ R → j < ops.size → isAnc A j i = true → False := by
  have key : ∀ (i : Nat) (j : Nat), i < ops.size → j ∈ R → j < ops.size → isAnc A j i = true → i ∈ R := by
    intro i
    induction i using Nat.strongRecOn with
    | _ i ih =>
      intro j hi hj hjs ha
      have ho : ops[i]? = some ops[i] := Array.getElem?_eq_getElem hi
      obtain ⟨e, he, hb, h⟩ := hs.anc i _ j ho hjs ha
      rcases h with h | h
      · exact hu i _ e ho he hb (h ▸ hj)
      · have hlt := hs.lt i _ e ho he hb
        exact hu i _ e ho he hb (ih e.on hlt j (by omega) hj hjs h)
  intro i j hr hj hjs ha
  obtain ⟨o, ho, hall⟩ := readyIn_spec.1 hr
  obtain ⟨e, he, hb, h⟩ := hs.anc i o j ho hjs ha
  rcases h with h | h
  · exact hall e he hb (h ▸ hj)
  · have hlt := hs.lt i o e ho he hb
    exact hall e he hb (key e.on j (by have := lt_size ho; omega) hj hjs h)

theorem ready_erase {R : List Nat} {i j : Nat} (h : readyIn ops R i = true) : readyIn ops (R.erase j) i = true := by
  obtain ⟨o, ho, hall⟩ := readyIn_spec.1 h
  exact readyIn_spec.2 ⟨o, ho, fun e he hb hin => hall e he hb (List.mem_of_mem_erase hin)⟩

def Takes (yields : Nat → Value → Act → World → Prop) (C : World → Prop) (k : Kd) (i : Nat) (v : Value) (a : Act) (w : World) : Prop :=
  match k with
  | .fl => ∀ w', yields i v a w'
  | .ho => C w ∧ ∀ w', C w' → yields i v a w'
  | .rd => yields i v a w
  | .ef => False

theorem take (hL : Laws ops step yields) (hs : Stat ops ks A) {i : Nat} {oi : Oper} {v : Value} (hi : ops[i]? = some oi) :
    ∀ (m : Nat) (R : List Nat) (a : Act) (w : World), R.Nodup → Up ops R → (∀ k ∈ R, k < ops.size) → R.length = m + 1 → i ∈ R → readyIn ops R i = true →
      Takes yields C (kd ks i) i v a w → allOrd ops step ks A C Q m (R.erase i) (a.put oi.dst v) w → allOrd ops step ks A C Q (m + 1) R a w := by
  intro m
  induction m with
  | zero =>
    intro R a w hn hu hlt hlen hiR hr ht H j hj hjr
    match R, hlen with
    | [x], _ =>
      simp only [List.mem_singleton] at hiR hj
      subst hiR; subst hj
      refine hL.out hi (v := v) ?_ ⟨?_, H⟩
      · unfold Takes at ht; split at ht
        · exact ht w
        · exact ht.2 w ht.1
        · exact ht
        · exact ht.elim
      · unfold post; rw [if_neg (by intro h; rw [h] at ht; exact ht)]
  | succ m ih =>
    intro R a w hn hu hlt hlen hiR hr ht H j hj hjr
    have hyw : yields i v a w := by
      unfold Takes at ht; split at ht
      · exact ht w
      · exact ht.2 w ht.1
      · exact ht
      · exact ht.elim
    have hne : kd ks i ≠ .ef := by intro h; rw [h] at ht; exact ht
    by_cases hji : j = i
    · subst hji
      refine hL.out hi (v := v) hyw ⟨?_, H⟩
      unfold post; rw [if_neg hne]
    · obtain ⟨oj, hoj, _⟩ := readyIn_spec.1 hjr
      have hij : isAnc A i j = false := by
        cases h : isAnc A i j
        · rfl
        · exact (not_anc hs hu j i hjr hiR (lt_size hi) h).elim
      have hji' : isAnc A j i = false := by
        cases h : isAnc A j i
        · rfl
        · exact (not_anc hs hu i j hr hj (lt_size hoj) h).elim
      obtain ⟨hap, hrd⟩ := hs.apart i oi j oj hi hoj hji hji' hij
      have hjE : j ∈ R.erase i := (List.Nodup.mem_erase_iff hn).2 ⟨hji, hj⟩
      have h1 := H j hjE (ready_erase hjr)
      refine hL.mono ?_ (hL.comm hi hoj (hap hne) h1)
      rintro a' w' ⟨hk, hp, hrest⟩
      refine ⟨hp, ih (R.erase j) a' w' (hn.erase _) (Up.erase hn hu hjr) (fun k hk => hlt k (List.mem_of_mem_erase hk)) (by rw [List.length_erase_of_mem hj]; omega)
        ((List.Nodup.mem_erase_iff hn).2 ⟨Ne.symm hji, hiR⟩) (ready_erase hr) ?_ (by rw [List.erase_comm]; exact hrest)⟩
      unfold Takes at ht ⊢
      unfold post at hp
      cases hki : kd ks i with
      | fl => rw [hki] at ht; exact fun w0 => hk v w0 (ht w0)
      | ho =>
        rw [hki] at ht
        refine ⟨?_, fun w0 hw0 => hk v w0 (ht.2 w0 hw0)⟩
        split at hp
        · refine hp ?_
          unfold needsC
          rw [List.any_eq_true]
          exact ⟨i, List.mem_range.2 (lt_size hi), by simp [hki, Ne.symm hji, hij, hji']⟩
        · rw [hp]; exact ht.1
      | rd =>
        rw [hki] at ht
        have : kd ks j ≠ .ef := fun h => hrd ⟨hki, h⟩
        rw [if_neg this] at hp
        rw [hp]
        exact hk v w ht
      | ef => exact (hne hki).elim

theorem branch {m : Nat} {R rs : List Nat} {a : Act} {w : World} (hr : R.filter (readyIn ops R) = rs)
    (h : ∀ i ∈ rs, step i (fun a' w' => post ks A ops.size C i w w' ∧ allOrd ops step ks A C Q m (R.erase i) a' w') a w) : allOrd ops step ks A C Q (m + 1) R a w :=
  fun i hi hri => h i (hr ▸ List.mem_filter.2 ⟨hi, hri⟩)

theorem min_mem {R : List Nat} (h : R ≠ []) : ∃ k ∈ R, ∀ j ∈ R, k ≤ j := by
  induction R with
  | nil => exact (h rfl).elim
  | cons x R ih =>
    by_cases hR : R = []
    · subst hR; exact ⟨x, by simp, by simp⟩
    · obtain ⟨k, hk, hall⟩ := ih hR
      by_cases hx : x ≤ k
      · exact ⟨x, by simp, fun j hj => by rcases List.mem_cons.1 hj with rfl | hj; exact Nat.le_refl _; exact Nat.le_trans hx (hall j hj)⟩
      · exact ⟨k, by simp [hk], fun j hj => by rcases List.mem_cons.1 hj with rfl | hj; omega; exact hall j hj⟩

def Fits (ops : Array Oper) (listed : Array Bool) (R : List Nat) : Prop := ∀ k, k < ops.size → (listed.getD k true = false ↔ k ∈ R) ∧ (listed.getD k false = true ↔ k ∉ R)

theorem Fits.mem {listed : Array Bool} {R : List Nat} (hf : Fits ops listed R) (hs : Stat ops ks A) {i : Nat} (h : i ∈ Region.ready .any ops listed) : i ∈ R ∧ readyIn ops R i = true := by
  obtain ⟨h0, o, ho, hall⟩ := mem_ready.1 h
  refine ⟨((hf i (lt_size ho)).1).1 h0, readyIn_spec.2 ⟨o, ho, fun e he hb => ?_⟩⟩
  have hlt := hs.lt i o e ho he hb
  exact ((hf e.on (by have := lt_size ho; omega)).2).1 (hall e he hb)

theorem Fits.nonempty {listed : Array Bool} {R : List Nat} (hf : Fits ops listed R) (hs : Stat ops ks A) (hlt : ∀ k ∈ R, k < ops.size) (hR : R ≠ []) : Region.ready .any ops listed ≠ [] := by
  obtain ⟨k, hk, hmin⟩ := min_mem hR
  have ho : ops[k]? = some (ops[k]'(hlt k hk)) := Array.getElem?_eq_getElem (hlt k hk)
  have : k ∈ Region.ready .any ops listed := mem_ready.2 ⟨((hf k (hlt k hk)).1).2 hk, _, ho, fun e he hb => by
    have h1 := hs.lt k _ e ho he hb
    refine ((hf e.on (by have := hlt k hk; omega)).2).2 fun hin => ?_
    have := hmin _ hin
    omega⟩
  intro h; rw [h] at this; cases this

theorem Fits.set {listed : Array Bool} {R : List Nat} (hf : Fits ops listed R) (hn : R.Nodup) {i : Nat} (hsz : listed.size = ops.size) : Fits ops (listed.setIfInBounds i true) (R.erase i) := by
  intro k hk
  by_cases h : i = k
  · subst h
    have hnot : i ∉ R.erase i := fun hh => ((List.Nodup.mem_erase_iff hn).1 hh).1 rfl
    have hsz' : i < listed.size := by omega
    simp [hnot, hsz']
  · have hE : k ∈ R.erase i ↔ k ∈ R := by rw [List.Nodup.mem_erase_iff hn]; exact ⟨fun hh => hh.2, fun hh => ⟨fun e => h e.symm, hh⟩⟩
    rw [getD_set_ne true h, getD_set_ne false h, hE]
    exact hf k hk

/-! ### The plain walk -/
section plain
variable {P : Program} {Q' : Exit → Act → World → Prop}

def RunsTo (P : Program) (o : Oper) (a : Act) (w : World) (v : Value) : Prop :=
  match (execOp a.eval o).run P w with
  | .ok (.value u) w' => w' = w ∧ u = v
  | .ok .skip w' => w' = w ∧ v = undef
  | .ok (.enter f args) w' => Calls P f args w' (fun e w'' => e = .returned v ∧ w'' = w)
  | .ok (.row r args) w' => Rows P r args w' (fun u w'' => u = v ∧ w'' = w)
  | _ => False
def yieldsP (P : Program) (ops : Array Oper) (i : Nat) (v : Value) (a : Act) (w : World) : Prop :=
  ∃ o, ops[i]? = some o ∧ ((Region.wanted o (yielded ops a.tmps) = true ∧ RunsTo P o a w v) ∨ (Region.wanted o (yielded ops a.tmps) = false ∧ v = undef))
theorem RunsTo.wp {P : Program} {o : Oper} {a : Act} {w : World} {v : Value} (h : RunsTo P o a w v) {K : Act → World → Prop} {Q : Exit → Act → World → Prop} (hk : K (a.put o.dst v) w) : o.wp P a w K Q := by
  unfold RunsTo at h
  unfold Oper.wp
  generalize (execOp a.eval o).run P w = r at *
  cases r with
  | ok n w' =>
    cases n <;> simp only at h <;> simp only [Oper.upon]
    case value u => obtain ⟨rfl, rfl⟩ := h; exact hk
    case skip => obtain ⟨rfl, rfl⟩ := h; exact hk
    case enter f args => exact h.mono fun e w'' ⟨he, hw⟩ => by subst he; subst hw; exact hk
    case row r args => exact h.mono fun u w'' ⟨hu, hw⟩ => by subst hu; subst hw; exact hk
  | halt x w' => simp only at h
def only (Q : Act → World → Prop) : Exit → Act → World → Prop := fun e a w => e = .normal ∧ Q a w

theorem only_lets (Q : Act → World → Prop) : ¬ LetsOut (only Q) := fun ⟨_, _, h, _⟩ => by cases h

theorem lawsP (hs : Stat ops ks A) (Q : Act → World → Prop) : Laws ops (wpOp P ops (only Q)) (yieldsP P ops) where
  mono h hh := wpOp_mono h hh
  out := by
    rintro i o v a w K ho ⟨o', ho', hy⟩ h
    rw [ho] at ho'; cases ho'
    unfold wpOp
    simp only [ho]
    rcases hy with ⟨hw, hv⟩ | ⟨hw, rfl⟩
    · rw [if_pos hw]; left; exact hv.wp h
    · rw [if_neg (by simp [hw])]; exact h
  comm := by
    intro i j oi oj v a w K hi hj hap h
    obtain ⟨h1, h2, h3⟩ := Oper.apart_spec hap
    have hsi := fun cs b => hs.sel i oi cs b hi
    have hsj := fun cs b => hs.sel j oj cs b hj
    have keep : ∀ (a' : Act) (u : Value), execOp a'.eval oi = execOp a.eval oi → Region.wanted oi (yielded ops a'.tmps) = Region.wanted oi (yielded ops a.tmps) →
        ∀ x w0, yieldsP P ops i x a w0 → yieldsP P ops i x (a'.put oj.dst u) w0 := by
      rintro a' u e1 e2 x w0 ⟨o, ho, hy⟩
      rw [hi] at ho; cases ho
      refine ⟨oi, hi, ?_⟩
      rw [wanted_put oi a' oj.dst u h3, e2]
      unfold RunsTo at *
      rw [execOp_put oi hsi a' oj.dst u h3, e1]
      exact hy
    unfold wpOp at *
    simp only [hj] at *
    rw [wanted_put oj a oi.dst v h1] at h
    split
    · rename_i hw
      rw [if_pos hw] at h
      left
      have h := h.resolve_right fun hh => only_lets Q hh.2
      unfold Oper.wp at *
      rw [execOp_put oj hsj a oi.dst v h1] at h
      generalize (execOp a.eval oj).run P w = r at *
      cases r with
      | ok n w' =>
        cases n <;> simp only [Oper.upon] at h ⊢
        case value u => exact ⟨keep a u rfl rfl, by rw [← Act.put_comm a v u h2]; exact h⟩
        case skip => exact ⟨keep a _ rfl rfl, by rw [← Act.put_comm a v undef h2]; exact h⟩
        case defer d =>
          refine ⟨keep { a with defers := d :: a.defers } _ rfl rfl, ?_⟩
          rw [← Act.put_comm _ v undef h2, ← Act.put_defers]
          exact h
        case enter f args =>
          refine Calls.mono h fun e w'' he => ?_
          cases e with
          | returned u => exact ⟨keep a u rfl rfl, by rw [← Act.put_comm a v u h2]; exact he⟩
          | panicked c => cases he.1
          | outgrown => exact (only_lets Q he).elim
        case row row args => exact Rows.mono h fun u w'' he => ⟨keep a u rfl rfl, by rw [← Act.put_comm a v u h2]; exact he⟩
      | halt x w' =>
        cases x <;> simp only [Oper.upon] at h ⊢
        case panic u => cases h.1
    · rename_i hw
      rw [if_neg hw] at h
      exact ⟨keep a _ rfl rfl, by rw [← Act.put_comm a v undef h2]; exact h⟩

theorem wpAny_of_all (hs : Stat ops ks A) (Q : Act → World → Prop) : ∀ (m : Nat) (R : List Nat) (listed : Array Bool) (a : Act) (w : World), R.Nodup → (∀ k ∈ R, k < ops.size) → R.length = m → listed.size = ops.size → Fits ops listed R →
    allOrd ops (wpOp P ops (only Q)) ks A C Q m R a w → wpAny P .any ops (only Q) m listed a w := by
  intro m
  induction m with
  | zero =>
    intro R listed a w hn hlt hlen hsz hf h
    have hR : R = [] := List.eq_nil_of_length_eq_zero hlen
    refine ⟨?_, rfl, h⟩
    cases hr : Region.ready .any ops listed with
    | nil => rfl
    | cons x xs =>
      have := (hf.mem hs (i := x) (by rw [hr]; simp)).1
      rw [hR] at this; cases this
  | succ m ih =>
    intro R listed a w hn hlt hlen hsz hf h
    refine ⟨fun h0 => (hf.nonempty hs hlt (by intro e; rw [e] at hlen; cases hlen) h0).elim, fun i hi => ?_⟩
    obtain ⟨hiR, hri⟩ := hf.mem hs hi
    refine wpOp_mono (fun a' w' h3 => ?_) (h i hiR hri)
    exact ih (R.erase i) _ a' w' (hn.erase _) (fun k hk => hlt k (List.mem_of_mem_erase hk)) (by rw [List.length_erase_of_mem hiR]; omega) (by simpa using hsz) (hf.set hn hsz) h3.2

theorem region {id : Nat} {a : Act} {w : World} {l : List Oper} (C : World → Prop) (ks : List Kd) (A : List Nat) (hm : P.follows .mixedOrders = true) (hs : stat l.toArray ks A = true)
    (h : allOrd l.toArray (wpOp P l.toArray (only (Q' .normal))) ks A C (Q' .normal) l.length (List.range l.length) a w.drew) : (Code.region id l.toArray true).wp P Q' a w := by
  refine wp_mono (Q := only (Q' .normal)) ?_ (fun e a w ⟨he, hq⟩ => he ▸ hq)
  refine wp_region_any hm ?_
  have := wpAny_of_all (P := P) (C := C) (stat_spec hs) (Q' .normal) l.length (List.range l.length) (Array.replicate l.length false) a w.drew List.nodup_range (by simp) (by simp) (by simp)
    (fun k hk => by simp at hk; simp [hk]) h
  simpa using this

/-! ### The steps -/
section steps
variable {l : List Oper}
def St (P : Program) (l : List Oper) (ks : List Kd) (A : List Nat) (C : World → Prop) (Q : Act → World → Prop) (R : List Nat) (a : Act) (w : World) : Prop :=
  R.Nodup → Up l.toArray R → (∀ k ∈ R, k < l.toArray.size) → Stat l.toArray ks A → allOrd l.toArray (wpOp P l.toArray (only Q)) ks A C Q R.length R a w

theorem St.door {id : Nat} {a : Act} {w : World} (C : World → Prop) (ks : List Kd) (A : List Nat) (R : List Nat) (hm : P.follows .mixedOrders = true) (hs : stat l.toArray ks A = true) (hR : List.range l.length = R)
    (h : St P l ks A C (Q' .normal) R a w.drew) : (Code.region id l.toArray true).wp P Q' a w := by
  refine region C ks A hm hs ?_
  subst hR
  have := h List.nodup_range (fun k o e hk _ _ _ => List.mem_range.2 (by have := lt_size hk; simpa using this)) (by simp) (stat_spec hs)
  simpa using this

def chk (ops : Array Oper) (ks : List Kd) (R R' : List Nat) (i : Nat) (k : Kd) : Bool := R.contains i && readyIn ops R i && decide (R.erase i = R') && decide (kd ks i = k)
theorem chk_spec {ops : Array Oper} {R R' : List Nat} {i : Nat} {k : Kd} (h : chk ops ks R R' i k = true) : R.contains i = true ∧ readyIn ops R i = true ∧ R.erase i = R' ∧ kd ks i = k := by
  simp only [chk, Bool.and_eq_true, decide_eq_true_eq] at h
  exact ⟨h.1.1.1, h.1.1.2, h.1.2, h.2⟩
def chkE (ops : Array Oper) (ks : List Kd) (A : List Nat) (R R' : List Nat) (i : Nat) : Bool := decide (R.filter (readyIn ops R) = [i]) && decide (R.erase i = R') && decide (kd ks i = .ef) && !needsC ks A ops.size i
theorem chkE_spec {ops : Array Oper} {R R' : List Nat} {i : Nat} (h : chkE ops ks A R R' i = true) : R.filter (readyIn ops R) = [i] ∧ R.erase i = R' ∧ kd ks i = .ef ∧ needsC ks A ops.size i = false := by
  simp only [chkE, Bool.and_eq_true, decide_eq_true_eq, Bool.not_eq_true'] at h
  exact ⟨h.1.1.1, h.1.1.2, h.1.2, h.2⟩

theorem St.nil {a : Act} {w : World} (h : Q a w) : St P l ks A C Q [] a w := fun _ _ _ _ => h

theorem St.take {R R' : List Nat} {a : Act} {w : World} {v : Value} (i : Nat) (o : Oper) (hi : l.toArray[i]? = some o) (hiR : R.contains i = true) (hr : readyIn l.toArray R i = true) (hR : R.erase i = R')
    (ht : Takes (yieldsP P l.toArray) C (kd ks i) i v a w) (h : St P l ks A C Q R' (a.put o.dst v) w) : St P l ks A C Q R a w := by
  intro hn hu hlt hs
  have hm : i ∈ R := by simpa using hiR
  have hlen : R.length = R.length - 1 + 1 := by have := List.length_pos_of_mem hm; omega
  rw [hlen]
  refine Go.Ord.take (lawsP hs Q) hs hi (R.length - 1) R a w hn hu hlt hlen hm hr ht ?_
  subst hR
  have := h (hn.erase _) (hu.erase hn hr) (fun k hk => hlt k (List.mem_of_mem_erase hk)) hs
  rwa [List.length_erase_of_mem hm] at this

theorem St.skip {R : List Nat} {a : Act} {w : World} (i : Nat) (R' : List Nat) (o : Oper) (hil : l[i]? = some o) (hchk : chk l.toArray ks R R' i .fl = true)
    (hg : Region.wanted o (yielded l.toArray a.tmps) = false) (h : ∀ K : Act → Prop, (∀ a, St P l ks A C Q R' a w → K a) → K (a.put o.dst undef)) : St P l ks A C Q R a w :=
  have hi : l.toArray[i]? = some o := by simpa using hil
  have ⟨hiR, hr, hR, hk⟩ := chk_spec hchk
  .take i o hi hiR hr hR (by rw [hk]; exact fun _ => ⟨o, hi, .inr ⟨hg, rfl⟩⟩) (h _ fun _ h => h)

theorem St.ho {R : List Nat} {a : Act} {w : World} {v : Value} (i : Nat) (R' : List Nat) (o : Oper) (hil : l[i]? = some o) (hchk : chk l.toArray ks R R' i .ho = true)
    (hg : Region.wanted o (yielded l.toArray a.tmps) = true) (hC : C w) (hv : ∀ w', C w' → (execOp a.eval o).run P w' = .ok (.value v) w') (h : ∀ K : Act → Prop, (∀ a, St P l ks A C Q R' a w → K a) → K (a.put o.dst v)) : St P l ks A C Q R a w :=
  have hi : l.toArray[i]? = some o := by simpa using hil
  have ⟨hiR, hr, hR, hk⟩ := chk_spec hchk
  .take i o hi hiR hr hR (by rw [hk]; exact ⟨hC, fun w' hw' => ⟨o, hi, .inl ⟨hg, by unfold RunsTo; rw [hv w' hw']; exact ⟨rfl, rfl⟩⟩⟩⟩) (h _ fun _ h => h)

theorem St.rd {R : List Nat} {a : Act} {w : World} (i : Nat) (R' : List Nat) (o : Oper) (hil : l[i]? = some o) (hchk : chk l.toArray ks R R' i .rd = true)
    (hg : Region.wanted o (yielded l.toArray a.tmps) = true) (h : ∀ K : Act → Prop, (∀ a, St P l ks A C Q R' a w → K a) → o.still P a w K) : St P l ks A C Q R a w := by
  have hi : l.toArray[i]? = some o := by simpa using hil
  have ⟨hiR, hr, hR, hk⟩ := chk_spec hchk
  have h1 := h _ (fun _ hh => hh)
  have key : ∃ v, RunsTo P o a w v ∧ St P l ks A C Q R' (a.put o.dst v) w := by
    unfold Oper.still at h1
    unfold RunsTo
    generalize (execOp a.eval o).run P w = r at *
    cases r with
    | ok n w' =>
      cases n <;> simp only [Oper.stillUpon] at h1
      case value u => exact ⟨u, ⟨h1.1, rfl⟩, h1.2⟩
      case skip => exact ⟨undef, ⟨h1.1, rfl⟩, h1.2⟩
      case enter f args => obtain ⟨e, v, hc, h2⟩ := h1; exact ⟨v, by rw [e]; exact hc, h2⟩
    | halt x w' => simp only [Oper.stillUpon] at h1
  obtain ⟨v, hy, hK⟩ := key
  exact .take i o hi hiR hr hR (v := v) (by rw [hk]; exact ⟨o, hi, .inl ⟨hg, hy⟩⟩) hK

theorem St.ef {R : List Nat} {a : Act} {w : World} (i : Nat) (R' : List Nat) (o : Oper) (hil : l[i]? = some o) (hchk : chkE l.toArray ks A R R' i = true)
    (h : ∀ K : Act → World → Prop, (∀ a w, St P l ks A C Q R' a w → K a w) → wpList P l.toArray (only K) [o] a w) : St P l ks A C Q R a w := by
  have hi : l.toArray[i]? = some o := by simpa using hil
  have ⟨hr, hR, hk, hc⟩ := chkE_spec hchk
  intro hn hu hlt hs
  have hm : i ∈ R := (List.mem_filter.1 (hr ▸ List.mem_singleton.2 rfl : i ∈ R.filter (readyIn l.toArray R))).1
  have hri : readyIn l.toArray R i = true := (List.mem_filter.1 (hr ▸ List.mem_singleton.2 rfl : i ∈ R.filter (readyIn l.toArray R))).2
  have hlen : R.length = R.length - 1 + 1 := by have := List.length_pos_of_mem hm; omega
  rw [hlen]
  refine branch hr fun j hj => ?_
  have hji : j = i := List.mem_singleton.1 hj
  subst hji
  have h1 := h _ (fun _ _ hh => hh)
  unfold wpOp
  simp only [hi]
  unfold wpList at h1
  have key : ∀ a' w', (wpList P l.toArray (only (fun a w => St P l ks A C Q R' a w)) [] a' w') → post ks A l.toArray.size C j w w' ∧ allOrd l.toArray (wpOp P l.toArray (only Q)) ks A C Q (R.length - 1) (R.erase j) a' w' := by
    intro a' w' hh
    refine ⟨?_, ?_⟩
    · unfold post; rw [if_pos hk]; intro hh2; rw [hc] at hh2; exact absurd hh2 (by simp)
    subst hR
    have := hh.2 (hn.erase _) (hu.erase hn hri) (fun k hk => hlt k (List.mem_of_mem_erase hk)) hs
    rwa [List.length_erase_of_mem hm] at this
  split
  · rename_i hw
    rw [if_pos hw] at h1
    have h1 := h1.resolve_right fun hh => only_lets _ hh.2
    left
    have h2 := Oper.wp_mono (K' := fun a' w' => post ks A l.toArray.size C j w w' ∧ allOrd l.toArray (wpOp P l.toArray (only Q)) ks A C Q (R.length - 1) (R.erase j) a' w') key h1
    unfold Oper.wp at h2 ⊢
    generalize (execOp a.eval o).run P w = r at h2 ⊢
    cases r with
    | ok n w' =>
      cases n <;> simp only [Oper.upon] at h2 ⊢
      case value u => exact h2
      case skip => exact h2
      case defer d => exact h2
      case enter f args =>
        refine Calls.mono h2 fun e w'' he => ?_
        cases e with
        | returned u => exact he
        | panicked c => cases he.1
        | outgrown => exact (only_lets _ he).elim
      case row row args => exact h2
    | halt x w' =>
      cases x <;> simp only [Oper.upon] at h2 ⊢
      case panic u => cases h2.1
  · rename_i hw
    rw [if_neg hw] at h1
    exact key _ _ h1
def chkEC (ops : Array Oper) (ks : List Kd) (R R' : List Nat) (i : Nat) : Bool := decide (R.filter (readyIn ops R) = [i]) && decide (R.erase i = R') && decide (kd ks i = .ef)
theorem chkEC_spec {ops : Array Oper} {R R' : List Nat} {i : Nat} (h : chkEC ops ks R R' i = true) : R.filter (readyIn ops R) = [i] ∧ R.erase i = R' ∧ kd ks i = .ef := by
  simp only [chkEC, Bool.and_eq_true, decide_eq_true_eq] at h
  exact ⟨h.1.1, h.1.2, h.2⟩

theorem St.efC {R : List Nat} {a : Act} {w : World} (i : Nat) (R' : List Nat) (o : Oper) (hil : l[i]? = some o) (hchk : chkEC l.toArray ks R R' i = true)
    (h : ∀ K : Act → World → Prop, (∀ a w, C w → St P l ks A C Q R' a w → K a w) → wpList P l.toArray (only K) [o] a w) : St P l ks A C Q R a w := by
  have hi : l.toArray[i]? = some o := by simpa using hil
  have ⟨hr, hR, hk⟩ := chkEC_spec hchk
  intro hn hu hlt hs
  have hm : i ∈ R := (List.mem_filter.1 (hr ▸ List.mem_singleton.2 rfl : i ∈ R.filter (readyIn l.toArray R))).1
  have hri : readyIn l.toArray R i = true := (List.mem_filter.1 (hr ▸ List.mem_singleton.2 rfl : i ∈ R.filter (readyIn l.toArray R))).2
  have hlen : R.length = R.length - 1 + 1 := by have := List.length_pos_of_mem hm; omega
  rw [hlen]
  refine branch hr fun j hj => ?_
  have hji : j = i := List.mem_singleton.1 hj
  subst hji
  have h1 := h (fun a w => C w ∧ St P l ks A C Q R' a w) (fun _ _ hc hh => ⟨hc, hh⟩)
  unfold wpOp
  simp only [hi]
  unfold wpList at h1
  have key : ∀ a' w', (wpList P l.toArray (only (fun a w => C w ∧ St P l ks A C Q R' a w)) [] a' w') → post ks A l.toArray.size C j w w' ∧ allOrd l.toArray (wpOp P l.toArray (only Q)) ks A C Q (R.length - 1) (R.erase j) a' w' := by
    intro a' w' hh
    refine ⟨?_, ?_⟩
    · unfold post; rw [if_pos hk]; intro _; exact hh.2.1
    subst hR
    have := hh.2.2 (hn.erase _) (hu.erase hn hri) (fun k hk => hlt k (List.mem_of_mem_erase hk)) hs
    rwa [List.length_erase_of_mem hm] at this
  split
  · rename_i hw
    rw [if_pos hw] at h1
    have h1 := h1.resolve_right fun hh => only_lets _ hh.2
    left
    have h2 := Oper.wp_mono (K' := fun a' w' => post ks A l.toArray.size C j w w' ∧ allOrd l.toArray (wpOp P l.toArray (only Q)) ks A C Q (R.length - 1) (R.erase j) a' w') key h1
    unfold Oper.wp at h2 ⊢
    generalize (execOp a.eval o).run P w = r at h2 ⊢
    cases r with
    | ok n w' =>
      cases n <;> simp only [Oper.upon] at h2 ⊢
      case value u => exact h2
      case skip => exact h2
      case defer d => exact h2
      case enter f args =>
        refine Calls.mono h2 fun e w'' he => ?_
        cases e with
        | returned u => exact he
        | panicked c => cases he.1
        | outgrown => exact (only_lets _ he).elim
      case row row args => exact h2
    | halt x w' =>
      cases x <;> simp only [Oper.upon] at h2 ⊢
      case panic u => cases h2.1
  · rename_i hw
    rw [if_neg hw] at h1
    exact key _ _ h1
/-! ### The same steps, asked of the walk's own 'Oper.wp': the step itself finds the new frame -/
def noExit : Exit → Act → World → Prop := fun _ _ _ => False
theorem noExit_lets : ¬ LetsOut noExit := fun ⟨_, _, h⟩ => h

theorem runsTo_of_wp {P : Program} {o : Oper} {a a' : Act} {w : World} {d : Nat} (hd : o.dst = some d) (hlt : Nat.blt d a.tmps.size = true) (hdf : a'.defers = a.defers) (_hl : a.defers.length = a.defers.length) (h : ∀ K : Act → World → Prop, K a' w → o.wp P a w K noExit) :
    RunsTo P o a w (a'.tmps.getD d undef) ∧ a' = a.put o.dst (a'.tmps.getD d undef) := by
  have hlt : d < a.tmps.size := by simpa using hlt
  have get : ∀ u, a.put o.dst u = a' → u = a'.tmps.getD d undef := by
    intro u hu
    rw [hd] at hu
    rw [← hu]
    simp [Act.put, hlt]
  have h1 := h (fun a2 w2 => a2 = a' ∧ w2 = w) ⟨rfl, rfl⟩
  unfold Oper.wp at h1
  unfold RunsTo
  generalize (execOp a.eval o).run P w = r at *
  cases r with
  | ok n w' =>
    cases n <;> simp only [Oper.upon] at h1
    case value u => have := get u h1.1; exact ⟨⟨h1.2, this⟩, by rw [← this]; exact h1.1.symm⟩
    case skip => have := get undef h1.1; exact ⟨⟨h1.2, this.symm⟩, by rw [← this]; exact h1.1.symm⟩
    case defer df =>
      have h2 := h1.1
      have : a'.defers.length = (df :: a.defers).length := by rw [← h2]; cases o.dst <;> rfl
      rw [hdf, List.length_cons] at this
      omega
    case enter f args =>
      have hc : Calls P f args w' fun e w'' => e = .returned (a'.tmps.getD d undef) ∧ w'' = w ∧ a' = a.put o.dst (a'.tmps.getD d undef) := h1.mono fun e w'' he => by
        cases e with
        | returned u => have := get u he.1; exact ⟨by rw [← this], he.2, by rw [← this]; exact he.1.symm⟩
        | panicked c => exact he.elim
        | outgrown => exact (noExit_lets he).elim
      obtain ⟨_, _, _, ⟨_, _, ha⟩, _⟩ := hc []
      exact ⟨hc.mono fun e w'' hh => ⟨hh.1, hh.2.1⟩, ha⟩
    case row r args =>
      have hc : Rows P r args w' fun u w'' => u = a'.tmps.getD d undef ∧ w'' = w ∧ a' = a.put o.dst (a'.tmps.getD d undef) := h1.mono fun u w'' he => by
        have := get u he.1; exact ⟨this, he.2, by rw [← this]; exact he.1.symm⟩
      obtain ⟨_, _, ⟨_, _, ha⟩, _⟩ := hc default []
      exact ⟨hc.mono fun u w'' hh => ⟨hh.1, hh.2.1⟩, ha⟩
  | halt x w' => cases x <;> simp only [Oper.upon] at h1; exact h1.elim

theorem St.fl2 {R : List Nat} {a : Act} {T' : Array Value} {w : World} (i : Nat) (R' : List Nat) (o : Oper) (d : Nat) (hil : l[i]? = some o) (hchk : chk l.toArray ks R R' i .fl = true) (hg : Region.wanted o (yielded l.toArray a.tmps) = true)
    (hd : o.dst = some d) (hlt : Nat.blt d a.tmps.size = true) (hl : a.defers.length = a.defers.length) (hv : ∀ (K : Act → World → Prop) (w' : World), K ⟨T', a.defers⟩ w' → o.wp P a w' K noExit) (h : St P l ks A C Q R' ⟨T', a.defers⟩ w) : St P l ks A C Q R a w := by
  have hi : l.toArray[i]? = some o := by simpa using hil
  have ⟨hiR, hr, hR, hk⟩ := chk_spec hchk
  have hput := (runsTo_of_wp (a' := ⟨T', a.defers⟩) hd hlt rfl hl (fun K hK => hv K w hK)).2
  exact .take i o hi hiR hr hR (v := T'.getD d undef) (by rw [hk]; exact fun w' => ⟨o, hi, .inl ⟨hg, (runsTo_of_wp (a' := ⟨T', a.defers⟩) hd hlt rfl hl (fun K hK => hv K w' hK)).1⟩⟩) (by rw [← hput]; exact h)

theorem St.ho2 {R : List Nat} {a : Act} {T' : Array Value} {w : World} (i : Nat) (R' : List Nat) (o : Oper) (d : Nat) (hil : l[i]? = some o) (hchk : chk l.toArray ks R R' i .ho = true) (hg : Region.wanted o (yielded l.toArray a.tmps) = true)
    (hd : o.dst = some d) (hlt : Nat.blt d a.tmps.size = true) (hl : a.defers.length = a.defers.length) (hC : C w) (hv : ∀ (K : Act → World → Prop) (w' : World), C w' → K ⟨T', a.defers⟩ w' → o.wp P a w' K noExit) (h : St P l ks A C Q R' ⟨T', a.defers⟩ w) : St P l ks A C Q R a w := by
  have hi : l.toArray[i]? = some o := by simpa using hil
  have ⟨hiR, hr, hR, hk⟩ := chk_spec hchk
  have hput := (runsTo_of_wp (a' := ⟨T', a.defers⟩) hd hlt rfl hl (fun K hK => hv K w hC hK)).2
  exact .take i o hi hiR hr hR (v := T'.getD d undef) (by rw [hk]; exact ⟨hC, fun w' hw' => ⟨o, hi, .inl ⟨hg, (runsTo_of_wp (a' := ⟨T', a.defers⟩) hd hlt rfl hl (fun K hK => hv K w' hw' hK)).1⟩⟩⟩) (by rw [← hput]; exact h)

theorem St.rd2 {R : List Nat} {a : Act} {T' : Array Value} {w : World} (i : Nat) (R' : List Nat) (o : Oper) (d : Nat) (hil : l[i]? = some o) (hchk : chk l.toArray ks R R' i .rd = true) (hg : Region.wanted o (yielded l.toArray a.tmps) = true)
    (hd : o.dst = some d) (hlt : Nat.blt d a.tmps.size = true) (hl : a.defers.length = a.defers.length) (hv : ∀ K : Act → World → Prop, K ⟨T', a.defers⟩ w → o.wp P a w K noExit) (h : St P l ks A C Q R' ⟨T', a.defers⟩ w) : St P l ks A C Q R a w := by
  have hi : l.toArray[i]? = some o := by simpa using hil
  have ⟨hiR, hr, hR, hk⟩ := chk_spec hchk
  have ⟨hrun, hput⟩ := runsTo_of_wp (a' := ⟨T', a.defers⟩) hd hlt rfl hl hv
  exact .take i o hi hiR hr hR (v := T'.getD d undef) (by rw [hk]; exact ⟨o, hi, .inl ⟨hg, hrun⟩⟩) (by rw [← hput]; exact h)

theorem St.skipr {R : List Nat} {a : Act} {w : World} (i : Nat) (R' : List Nat) (o : Oper) (hil : l[i]? = some o) (hchk : chk l.toArray ks R R' i .rd = true)
    (hg : Region.wanted o (yielded l.toArray a.tmps) = false) (h : ∀ K : Act → Prop, (∀ a, St P l ks A C Q R' a w → K a) → K (a.put o.dst undef)) : St P l ks A C Q R a w := by
  have hi : l.toArray[i]? = some o := by simpa using hil
  have ⟨hiR, hr, hR, hk⟩ := chk_spec hchk
  exact .take i o hi hiR hr hR (by rw [hk]; exact ⟨o, hi, .inr ⟨hg, rfl⟩⟩) (h _ fun _ h => h)
end steps
end plain
end
end Go.Ord
namespace Go.Mem
theorem xor_one (r : Nat) : r ^^^ 1 = if r % 2 = 0 then r + 1 else r - 1 := by
  have h1 : (r ^^^ 1) % 2 = (r % 2 + 1) % 2 := by
    have h := Nat.testBit_xor r 1 0
    simp only [Nat.testBit_zero] at h
    rcases Nat.mod_two_eq_zero_or_one r with hr | hr <;> rcases Nat.mod_two_eq_zero_or_one (r ^^^ 1) with hx | hx <;> simp [hr, hx] at h ⊢
  have h2 : (r ^^^ 1) / 2 = r / 2 := by
    have := Nat.xor_div_two (a := r) (b := 1)
    simpa using this
  split <;> omega
theorem bits_xor_one (x : Int) (h0 : -9223372036854775808 ≤ x) (h1 : x ≤ 9223372036854775807) : bits .xor .i64 x 1 = if x % 2 = 0 then x + 1 else x - 1 := by
  have e : bits .xor .i64 x 1 = IntKind.i64.wrap (((x % 18446744073709551616).toNat ^^^ 1 : Nat) : Int) := by
    show IntKind.i64.wrap (((BitVec.ofInt 64 x ^^^ BitVec.ofInt 64 1).toNat : Nat) : Int) = _
    rw [BitVec.toNat_xor, BitVec.toNat_ofInt, BitVec.toNat_ofInt]
    rfl
  rw [e, xor_one, IntKind.wrap_i64]
  (repeat' split) <;> omega

open Go.RowKit

@[simp] theorem ownBlock_slice (a : Addr) (n c : Nat) : (Value.slice (some a) n c).ownBlock = some a.block := rfl
@[simp] theorem ownBlock_nil (n c : Nat) : (Value.slice none n c).ownBlock = none := rfl
def blk (w : World) (b : Nat) (xs : List Value) : Prop := ∃ T, w.heap[b]? = some (.cells xs.toArray T (0, 0))

structure Ch (F : List Nat) (w w' : World) : Prop where
  os : w'.os = w.os
  tape : w'.tape = w.tape
  output : w'.output = w.output
  size : w.heap.size ≤ w'.heap.size
  block : ∀ k, k < w.heap.size → k ∉ F → w'.heap[k]? = w.heap[k]?

theorem Ch.refl (F : List Nat) (w : World) : Ch F w w := ⟨rfl, rfl, rfl, Nat.le_refl _, fun _ _ _ => rfl⟩
theorem Ch.trans {F F' : List Nat} {a b c : World} (h : Ch F a b) (h' : Ch F' b c) (hF : ∀ k ∈ F', k ∈ F ∨ a.heap.size ≤ k) : Ch F a c :=
  ⟨h'.os.trans h.os, h'.tape.trans h.tape, h'.output.trans h.output, Nat.le_trans h.size h'.size, fun k hk hn => (h'.block k (Nat.lt_of_lt_of_le hk h.size) (fun hin => (hF k hin).elim hn (by omega))).trans (h.block k hk hn)⟩
theorem Ch.mono {F F' : List Nat} {a b : World} (h : Ch F a b) (hF : ∀ k ∈ F, k ∈ F' ∨ a.heap.size ≤ k) : Ch F' a b :=
  ⟨h.os, h.tape, h.output, h.size, fun k hk hn => h.block k hk (fun hin => (hF k hin).elim hn (by omega))⟩
theorem Ch.drew {F : List Nat} {a w : World} (h : Ch F a w) : Ch F a w.drew := ⟨h.os, h.tape, h.output, h.size, h.block⟩
theorem Ch.alloc {F : List Nat} {a w : World} (h : Ch F a w) (o : Obj) : Ch F a (w.alloc o) :=
  ⟨h.os, h.tape, h.output, by have := h.size; simp; omega, fun k hk hn => (Below.heap_alloc w o k (by have := h.size; omega)).trans (h.block k hk hn)⟩
theorem Ch.setCell {F : List Nat} {a w : World} (h : Ch F a w) {p : Addr} (hp : p.block ∈ F ∨ a.heap.size ≤ p.block) (u : Value) : Ch F a (w.setCell p u) :=
  ⟨h.os, h.tape, h.output, by have := h.size; simpa [World.setCell] using this, fun k hk hn => (Below.heap_setCell w p u k (fun e => by subst e; exact hp.elim hn (by omega))).trans (h.block k hk hn)⟩
theorem Ch.grown {F : List Nat} {a w w' : World} {row : Option Nat} (h : Ch F a w) (hg : w.grownBy w' row) (hr : ∀ k, row = some k → k ∈ F ∨ a.heap.size ≤ k) : Ch F a w' :=
  ⟨hg.os.trans h.os, hg.tape.trans h.tape, hg.output.trans h.output, Nat.le_trans h.size hg.size, fun k hk hn => (hg.block k (by have := h.size; omega) (fun e => (hr k e.symm).elim hn (by omega))).trans (h.block k hk hn)⟩
theorem Ch.cell {F : List Nat} {a w : World} (h : Ch F a w) {p : Addr} (hp : p.block < a.heap.size) (hn : p.block ∉ F) : w.cell? p = a.cell? p := World.cell?_of_block (h.block p.block hp hn)
theorem Ch.frozen {F : List Nat} {a w : World} (h : Ch F a w) {p : Addr} (hp : p.block < a.heap.size) (hn : p.block ∉ F) : w.frozen? p = a.frozen? p := World.frozen?_of_block (h.block p.block hp hn)
theorem Ch.below {B : Nat} {F : List Nat} {a w : World} (h : Ch F a w) (hB : B ≤ a.heap.size) (hF : ∀ k ∈ F, B ≤ k) : Below B a w :=
  ⟨h.os, h.tape, h.output, h.size, fun k hk => h.block k (by omega) (fun hin => by have := hF k hin; omega)⟩

theorem blk.lt {w : World} {b : Nat} {xs : List Value} (h : blk w b xs) : b < w.heap.size := by obtain ⟨T, h⟩ := h; exact (Array.getElem?_eq_some_iff.1 h).1
theorem blk.cell {w : World} {b i : Nat} {xs : List Value} {v : Value} (h : blk w b xs) (hi : xs[i]? = some v) : w.cell? ⟨b, i, none⟩ = some v := by
  obtain ⟨T, h⟩ := h
  simp [World.cell?, h, hi]
theorem blk.frozen {w : World} {b i : Nat} {xs : List Value} (h : blk w b xs) : w.frozen? ⟨b, i, none⟩ = false := by
  obtain ⟨T, h⟩ := h
  simp [World.frozen?, h]
theorem blk.ch {F : List Nat} {a w : World} {b : Nat} {xs : List Value} (h : blk a b xs) (hc : Ch F a w) (hn : b ∉ F) : blk w b xs := by
  have hlt := h.lt
  obtain ⟨T, h⟩ := h
  exact ⟨T, (hc.block b hlt hn).trans h⟩
theorem blk.drew {w : World} {b : Nat} {xs : List Value} (h : blk w b xs) : blk w.drew b xs := h
theorem blk.alloc {w : World} {b : Nat} {xs : List Value} (h : blk w b xs) (o : Obj) : blk (w.alloc o) b xs := h.ch (F := []) ((Ch.refl _ _).alloc o) (by simp)
theorem blk.new (w : World) (xs : List Value) (T : TypeId) : blk (w.alloc (.cells xs.toArray T)) w.heap.size xs := ⟨T, heap_alloc_new w _⟩
theorem blk.new' {w : World} {b : Nat} (xs : List Value) (T : TypeId) (hb : b = w.heap.size) : blk (w.alloc (.cells xs.toArray T)) b xs := hb ▸ blk.new w xs T
theorem blk.set {w : World} {b i : Nat} {xs : List Value} (h : blk w b xs) (v : Value) : blk (w.setCell ⟨b, i, none⟩ v) b (xs.set i v) := by
  obtain ⟨T, h⟩ := h
  refine ⟨T, ?_⟩
  simp only [World.setCell, Array.getElem?_modify]
  rw [if_pos trivial, h]
  simp
theorem blk.other {w : World} {b : Nat} {p : Addr} {xs : List Value} (h : blk w b xs) (hne : b ≠ p.block) (v : Value) : blk (w.setCell p v) b xs := by
  obtain ⟨T, h⟩ := h
  exact ⟨T, (Below.heap_setCell w p v b hne).trans h⟩

abbrev row (w : World) (e : TypeId) (size : Nat) (v : Value) (n : Nat) (xs : List Value) : Prop := w.ownsRow 0 e size v n xs
theorem row.ch {F : List Nat} {a w : World} {e : TypeId} {size : Nat} {v : Value} {n : Nat} {xs : List Value} (h : row a e size v n xs) (hc : Ch F a w) (hn : ∀ k, v.ownBlock = some k → k ∉ F) : row w e size v n xs := by
  refine ⟨h.1, ?_⟩
  rcases h.2 with hn' | ⟨g, cap, cur, rfl, hb, hgg, rest⟩
  · exact .inl hn'
  · exact .inr ⟨g, cap, cur, rfl, hb, (hc.block g (Array.getElem?_eq_some_iff.1 hgg).1 (hn g rfl)).trans hgg, rest⟩

theorem row.parts {w : World} {e : TypeId} {size : Nat} {v : Value} {n : Nat} {xs : List Value} (h : row w e size v n xs) (hn : 0 < n) : ∃ g cap, v = .slice (some ⟨g, 0, none⟩) n cap := by
  rcases h.2 with ⟨_, h0⟩ | ⟨g, cap, cur, hv, _⟩
  · omega
  · exact ⟨g, cap, hv⟩
theorem news_blk {w : World} {b : Nat} {xs : List Value} (h : blk w b xs) : ∀ j u, xs[j]? = some u → w.cell? ((⟨b, 0, none⟩ : Addr).add j) = some u := by
  intro j u hu
  rw [Addr.add_lit]
  simpa using h.cell hu

structure SliceTy (P : Program) (t e : TypeId) (size bytes : Nat) (z : Value) : Prop where
  under : P.underlying t = some (.slice e)
  info : (P.info? e).map (fun i => (i.zero, i.size, i.bytes)) = some (some z, size, bytes)
  zs : z.cells.size = size
  pos : 0 < size

theorem run_append_row {P : Program} (w : World) {t e : TypeId} {size bytes : Nat} {z : Value} (S : SliceTy P t e size bytes z) (ty : TypeId)
    (v : Value) (n : Nat) (xs : List Value) (hown : row w e size v n xs) (a : Addr) (m c : Nat) (news : List Value) (hl : news.length = m * size) (hnews : ∀ j u, news[j]? = some u → w.cell? (a.add j) = some u) (h1 : ∀ u ∈ news, u.oneCell' = true)
    (hbytes : (n + m) * bytes ≤ 140737488355328) (h63 : n + m ≤ maxLen) :
    ∃ v' w', (Builtin.append_ #[t, t] ty #[v, .slice (some a) m c]).run P w = .ok v' w' ∧ row w' e size v' (n + m) (xs ++ news) ∧ Ch v.ownBlock.toList w w' ∧ (∀ k, v'.ownBlock = some k → v.ownBlock = some k ∨ w.heap.size ≤ k) := by
  obtain ⟨i, hi, hz, hsize, hby⟩ := info_parts S.info
  obtain ⟨v', w', hr, h2, h3, _⟩ := run_append_own (P := P) w 0 t ty e i z size bytes S.under hi hz hsize hby S.zs S.pos v n xs hown a m c news hl hnews h1 h63 hbytes (Nat.zero_le _)
  refine ⟨v', w', hr, h2, (Ch.refl _ _).grown h3 (fun k hk => .inl (by rw [hk]; simp)), fun k hk => ?_⟩
  rcases hown.2 with ⟨rfl, hn⟩ | ⟨g, cap, cur, rfl, _, hg, hnc, hcm, hcs, htake⟩
  · subst hn
    obtain ⟨v2, w2, hr2, h22, _⟩ := run_append_own (P := P) w w.heap.size t ty e i z size bytes S.under hi hz hsize hby S.zs S.pos (.slice none 0 0) 0 xs ⟨hown.1, .inl ⟨rfl, rfl⟩⟩ a m c news hl hnews h1 h63 hbytes (Nat.le_refl _)
    rw [hr] at hr2
    cases hr2
    exact .inr (h22.lt k hk).1
  · by_cases hroom : n + m ≤ cap
    · have hfit : n * i.size + news.length ≤ cur.size := by rw [hl, hcs, hsize, ← Nat.add_mul]; exact Nat.mul_le_mul_right _ hroom
      have hr2 := run_append_room (P := P) w t ty e i S.under hi g n cap cur hg a m c news (by rw [hsize]; exact hl) hnews h1 hroom hfit
      rw [hr] at hr2
      cases hr2
      exact .inl hk
    · have holds : ∀ j u, xs[j]? = some u → w.cell? ((⟨g, 0, none⟩ : Addr).add j) = some u := hown.cells (g := g) rfl
      have hsmall : n + m ≤ 9223372036854775807 := by simp only [maxLen] at h63; omega
      have hr2 := run_append_grow (P := P) w t ty e i z S.under hi hz ⟨g, 0, none⟩ n cap xs (by rw [hsize]; exact hown.1) holds a m c news (by rw [hsize]; exact hl) hnews (by omega) (by omega) (growslice_fits (by omega) (by rw [hby]; exact hbytes))
      rw [hr] at hr2
      cases hr2
      simp [Value.ownBlock] at hk
      omega

theorem wpList_append_row {P : Program} {w : World} {ops : Array Oper} {rest : List Oper} {o : Oper} {a : Act} {Q : Exit → Act → World → Prop} {t e : TypeId} {size bytes : Nat} {z : Value} (S : SliceTy P t e size bytes z) (hgd : o.guard = none) (s x : Operand)
    (ho : o.op = .call { callee := .builtin .append, args := #[s, x], argTypes := #[t, t] })
    {v : Value} {n : Nat} {xs : List Value} (hs : a.eval s = v) (hown : row w e size v n xs) {ad : Addr} {m c : Nat} {news : List Value} (hx : a.eval x = .slice (some ad) m c) (hl : news.length = m * size) (hnews : ∀ j u, news[j]? = some u → w.cell? (ad.add j) = some u) (h1 : ∀ u ∈ news, u.oneCell' = true)
    (hbytes : (n + m) * bytes ≤ 140737488355328) (h63 : n + m ≤ 9223372036854775807)
    (h : ∀ v' w', row w' e size v' (n + m) (xs ++ news) → Ch v.ownBlock.toList w w' → (∀ k, v'.ownBlock = some k → v.ownBlock = some k ∨ w.heap.size ≤ k) → wpList P ops Q rest (a.put o.dst v') w') : wpList P ops Q (o :: rest) a w :=
  wpList_plain hgd fun K hK => by
    obtain ⟨v', w', hr, h2, h3, h4⟩ := run_append_row (P := P) w S o.type v n xs hown ad m c news hl hnews h1 hbytes (by unfold maxLen; omega)
    unfold Oper.wp execOp
    simp only [ho, resolve, invoke, builtin, Sem.run_bind, Sem.run_pure, Result.andThen_ok, List.map_toArray, List.map_cons, List.map_nil, hs, hx, hr]
    exact hK _ _ (h v' w' h2 h3 h4)

end Go.Mem
namespace Go.Mem
open Go.ChangeMaps (setBlock)

def pr (a b : Int) : Value := .agg #[.int .i64 a, .int .i64 b]
theorem pr_inj {a b c d : Int} (h : pr a b = pr c d) : a = c ∧ b = d := by unfold pr at h; simp at h; exact h

structure PairKey (P : Program) (K : TypeId) : Prop where
  check : ∀ (w : World) (em : Bool) (a b : Int), (Instr.checkKey em 10000 K (pr a b)).run P w = .ok () w
  equal : ∀ (w : World) (a b c d : Int), (Op.equal K (pr a b) (pr c d)).run P w = .ok (a == c && b == d) w
  kind : ∃ d, P.underlying K = some d ∧ (∀ v v', Instr.sameNow d (.agg v) v' = none)

noncomputable def findP (a b : Int) : List MapEntry → Nat → Option (Nat × Value)
  | [], _ => none
  | e :: es, i => @ite _ (e.key = pr a b) (Classical.propDecidable _) (some (i, e.val)) (findP a b es (i + 1))
def PairKeys (es : List MapEntry) : Prop := ∀ e ∈ es, ∃ c d, e.key = pr c d

theorem PairKey.findAsking {P : Program} {K : TypeId} (hK : PairKey P K) (a b : Int) : ∀ (es : List MapEntry) (i : Nat) (w : World), PairKeys es → (Instr.findAsking K (pr a b) es i).run P w = .ok (findP a b es i) w := by
  intro es
  induction es with
  | nil => intro i w _; simp [Instr.findAsking, findP]
  | cons e es ih =>
    intro i w hk
    obtain ⟨c, d, he⟩ := hk e (by simp)
    unfold Instr.findAsking findP
    simp only [Sem.run_bind, he, hK.equal, Result.andThen_ok]
    by_cases h : a = c ∧ b = d
    · obtain ⟨rfl, rfl⟩ := h
      rw [if_pos he]
      simp
    · have h1 : (a == c && b == d) = false := by
        cases h2 : (a == c && b == d)
        · rfl
        · simp at h2; exact (h h2).elim
      have h3 : ¬ e.key = pr a b := fun e1 => h ((pr_inj (he.symm.trans e1)).imp Eq.symm Eq.symm)
      rw [h1, if_neg h3]
      simp only [Bool.false_eq_true, if_false]
      exact ih (i + 1) w (fun x hx => hk x (by simp [hx]))

theorem PairKey.findKey {P : Program} {K : TypeId} (hK : PairKey P K) (a b : Int) (es : List MapEntry) (w : World) (hk : PairKeys es) : (Instr.findKey K (pr a b) es).run P w = .ok (findP a b es 0) w := by
  obtain ⟨d, hd, hn⟩ := hK.kind
  unfold Instr.findKey
  simp only [Sem.run_bind, run_underlying hd, Result.andThen_ok]
  cases es with
  | nil => simp [Instr.findNow, findP]
  | cons e es =>
    have : Instr.findNow d (pr a b) (e :: es) 0 = none := by unfold Instr.findNow pr; rw [hn]
    rw [this]
    exact hK.findAsking a b _ 0 w hk

theorem run_getMap {P : Program} {w : World} {m : Nat} {es : Array MapEntry} {clock : Nat} (h : w.heap[m]? = some (.map es clock)) : (getObj m).run P w = .ok (.map es clock) w := by
  simp [getObj, Sem.run, h]

theorem PairKey.lookup {P : Program} {K E T : TypeId} (hK : PairKey P K) (hT : P.underlying T = some (.map K E)) {z : Value} (hz : ∀ w, (zeroValue E).run P w = .ok z w) {w : World} {m : Nat} {es : Array MapEntry} {clock : Nat} (h : w.heap[m]? = some (.map es clock)) (hk : PairKeys es.toList) (a b : Int) (ok : Bool) :
    (Instr.lookup T (.map (some m)) (pr a b) ok).run P w = .ok (let r := findP a b es.toList 0; let v := (r.map (·.2)).getD z; if ok then .tuple #[v, .bool r.isSome] else v) w := by
  unfold Instr.lookup
  simp only [Sem.run_bind, run_underlying hT, Result.andThen_ok, run_getMap h, Sem.run_pure, hK.check, hK.findKey a b _ w hk]
  cases hf : findP a b es.toList 0 with
  | none => cases ok <;> simp [hz]
  | some r => cases ok <;> simp

theorem run_setMap {P : Program} {w : World} {m : Nat} {es : Array MapEntry} {clock : Nat} (h : w.heap[m]? = some (.map es clock)) (o : Obj) : (setObj m o).run P w = .ok () { w with heap := w.heap.setIfInBounds m o } := by
  simp [setObj, Sem.run, h]

theorem findP_some {a b : Int} : ∀ {es : List MapEntry} {i j : Nat} {v : Value}, findP a b es i = some (j, v) → i ≤ j ∧ ∃ e, es[j - i]? = some e ∧ e.key = pr a b ∧ e.val = v
  | [], _, _, _, h => by cases h
  | e :: es, i, j, v, h => by
    unfold findP at h
    split at h
    · rename_i he
      cases h
      exact ⟨Nat.le_refl _, e, by simp, he, rfl⟩
    · obtain ⟨h1, e', h2, h3, h4⟩ := findP_some h
      refine ⟨by omega, e', ?_, h3, h4⟩
      rw [show j - i = (j - (i + 1)) + 1 from by omega]
      simpa using h2
theorem findP_none {a b : Int} : ∀ {es : List MapEntry} {i : Nat}, findP a b es i = none → ∀ e ∈ es, e.key ≠ pr a b
  | [], _, _ => by simp
  | e :: es, i, h => by
    unfold findP at h
    split at h
    · cases h
    · rename_i he
      intro x hx
      rcases List.mem_cons.1 hx with rfl | hx
      · exact he
      · exact findP_none h x hx

theorem PairKey.push {P : Program} {K E T : TypeId} (hK : PairKey P K) (hT : P.underlying T = some (.map K E)) {w : World} {m : Nat} {es : Array MapEntry} {clock : Nat} (h : w.heap[m]? = some (.map es clock)) (hk : PairKeys es.toList) (a b : Int) (v : Value) (hf : findP a b es.toList 0 = none) :
    (Instr.mapUpdate T (.map (some m)) (pr a b) v).run P w = .ok () { w with heap := w.heap.setIfInBounds m (.map (es.push { key := pr a b, val := v, born := clock }) (clock + 1)) } := by
  unfold Instr.mapUpdate
  simp only [Sem.run_bind, run_underlying hT, Result.andThen_ok, run_getMap h, hK.check, hK.findKey a b _ w hk, hf, run_setMap h]

theorem PairKey.delete {P : Program} {K E T : TypeId} (hK : PairKey P K) (hT : P.underlying T = some (.map K E)) (ty : TypeId) {X : TypeId} {w : World} {m : Nat} {es : Array MapEntry} {clock : Nat} (h : w.heap[m]? = some (.map es clock)) (hk : PairKeys es.toList) (a b : Int) {j : Nat} {u : Value} (hf : findP a b es.toList 0 = some (j, u)) :
    (Builtin.delete_ #[T, X] ty #[.map (some m), pr a b]).run P w = .ok (.tuple #[]) { w with heap := w.heap.setIfInBounds m (.map (es.eraseIdxIfInBounds j) clock) } := by
  unfold Builtin.delete_
  simp [Sem.run_bind, run_underlying hT, Result.andThen_ok, run_getMap h, hK.check, hK.findKey a b _ w hk, hf, run_setMap h]
end Go.Mem
namespace Go.Proofs.Ytndcgfnlgcincaa
open Go.RowKit Go.Mem
theorem mixed : Try.prog.follows .mixedOrders = true := by kernel_rfl
theorem infoNode : (Try.prog.info? 91).map (fun i => (i.zero, i.size, i.bytes)) = some (some (.agg #[.int .u8 0, .int .i64 0, .int .i64 0, .int .i64 0]), 4, 32) := by kernel_rfl
theorem infoRef : (Try.prog.info? 26).map (fun i => (i.zero, i.size, i.bytes)) = some (some (.int .i64 0), 1, 8) := by kernel_rfl
theorem slNodes : SliceTy Try.prog 61 91 4 32 (.agg #[.int .u8 0, .int .i64 0, .int .i64 0, .int .i64 0]) := ⟨Try.underlying61, infoNode, rfl, by decide⟩
theorem slRefs : SliceTy Try.prog 25 26 1 8 (.int .i64 0) := ⟨Try.underlying25, infoRef, rfl, by decide⟩
theorem pairSides : PairKey Try.prog 89 where
  check := fun w em a b => by unfold pr; kernel_rfl
  equal := by
    intro w a b c d
    simp [Op.equal, Op.maxDepth, pr, go_sem]
    by_cases h1 : a = c <;> by_cases h2 : b = d <;> simp [h1, h2]
  kind := ⟨_, Try.underlying89, fun v v' => by cases v' <;> rfl⟩
theorem zeroInt (w : World) : (zeroValue 3).run Try.prog w = .ok (.int .i64 0) w := by kernel_rfl
end Go.Proofs.Ytndcgfnlgcincaa
namespace Go.Aig
structure Nd where
  k : Nat
  l : Nat
  r : Nat
  d : Nat
  deriving DecidableEq, Repr, Inhabited

structure Gra where
  most : Nat
  nodes : List Nd
  deriving Repr, Inhabited

def neg (r : Nat) : Nat := if r % 2 = 0 then r + 1 else r - 1
def dep (ns : List Nd) (r : Nat) : Nat := ((ns[r / 2]?).map Nd.d).getD 0
def isAnd (l r : Nat) (x : Nd) : Bool := x.k == 3 && x.l == l && x.r == r
def findAnd (ns : List Nd) (l r : Nat) : Option Nat := ns.findIdx? (isAnd l r)
def inputsFrom : List Nd → Nat → List Nat
  | [], _ => []
  | x :: ns, n => if x.k = 2 then 2 * n :: inputsFrom ns (n + 1) else inputsFrom ns (n + 1)
def inputs (ns : List Nd) : List Nat := inputsFrom ns 0

structure WF (ns : List Nd) : Prop where
  const : ns[0]? = some ⟨1, 0, 0, 0⟩
  other : ∀ n x, ns[n]? = some x → 0 < n → x = ⟨2, 0, 0, 0⟩ ∨ (x.k = 3 ∧ 2 ≤ x.l ∧ x.l < x.r ∧ x.l / 2 ≠ x.r / 2 ∧ x.r < 2 * n ∧ x.d = 1 + max (dep ns x.l) (dep ns x.r))
  once : ∀ (m n : Nat) (x y : Nd), ns[m]? = some x → ns[n]? = some y → x.k = 3 → y.k = 3 → x.l = y.l → x.r = y.r → m = n
  low : ∀ (n : Nat) x, ns[n]? = some x → x.d ≤ n

inductive AndIs where
  | known (r : Nat)
  | node (l r : Nat)
  deriving DecidableEq
def andIs (a b : Nat) : AndIs :=
  if min a b = 0 ∨ a = neg b then .known 0 else if min a b = 1 ∨ a = b then .known (max a b) else .node (min a b) (max a b)

abbrev Res := Gra × Nat × Nat
def put (G : Gra) (x : Nd) : Res := if G.most ≤ G.nodes.length then (G, 0, 201) else ({ G with nodes := G.nodes ++ [x] }, 2 * G.nodes.length, 0)
def and (G : Gra) (a b : Nat) : Res :=
  match andIs a b with
  | .known r => (G, r, 0)
  | .node l r => match findAnd G.nodes l r with
    | some n => (G, 2 * n, 0)
    | none => put G ⟨3, l, r, 1 + max (dep G.nodes a) (dep G.nodes b)⟩

abbrev Mk := Gra × Nat
def mand (s : Mk) (a b : Nat) : Mk × Nat := if s.2 ≠ 0 then (s, 0) else (((and s.1 a b).1, (and s.1 a b).2.2), (and s.1 a b).2.1)
def mor (s : Mk) (a b : Nat) : Mk × Nat := ((mand s (neg a) (neg b)).1, neg (mand s (neg a) (neg b)).2)
def mmux (s : Mk) (c a b : Nat) : Mk × Nat :=
  let x := mand s c a
  let y := mand x.1 (neg c) b
  mor y.1 x.2 y.2
def mall (s : Mk) : Nat → List Nat → Mk × Nat
  | out, [] => (s, out)
  | out, r :: l => mall (mand s out r).1 (mand s out r).2 l
def many (s : Mk) (l : List Nat) : Mk × Nat := ((mall s 1 (l.map neg)).1, neg (mall s 1 (l.map neg)).2)

def right (ns : List Nd) (r : Int) : Bool := decide (0 ≤ r ∧ r < 2 * ns.length)
def whole (G : Gra) (l : List Int) (f : Mk → Mk × Nat) : Res :=
  if l.any (fun r => !right G.nodes r) then (G, 0, 200) else
  let x := f (G, 0)
  if x.1.2 ≠ 0 then (G, 0, x.1.2) else (x.1.1, x.2, 0)

/-! ### what stays right -/
theorem neg_lt {r n : Nat} (h : r < 2 * n) : neg r < 2 * n := by unfold neg; split <;> omega
theorem neg_ne (r : Nat) : neg r ≠ r := by unfold neg; split <;> omega

theorem WF.pos {ns : List Nd} (h : WF ns) : 0 < ns.length := by
  have := h.const
  cases ns with
  | nil => simp at this
  | cons => simp

theorem dep_append {ns : List Nd} {x : Nd} {r : Nat} (h : r < 2 * ns.length) : dep (ns ++ [x]) r = dep ns r := by
  unfold dep
  rw [List.getElem?_append_left (by omega)]

theorem WF.input {ns : List Nd} (h : WF ns) : WF (ns ++ [⟨2, 0, 0, 0⟩]) := by
  have hp := h.pos
  refine ⟨?_, ?_, ?_, ?_⟩
  · rw [List.getElem?_append_left hp]; exact h.const
  · intro n x hx hn
    by_cases hlt : n < ns.length
    · rw [List.getElem?_append_left hlt] at hx
      rcases h.other n x hx hn with h1 | ⟨h1, h2, h3, h4, h5, h6⟩
      · exact .inl h1
      · exact .inr ⟨h1, h2, h3, h4, h5, by rw [h6, dep_append (by omega), dep_append (by omega)]⟩
    · rw [List.getElem?_append_right (by omega)] at hx
      have : n - ns.length = 0 := by
        by_cases hz : n - ns.length = 0
        · exact hz
        · rw [List.getElem?_eq_none (by simp; omega)] at hx; cases hx
      rw [this] at hx
      simp at hx
      exact .inl hx.symm
  · intro m n x y hx hy kx ky e1 e2
    have get : ∀ {i : Nat} {z : Nd}, (ns ++ [⟨2, 0, 0, 0⟩])[i]? = some z → z.k = 3 → ns[i]? = some z := by
      intro i z hz kz
      by_cases hlt : i < ns.length
      · rwa [List.getElem?_append_left hlt] at hz
      · rw [List.getElem?_append_right (by omega)] at hz
        cases hi : i - ns.length with
        | zero => rw [hi] at hz; simp at hz; subst hz; cases kz
        | succ j => rw [hi] at hz; simp at hz
    exact h.once m n x y (get hx kx) (get hy ky) kx ky e1 e2
  · intro n x hx
    by_cases hlt : n < ns.length
    · rw [List.getElem?_append_left hlt] at hx; exact h.low n x hx
    · rw [List.getElem?_append_right (by omega)] at hx
      cases hi : n - ns.length with
      | zero => rw [hi] at hx; simp at hx; subst hx; simp
      | succ j => rw [hi] at hx; simp at hx

theorem andIs_node {a b l r : Nat} (h : andIs a b = .node l r) : l = min a b ∧ r = max a b ∧ 2 ≤ l ∧ l < r ∧ l / 2 ≠ r / 2 := by
  unfold andIs at h
  split at h
  · cases h
  · rename_i h1
    split at h
    · cases h
    · rename_i h2
      cases h
      simp only [not_or] at h1 h2
      have h3 : a ≠ neg b := h1.2
      unfold neg at h3
      refine ⟨rfl, rfl, by omega, by omega, ?_⟩
      split at h3 <;> omega
theorem andIs_known {a b r n : Nat} (h : andIs a b = .known r) (ha : a < 2 * n) (hb : b < 2 * n) : r < 2 * n := by
  unfold andIs at h
  split at h
  · cases h; omega
  · split at h
    · cases h; omega
    · cases h

theorem findAnd_some {ns : List Nd} {l r n : Nat} (h : findAnd ns l r = some n) : ∃ x, ns[n]? = some x ∧ x.k = 3 ∧ x.l = l ∧ x.r = r := by
  unfold findAnd at h
  rw [List.findIdx?_eq_some_iff_getElem] at h
  obtain ⟨hlt, h1, _⟩ := h
  simp only [isAnd, Bool.and_eq_true, beq_iff_eq] at h1
  exact ⟨ns[n], List.getElem?_eq_getElem hlt, h1.1.1, h1.1.2, h1.2⟩
theorem findAnd_none {ns : List Nd} {l r : Nat} (h : findAnd ns l r = none) : ∀ (n : Nat) (x : Nd), ns[n]? = some x → x.k = 3 → x.l = l → x.r = r → False := by
  unfold findAnd at h
  rw [List.findIdx?_eq_none_iff] at h
  intro n x hx hk h1 h2
  have := h x (List.mem_of_getElem? hx)
  simp [isAnd, hk, h1, h2] at this
theorem WF.dep_le {ns : List Nd} (h : WF ns) {r : Nat} (hr : r < 2 * ns.length) : dep ns r < ns.length := by
  unfold dep
  have hlt : r / 2 < ns.length := by omega
  rw [List.getElem?_eq_getElem hlt]
  have := h.low (r / 2) ns[r / 2] (List.getElem?_eq_getElem hlt)
  simp only [Option.map_some, Option.getD_some]
  omega

theorem WF.and {ns : List Nd} (h : WF ns) {a b l r : Nat} (hi : andIs a b = .node l r) (ha : a < 2 * ns.length) (hb : b < 2 * ns.length) (hf : findAnd ns l r = none) :
    WF (ns ++ [⟨3, l, r, 1 + max (dep ns a) (dep ns b)⟩]) := by
  have hp := h.pos
  obtain ⟨el, er, h2, h3, h4⟩ := andIs_node hi
  have hd : max (dep ns a) (dep ns b) = max (dep ns l) (dep ns r) := by
    rw [el, er]
    rcases Nat.le_total a b with hab | hab
    · rw [Nat.min_eq_left hab, Nat.max_eq_right hab]
    · rw [Nat.min_eq_right hab, Nat.max_eq_left hab, Nat.max_comm]
  have last : ∀ {i : Nat} {z x : Nd}, (ns ++ [x])[i]? = some z → (i < ns.length ∧ ns[i]? = some z) ∨ (i = ns.length ∧ z = x) := by
    intro i z x hz
    by_cases hlt : i < ns.length
    · rw [List.getElem?_append_left hlt] at hz; exact .inl ⟨hlt, hz⟩
    · rw [List.getElem?_append_right (by omega)] at hz
      cases hii : i - ns.length with
      | zero => rw [hii] at hz; simp at hz; exact .inr ⟨by omega, hz.symm⟩
      | succ j => rw [hii] at hz; simp at hz
  refine ⟨?_, ?_, ?_, ?_⟩
  · rw [List.getElem?_append_left hp]; exact h.const
  · intro n x hx hn
    rcases last hx with ⟨hlt, hx⟩ | ⟨rfl, rfl⟩
    · rcases h.other n x hx hn with h1 | ⟨h1, h2, h3, h4, h5, h6⟩
      · exact .inl h1
      · exact .inr ⟨h1, h2, h3, h4, h5, by rw [h6, dep_append (by omega), dep_append (by omega)]⟩
    · refine .inr ⟨rfl, h2, h3, h4, by show r < _; omega, ?_⟩
      show 1 + max (dep ns a) (dep ns b) = 1 + max (dep _ l) (dep _ r)
      rw [dep_append (by omega), dep_append (by omega), hd]
  · intro m n x y hx hy kx ky e1 e2
    rcases last hx with ⟨hm, hx⟩ | ⟨rfl, rfl⟩ <;> rcases last hy with ⟨hn, hy⟩ | ⟨rfl, rfl⟩
    · exact h.once m n x y hx hy kx ky e1 e2
    · exact (findAnd_none hf m x hx kx e1 e2).elim
    · exact (findAnd_none hf n y hy ky e1.symm e2.symm).elim
    · rfl
  · intro n x hx
    rcases last hx with ⟨hlt, hx⟩ | ⟨rfl, rfl⟩
    · exact h.low n x hx
    · have h5 := h.dep_le ha
      have h6 := h.dep_le hb
      show 1 + max (dep ns a) (dep ns b) ≤ ns.length
      omega

structure Ext (G G' : Gra) : Prop where
  most : G'.most = G.most
  nodes : ∃ more, G'.nodes = G.nodes ++ more
theorem Ext.refl (G : Gra) : Ext G G := ⟨rfl, [], by simp⟩
theorem Ext.trans {a b c : Gra} (h : Ext a b) (h' : Ext b c) : Ext a c := by
  obtain ⟨m1, n1, e1⟩ := h
  obtain ⟨m2, n2, e2⟩ := h'
  exact ⟨m2.trans m1, n1 ++ n2, by rw [e2, e1, List.append_assoc]⟩
theorem Ext.len {a b : Gra} (h : Ext a b) : a.nodes.length ≤ b.nodes.length := by
  obtain ⟨_, n, e⟩ := h
  rw [e]; simp

structure Ok (G : Gra) : Prop where
  wf : WF G.nodes
  room : G.nodes.length ≤ G.most
  most : G.most ≤ 65536

theorem and_ok {G : Gra} (h : Ok G) {a b : Nat} (ha : a < 2 * G.nodes.length) (hb : b < 2 * G.nodes.length) :
    Ok (and G a b).1 ∧ Ext G (and G a b).1 ∧ (and G a b).2.1 < 2 * (and G a b).1.nodes.length ∧ ((and G a b).2.2 = 0 ∨ (and G a b).2.2 = 201) := by
  have hp := h.wf.pos
  unfold and
  split
  · rename_i r hi
    exact ⟨h, .refl _, andIs_known hi ha hb, .inl rfl⟩
  · rename_i l r hi
    split
    · rename_i n hn
      obtain ⟨x, hx, _⟩ := findAnd_some hn
      refine ⟨h, .refl _, ?_, .inl rfl⟩
      show 2 * n < 2 * G.nodes.length
      have := (List.getElem?_eq_some_iff.1 hx).1
      omega
    · rename_i hn
      unfold put
      split
      · exact ⟨h, .refl _, by show 0 < 2 * G.nodes.length; omega, .inr rfl⟩
      · rename_i hm
        refine ⟨⟨h.wf.and hi ha hb hn, by simp; omega, h.most⟩, ⟨rfl, _, rfl⟩, by simp, .inl rfl⟩

structure MOk (s : Mk) : Prop where
  ok : Ok s.1
  err : s.2 = 0 ∨ s.2 = 201
theorem mand_ok {s : Mk} (h : MOk s) {a b : Nat} (ha : a < 2 * s.1.nodes.length) (hb : b < 2 * s.1.nodes.length) :
    MOk (mand s a b).1 ∧ Ext s.1 (mand s a b).1.1 ∧ (mand s a b).2 < 2 * (mand s a b).1.1.nodes.length := by
  unfold mand
  split
  · have := h.ok.wf.pos
    exact ⟨h, .refl _, by show 0 < 2 * s.1.nodes.length; omega⟩
  · obtain ⟨h1, h2, h3, h4⟩ := and_ok h.ok ha hb
    exact ⟨⟨h1, h4⟩, h2, h3⟩
theorem Ext.lt {a b : Gra} (h : Ext a b) {r : Nat} (hr : r < 2 * a.nodes.length) : r < 2 * b.nodes.length := by have := h.len; omega
theorem mor_ok {s : Mk} (h : MOk s) {a b : Nat} (ha : a < 2 * s.1.nodes.length) (hb : b < 2 * s.1.nodes.length) :
    MOk (mor s a b).1 ∧ Ext s.1 (mor s a b).1.1 ∧ (mor s a b).2 < 2 * (mor s a b).1.1.nodes.length := by
  obtain ⟨h1, h2, h3⟩ := mand_ok h (neg_lt ha) (neg_lt hb)
  exact ⟨h1, h2, neg_lt h3⟩
theorem mmux_ok {s : Mk} (h : MOk s) {c a b : Nat} (hc : c < 2 * s.1.nodes.length) (ha : a < 2 * s.1.nodes.length) (hb : b < 2 * s.1.nodes.length) :
    MOk (mmux s c a b).1 ∧ Ext s.1 (mmux s c a b).1.1 ∧ (mmux s c a b).2 < 2 * (mmux s c a b).1.1.nodes.length := by
  obtain ⟨h1, h2, h3⟩ := mand_ok h hc ha
  obtain ⟨h4, h5, h6⟩ := mand_ok h1 (h2.lt (neg_lt hc)) (h2.lt hb)
  obtain ⟨h7, h8, h9⟩ := mor_ok h4 (h5.lt h3) h6
  exact ⟨h7, (h2.trans h5).trans h8, h9⟩
theorem mall_ok : ∀ (l : List Nat) {s : Mk} {out : Nat}, MOk s → out < 2 * s.1.nodes.length → (∀ r ∈ l, r < 2 * s.1.nodes.length) →
    MOk (mall s out l).1 ∧ Ext s.1 (mall s out l).1.1 ∧ (mall s out l).2 < 2 * (mall s out l).1.1.nodes.length
  | [], s, out, h, ho, _ => ⟨h, .refl _, ho⟩
  | r :: l, s, out, h, ho, hl => by
    obtain ⟨h1, h2, h3⟩ := mand_ok h ho (hl r (by simp))
    obtain ⟨h4, h5, h6⟩ := mall_ok l h1 h3 (fun x hx => h2.lt (hl x (by simp [hx])))
    exact ⟨h4, h2.trans h5, h6⟩
end Go.Aig
namespace Go.Proofs.Ytndcgfnlgcincaa
open Go.RowKit Go.Mem Go.Aig

def nodeCells (x : Nd) : List Value := [.int .u8 x.k, .int .i64 x.l, .int .i64 x.r, .int .i64 x.d]
def nodesCells : List Nd → List Value
  | [] => []
  | x :: ns => nodeCells x ++ nodesCells ns
def refsCells (l : List Nat) : List Value := l.map fun (r : Nat) => .int .i64 r

theorem nodesCells_append : ∀ (ns ms : List Nd), nodesCells (ns ++ ms) = nodesCells ns ++ nodesCells ms
  | [], _ => rfl
  | x :: ns, ms => by simp [nodesCells, nodesCells_append ns ms]
theorem nodesCells_get : ∀ {ns : List Nd} {n : Nat} {x : Nd} {j : Nat} {v : Value}, ns[n]? = some x → (nodeCells x)[j]? = some v → (nodesCells ns)[n * 4 + j]? = some v
  | [], n, x, j, v, h, _ => by simp at h
  | y :: ns, 0, x, j, v, h, hv => by
    simp at h; subst h
    have : j < 4 := by have := (List.getElem?_eq_some_iff.1 hv).1; simpa [nodeCells] using this
    simp only [nodesCells]
    rw [List.getElem?_append_left (by simp [nodeCells]; omega)]
    simpa using hv
  | y :: ns, n + 1, x, j, v, h, hv => by
    simp only [nodesCells]
    rw [List.getElem?_append_right (by simp [nodeCells]; omega)]
    have := nodesCells_get (ns := ns) (n := n) (x := x) (by simpa using h) hv
    rw [← this]
    congr 1
    simp [nodeCells]
    omega

structure MapOk (es : List MapEntry) (ns : List Nd) : Prop where
  of : ∀ e ∈ es, ∃ (n : Nat) (x : Nd), ns[n]? = some x ∧ x.k = 3 ∧ e.key = pr x.l x.r ∧ e.val = .int .i64 n
  has : ∀ (n : Nat) (x : Nd), ns[n]? = some x → x.k = 3 → ∃ e ∈ es, e.key = pr x.l x.r
  once : es.Pairwise (fun e f => e.key ≠ f.key)
theorem MapOk.keys {es : List MapEntry} {ns : List Nd} (h : MapOk es ns) : PairKeys es := fun e he => by
  obtain ⟨n, x, _, _, hk, _⟩ := h.of e he
  exact ⟨_, _, hk⟩
theorem pr_nat {a b c d : Nat} (h : pr (a : Int) b = pr c d) : a = c ∧ b = d := by
  obtain ⟨h1, h2⟩ := pr_inj h
  omega
theorem MapOk.find_some {es : List MapEntry} {ns : List Nd} (h : MapOk es ns) (hw : WF ns) {l r n : Nat} (hf : findAnd ns l r = some n) : ∃ j, findP l r es 0 = some (j, .int .i64 n) := by
  obtain ⟨x, hx, hk, rfl, rfl⟩ := findAnd_some hf
  cases hp : findP x.l x.r es 0 with
  | none =>
    obtain ⟨e, he, hek⟩ := h.has n x hx hk
    exact (findP_none hp e he hek).elim
  | some q =>
    obtain ⟨j, v⟩ := q
    obtain ⟨_, e, he, hek, hev⟩ := findP_some hp
    obtain ⟨m, y, hy, hky, hkk, hv⟩ := h.of e (List.mem_of_getElem? he)
    obtain ⟨e1, e2⟩ := pr_nat (hek.symm.trans hkk)
    have := hw.once n m x y hx hy hk hky e1 e2
    subst this
    exact ⟨j, by rw [← hev, hv]⟩
theorem MapOk.find_none {es : List MapEntry} {ns : List Nd} (h : MapOk es ns) {l r : Nat} (hf : findAnd ns l r = none) : findP l r es 0 = none := by
  cases hp : findP l r es 0 with
  | none => rfl
  | some q =>
    obtain ⟨j, v⟩ := q
    obtain ⟨_, e, he, hek, hev⟩ := findP_some hp
    obtain ⟨m, y, hy, hky, hkk, hv⟩ := h.of e (List.mem_of_getElem? he)
    obtain ⟨e1, e2⟩ := pr_nat (hek.symm.trans hkk)
    exact (findAnd_none hf m y hy hky e1.symm e2.symm).elim
theorem get_snoc {α : Type} {ns : List α} {x z : α} {i : Nat} (h : (ns ++ [x])[i]? = some z) : (i < ns.length ∧ ns[i]? = some z) ∨ (i = ns.length ∧ z = x) := by
  by_cases hlt : i < ns.length
  · rw [List.getElem?_append_left hlt] at h; exact .inl ⟨hlt, h⟩
  · rw [List.getElem?_append_right (by omega)] at h
    cases hii : i - ns.length with
    | zero => rw [hii] at h; simp at h; exact .inr ⟨by omega, h.symm⟩
    | succ j => rw [hii] at h; simp at h
theorem MapOk.other {es : List MapEntry} {ns : List Nd} (h : MapOk es ns) {x : Nd} (hk : x.k ≠ 3) : MapOk es (ns ++ [x]) := by
  refine ⟨fun e he => ?_, fun n y hy hky => ?_, h.once⟩
  · obtain ⟨n, y, hy, h1, h2, h3⟩ := h.of e he
    exact ⟨n, y, by rw [List.getElem?_append_left (List.getElem?_eq_some_iff.1 hy).1]; exact hy, h1, h2, h3⟩
  · rcases get_snoc hy with ⟨_, hy⟩ | ⟨_, rfl⟩
    · exact h.has n y hy hky
    · exact (hk hky).elim
theorem MapOk.and {es : List MapEntry} {ns : List Nd} (h : MapOk es ns) {x : Nd} (hf : findAnd ns x.l x.r = none) (born : Nat) :
    MapOk (es ++ [{ key := pr x.l x.r, val := .int .i64 ns.length, born := born }]) (ns ++ [x]) ∨ x.k ≠ 3 := by
  by_cases hk : x.k = 3
  · left
    refine ⟨fun e he => ?_, fun n y hy hky => ?_, ?_⟩
    · rcases List.mem_append.1 he with he | he
      · obtain ⟨n, y, hy, h1, h2, h3⟩ := h.of e he
        exact ⟨n, y, by rw [List.getElem?_append_left (List.getElem?_eq_some_iff.1 hy).1]; exact hy, h1, h2, h3⟩
      · simp only [List.mem_singleton] at he
        subst he
        exact ⟨ns.length, x, by simp, hk, rfl, rfl⟩
    · rcases get_snoc hy with ⟨_, hy⟩ | ⟨rfl, rfl⟩
      · obtain ⟨e, he, hek⟩ := h.has n y hy hky
        exact ⟨e, List.mem_append_left _ he, hek⟩
      · exact ⟨_, List.mem_append_right _ (List.mem_singleton.2 rfl), rfl⟩
    · refine List.pairwise_append.2 ⟨h.once, List.pairwise_singleton _ _, fun e he f hf' => ?_⟩
      simp only [List.mem_singleton] at hf'
      subst hf'
      obtain ⟨n, y, hy, h1, h2, h3⟩ := h.of e he
      intro hee
      obtain ⟨e1, e2⟩ := pr_nat (h2.symm.trans hee)
      exact findAnd_none hf n y hy h1 e1 e2
  · exact .inr hk

structure GM (w : World) (g : Nat) (G : Gra) (nb ncap : Nat) (iv : Value) (mb : Nat) : Prop where
  st : blk w g [.int .i64 G.most, .slice (some ⟨nb, 0, none⟩) G.nodes.length ncap, .map (some mb), iv]
  nodes : row w 91 4 (.slice (some ⟨nb, 0, none⟩) G.nodes.length ncap) G.nodes.length (nodesCells G.nodes)
  mp : ∃ es clock, w.heap[mb]? = some (.map es clock) ∧ MapOk es.toList G.nodes
  ins : row w 26 1 iv (inputs G.nodes).length (refsCells (inputs G.nodes))
  gm : g ≠ mb
  gn : g ≠ nb
  mn : mb ≠ nb
  gi : iv.ownBlock ≠ some g
  ni : iv.ownBlock ≠ some nb
  mi : iv.ownBlock ≠ some mb
  ok : Ok G
def fp (g nb mb : Nat) (iv : Value) : List Nat := g :: nb :: mb :: iv.ownBlock.toList

theorem GM.lt {w : World} {g : Nat} {G : Gra} {nb ncap : Nat} {iv : Value} {mb : Nat} (h : GM w g G nb ncap iv mb) : g < w.heap.size ∧ nb < w.heap.size ∧ mb < w.heap.size ∧ ∀ k, iv.ownBlock = some k → k < w.heap.size := by
  obtain ⟨es, clock, hm, _⟩ := h.mp
  exact ⟨h.st.lt, (h.nodes.lt nb rfl).2, (Array.getElem?_eq_some_iff.1 hm).1, fun k hk => (h.ins.lt k hk).2⟩
theorem GM.ch {F : List Nat} {a w : World} {g : Nat} {G : Gra} {nb ncap : Nat} {iv : Value} {mb : Nat} (h : GM a g G nb ncap iv mb) (hc : Ch F a w) (hF : ∀ k ∈ fp g nb mb iv, k ∉ F) : GM w g G nb ncap iv mb := by
  have hl := h.lt
  refine ⟨h.st.ch hc (hF g (by simp [fp])), h.nodes.ch hc (fun k hk => hF k (by simp [Value.ownBlock] at hk; simp [fp, hk])), ?_, h.ins.ch hc (fun k hk => hF k (by simp [fp, hk])), h.gm, h.gn, h.mn, h.gi, h.ni, h.mi, h.ok⟩
  obtain ⟨es, clock, hm, ho⟩ := h.mp
  exact ⟨es, clock, (hc.block mb hl.2.2.1 (hF mb (by simp [fp]))).trans hm, ho⟩
theorem GM.node {w : World} {g : Nat} {G : Gra} {nb ncap : Nat} {iv : Value} {mb : Nat} (h : GM w g G nb ncap iv mb) {n : Nat} {x : Nd} (hx : G.nodes[n]? = some x) :
    w.cell? ⟨nb, n * 4, none⟩ = some (.int .u8 x.k) ∧ w.cell? ⟨nb, n * 4 + 1, none⟩ = some (.int .i64 x.l) ∧ w.cell? ⟨nb, n * 4 + 2, none⟩ = some (.int .i64 x.r) ∧ w.cell? ⟨nb, n * 4 + 3, none⟩ = some (.int .i64 x.d) := by
  have key : ∀ j v, (nodeCells x)[j]? = some v → w.cell? ⟨nb, n * 4 + j, none⟩ = some v := fun j v hv => by
    have := h.nodes.cells (g := nb) rfl _ v (nodesCells_get hx hv)
    rw [Addr.add_lit] at this
    simpa using this
  exact ⟨key 0 _ rfl, key 1 _ rfl, key 2 _ rfl, key 3 _ rfl⟩
end Go.Proofs.Ytndcgfnlgcincaa
namespace Go.Proofs.Ytndcgfnlgcincaa
open Go.RowKit Go.Mem Go.Aig

theorem eqMapNil (w : World) (r : Option Nat) : (binOp .eql 62 (.map r) (.map none)).run Try.prog w = .ok (.bool r.isNone) w := run_eql_map_nil w _ _ _ r Try.underlying62
attribute [go_sem] eqMapNil

theorem GM.c {w : World} {g : Nat} {G : Gra} {nb ncap : Nat} {iv : Value} {mb : Nat} (h : GM w g G nb ncap iv mb) :
    w.cell? ⟨g, 0, none⟩ = some (.int .i64 G.most) ∧ w.cell? ⟨g, 1, none⟩ = some (.slice (some ⟨nb, 0, none⟩) G.nodes.length ncap) ∧ w.cell? ⟨g, 2, none⟩ = some (.map (some mb)) ∧ w.cell? ⟨g, 3, none⟩ = some iv :=
  ⟨h.st.cell rfl, h.st.cell rfl, h.st.cell rfl, h.st.cell rfl⟩

set_option maxRecDepth 100000 in
set_option maxHeartbeats 400000 in
theorem none_no {w : World} {g : Nat} {G : Gra} {nb ncap : Nat} {iv : Value} {mb : Nat} (h : GM w g G nb ncap iv mb) :
    Calls Try.prog 24 #[.pointer (some ⟨g, 0, none⟩)] w fun e w' => e = .returned (.bool false) ∧ w = w' := by
  have ⟨_, _, c2, _⟩ := h.c
  go_enter Try.func24, Try.ntmps24
  go_wp2
  go_ret
  exact ⟨rfl, rfl⟩

theorem ret_int {k : IntKind} {a b : Int} (h : a = b) : Ending.returned (.int k a) = .returned (.int k b) := by rw [h]
theorem ret_bool {a b : Bool} (h : a = b) : Ending.returned (.bool a) = .returned (.bool b) := by rw [h]
theorem ret_ii {k l : IntKind} {a b c d : Int} (h : a = b) (h' : c = d) : Ending.returned (.tuple #[.int k a, .int l c]) = .returned (.tuple #[.int k b, .int l d]) := by rw [h, h']
def negI (x : Int) : Int := if x % 2 = 0 then x + 1 else x - 1
theorem negI_nat (r : Nat) : negI r = (neg r : Nat) := by unfold negI neg; split <;> split <;> omega
set_option maxRecDepth 100000 in
set_option maxHeartbeats 400000 in
theorem NotI (r : Int) (w : World) (h0 : -9223372036854775808 ≤ r) (h1 : r ≤ 9223372036854775807) :
    Calls Try.prog 67 #[.int .i64 r] w fun e w' => e = .returned (.int .i64 (negI r)) ∧ w = w' := by
  go_enter Try.func67, Try.ntmps67
  go_wp2
  go_ret
  exact ⟨ret_int (bits_xor_one r h0 h1), rfl⟩
theorem Not_any (r : Nat) (w : World) (hr : r ≤ 1000000) :
    Calls Try.prog 67 #[.int .i64 r] w fun e w' => e = .returned (.int .i64 (neg r : Nat)) ∧ w = w' := by
  refine (NotI r w (by omega) (by omega)).mono ?_
  rintro e w' ⟨rfl, rfl⟩
  exact ⟨by rw [negI_nat], rfl⟩

section
variable {w : World} {g : Nat} {G : Gra} {nb ncap : Nat} {iv : Value} {mb : Nat}
set_option maxRecDepth 100000 in
set_option maxHeartbeats 400000 in
theorem Len_is (h : GM w g G nb ncap iv mb) :
    Calls Try.prog 6 #[.pointer (some ⟨g, 0, none⟩)] w fun e w' => e = .returned (.int .i64 G.nodes.length) ∧ w = w' := by
  have ⟨_, c1, c2, _⟩ := h.c
  go_enter Try.func6, Try.ntmps6
  go_wp2_with (go_at_call 24; refine (none_no h).mono ?_; rintro e w' ⟨rfl, rfl⟩)
  go_ret
  exact ⟨rfl, rfl⟩

set_option maxRecDepth 100000 in
set_option maxHeartbeats 400000 in
theorem Right_is (h : GM w g G nb ncap iv mb) (r : Int) (_h1 : r ≤ 9223372036854775807) :
    Calls Try.prog 59 #[.pointer (some ⟨g, 0, none⟩), .int .i64 r] w fun e w' => e = .returned (.bool (right G.nodes r)) ∧ w = w' := by
  have ⟨_, c1, c2, _⟩ := h.c
  have hm := h.ok.most
  have hr := h.ok.room
  by_cases h0 : 0 ≤ r
  · go_enter Try.func59, Try.ntmps59
    go_wp2_with (go_at_call 24; refine (none_no h).mono ?_; rintro e w' ⟨rfl, rfl⟩)
    go_ret
    refine ⟨ret_bool ?_, rfl⟩
    unfold right
    rw [Bool.eq_iff_iff]
    simp
    omega
  · go_enter Try.func59, Try.ntmps59
    go_wp2_with (go_at_call 24; refine (none_no h).mono ?_; rintro e w' ⟨rfl, rfl⟩)
    go_ret
    refine ⟨ret_bool ?_, rfl⟩
    unfold right
    simp
    omega

end
end Go.Proofs.Ytndcgfnlgcincaa
namespace Go.Proofs.Ytndcgfnlgcincaa
open Go.RowKit Go.Mem Go.Aig
section
variable {w : World} {g : Nat} {G : Gra} {nb ncap : Nat} {iv : Value} {mb : Nat}
set_option maxRecDepth 100000 in
set_option maxHeartbeats 400000 in
theorem put_no (h : GM w g G nb ncap iv mb) (x : Nd) (hf : G.most ≤ G.nodes.length) :
    Calls Try.prog 70 #[.pointer (some ⟨g, 0, none⟩), .agg #[.int .u8 x.k, .int .i64 x.l, .int .i64 x.r, .int .i64 x.d]] w fun e w' => e = .returned (.tuple #[.int .i64 0, .int .i64 201]) ∧ Ch [] w w' := by
  have ⟨c0, c1, _, _⟩ := h.c
  have hl := h.lt.1
  go_enter Try.func70, Try.ntmps70
  go_wp2
  refine Ord.St.door (fun _ => True) [.fl, .fl, .fl, .rd, .rd, .fl, .fl, .fl, .rd, .fl] [0, 1, 3, 7, 15, 0, 32, 96, 224, 511] [0, 1, 2, 3, 4, 5, 6, 7, 8, 9] mixed (by kernel_rfl) rfl ?_
  refine Ord.St.fl2 (T' := ?_) 0 [1, 2, 3, 4, 5, 6, 7, 8, 9] _ _ rfl (by kernel_rfl) rfl rfl rfl rfl (fun K w' hk => ?_) ?_
  rotate_left
  · go_step; exact hk
  refine Ord.St.fl2 (T' := ?_) 1 [2, 3, 4, 5, 6, 7, 8, 9] _ _ rfl (by kernel_rfl) rfl rfl rfl rfl (fun K w' hk => ?_) ?_
  rotate_left
  · go_step; exact hk
  refine Ord.St.fl2 (T' := ?_) 2 [3, 4, 5, 6, 7, 8, 9] _ _ rfl (by kernel_rfl) rfl rfl rfl rfl (fun K w' hk => ?_) ?_
  rotate_left
  · go_step; exact hk
  refine Ord.St.rd2 (T' := ?_) 3 [4, 5, 6, 7, 8, 9] _ _ rfl (by kernel_rfl) rfl rfl rfl rfl (fun K hk => ?_) ?_
  rotate_left
  · go_step; exact hk
  refine Ord.St.rd2 (T' := ?_) 4 [5, 6, 7, 8, 9] _ _ rfl (by kernel_rfl) rfl rfl rfl rfl (fun K hk => ?_) ?_
  rotate_left
  · go_step; exact hk
  refine Ord.St.fl2 (T' := ?_) 5 [6, 7, 8, 9] _ _ rfl (by kernel_rfl) rfl rfl rfl rfl (fun K w' hk => ?_) ?_
  rotate_left
  · go_step; exact hk
  refine Ord.St.fl2 (T' := ?_) 6 [7, 8, 9] _ _ rfl (by kernel_rfl) rfl rfl rfl rfl (fun K w' hk => ?_) ?_
  rotate_left
  · go_step; exact hk
  refine Ord.St.fl2 (T' := ?_) 7 [8, 9] _ _ rfl (by kernel_rfl) rfl rfl rfl rfl (fun K w' hk => ?_) ?_
  rotate_left
  · go_step; exact hk
  refine Ord.St.rd2 (T' := ?_) 8 [9] _ _ rfl (by kernel_rfl) rfl rfl rfl rfl (fun K hk => ?_) ?_
  rotate_left
  · go_step; exact hk
  refine Ord.St.fl2 (T' := ?_) 9 [] _ _ rfl (by kernel_rfl) rfl rfl rfl rfl (fun K w' hk => ?_) ?_
  rotate_left
  · go_step; exact hk
  refine Ord.St.nil ?_
  go_wp2
  go_ret2
  exact ⟨rfl, ((Ch.refl _ _).alloc _).drew⟩

structure PutIs (w : World) (g : Nat) (G : Gra) (x : Nd) (nb : Nat) (iv : Value) (mb : Nat) (nb' ncap' : Nat) (w' : World) : Prop where
  st : blk w' g [.int .i64 G.most, .slice (some ⟨nb', 0, none⟩) (G.nodes.length + 1) ncap', .map (some mb), iv]
  nodes : row w' 91 4 (.slice (some ⟨nb', 0, none⟩) (G.nodes.length + 1) ncap') (G.nodes.length + 1) (nodesCells (G.nodes ++ [x]))
  fresh : nb' = nb ∨ w.heap.size ≤ nb'
  ch : Ch [g, nb] w w'

set_option maxRecDepth 100000 in
set_option maxHeartbeats 1000000 in
theorem put_yes (h : GM w g G nb ncap iv mb) (x : Nd) (hf : G.nodes.length < G.most) :
    Calls Try.prog 70 #[.pointer (some ⟨g, 0, none⟩), .agg #[.int .u8 x.k, .int .i64 x.l, .int .i64 x.r, .int .i64 x.d]] w fun e w' => e = .returned (.tuple #[.int .i64 (2 * G.nodes.length : Nat), .int .i64 0]) ∧ ∃ nb' ncap', PutIs w g G x nb iv mb nb' ncap' w' := by
  have ⟨c0, c1, _, _⟩ := h.c
  have fr1 : w.frozen? ⟨g, 1, none⟩ = false := h.st.frozen
  have hl := h.lt.1
  have hl2 := h.lt.2.1
  have hm := h.ok.most
  obtain ⟨i0, hi, hz0, hz1, hz2⟩ := info_parts infoNode
  go_enter Try.func70, Try.ntmps70
  go_wp2
  refine Ord.St.door (fun _ => True) [.fl, .fl, .fl, .rd, .rd, .fl, .fl, .fl, .rd, .fl] [0, 1, 3, 7, 15, 0, 32, 96, 224, 511] [0, 1, 2, 3, 4, 5, 6, 7, 8, 9] mixed (by kernel_rfl) rfl ?_
  refine Ord.St.fl2 (T' := ?_) 0 [1, 2, 3, 4, 5, 6, 7, 8, 9] _ _ rfl (by kernel_rfl) rfl rfl rfl rfl (fun K w' hk => ?_) ?_
  rotate_left
  · go_step; exact hk
  refine Ord.St.fl2 (T' := ?_) 1 [2, 3, 4, 5, 6, 7, 8, 9] _ _ rfl (by kernel_rfl) rfl rfl rfl rfl (fun K w' hk => ?_) ?_
  rotate_left
  · go_step; exact hk
  refine Ord.St.fl2 (T' := ?_) 2 [3, 4, 5, 6, 7, 8, 9] _ _ rfl (by kernel_rfl) rfl rfl rfl rfl (fun K w' hk => ?_) ?_
  rotate_left
  · go_step; exact hk
  refine Ord.St.rd2 (T' := ?_) 3 [4, 5, 6, 7, 8, 9] _ _ rfl (by kernel_rfl) rfl rfl rfl rfl (fun K hk => ?_) ?_
  rotate_left
  · go_step; exact hk
  refine Ord.St.rd2 (T' := ?_) 4 [5, 6, 7, 8, 9] _ _ rfl (by kernel_rfl) rfl rfl rfl rfl (fun K hk => ?_) ?_
  rotate_left
  · go_step; exact hk
  refine Ord.St.fl2 (T' := ?_) 5 [6, 7, 8, 9] _ _ rfl (by kernel_rfl) rfl rfl rfl rfl (fun K w' hk => ?_) ?_
  rotate_left
  · go_step; exact hk
  refine Ord.St.fl2 (T' := ?_) 6 [7, 8, 9] _ _ rfl (by kernel_rfl) rfl rfl rfl rfl (fun K w' hk => ?_) ?_
  rotate_left
  · go_step; exact hk
  refine Ord.St.fl2 (T' := ?_) 7 [8, 9] _ _ rfl (by kernel_rfl) rfl rfl rfl rfl (fun K w' hk => ?_) ?_
  rotate_left
  · go_step; exact hk
  refine Ord.St.rd2 (T' := ?_) 8 [9] _ _ rfl (by kernel_rfl) rfl rfl rfl rfl (fun K hk => ?_) ?_
  rotate_left
  · go_step; exact hk
  refine Ord.St.fl2 (T' := ?_) 9 [] _ _ rfl (by kernel_rfl) rfl rfl rfl rfl (fun K w' hk => ?_) ?_
  rotate_left
  · go_step; exact hk
  refine Ord.St.nil ?_
  go_wp2
  refine Ord.St.door (fun w' => w'.cell? ⟨g, 1, none⟩ = some (.slice (some ⟨nb, 0, none⟩) G.nodes.length ncap)) [.fl, .fl, .fl, .fl, .ho, .rd, .ef, .ef, .fl, .fl, .ef] [0, 0, 2, 6, 14, 0, 32, 126, 255, 511, 1023] [0, 1, 2, 3, 4, 5, 6, 7, 8, 9, 10] mixed (by kernel_rfl) rfl ?_
  refine Ord.St.fl2 (T' := ?_) 0 [1, 2, 3, 4, 5, 6, 7, 8, 9, 10] _ _ rfl (by kernel_rfl) rfl rfl rfl rfl (fun K w' hk => ?_) ?_
  rotate_left
  · go_step; exact hk
  refine Ord.St.fl2 (T' := ?_) 1 [2, 3, 4, 5, 6, 7, 8, 9, 10] _ _ rfl (by kernel_rfl) rfl rfl rfl rfl (fun K w' hk => ?_) ?_
  rotate_left
  · go_step; exact hk
  refine Ord.St.fl2 (T' := ?_) 2 [3, 4, 5, 6, 7, 8, 9, 10] _ _ rfl (by kernel_rfl) rfl rfl rfl rfl (fun K w' hk => ?_) ?_
  rotate_left
  · go_step; exact hk
  refine Ord.St.fl2 (T' := ?_) 3 [4, 5, 6, 7, 8, 9, 10] _ _ rfl (by kernel_rfl) rfl rfl rfl rfl (fun K w' hk => ?_) ?_
  rotate_left
  · go_step; exact hk
  refine Ord.St.ho2 (T' := ?_) 4 [5, 6, 7, 8, 9, 10] _ _ rfl (by kernel_rfl) rfl rfl rfl rfl ?_ (fun K w' hw' hk => ?_) ?_
  rotate_left
  · (go_simp)
  · skip; go_step; exact hk
  refine Ord.St.rd2 (T' := ?_) 5 [6, 7, 8, 9, 10] _ _ rfl (by kernel_rfl) rfl rfl rfl rfl (fun K hk => ?_) ?_
  rotate_left
  · go_step; exact hk
  refine Ord.St.efC 6 [7, 8, 9, 10] _ rfl (by kernel_rfl) (fun K hK => ?_)
  go_wp2_with fail
  refine ⟨rfl, hK _ _ ?_ ?_⟩
  · (go_simp)
  clear hK K
  refine Ord.St.ef 7 [8, 9, 10] _ rfl (by kernel_rfl) (fun K hK => ?_)
  have hC0 := (((Ch.refl [] w).alloc (.cells #[.int .u8 x.k, .int .i64 x.l, .int .i64 x.r, .int .i64 x.d] 91)).alloc (.cells #[.int .u8 x.k, .int .i64 x.l, .int .i64 x.r, .int .i64 x.d] 91)).drew.drew
  refine wpList_append_row slNodes rfl _ _ rfl (v := .slice (some ⟨nb, 0, none⟩) G.nodes.length ncap) rfl (h.nodes.ch hC0 (by simp)) (ad := ⟨w.heap.size + 1, 0, none⟩) (m := 1) (c := 1) (news := nodeCells x) rfl rfl (news_blk (blk.drew (blk.drew (blk.new' (nodeCells x) 91 (by simp))))) (by simp [nodeCells, Value.oneCell']) (by omega) (by omega) ?_
  intro v' w1 hown hC1 hfresh
  obtain ⟨nb', ncap', hv⟩ := row.parts hown (by omega)
  rw [hv] at hown hfresh ⊢
  have st1 := (h.st.ch hC0 (by simp)).ch hC1 (by simp [h.gn])
  have s1 : w1.cell? ⟨g, 1, none⟩ = some _ := st1.cell rfl
  have s0 : w1.cell? ⟨g, 0, none⟩ = some _ := st1.cell rfl
  have f1 : w1.frozen? ⟨g, 1, none⟩ = false := st1.frozen
  refine ⟨rfl, hK _ _ ?_⟩; clear hK K
  refine Ord.St.fl2 (T' := ?_) 8 [9, 10] _ _ rfl (by kernel_rfl) rfl rfl rfl rfl (fun K w' hk => ?_) ?_
  rotate_left
  · go_step; exact hk
  refine Ord.St.fl2 (T' := ?_) 9 [10] _ _ rfl (by kernel_rfl) rfl rfl rfl rfl (fun K w' hk => ?_) ?_
  rotate_left
  · go_step; exact hk
  refine Ord.St.ef 10 [] _ rfl (by kernel_rfl) (fun K hK => ?_)
  go_wp2_with fail
  refine ⟨rfl, hK _ _ ?_⟩; clear hK K
  refine Ord.St.nil ?_
  go_wp2
  go_ret2
  have hnb : nb' = nb ∨ w.heap.size ≤ nb' := by
    rcases hfresh nb' rfl with h1 | h1
    · exact .inl (by simpa using h1.symm)
    · simp at h1; exact .inr (by omega)
  have hgn' : g ≠ nb' := by
    rcases hnb with h1 | h1
    · rw [h1]; exact h.gn
    · omega
  refine ⟨ret_ii (by omega) rfl, nb', ncap', st1.set _, ?_, hnb, ?_⟩
  · rw [nodesCells_append]
    have : nodesCells [x] = nodeCells x := by simp [nodesCells]
    rw [this]
    exact hown.ch (F := [g]) ((Ch.refl _ _).setCell (by simp) _) (by simp; omega)
  · exact ((hC0.mono (by simp)).trans hC1 (by simp)).setCell (by simp) _
theorem put_no_of (h : GM w g G nb ncap iv mb) (k l r d : Int) (x : Nd) (hk : k = x.k) (hl : l = x.l) (hr : r = x.r) (hd : d = x.d) (hf : G.most ≤ G.nodes.length) :
    Calls Try.prog 70 #[.pointer (some ⟨g, 0, none⟩), .agg #[.int .u8 k, .int .i64 l, .int .i64 r, .int .i64 d]] w fun e w' => e = .returned (.tuple #[.int .i64 0, .int .i64 201]) ∧ Ch [] w w' := by
  subst hk hl hr hd; exact put_no h x hf
theorem put_yes_of (h : GM w g G nb ncap iv mb) (k l r d : Int) (x : Nd) (hk : k = x.k) (hl : l = x.l) (hr : r = x.r) (hd : d = x.d) (hf : G.nodes.length < G.most) :
    Calls Try.prog 70 #[.pointer (some ⟨g, 0, none⟩), .agg #[.int .u8 k, .int .i64 l, .int .i64 r, .int .i64 d]] w fun e w' => e = .returned (.tuple #[.int .i64 (2 * G.nodes.length : Nat), .int .i64 0]) ∧ ∃ nb' ncap', PutIs w g G x nb iv mb nb' ncap' w' := by
  subst hk hl hr hd; exact put_yes h x hf
end
end Go.Proofs.Ytndcgfnlgcincaa
namespace Go.Proofs.Ytndcgfnlgcincaa
open Go.RowKit Go.Mem Go.Aig
section
variable {w : World} {g : Nat} {G : Gra} {nb ncap : Nat} {iv : Value} {mb : Nat}
structure Step (w : World) (g : Nat) (G' : Gra) (nb : Nat) (iv : Value) (mb : Nat) (nb' ncap' : Nat) (w' : World) : Prop where
  gm : GM w' g G' nb' ncap' iv mb
  fresh : nb' = nb ∨ w.heap.size ≤ nb'
  ch : Ch [g, nb, mb] w w'

theorem beqN {a b : Int} (h : a ≠ b) : (a == b) = false := by simp [h]

set_option maxRecDepth 100000 in
set_option maxHeartbeats 1000000 in
theorem and_zero (h : GM w g G nb ncap iv mb) {a b : Nat} (ha : a < 2 * G.nodes.length) (hb : b < 2 * G.nodes.length) (hz : min a b = 0 ∨ a = neg b) :
    Calls Try.prog 79 #[.pointer (some ⟨g, 0, none⟩), .int .i64 a, .int .i64 b] w fun e w' => e = .returned (.tuple #[.int .i64 0, .int .i64 0]) ∧ Ch [] w w' := by
  have hm := h.ok.most
  have hr := h.ok.room
  clear h
  by_cases h0 : min a b = 0
  · clear hz
    rcases Nat.le_total a b with hab | hab
    · obtain rfl : a = 0 := by omega
      clear h0 ha
      by_cases hb0 : 0 < b
      · go_enter Try.func79, Try.ntmps79
        go_wp2_with (go_at_call 67; refine (Not_any _ _ (by omega)).mono ?_; rintro e w' ⟨rfl, rfl⟩)
        go_ret2
        exact ⟨rfl, ((Ch.refl _ _).alloc _)⟩
      · obtain rfl : b = 0 := by omega
        go_enter Try.func79, Try.ntmps79
        go_wp2_with (go_at_call 67; refine (Not_any _ _ (by omega)).mono ?_; rintro e w' ⟨rfl, rfl⟩)
        go_ret2
        exact ⟨rfl, ((Ch.refl _ _).alloc _)⟩
    · obtain rfl : b = 0 := by omega
      clear h0 hb
      by_cases hb0 : 0 < a
      · go_enter Try.func79, Try.ntmps79
        go_wp2_with (go_at_call 67; refine (Not_any _ _ (by omega)).mono ?_; rintro e w' ⟨rfl, rfl⟩)
        go_ret2
        exact ⟨rfl, ((Ch.refl _ _).alloc _)⟩
      · obtain rfl : a = 0 := by omega
        go_enter Try.func79, Try.ntmps79
        go_wp2_with (go_at_call 67; refine (Not_any _ _ (by omega)).mono ?_; rintro e w' ⟨rfl, rfl⟩)
        go_ret2
        exact ⟨rfl, ((Ch.refl _ _).alloc _)⟩
  · obtain rfl := hz.resolve_left h0
    have hn := neg_ne b
    have hnb : 0 < b := by omega
    have hnn : 0 < neg b := by omega
    clear h0 hz
    rcases Nat.lt_or_gt_of_ne hn with hab | hab
    · go_enter Try.func79, Try.ntmps79
      go_wp2_with (go_at_call 67; refine (Not_any _ _ (by omega)).mono ?_; rintro e w' ⟨rfl, rfl⟩)
      go_ret2
      exact ⟨rfl, ((Ch.refl _ _).alloc _)⟩
    · go_enter Try.func79, Try.ntmps79
      go_wp2_with (go_at_call 67; refine (Not_any _ _ (by omega)).mono ?_; rintro e w' ⟨rfl, rfl⟩)
      go_ret2
      exact ⟨rfl, ((Ch.refl _ _).alloc _)⟩
theorem Not_one (w : World) : Calls Try.prog 67 #[.int .i64 1] w fun e w' => e = .returned (.int .i64 0) ∧ w = w' := NotI 1 w (by omega) (by omega)
set_option maxRecDepth 100000 in
set_option maxHeartbeats 1000000 in
theorem and_one (h : GM w g G nb ncap iv mb) {a b : Nat} (ha : a < 2 * G.nodes.length) (hb : b < 2 * G.nodes.length) (hz : 0 < a) (hz' : 0 < b) (hn : a ≠ neg b) (ho : min a b = 1 ∨ a = b) :
    Calls Try.prog 79 #[.pointer (some ⟨g, 0, none⟩), .int .i64 a, .int .i64 b] w fun e w' => e = .returned (.tuple #[.int .i64 (max a b : Nat), .int .i64 0]) ∧ Ch [] w w' := by
  have hm := h.ok.most
  have hr := h.ok.room
  clear h
  rcases Nat.lt_trichotomy a b with hab | rfl | hab
  · obtain rfl : a = 1 := by omega
    have h1 : ((1 : Int) == (neg b : Nat)) = false := beqN (by omega)
    clear hn ho hz
    go_enter Try.func79, Try.ntmps79
    go_wp2_with (go_at_call 67; refine (Not_any _ _ (by omega)).mono ?_; rintro e w' ⟨rfl, rfl⟩)
    go_ret2
    exact ⟨ret_ii (by omega) rfl, ((Ch.refl _ _).alloc _)⟩
  · have h1 : ((a : Int) == (neg a : Nat)) = false := beqN (by omega)
    clear ho hn
    by_cases h2 : a = 1
    · subst h2
      clear h1
      go_enter Try.func79, Try.ntmps79
      go_wp2_with (go_at_call 67; refine (Not_one _).mono ?_; rintro e w' ⟨rfl, rfl⟩)
      go_ret2
      exact ⟨ret_ii (by omega) rfl, ((Ch.refl _ _).alloc _)⟩
    · go_enter Try.func79, Try.ntmps79
      go_wp2_with (go_at_call 67; refine (Not_any _ _ (by omega)).mono ?_; rintro e w' ⟨rfl, rfl⟩)
      go_ret2
      exact ⟨ret_ii (by omega) rfl, ((Ch.refl _ _).alloc _)⟩
  · obtain rfl : b = 1 := by omega
    have h1 : ((a : Int) == 0) = false := beqN (by omega)
    clear hn ho hz'
    go_enter Try.func79, Try.ntmps79
    go_wp2_with (go_at_call 67; refine (Not_one _).mono ?_; rintro e w' ⟨rfl, rfl⟩)
    go_ret2
    exact ⟨ret_ii (by omega) rfl, ((Ch.refl _ _).alloc _)⟩
end
end Go.Proofs.Ytndcgfnlgcincaa
namespace Go.Proofs.Ytndcgfnlgcincaa
open Go.RowKit Go.Mem Go.Aig
section
variable {w : World} {g : Nat} {G : Gra} {nb ncap : Nat} {iv : Value} {mb : Nat}

theorem GM.look (h : GM w g G nb ncap iv mb) {W : World} (hW : W.heap[mb]? = w.heap[mb]?) {l r n : Nat} (hf : findAnd G.nodes l r = some n) :
    (Instr.lookup 62 (.map (some mb)) (.agg #[.int .i64 l, .int .i64 r]) true).run Try.prog W = .ok (.tuple #[.int .i64 n, .bool true]) W := by
  obtain ⟨es, clock, hm, ho⟩ := h.mp
  obtain ⟨j, hj⟩ := ho.find_some h.ok.wf hf
  have := pairSides.lookup Try.underlying62 zeroInt (hW.trans hm) ho.keys l r true
  rw [hj] at this
  exact this
theorem GM.lookNone (h : GM w g G nb ncap iv mb) {W : World} (hW : W.heap[mb]? = w.heap[mb]?) {l r : Nat} (hf : findAnd G.nodes l r = none) :
    (Instr.lookup 62 (.map (some mb)) (.agg #[.int .i64 l, .int .i64 r]) true).run Try.prog W = .ok (.tuple #[.int .i64 0, .bool false]) W := by
  obtain ⟨es, clock, hm, ho⟩ := h.mp
  have := pairSides.lookup Try.underlying62 zeroInt (hW.trans hm) ho.keys l r true
  rw [ho.find_none hf] at this
  exact this
theorem heap_alloc_drew (w : World) (o : Obj) (k : Nat) (h : k < w.heap.size) : (w.alloc o).drew.heap[k]? = w.heap[k]? := Below.heap_alloc w o k h

set_option maxRecDepth 100000 in
set_option maxHeartbeats 1000000 in
theorem and_found (h : GM w g G nb ncap iv mb) {a b n : Nat} (ha : a < 2 * G.nodes.length) (hb : b < 2 * G.nodes.length) (hz : 2 ≤ a) (hz' : 2 ≤ b) (hn : a ≠ neg b) (ho : a ≠ b) (hf : findAnd G.nodes (min a b) (max a b) = some n) :
    Calls Try.prog 79 #[.pointer (some ⟨g, 0, none⟩), .int .i64 a, .int .i64 b] w fun e w' => e = .returned (.tuple #[.int .i64 (2 * n : Nat), .int .i64 0]) ∧ Ch [] w w' := by
  have hm := h.ok.most
  have hr := h.ok.room
  have ⟨c0, c1, c2, c3⟩ := h.c
  have hl := h.lt.1
  have hlm := h.lt.2.2.1
  have h1 : ((a : Int) == (neg b : Nat)) = false := beqN (by omega)
  have h2 : ((a : Int) == (b : Int)) = false := beqN (by omega)
  have hnn : n < G.nodes.length := by
    obtain ⟨x, hx, _⟩ := findAnd_some hf
    exact (List.getElem?_eq_some_iff.1 hx).1
  rcases Nat.lt_or_gt_of_ne ho with hab | hab
  · rw [Nat.min_eq_left (by omega), Nat.max_eq_right (by omega)] at hf
    have hlk := h.look (heap_alloc_drew w (.cells #[.int .i64 a, .int .i64 b] 89) mb hlm) hf
    clear hf hn ho h
    go_enter Try.func79, Try.ntmps79
    go_wp2_with (go_at_call 67; refine (Not_any _ _ (by omega)).mono ?_; rintro e w' ⟨rfl, rfl⟩)
    refine Ord.St.door (fun _ => True) [.fl, .fl, .fl, .rd, .rd, .rd, .fl, .fl, .fl, .fl, .fl] [0, 1, 3, 7, 0, 31, 63, 127, 127, 255, 1023] [0, 1, 2, 3, 4, 5, 6, 7, 8, 9, 10] mixed (by kernel_rfl) rfl ?_
    refine Ord.St.fl2 (T' := ?_) 0 [1, 2, 3, 4, 5, 6, 7, 8, 9, 10] _ _ rfl (by kernel_rfl) rfl rfl rfl rfl (fun K w' hk => ?_) ?_
    rotate_left
    · go_step; exact hk
    refine Ord.St.fl2 (T' := ?_) 1 [2, 3, 4, 5, 6, 7, 8, 9, 10] _ _ rfl (by kernel_rfl) rfl rfl rfl rfl (fun K w' hk => ?_) ?_
    rotate_left
    · go_step; exact hk
    refine Ord.St.fl2 (T' := ?_) 2 [3, 4, 5, 6, 7, 8, 9, 10] _ _ rfl (by kernel_rfl) rfl rfl rfl rfl (fun K w' hk => ?_) ?_
    rotate_left
    · go_step; exact hk
    refine Ord.St.rd2 (T' := ?_) 3 [4, 5, 6, 7, 8, 9, 10] _ _ rfl (by kernel_rfl) rfl rfl rfl rfl (fun K hk => ?_) ?_
    rotate_left
    · go_step; exact hk
    refine Ord.St.rd2 (T' := ?_) 4 [5, 6, 7, 8, 9, 10] _ _ rfl (by kernel_rfl) rfl rfl rfl rfl (fun K hk => ?_) ?_
    rotate_left
    · go_step; exact hk
    refine Ord.St.rd2 (T' := ?_) 5 [6, 7, 8, 9, 10] _ _ rfl (by kernel_rfl) rfl rfl rfl rfl (fun K hk => ?_) ?_
    rotate_left
    · go_step; exact hk
    refine Ord.St.fl2 (T' := ?_) 6 [7, 8, 9, 10] _ _ rfl (by kernel_rfl) rfl rfl rfl rfl (fun K w' hk => ?_) ?_
    rotate_left
    · go_step; exact hk
    refine Ord.St.fl2 (T' := ?_) 7 [8, 9, 10] _ _ rfl (by kernel_rfl) rfl rfl rfl rfl (fun K w' hk => ?_) ?_
    rotate_left
    · go_step; exact hk
    refine Ord.St.fl2 (T' := ?_) 8 [9, 10] _ _ rfl (by kernel_rfl) rfl rfl rfl rfl (fun K w' hk => ?_) ?_
    rotate_left
    · go_step; exact hk
    refine Ord.St.fl2 (T' := ?_) 9 [10] _ _ rfl (by kernel_rfl) rfl rfl rfl rfl (fun K w' hk => ?_) ?_
    rotate_left
    · go_step; exact hk
    refine Ord.St.fl2 (T' := ?_) 10 [] _ _ rfl (by kernel_rfl) rfl rfl rfl rfl (fun K w' hk => ?_) ?_
    rotate_left
    · go_step; exact hk
    refine Ord.St.nil ?_
    go_wp2
    go_ret2
    exact ⟨ret_ii (by omega) rfl, ((Ch.refl _ _).alloc _).drew⟩
  · rw [Nat.min_eq_right (by omega), Nat.max_eq_left (by omega)] at hf
    have hlk := h.look (heap_alloc_drew w (.cells #[.int .i64 b, .int .i64 a] 89) mb hlm) hf
    clear hf hn ho h
    go_enter Try.func79, Try.ntmps79
    go_wp2_with (go_at_call 67; refine (Not_any _ _ (by omega)).mono ?_; rintro e w' ⟨rfl, rfl⟩)
    refine Ord.St.door (fun _ => True) [.fl, .fl, .fl, .rd, .rd, .rd, .fl, .fl, .fl, .fl, .fl] [0, 1, 3, 7, 0, 31, 63, 127, 127, 255, 1023] [0, 1, 2, 3, 4, 5, 6, 7, 8, 9, 10] mixed (by kernel_rfl) rfl ?_
    refine Ord.St.fl2 (T' := ?_) 0 [1, 2, 3, 4, 5, 6, 7, 8, 9, 10] _ _ rfl (by kernel_rfl) rfl rfl rfl rfl (fun K w' hk => ?_) ?_
    rotate_left
    · go_step; exact hk
    refine Ord.St.fl2 (T' := ?_) 1 [2, 3, 4, 5, 6, 7, 8, 9, 10] _ _ rfl (by kernel_rfl) rfl rfl rfl rfl (fun K w' hk => ?_) ?_
    rotate_left
    · go_step; exact hk
    refine Ord.St.fl2 (T' := ?_) 2 [3, 4, 5, 6, 7, 8, 9, 10] _ _ rfl (by kernel_rfl) rfl rfl rfl rfl (fun K w' hk => ?_) ?_
    rotate_left
    · go_step; exact hk
    refine Ord.St.rd2 (T' := ?_) 3 [4, 5, 6, 7, 8, 9, 10] _ _ rfl (by kernel_rfl) rfl rfl rfl rfl (fun K hk => ?_) ?_
    rotate_left
    · go_step; exact hk
    refine Ord.St.rd2 (T' := ?_) 4 [5, 6, 7, 8, 9, 10] _ _ rfl (by kernel_rfl) rfl rfl rfl rfl (fun K hk => ?_) ?_
    rotate_left
    · go_step; exact hk
    refine Ord.St.rd2 (T' := ?_) 5 [6, 7, 8, 9, 10] _ _ rfl (by kernel_rfl) rfl rfl rfl rfl (fun K hk => ?_) ?_
    rotate_left
    · go_step; exact hk
    refine Ord.St.fl2 (T' := ?_) 6 [7, 8, 9, 10] _ _ rfl (by kernel_rfl) rfl rfl rfl rfl (fun K w' hk => ?_) ?_
    rotate_left
    · go_step; exact hk
    refine Ord.St.fl2 (T' := ?_) 7 [8, 9, 10] _ _ rfl (by kernel_rfl) rfl rfl rfl rfl (fun K w' hk => ?_) ?_
    rotate_left
    · go_step; exact hk
    refine Ord.St.fl2 (T' := ?_) 8 [9, 10] _ _ rfl (by kernel_rfl) rfl rfl rfl rfl (fun K w' hk => ?_) ?_
    rotate_left
    · go_step; exact hk
    refine Ord.St.fl2 (T' := ?_) 9 [10] _ _ rfl (by kernel_rfl) rfl rfl rfl rfl (fun K w' hk => ?_) ?_
    rotate_left
    · go_step; exact hk
    refine Ord.St.fl2 (T' := ?_) 10 [] _ _ rfl (by kernel_rfl) rfl rfl rfl rfl (fun K w' hk => ?_) ?_
    rotate_left
    · go_step; exact hk
    refine Ord.St.nil ?_
    go_wp2
    go_ret2
    exact ⟨ret_ii (by omega) rfl, ((Ch.refl _ _).alloc _).drew⟩

theorem GM.dep (h : GM w g G nb ncap iv mb) {a : Nat} (ha : a < 2 * G.nodes.length) : w.cell? ⟨nb, a / 2 * 4 + 3, none⟩ = some (.int .i64 (dep G.nodes a : Nat)) := by
  have hx : a / 2 < G.nodes.length := by omega
  have ⟨_, _, _, na⟩ := h.node (List.getElem?_eq_getElem hx)
  rw [na]
  unfold Aig.dep
  rw [List.getElem?_eq_getElem hx]
  rfl
end
end Go.Proofs.Ytndcgfnlgcincaa
namespace Go.Proofs.Ytndcgfnlgcincaa
open Go.RowKit Go.Mem Go.Aig
section
variable {w : World} {g : Nat} {G : Gra} {nb ncap : Nat} {iv : Value} {mb : Nat}

set_option maxRecDepth 100000 in
set_option maxHeartbeats 2000000 in
theorem and_full1 (h : GM w g G nb ncap iv mb) {a b : Nat} (ha : a < 2 * G.nodes.length) (hb : b < 2 * G.nodes.length) (hz : 2 ≤ a) (hz' : 2 ≤ b) (hn : a ≠ neg b) (hab : a < b) (hf : findAnd G.nodes a b = none) (hfull : G.most ≤ G.nodes.length) :
    Calls Try.prog 79 #[.pointer (some ⟨g, 0, none⟩), .int .i64 a, .int .i64 b] w fun e w' => e = .returned (.tuple #[.int .i64 0, .int .i64 201]) ∧ Ch [] w w' := by
  have hm := h.ok.most
  have hr := h.ok.room
  have ⟨c0, c1, c2, c3⟩ := h.c
  have hl := h.lt.1
  have hln := h.lt.2.1
  have hlm := h.lt.2.2.1
  have h1 : ((a : Int) == (neg b : Nat)) = false := beqN (by omega)
  have h2 : ((a : Int) == (b : Int)) = false := beqN (by omega)
  have da := h.dep ha
  have db := h.dep hb
  have la := h.ok.wf.dep_le ha
  have lb := h.ok.wf.dep_le hb
  have hlk := h.lookNone (heap_alloc_drew w (.cells #[.int .i64 a, .int .i64 b] 89) mb hlm) hf
  generalize dep G.nodes a = ea at *
  generalize dep G.nodes b = eb at *
  clear hf hn
  have H := Lib.hid h; clear h
  go_enter Try.func79, Try.ntmps79
  go_wp2_with (go_at_call 67; refine (Not_any _ _ (by omega)).mono ?_; rintro e w' ⟨rfl, rfl⟩)
  refine Ord.St.door (fun _ => True) [.fl, .fl, .fl, .rd, .rd, .rd, .fl, .fl, .fl, .fl, .fl] [0, 1, 3, 7, 0, 31, 63, 127, 127, 255, 1023] [0, 1, 2, 3, 4, 5, 6, 7, 8, 9, 10] mixed (by kernel_rfl) rfl ?_
  refine Ord.St.fl2 (T' := ?_) 0 [1, 2, 3, 4, 5, 6, 7, 8, 9, 10] _ _ rfl (by kernel_rfl) rfl rfl rfl rfl (fun K w' hk => ?_) ?_
  rotate_left
  · go_step; exact hk
  refine Ord.St.fl2 (T' := ?_) 1 [2, 3, 4, 5, 6, 7, 8, 9, 10] _ _ rfl (by kernel_rfl) rfl rfl rfl rfl (fun K w' hk => ?_) ?_
  rotate_left
  · go_step; exact hk
  refine Ord.St.fl2 (T' := ?_) 2 [3, 4, 5, 6, 7, 8, 9, 10] _ _ rfl (by kernel_rfl) rfl rfl rfl rfl (fun K w' hk => ?_) ?_
  rotate_left
  · go_step; exact hk
  refine Ord.St.rd2 (T' := ?_) 3 [4, 5, 6, 7, 8, 9, 10] _ _ rfl (by kernel_rfl) rfl rfl rfl rfl (fun K hk => ?_) ?_
  rotate_left
  · go_step; exact hk
  refine Ord.St.rd2 (T' := ?_) 4 [5, 6, 7, 8, 9, 10] _ _ rfl (by kernel_rfl) rfl rfl rfl rfl (fun K hk => ?_) ?_
  rotate_left
  · go_step; exact hk
  refine Ord.St.rd2 (T' := ?_) 5 [6, 7, 8, 9, 10] _ _ rfl (by kernel_rfl) rfl rfl rfl rfl (fun K hk => ?_) ?_
  rotate_left
  · go_step; exact hk
  refine Ord.St.fl2 (T' := ?_) 6 [7, 8, 9, 10] _ _ rfl (by kernel_rfl) rfl rfl rfl rfl (fun K w' hk => ?_) ?_
  rotate_left
  · go_step; exact hk
  refine Ord.St.fl2 (T' := ?_) 7 [8, 9, 10] _ _ rfl (by kernel_rfl) rfl rfl rfl rfl (fun K w' hk => ?_) ?_
  rotate_left
  · go_step; exact hk
  refine Ord.St.fl2 (T' := ?_) 8 [9, 10] _ _ rfl (by kernel_rfl) rfl rfl rfl rfl (fun K w' hk => ?_) ?_
  rotate_left
  · go_step; exact hk
  refine Ord.St.fl2 (T' := ?_) 9 [10] _ _ rfl (by kernel_rfl) rfl rfl rfl rfl (fun K w' hk => ?_) ?_
  rotate_left
  · go_step; exact hk
  refine Ord.St.fl2 (T' := ?_) 10 [] _ _ rfl (by kernel_rfl) rfl rfl rfl rfl (fun K w' hk => ?_) ?_
  rotate_left
  · go_step; exact hk
  refine Ord.St.nil ?_
  go_wp2
  have hmx : ((ea : Int) < (eb : Int) ∧ max ea eb = eb) ∨ (¬ ((ea : Int) < (eb : Int)) ∧ max ea eb = ea) := by omega
  rcases hmx with ⟨hd, hmx⟩ | ⟨hd, hmx⟩
  all_goals
    have HX := Lib.hid hmx
    clear hmx
    refine Ord.St.door (fun _ => True) [.fl, .rd, .fl, .fl, .fl, .rd, .fl, .fl, .fl, .fl, .rd, .fl, .fl, .fl, .rd, .fl, .fl, .fl, .fl, .rd, .fl, .fl, .fl, .ef, .fl, .fl, .fl, .fl, .fl] [0, 0, 0, 4, 12, 28, 0, 64, 252, 508, 1020, 0, 2048, 6144, 14336, 0, 32768, 129024, 260096, 522240, 1048572, 2097148, 4194302, 8388607, 16777215, 33554431, 33554431, 67108863, 268435455] [0, 1, 2, 3, 4, 5, 6, 7, 8, 9, 10, 11, 12, 13, 14, 15, 16, 17, 18, 19, 20, 21, 22, 23, 24, 25, 26, 27, 28] mixed (by kernel_rfl) rfl ?_
    refine Ord.St.fl2 (T' := ?_) 0 [1, 2, 3, 4, 5, 6, 7, 8, 9, 10, 11, 12, 13, 14, 15, 16, 17, 18, 19, 20, 21, 22, 23, 24, 25, 26, 27, 28] _ _ rfl (by kernel_rfl) rfl rfl rfl rfl (fun K w' hk => ?_) ?_
    rotate_left
    · go_step; exact hk
    refine Ord.St.rd2 (T' := ?_) 1 [2, 3, 4, 5, 6, 7, 8, 9, 10, 11, 12, 13, 14, 15, 16, 17, 18, 19, 20, 21, 22, 23, 24, 25, 26, 27, 28] _ _ rfl (by kernel_rfl) rfl rfl rfl rfl (fun K hk => ?_) ?_
    rotate_left
    · go_step; exact hk
    refine Ord.St.fl2 (T' := ?_) 2 [3, 4, 5, 6, 7, 8, 9, 10, 11, 12, 13, 14, 15, 16, 17, 18, 19, 20, 21, 22, 23, 24, 25, 26, 27, 28] _ _ rfl (by kernel_rfl) rfl rfl rfl rfl (fun K w' hk => ?_) ?_
    rotate_left
    · go_step; exact hk
    refine Ord.St.fl2 (T' := ?_) 3 [4, 5, 6, 7, 8, 9, 10, 11, 12, 13, 14, 15, 16, 17, 18, 19, 20, 21, 22, 23, 24, 25, 26, 27, 28] _ _ rfl (by kernel_rfl) rfl rfl rfl rfl (fun K w' hk => ?_) ?_
    rotate_left
    · go_step; exact hk
    refine Ord.St.fl2 (T' := ?_) 4 [5, 6, 7, 8, 9, 10, 11, 12, 13, 14, 15, 16, 17, 18, 19, 20, 21, 22, 23, 24, 25, 26, 27, 28] _ _ rfl (by kernel_rfl) rfl rfl rfl rfl (fun K w' hk => ?_) ?_
    rotate_left
    · go_step; exact hk
    refine Ord.St.rd2 (T' := ?_) 5 [6, 7, 8, 9, 10, 11, 12, 13, 14, 15, 16, 17, 18, 19, 20, 21, 22, 23, 24, 25, 26, 27, 28] _ _ rfl (by kernel_rfl) rfl rfl rfl rfl (fun K hk => ?_) ?_
    rotate_left
    · go_step; exact hk
    refine Ord.St.fl2 (T' := ?_) 6 [7, 8, 9, 10, 11, 12, 13, 14, 15, 16, 17, 18, 19, 20, 21, 22, 23, 24, 25, 26, 27, 28] _ _ rfl (by kernel_rfl) rfl rfl rfl rfl (fun K w' hk => ?_) ?_
    rotate_left
    · go_step; exact hk
    refine Ord.St.fl2 (T' := ?_) 7 [8, 9, 10, 11, 12, 13, 14, 15, 16, 17, 18, 19, 20, 21, 22, 23, 24, 25, 26, 27, 28] _ _ rfl (by kernel_rfl) rfl rfl rfl rfl (fun K w' hk => ?_) ?_
    rotate_left
    · go_step; exact hk
    refine Ord.St.fl2 (T' := ?_) 8 [9, 10, 11, 12, 13, 14, 15, 16, 17, 18, 19, 20, 21, 22, 23, 24, 25, 26, 27, 28] _ _ rfl (by kernel_rfl) rfl rfl rfl rfl (fun K w' hk => ?_) ?_
    rotate_left
    · go_step; exact hk
    refine Ord.St.fl2 (T' := ?_) 9 [10, 11, 12, 13, 14, 15, 16, 17, 18, 19, 20, 21, 22, 23, 24, 25, 26, 27, 28] _ _ rfl (by kernel_rfl) rfl rfl rfl rfl (fun K w' hk => ?_) ?_
    rotate_left
    · go_step; exact hk
    refine Ord.St.rd2 (T' := ?_) 10 [11, 12, 13, 14, 15, 16, 17, 18, 19, 20, 21, 22, 23, 24, 25, 26, 27, 28] _ _ rfl (by kernel_rfl) rfl rfl rfl rfl (fun K hk => ?_) ?_
    rotate_left
    · go_step; exact hk
    refine Ord.St.fl2 (T' := ?_) 11 [12, 13, 14, 15, 16, 17, 18, 19, 20, 21, 22, 23, 24, 25, 26, 27, 28] _ _ rfl (by kernel_rfl) rfl rfl rfl rfl (fun K w' hk => ?_) ?_
    rotate_left
    · go_step; exact hk
    refine Ord.St.fl2 (T' := ?_) 12 [13, 14, 15, 16, 17, 18, 19, 20, 21, 22, 23, 24, 25, 26, 27, 28] _ _ rfl (by kernel_rfl) rfl rfl rfl rfl (fun K w' hk => ?_) ?_
    rotate_left
    · go_step; exact hk
    refine Ord.St.fl2 (T' := ?_) 13 [14, 15, 16, 17, 18, 19, 20, 21, 22, 23, 24, 25, 26, 27, 28] _ _ rfl (by kernel_rfl) rfl rfl rfl rfl (fun K w' hk => ?_) ?_
    rotate_left
    · go_step; exact hk
    refine Ord.St.rd2 (T' := ?_) 14 [15, 16, 17, 18, 19, 20, 21, 22, 23, 24, 25, 26, 27, 28] _ _ rfl (by kernel_rfl) rfl rfl rfl rfl (fun K hk => ?_) ?_
    rotate_left
    · go_step; exact hk
    refine Ord.St.fl2 (T' := ?_) 15 [16, 17, 18, 19, 20, 21, 22, 23, 24, 25, 26, 27, 28] _ _ rfl (by kernel_rfl) rfl rfl rfl rfl (fun K w' hk => ?_) ?_
    rotate_left
    · go_step; exact hk
    refine Ord.St.fl2 (T' := ?_) 16 [17, 18, 19, 20, 21, 22, 23, 24, 25, 26, 27, 28] _ _ rfl (by kernel_rfl) rfl rfl rfl rfl (fun K w' hk => ?_) ?_
    rotate_left
    · go_step; exact hk
    refine Ord.St.fl2 (T' := ?_) 17 [18, 19, 20, 21, 22, 23, 24, 25, 26, 27, 28] _ _ rfl (by kernel_rfl) rfl rfl rfl rfl (fun K w' hk => ?_) ?_
    rotate_left
    · go_step; exact hk
    refine Ord.St.fl2 (T' := ?_) 18 [19, 20, 21, 22, 23, 24, 25, 26, 27, 28] _ _ rfl (by kernel_rfl) rfl rfl rfl rfl (fun K w' hk => ?_) ?_
    rotate_left
    · go_step; exact hk
    refine Ord.St.rd2 (T' := ?_) 19 [20, 21, 22, 23, 24, 25, 26, 27, 28] _ _ rfl (by kernel_rfl) rfl rfl rfl rfl (fun K hk => ?_) ?_
    rotate_left
    · go_step; exact hk
    refine Ord.St.fl2 (T' := ?_) 20 [21, 22, 23, 24, 25, 26, 27, 28] _ _ rfl (by kernel_rfl) rfl rfl rfl rfl (fun K w' hk => ?_) ?_
    rotate_left
    · go_step; exact hk
    refine Ord.St.fl2 (T' := ?_) 21 [22, 23, 24, 25, 26, 27, 28] _ _ rfl (by kernel_rfl) rfl rfl rfl rfl (fun K w' hk => ?_) ?_
    rotate_left
    · go_step; exact hk
    refine Ord.St.fl2 (T' := ?_) 22 [23, 24, 25, 26, 27, 28] _ _ rfl (by kernel_rfl) rfl rfl rfl rfl (fun K w' hk => ?_) ?_
    rotate_left
    · go_step; exact hk
    refine Ord.St.ef 23 [24, 25, 26, 27, 28] _ rfl (by kernel_rfl) (fun K hK => ?_)
    go_wp2_with fail
    have hC0 := (((Ch.refl [] w).alloc (.cells #[.int .i64 a, .int .i64 b] 89)).drew).drew
    refine (put_no_of (H.out.ch hC0 (by simp)) _ _ _ _ ⟨3, a, b, 1 + max ea eb⟩ rfl rfl rfl (by have := HX.out; dsimp only; omega) hfull).mono ?_
    rintro e w1 ⟨rfl, hC1⟩
    go_wp2_with fail
    refine ⟨rfl, hK _ _ ?_⟩; clear hK K
    refine Ord.St.fl2 (T' := ?_) 24 [25, 26, 27, 28] _ _ rfl (by kernel_rfl) rfl rfl rfl rfl (fun K w' hk => ?_) ?_
    rotate_left
    · go_step; exact hk
    refine Ord.St.fl2 (T' := ?_) 25 [26, 27, 28] _ _ rfl (by kernel_rfl) rfl rfl rfl rfl (fun K w' hk => ?_) ?_
    rotate_left
    · go_step; exact hk
    refine Ord.St.fl2 (T' := ?_) 26 [27, 28] _ _ rfl (by kernel_rfl) rfl rfl rfl rfl (fun K w' hk => ?_) ?_
    rotate_left
    · go_step; exact hk
    refine Ord.St.fl2 (T' := ?_) 27 [28] _ _ rfl (by kernel_rfl) rfl rfl rfl rfl (fun K w' hk => ?_) ?_
    rotate_left
    · go_step; exact hk
    refine Ord.St.fl2 (T' := ?_) 28 [] _ _ rfl (by kernel_rfl) rfl rfl rfl rfl (fun K w' hk => ?_) ?_
    rotate_left
    · go_step; exact hk
    refine Ord.St.nil ?_
    go_wp2
    go_ret2
    exact ⟨rfl, (hC0.trans hC1 (by simp))⟩

set_option maxRecDepth 100000 in
set_option maxHeartbeats 2000000 in
theorem and_full2 (h : GM w g G nb ncap iv mb) {a b : Nat} (ha : a < 2 * G.nodes.length) (hb : b < 2 * G.nodes.length) (hz : 2 ≤ a) (hz' : 2 ≤ b) (hn : a ≠ neg b) (hab : b < a) (hf : findAnd G.nodes b a = none) (hfull : G.most ≤ G.nodes.length) :
    Calls Try.prog 79 #[.pointer (some ⟨g, 0, none⟩), .int .i64 a, .int .i64 b] w fun e w' => e = .returned (.tuple #[.int .i64 0, .int .i64 201]) ∧ Ch [] w w' := by
  have hm := h.ok.most
  have hr := h.ok.room
  have ⟨c0, c1, c2, c3⟩ := h.c
  have hl := h.lt.1
  have hln := h.lt.2.1
  have hlm := h.lt.2.2.1
  have h1 : ((a : Int) == (neg b : Nat)) = false := beqN (by omega)
  have h2 : ((a : Int) == (b : Int)) = false := beqN (by omega)
  have da := h.dep ha
  have db := h.dep hb
  have la := h.ok.wf.dep_le ha
  have lb := h.ok.wf.dep_le hb
  have hlk := h.lookNone (heap_alloc_drew w (.cells #[.int .i64 b, .int .i64 a] 89) mb hlm) hf
  generalize dep G.nodes a = ea at *
  generalize dep G.nodes b = eb at *
  clear hf hn
  have H := Lib.hid h; clear h
  go_enter Try.func79, Try.ntmps79
  go_wp2_with (go_at_call 67; refine (Not_any _ _ (by omega)).mono ?_; rintro e w' ⟨rfl, rfl⟩)
  refine Ord.St.door (fun _ => True) [.fl, .fl, .fl, .rd, .rd, .rd, .fl, .fl, .fl, .fl, .fl] [0, 1, 3, 7, 0, 31, 63, 127, 127, 255, 1023] [0, 1, 2, 3, 4, 5, 6, 7, 8, 9, 10] mixed (by kernel_rfl) rfl ?_
  refine Ord.St.fl2 (T' := ?_) 0 [1, 2, 3, 4, 5, 6, 7, 8, 9, 10] _ _ rfl (by kernel_rfl) rfl rfl rfl rfl (fun K w' hk => ?_) ?_
  rotate_left
  · go_step; exact hk
  refine Ord.St.fl2 (T' := ?_) 1 [2, 3, 4, 5, 6, 7, 8, 9, 10] _ _ rfl (by kernel_rfl) rfl rfl rfl rfl (fun K w' hk => ?_) ?_
  rotate_left
  · go_step; exact hk
  refine Ord.St.fl2 (T' := ?_) 2 [3, 4, 5, 6, 7, 8, 9, 10] _ _ rfl (by kernel_rfl) rfl rfl rfl rfl (fun K w' hk => ?_) ?_
  rotate_left
  · go_step; exact hk
  refine Ord.St.rd2 (T' := ?_) 3 [4, 5, 6, 7, 8, 9, 10] _ _ rfl (by kernel_rfl) rfl rfl rfl rfl (fun K hk => ?_) ?_
  rotate_left
  · go_step; exact hk
  refine Ord.St.rd2 (T' := ?_) 4 [5, 6, 7, 8, 9, 10] _ _ rfl (by kernel_rfl) rfl rfl rfl rfl (fun K hk => ?_) ?_
  rotate_left
  · go_step; exact hk
  refine Ord.St.rd2 (T' := ?_) 5 [6, 7, 8, 9, 10] _ _ rfl (by kernel_rfl) rfl rfl rfl rfl (fun K hk => ?_) ?_
  rotate_left
  · go_step; exact hk
  refine Ord.St.fl2 (T' := ?_) 6 [7, 8, 9, 10] _ _ rfl (by kernel_rfl) rfl rfl rfl rfl (fun K w' hk => ?_) ?_
  rotate_left
  · go_step; exact hk
  refine Ord.St.fl2 (T' := ?_) 7 [8, 9, 10] _ _ rfl (by kernel_rfl) rfl rfl rfl rfl (fun K w' hk => ?_) ?_
  rotate_left
  · go_step; exact hk
  refine Ord.St.fl2 (T' := ?_) 8 [9, 10] _ _ rfl (by kernel_rfl) rfl rfl rfl rfl (fun K w' hk => ?_) ?_
  rotate_left
  · go_step; exact hk
  refine Ord.St.fl2 (T' := ?_) 9 [10] _ _ rfl (by kernel_rfl) rfl rfl rfl rfl (fun K w' hk => ?_) ?_
  rotate_left
  · go_step; exact hk
  refine Ord.St.fl2 (T' := ?_) 10 [] _ _ rfl (by kernel_rfl) rfl rfl rfl rfl (fun K w' hk => ?_) ?_
  rotate_left
  · go_step; exact hk
  refine Ord.St.nil ?_
  go_wp2
  have hmx : ((ea : Int) < (eb : Int) ∧ max ea eb = eb) ∨ (¬ ((ea : Int) < (eb : Int)) ∧ max ea eb = ea) := by omega
  rcases hmx with ⟨hd, hmx⟩ | ⟨hd, hmx⟩
  all_goals
    have HX := Lib.hid hmx
    clear hmx
    refine Ord.St.door (fun _ => True) [.fl, .rd, .fl, .fl, .fl, .rd, .fl, .fl, .fl, .fl, .rd, .fl, .fl, .fl, .rd, .fl, .fl, .fl, .fl, .rd, .fl, .fl, .fl, .ef, .fl, .fl, .fl, .fl, .fl] [0, 0, 0, 4, 12, 28, 0, 64, 252, 508, 1020, 0, 2048, 6144, 14336, 0, 32768, 129024, 260096, 522240, 1048572, 2097148, 4194302, 8388607, 16777215, 33554431, 33554431, 67108863, 268435455] [0, 1, 2, 3, 4, 5, 6, 7, 8, 9, 10, 11, 12, 13, 14, 15, 16, 17, 18, 19, 20, 21, 22, 23, 24, 25, 26, 27, 28] mixed (by kernel_rfl) rfl ?_
    refine Ord.St.fl2 (T' := ?_) 0 [1, 2, 3, 4, 5, 6, 7, 8, 9, 10, 11, 12, 13, 14, 15, 16, 17, 18, 19, 20, 21, 22, 23, 24, 25, 26, 27, 28] _ _ rfl (by kernel_rfl) rfl rfl rfl rfl (fun K w' hk => ?_) ?_
    rotate_left
    · go_step; exact hk
    refine Ord.St.rd2 (T' := ?_) 1 [2, 3, 4, 5, 6, 7, 8, 9, 10, 11, 12, 13, 14, 15, 16, 17, 18, 19, 20, 21, 22, 23, 24, 25, 26, 27, 28] _ _ rfl (by kernel_rfl) rfl rfl rfl rfl (fun K hk => ?_) ?_
    rotate_left
    · go_step; exact hk
    refine Ord.St.fl2 (T' := ?_) 2 [3, 4, 5, 6, 7, 8, 9, 10, 11, 12, 13, 14, 15, 16, 17, 18, 19, 20, 21, 22, 23, 24, 25, 26, 27, 28] _ _ rfl (by kernel_rfl) rfl rfl rfl rfl (fun K w' hk => ?_) ?_
    rotate_left
    · go_step; exact hk
    refine Ord.St.fl2 (T' := ?_) 3 [4, 5, 6, 7, 8, 9, 10, 11, 12, 13, 14, 15, 16, 17, 18, 19, 20, 21, 22, 23, 24, 25, 26, 27, 28] _ _ rfl (by kernel_rfl) rfl rfl rfl rfl (fun K w' hk => ?_) ?_
    rotate_left
    · go_step; exact hk
    refine Ord.St.fl2 (T' := ?_) 4 [5, 6, 7, 8, 9, 10, 11, 12, 13, 14, 15, 16, 17, 18, 19, 20, 21, 22, 23, 24, 25, 26, 27, 28] _ _ rfl (by kernel_rfl) rfl rfl rfl rfl (fun K w' hk => ?_) ?_
    rotate_left
    · go_step; exact hk
    refine Ord.St.rd2 (T' := ?_) 5 [6, 7, 8, 9, 10, 11, 12, 13, 14, 15, 16, 17, 18, 19, 20, 21, 22, 23, 24, 25, 26, 27, 28] _ _ rfl (by kernel_rfl) rfl rfl rfl rfl (fun K hk => ?_) ?_
    rotate_left
    · go_step; exact hk
    refine Ord.St.fl2 (T' := ?_) 6 [7, 8, 9, 10, 11, 12, 13, 14, 15, 16, 17, 18, 19, 20, 21, 22, 23, 24, 25, 26, 27, 28] _ _ rfl (by kernel_rfl) rfl rfl rfl rfl (fun K w' hk => ?_) ?_
    rotate_left
    · go_step; exact hk
    refine Ord.St.fl2 (T' := ?_) 7 [8, 9, 10, 11, 12, 13, 14, 15, 16, 17, 18, 19, 20, 21, 22, 23, 24, 25, 26, 27, 28] _ _ rfl (by kernel_rfl) rfl rfl rfl rfl (fun K w' hk => ?_) ?_
    rotate_left
    · go_step; exact hk
    refine Ord.St.fl2 (T' := ?_) 8 [9, 10, 11, 12, 13, 14, 15, 16, 17, 18, 19, 20, 21, 22, 23, 24, 25, 26, 27, 28] _ _ rfl (by kernel_rfl) rfl rfl rfl rfl (fun K w' hk => ?_) ?_
    rotate_left
    · go_step; exact hk
    refine Ord.St.fl2 (T' := ?_) 9 [10, 11, 12, 13, 14, 15, 16, 17, 18, 19, 20, 21, 22, 23, 24, 25, 26, 27, 28] _ _ rfl (by kernel_rfl) rfl rfl rfl rfl (fun K w' hk => ?_) ?_
    rotate_left
    · go_step; exact hk
    refine Ord.St.rd2 (T' := ?_) 10 [11, 12, 13, 14, 15, 16, 17, 18, 19, 20, 21, 22, 23, 24, 25, 26, 27, 28] _ _ rfl (by kernel_rfl) rfl rfl rfl rfl (fun K hk => ?_) ?_
    rotate_left
    · go_step; exact hk
    refine Ord.St.fl2 (T' := ?_) 11 [12, 13, 14, 15, 16, 17, 18, 19, 20, 21, 22, 23, 24, 25, 26, 27, 28] _ _ rfl (by kernel_rfl) rfl rfl rfl rfl (fun K w' hk => ?_) ?_
    rotate_left
    · go_step; exact hk
    refine Ord.St.fl2 (T' := ?_) 12 [13, 14, 15, 16, 17, 18, 19, 20, 21, 22, 23, 24, 25, 26, 27, 28] _ _ rfl (by kernel_rfl) rfl rfl rfl rfl (fun K w' hk => ?_) ?_
    rotate_left
    · go_step; exact hk
    refine Ord.St.fl2 (T' := ?_) 13 [14, 15, 16, 17, 18, 19, 20, 21, 22, 23, 24, 25, 26, 27, 28] _ _ rfl (by kernel_rfl) rfl rfl rfl rfl (fun K w' hk => ?_) ?_
    rotate_left
    · go_step; exact hk
    refine Ord.St.rd2 (T' := ?_) 14 [15, 16, 17, 18, 19, 20, 21, 22, 23, 24, 25, 26, 27, 28] _ _ rfl (by kernel_rfl) rfl rfl rfl rfl (fun K hk => ?_) ?_
    rotate_left
    · go_step; exact hk
    refine Ord.St.fl2 (T' := ?_) 15 [16, 17, 18, 19, 20, 21, 22, 23, 24, 25, 26, 27, 28] _ _ rfl (by kernel_rfl) rfl rfl rfl rfl (fun K w' hk => ?_) ?_
    rotate_left
    · go_step; exact hk
    refine Ord.St.fl2 (T' := ?_) 16 [17, 18, 19, 20, 21, 22, 23, 24, 25, 26, 27, 28] _ _ rfl (by kernel_rfl) rfl rfl rfl rfl (fun K w' hk => ?_) ?_
    rotate_left
    · go_step; exact hk
    refine Ord.St.fl2 (T' := ?_) 17 [18, 19, 20, 21, 22, 23, 24, 25, 26, 27, 28] _ _ rfl (by kernel_rfl) rfl rfl rfl rfl (fun K w' hk => ?_) ?_
    rotate_left
    · go_step; exact hk
    refine Ord.St.fl2 (T' := ?_) 18 [19, 20, 21, 22, 23, 24, 25, 26, 27, 28] _ _ rfl (by kernel_rfl) rfl rfl rfl rfl (fun K w' hk => ?_) ?_
    rotate_left
    · go_step; exact hk
    refine Ord.St.rd2 (T' := ?_) 19 [20, 21, 22, 23, 24, 25, 26, 27, 28] _ _ rfl (by kernel_rfl) rfl rfl rfl rfl (fun K hk => ?_) ?_
    rotate_left
    · go_step; exact hk
    refine Ord.St.fl2 (T' := ?_) 20 [21, 22, 23, 24, 25, 26, 27, 28] _ _ rfl (by kernel_rfl) rfl rfl rfl rfl (fun K w' hk => ?_) ?_
    rotate_left
    · go_step; exact hk
    refine Ord.St.fl2 (T' := ?_) 21 [22, 23, 24, 25, 26, 27, 28] _ _ rfl (by kernel_rfl) rfl rfl rfl rfl (fun K w' hk => ?_) ?_
    rotate_left
    · go_step; exact hk
    refine Ord.St.fl2 (T' := ?_) 22 [23, 24, 25, 26, 27, 28] _ _ rfl (by kernel_rfl) rfl rfl rfl rfl (fun K w' hk => ?_) ?_
    rotate_left
    · go_step; exact hk
    refine Ord.St.ef 23 [24, 25, 26, 27, 28] _ rfl (by kernel_rfl) (fun K hK => ?_)
    go_wp2_with fail
    have hC0 := (((Ch.refl [] w).alloc (.cells #[.int .i64 b, .int .i64 a] 89)).drew).drew
    refine (put_no_of (H.out.ch hC0 (by simp)) _ _ _ _ ⟨3, b, a, 1 + max ea eb⟩ rfl rfl rfl (by have := HX.out; dsimp only; omega) hfull).mono ?_
    rintro e w1 ⟨rfl, hC1⟩
    go_wp2_with fail
    refine ⟨rfl, hK _ _ ?_⟩; clear hK K
    refine Ord.St.fl2 (T' := ?_) 24 [25, 26, 27, 28] _ _ rfl (by kernel_rfl) rfl rfl rfl rfl (fun K w' hk => ?_) ?_
    rotate_left
    · go_step; exact hk
    refine Ord.St.fl2 (T' := ?_) 25 [26, 27, 28] _ _ rfl (by kernel_rfl) rfl rfl rfl rfl (fun K w' hk => ?_) ?_
    rotate_left
    · go_step; exact hk
    refine Ord.St.fl2 (T' := ?_) 26 [27, 28] _ _ rfl (by kernel_rfl) rfl rfl rfl rfl (fun K w' hk => ?_) ?_
    rotate_left
    · go_step; exact hk
    refine Ord.St.fl2 (T' := ?_) 27 [28] _ _ rfl (by kernel_rfl) rfl rfl rfl rfl (fun K w' hk => ?_) ?_
    rotate_left
    · go_step; exact hk
    refine Ord.St.fl2 (T' := ?_) 28 [] _ _ rfl (by kernel_rfl) rfl rfl rfl rfl (fun K w' hk => ?_) ?_
    rotate_left
    · go_step; exact hk
    refine Ord.St.nil ?_
    go_wp2
    go_ret2
    exact ⟨rfl, (hC0.trans hC1 (by simp))⟩
end
end Go.Proofs.Ytndcgfnlgcincaa
namespace Go.Proofs.Ytndcgfnlgcincaa
open Go.RowKit Go.Mem Go.Aig
section
variable {w : World} {g : Nat} {G : Gra} {nb ncap : Nat} {iv : Value} {mb : Nat}
theorem setMap_ch (W : World) (m : Nat) (o : Obj) : Ch [m] W { W with heap := W.heap.setIfInBounds m o } :=
  ⟨rfl, rfl, rfl, by simp, fun k _ hn => by simp only [List.mem_singleton] at hn; show (W.heap.setIfInBounds m o)[k]? = _; rw [Array.getElem?_setIfInBounds_ne (fun e => hn e.symm)]⟩
theorem push_is {W : World} {ns : List Nd} (hm : ∃ es clock, W.heap[mb]? = some (.map es clock) ∧ MapOk es.toList ns) (l r : Nat) (d : Nat) (hf : findAnd ns l r = none) :
    ∃ w2, (Instr.mapUpdate 62 (.map (some mb)) (.agg #[.int .i64 l, .int .i64 r]) (.int .i64 ns.length)).run Try.prog W = .ok () w2 ∧ (∃ es clock, w2.heap[mb]? = some (.map es clock) ∧ MapOk es.toList (ns ++ [⟨3, l, r, d⟩])) ∧ Ch [mb] W w2 := by
  obtain ⟨es, clock, hm, ho⟩ := hm
  have hlt : mb < W.heap.size := (Array.getElem?_eq_some_iff.1 hm).1
  have hrun := pairSides.push Try.underlying62 hm ho.keys l r (.int .i64 ns.length) (ho.find_none hf)
  refine ⟨_, hrun, ⟨_, _, by show (W.heap.setIfInBounds mb _)[mb]? = _; rw [Array.getElem?_setIfInBounds_self_of_lt hlt], ?_⟩, setMap_ch W mb _⟩
  have := (ho.and (x := ⟨3, l, r, d⟩) hf clock).resolve_right (by simp)
  simpa using this
theorem inputsFrom_append (x : Nd) (hk : x.k ≠ 2) : ∀ (ns : List Nd) (n : Nat), inputsFrom (ns ++ [x]) n = inputsFrom ns n
  | [], n => by simp [inputsFrom, hk]
  | y :: ns, n => by simp only [List.cons_append, inputsFrom, inputsFrom_append x hk ns]
theorem inputs_append {ns : List Nd} {x : Nd} (hk : x.k ≠ 2) : inputs (ns ++ [x]) = inputs ns := inputsFrom_append x hk ns 0
theorem GM.more {W w1 w2 : World} (h : GM W g G nb ncap iv mb) {l r d nb' ncap' : Nat} (hp : PutIs W g G ⟨3, l, r, d⟩ nb iv mb nb' ncap' w1) (hc : Ch [mb] w1 w2) (hm : ∃ es clock, w2.heap[mb]? = some (.map es clock) ∧ MapOk es.toList (G.nodes ++ [⟨3, l, r, d⟩])) (ok : Ok { G with nodes := G.nodes ++ [⟨3, l, r, d⟩] }) :
    GM w2 g { G with nodes := G.nodes ++ [⟨3, l, r, d⟩] } nb' ncap' iv mb := by
  have hl := h.lt
  have hng : g ≠ nb' := by rcases hp.fresh with e | e; rw [e]; exact h.gn; omega
  have hmn : mb ≠ nb' := by rcases hp.fresh with e | e; rw [e]; exact h.mn; omega
  have hni : iv.ownBlock ≠ some nb' := by
    rcases hp.fresh with e | e
    · rw [e]; exact h.ni
    · intro hh; have := hl.2.2.2 nb' hh; omega
  refine ⟨?_, ?_, hm, ?_, h.gm, hng, hmn, h.gi, hni, h.mi, ok⟩
  · have := hp.st.ch hc (by simp [h.gm])
    simpa using this
  · have := hp.nodes.ch hc (by simp; exact fun e => hmn e.symm)
    simpa using this
  · show row w2 _ 1 iv (inputs (G.nodes ++ [⟨3, l, r, d⟩])).length _
    rw [inputs_append (by simp)]
    refine (h.ins.ch hp.ch (fun k hk => ?_)).ch hc (fun k hk => ?_)
    · have h1 := h.gi; have h2 := h.ni
      rw [hk] at h1 h2
      simp only [Option.some.injEq, ne_eq] at h1 h2
      simp [h1, h2]
    · have h1 := h.mi
      rw [hk] at h1
      simp only [Option.some.injEq, ne_eq] at h1
      simp [h1]

set_option maxRecDepth 100000 in
set_option maxHeartbeats 2000000 in
theorem and_new1 (h : GM w g G nb ncap iv mb) {a b : Nat} (ha : a < 2 * G.nodes.length) (hb : b < 2 * G.nodes.length) (hi : andIs a b = .node a b) (hz : 2 ≤ a) (_hz' : 2 ≤ b) (hn : a ≠ neg b) (hab : a < b) (hf : findAnd G.nodes a b = none) (hfull : G.nodes.length < G.most) :
    Calls Try.prog 79 #[.pointer (some ⟨g, 0, none⟩), .int .i64 a, .int .i64 b] w fun e w' => e = .returned (.tuple #[.int .i64 (2 * G.nodes.length : Nat), .int .i64 0]) ∧ ∃ nb' ncap', Step w g { G with nodes := G.nodes ++ [⟨3, a, b, 1 + max (dep G.nodes a) (dep G.nodes b)⟩] } nb iv mb nb' ncap' w' := by
  have hm := h.ok.most
  have hr := h.ok.room
  have ⟨c0, c1, c2, c3⟩ := h.c
  have hl := h.lt.1
  have hln := h.lt.2.1
  have hlm := h.lt.2.2.1
  have h1 : ((a : Int) == (neg b : Nat)) = false := beqN (by omega)
  have h2 : ((a : Int) == (b : Int)) = false := beqN (by omega)
  have da := h.dep ha
  have db := h.dep hb
  have la := h.ok.wf.dep_le ha
  have lb := h.ok.wf.dep_le hb
  have ok : Ok { G with nodes := G.nodes ++ [⟨3, a, b, 1 + max (dep G.nodes a) (dep G.nodes b)⟩] } := ⟨h.ok.wf.and hi ha hb hf, by simp; omega, hm⟩
  have hlk := h.lookNone (heap_alloc_drew w (.cells #[.int .i64 a, .int .i64 b] 89) mb hlm) hf
  generalize dep G.nodes a = ea at *
  generalize dep G.nodes b = eb at *
  have HF := Lib.hid hf; clear hf
  have OK := Lib.hid ok; clear ok
  clear hn hi
  have H := Lib.hid h; clear h
  go_enter Try.func79, Try.ntmps79
  go_wp2_with (go_at_call 67; refine (Not_any _ _ (by omega)).mono ?_; rintro e w' ⟨rfl, rfl⟩)
  refine Ord.St.door (fun _ => True) [.fl, .fl, .fl, .rd, .rd, .rd, .fl, .fl, .fl, .fl, .fl] [0, 1, 3, 7, 0, 31, 63, 127, 127, 255, 1023] [0, 1, 2, 3, 4, 5, 6, 7, 8, 9, 10] mixed (by kernel_rfl) rfl ?_
  refine Ord.St.fl2 (T' := ?_) 0 [1, 2, 3, 4, 5, 6, 7, 8, 9, 10] _ _ rfl (by kernel_rfl) rfl rfl rfl rfl (fun K w' hk => ?_) ?_
  rotate_left
  · go_step; exact hk
  refine Ord.St.fl2 (T' := ?_) 1 [2, 3, 4, 5, 6, 7, 8, 9, 10] _ _ rfl (by kernel_rfl) rfl rfl rfl rfl (fun K w' hk => ?_) ?_
  rotate_left
  · go_step; exact hk
  refine Ord.St.fl2 (T' := ?_) 2 [3, 4, 5, 6, 7, 8, 9, 10] _ _ rfl (by kernel_rfl) rfl rfl rfl rfl (fun K w' hk => ?_) ?_
  rotate_left
  · go_step; exact hk
  refine Ord.St.rd2 (T' := ?_) 3 [4, 5, 6, 7, 8, 9, 10] _ _ rfl (by kernel_rfl) rfl rfl rfl rfl (fun K hk => ?_) ?_
  rotate_left
  · go_step; exact hk
  refine Ord.St.rd2 (T' := ?_) 4 [5, 6, 7, 8, 9, 10] _ _ rfl (by kernel_rfl) rfl rfl rfl rfl (fun K hk => ?_) ?_
  rotate_left
  · go_step; exact hk
  refine Ord.St.rd2 (T' := ?_) 5 [6, 7, 8, 9, 10] _ _ rfl (by kernel_rfl) rfl rfl rfl rfl (fun K hk => ?_) ?_
  rotate_left
  · go_step; exact hk
  refine Ord.St.fl2 (T' := ?_) 6 [7, 8, 9, 10] _ _ rfl (by kernel_rfl) rfl rfl rfl rfl (fun K w' hk => ?_) ?_
  rotate_left
  · go_step; exact hk
  refine Ord.St.fl2 (T' := ?_) 7 [8, 9, 10] _ _ rfl (by kernel_rfl) rfl rfl rfl rfl (fun K w' hk => ?_) ?_
  rotate_left
  · go_step; exact hk
  refine Ord.St.fl2 (T' := ?_) 8 [9, 10] _ _ rfl (by kernel_rfl) rfl rfl rfl rfl (fun K w' hk => ?_) ?_
  rotate_left
  · go_step; exact hk
  refine Ord.St.fl2 (T' := ?_) 9 [10] _ _ rfl (by kernel_rfl) rfl rfl rfl rfl (fun K w' hk => ?_) ?_
  rotate_left
  · go_step; exact hk
  refine Ord.St.fl2 (T' := ?_) 10 [] _ _ rfl (by kernel_rfl) rfl rfl rfl rfl (fun K w' hk => ?_) ?_
  rotate_left
  · go_step; exact hk
  refine Ord.St.nil ?_
  go_wp2
  have hmx : ((ea : Int) < (eb : Int) ∧ max ea eb = eb) ∨ (¬ ((ea : Int) < (eb : Int)) ∧ max ea eb = ea) := by omega
  rcases hmx with ⟨hd, hmx⟩ | ⟨hd, hmx⟩
  all_goals
    have HX := Lib.hid hmx
    clear hmx
    refine Ord.St.door (fun _ => True) [.fl, .rd, .fl, .fl, .fl, .rd, .fl, .fl, .fl, .fl, .rd, .fl, .fl, .fl, .rd, .fl, .fl, .fl, .fl, .rd, .fl, .fl, .fl, .ef, .fl, .fl, .fl, .fl, .fl] [0, 0, 0, 4, 12, 28, 0, 64, 252, 508, 1020, 0, 2048, 6144, 14336, 0, 32768, 129024, 260096, 522240, 1048572, 2097148, 4194302, 8388607, 16777215, 33554431, 33554431, 67108863, 268435455] [0, 1, 2, 3, 4, 5, 6, 7, 8, 9, 10, 11, 12, 13, 14, 15, 16, 17, 18, 19, 20, 21, 22, 23, 24, 25, 26, 27, 28] mixed (by kernel_rfl) rfl ?_
    refine Ord.St.fl2 (T' := ?_) 0 [1, 2, 3, 4, 5, 6, 7, 8, 9, 10, 11, 12, 13, 14, 15, 16, 17, 18, 19, 20, 21, 22, 23, 24, 25, 26, 27, 28] _ _ rfl (by kernel_rfl) rfl rfl rfl rfl (fun K w' hk => ?_) ?_
    rotate_left
    · go_step; exact hk
    refine Ord.St.rd2 (T' := ?_) 1 [2, 3, 4, 5, 6, 7, 8, 9, 10, 11, 12, 13, 14, 15, 16, 17, 18, 19, 20, 21, 22, 23, 24, 25, 26, 27, 28] _ _ rfl (by kernel_rfl) rfl rfl rfl rfl (fun K hk => ?_) ?_
    rotate_left
    · go_step; exact hk
    refine Ord.St.fl2 (T' := ?_) 2 [3, 4, 5, 6, 7, 8, 9, 10, 11, 12, 13, 14, 15, 16, 17, 18, 19, 20, 21, 22, 23, 24, 25, 26, 27, 28] _ _ rfl (by kernel_rfl) rfl rfl rfl rfl (fun K w' hk => ?_) ?_
    rotate_left
    · go_step; exact hk
    refine Ord.St.fl2 (T' := ?_) 3 [4, 5, 6, 7, 8, 9, 10, 11, 12, 13, 14, 15, 16, 17, 18, 19, 20, 21, 22, 23, 24, 25, 26, 27, 28] _ _ rfl (by kernel_rfl) rfl rfl rfl rfl (fun K w' hk => ?_) ?_
    rotate_left
    · go_step; exact hk
    refine Ord.St.fl2 (T' := ?_) 4 [5, 6, 7, 8, 9, 10, 11, 12, 13, 14, 15, 16, 17, 18, 19, 20, 21, 22, 23, 24, 25, 26, 27, 28] _ _ rfl (by kernel_rfl) rfl rfl rfl rfl (fun K w' hk => ?_) ?_
    rotate_left
    · go_step; exact hk
    refine Ord.St.rd2 (T' := ?_) 5 [6, 7, 8, 9, 10, 11, 12, 13, 14, 15, 16, 17, 18, 19, 20, 21, 22, 23, 24, 25, 26, 27, 28] _ _ rfl (by kernel_rfl) rfl rfl rfl rfl (fun K hk => ?_) ?_
    rotate_left
    · go_step; exact hk
    refine Ord.St.fl2 (T' := ?_) 6 [7, 8, 9, 10, 11, 12, 13, 14, 15, 16, 17, 18, 19, 20, 21, 22, 23, 24, 25, 26, 27, 28] _ _ rfl (by kernel_rfl) rfl rfl rfl rfl (fun K w' hk => ?_) ?_
    rotate_left
    · go_step; exact hk
    refine Ord.St.fl2 (T' := ?_) 7 [8, 9, 10, 11, 12, 13, 14, 15, 16, 17, 18, 19, 20, 21, 22, 23, 24, 25, 26, 27, 28] _ _ rfl (by kernel_rfl) rfl rfl rfl rfl (fun K w' hk => ?_) ?_
    rotate_left
    · go_step; exact hk
    refine Ord.St.fl2 (T' := ?_) 8 [9, 10, 11, 12, 13, 14, 15, 16, 17, 18, 19, 20, 21, 22, 23, 24, 25, 26, 27, 28] _ _ rfl (by kernel_rfl) rfl rfl rfl rfl (fun K w' hk => ?_) ?_
    rotate_left
    · go_step; exact hk
    refine Ord.St.fl2 (T' := ?_) 9 [10, 11, 12, 13, 14, 15, 16, 17, 18, 19, 20, 21, 22, 23, 24, 25, 26, 27, 28] _ _ rfl (by kernel_rfl) rfl rfl rfl rfl (fun K w' hk => ?_) ?_
    rotate_left
    · go_step; exact hk
    refine Ord.St.rd2 (T' := ?_) 10 [11, 12, 13, 14, 15, 16, 17, 18, 19, 20, 21, 22, 23, 24, 25, 26, 27, 28] _ _ rfl (by kernel_rfl) rfl rfl rfl rfl (fun K hk => ?_) ?_
    rotate_left
    · go_step; exact hk
    refine Ord.St.fl2 (T' := ?_) 11 [12, 13, 14, 15, 16, 17, 18, 19, 20, 21, 22, 23, 24, 25, 26, 27, 28] _ _ rfl (by kernel_rfl) rfl rfl rfl rfl (fun K w' hk => ?_) ?_
    rotate_left
    · go_step; exact hk
    refine Ord.St.fl2 (T' := ?_) 12 [13, 14, 15, 16, 17, 18, 19, 20, 21, 22, 23, 24, 25, 26, 27, 28] _ _ rfl (by kernel_rfl) rfl rfl rfl rfl (fun K w' hk => ?_) ?_
    rotate_left
    · go_step; exact hk
    refine Ord.St.fl2 (T' := ?_) 13 [14, 15, 16, 17, 18, 19, 20, 21, 22, 23, 24, 25, 26, 27, 28] _ _ rfl (by kernel_rfl) rfl rfl rfl rfl (fun K w' hk => ?_) ?_
    rotate_left
    · go_step; exact hk
    refine Ord.St.rd2 (T' := ?_) 14 [15, 16, 17, 18, 19, 20, 21, 22, 23, 24, 25, 26, 27, 28] _ _ rfl (by kernel_rfl) rfl rfl rfl rfl (fun K hk => ?_) ?_
    rotate_left
    · go_step; exact hk
    refine Ord.St.fl2 (T' := ?_) 15 [16, 17, 18, 19, 20, 21, 22, 23, 24, 25, 26, 27, 28] _ _ rfl (by kernel_rfl) rfl rfl rfl rfl (fun K w' hk => ?_) ?_
    rotate_left
    · go_step; exact hk
    refine Ord.St.fl2 (T' := ?_) 16 [17, 18, 19, 20, 21, 22, 23, 24, 25, 26, 27, 28] _ _ rfl (by kernel_rfl) rfl rfl rfl rfl (fun K w' hk => ?_) ?_
    rotate_left
    · go_step; exact hk
    refine Ord.St.fl2 (T' := ?_) 17 [18, 19, 20, 21, 22, 23, 24, 25, 26, 27, 28] _ _ rfl (by kernel_rfl) rfl rfl rfl rfl (fun K w' hk => ?_) ?_
    rotate_left
    · go_step; exact hk
    refine Ord.St.fl2 (T' := ?_) 18 [19, 20, 21, 22, 23, 24, 25, 26, 27, 28] _ _ rfl (by kernel_rfl) rfl rfl rfl rfl (fun K w' hk => ?_) ?_
    rotate_left
    · go_step; exact hk
    refine Ord.St.rd2 (T' := ?_) 19 [20, 21, 22, 23, 24, 25, 26, 27, 28] _ _ rfl (by kernel_rfl) rfl rfl rfl rfl (fun K hk => ?_) ?_
    rotate_left
    · go_step; exact hk
    refine Ord.St.fl2 (T' := ?_) 20 [21, 22, 23, 24, 25, 26, 27, 28] _ _ rfl (by kernel_rfl) rfl rfl rfl rfl (fun K w' hk => ?_) ?_
    rotate_left
    · go_step; exact hk
    refine Ord.St.fl2 (T' := ?_) 21 [22, 23, 24, 25, 26, 27, 28] _ _ rfl (by kernel_rfl) rfl rfl rfl rfl (fun K w' hk => ?_) ?_
    rotate_left
    · go_step; exact hk
    refine Ord.St.fl2 (T' := ?_) 22 [23, 24, 25, 26, 27, 28] _ _ rfl (by kernel_rfl) rfl rfl rfl rfl (fun K w' hk => ?_) ?_
    rotate_left
    · go_step; exact hk
    refine Ord.St.ef 23 [24, 25, 26, 27, 28] _ rfl (by kernel_rfl) (fun K hK => ?_)
    go_wp2_with fail
    have hC0 := (((Ch.refl [] w).alloc (.cells #[.int .i64 a, .int .i64 b] 89)).drew).drew
    have HG := H.out.ch hC0 (by simp)
    refine (put_yes_of HG _ _ _ _ ⟨3, a, b, 1 + max ea eb⟩ rfl rfl rfl (by have := HX.out; dsimp only; omega) hfull).mono ?_
    rintro e w1 ⟨rfl, nb', ncap', hp⟩
    have HP := Lib.hid hp
    have hz1 := hp.ch.size
    have b0 : w1.cell? ⟨w.heap.size, 0, none⟩ = some (.int .i64 a) := (hp.ch.cell (by simp) (by simp; omega)).trans (by go_simp)
    have b1 : w1.cell? ⟨w.heap.size, 1, none⟩ = some (.int .i64 b) := (hp.ch.cell (by simp) (by simp; omega)).trans (by go_simp)
    have s2 : w1.cell? ⟨g, 2, none⟩ = some (.map (some mb)) := hp.st.cell rfl
    simp at hz1
    clear hp
    go_wp2_with fail
    refine ⟨rfl, hK _ _ ?_⟩; clear hK K
    refine Ord.St.fl2 (T' := ?_) 24 [25, 26, 27, 28] _ _ rfl (by kernel_rfl) rfl rfl rfl rfl (fun K w' hk => ?_) ?_
    rotate_left
    · go_step; exact hk
    refine Ord.St.fl2 (T' := ?_) 25 [26, 27, 28] _ _ rfl (by kernel_rfl) rfl rfl rfl rfl (fun K w' hk => ?_) ?_
    rotate_left
    · go_step; exact hk
    refine Ord.St.fl2 (T' := ?_) 26 [27, 28] _ _ rfl (by kernel_rfl) rfl rfl rfl rfl (fun K w' hk => ?_) ?_
    rotate_left
    · go_step; exact hk
    refine Ord.St.fl2 (T' := ?_) 27 [28] _ _ rfl (by kernel_rfl) rfl rfl rfl rfl (fun K w' hk => ?_) ?_
    rotate_left
    · go_step; exact hk
    refine Ord.St.fl2 (T' := ?_) 28 [] _ _ rfl (by kernel_rfl) rfl rfl rfl rfl (fun K w' hk => ?_) ?_
    rotate_left
    · go_step; exact hk
    refine Ord.St.nil ?_
    go_wp2
    obtain ⟨es, clock, hmap, hmo⟩ := HG.mp
    have hm1 : w1.drew.heap[mb]? = some (.map es clock) := (HP.out.ch.block mb (by simp; omega) (by simp [H.out.mn, H.out.gm.symm])).trans hmap
    obtain ⟨w2, hup, hm2, hc2⟩ := push_is ⟨es, clock, hm1, hmo⟩ a b (1 + max ea eb) HF.out
    refine Ord.St.door (fun _ => True) [.fl, .fl, .fl, .rd, .rd, .fl, .fl, .ef] [0, 1, 3, 7, 0, 0, 32, 127] [0, 1, 2, 3, 4, 5, 6, 7] mixed (by kernel_rfl) rfl ?_
    refine Ord.St.fl2 (T' := ?_) 0 [1, 2, 3, 4, 5, 6, 7] _ _ rfl (by kernel_rfl) rfl rfl rfl rfl (fun K w' hk => ?_) ?_
    rotate_left
    · go_step; exact hk
    refine Ord.St.fl2 (T' := ?_) 1 [2, 3, 4, 5, 6, 7] _ _ rfl (by kernel_rfl) rfl rfl rfl rfl (fun K w' hk => ?_) ?_
    rotate_left
    · go_step; exact hk
    refine Ord.St.fl2 (T' := ?_) 2 [3, 4, 5, 6, 7] _ _ rfl (by kernel_rfl) rfl rfl rfl rfl (fun K w' hk => ?_) ?_
    rotate_left
    · go_step; exact hk
    refine Ord.St.rd2 (T' := ?_) 3 [4, 5, 6, 7] _ _ rfl (by kernel_rfl) rfl rfl rfl rfl (fun K hk => ?_) ?_
    rotate_left
    · go_step; exact hk
    refine Ord.St.rd2 (T' := ?_) 4 [5, 6, 7] _ _ rfl (by kernel_rfl) rfl rfl rfl rfl (fun K hk => ?_) ?_
    rotate_left
    · go_step; exact hk
    refine Ord.St.fl2 (T' := ?_) 5 [6, 7] _ _ rfl (by kernel_rfl) rfl rfl rfl rfl (fun K w' hk => ?_) ?_
    rotate_left
    · go_step; exact hk
    refine Ord.St.fl2 (T' := ?_) 6 [7] _ _ rfl (by kernel_rfl) rfl rfl rfl rfl (fun K w' hk => ?_) ?_
    rotate_left
    · go_step; exact hk
    refine Ord.St.ef 7 [] _ rfl (by kernel_rfl) (fun K hK => ?_)
    go_wp2_with fail
    refine ⟨rfl, hK _ _ ?_⟩; clear hK K
    refine Ord.St.nil ?_
    go_wp2
    go_ret2
    refine ⟨ret_ii (by omega) rfl, nb', ncap', ?_, ?_, ?_⟩
    · exact HG.more HP.out (((Ch.refl [mb] w1).drew).trans hc2 (by simp)) hm2 OK.out
    · rcases HP.out.fresh with e | e
      · exact .inl e
      · simp at e; exact .inr (by omega)
    · exact ((hC0.mono (F' := [g, nb, mb]) (by simp)).trans HP.out.ch.drew (by simp)).trans hc2 (by simp)

set_option maxRecDepth 100000 in
set_option maxHeartbeats 2000000 in
theorem and_new2 (h : GM w g G nb ncap iv mb) {a b : Nat} (ha : a < 2 * G.nodes.length) (hb : b < 2 * G.nodes.length) (hi : andIs a b = .node b a) (hz : 2 ≤ a) (hz' : 2 ≤ b) (hn : a ≠ neg b) (hab : b < a) (hf : findAnd G.nodes b a = none) (hfull : G.nodes.length < G.most) :
    Calls Try.prog 79 #[.pointer (some ⟨g, 0, none⟩), .int .i64 a, .int .i64 b] w fun e w' => e = .returned (.tuple #[.int .i64 (2 * G.nodes.length : Nat), .int .i64 0]) ∧ ∃ nb' ncap', Step w g { G with nodes := G.nodes ++ [⟨3, b, a, 1 + max (dep G.nodes a) (dep G.nodes b)⟩] } nb iv mb nb' ncap' w' := by
  have hm := h.ok.most
  have hr := h.ok.room
  have ⟨c0, c1, c2, c3⟩ := h.c
  have hl := h.lt.1
  have hln := h.lt.2.1
  have hlm := h.lt.2.2.1
  have h1 : ((a : Int) == (neg b : Nat)) = false := beqN (by omega)
  have h2 : ((a : Int) == (b : Int)) = false := beqN (by omega)
  have da := h.dep ha
  have db := h.dep hb
  have la := h.ok.wf.dep_le ha
  have lb := h.ok.wf.dep_le hb
  have ok : Ok { G with nodes := G.nodes ++ [⟨3, b, a, 1 + max (dep G.nodes a) (dep G.nodes b)⟩] } := ⟨h.ok.wf.and hi ha hb hf, by simp; omega, hm⟩
  have hlk := h.lookNone (heap_alloc_drew w (.cells #[.int .i64 b, .int .i64 a] 89) mb hlm) hf
  generalize dep G.nodes a = ea at *
  generalize dep G.nodes b = eb at *
  have HF := Lib.hid hf; clear hf
  have OK := Lib.hid ok; clear ok
  clear hn hi
  have H := Lib.hid h; clear h
  go_enter Try.func79, Try.ntmps79
  go_wp2_with (go_at_call 67; refine (Not_any _ _ (by omega)).mono ?_; rintro e w' ⟨rfl, rfl⟩)
  refine Ord.St.door (fun _ => True) [.fl, .fl, .fl, .rd, .rd, .rd, .fl, .fl, .fl, .fl, .fl] [0, 1, 3, 7, 0, 31, 63, 127, 127, 255, 1023] [0, 1, 2, 3, 4, 5, 6, 7, 8, 9, 10] mixed (by kernel_rfl) rfl ?_
  refine Ord.St.fl2 (T' := ?_) 0 [1, 2, 3, 4, 5, 6, 7, 8, 9, 10] _ _ rfl (by kernel_rfl) rfl rfl rfl rfl (fun K w' hk => ?_) ?_
  rotate_left
  · go_step; exact hk
  refine Ord.St.fl2 (T' := ?_) 1 [2, 3, 4, 5, 6, 7, 8, 9, 10] _ _ rfl (by kernel_rfl) rfl rfl rfl rfl (fun K w' hk => ?_) ?_
  rotate_left
  · go_step; exact hk
  refine Ord.St.fl2 (T' := ?_) 2 [3, 4, 5, 6, 7, 8, 9, 10] _ _ rfl (by kernel_rfl) rfl rfl rfl rfl (fun K w' hk => ?_) ?_
  rotate_left
  · go_step; exact hk
  refine Ord.St.rd2 (T' := ?_) 3 [4, 5, 6, 7, 8, 9, 10] _ _ rfl (by kernel_rfl) rfl rfl rfl rfl (fun K hk => ?_) ?_
  rotate_left
  · go_step; exact hk
  refine Ord.St.rd2 (T' := ?_) 4 [5, 6, 7, 8, 9, 10] _ _ rfl (by kernel_rfl) rfl rfl rfl rfl (fun K hk => ?_) ?_
  rotate_left
  · go_step; exact hk
  refine Ord.St.rd2 (T' := ?_) 5 [6, 7, 8, 9, 10] _ _ rfl (by kernel_rfl) rfl rfl rfl rfl (fun K hk => ?_) ?_
  rotate_left
  · go_step; exact hk
  refine Ord.St.fl2 (T' := ?_) 6 [7, 8, 9, 10] _ _ rfl (by kernel_rfl) rfl rfl rfl rfl (fun K w' hk => ?_) ?_
  rotate_left
  · go_step; exact hk
  refine Ord.St.fl2 (T' := ?_) 7 [8, 9, 10] _ _ rfl (by kernel_rfl) rfl rfl rfl rfl (fun K w' hk => ?_) ?_
  rotate_left
  · go_step; exact hk
  refine Ord.St.fl2 (T' := ?_) 8 [9, 10] _ _ rfl (by kernel_rfl) rfl rfl rfl rfl (fun K w' hk => ?_) ?_
  rotate_left
  · go_step; exact hk
  refine Ord.St.fl2 (T' := ?_) 9 [10] _ _ rfl (by kernel_rfl) rfl rfl rfl rfl (fun K w' hk => ?_) ?_
  rotate_left
  · go_step; exact hk
  refine Ord.St.fl2 (T' := ?_) 10 [] _ _ rfl (by kernel_rfl) rfl rfl rfl rfl (fun K w' hk => ?_) ?_
  rotate_left
  · go_step; exact hk
  refine Ord.St.nil ?_
  go_wp2
  have hmx : ((ea : Int) < (eb : Int) ∧ max ea eb = eb) ∨ (¬ ((ea : Int) < (eb : Int)) ∧ max ea eb = ea) := by omega
  rcases hmx with ⟨hd, hmx⟩ | ⟨hd, hmx⟩
  all_goals
    have HX := Lib.hid hmx
    clear hmx
    refine Ord.St.door (fun _ => True) [.fl, .rd, .fl, .fl, .fl, .rd, .fl, .fl, .fl, .fl, .rd, .fl, .fl, .fl, .rd, .fl, .fl, .fl, .fl, .rd, .fl, .fl, .fl, .ef, .fl, .fl, .fl, .fl, .fl] [0, 0, 0, 4, 12, 28, 0, 64, 252, 508, 1020, 0, 2048, 6144, 14336, 0, 32768, 129024, 260096, 522240, 1048572, 2097148, 4194302, 8388607, 16777215, 33554431, 33554431, 67108863, 268435455] [0, 1, 2, 3, 4, 5, 6, 7, 8, 9, 10, 11, 12, 13, 14, 15, 16, 17, 18, 19, 20, 21, 22, 23, 24, 25, 26, 27, 28] mixed (by kernel_rfl) rfl ?_
    refine Ord.St.fl2 (T' := ?_) 0 [1, 2, 3, 4, 5, 6, 7, 8, 9, 10, 11, 12, 13, 14, 15, 16, 17, 18, 19, 20, 21, 22, 23, 24, 25, 26, 27, 28] _ _ rfl (by kernel_rfl) rfl rfl rfl rfl (fun K w' hk => ?_) ?_
    rotate_left
    · go_step; exact hk
    refine Ord.St.rd2 (T' := ?_) 1 [2, 3, 4, 5, 6, 7, 8, 9, 10, 11, 12, 13, 14, 15, 16, 17, 18, 19, 20, 21, 22, 23, 24, 25, 26, 27, 28] _ _ rfl (by kernel_rfl) rfl rfl rfl rfl (fun K hk => ?_) ?_
    rotate_left
    · go_step; exact hk
    refine Ord.St.fl2 (T' := ?_) 2 [3, 4, 5, 6, 7, 8, 9, 10, 11, 12, 13, 14, 15, 16, 17, 18, 19, 20, 21, 22, 23, 24, 25, 26, 27, 28] _ _ rfl (by kernel_rfl) rfl rfl rfl rfl (fun K w' hk => ?_) ?_
    rotate_left
    · go_step; exact hk
    refine Ord.St.fl2 (T' := ?_) 3 [4, 5, 6, 7, 8, 9, 10, 11, 12, 13, 14, 15, 16, 17, 18, 19, 20, 21, 22, 23, 24, 25, 26, 27, 28] _ _ rfl (by kernel_rfl) rfl rfl rfl rfl (fun K w' hk => ?_) ?_
    rotate_left
    · go_step; exact hk
    refine Ord.St.fl2 (T' := ?_) 4 [5, 6, 7, 8, 9, 10, 11, 12, 13, 14, 15, 16, 17, 18, 19, 20, 21, 22, 23, 24, 25, 26, 27, 28] _ _ rfl (by kernel_rfl) rfl rfl rfl rfl (fun K w' hk => ?_) ?_
    rotate_left
    · go_step; exact hk
    refine Ord.St.rd2 (T' := ?_) 5 [6, 7, 8, 9, 10, 11, 12, 13, 14, 15, 16, 17, 18, 19, 20, 21, 22, 23, 24, 25, 26, 27, 28] _ _ rfl (by kernel_rfl) rfl rfl rfl rfl (fun K hk => ?_) ?_
    rotate_left
    · go_step; exact hk
    refine Ord.St.fl2 (T' := ?_) 6 [7, 8, 9, 10, 11, 12, 13, 14, 15, 16, 17, 18, 19, 20, 21, 22, 23, 24, 25, 26, 27, 28] _ _ rfl (by kernel_rfl) rfl rfl rfl rfl (fun K w' hk => ?_) ?_
    rotate_left
    · go_step; exact hk
    refine Ord.St.fl2 (T' := ?_) 7 [8, 9, 10, 11, 12, 13, 14, 15, 16, 17, 18, 19, 20, 21, 22, 23, 24, 25, 26, 27, 28] _ _ rfl (by kernel_rfl) rfl rfl rfl rfl (fun K w' hk => ?_) ?_
    rotate_left
    · go_step; exact hk
    refine Ord.St.fl2 (T' := ?_) 8 [9, 10, 11, 12, 13, 14, 15, 16, 17, 18, 19, 20, 21, 22, 23, 24, 25, 26, 27, 28] _ _ rfl (by kernel_rfl) rfl rfl rfl rfl (fun K w' hk => ?_) ?_
    rotate_left
    · go_step; exact hk
    refine Ord.St.fl2 (T' := ?_) 9 [10, 11, 12, 13, 14, 15, 16, 17, 18, 19, 20, 21, 22, 23, 24, 25, 26, 27, 28] _ _ rfl (by kernel_rfl) rfl rfl rfl rfl (fun K w' hk => ?_) ?_
    rotate_left
    · go_step; exact hk
    refine Ord.St.rd2 (T' := ?_) 10 [11, 12, 13, 14, 15, 16, 17, 18, 19, 20, 21, 22, 23, 24, 25, 26, 27, 28] _ _ rfl (by kernel_rfl) rfl rfl rfl rfl (fun K hk => ?_) ?_
    rotate_left
    · go_step; exact hk
    refine Ord.St.fl2 (T' := ?_) 11 [12, 13, 14, 15, 16, 17, 18, 19, 20, 21, 22, 23, 24, 25, 26, 27, 28] _ _ rfl (by kernel_rfl) rfl rfl rfl rfl (fun K w' hk => ?_) ?_
    rotate_left
    · go_step; exact hk
    refine Ord.St.fl2 (T' := ?_) 12 [13, 14, 15, 16, 17, 18, 19, 20, 21, 22, 23, 24, 25, 26, 27, 28] _ _ rfl (by kernel_rfl) rfl rfl rfl rfl (fun K w' hk => ?_) ?_
    rotate_left
    · go_step; exact hk
    refine Ord.St.fl2 (T' := ?_) 13 [14, 15, 16, 17, 18, 19, 20, 21, 22, 23, 24, 25, 26, 27, 28] _ _ rfl (by kernel_rfl) rfl rfl rfl rfl (fun K w' hk => ?_) ?_
    rotate_left
    · go_step; exact hk
    refine Ord.St.rd2 (T' := ?_) 14 [15, 16, 17, 18, 19, 20, 21, 22, 23, 24, 25, 26, 27, 28] _ _ rfl (by kernel_rfl) rfl rfl rfl rfl (fun K hk => ?_) ?_
    rotate_left
    · go_step; exact hk
    refine Ord.St.fl2 (T' := ?_) 15 [16, 17, 18, 19, 20, 21, 22, 23, 24, 25, 26, 27, 28] _ _ rfl (by kernel_rfl) rfl rfl rfl rfl (fun K w' hk => ?_) ?_
    rotate_left
    · go_step; exact hk
    refine Ord.St.fl2 (T' := ?_) 16 [17, 18, 19, 20, 21, 22, 23, 24, 25, 26, 27, 28] _ _ rfl (by kernel_rfl) rfl rfl rfl rfl (fun K w' hk => ?_) ?_
    rotate_left
    · go_step; exact hk
    refine Ord.St.fl2 (T' := ?_) 17 [18, 19, 20, 21, 22, 23, 24, 25, 26, 27, 28] _ _ rfl (by kernel_rfl) rfl rfl rfl rfl (fun K w' hk => ?_) ?_
    rotate_left
    · go_step; exact hk
    refine Ord.St.fl2 (T' := ?_) 18 [19, 20, 21, 22, 23, 24, 25, 26, 27, 28] _ _ rfl (by kernel_rfl) rfl rfl rfl rfl (fun K w' hk => ?_) ?_
    rotate_left
    · go_step; exact hk
    refine Ord.St.rd2 (T' := ?_) 19 [20, 21, 22, 23, 24, 25, 26, 27, 28] _ _ rfl (by kernel_rfl) rfl rfl rfl rfl (fun K hk => ?_) ?_
    rotate_left
    · go_step; exact hk
    refine Ord.St.fl2 (T' := ?_) 20 [21, 22, 23, 24, 25, 26, 27, 28] _ _ rfl (by kernel_rfl) rfl rfl rfl rfl (fun K w' hk => ?_) ?_
    rotate_left
    · go_step; exact hk
    refine Ord.St.fl2 (T' := ?_) 21 [22, 23, 24, 25, 26, 27, 28] _ _ rfl (by kernel_rfl) rfl rfl rfl rfl (fun K w' hk => ?_) ?_
    rotate_left
    · go_step; exact hk
    refine Ord.St.fl2 (T' := ?_) 22 [23, 24, 25, 26, 27, 28] _ _ rfl (by kernel_rfl) rfl rfl rfl rfl (fun K w' hk => ?_) ?_
    rotate_left
    · go_step; exact hk
    refine Ord.St.ef 23 [24, 25, 26, 27, 28] _ rfl (by kernel_rfl) (fun K hK => ?_)
    go_wp2_with fail
    have hC0 := (((Ch.refl [] w).alloc (.cells #[.int .i64 b, .int .i64 a] 89)).drew).drew
    have HG := H.out.ch hC0 (by simp)
    refine (put_yes_of HG _ _ _ _ ⟨3, b, a, 1 + max ea eb⟩ rfl rfl rfl (by have := HX.out; dsimp only; omega) hfull).mono ?_
    rintro e w1 ⟨rfl, nb', ncap', hp⟩
    have HP := Lib.hid hp
    have hz1 := hp.ch.size
    have b0 : w1.cell? ⟨w.heap.size, 0, none⟩ = some (.int .i64 b) := (hp.ch.cell (by simp) (by simp; omega)).trans (by go_simp)
    have b1 : w1.cell? ⟨w.heap.size, 1, none⟩ = some (.int .i64 a) := (hp.ch.cell (by simp) (by simp; omega)).trans (by go_simp)
    have s2 : w1.cell? ⟨g, 2, none⟩ = some (.map (some mb)) := hp.st.cell rfl
    simp at hz1
    clear hp
    go_wp2_with fail
    refine ⟨rfl, hK _ _ ?_⟩; clear hK K
    refine Ord.St.fl2 (T' := ?_) 24 [25, 26, 27, 28] _ _ rfl (by kernel_rfl) rfl rfl rfl rfl (fun K w' hk => ?_) ?_
    rotate_left
    · go_step; exact hk
    refine Ord.St.fl2 (T' := ?_) 25 [26, 27, 28] _ _ rfl (by kernel_rfl) rfl rfl rfl rfl (fun K w' hk => ?_) ?_
    rotate_left
    · go_step; exact hk
    refine Ord.St.fl2 (T' := ?_) 26 [27, 28] _ _ rfl (by kernel_rfl) rfl rfl rfl rfl (fun K w' hk => ?_) ?_
    rotate_left
    · go_step; exact hk
    refine Ord.St.fl2 (T' := ?_) 27 [28] _ _ rfl (by kernel_rfl) rfl rfl rfl rfl (fun K w' hk => ?_) ?_
    rotate_left
    · go_step; exact hk
    refine Ord.St.fl2 (T' := ?_) 28 [] _ _ rfl (by kernel_rfl) rfl rfl rfl rfl (fun K w' hk => ?_) ?_
    rotate_left
    · go_step; exact hk
    refine Ord.St.nil ?_
    go_wp2
    obtain ⟨es, clock, hmap, hmo⟩ := HG.mp
    have hm1 : w1.drew.heap[mb]? = some (.map es clock) := (HP.out.ch.block mb (by simp; omega) (by simp [H.out.mn, H.out.gm.symm])).trans hmap
    obtain ⟨w2, hup, hm2, hc2⟩ := push_is ⟨es, clock, hm1, hmo⟩ b a (1 + max ea eb) HF.out
    refine Ord.St.door (fun _ => True) [.fl, .fl, .fl, .rd, .rd, .fl, .fl, .ef] [0, 1, 3, 7, 0, 0, 32, 127] [0, 1, 2, 3, 4, 5, 6, 7] mixed (by kernel_rfl) rfl ?_
    refine Ord.St.fl2 (T' := ?_) 0 [1, 2, 3, 4, 5, 6, 7] _ _ rfl (by kernel_rfl) rfl rfl rfl rfl (fun K w' hk => ?_) ?_
    rotate_left
    · go_step; exact hk
    refine Ord.St.fl2 (T' := ?_) 1 [2, 3, 4, 5, 6, 7] _ _ rfl (by kernel_rfl) rfl rfl rfl rfl (fun K w' hk => ?_) ?_
    rotate_left
    · go_step; exact hk
    refine Ord.St.fl2 (T' := ?_) 2 [3, 4, 5, 6, 7] _ _ rfl (by kernel_rfl) rfl rfl rfl rfl (fun K w' hk => ?_) ?_
    rotate_left
    · go_step; exact hk
    refine Ord.St.rd2 (T' := ?_) 3 [4, 5, 6, 7] _ _ rfl (by kernel_rfl) rfl rfl rfl rfl (fun K hk => ?_) ?_
    rotate_left
    · go_step; exact hk
    refine Ord.St.rd2 (T' := ?_) 4 [5, 6, 7] _ _ rfl (by kernel_rfl) rfl rfl rfl rfl (fun K hk => ?_) ?_
    rotate_left
    · go_step; exact hk
    refine Ord.St.fl2 (T' := ?_) 5 [6, 7] _ _ rfl (by kernel_rfl) rfl rfl rfl rfl (fun K w' hk => ?_) ?_
    rotate_left
    · go_step; exact hk
    refine Ord.St.fl2 (T' := ?_) 6 [7] _ _ rfl (by kernel_rfl) rfl rfl rfl rfl (fun K w' hk => ?_) ?_
    rotate_left
    · go_step; exact hk
    refine Ord.St.ef 7 [] _ rfl (by kernel_rfl) (fun K hK => ?_)
    go_wp2_with fail
    refine ⟨rfl, hK _ _ ?_⟩; clear hK K
    refine Ord.St.nil ?_
    go_wp2
    go_ret2
    refine ⟨ret_ii (by omega) rfl, nb', ncap', ?_, ?_, ?_⟩
    · exact HG.more HP.out (((Ch.refl [mb] w1).drew).trans hc2 (by simp)) hm2 OK.out
    · rcases HP.out.fresh with e | e
      · exact .inl e
      · simp at e; exact .inr (by omega)
    · exact ((hC0.mono (F' := [g, nb, mb]) (by simp)).trans HP.out.ch.drew (by simp)).trans hc2 (by simp)
end
end Go.Proofs.Ytndcgfnlgcincaa
namespace Go.Proofs.Ytndcgfnlgcincaa
open Go.RowKit Go.Mem Go.Aig
section
variable {w : World} {g : Nat} {G : Gra} {nb ncap : Nat} {iv : Value} {mb : Nat}
theorem Step.same {w' : World} (h : GM w g G nb ncap iv mb) (hc : Ch [] w w') : ∃ nb' ncap', Step w g G nb iv mb nb' ncap' w' :=
  ⟨nb, ncap, h.ch hc (by simp), .inl rfl, hc.mono (by simp)⟩

theorem and_is (h : GM w g G nb ncap iv mb) {a b : Nat} (ha : a < 2 * G.nodes.length) (hb : b < 2 * G.nodes.length) :
    Calls Try.prog 79 #[.pointer (some ⟨g, 0, none⟩), .int .i64 a, .int .i64 b] w fun e w' => e = .returned (.tuple #[.int .i64 (Aig.and G a b).2.1, .int .i64 (Aig.and G a b).2.2]) ∧ ∃ nb' ncap', Step w g (Aig.and G a b).1 nb iv mb nb' ncap' w' := by
  by_cases hz : min a b = 0 ∨ a = neg b
  · have hA : Aig.and G a b = (G, 0, 0) := by unfold Aig.and andIs; rw [if_pos hz]
    rw [hA]
    exact (and_zero h ha hb hz).mono fun e w' ⟨he, hc⟩ => ⟨he, Step.same h hc⟩
  · by_cases ho : min a b = 1 ∨ a = b
    · have hA : Aig.and G a b = (G, max a b, 0) := by unfold Aig.and andIs; rw [if_neg hz, if_pos ho]
      rw [hA]
      simp only [not_or] at hz
      exact (and_one h ha hb (by omega) (by omega) hz.2 ho).mono fun e w' ⟨he, hc⟩ => ⟨he, Step.same h hc⟩
    · have hi : andIs a b = .node (min a b) (max a b) := by unfold andIs; rw [if_neg hz, if_neg ho]
      simp only [not_or] at hz ho
      cases hf : findAnd G.nodes (min a b) (max a b) with
      | some n =>
        have hA : Aig.and G a b = (G, 2 * n, 0) := by unfold Aig.and; rw [hi]; simp only [hf]
        rw [hA]
        exact (and_found h ha hb (by omega) (by omega) hz.2 ho.2 hf).mono fun e w' ⟨he, hc⟩ => ⟨he, Step.same h hc⟩
      | none =>
        have hA : Aig.and G a b = Aig.put G ⟨3, min a b, max a b, 1 + max (dep G.nodes a) (dep G.nodes b)⟩ := by unfold Aig.and; rw [hi]; simp only [hf]
        rw [hA]
        unfold Aig.put
        by_cases hfull : G.most ≤ G.nodes.length
        · rw [if_pos hfull]
          rcases Nat.lt_or_gt_of_ne ho.2 with hab | hab
          · rw [Nat.min_eq_left (by omega), Nat.max_eq_right (by omega)] at hf
            exact (and_full1 h ha hb (by omega) (by omega) hz.2 hab hf hfull).mono fun e w' ⟨he, hc⟩ => ⟨he, Step.same h hc⟩
          · rw [Nat.min_eq_right (by omega), Nat.max_eq_left (by omega)] at hf
            exact (and_full2 h ha hb (by omega) (by omega) hz.2 hab hf hfull).mono fun e w' ⟨he, hc⟩ => ⟨he, Step.same h hc⟩
        · rw [if_neg hfull]
          rcases Nat.lt_or_gt_of_ne ho.2 with hab | hab
          · rw [Nat.min_eq_left (by omega), Nat.max_eq_right (by omega)] at hf hi ⊢
            exact and_new1 h ha hb hi (by omega) (by omega) hz.2 hab hf (by omega)
          · rw [Nat.min_eq_right (by omega), Nat.max_eq_left (by omega)] at hf hi ⊢
            exact and_new2 h ha hb hi (by omega) (by omega) hz.2 hab hf (by omega)

structure MS (w : World) (g m : Nat) (s : Mk) (nb ncap : Nat) (iv : Value) (mb : Nat) : Prop where
  gm : GM w g s.1 nb ncap iv mb
  bk : blk w m [.pointer (some ⟨g, 0, none⟩), .int .i64 s.2]
  apart : m ∉ fp g nb mb iv
  ok : MOk s
structure MStep (w : World) (g m : Nat) (s' : Mk) (nb : Nat) (iv : Value) (mb : Nat) (nb' ncap' : Nat) (w' : World) : Prop where
  ms : MS w' g m s' nb' ncap' iv mb
  fresh : nb' = nb ∨ w.heap.size ≤ nb'
  ch : Ch [g, nb, mb, m] w w'
theorem MStep.trans {w w1 w2 : World} {m : Nat} {s1 s2 : Mk} {nb1 nc1 nb2 nc2 : Nat} (h1 : MStep w g m s1 nb iv mb nb1 nc1 w1) (h2 : MStep w1 g m s2 nb1 iv mb nb2 nc2 w2) : MStep w g m s2 nb iv mb nb2 nc2 w2 := by
  have hz := h1.ch.size
  refine ⟨h2.ms, ?_, ?_⟩
  · rcases h2.fresh with e | e
    · rw [e]; exact h1.fresh
    · exact .inr (by omega)
  · refine h1.ch.trans h2.ch (fun k hk => ?_)
    simp only [List.mem_cons, List.not_mem_nil, or_false] at hk ⊢
    rcases hk with rfl | rfl | rfl | rfl
    · simp
    · rcases h1.fresh with e | e
      · simp [e]
      · exact .inr e
    · simp
    · simp
theorem fp_fresh {w : World} {m nb' : Nat} (hm : m < w.heap.size) (h : m ∉ fp g nb mb iv) (hf : nb' = nb ∨ w.heap.size ≤ nb') : m ∉ fp g nb' mb iv := by
  simp only [fp, List.mem_cons, not_or] at h ⊢
  refine ⟨h.1, ?_, h.2.2.1, h.2.2.2⟩
  rcases hf with e | e
  · rw [e]; exact h.2.1
  · omega

set_option maxRecDepth 100000 in
set_option maxHeartbeats 1000000 in
theorem mand_err {m : Nat} {s : Mk} (h : MS w g m s nb ncap iv mb) (a b : Nat) (he : s.2 = 201) :
    Calls Try.prog 65 #[.pointer (some ⟨m, 0, none⟩), .int .i64 a, .int .i64 b] w fun e w' => e = .returned (.int .i64 0) ∧ w = w' := by
  have m1 : w.cell? ⟨m, 1, none⟩ = some (.int .i64 201) := by have := h.bk.cell (i := 1) rfl; rw [this, he]; rfl
  have hm := h.bk.lt
  clear h he
  go_enter Try.func65, Try.ntmps65
  go_wp2_with fail
  go_ret
  exact ⟨rfl, rfl⟩

set_option maxRecDepth 100000 in
set_option maxHeartbeats 1000000 in
theorem mand_ok0 {m : Nat} {s : Mk} (h : MS w g m s nb ncap iv mb) {a b : Nat} (ha : a < 2 * s.1.nodes.length) (hb : b < 2 * s.1.nodes.length) (he : s.2 = 0) :
    Calls Try.prog 65 #[.pointer (some ⟨m, 0, none⟩), .int .i64 a, .int .i64 b] w fun e w' => e = .returned (.int .i64 (mand s a b).2) ∧ ∃ nb' ncap', MStep w g m (mand s a b).1 nb iv mb nb' ncap' w' := by
  have hA : mand s a b = (((Aig.and s.1 a b).1, (Aig.and s.1 a b).2.2), (Aig.and s.1 a b).2.1) := by unfold mand; rw [if_neg (by omega)]
  have hO := (mand_ok h.ok ha hb).1
  rw [hA] at hO ⊢
  have m1 : w.cell? ⟨m, 1, none⟩ = some (.int .i64 0) := by have := h.bk.cell (i := 1) rfl; rw [this, he]; rfl
  have m0 : w.cell? ⟨m, 0, none⟩ = some (.pointer (some ⟨g, 0, none⟩)) := h.bk.cell rfl
  have hm := h.bk.lt
  have HA := (and_is h.gm ha hb)
  have H := Lib.hid h; clear h
  generalize Aig.and s.1 a b = R at *
  clear he ha hb
  have HR := Lib.hid hA; clear hA
  go_enter Try.func65, Try.ntmps65
  go_wp2_with fail
  refine HA.mono ?_
  rintro e w1 ⟨rfl, nb', ncap', hs⟩
  have hmn : m ∉ [g, nb, mb] := by have := H.out.apart; simp only [fp, List.mem_cons, not_or, List.not_mem_nil] at this ⊢; exact ⟨this.1, this.2.1, this.2.2.1, by simp⟩
  have k1 := H.out.bk.ch hs.ch hmn
  have m1' : w1.cell? ⟨m, 1, none⟩ = some _ := k1.cell rfl
  have m1f : w1.frozen? ⟨m, 1, none⟩ = false := k1.frozen
  have HS := Lib.hid hs; clear hs
  have hm1 := k1.lt
  have K1 := Lib.hid k1; clear k1
  go_wp2_with fail
  go_ret
  have hgm : GM (w1.setCell ⟨m, 1, none⟩ (.int .i64 R.2.2)) g R.1 nb' ncap' iv mb :=
    HS.out.gm.ch (F := [m]) ((Ch.refl _ _).setCell (by simp) _) (by
      have := fp_fresh hm H.out.apart HS.out.fresh
      intro k hk hkm
      simp only [List.mem_singleton] at hkm
      exact this (hkm ▸ hk))
  refine ⟨rfl, nb', ncap', ⟨hgm, K1.out.set _, fp_fresh hm H.out.apart HS.out.fresh, hO⟩, HS.out.fresh, (HS.out.ch.mono (fun k hk => .inl (by simp only [List.mem_cons, List.not_mem_nil, or_false] at hk ⊢; rcases hk with h | h | h <;> simp [h]))).setCell (by simp) _⟩

theorem mand_is {m : Nat} {s : Mk} (h : MS w g m s nb ncap iv mb) {a b : Nat} (ha : a < 2 * s.1.nodes.length) (hb : b < 2 * s.1.nodes.length) :
    Calls Try.prog 65 #[.pointer (some ⟨m, 0, none⟩), .int .i64 a, .int .i64 b] w fun e w' => e = .returned (.int .i64 (mand s a b).2) ∧ ∃ nb' ncap', MStep w g m (mand s a b).1 nb iv mb nb' ncap' w' := by
  rcases h.ok.err with he | he
  · exact mand_ok0 h ha hb he
  · have hA : mand s a b = (s, 0) := by unfold mand; rw [if_pos (by omega)]
    rw [hA]
    exact (mand_err h a b he).mono fun e w' ⟨h1, h2⟩ => by subst h2; exact ⟨h1, nb, ncap, h, .inl rfl, Ch.refl _ _⟩
end
end Go.Proofs.Ytndcgfnlgcincaa
namespace Go.Proofs.Ytndcgfnlgcincaa
open Go.RowKit Go.Mem Go.Aig
section
variable {w : World} {g : Nat} {nb ncap : Nat} {iv : Value} {mb : Nat}
theorem MS.bd {m : Nat} {s : Mk} (h : MS w g m s nb ncap iv mb) {r : Nat} (hr : r < 2 * s.1.nodes.length) : r ≤ 131072 := by
  have := h.ok.ok.room; have := h.ok.ok.most; omega

set_option maxRecDepth 100000 in
set_option maxHeartbeats 1000000 in
theorem mor_is {m : Nat} {s : Mk} (h : MS w g m s nb ncap iv mb) {a b : Nat} (ha : a < 2 * s.1.nodes.length) (hb : b < 2 * s.1.nodes.length) :
    Calls Try.prog 86 #[.pointer (some ⟨m, 0, none⟩), .int .i64 a, .int .i64 b] w fun e w' => e = .returned (.int .i64 (mor s a b).2) ∧ ∃ nb' ncap', MStep w g m (mor s a b).1 nb iv mb nb' ncap' w' := by
  have ba := h.bd ha
  have bb := h.bd hb
  have HA := mand_is h (neg_lt ha) (neg_lt hb)
  have bn : (mand s (neg a) (neg b)).2 ≤ 1000000 := by
    obtain ⟨h1, h2, h3⟩ := mand_ok h.ok (neg_lt ha) (neg_lt hb)
    have := h1.ok.room; have := h1.ok.most; omega
  unfold mor
  generalize mand s (neg a) (neg b) = R at *
  have H := Lib.hid h; clear h
  go_enter Try.func86, Try.ntmps86
  go_wp2_with fail
  refine (Not_any _ _ (by omega)).mono ?_
  rintro e w' ⟨rfl, rfl⟩
  go_wp2_with fail
  refine (Not_any _ _ (by omega)).mono ?_
  rintro e w' ⟨rfl, rfl⟩
  go_wp2_with fail
  refine HA.mono ?_
  rintro e w1 ⟨rfl, nb', ncap', hs⟩
  have HS := Lib.hid hs; clear hs
  go_wp2_with fail
  refine (Not_any _ _ (by omega)).mono ?_
  rintro e w' ⟨rfl, rfl⟩
  go_wp2_with fail
  go_ret
  exact ⟨rfl, nb', ncap', HS.out⟩

set_option maxRecDepth 100000 in
set_option maxHeartbeats 1000000 in
theorem mmux_is {m : Nat} {s : Mk} (h : MS w g m s nb ncap iv mb) {c a b : Nat} (hc : c < 2 * s.1.nodes.length) (ha : a < 2 * s.1.nodes.length) (hb : b < 2 * s.1.nodes.length) :
    Calls Try.prog 77 #[.pointer (some ⟨m, 0, none⟩), .int .i64 c, .int .i64 a, .int .i64 b] w fun e w' => e = .returned (.int .i64 (mmux s c a b).2) ∧ ∃ nb' ncap', MStep w g m (mmux s c a b).1 nb iv mb nb' ncap' w' := by
  have bc := h.bd hc
  obtain ⟨h1, h2, h3⟩ := mand_ok h.ok hc ha
  have H1 := mand_is h hc ha
  have e1 := h2.lt (neg_lt hc)
  have e2 := h2.lt hb
  obtain ⟨h4, h5, h6⟩ := mand_ok h1 e1 e2
  have e3 := h5.lt h3
  unfold mmux
  dsimp only
  generalize mand s c a = R1 at *
  have H2 : ∀ (w : World) (nb ncap : Nat) (h : MS w g m R1.1 nb ncap iv mb), Calls Try.prog 65 #[.pointer (some ⟨m, 0, none⟩), .int .i64 (neg c : Nat), .int .i64 b] w fun e w' => e = .returned (.int .i64 (mand R1.1 (neg c) b).2) ∧ ∃ nb' ncap', MStep w g m (mand R1.1 (neg c) b).1 nb iv mb nb' ncap' w' := fun _ _ _ h => mand_is h e1 e2
  generalize mand R1.1 (neg c) b = R2 at *
  have H3 : ∀ (w : World) (nb ncap : Nat) (h : MS w g m R2.1 nb ncap iv mb), Calls Try.prog 86 #[.pointer (some ⟨m, 0, none⟩), .int .i64 R1.2, .int .i64 R2.2] w fun e w' => e = .returned (.int .i64 (mor R2.1 R1.2 R2.2).2) ∧ ∃ nb' ncap', MStep w g m (mor R2.1 R1.2 R2.2).1 nb iv mb nb' ncap' w' := fun _ _ _ h => mor_is h e3 h6
  generalize mor R2.1 R1.2 R2.2 = R3 at *
  have HH2 := Lib.hid H2; clear H2
  have HH3 := Lib.hid H3; clear H3
  clear h h1 h2 h3 h4 h5 h6 e1 e2 e3
  go_enter Try.func77, Try.ntmps77
  go_wp2_with fail
  refine H1.mono ?_
  rintro e w1 ⟨rfl, nb1, ncap1, hs⟩
  have HS1 := Lib.hid hs; clear hs H1
  go_wp2_with fail
  refine (Not_any _ _ (by omega)).mono ?_
  rintro e w' ⟨rfl, rfl⟩
  go_wp2_with fail
  refine (HH2.out _ _ _ HS1.out.ms).mono ?_
  rintro e w2 ⟨rfl, nb2, ncap2, hs⟩
  have HS2 := Lib.hid hs; clear hs
  go_wp2_with fail
  refine (HH3.out _ _ _ HS2.out.ms).mono ?_
  rintro e w3 ⟨rfl, nb3, ncap3, hs⟩
  have HS3 := Lib.hid hs; clear hs
  go_wp2_with fail
  go_ret
  exact ⟨rfl, nb3, ncap3, (HS1.out.trans HS2.out).trans HS3.out⟩
end

/-! ### the library's IndexFunc and ContainsFunc over references -/
section
structure Sl (w : World) (a : Option Addr) (xs : List Int) : Prop where
  cells : ∀ (i : Nat) (x : Int), xs[i]? = some x → ∃ b o, a = some ⟨b, o, none⟩ ∧ w.cell? ⟨b, o + i, none⟩ = some (.int .i64 x)
  bd : xs.length ≤ 9223372036854775807
theorem Sl.at {w : World} {a : Option Addr} {xs : List Int} (h : Sl w a xs) (hn : 0 < xs.length) : ∃ b o, a = some ⟨b, o, none⟩ ∧ ∀ (i : Nat) (x : Int), xs[i]? = some x → w.cell? ⟨b, o + i, none⟩ = some (.int .i64 x) := by
  obtain ⟨b, o, rfl, _⟩ := h.cells 0 xs[0] (List.getElem?_eq_getElem hn)
  refine ⟨b, o, rfl, fun i x hx => ?_⟩
  obtain ⟨b', o', e, hc⟩ := h.cells i x hx
  cases e
  exact hc

def idxOf (p : Int → Bool) (xs : List Int) : Int := match xs.findIdx? p with | some i => i | none => -1
theorem idxOf_yes {p : Int → Bool} {xs : List Int} {k : Nat} {x : Int} (hx : xs[k]? = some x) (hp : p x = true) (hno : ∀ (j : Nat) (y : Int), j < k → xs[j]? = some y → p y = false) : idxOf p xs = k := by
  have : xs.findIdx? p = some k := by
    rw [List.findIdx?_eq_some_iff_getElem]
    obtain ⟨hk, rfl⟩ := List.getElem?_eq_some_iff.1 hx
    exact ⟨hk, hp, fun j hj => by rw [hno j _ hj (List.getElem?_eq_getElem (by omega))]; simp⟩
  unfold idxOf; rw [this]
theorem idxOf_no {p : Int → Bool} {xs : List Int} (hno : ∀ (j : Nat) (y : Int), xs[j]? = some y → p y = false) : idxOf p xs = -1 := by
  have : xs.findIdx? p = none := by
    rw [List.findIdx?_eq_none_iff]
    intro x hx
    obtain ⟨j, hj⟩ := List.mem_iff_getElem?.1 hx
    exact hno j x hj
  unfold idxOf; rw [this]

def Fnv (fid : Nat) : Prop := ∀ (args : Array Value) (w : World), (callFunc fid args).run Try.prog w = .ok (.enter fid args) w
theorem fnv_of {fid : Nat} {fn : Func} (h : Try.prog.funcs[fid]? = some fn) (hb : fn.body ≠ none) (hn : fn.name ≠ "runtime.NumGoroutine") : Fnv fid := fun args w => by
  unfold callFunc
  simp [h, hb, hn]

set_option maxRecDepth 100000 in
set_option maxHeartbeats 1000000 in
theorem IFref_is {w : World} {a : Option Addr} {xs : List Int} (cap fid : Nat) (caps : Array Value) (p : Int → Bool) (h : Sl w a xs) (hf : ∀ x ∈ xs, Calls Try.prog fid (#[.int .i64 x] ++ caps) w fun e w' => e = .returned (.bool (p x)) ∧ w = w')
    (hfn : Fnv fid) :
    Calls Try.prog 72 #[.slice a xs.length cap, .func (.func fid) #[] caps] w fun e w' => e = .returned (.int .i64 (idxOf p xs)) ∧ w = w' := by
  have hbd := h.bd
  have hcf : ∀ (args : Array Value) (w : World), (callFunc fid args).run Try.prog w = .ok (.enter fid args) w := hfn
  have HF := Lib.hid hf; clear hf
  have H := Lib.hid h; clear h
  go_enter Try.func72, Try.ntmps72
  go_wp2_with fail
  go_loop [8] (fun i => ∃ k : Nat, k ≤ xs.length ∧ i = .int .i64 k ∧ ∀ (j : Nat) (y : Int), j < k → xs[j]? = some y → p y = false) (fun i => xs.length - (intOf i).toNat)
  case atStart => exact ⟨0, Nat.zero_le _, rfl, fun j y hj => by omega⟩
  case round =>
    obtain ⟨k, hk, rfl, hno⟩ := hrel
    have HN := Lib.hid hno; clear hno
    by_cases hlt : k < xs.length
    · obtain ⟨b, o, rfl, hc⟩ := H.out.at (by omega)
      have hx : xs[k]? = some xs[k] := List.getElem?_eq_getElem hlt
      have c1 := hc k _ hx
      have hcall := HF.out xs[k] (List.getElem_mem hlt)
      have HX := Lib.hid hx; clear hx hc
      generalize xs[k] = x at *
      have HC := Lib.hid hcall; clear hcall
      cases hp : p x
      · rw [hp] at HC
        go_wp2_with fail
        refine HC.out.mono ?_
        rintro e w' ⟨rfl, rfl⟩
        go_wp2_with fail
        go_round
        case rel => 
          refine ⟨k + 1, by omega, by go_num, fun j y hj hy => ?_⟩
          by_cases hjk : j = k
          · subst hjk; rw [HX.out] at hy; cases hy; exact hp
          · exact HN.out j y (by omega) hy
        case measure => simp [intOf]; omega
      · rw [hp] at HC
        go_wp2_with fail
        refine HC.out.mono ?_
        rintro e w' ⟨rfl, rfl⟩
        go_wp2_with fail
        go_ret
        exact ⟨ret_int (idxOf_yes HX.out hp HN.out).symm, rfl⟩
    · go_wp2_with fail
      go_ret
      exact ⟨ret_int (idxOf_no (fun j y hy => HN.out j y (by have := (List.getElem?_eq_some_iff.1 hy).1; omega) hy)).symm, rfl⟩

set_option maxRecDepth 100000 in
set_option maxHeartbeats 1000000 in
theorem CFref_is {w : World} {a : Option Addr} {xs : List Int} (cap fid : Nat) (caps : Array Value) (p : Int → Bool) (h : Sl w a xs) (hf : ∀ x ∈ xs, Calls Try.prog fid (#[.int .i64 x] ++ caps) w fun e w' => e = .returned (.bool (p x)) ∧ w = w')
    (hfn : Fnv fid) :
    Calls Try.prog 56 #[.slice a xs.length cap, .func (.func fid) #[] caps] w fun e w' => e = .returned (.bool (xs.any p)) ∧ w = w' := by
  have HI := IFref_is cap fid caps p h hf hfn
  have hidx : decide (0 ≤ idxOf p xs) = xs.any p := by
    unfold idxOf
    cases hh : xs.findIdx? p with
    | none =>
      have := List.findIdx?_eq_none_iff.1 hh
      have h2 : xs.any p = false := by simpa using this
      rw [h2]; rfl
    | some i =>
      have := List.findIdx?_eq_some_iff_getElem.1 hh
      obtain ⟨hlt, hp, _⟩ := this
      have h2 : xs.any p = true := List.any_eq_true.2 ⟨_, List.getElem_mem hlt, hp⟩
      rw [h2]; simp
  clear hf h hfn
  generalize idxOf p xs = q at *
  have HQ := Lib.hid hidx; clear hidx
  have HH := Lib.hid HI; clear HI
  go_enter Try.func56, Try.ntmps56
  go_wp2_with fail
  refine HH.out.mono ?_
  rintro e w' ⟨rfl, rfl⟩
  go_wp2_with fail
  go_ret
  exact ⟨ret_bool HQ.out, rfl⟩
end
end Go.Proofs.Ytndcgfnlgcincaa
namespace Go.Proofs.Ytndcgfnlgcincaa
open Go.RowKit Go.Mem Go.Aig
theorem setCells_ch {b : Nat} {a : World} : ∀ (vs : List Value) (o : Nat) {w : World}, Ch [b] a w → Ch [b] a (w.setCells b o vs)
  | [], _, _, h => h
  | v :: vs, o, _, h => setCells_ch vs (o + 1) (h.setCell (by simp) v)
theorem setCells_blk {b : Nat} {e : TypeId} : ∀ (vs : List Value) (o : Nat) {w : World} {cur : Array Value}, w.heap[b]? = some (.cells cur e (0, 0)) →
    ∃ cur', (w.setCells b o vs).heap[b]? = some (.cells cur' e (0, 0)) ∧ cur'.size = cur.size ∧ cur'.toList.take o = cur.toList.take o
  | [], _, _, cur, h => ⟨cur, h, rfl, rfl⟩
  | v :: vs, o, w, cur, h => by
    have h1 : (w.setCell ⟨b, o, none⟩ v).heap[b]? = some (.cells (cur.setIfInBounds o v) e (0, 0)) := by
      simp only [World.setCell, Array.getElem?_modify]
      rw [if_pos trivial, h]
      rfl
    obtain ⟨cur', h2, h3, h4⟩ := setCells_blk vs (o + 1) h1
    refine ⟨cur', h2, by rw [h3]; simp, ?_⟩
    have h5 := congrArg (List.take o) h4
    rw [List.take_take, List.take_take, Nat.min_eq_left (by omega)] at h5
    rw [h5]
    simp [List.take_set_of_le]

def ints (l : List Int) : List Value := l.map fun x => .int .i64 x
theorem row.sl {w : World} {v : Value} {xs : List Int} {a : Option Addr} {n c : Nat} (h : row w 26 1 v xs.length (ints xs)) (hv : v = .slice a n c) : Sl w a xs := by
  refine ⟨fun i x hx => ?_, ?_⟩
  · have hi := (List.getElem?_eq_some_iff.1 hx).1
    rcases h.2 with ⟨_, h0⟩ | ⟨g, cap, cur, e, _, hg, hle, hm, hs, ht⟩
    · omega
    · rw [e] at hv
      cases hv
      refine ⟨g, 0, rfl, ?_⟩
      have := h.cells (g := g) (by rw [e]; rfl) i (.int .i64 x) (by simp [ints, hx])
      rw [Addr.add_lit] at this
      simpa using this
  · rcases h.2 with ⟨_, h0⟩ | ⟨g, cap, cur, e, _, hg, hle, hm, hs, ht⟩
    · omega
    · unfold maxLen at hm; omega

theorem clear_row {w : World} {b cap n i : Nat} {xs : List Int} (h : row w 26 1 (.slice (some ⟨b, 0, none⟩) n cap) n (ints xs)) (hi : i < n) :
    ∃ w2, (∀ (ty c : Nat), (Builtin.clear_ #[25] ty #[.slice (some ⟨b, i, none⟩) (n - i) c]).run Try.prog w = .ok (.tuple #[]) w2) ∧ row w2 26 1 (.slice (some ⟨b, 0, none⟩) i cap) i (ints (xs.take i)) ∧ Ch [b] w w2 := by
  have hl := h.1
  rcases h.2 with ⟨e, _⟩ | ⟨g, cap', cur, e, hb, hg, hle, hm, hs, ht⟩
  · cases e
  · cases e
    simp only [Nat.mul_one] at hs ht
    have hc : ∀ j, j < n - i → (w.cell? ⟨b, i + j, none⟩).isSome = true := fun j hj => by
      have hlt : i + j < cur.size := by omega
      simp [World.cell?, hg, hlt]
    have hf : ∀ j, j < n - i → w.frozen? ⟨b, i + j, none⟩ = false := fun j hj => by simp [World.frozen?, hg]
    have hz : ∀ w, (zeroValue 26).run Try.prog w = .ok (.int .i64 0) w := fun w => by kernel_rfl
    refine ⟨_, fun ty c => Lib.run_clear_slice w 25 26 ty (.int .i64 0) Try.underlying25 hz rfl rfl b i (n - i) c (by omega) hc hf, ?_, setCells_ch _ _ (Ch.refl _ _)⟩
    obtain ⟨cur', h2, h3, h4⟩ := setCells_blk (e := 26) (List.replicate (n - i) (.int .i64 0)) i hg
    refine ⟨?_, .inr ⟨b, cap, cur', rfl, Nat.zero_le _, h2, by omega, hm, by omega, ?_⟩⟩
    · have : xs.length = n := by simpa [ints] using hl
      simp [ints, this]; omega
    · rw [Nat.mul_one, h4]
      have : (cur.toList.take n).take i = (ints xs).take i := by rw [ht]
      rw [List.take_take, Nat.min_eq_left (by omega)] at this
      rw [this]
      simp [ints, List.map_take]

set_option maxRecDepth 100000 in
set_option maxHeartbeats 1000000 in
theorem DFref_none {w : World} {a : Option Addr} {xs : List Int} (cap fid : Nat) (caps : Array Value) (p : Int → Bool) (h : Sl w a xs) (hf : ∀ x ∈ xs, Calls Try.prog fid (#[.int .i64 x] ++ caps) w fun e w' => e = .returned (.bool (p x)) ∧ w = w')
    (hfn : Fnv fid) (hno : idxOf p xs = -1) :
    Calls Try.prog 74 #[.slice a xs.length cap, .func (.func fid) #[] caps] w fun e w' => e = .returned (.slice a xs.length cap) ∧ w = w' := by
  have HI := IFref_is cap fid caps p h hf hfn
  rw [hno] at HI
  clear hf h hfn hno
  have HH := Lib.hid HI; clear HI
  go_enter Try.func74, Try.ntmps74
  go_wp2_with fail
  refine HH.out.mono ?_
  rintro e w' ⟨rfl, rfl⟩
  go_wp2_with fail
  go_ret
  exact ⟨rfl, rfl⟩

set_option maxRecDepth 100000 in
set_option maxHeartbeats 1000000 in
theorem DFref_tail {w : World} {b cap n : Nat} {xs : List Int} (fid : Nat) (caps : Array Value) (p : Int → Bool) (h : row w 26 1 (.slice (some ⟨b, 0, none⟩) n cap) n (ints xs)) (hn : xs.length = n) (hf : ∀ x ∈ xs, Calls Try.prog fid (#[.int .i64 x] ++ caps) w fun e w' => e = .returned (.bool (p x)) ∧ w = w')
    (hfn : Fnv fid) (i : Nat) (hi : i < n) (hidx : idxOf p xs = i) (htail : ∀ (j : Nat) (x : Int), i ≤ j → xs[j]? = some x → p x = true) :
    Calls Try.prog 74 #[.slice (some ⟨b, 0, none⟩) n cap, .func (.func fid) #[] caps] w fun e w' => e = .returned (.slice (some ⟨b, 0, none⟩) i cap) ∧ row w' 26 1 (.slice (some ⟨b, 0, none⟩) i cap) i (ints (xs.take i)) ∧ Ch [b] w w' := by
  have hs := row.sl (by rw [hn]; exact h) rfl
  have HI := IFref_is cap fid caps p hs hf hfn
  rw [hidx, hn] at HI
  have hcap : n ≤ cap ∧ cap ≤ 9223372036854775807 := by
    rcases h.2 with ⟨e, _⟩ | ⟨g, cap', cur, e, _, hg, hle, hm, _⟩
    · cases e
    · cases e; unfold maxLen at hm; exact ⟨hle, by omega⟩
  have hcf : ∀ (args : Array Value) (w : World), (callFunc fid args).run Try.prog w = .ok (.enter fid args) w := hfn
  obtain ⟨w2, hclr, hrow, hch⟩ := clear_row h hi
  have hcells : ∀ (j : Nat) (x : Int), xs[j]? = some x → w.cell? ⟨b, j, none⟩ = some (.int .i64 x) := fun j x hx => by
    obtain ⟨b', o', e, hc⟩ := hs.cells j x hx
    cases e
    simpa using hc
  have HC := Lib.hid hcells; clear hcells
  have HF := Lib.hid hf; clear hf
  have HT := Lib.hid htail; clear htail
  have HH := Lib.hid HI; clear HI
  have HR := Lib.hid hrow; clear hrow
  have HN := Lib.hid hn; clear hn
  have HCH := Lib.hid hch; clear hch
  clear h hs hidx
  go_enter Try.func74, Try.ntmps74
  go_wp2_with fail
  refine HH.out.mono ?_
  rintro e w' ⟨rfl, rfl⟩
  have e1 : ((i : Int) == -1) = false := beqN (by omega)
  go_wp2_with fail
  go_loop [5, 6] (fun i5 i6 => ∃ k : Nat, k ≤ n ∧ i < k ∧ i5 = .int .i64 i ∧ i6 = .int .i64 k) (fun _ i6 => n - (intOf i6).toNat)
  case atStart => exact ⟨i + 1, by omega, by omega, rfl, by go_num⟩
  case round =>
    obtain ⟨k, hk, hik, rfl, rfl⟩ := hrel
    by_cases hlt : k < n
    · have hlx : k < xs.length := by have := HN.out; omega
      have hx : xs[k]? = some xs[k] := List.getElem?_eq_getElem hlx
      have c1 := HC.out k _ hx
      have hp := HT.out k _ (by omega) hx
      have hcall := HF.out xs[k] (List.getElem_mem hlx)
      rw [hp] at hcall
      have HX := Lib.hid hx; clear hx hp
      generalize xs[k] = x at *
      have HC2 := Lib.hid hcall; clear hcall
      go_wp2_with fail
      refine HC2.out.mono ?_
      rintro e w' ⟨rfl, rfl⟩
      go_wp2_with fail
      go_round
      case rel => exact ⟨k + 1, by omega, by omega, rfl, by go_num⟩
      case measure => simp [intOf]; omega
    · go_wp2_with fail
      go_ret
      exact ⟨rfl, HR.out, HCH.out⟩
end Go.Proofs.Ytndcgfnlgcincaa
namespace Go.Aig
theorem take_get {ns : List Nd} {n m : Nat} {x : Nd} (h : (ns.take n)[m]? = some x) : m < n ∧ ns[m]? = some x := by
  rw [List.getElem?_take] at h
  split at h
  · exact ⟨by assumption, h⟩
  · cases h
theorem dep_take {ns : List Nd} {n r : Nat} (h : r < 2 * n) : dep (ns.take n) r = dep ns r := by
  unfold dep
  rw [List.getElem?_take, if_pos (by omega)]
theorem WF.take {ns : List Nd} (h : WF ns) {n : Nat} (hn : 1 ≤ n) : WF (ns.take n) := by
  refine ⟨?_, ?_, ?_, ?_⟩
  · rw [List.getElem?_take, if_pos (by omega)]; exact h.const
  · intro m x hx hm
    obtain ⟨hlt, hx⟩ := take_get hx
    rcases h.other m x hx hm with h1 | ⟨h1, h2, h3, h4, h5, h6⟩
    · exact .inl h1
    · exact .inr ⟨h1, h2, h3, h4, h5, by rw [h6, dep_take (by omega), dep_take (by omega)]⟩
  · intro m k x y hx hy
    exact h.once m k x y (take_get hx).2 (take_get hy).2
  · intro m x hx
    exact h.low m x (take_get hx).2
theorem Ok.take {G : Gra} (h : Ok G) {n : Nat} (hn : 1 ≤ n) : Ok { G with nodes := G.nodes.take n } :=
  ⟨h.wf.take hn, by have := h.room; simp; omega, h.most⟩

theorem inputsFrom_ge : ∀ (ns : List Nd) (k r : Nat), r ∈ inputsFrom ns k → 2 * k ≤ r ∧ r % 2 = 0 ∧ r < 2 * (k + ns.length)
  | [], _, _, h => by simp [inputsFrom] at h
  | x :: ns, k, r, h => by
    unfold inputsFrom at h
    split at h
    · rcases List.mem_cons.1 h with rfl | h
      · simp
      · obtain ⟨h1, h2, h3⟩ := inputsFrom_ge ns (k + 1) r h
        exact ⟨by omega, h2, by simp; omega⟩
    · obtain ⟨h1, h2, h3⟩ := inputsFrom_ge ns (k + 1) r h
      exact ⟨by omega, h2, by simp; omega⟩
theorem inputsFrom_split (ms : List Nd) : ∀ (ns : List Nd) (k : Nat), inputsFrom (ns ++ ms) k = inputsFrom ns k ++ inputsFrom ms (k + ns.length)
  | [], k => by simp [inputsFrom]
  | x :: ns, k => by
    simp only [List.cons_append, inputsFrom, inputsFrom_split ms ns (k + 1), List.length_cons]
    rw [show k + 1 + ns.length = k + (ns.length + 1) from by omega]
    split <;> simp
theorem inputs_take (ns : List Nd) (n : Nat) : ∃ l, inputs ns = inputs (ns.take n) ++ l ∧ (∀ r ∈ l, 2 * min n ns.length ≤ r) := by
  refine ⟨inputsFrom (ns.drop n) (min n ns.length), ?_, fun r hr => (inputsFrom_ge _ _ _ hr).1⟩
  have := inputsFrom_split (ns.drop n) (ns.take n) 0
  rw [List.take_append_drop] at this
  unfold inputs
  rw [this]
  simp
end Go.Aig
namespace Go.Proofs.Ytndcgfnlgcincaa
open Go.RowKit Go.Mem Go.Aig

structure MapOn (es : List MapEntry) (ns : List Nd) (S : Nat → Prop) : Prop where
  of : ∀ e ∈ es, ∃ (n : Nat) (x : Nd), S n ∧ ns[n]? = some x ∧ x.k = 3 ∧ e.key = pr x.l x.r ∧ e.val = .int .i64 n
  has : ∀ (n : Nat) (x : Nd), S n → ns[n]? = some x → x.k = 3 → ∃ e ∈ es, e.key = pr x.l x.r
  once : es.Pairwise (fun e f => e.key ≠ f.key)
theorem MapOk.on {es : List MapEntry} {ns : List Nd} (h : MapOk es ns) {S : Nat → Prop} (hS : ∀ n, n < ns.length → S n) : MapOn es ns S :=
  ⟨fun e he => by obtain ⟨n, x, h1, h2⟩ := h.of e he; exact ⟨n, x, hS n (List.getElem?_eq_some_iff.1 h1).1, h1, h2⟩, fun n x _ => h.has n x, h.once⟩
theorem MapOn.take {es : List MapEntry} {ns : List Nd} {n : Nat} (h : MapOn es ns (· < n)) : MapOk es (ns.take n) :=
  ⟨fun e he => by obtain ⟨m, x, h0, h1, h2⟩ := h.of e he; exact ⟨m, x, by rw [List.getElem?_take, if_pos h0]; exact h1, h2⟩, fun m x hx => h.has m x (take_get hx).1 (take_get hx).2, h.once⟩
theorem MapOn.mono {es : List MapEntry} {ns : List Nd} {S T : Nat → Prop} (h : MapOn es ns S) (h1 : ∀ (n : Nat) (x : Nd), S n → ns[n]? = some x → x.k = 3 → T n) (h2 : ∀ (n : Nat) (x : Nd), T n → ns[n]? = some x → x.k = 3 → S n) : MapOn es ns T :=
  ⟨fun e he => by obtain ⟨m, x, h0, hx, hk, h3⟩ := h.of e he; exact ⟨m, x, h1 m x h0 hx hk, hx, hk, h3⟩, fun m x hT hx hk => h.has m x (h2 m x hT hx hk) hx hk, h.once⟩
theorem MapOn.keys {es : List MapEntry} {ns : List Nd} {S : Nat → Prop} (h : MapOn es ns S) : PairKeys es := fun e he => by
  obtain ⟨n, x, _, _, _, hk, _⟩ := h.of e he
  exact ⟨_, _, hk⟩
theorem pairwise_get {es : List MapEntry} (h : es.Pairwise (fun e f => e.key ≠ f.key)) {i j : Nat} {e f : MapEntry} (he : es[i]? = some e) (hf : es[j]? = some f) (hk : e.key = f.key) : i = j := by
  obtain ⟨hi, rfl⟩ := List.getElem?_eq_some_iff.1 he
  obtain ⟨hj, rfl⟩ := List.getElem?_eq_some_iff.1 hf
  rcases Nat.lt_trichotomy i j with hlt | heq | hgt
  · exact (List.pairwise_iff_getElem.1 h i j hi hj hlt hk).elim
  · exact heq
  · exact (List.pairwise_iff_getElem.1 h j i hj hi hgt hk.symm).elim
theorem MapOn.delete {es : List MapEntry} {ns : List Nd} {S : Nat → Prop} (h : MapOn es ns S) (hw : WF ns) {n : Nat} {x : Nd} (hS : S n) (hx : ns[n]? = some x) (hk : x.k = 3) :
    ∃ j v, findP x.l x.r es 0 = some (j, v) ∧ MapOn (es.eraseIdx j) ns (fun m => S m ∧ m ≠ n) := by
  cases hp : findP x.l x.r es 0 with
  | none =>
    obtain ⟨e, he, hek⟩ := h.has n x hS hx hk
    exact (findP_none hp e he hek).elim
  | some q =>
    obtain ⟨j, v⟩ := q
    obtain ⟨_, e, he, hek, hev⟩ := findP_some hp
    simp only [Nat.sub_zero] at he
    have hsub : ∀ f ∈ es.eraseIdx j, f ∈ es ∧ f.key ≠ e.key := by
      intro f hf
      obtain ⟨i, hi⟩ := List.mem_iff_getElem?.1 hf
      rw [List.getElem?_eraseIdx] at hi
      split at hi
      · exact ⟨List.mem_of_getElem? hi, fun hh => by have := pairwise_get h.once hi he hh; omega⟩
      · exact ⟨List.mem_of_getElem? hi, fun hh => by have := pairwise_get h.once hi he hh; omega⟩
    refine ⟨j, v, rfl, fun f hf => ?_, fun m y hm hy hyk => ?_, h.once.sublist (List.eraseIdx_sublist _ _)⟩
    · obtain ⟨h1, h2⟩ := hsub f hf
      obtain ⟨m, y, hm, hy, hyk, hky, hv⟩ := h.of f h1
      refine ⟨m, y, ⟨hm, fun e1 => ?_⟩, hy, hyk, hky, hv⟩
      subst e1
      rw [hx] at hy; cases hy
      exact h2 (hky.trans hek.symm)
    · obtain ⟨f, hf, hfk⟩ := h.has m y hm.1 hy hyk
      refine ⟨f, ?_, hfk⟩
      obtain ⟨i, hi⟩ := List.mem_iff_getElem?.1 hf
      have hij : i ≠ j := by
        intro e1
        subst e1
        rw [hi] at he; cases he
        obtain ⟨e1, e2⟩ := pr_nat (hfk.symm.trans hek)
        exact hm.2 (hw.once m n y x hy hx hyk hk e1 e2)
      rcases Nat.lt_or_gt_of_ne hij with hlt | hgt
      · exact List.mem_of_getElem? (i := i) (by rw [List.getElem?_eraseIdx, if_pos hlt]; exact hi)
      · refine List.mem_of_getElem? (i := i - 1) ?_
        rw [List.getElem?_eraseIdx, if_neg (by omega), show i - 1 + 1 = i from by omega]
        exact hi

theorem delete_is {W : World} {mb : Nat} {ns : List Nd} {S : Nat → Prop} (hm : ∃ es clock, W.heap[mb]? = some (.map es clock) ∧ MapOn es.toList ns S) (hw : WF ns) {n : Nat} {x : Nd} (hS : S n) (hx : ns[n]? = some x) (hk : x.k = 3) :
    ∃ w2, (∀ ty, (Builtin.delete_ #[62, 89] ty #[.map (some mb), .agg #[.int .i64 x.l, .int .i64 x.r]]).run Try.prog W = .ok (.tuple #[]) w2) ∧ (∃ es clock, w2.heap[mb]? = some (.map es clock) ∧ MapOn es.toList ns (fun m => S m ∧ m ≠ n)) ∧ Ch [mb] W w2 := by
  obtain ⟨es, clock, hm, ho⟩ := hm
  have hlt : mb < W.heap.size := (Array.getElem?_eq_some_iff.1 hm).1
  obtain ⟨j, v, hf, ho2⟩ := ho.delete hw hS hx hk
  refine ⟨_, fun ty => pairSides.delete Try.underlying62 ty hm ho.keys x.l x.r hf, ⟨_, _, by show (W.heap.setIfInBounds mb _)[mb]? = _; rw [Array.getElem?_setIfInBounds_self_of_lt hlt], ?_⟩, setMap_ch W mb _⟩
  simpa [Array.toList_eraseIdxIfInBounds] using ho2
section
variable {w : World} {g : Nat} {G : Gra} {nb ncap : Nat} {iv : Value} {mb : Nat}

set_option maxRecDepth 100000 in
set_option maxHeartbeats 1000000 in
theorem Cut_arg (h : GM w g G nb ncap iv mb) (n : Int) (hn : n < 1 ∨ (G.nodes.length : Int) < n) (_h1 : n ≤ 9223372036854775807) (_h0 : -9223372036854775808 ≤ n) :
    Calls Try.prog 60 #[.pointer (some ⟨g, 0, none⟩), .int .i64 n] w fun e w' => e = .returned (.int .i64 2) ∧ Ch [] w w' := by
  have ⟨c0, c1, c2, _⟩ := h.c
  have hl := h.lt.1
  by_cases hlt : n < 1
  · have hd : decide (n < 1) = true := decide_eq_true hlt
    clear hn
    have HN := (none_no (h.ch (F := []) ((Ch.refl _ _).alloc (.cells #[.int .i64 n] 3)) (by simp)))
    clear h
    go_enter Try.func60, Try.ntmps60
    go_wp2_with fail
    refine HN.mono ?_
    rintro e w' ⟨rfl, rfl⟩
    go_wp2_with fail
    refine Ord.St.door (fun _ => True) [.rd, .fl, .fl, .rd, .fl, .fl, .fl, .rd, .rd, .fl, .fl, .fl] [0, 1, 3, 7, 7, 23, 55, 119, 247, 511, 1023, 2047] [0, 1, 2, 3, 4, 5, 6, 7, 8, 9, 10, 11] mixed (by kernel_rfl) rfl ?_
    refine Ord.St.rd2 (T' := ?_) 0 [1, 2, 3, 4, 5, 6, 7, 8, 9, 10, 11] _ _ rfl (by kernel_rfl) rfl rfl rfl rfl (fun K hk => ?_) ?_
    rotate_left
    · go_step; exact hk
    refine Ord.St.fl2 (T' := ?_) 1 [2, 3, 4, 5, 6, 7, 8, 9, 10, 11] _ _ rfl (by kernel_rfl) rfl rfl rfl rfl (fun K w' hk => ?_) ?_
    rotate_left
    · go_step; exact hk
    refine Ord.St.fl2 (T' := ?_) 2 [3, 4, 5, 6, 7, 8, 9, 10, 11] _ _ rfl (by kernel_rfl) rfl rfl rfl rfl (fun K w' hk => ?_) ?_
    rotate_left
    · go_step; exact hk
    first | (refine Ord.St.rd2 (T' := ?_) 3 [4, 5, 6, 7, 8, 9, 10, 11] _ _ rfl (by kernel_rfl) ?_ rfl rfl rfl (fun K hk => ?_) ?_; rotate_left; (first | rfl | (simp [Region.wanted, yielded, *]; done)); focus (go_step; exact hk)) | (refine Ord.St.skipr 3 [4, 5, 6, 7, 8, 9, 10, 11] _ rfl (by kernel_rfl) ?_ (fun K hK => ?_); (first | rfl | (simp [Region.wanted, yielded, *]; done)); go_simp; refine hK _ ?_; clear hK K)
    first | (refine Ord.St.fl2 (T' := ?_) 4 [5, 6, 7, 8, 9, 10, 11] _ _ rfl (by kernel_rfl) ?_ rfl rfl rfl (fun K w' hk => ?_) ?_; rotate_left; (first | rfl | (simp [Region.wanted, yielded, *]; done)); focus (go_step; exact hk)) | (refine Ord.St.skip 4 [5, 6, 7, 8, 9, 10, 11] _ rfl (by kernel_rfl) ?_ (fun K hK => ?_); (first | rfl | (simp [Region.wanted, yielded, *]; done)); go_simp; refine hK _ ?_; clear hK K)
    first | (refine Ord.St.fl2 (T' := ?_) 5 [6, 7, 8, 9, 10, 11] _ _ rfl (by kernel_rfl) ?_ rfl rfl rfl (fun K w' hk => ?_) ?_; rotate_left; (first | rfl | (simp [Region.wanted, yielded, *]; done)); focus (go_step; exact hk)) | (refine Ord.St.skip 5 [6, 7, 8, 9, 10, 11] _ rfl (by kernel_rfl) ?_ (fun K hK => ?_); (first | rfl | (simp [Region.wanted, yielded, *]; done)); go_simp; refine hK _ ?_; clear hK K)
    first | (refine Ord.St.fl2 (T' := ?_) 6 [7, 8, 9, 10, 11] _ _ rfl (by kernel_rfl) ?_ rfl rfl rfl (fun K w' hk => ?_) ?_; rotate_left; (first | rfl | (simp [Region.wanted, yielded, *]; done)); focus (go_step; exact hk)) | (refine Ord.St.skip 6 [7, 8, 9, 10, 11] _ rfl (by kernel_rfl) ?_ (fun K hK => ?_); (first | rfl | (simp [Region.wanted, yielded, *]; done)); go_simp; refine hK _ ?_; clear hK K)
    first | (refine Ord.St.rd2 (T' := ?_) 7 [8, 9, 10, 11] _ _ rfl (by kernel_rfl) ?_ rfl rfl rfl (fun K hk => ?_) ?_; rotate_left; (first | rfl | (simp [Region.wanted, yielded, *]; done)); focus (go_step; exact hk)) | (refine Ord.St.skipr 7 [8, 9, 10, 11] _ rfl (by kernel_rfl) ?_ (fun K hK => ?_); (first | rfl | (simp [Region.wanted, yielded, *]; done)); go_simp; refine hK _ ?_; clear hK K)
    first | (refine Ord.St.rd2 (T' := ?_) 8 [9, 10, 11] _ _ rfl (by kernel_rfl) ?_ rfl rfl rfl (fun K hk => ?_) ?_; rotate_left; (first | rfl | (simp [Region.wanted, yielded, *]; done)); focus (go_step; exact hk)) | (refine Ord.St.skipr 8 [9, 10, 11] _ rfl (by kernel_rfl) ?_ (fun K hK => ?_); (first | rfl | (simp [Region.wanted, yielded, *]; done)); go_simp; refine hK _ ?_; clear hK K)
    first | (refine Ord.St.fl2 (T' := ?_) 9 [10, 11] _ _ rfl (by kernel_rfl) ?_ rfl rfl rfl (fun K w' hk => ?_) ?_; rotate_left; (first | rfl | (simp [Region.wanted, yielded, *]; done)); focus (go_step; exact hk)) | (refine Ord.St.skip 9 [10, 11] _ rfl (by kernel_rfl) ?_ (fun K hK => ?_); (first | rfl | (simp [Region.wanted, yielded, *]; done)); go_simp; refine hK _ ?_; clear hK K)
    refine Ord.St.fl2 (T' := ?_) 10 [11] _ _ rfl (by kernel_rfl) rfl rfl rfl rfl (fun K w' hk => ?_) ?_
    rotate_left
    · go_step; exact hk
    refine Ord.St.fl2 (T' := ?_) 11 [] _ _ rfl (by kernel_rfl) rfl rfl rfl rfl (fun K w' hk => ?_) ?_
    rotate_left
    · go_step; exact hk
    refine Ord.St.nil ?_
    go_wp2
    go_ret
    exact ⟨rfl, ((Ch.refl _ _).alloc _).drew⟩
  · have hgt := hn.resolve_left hlt
    have hd : decide (n < 1) = false := decide_eq_false hlt
    have hd2 : decide ((G.nodes.length : Int) < n) = true := decide_eq_true hgt
    clear hn
    have HN := (none_no (h.ch (F := []) ((Ch.refl _ _).alloc (.cells #[.int .i64 n] 3)) (by simp)))
    clear h
    go_enter Try.func60, Try.ntmps60
    go_wp2_with fail
    refine HN.mono ?_
    rintro e w' ⟨rfl, rfl⟩
    go_wp2_with fail
    refine Ord.St.door (fun _ => True) [.rd, .fl, .fl, .rd, .fl, .fl, .fl, .rd, .rd, .fl, .fl, .fl] [0, 1, 3, 7, 7, 23, 55, 119, 247, 511, 1023, 2047] [0, 1, 2, 3, 4, 5, 6, 7, 8, 9, 10, 11] mixed (by kernel_rfl) rfl ?_
    refine Ord.St.rd2 (T' := ?_) 0 [1, 2, 3, 4, 5, 6, 7, 8, 9, 10, 11] _ _ rfl (by kernel_rfl) rfl rfl rfl rfl (fun K hk => ?_) ?_
    rotate_left
    · go_step; exact hk
    refine Ord.St.fl2 (T' := ?_) 1 [2, 3, 4, 5, 6, 7, 8, 9, 10, 11] _ _ rfl (by kernel_rfl) rfl rfl rfl rfl (fun K w' hk => ?_) ?_
    rotate_left
    · go_step; exact hk
    refine Ord.St.fl2 (T' := ?_) 2 [3, 4, 5, 6, 7, 8, 9, 10, 11] _ _ rfl (by kernel_rfl) rfl rfl rfl rfl (fun K w' hk => ?_) ?_
    rotate_left
    · go_step; exact hk
    first | (refine Ord.St.rd2 (T' := ?_) 3 [4, 5, 6, 7, 8, 9, 10, 11] _ _ rfl (by kernel_rfl) ?_ rfl rfl rfl (fun K hk => ?_) ?_; rotate_left; (first | rfl | (simp [Region.wanted, yielded, *]; done)); focus (go_step; exact hk)) | (refine Ord.St.skipr 3 [4, 5, 6, 7, 8, 9, 10, 11] _ rfl (by kernel_rfl) ?_ (fun K hK => ?_); (first | rfl | (simp [Region.wanted, yielded, *]; done)); go_simp; refine hK _ ?_; clear hK K)
    first | (refine Ord.St.fl2 (T' := ?_) 4 [5, 6, 7, 8, 9, 10, 11] _ _ rfl (by kernel_rfl) ?_ rfl rfl rfl (fun K w' hk => ?_) ?_; rotate_left; (first | rfl | (simp [Region.wanted, yielded, *]; done)); focus (go_step; exact hk)) | (refine Ord.St.skip 4 [5, 6, 7, 8, 9, 10, 11] _ rfl (by kernel_rfl) ?_ (fun K hK => ?_); (first | rfl | (simp [Region.wanted, yielded, *]; done)); go_simp; refine hK _ ?_; clear hK K)
    first | (refine Ord.St.fl2 (T' := ?_) 5 [6, 7, 8, 9, 10, 11] _ _ rfl (by kernel_rfl) ?_ rfl rfl rfl (fun K w' hk => ?_) ?_; rotate_left; (first | rfl | (simp [Region.wanted, yielded, *]; done)); focus (go_step; exact hk)) | (refine Ord.St.skip 5 [6, 7, 8, 9, 10, 11] _ rfl (by kernel_rfl) ?_ (fun K hK => ?_); (first | rfl | (simp [Region.wanted, yielded, *]; done)); go_simp; refine hK _ ?_; clear hK K)
    first | (refine Ord.St.fl2 (T' := ?_) 6 [7, 8, 9, 10, 11] _ _ rfl (by kernel_rfl) ?_ rfl rfl rfl (fun K w' hk => ?_) ?_; rotate_left; (first | rfl | (simp [Region.wanted, yielded, *]; done)); focus (go_step; exact hk)) | (refine Ord.St.skip 6 [7, 8, 9, 10, 11] _ rfl (by kernel_rfl) ?_ (fun K hK => ?_); (first | rfl | (simp [Region.wanted, yielded, *]; done)); go_simp; refine hK _ ?_; clear hK K)
    first | (refine Ord.St.rd2 (T' := ?_) 7 [8, 9, 10, 11] _ _ rfl (by kernel_rfl) ?_ rfl rfl rfl (fun K hk => ?_) ?_; rotate_left; (first | rfl | (simp [Region.wanted, yielded, *]; done)); focus (go_step; exact hk)) | (refine Ord.St.skipr 7 [8, 9, 10, 11] _ rfl (by kernel_rfl) ?_ (fun K hK => ?_); (first | rfl | (simp [Region.wanted, yielded, *]; done)); go_simp; refine hK _ ?_; clear hK K)
    first | (refine Ord.St.rd2 (T' := ?_) 8 [9, 10, 11] _ _ rfl (by kernel_rfl) ?_ rfl rfl rfl (fun K hk => ?_) ?_; rotate_left; (first | rfl | (simp [Region.wanted, yielded, *]; done)); focus (go_step; exact hk)) | (refine Ord.St.skipr 8 [9, 10, 11] _ rfl (by kernel_rfl) ?_ (fun K hK => ?_); (first | rfl | (simp [Region.wanted, yielded, *]; done)); go_simp; refine hK _ ?_; clear hK K)
    first | (refine Ord.St.fl2 (T' := ?_) 9 [10, 11] _ _ rfl (by kernel_rfl) ?_ rfl rfl rfl (fun K w' hk => ?_) ?_; rotate_left; (first | rfl | (simp [Region.wanted, yielded, *]; done)); focus (go_step; exact hk)) | (refine Ord.St.skip 9 [10, 11] _ rfl (by kernel_rfl) ?_ (fun K hK => ?_); (first | rfl | (simp [Region.wanted, yielded, *]; done)); go_simp; refine hK _ ?_; clear hK K)
    refine Ord.St.fl2 (T' := ?_) 10 [11] _ _ rfl (by kernel_rfl) rfl rfl rfl rfl (fun K w' hk => ?_) ?_
    rotate_left
    · go_step; exact hk
    refine Ord.St.fl2 (T' := ?_) 11 [] _ _ rfl (by kernel_rfl) rfl rfl rfl rfl (fun K w' hk => ?_) ?_
    rotate_left
    · go_step; exact hk
    refine Ord.St.nil ?_
    go_wp2
    go_ret
    exact ⟨rfl, ((Ch.refl _ _).alloc _).drew⟩
end
end Go.Proofs.Ytndcgfnlgcincaa
namespace Go.Proofs.Ytndcgfnlgcincaa
open Go.RowKit Go.Mem Go.Aig

theorem fnvCut1 : Fnv 75 := fnv_of Try.func75 (by simp [Try.f75]) (by simp [Try.f75])
set_option maxRecDepth 100000 in
set_option maxHeartbeats 1000000 in
theorem Cut1_is {w : World} {bx : Nat} (n : Nat) (x : Nat) (hx : x ≤ 1000000) (h : w.cell? ⟨bx, 0, none⟩ = some (.int .i64 n)) :
    Calls Try.prog 75 (#[.int .i64 x] ++ #[.pointer (some ⟨bx, 0, none⟩)]) w fun e w' => e = .returned (.bool (decide (n ≤ x / 2))) ∧ w = w' := by
  show Calls Try.prog 75 #[.int .i64 x, .pointer (some ⟨bx, 0, none⟩)] w _
  go_enter Try.func75, Try.ntmps75
  go_wp2_with fail
  go_ret
  refine ⟨ret_bool ?_, rfl⟩
  rw [Bool.eq_iff_iff]
  simp
  try omega

theorem ints_refs (l : List Nat) : ints (l.map fun (r : Nat) => (r : Int)) = refsCells l := by simp [ints, refsCells]

theorem row.take {w : World} {e : TypeId} {size g n cap m : Nat} {xs : List Value} (h : row w e size (.slice (some ⟨g, 0, none⟩) n cap) n xs) (hm : m ≤ n) : row w e size (.slice (some ⟨g, 0, none⟩) m cap) m (xs.take (m * size)) := by
  have hms : m * size ≤ n * size := Nat.mul_le_mul_right _ hm
  refine ⟨by rw [List.length_take, h.1]; omega, ?_⟩
  rcases h.2 with ⟨e1, _⟩ | ⟨g', cap', cur, e1, hb, hg, hle, hmx, hs, ht⟩
  · cases e1
  · cases e1
    refine .inr ⟨g, cap, cur, rfl, hb, hg, by omega, hmx, hs, ?_⟩
    rw [← ht, List.take_take, Nat.min_eq_left hms]
theorem nodesCells_take : ∀ (ns : List Nd) (n : Nat), nodesCells (ns.take n) = (nodesCells ns).take (n * 4)
  | [], n => by simp [nodesCells]
  | x :: ns, 0 => by simp [nodesCells]
  | x :: ns, n + 1 => by
    simp only [List.take_succ_cons, nodesCells, nodesCells_take ns n]
    rw [List.take_append, show (n + 1) * 4 = n * 4 + 4 from by omega]
    have : (nodeCells x).length = 4 := rfl
    rw [this, List.take_of_length_le (l := nodeCells x) (by rw [this]; omega)]
    congr 2

theorem DF_inputs {W : World} {iv : Value} {ns : List Nd} {bx n : Nat} (hrow : row W 26 1 iv (inputs ns).length (refsCells (inputs ns))) (hb : W.cell? ⟨bx, 0, none⟩ = some (.int .i64 n)) (hn : n ≤ ns.length) (hs : ns.length ≤ 65536) :
    Calls Try.prog 74 #[iv, .func (.func 75) #[] #[.pointer (some ⟨bx, 0, none⟩)]] W fun e w' => ∃ iv', e = .returned iv' ∧ row w' 26 1 iv' (inputs (ns.take n)).length (refsCells (inputs (ns.take n))) ∧ Ch iv.ownBlock.toList W w' ∧ iv'.ownBlock = iv.ownBlock := by
  obtain ⟨l, hl, hlo⟩ := inputs_take ns n
  have hsm : ∀ r ∈ inputs (ns.take n), r < 2 * n := fun r hr => by
    have := (inputsFrom_ge _ _ _ hr).2.2
    simp at this; omega
  have hbd : ∀ r ∈ inputs ns, r < 2 * ns.length := fun r hr => by have := (inputsFrom_ge _ _ _ hr).2.2; simpa using this
  rw [Nat.min_eq_left hn] at hlo
  let p : Int → Bool := fun x => decide ((n : Int) ≤ x / 2)
  have hp : ∀ x : Nat, p x = decide (n ≤ x / 2) := fun x => by show decide ((n : Int) ≤ (x : Int) / 2) = _; rw [Bool.eq_iff_iff]; simp; omega
  let xs : List Int := (inputs ns).map fun (r : Nat) => (r : Int)
  have hxl : xs.length = (inputs ns).length := by simp [xs]
  have hrow' : row W 26 1 iv (inputs ns).length (ints xs) := by rw [ints_refs]; exact hrow
  have hf : ∀ x ∈ xs, Calls Try.prog 75 (#[.int .i64 x] ++ #[.pointer (some ⟨bx, 0, none⟩)]) W fun e w' => e = .returned (.bool (p x)) ∧ W = w' := by
    intro x hx
    obtain ⟨r, hr, rfl⟩ := List.mem_map.1 hx
    rw [hp]
    exact Cut1_is n r (by have := hbd r hr; omega) hb
  have hget : ∀ (j : Nat) (x : Int), xs[j]? = some x → ∃ r : Nat, (inputs ns)[j]? = some r ∧ x = r := by
    intro j x hx
    simp only [xs, List.getElem?_map] at hx
    cases hr : (inputs ns)[j]? with
    | none => rw [hr] at hx; cases hx
    | some r => rw [hr] at hx; cases hx; exact ⟨r, rfl, rfl⟩
  have hlow : ∀ (j : Nat) (x : Int), j < (inputs (ns.take n)).length → xs[j]? = some x → p x = false := by
    intro j x hj hx
    obtain ⟨r, hr, rfl⟩ := hget j x hx
    rw [hl, List.getElem?_append_left hj] at hr
    have := hsm r (List.mem_of_getElem? hr)
    rw [hp]; simp; omega
  have hhigh : ∀ (j : Nat) (x : Int), (inputs (ns.take n)).length ≤ j → xs[j]? = some x → p x = true := by
    intro j x hj hx
    obtain ⟨r, hr, rfl⟩ := hget j x hx
    rw [hl, List.getElem?_append_right hj] at hr
    have := hlo r (List.mem_of_getElem? hr)
    rw [hp]; simp; omega
  have hlen : (inputs ns).length = (inputs (ns.take n)).length + l.length := by rw [hl, List.length_append]
  by_cases hz : l = []
  · have e : inputs ns = inputs (ns.take n) := by rw [hl, hz, List.append_nil]
    have hno : idxOf p xs = -1 := idxOf_no fun j x hx => hlow j x (by have := (List.getElem?_eq_some_iff.1 hx).1; rw [hxl, e] at this; exact this) hx
    have key : ∀ (a : Option Addr) (cap : Nat), iv = .slice a (inputs ns).length cap → Sl W a xs → Calls Try.prog 74 #[iv, .func (.func 75) #[] #[.pointer (some ⟨bx, 0, none⟩)]] W fun e w' => ∃ iv', e = .returned iv' ∧ row w' 26 1 iv' (inputs (ns.take n)).length (refsCells (inputs (ns.take n))) ∧ Ch iv.ownBlock.toList W w' ∧ iv'.ownBlock = iv.ownBlock := by
      intro a cap hiv hsl
      have := DFref_none cap 75 #[.pointer (some ⟨bx, 0, none⟩)] p hsl hf fnvCut1 hno
      rw [hxl] at this
      rw [hiv] at hrow ⊢
      refine this.mono ?_
      rintro e' w' ⟨rfl, rfl⟩
      rw [← e]
      exact ⟨_, rfl, hrow, Ch.refl _ _, rfl⟩
    rcases hrow.2 with ⟨h1, h2⟩ | ⟨g', cap, cur, h1, _⟩
    · refine key none 0 (by rw [h2]; exact h1) (row.sl (xs := xs) (by rw [hxl]; exact hrow') h1)
    · exact key _ cap h1 (row.sl (xs := xs) (by rw [hxl]; exact hrow') h1)
  · have hpos : 0 < l.length := List.length_pos_iff.2 hz
    rcases hrow.2 with ⟨h1, h2⟩ | ⟨g', cap, cur, h1, _⟩
    · omega
    · rw [h1] at hrow' ⊢
      have hlt : (inputs (ns.take n)).length < xs.length := by omega
      have hidx : idxOf p xs = ((inputs (ns.take n)).length : Int) := idxOf_yes (List.getElem?_eq_getElem hlt) (hhigh _ _ (Nat.le_refl _) (List.getElem?_eq_getElem hlt)) (fun j y hj hy => hlow j y hj hy)
      have := DFref_tail 75 #[.pointer (some ⟨bx, 0, none⟩)] p hrow' hxl hf fnvCut1 (inputs (ns.take n)).length (by omega) hidx hhigh
      refine this.mono ?_
      rintro e' w' ⟨rfl, hr, hc⟩
      refine ⟨_, rfl, ?_, by simpa using hc, by simp⟩
      have ht : xs.take (inputs (ns.take n)).length = (inputs (ns.take n)).map fun (r : Nat) => (r : Int) := by
        simp only [xs]
        rw [← List.map_take]
        conv => lhs; rw [hl]
        rw [List.take_left]
      rw [ht, ints_refs] at hr
      exact hr
end Go.Proofs.Ytndcgfnlgcincaa
namespace Go.Proofs.Ytndcgfnlgcincaa
open Go.RowKit Go.Mem Go.Aig
theorem dep_bd {ns : List Nd} (h : WF ns) {m : Nat} {x : Nd} (hx : ns[m]? = some x) (hs : ns.length ≤ 65536) : x.k ≤ 3 ∧ x.l ≤ 131072 ∧ x.r ≤ 131072 ∧ x.d ≤ 65536 := by
  have hm := (List.getElem?_eq_some_iff.1 hx).1
  have hd := h.low m x hx
  by_cases h0 : m = 0
  · subst h0
    rw [h.const] at hx; cases hx
    simp
  · rcases h.other m x hx (by omega) with rfl | ⟨h1, h2, h3, h4, h5, h6⟩
    · simp
    · omega
section
variable {w : World} {g : Nat} {G : Gra} {nb ncap : Nat} {iv : Value} {mb : Nat}
theorem row.shape {w : World} {e : TypeId} {size : Nat} {v : Value} {n : Nat} {xs : List Value} (h : row w e size v n xs) : ∃ a c, v = .slice a n c := by
  rcases h.2 with ⟨e1, h0⟩ | ⟨g', cap', cur, e1, _⟩
  · exact ⟨none, 0, by rw [e1, h0]⟩
  · exact ⟨_, _, e1⟩
theorem GM.cap (h : GM w g G nb ncap iv mb) : G.nodes.length ≤ ncap ∧ ncap ≤ 9223372036854775807 := by
  rcases h.nodes.2 with ⟨e, _⟩ | ⟨g', cap', cur, e, _, hg, hle, hm, _⟩
  · cases e
  · cases e; unfold maxLen at hm; exact ⟨hle, by omega⟩

set_option maxRecDepth 100000 in
set_option maxHeartbeats 4000000 in
theorem Cut_lt (n : Nat) (h : GM w g G nb ncap iv mb) (hn : 1 ≤ n) (hle : n ≤ G.nodes.length) (hcn : ¬ ncap = n) :
    Calls Try.prog 60 #[.pointer (some ⟨g, 0, none⟩), .int .i64 n] w fun e w' => e = .returned (.int .i64 0) ∧ ∃ iv', GM w' g { G with nodes := G.nodes.take n } nb ncap iv' mb ∧ iv'.ownBlock = iv.ownBlock ∧ Ch (fp g nb mb iv) w w' := by
  have ⟨c0, c1, c2, c3⟩ := h.c
  have ⟨hl, hln, hlm, hli⟩ := h.lt
  have hm := h.ok.most
  have hr := h.ok.room
  have ⟨hcap, hcap2⟩ := h.cap
  have hd1 : decide ((n : Int) < 1) = false := decide_eq_false (by omega)
  have hd2 : decide ((G.nodes.length : Int) < n) = false := decide_eq_false (by omega)
  have hd3 : decide (G.nodes.length < n) = false := decide_eq_false (by omega)
  have hC0 : Ch [] w ((w.alloc (.cells #[.int .i64 n] 3)).drew) := ((Ch.refl _ _).alloc _).drew
  have HN := none_no (h.ch (F := []) ((Ch.refl _ _).alloc (.cells #[.int .i64 n] 3)) (by simp))
  have H := Lib.hid h; clear h
  have Hli := Lib.hid hli; clear hli
  have HC0 := Lib.hid hC0; clear hC0
  have f1 : w.frozen? ⟨g, 1, none⟩ = false := H.out.st.frozen
  have f3 : w.frozen? ⟨g, 3, none⟩ = false := H.out.st.frozen
  go_enter Try.func60, Try.ntmps60
  go_wp2_with fail
  refine HN.mono ?_
  rintro e w' ⟨rfl, rfl⟩
  go_wp2_with fail
  refine Ord.St.door (fun _ => True) [.rd, .fl, .fl, .rd, .fl, .fl, .fl, .rd, .rd, .fl, .fl, .fl] [0, 1, 3, 7, 7, 23, 55, 119, 247, 511, 1023, 2047] [0, 1, 2, 3, 4, 5, 6, 7, 8, 9, 10, 11] mixed (by kernel_rfl) rfl ?_
  refine Ord.St.rd2 (T' := ?_) 0 [1, 2, 3, 4, 5, 6, 7, 8, 9, 10, 11] _ _ rfl (by kernel_rfl) rfl rfl rfl rfl (fun K hk => ?_) ?_
  rotate_left
  · go_step; exact hk
  refine Ord.St.fl2 (T' := ?_) 1 [2, 3, 4, 5, 6, 7, 8, 9, 10, 11] _ _ rfl (by kernel_rfl) rfl rfl rfl rfl (fun K w' hk => ?_) ?_
  rotate_left
  · go_step; exact hk
  refine Ord.St.fl2 (T' := ?_) 2 [3, 4, 5, 6, 7, 8, 9, 10, 11] _ _ rfl (by kernel_rfl) rfl rfl rfl rfl (fun K w' hk => ?_) ?_
  rotate_left
  · go_step; exact hk
  first | (refine Ord.St.rd2 (T' := ?_) 3 [4, 5, 6, 7, 8, 9, 10, 11] _ _ rfl (by kernel_rfl) ?_ rfl rfl rfl (fun K hk => ?_) ?_; rotate_left; (first | rfl | (simp [Region.wanted, yielded, *]; done)); focus (go_step; exact hk)) | (refine Ord.St.skipr 3 [4, 5, 6, 7, 8, 9, 10, 11] _ rfl (by kernel_rfl) ?_ (fun K hK => ?_); (first | rfl | (simp [Region.wanted, yielded, *]; done)); go_simp; refine hK _ ?_; clear hK K)
  first | (refine Ord.St.fl2 (T' := ?_) 4 [5, 6, 7, 8, 9, 10, 11] _ _ rfl (by kernel_rfl) ?_ rfl rfl rfl (fun K w' hk => ?_) ?_; rotate_left; (first | rfl | (simp [Region.wanted, yielded, *]; done)); focus (go_step; exact hk)) | (refine Ord.St.skip 4 [5, 6, 7, 8, 9, 10, 11] _ rfl (by kernel_rfl) ?_ (fun K hK => ?_); (first | rfl | (simp [Region.wanted, yielded, *]; done)); go_simp; refine hK _ ?_; clear hK K)
  first | (refine Ord.St.fl2 (T' := ?_) 5 [6, 7, 8, 9, 10, 11] _ _ rfl (by kernel_rfl) ?_ rfl rfl rfl (fun K w' hk => ?_) ?_; rotate_left; (first | rfl | (simp [Region.wanted, yielded, *]; done)); focus (go_step; exact hk)) | (refine Ord.St.skip 5 [6, 7, 8, 9, 10, 11] _ rfl (by kernel_rfl) ?_ (fun K hK => ?_); (first | rfl | (simp [Region.wanted, yielded, *]; done)); go_simp; refine hK _ ?_; clear hK K)
  first | (refine Ord.St.fl2 (T' := ?_) 6 [7, 8, 9, 10, 11] _ _ rfl (by kernel_rfl) ?_ rfl rfl rfl (fun K w' hk => ?_) ?_; rotate_left; (first | rfl | (simp [Region.wanted, yielded, *]; done)); focus (go_step; exact hk)) | (refine Ord.St.skip 6 [7, 8, 9, 10, 11] _ rfl (by kernel_rfl) ?_ (fun K hK => ?_); (first | rfl | (simp [Region.wanted, yielded, *]; done)); go_simp; refine hK _ ?_; clear hK K)
  first | (refine Ord.St.rd2 (T' := ?_) 7 [8, 9, 10, 11] _ _ rfl (by kernel_rfl) ?_ rfl rfl rfl (fun K hk => ?_) ?_; rotate_left; (first | rfl | (simp [Region.wanted, yielded, *]; done)); focus (go_step; exact hk)) | (refine Ord.St.skipr 7 [8, 9, 10, 11] _ rfl (by kernel_rfl) ?_ (fun K hK => ?_); (first | rfl | (simp [Region.wanted, yielded, *]; done)); go_simp; refine hK _ ?_; clear hK K)
  first | (refine Ord.St.rd2 (T' := ?_) 8 [9, 10, 11] _ _ rfl (by kernel_rfl) ?_ rfl rfl rfl (fun K hk => ?_) ?_; rotate_left; (first | rfl | (simp [Region.wanted, yielded, *]; done)); focus (go_step; exact hk)) | (refine Ord.St.skipr 8 [9, 10, 11] _ rfl (by kernel_rfl) ?_ (fun K hK => ?_); (first | rfl | (simp [Region.wanted, yielded, *]; done)); go_simp; refine hK _ ?_; clear hK K)
  first | (refine Ord.St.fl2 (T' := ?_) 9 [10, 11] _ _ rfl (by kernel_rfl) ?_ rfl rfl rfl (fun K w' hk => ?_) ?_; rotate_left; (first | rfl | (simp [Region.wanted, yielded, *]; done)); focus (go_step; exact hk)) | (refine Ord.St.skip 9 [10, 11] _ rfl (by kernel_rfl) ?_ (fun K hK => ?_); (first | rfl | (simp [Region.wanted, yielded, *]; done)); go_simp; refine hK _ ?_; clear hK K)
  refine Ord.St.fl2 (T' := ?_) 10 [11] _ _ rfl (by kernel_rfl) rfl rfl rfl rfl (fun K w' hk => ?_) ?_
  rotate_left
  · go_step; exact hk
  refine Ord.St.fl2 (T' := ?_) 11 [] _ _ rfl (by kernel_rfl) rfl rfl rfl rfl (fun K w' hk => ?_) ?_
  rotate_left
  · go_step; exact hk
  refine Ord.St.nil ?_
  go_wp2
  refine Ord.St.door (fun _ => True) [.fl, .fl, .fl, .rd, .rd, .fl, .rd, .fl] [0, 1, 3, 7, 0, 31, 63, 0] [0, 1, 2, 3, 4, 5, 6, 7] mixed (by kernel_rfl) rfl ?_
  refine Ord.St.fl2 (T' := ?_) 0 [1, 2, 3, 4, 5, 6, 7] _ _ rfl (by kernel_rfl) rfl rfl rfl rfl (fun K w' hk => ?_) ?_
  rotate_left
  · go_step; exact hk
  refine Ord.St.fl2 (T' := ?_) 1 [2, 3, 4, 5, 6, 7] _ _ rfl (by kernel_rfl) rfl rfl rfl rfl (fun K w' hk => ?_) ?_
  rotate_left
  · go_step; exact hk
  refine Ord.St.fl2 (T' := ?_) 2 [3, 4, 5, 6, 7] _ _ rfl (by kernel_rfl) rfl rfl rfl rfl (fun K w' hk => ?_) ?_
  rotate_left
  · go_step; exact hk
  refine Ord.St.rd2 (T' := ?_) 3 [4, 5, 6, 7] _ _ rfl (by kernel_rfl) rfl rfl rfl rfl (fun K hk => ?_) ?_
  rotate_left
  · go_step; exact hk
  refine Ord.St.rd2 (T' := ?_) 4 [5, 6, 7] _ _ rfl (by kernel_rfl) rfl rfl rfl rfl (fun K hk => ?_) ?_
  rotate_left
  · go_step; exact hk
  refine Ord.St.fl2 (T' := ?_) 5 [6, 7] _ _ rfl (by kernel_rfl) rfl rfl rfl rfl (fun K w' hk => ?_) ?_
  rotate_left
  · go_step; exact hk
  refine Ord.St.rd2 (T' := ?_) 6 [7] _ _ rfl (by kernel_rfl) rfl rfl rfl rfl (fun K hk => ?_) ?_
  rotate_left
  · go_step; exact hk
  refine Ord.St.fl2 (T' := ?_) 7 [] _ _ rfl (by kernel_rfl) rfl rfl rfl rfl (fun K w' hk => ?_) ?_
  rotate_left
  · go_step; exact hk
  refine Ord.St.nil ?_
  go_wp2
  have hS : ∃ es clock, ((w.alloc (.cells #[.int .i64 n] 3)).drew.drew).heap[mb]? = some (.map es clock) ∧ MapOn es.toList G.nodes (fun m => m < n ∨ n + 0 ≤ m) := by
    obtain ⟨es, clock, hmap, hmo⟩ := H.out.mp
    exact ⟨es, clock, (HC0.out.block mb hlm (by simp)).trans hmap, hmo.on (fun m _ => by omega)⟩
  have b0 : ((w.alloc (.cells #[.int .i64 n] 3)).drew.drew).cell? ⟨w.heap.size, 0, none⟩ = some (.int .i64 n) := by go_simp
  have hCW : Ch [] w ((w.alloc (.cells #[.int .i64 n] 3)).drew.drew) := HC0.out.drew
  have hz0 : ((w.alloc (.cells #[.int .i64 n] 3)).drew.drew).heap.size = w.heap.size + 1 := by simp
  have HS := Lib.hid hS; clear hS
  have B0 := Lib.hid b0; clear b0
  have HCW := Lib.hid hCW; clear hCW
  have HZ := Lib.hid hz0; clear hz0
  generalize (w.alloc (.cells #[.int .i64 n] 3)).drew.drew = W0 at *
  go_loopw [29] (fun i wr => ∃ k : Nat, k ≤ G.nodes.length - n ∧ i = .int .i64 k ∧ Ch [mb] W0 wr ∧ ∃ es clock, wr.heap[mb]? = some (.map es clock) ∧ MapOn es.toList G.nodes (fun m => m < n ∨ n + k ≤ m)) (fun i _ => G.nodes.length - n - (intOf i).toNat)
  case atStart => exact ⟨0, Nat.zero_le _, rfl, Ch.refl _ _, HS.out⟩
  case round =>
    obtain ⟨k, hk, rfl, hc, hmap⟩ := hrel
    have hcw : Ch [mb] w wr := (HCW.out.mono (by simp)).trans hc (by simp)
    have hzr := hc.size
    have hgz := HZ.out
    have HMAP := Lib.hid hmap; clear hmap
    have hgm' : g ∉ [mb] := by simp [H.out.gm]
    have st := H.out.st.ch hcw hgm'
    have d0 : wr.cell? ⟨g, 0, none⟩ = some _ := st.cell rfl
    have d1 : wr.cell? ⟨g, 1, none⟩ = some _ := st.cell rfl
    have d2 : wr.cell? ⟨g, 2, none⟩ = some _ := st.cell rfl
    have d3 : wr.cell? ⟨g, 3, none⟩ = some _ := st.cell rfl
    have e1 : wr.frozen? ⟨g, 1, none⟩ = false := st.frozen
    have e3 : wr.frozen? ⟨g, 3, none⟩ = false := st.frozen
    have hbx : wr.cell? ⟨w.heap.size, 0, none⟩ = some (.int .i64 n) := (hc.cell (by show w.heap.size < _; omega) (by simp; omega)).trans B0.out
    clear c0 c1 c2 c3 f1 f3
    have HST := Lib.hid st; clear st hgm'
    have HC := Lib.hid hc; clear hc
    have HCR := Lib.hid hcw; clear hcw
    have hzz : w.heap.size + 1 ≤ wr.heap.size := by omega
    clear hzr hgz
    by_cases hlt : k < G.nodes.length - n
    · have hlt' : n + k < G.nodes.length := by omega
      have hxg : G.nodes[n + k]? = some G.nodes[n + k] := List.getElem?_eq_getElem hlt'
      generalize G.nodes[n + k] = x at hxg
      have ⟨xk, xl, xr, xd⟩ := dep_bd H.out.ok.1 hxg (by omega)
      have hnbw := HCR.out
      have ⟨n0, n1, n2, n3⟩ := H.out.node hxg
      have hs1 : (n + k) * 4 = n * 4 + k * 4 := by omega
      rw [hs1] at n0 n1 n2 n3
      have hnm : nb ∉ [mb] := by simp [H.out.mn.symm]
      have n0 := (HCR.out.cell (p := ⟨nb, n * 4 + k * 4, none⟩) hln hnm).trans n0
      have n1 := (HCR.out.cell (p := ⟨nb, n * 4 + k * 4 + 1, none⟩) hln hnm).trans n1
      have n2 := (HCR.out.cell (p := ⟨nb, n * 4 + k * 4 + 2, none⟩) hln hnm).trans n2
      have n3 := (HCR.out.cell (p := ⟨nb, n * 4 + k * 4 + 3, none⟩) hln hnm).trans n3
      clear hnbw
      have hdk : decide ((k : Int) < (G.nodes.length - n : Nat)) = true := decide_eq_true (by omega)
      have hgr : g < wr.heap.size := by omega
      have hlmr : mb < wr.heap.size := by have := HC.out.size; have := HZ.out; omega
      have hwa : ∀ (T : TypeId) cs, (wr.alloc (.cells cs T)).heap[mb]? = wr.heap[mb]? := fun T cs => by
        exact ((Ch.refl [] wr).alloc _).block mb hlmr (by simp)
      have hcm : ((n + k : Nat) : Int) = n + k := by omega
      by_cases hx3 : x.k = 3
      · have hb3 : ((x.k : Int) == 3) = true := by rw [hx3]; rfl
        have hmr : ∃ es clock, ((wr.alloc (.cells #[.int .u8 x.k, .int .i64 x.l, .int .i64 x.r, .int .i64 x.d] 91)).drew).heap[mb]? = some (.map es clock) ∧ MapOn es.toList G.nodes (fun m => m < n ∨ n + k ≤ m) := by
          obtain ⟨es, clock, h1, h2⟩ := HMAP.out
          exact ⟨es, clock, (hwa _ _).trans h1, h2⟩
        obtain ⟨w2, hrun, hmap2, hcd⟩ := delete_is hmr H.out.ok.1 (n := n + k) (x := x) (.inr (Nat.le_refl _)) hxg hx3
        have HM2 := Lib.hid hmap2; clear hmap2 hmr
        have HCD := Lib.hid hcd; clear hcd
        clear hwa hlmr
        have HX3 := Lib.hid hx3; clear hx3
        go_wp2_with fail
        refine Ord.St.door (fun _ => True) [.fl, .fl, .fl, .rd, .fl, .rd, .ef] [0, 1, 3, 7, 0, 16, 63] [0, 1, 2, 3, 4, 5, 6] mixed (by kernel_rfl) rfl ?_
        refine Ord.St.fl2 (T' := ?_) 0 [1, 2, 3, 4, 5, 6] _ _ rfl (by kernel_rfl) rfl rfl rfl rfl (fun K w' hk => ?_) ?_
        rotate_left
        · go_step; exact hk
        refine Ord.St.fl2 (T' := ?_) 1 [2, 3, 4, 5, 6] _ _ rfl (by kernel_rfl) rfl rfl rfl rfl (fun K w' hk => ?_) ?_
        rotate_left
        · go_step; exact hk
        refine Ord.St.fl2 (T' := ?_) 2 [3, 4, 5, 6] _ _ rfl (by kernel_rfl) rfl rfl rfl rfl (fun K w' hk => ?_) ?_
        rotate_left
        · go_step; exact hk
        refine Ord.St.rd2 (T' := ?_) 3 [4, 5, 6] _ _ rfl (by kernel_rfl) rfl rfl rfl rfl (fun K hk => ?_) ?_
        rotate_left
        · go_step; exact hk
        refine Ord.St.fl2 (T' := ?_) 4 [5, 6] _ _ rfl (by kernel_rfl) rfl rfl rfl rfl (fun K w' hk => ?_) ?_
        rotate_left
        · go_step; exact hk
        refine Ord.St.rd2 (T' := ?_) 5 [6] _ _ rfl (by kernel_rfl) rfl rfl rfl rfl (fun K hk => ?_) ?_
        rotate_left
        · go_step; exact hk
        refine Ord.St.ef 6 [] _ rfl (by kernel_rfl) (fun K hK => ?_)
        go_wp2_with fail
        refine ⟨rfl, hK _ _ ?_⟩; clear hK K
        refine Ord.St.nil ?_
        go_wp2_with fail
        go_roundw
        case rel =>
          refine ⟨k + 1, by omega, by go_num, ?_, ?_⟩
          · exact ((HC.out.alloc _).drew).trans HCD.out (by simp)
          · obtain ⟨es, clock, h1, h2⟩ := HM2.out
            exact ⟨es, clock, h1, h2.mono (fun m y hm hy _ => by omega) (fun m y hm hy _ => by omega)⟩
        case measure => simp [intOf]; omega
      · have hb3 : ((x.k : Int) == 3) = false := beqN (by omega)
        go_wp2_with fail
        go_roundw
        case rel =>
          refine ⟨k + 1, by omega, by go_num, HC.out.alloc _, ?_⟩
          obtain ⟨es, clock, h1, h2⟩ := HMAP.out
          refine ⟨es, clock, (hwa _ _).trans h1, h2.mono (fun m y hm hy hky => ?_) (fun m y hm hy _ => by omega)⟩
          have : m ≠ n + k := by
            rintro rfl
            rw [hxg] at hy; cases hy
            exact hx3 hky
          omega
        case measure => simp [intOf]; omega
    · go_wp2_with fail
      refine Ord.St.door (fun _ => True) [.fl, .fl, .fl, .fl, .rd, .rd, .fl, .fl, .fl, .ef] [0, 0, 2, 6, 14, 0, 62, 127, 255, 511] [0, 1, 2, 3, 4, 5, 6, 7, 8, 9] mixed (by kernel_rfl) rfl ?_
      refine Ord.St.fl2 (T' := ?_) 0 [1, 2, 3, 4, 5, 6, 7, 8, 9] _ _ rfl (by kernel_rfl) rfl rfl rfl rfl (fun K w' hk => ?_) ?_
      rotate_left
      · go_step; exact hk
      refine Ord.St.fl2 (T' := ?_) 1 [2, 3, 4, 5, 6, 7, 8, 9] _ _ rfl (by kernel_rfl) rfl rfl rfl rfl (fun K w' hk => ?_) ?_
      rotate_left
      · go_step; exact hk
      refine Ord.St.fl2 (T' := ?_) 2 [3, 4, 5, 6, 7, 8, 9] _ _ rfl (by kernel_rfl) rfl rfl rfl rfl (fun K w' hk => ?_) ?_
      rotate_left
      · go_step; exact hk
      refine Ord.St.fl2 (T' := ?_) 3 [4, 5, 6, 7, 8, 9] _ _ rfl (by kernel_rfl) rfl rfl rfl rfl (fun K w' hk => ?_) ?_
      rotate_left
      · go_step; exact hk
      refine Ord.St.rd2 (T' := ?_) 4 [5, 6, 7, 8, 9] _ _ rfl (by kernel_rfl) rfl rfl rfl rfl (fun K hk => ?_) ?_
      rotate_left
      · go_step; exact hk
      refine Ord.St.rd2 (T' := ?_) 5 [6, 7, 8, 9] _ _ rfl (by kernel_rfl) rfl rfl rfl rfl (fun K hk => ?_) ?_
      rotate_left
      · go_step; exact hk
      refine Ord.St.fl2 (T' := ?_) 6 [7, 8, 9] _ _ rfl (by kernel_rfl) rfl rfl rfl rfl (fun K w' hk => ?_) ?_
      rotate_left
      · go_step; exact hk
      refine Ord.St.fl2 (T' := ?_) 7 [8, 9] _ _ rfl (by kernel_rfl) rfl rfl rfl rfl (fun K w' hk => ?_) ?_
      rotate_left
      · go_step; exact hk
      refine Ord.St.fl2 (T' := ?_) 8 [9] _ _ rfl (by kernel_rfl) rfl rfl rfl rfl (fun K w' hk => ?_) ?_
      rotate_left
      · go_step; exact hk
      refine Ord.St.ef 9 [] _ rfl (by kernel_rfl) (fun K hK => ?_)
      go_wp2_with fail
      refine ⟨rfl, hK _ _ ?_⟩; clear hK K
      refine Ord.St.nil ?_
      have hC3 : Ch [g, mb] w ((wr.setCell ⟨g, 1, none⟩ (.slice (some ⟨nb, 0, none⟩) n ncap)).drew) := ((HCR.out.mono (F' := [g, mb]) (by simp)).setCell (by simp) _).drew
      have b3 : ((wr.setCell ⟨g, 1, none⟩ (.slice (some ⟨nb, 0, none⟩) n ncap)).drew).cell? ⟨w.heap.size, 0, none⟩ = some (.int .i64 n) := by go_simp
      have hrow := H.out.ins.ch hC3 (fun kk hkk => by have h1 := H.out.gi; have h2 := H.out.mi; rw [hkk] at h1 h2; simp only [Option.some.injEq, ne_eq] at h1 h2; simp [h1, h2])
      have HDF := DF_inputs hrow b3 hle (by omega)
      have HROW := Lib.hid hrow; clear hrow
      have HC3 := Lib.hid hC3; clear hC3
      clear b3
      have st3 := (HST.out.set (i := 1) (.slice (some ⟨nb, 0, none⟩) n ncap)).drew
      have HST3 := Lib.hid st3; clear st3
      have hz3 : w.heap.size + 1 ≤ ((wr.setCell ⟨g, 1, none⟩ (.slice (some ⟨nb, 0, none⟩) n ncap)).drew).heap.size := by simpa using hzz
      have hmap3 : ∃ es clock, ((wr.setCell ⟨g, 1, none⟩ (.slice (some ⟨nb, 0, none⟩) n ncap)).drew).heap[mb]? = some (.map es clock) ∧ MapOk es.toList (G.nodes.take n) := by
        obtain ⟨es, clock, h1, h2⟩ := HMAP.out
        refine ⟨es, clock, (Below.heap_setCell _ _ _ _ (by simpa using H.out.gm.symm)).trans h1, MapOn.take (h2.mono (fun m x hm hx _ => ?_) (fun m x hm _ _ => .inl hm))⟩
        have := (List.getElem?_eq_some_iff.1 hx).1
        omega
      have HMAP3 := Lib.hid hmap3; clear hmap3
      go_wp2_with fail
      generalize (wr.setCell ⟨g, 1, none⟩ (.slice (some ⟨nb, 0, none⟩) n ncap)).drew = W3 at *
      refine HDF.mono ?_
      rintro e w4 ⟨iv', rfl, hrow4, hc4, hob⟩
      have HROW4 := Lib.hid hrow4; clear hrow4
      have hgiv : g ∉ iv.ownBlock.toList := by have := H.out.gi; simpa [eq_comm] using this
      have st4 := HST3.out.ch hc4 hgiv
      have k3 : w4.cell? ⟨g, 3, none⟩ = some _ := st4.cell rfl
      have k3f : w4.frozen? ⟨g, 3, none⟩ = false := st4.frozen
      have HC4 := Lib.hid hc4; clear hc4
      have HOB := Lib.hid hob; clear hob
      have HST4 := Lib.hid st4; clear st4
      obtain ⟨ia, icap, hiv⟩ := row.shape HROW4.out
      rw [hiv]
      go_wp2_with fail
      go_ret
      rw [← hiv]
      have hcf : Ch (g :: mb :: iv.ownBlock.toList) w (w4.setCell ⟨g, 3, none⟩ iv') := Ch.setCell ((HC3.out.mono (F' := g :: mb :: iv.ownBlock.toList) (by simp)).trans HC4.out (fun kk hkk => .inl (by simp [hkk]))) (by simp) _
      have hni : ∀ kk, iv.ownBlock = some kk → kk ≠ g ∧ kk ≠ nb ∧ kk ≠ mb := fun kk hkk => ⟨by rintro rfl; exact H.out.gi hkk, by rintro rfl; exact H.out.ni hkk, by rintro rfl; exact H.out.mi hkk⟩
      have hnf : nb ∉ g :: mb :: iv.ownBlock.toList := by
        have h1 := H.out.ni
        have h2 := H.out.gn
        have h3 := H.out.mn
        simp [Ne.symm h2, Ne.symm h3]
        exact h1
      have hlt2 : (G.nodes.take n).length = n := by rw [List.length_take]; omega
      have hmbi : mb ∉ iv.ownBlock.toList := by have := H.out.mi; simpa [eq_comm] using this
      refine ⟨ret_int (by rfl), iv', ?_, HOB.out, ?_⟩
      · have hst := HST4.out.set (i := 3) iv'
        refine ⟨?_, ?_, ?_, ?_, H.out.gm, H.out.gn, H.out.mn, by rw [HOB.out]; exact H.out.gi, by rw [HOB.out]; exact H.out.ni, by rw [HOB.out]; exact H.out.mi, H.out.ok.take hn⟩
        · rw [hlt2]; exact hst
        · show row _ _ 4 (.slice (some ⟨nb, 0, none⟩) (G.nodes.take n).length ncap) (G.nodes.take n).length (nodesCells (G.nodes.take n))
          rw [hlt2, nodesCells_take]
          exact (row.take H.out.nodes hle).ch hcf (fun kk hkk => by cases hkk; exact hnf)
        · obtain ⟨es, clock, h1, h2⟩ := HMAP3.out
          exact ⟨es, clock, (Below.heap_setCell _ _ _ _ (by simpa using H.out.gm.symm)).trans ((HC4.out.block mb (Array.getElem?_eq_some_iff.1 h1).1 hmbi).trans h1), h2⟩
        · exact HROW4.out.ch (Ch.setCell (Ch.refl [g] _) (by simp) _) (fun kk hkk => by rw [HOB.out] at hkk; simp [(hni kk hkk).1])
      · exact hcf.mono (fun kk hkk => .inl (by simp [fp] at hkk ⊢; rcases hkk with rfl | rfl | h <;> simp [*]))

set_option maxRecDepth 100000 in
set_option maxHeartbeats 4000000 in
theorem Cut_eq (n : Nat) (h : GM w g G nb n iv mb) (hn : 1 ≤ n) (hle : n ≤ G.nodes.length) :
    Calls Try.prog 60 #[.pointer (some ⟨g, 0, none⟩), .int .i64 n] w fun e w' => e = .returned (.int .i64 0) ∧ ∃ iv', GM w' g { G with nodes := G.nodes.take n } nb n iv' mb ∧ iv'.ownBlock = iv.ownBlock ∧ Ch (fp g nb mb iv) w w' := by
  have ⟨c0, c1, c2, c3⟩ := h.c
  have ⟨hl, hln, hlm, hli⟩ := h.lt
  have hm := h.ok.most
  have hr := h.ok.room
  have ⟨hcap, hcap2⟩ := h.cap
  have hd1 : decide ((n : Int) < 1) = false := decide_eq_false (by omega)
  have hd2 : decide ((G.nodes.length : Int) < n) = false := decide_eq_false (by omega)
  have hd3 : decide (G.nodes.length < n) = false := decide_eq_false (by omega)
  have hC0 : Ch [] w ((w.alloc (.cells #[.int .i64 n] 3)).drew) := ((Ch.refl _ _).alloc _).drew
  have HN := none_no (h.ch (F := []) ((Ch.refl _ _).alloc (.cells #[.int .i64 n] 3)) (by simp))
  have H := Lib.hid h; clear h
  have Hli := Lib.hid hli; clear hli
  have HC0 := Lib.hid hC0; clear hC0
  have f1 : w.frozen? ⟨g, 1, none⟩ = false := H.out.st.frozen
  have f3 : w.frozen? ⟨g, 3, none⟩ = false := H.out.st.frozen
  go_enter Try.func60, Try.ntmps60
  go_wp2_with fail
  refine HN.mono ?_
  rintro e w' ⟨rfl, rfl⟩
  go_wp2_with fail
  refine Ord.St.door (fun _ => True) [.rd, .fl, .fl, .rd, .fl, .fl, .fl, .rd, .rd, .fl, .fl, .fl] [0, 1, 3, 7, 7, 23, 55, 119, 247, 511, 1023, 2047] [0, 1, 2, 3, 4, 5, 6, 7, 8, 9, 10, 11] mixed (by kernel_rfl) rfl ?_
  refine Ord.St.rd2 (T' := ?_) 0 [1, 2, 3, 4, 5, 6, 7, 8, 9, 10, 11] _ _ rfl (by kernel_rfl) rfl rfl rfl rfl (fun K hk => ?_) ?_
  rotate_left
  · go_step; exact hk
  refine Ord.St.fl2 (T' := ?_) 1 [2, 3, 4, 5, 6, 7, 8, 9, 10, 11] _ _ rfl (by kernel_rfl) rfl rfl rfl rfl (fun K w' hk => ?_) ?_
  rotate_left
  · go_step; exact hk
  refine Ord.St.fl2 (T' := ?_) 2 [3, 4, 5, 6, 7, 8, 9, 10, 11] _ _ rfl (by kernel_rfl) rfl rfl rfl rfl (fun K w' hk => ?_) ?_
  rotate_left
  · go_step; exact hk
  first | (refine Ord.St.rd2 (T' := ?_) 3 [4, 5, 6, 7, 8, 9, 10, 11] _ _ rfl (by kernel_rfl) ?_ rfl rfl rfl (fun K hk => ?_) ?_; rotate_left; (first | rfl | (simp [Region.wanted, yielded, *]; done)); focus (go_step; exact hk)) | (refine Ord.St.skipr 3 [4, 5, 6, 7, 8, 9, 10, 11] _ rfl (by kernel_rfl) ?_ (fun K hK => ?_); (first | rfl | (simp [Region.wanted, yielded, *]; done)); go_simp; refine hK _ ?_; clear hK K)
  first | (refine Ord.St.fl2 (T' := ?_) 4 [5, 6, 7, 8, 9, 10, 11] _ _ rfl (by kernel_rfl) ?_ rfl rfl rfl (fun K w' hk => ?_) ?_; rotate_left; (first | rfl | (simp [Region.wanted, yielded, *]; done)); focus (go_step; exact hk)) | (refine Ord.St.skip 4 [5, 6, 7, 8, 9, 10, 11] _ rfl (by kernel_rfl) ?_ (fun K hK => ?_); (first | rfl | (simp [Region.wanted, yielded, *]; done)); go_simp; refine hK _ ?_; clear hK K)
  first | (refine Ord.St.fl2 (T' := ?_) 5 [6, 7, 8, 9, 10, 11] _ _ rfl (by kernel_rfl) ?_ rfl rfl rfl (fun K w' hk => ?_) ?_; rotate_left; (first | rfl | (simp [Region.wanted, yielded, *]; done)); focus (go_step; exact hk)) | (refine Ord.St.skip 5 [6, 7, 8, 9, 10, 11] _ rfl (by kernel_rfl) ?_ (fun K hK => ?_); (first | rfl | (simp [Region.wanted, yielded, *]; done)); go_simp; refine hK _ ?_; clear hK K)
  first | (refine Ord.St.fl2 (T' := ?_) 6 [7, 8, 9, 10, 11] _ _ rfl (by kernel_rfl) ?_ rfl rfl rfl (fun K w' hk => ?_) ?_; rotate_left; (first | rfl | (simp [Region.wanted, yielded, *]; done)); focus (go_step; exact hk)) | (refine Ord.St.skip 6 [7, 8, 9, 10, 11] _ rfl (by kernel_rfl) ?_ (fun K hK => ?_); (first | rfl | (simp [Region.wanted, yielded, *]; done)); go_simp; refine hK _ ?_; clear hK K)
  first | (refine Ord.St.rd2 (T' := ?_) 7 [8, 9, 10, 11] _ _ rfl (by kernel_rfl) ?_ rfl rfl rfl (fun K hk => ?_) ?_; rotate_left; (first | rfl | (simp [Region.wanted, yielded, *]; done)); focus (go_step; exact hk)) | (refine Ord.St.skipr 7 [8, 9, 10, 11] _ rfl (by kernel_rfl) ?_ (fun K hK => ?_); (first | rfl | (simp [Region.wanted, yielded, *]; done)); go_simp; refine hK _ ?_; clear hK K)
  first | (refine Ord.St.rd2 (T' := ?_) 8 [9, 10, 11] _ _ rfl (by kernel_rfl) ?_ rfl rfl rfl (fun K hk => ?_) ?_; rotate_left; (first | rfl | (simp [Region.wanted, yielded, *]; done)); focus (go_step; exact hk)) | (refine Ord.St.skipr 8 [9, 10, 11] _ rfl (by kernel_rfl) ?_ (fun K hK => ?_); (first | rfl | (simp [Region.wanted, yielded, *]; done)); go_simp; refine hK _ ?_; clear hK K)
  first | (refine Ord.St.fl2 (T' := ?_) 9 [10, 11] _ _ rfl (by kernel_rfl) ?_ rfl rfl rfl (fun K w' hk => ?_) ?_; rotate_left; (first | rfl | (simp [Region.wanted, yielded, *]; done)); focus (go_step; exact hk)) | (refine Ord.St.skip 9 [10, 11] _ rfl (by kernel_rfl) ?_ (fun K hK => ?_); (first | rfl | (simp [Region.wanted, yielded, *]; done)); go_simp; refine hK _ ?_; clear hK K)
  refine Ord.St.fl2 (T' := ?_) 10 [11] _ _ rfl (by kernel_rfl) rfl rfl rfl rfl (fun K w' hk => ?_) ?_
  rotate_left
  · go_step; exact hk
  refine Ord.St.fl2 (T' := ?_) 11 [] _ _ rfl (by kernel_rfl) rfl rfl rfl rfl (fun K w' hk => ?_) ?_
  rotate_left
  · go_step; exact hk
  refine Ord.St.nil ?_
  go_wp2
  refine Ord.St.door (fun _ => True) [.fl, .fl, .fl, .rd, .rd, .fl, .rd, .fl] [0, 1, 3, 7, 0, 31, 63, 0] [0, 1, 2, 3, 4, 5, 6, 7] mixed (by kernel_rfl) rfl ?_
  refine Ord.St.fl2 (T' := ?_) 0 [1, 2, 3, 4, 5, 6, 7] _ _ rfl (by kernel_rfl) rfl rfl rfl rfl (fun K w' hk => ?_) ?_
  rotate_left
  · go_step; exact hk
  refine Ord.St.fl2 (T' := ?_) 1 [2, 3, 4, 5, 6, 7] _ _ rfl (by kernel_rfl) rfl rfl rfl rfl (fun K w' hk => ?_) ?_
  rotate_left
  · go_step; exact hk
  refine Ord.St.fl2 (T' := ?_) 2 [3, 4, 5, 6, 7] _ _ rfl (by kernel_rfl) rfl rfl rfl rfl (fun K w' hk => ?_) ?_
  rotate_left
  · go_step; exact hk
  refine Ord.St.rd2 (T' := ?_) 3 [4, 5, 6, 7] _ _ rfl (by kernel_rfl) rfl rfl rfl rfl (fun K hk => ?_) ?_
  rotate_left
  · go_step; exact hk
  refine Ord.St.rd2 (T' := ?_) 4 [5, 6, 7] _ _ rfl (by kernel_rfl) rfl rfl rfl rfl (fun K hk => ?_) ?_
  rotate_left
  · go_step; exact hk
  refine Ord.St.fl2 (T' := ?_) 5 [6, 7] _ _ rfl (by kernel_rfl) rfl rfl rfl rfl (fun K w' hk => ?_) ?_
  rotate_left
  · go_step; exact hk
  refine Ord.St.rd2 (T' := ?_) 6 [7] _ _ rfl (by kernel_rfl) rfl rfl rfl rfl (fun K hk => ?_) ?_
  rotate_left
  · go_step; exact hk
  refine Ord.St.fl2 (T' := ?_) 7 [] _ _ rfl (by kernel_rfl) rfl rfl rfl rfl (fun K w' hk => ?_) ?_
  rotate_left
  · go_step; exact hk
  refine Ord.St.nil ?_
  go_wp2
  have hS : ∃ es clock, ((w.alloc (.cells #[.int .i64 n] 3)).drew.drew).heap[mb]? = some (.map es clock) ∧ MapOn es.toList G.nodes (fun m => m < n ∨ n + 0 ≤ m) := by
    obtain ⟨es, clock, hmap, hmo⟩ := H.out.mp
    exact ⟨es, clock, (HC0.out.block mb hlm (by simp)).trans hmap, hmo.on (fun m _ => by omega)⟩
  have b0 : ((w.alloc (.cells #[.int .i64 n] 3)).drew.drew).cell? ⟨w.heap.size, 0, none⟩ = some (.int .i64 n) := by go_simp
  have hCW : Ch [] w ((w.alloc (.cells #[.int .i64 n] 3)).drew.drew) := HC0.out.drew
  have hz0 : ((w.alloc (.cells #[.int .i64 n] 3)).drew.drew).heap.size = w.heap.size + 1 := by simp
  have HS := Lib.hid hS; clear hS
  have B0 := Lib.hid b0; clear b0
  have HCW := Lib.hid hCW; clear hCW
  have HZ := Lib.hid hz0; clear hz0
  generalize (w.alloc (.cells #[.int .i64 n] 3)).drew.drew = W0 at *
  go_loopw [29] (fun i wr => ∃ k : Nat, k ≤ G.nodes.length - n ∧ i = .int .i64 k ∧ Ch [mb] W0 wr ∧ ∃ es clock, wr.heap[mb]? = some (.map es clock) ∧ MapOn es.toList G.nodes (fun m => m < n ∨ n + k ≤ m)) (fun i _ => G.nodes.length - n - (intOf i).toNat)
  case atStart => exact ⟨0, Nat.zero_le _, rfl, Ch.refl _ _, HS.out⟩
  case round =>
    obtain ⟨k, hk, rfl, hc, hmap⟩ := hrel
    have hcw : Ch [mb] w wr := (HCW.out.mono (by simp)).trans hc (by simp)
    have hzr := hc.size
    have hgz := HZ.out
    have HMAP := Lib.hid hmap; clear hmap
    have hgm' : g ∉ [mb] := by simp [H.out.gm]
    have st := H.out.st.ch hcw hgm'
    have d0 : wr.cell? ⟨g, 0, none⟩ = some _ := st.cell rfl
    have d1 : wr.cell? ⟨g, 1, none⟩ = some _ := st.cell rfl
    have d2 : wr.cell? ⟨g, 2, none⟩ = some _ := st.cell rfl
    have d3 : wr.cell? ⟨g, 3, none⟩ = some _ := st.cell rfl
    have e1 : wr.frozen? ⟨g, 1, none⟩ = false := st.frozen
    have e3 : wr.frozen? ⟨g, 3, none⟩ = false := st.frozen
    have hbx : wr.cell? ⟨w.heap.size, 0, none⟩ = some (.int .i64 n) := (hc.cell (by show w.heap.size < _; omega) (by simp; omega)).trans B0.out
    clear c0 c1 c2 c3 f1 f3
    have HST := Lib.hid st; clear st hgm'
    have HC := Lib.hid hc; clear hc
    have HCR := Lib.hid hcw; clear hcw
    have hzz : w.heap.size + 1 ≤ wr.heap.size := by omega
    clear hzr hgz
    by_cases hlt : k < G.nodes.length - n
    · omega
    · go_wp2_with fail
      refine Ord.St.door (fun _ => True) [.fl, .fl, .fl, .fl, .rd, .rd, .fl, .fl, .fl, .ef] [0, 0, 2, 6, 14, 0, 62, 127, 255, 511] [0, 1, 2, 3, 4, 5, 6, 7, 8, 9] mixed (by kernel_rfl) rfl ?_
      refine Ord.St.fl2 (T' := ?_) 0 [1, 2, 3, 4, 5, 6, 7, 8, 9] _ _ rfl (by kernel_rfl) rfl rfl rfl rfl (fun K w' hk => ?_) ?_
      rotate_left
      · go_step; exact hk
      refine Ord.St.fl2 (T' := ?_) 1 [2, 3, 4, 5, 6, 7, 8, 9] _ _ rfl (by kernel_rfl) rfl rfl rfl rfl (fun K w' hk => ?_) ?_
      rotate_left
      · go_step; exact hk
      refine Ord.St.fl2 (T' := ?_) 2 [3, 4, 5, 6, 7, 8, 9] _ _ rfl (by kernel_rfl) rfl rfl rfl rfl (fun K w' hk => ?_) ?_
      rotate_left
      · go_step; exact hk
      refine Ord.St.fl2 (T' := ?_) 3 [4, 5, 6, 7, 8, 9] _ _ rfl (by kernel_rfl) rfl rfl rfl rfl (fun K w' hk => ?_) ?_
      rotate_left
      · go_step; exact hk
      refine Ord.St.rd2 (T' := ?_) 4 [5, 6, 7, 8, 9] _ _ rfl (by kernel_rfl) rfl rfl rfl rfl (fun K hk => ?_) ?_
      rotate_left
      · go_step; exact hk
      refine Ord.St.rd2 (T' := ?_) 5 [6, 7, 8, 9] _ _ rfl (by kernel_rfl) rfl rfl rfl rfl (fun K hk => ?_) ?_
      rotate_left
      · go_step; exact hk
      refine Ord.St.fl2 (T' := ?_) 6 [7, 8, 9] _ _ rfl (by kernel_rfl) rfl rfl rfl rfl (fun K w' hk => ?_) ?_
      rotate_left
      · go_step; exact hk
      refine Ord.St.fl2 (T' := ?_) 7 [8, 9] _ _ rfl (by kernel_rfl) rfl rfl rfl rfl (fun K w' hk => ?_) ?_
      rotate_left
      · go_step; exact hk
      refine Ord.St.fl2 (T' := ?_) 8 [9] _ _ rfl (by kernel_rfl) rfl rfl rfl rfl (fun K w' hk => ?_) ?_
      rotate_left
      · go_step; exact hk
      refine Ord.St.ef 9 [] _ rfl (by kernel_rfl) (fun K hK => ?_)
      go_wp2_with fail
      refine ⟨rfl, hK _ _ ?_⟩; clear hK K
      refine Ord.St.nil ?_
      have hC3 : Ch [g, mb] w ((wr.setCell ⟨g, 1, none⟩ (.slice (some ⟨nb, 0, none⟩) n n)).drew) := ((HCR.out.mono (F' := [g, mb]) (by simp)).setCell (by simp) _).drew
      have b3 : ((wr.setCell ⟨g, 1, none⟩ (.slice (some ⟨nb, 0, none⟩) n n)).drew).cell? ⟨w.heap.size, 0, none⟩ = some (.int .i64 n) := by go_simp
      have hrow := H.out.ins.ch hC3 (fun kk hkk => by have h1 := H.out.gi; have h2 := H.out.mi; rw [hkk] at h1 h2; simp only [Option.some.injEq, ne_eq] at h1 h2; simp [h1, h2])
      have HDF := DF_inputs hrow b3 hle (by omega)
      have HROW := Lib.hid hrow; clear hrow
      have HC3 := Lib.hid hC3; clear hC3
      clear b3
      have st3 := (HST.out.set (i := 1) (.slice (some ⟨nb, 0, none⟩) n n)).drew
      have HST3 := Lib.hid st3; clear st3
      have hz3 : w.heap.size + 1 ≤ ((wr.setCell ⟨g, 1, none⟩ (.slice (some ⟨nb, 0, none⟩) n n)).drew).heap.size := by simpa using hzz
      have hmap3 : ∃ es clock, ((wr.setCell ⟨g, 1, none⟩ (.slice (some ⟨nb, 0, none⟩) n n)).drew).heap[mb]? = some (.map es clock) ∧ MapOk es.toList (G.nodes.take n) := by
        obtain ⟨es, clock, h1, h2⟩ := HMAP.out
        refine ⟨es, clock, (Below.heap_setCell _ _ _ _ (by simpa using H.out.gm.symm)).trans h1, MapOn.take (h2.mono (fun m x hm hx _ => ?_) (fun m x hm _ _ => .inl hm))⟩
        have := (List.getElem?_eq_some_iff.1 hx).1
        omega
      have HMAP3 := Lib.hid hmap3; clear hmap3
      go_wp2_with fail
      generalize (wr.setCell ⟨g, 1, none⟩ (.slice (some ⟨nb, 0, none⟩) n n)).drew = W3 at *
      refine HDF.mono ?_
      rintro e w4 ⟨iv', rfl, hrow4, hc4, hob⟩
      have HROW4 := Lib.hid hrow4; clear hrow4
      have hgiv : g ∉ iv.ownBlock.toList := by have := H.out.gi; simpa [eq_comm] using this
      have st4 := HST3.out.ch hc4 hgiv
      have k3 : w4.cell? ⟨g, 3, none⟩ = some _ := st4.cell rfl
      have k3f : w4.frozen? ⟨g, 3, none⟩ = false := st4.frozen
      have HC4 := Lib.hid hc4; clear hc4
      have HOB := Lib.hid hob; clear hob
      have HST4 := Lib.hid st4; clear st4
      obtain ⟨ia, icap, hiv⟩ := row.shape HROW4.out
      rw [hiv]
      go_wp2_with fail
      go_ret
      rw [← hiv]
      have hcf : Ch (g :: mb :: iv.ownBlock.toList) w (w4.setCell ⟨g, 3, none⟩ iv') := Ch.setCell ((HC3.out.mono (F' := g :: mb :: iv.ownBlock.toList) (by simp)).trans HC4.out (fun kk hkk => .inl (by simp [hkk]))) (by simp) _
      have hni : ∀ kk, iv.ownBlock = some kk → kk ≠ g ∧ kk ≠ nb ∧ kk ≠ mb := fun kk hkk => ⟨by rintro rfl; exact H.out.gi hkk, by rintro rfl; exact H.out.ni hkk, by rintro rfl; exact H.out.mi hkk⟩
      have hnf : nb ∉ g :: mb :: iv.ownBlock.toList := by
        have h1 := H.out.ni
        have h2 := H.out.gn
        have h3 := H.out.mn
        simp [Ne.symm h2, Ne.symm h3]
        exact h1
      have hlt2 : (G.nodes.take n).length = n := by rw [List.length_take]; omega
      have hmbi : mb ∉ iv.ownBlock.toList := by have := H.out.mi; simpa [eq_comm] using this
      refine ⟨ret_int (by rfl), iv', ?_, HOB.out, ?_⟩
      · have hst := HST4.out.set (i := 3) iv'
        refine ⟨?_, ?_, ?_, ?_, H.out.gm, H.out.gn, H.out.mn, by rw [HOB.out]; exact H.out.gi, by rw [HOB.out]; exact H.out.ni, by rw [HOB.out]; exact H.out.mi, H.out.ok.take hn⟩
        · rw [hlt2]; exact hst
        · show row _ _ 4 (.slice (some ⟨nb, 0, none⟩) (G.nodes.take n).length n) (G.nodes.take n).length (nodesCells (G.nodes.take n))
          rw [hlt2, nodesCells_take]
          exact (row.take H.out.nodes hle).ch hcf (fun kk hkk => by cases hkk; exact hnf)
        · obtain ⟨es, clock, h1, h2⟩ := HMAP3.out
          exact ⟨es, clock, (Below.heap_setCell _ _ _ _ (by simpa using H.out.gm.symm)).trans ((HC4.out.block mb (Array.getElem?_eq_some_iff.1 h1).1 hmbi).trans h1), h2⟩
        · exact HROW4.out.ch (Ch.setCell (Ch.refl [g] _) (by simp) _) (fun kk hkk => by rw [HOB.out] at hkk; simp [(hni kk hkk).1])
      · exact hcf.mono (fun kk hkk => .inl (by simp [fp] at hkk ⊢; rcases hkk with rfl | rfl | h <;> simp [*]))
theorem Cut_is (h : GM w g G nb ncap iv mb) (n : Nat) (hn : 1 ≤ n) (hle : n ≤ G.nodes.length) :
    Calls Try.prog 60 #[.pointer (some ⟨g, 0, none⟩), .int .i64 n] w fun e w' => e = .returned (.int .i64 0) ∧ ∃ iv', GM w' g { G with nodes := G.nodes.take n } nb ncap iv' mb ∧ iv'.ownBlock = iv.ownBlock ∧ Ch (fp g nb mb iv) w w' := by
  by_cases hc : ncap = n
  · subst hc; exact Cut_eq ncap h hn hle
  · exact Cut_lt n h hn hle hc
end
end Go.Proofs.Ytndcgfnlgcincaa
