/-
  The cone, plainly: what is marked, and what comes.
  Drawn regions of quiet operations, behind a fence: from the plain walk.
  A scope without a goto, behind a fence.
  A range over a function whose iterator keeps a state of its own in cells of one element type T (a slice that it makes): the contract, and the caller's law. For a body that goes on in every round.
  Walks over the cone's iterator. Conditions: a graph in memory, references of it.
  Walks over what Cone calls. Conditions: a graph in memory.
  Walks over the library's Reverse over ints. Conditions: a block of ints.
  Walks over Cone: refused. Conditions: a graph in memory.
  Walks over Cone. Conditions: a graph in memory, references of it.
  Walks over the library's Equal over numbers. Conditions: two slices that are read.
  What the package's functions do to a graph in memory, each in one form (GIn before, GTo behind). Conditions: a graph in memory.
  Walk over the chapter's examples (awake): true. Conditions: none.
-/
import Derived.Test.YtnajonchjlplmaaQB
import Derived.Test.YtnajonchjlplmaaQA
import Derived.OrdersIn
import Derived.ControlIn
import Derived.Scope
import Derived.WalkMore
import Derived.RangeFuncFrom
import Derived.RangeFuncNested
import Derived.RangeFuncBound
import Derived.RangeFuncCalls
import Derived.RangeFuncLeaves
import Derived.Shelf.Abstract
import Derived.Shelf.RegionOpen
import Derived.WalkKit
import Derived.OwnWalkIn
import Derived.TacticsInMore
import Derived.LoopNIn
import Derived.LoopIn
namespace Go.Aig
def setMark (met : List Bool) (r : Nat) : List Bool := met.set (r / 2) true
def met0 (len : Nat) (l : List Nat) : List Bool := l.foldl setMark (List.replicate len false)
def stepMet (ns : List Nd) (met : List Bool) (n : Nat) : List Bool := match ns[n]? with
  | some x => if x.k = 3 then setMark (setMark met x.l) x.r else met
  | none => met
def coneFrom (ns : List Nd) : Nat → List Bool → List Nat
  | 0, _ => []
  | n + 1, met => if met.getD n false = true then n :: coneFrom ns n (stepMet ns met n) else coneFrom ns n met
def coneDown (ns : List Nd) (l : List Nat) : List Nat := coneFrom ns ns.length (met0 ns.length l)
def cone (ns : List Nd) (l : List Nat) : List Nat := (coneDown ns l).reverse
theorem setMark_len (met : List Bool) (r : Nat) : (setMark met r).length = met.length := by simp [setMark]
theorem stepMet_len (ns : List Nd) (met : List Bool) (n : Nat) : (stepMet ns met n).length = met.length := by
  unfold stepMet; (repeat' split) <;> simp [setMark_len]
theorem foldl_mark_len : ∀ (l : List Nat) (met : List Bool), (l.foldl setMark met).length = met.length
  | [], met => rfl
  | r :: l, met => by rw [List.foldl_cons, foldl_mark_len l, setMark_len]
theorem met0_len (len : Nat) (l : List Nat) : (met0 len l).length = len := by rw [met0, foldl_mark_len]; simp
theorem foldl_take_succ {l : List Nat} {k r : Nat} (h : l[k]? = some r) (met : List Bool) : (l.take (k + 1)).foldl setMark met = setMark ((l.take k).foldl setMark met) r := by
  rw [List.take_add_one, h]; simp
theorem coneFrom_lt (ns : List Nd) : ∀ (n : Nat) (met : List Bool), ∀ r ∈ coneFrom ns n met, r < n
  | 0, _, r, h => by cases h
  | n + 1, met, r, h => by
    unfold coneFrom at h
    split at h
    · rcases List.mem_cons.1 h with rfl | h
      · omega
      · have := coneFrom_lt ns n _ r h; omega
    · have := coneFrom_lt ns n _ r h; omega
theorem coneFrom_len (ns : List Nd) : ∀ (n : Nat) (met : List Bool), (coneFrom ns n met).length ≤ n
  | 0, _ => by simp [coneFrom]
  | n + 1, met => by
    unfold coneFrom
    split
    · have := coneFrom_len ns n (stepMet ns met n); simp; omega
    · have := coneFrom_len ns n met; omega
end Go.Aig
namespace Go.Ord
open Go
/-- an operation that is neither a call nor a defer, and of the common kinds -/
def quietOp (o : Oper) : Bool := match o.op with
  | .move _ | .assign _ | .pick .. | .load .. | .store .. | .fieldAddr .. | .binOp .. | .unOp .. | .indexAddr .. | .alloc .. | .slice .. | .field .. | .convert .. => true
  | _ => false
theorem quiet_run {P : Program} {o : Oper} (hq : quietOp o = true) {ρ : Operand → Value} {w w' : World} {x : Next} (h : (execOp ρ o).run P w = .ok x w') : (∃ v, x = .value v) ∨ x = .skip := by
  have hv : ∀ {α : Type} (s : Sem α) (f : α → Value), (do let a ← s; pure (Next.value (f a)) : Sem Next).run P w = .ok x w' → (∃ v, x = .value v) ∨ x = .skip := fun s f h => by
    rw [Sem.run_bind] at h
    cases hs : s.run P w with
    | ok a w1 => rw [hs] at h; simp at h; exact .inl ⟨_, h.1.symm⟩
    | halt z w1 => rw [hs] at h; simp [Result.andThen] at h
  have hu : ∀ (s : Sem Unit), (do s; pure Next.skip : Sem Next).run P w = .ok x w' → (∃ v, x = .value v) ∨ x = .skip := fun s h => by
    rw [Sem.run_bind] at h
    cases hs : s.run P w with
    | ok a w1 => rw [hs] at h; simp at h; exact .inr h.1.symm
    | halt z w1 => rw [hs] at h; simp [Result.andThen] at h
  unfold execOp at h
  cases ho : o.op <;> simp only [quietOp, ho] at hq h <;>
    first
      | exact absurd hq (by decide)
      | exact hv _ _ h
      | exact hu _ h
      | (simp at h; exact .inl ⟨_, h.1.symm⟩)
      | skip
theorem quiet_in {F : Fence} {n : Nat} {P : Program} {o : Oper} (hq : quietOp o = true) {a : Act} {w : World} {K : Act → World → Prop} {Q : Exit → Act → World → Prop} (h : o.wp P a w K Q) : o.wpIn F n P a w K Q := by
  have hd : ∀ c, o.op ≠ .defer c := fun c e => by simp [quietOp, e] at hq
  refine ⟨fun f hf => ?_, ?_⟩
  · unfold Oper.about at hf
    cases ho : o.op <;> simp only [quietOp, ho] at hq hf <;> first | (exact absurd hq (by decide)) | (exact absurd hf (by simp))
  · rw [Oper.semAt_eq _ _ _ hd]
    unfold Oper.wp at h
    cases hr : (execOp a.eval o).run P w with
    | ok x w' =>
      rw [hr] at h
      rcases quiet_run hq hr with ⟨v, rfl⟩ | rfl
      · exact h
      · exact h
    | halt x w' =>
      rw [hr] at h
      cases x <;> exact h
theorem any_in {F : Fence} {n : Nat} {P : Program} {ops : Array Oper} {Q : Exit → Act → World → Prop} {md : Region.Mode} (hnl : ¬ LetsOut Q) (hq : ∀ o ∈ ops.toList, quietOp o = true) : ∀ (m : Nat) (listed : Array Bool) (a : Act) (w : World), wpAny P md ops Q m listed a w → wpAnyIn F n P md ops Q m listed a w := by
  intro m
  induction m with
  | zero => intro listed a w h; exact h
  | succ m ih =>
    intro listed a w h
    refine ⟨h.1, fun i hi => ?_⟩
    have h2 := h.2 i hi
    refine wpOpIn_mono (fun a w => ih _ a w) ?_
    unfold wpOp at h2
    unfold wpOpIn
    cases ho : ops[i]? with
    | none => simpa [ho] using h2
    | some o =>
      have hqo : quietOp o = true := hq o (by
        have := Array.mem_of_getElem? ho
        exact Array.mem_def.1 this)
      simp only [ho] at h2 ⊢
      split
      · rename_i hw; simp only [hw, if_true] at h2; exact quiet_in hqo (h2.resolve_right fun h => hnl h.2)
      · rename_i hw
        simp only [hw] at h2
        refine ⟨fun f hf => ?_, h2⟩
        unfold Oper.about at hf
        cases ho2 : o.op <;> simp only [quietOp, ho2] at hqo hf <;> first | (exact absurd hqo (by decide)) | (exact absurd hf (by simp))
section
variable {F : Fence} {n : Nat} {P : Program} {l : List Oper} {Q' : Exit → Act → World → Prop}
theorem St.doorIn {id : Nat} {a : Act} {w : World} (C : World → Prop) (ks : List Kd) (A : List Nat) (R : List Nat) (hm : P.follows .mixedOrders = true) (hqq : l.all quietOp = true) (hs : stat l.toArray ks A = true) (hR : List.range l.length = R)
    (h : St P l ks A C (Q' .normal) R a w.drew) : (Code.region id l.toArray true).wpIn F n P Q' a w := by
  refine wpIn_mono (Q := only (Q' .normal)) ?_ (fun e a w ⟨he, hq⟩ => he ▸ hq)
  refine wpIn_region_any hm ?_
  subst hR
  have h2 := h List.nodup_range (fun k o e hk _ _ _ => List.mem_range.2 (by have := lt_size hk; simpa using this)) (by simp) (stat_spec hs)
  have := wpAny_of_all (P := P) (C := C) (stat_spec hs) (Q' .normal) l.length (List.range l.length) (Array.replicate l.length false) a w.drew List.nodup_range (by simp) (by simp) (by simp)
    (fun k hk => by simp at hk; simp [hk]) (by simpa using h2)
  have h3 := any_in (F := F) (n := n) (only_lets _) (fun o ho => List.all_eq_true.1 hqq o (by simpa using ho)) _ _ _ _ this
  simpa using h3
end
end Go.Ord
namespace Go
section
variable {F : Fence} {n : Nat} {P : Program} {Q : Exit → Act → World → Prop} {a : Act} {w : World}
theorem stepR_scope' {b : Frame} {k : List Item} {cs : List Frame} {c : Code} : step P (lone (b.atR a (.code (.scope c) :: k)) cs w) = .next (lone (b.atR a (.code c :: .inScope c :: k)) cs w) :=
  step_lone_go (by simp [stepG, stepG.exec, Frame.atR])
theorem stepR_inScope' {b : Frame} {k : List Item} {cs : List Frame} {c : Code} : step P (lone (b.atR a (.inScope c :: k)) cs w) = .next (lone (b.atR a k) cs w) :=
  step_lone_go (by simp [stepG, stepG.exec, Frame.atR])
theorem wpIn_scope_straight' {c : Code} (h : c.wpIn F n P (Exit.noGoto Q) a w) : (Code.scope c).wpIn F n P Q a w := by
  intro b k cs hro hb hr
  have h0 : (lone (b.atR a (.code (.scope c) :: k)) cs w).fenced P F := fenced_calm hb hr rfl
  obtain ⟨e, a₁, w₁, hq, harr⟩ := h b (.inScope c :: k) cs hro hb hr
  cases e with
  | normal => exact ⟨.normal, a₁, w₁, hq, .head h0 stepR_scope' (StepsIn.trans harr (.one (fenced_calm hb hr rfl) stepR_inScope'))⟩
  | exit id =>
    have hx : exitTo id (.inScope c :: k) = exitTo id k := by simp [exitTo]
    exact ⟨.exit id, a₁, w₁, hq, fun k' hk => .head h0 stepR_scope' (harr.1 k' (by rw [hx]; exact hk)),
      fun hr' hk => let ⟨k₁, h1, h2⟩ := harr.2 hr' (by rw [hx]; exact hk); ⟨k₁, h1, .head h0 stepR_scope' h2⟩⟩
  | goto l => exact hq.elim
  | ret => exact ⟨_, a₁, w₁, hq, .of_steps (.one h0 stepR_scope') harr⟩
  | panic ch => exact ⟨_, a₁, w₁, hq, .of_steps (.one h0 stepR_scope') harr⟩
  | outgrown => exact ⟨_, a₁, w₁, hq, .of_steps (.one h0 stepR_scope') harr⟩
end
end Go
namespace Go
open Go.RowKit
/-- what an iterator may do between two rounds: new blocks, and stores into cells of type T from B on -/
structure Still (T : TypeId) (B : Nat) (W W' : World) : Prop where
  os : W'.os = W.os
  tape : W'.tape = W.tape
  output : W'.output = W.output
  size : W.heap.size ≤ W'.heap.size
  keep : ∀ (k : Nat) (o : Obj), W.heap[k]? = some o → (k < B ∨ ∀ xs fz, o ≠ .cells xs T fz) → W'.heap[k]? = some o
/-- what the caller's word must bear: also turns of blocks that are no cells, from B on -/
structure StillI (T : TypeId) (B : Nat) (W W' : World) : Prop where
  os : W'.os = W.os
  tape : W'.tape = W.tape
  output : W'.output = W.output
  size : W.heap.size ≤ W'.heap.size
  keep : ∀ (k : Nat) (o : Obj), W.heap[k]? = some o → (k < B ∨ ∃ xs U fz, o = .cells xs U fz ∧ U ≠ T) → W'.heap[k]? = some o
def othersStay (W W' : World) : Prop := ∀ (k : Nat) (o : Obj), W.heap[k]? = some o → o.isCells = false → W'.heap[k]? = some o

section
variable {F : Fence} {n : Nat} {P : Program} {T : TypeId}
def SeqB {α : Type} (F : Fence) (n : Nat) (P : Program) (T : TypeId) (g : Nat) (lb : Array Value) (encs : α → Array Value) (Kp : World → World → Prop) (xs : List α) (w : World) : Prop :=
  ∀ (l : Nat) (J : List α → World → Prop) (W : World), Below w.heap.size w W → (∀ s A B, J s A → Still T W.heap.size A B → J s B) →
    (∀ pre x W1, J pre W1 → (pre ++ [x]) <+: xs → YieldAt F (n - 1) P l (encs x) W1 fun e W' => e = .returned (.bool true) ∧ J (pre ++ [x]) W' ∧ Kp W1 W') →
    J [] W →
    CallsIn F n P g (#[.func (.yield l) #[] #[]] ++ lb) W fun e W' => (∃ v, e = .returned v) ∧ J xs W'

theorem Still.toI {B C : Nat} {A W : World} (h : Still T B A W) (hC : C ≤ B) : StillI T C A W := ⟨h.os, h.tape, h.output, h.size, fun k o hk ho => h.keep k o hk (by
  rcases ho with h1 | ⟨xs, U, fz, rfl, hU⟩
  · exact .inl (by omega)
  · exact .inr (fun ys gz e => by cases e; exact hU rfl))⟩
theorem Still.alloc {B : Nat} {W : World} (o : Obj) : Still T B W (W.alloc o) := ⟨rfl, rfl, rfl, by simp, fun k u hk _ => (Below.heap_alloc W o k (Array.getElem?_eq_some_iff.1 hk).1).trans hk⟩
theorem Still.trans {B : Nat} {A W V : World} (h : Still T B A W) (h' : Still T B W V) : Still T B A V := ⟨h'.os.trans h.os, h'.tape.trans h.tape, h'.output.trans h.output, Nat.le_trans h.size h'.size, fun k o hk ho => h'.keep k o (h.keep k o hk ho) ho⟩
theorem Still.drew {B : Nat} {A W : World} (h : Still T B A W) : Still T B A W.drew := ⟨h.os, h.tape, h.output, h.size, h.keep⟩
theorem StillI.put {B l : Nat} {W : World} {o : Obj} (o' : Obj) (hB : B ≤ l) (hl : W.heap[l]? = some o) (ho : o.isCells = false) : StillI T B W (W.putObj l o') := ⟨rfl, rfl, rfl, by simp, fun k u hk hu => by
  by_cases hkl : k = l
  · subst hkl
    rw [hl] at hk; cases hk
    rcases hu with h1 | ⟨xs, U, fz, rfl, _⟩
    · omega
    · cases ho
  · exact (World.putObj_heap_other hkl).trans hk⟩
theorem StillI.alloc {B : Nat} {W : World} (o : Obj) : StillI T B W (W.alloc o) := ⟨rfl, rfl, rfl, by simp, fun k u hk _ => (Below.heap_alloc W o k (Array.getElem?_eq_some_iff.1 hk).1).trans hk⟩

theorem wpIn_rangeFunc_B {α : Type} {g : Operand} {ps : Array Tmp} {assign body : Code} {Q : Exit → Act → World → Prop} {a : Act} {w : World}
    (hro : F.round = none) (h1 : 1 ≤ n) {gf : Nat} {lb : Array Value} (hg : a.eval g = .func (.func gf) #[] lb) (hFg : F.fn gf) (eg : ∀ args w, (callFunc gf args).run P w = .ok (.enter gf args) w)
    {encs : α → Array Value} {Kp : World → World → Prop} {xs : List α} {w0 : World} (hseq : SeqB F (n - 1) P T gf lb encs Kp xs w0)
    (hKt : ∀ {A B C : World}, Kp A B → Kp B C → Kp A C) (hKb : ∀ (W : World) (l : Nat) (o o' : Obj), w.heap.size ≤ l → W.heap[l]? = some o → o.isCells = false → Kp W (W.putObj l o')) (hb0 : Below w0.heap.size w0 w) (hps : ∀ x, (encs x).size = ps.size)
    (I : List α → World → Prop) (hI : ∀ s A B, I s A → StillI T w.heap.size A B → I s B) (h0 : I [] w) (a₁ : α → Act)
    (hassign : ∀ (l : Nat) (x : α) (W : World) (K : Act → World → Prop), K (a₁ x) W →
      assign.wpIn (F.inRound l) (n - 1 - 1) P (Exit.then K (fun _ _ _ => False)) { tmps := (ps.zip (encs x)).foldl (fun t (p, v) => t.setIfInBounds p v) a.tmps, defers := [] } W)
    (hbody : ∀ (l : Nat) (pre : List α) (x : α) (W : World), I pre W → (pre ++ [x]) <+: xs → body.wpIn (F.inRound l) (n - 1 - 1) P (fun e _ W' => e = .normal ∧ othersStay W W' ∧ Kp W W' ∧ I (pre ++ [x]) W') (a₁ x) W)
    (hdone : ∀ (D : Nat) (W : World), w.heap.size ≤ D → I xs W → W.heap[D]? = some (.deferred (some [])) → Q .normal { a with defers := { target := .collected D, args := #[] } :: a.defers } W) :
    (Code.rangeFunc g ps assign body).wpIn F n P Q a w := by
  refine wpIn_rangeFunc fun fn hfn => ?_
  rw [hro]
  let rec0 : LoopState → Loop := fun st => { state := st, pending := none, fn, tmps := a.tmps, params := ps, assign, body, defers := w.heap.size }
  obtain ⟨W1, hW1⟩ : ∃ W1, (w.alloc (.deferred (some []))).alloc (.loop (rec0 .ready)) = W1 := ⟨_, rfl⟩
  have hz1 : W1.heap.size = w.heap.size + 2 := by rw [← hW1]; simp
  have hL1 : W1.heap[w.heap.size + 1]? = some (.loop (rec0 .ready)) := by
    rw [← hW1]; have := World.alloc_heap_new (w.alloc (.deferred (some []))) (.loop (rec0 .ready)); rwa [World.size_alloc] at this
  have hK1 : W1.heap[w.heap.size]? = some (.deferred (some [])) := by
    rw [← hW1]; exact (Below.heap_alloc _ _ _ (by simp)).trans (World.alloc_heap_new w _)
  have hI1 : I [] W1 := by rw [← hW1]; exact hI _ _ _ (hI _ _ _ h0 (StillI.alloc _)) (StillI.alloc _)
  have hb1 : Below w0.heap.size w0 W1 := by
    rw [← hW1]; exact hb0.trans ((((Below.refl _ w).alloc (Nat.le_refl _) _).alloc (by simp) _).mono hb0.size)
  refine ⟨w.heap.size + 1, [{ target := .collected w.heap.size, args := #[] }], W1, { target := .fn (.func gf) lb, args := #[.func (.yield (w.heap.size + 1)) #[] #[]] }, W1, gf,
    #[.func (.yield (w.heap.size + 1)) #[] #[]] ++ lb, W1, ?_, ?_, ?_, ?_, fun _ => h1, ?_⟩
  · rw [← hW1]; exact run_enterLoop_outer _ _ _ _ _
  · simp only [resolve, hg]
    simp [go_sem]
  · intro f' hf'; simp [Target.leads] at hf'; subst hf'; exact hFg
  · simp [invoke, go_sem, eg]
  · refine (hseq (w.heap.size + 1) (fun pre W => I pre W ∧ W.heap[w.heap.size + 1]? = some (.loop (rec0 .ready)) ∧ W.heap[w.heap.size]? = some (.deferred (some []))) W1 hb1
      (fun s A B hs hst => ⟨hI s A B hs.1 (hst.toI (by omega)), hst.keep _ _ hs.2.1 (.inr (fun _ _ e => by cases e)), hst.keep _ _ hs.2.2 (.inr (fun _ _ e => by cases e))⟩) ?_ ⟨hI1, hL1, hK1⟩).mono ?_
    · rintro pre x W ⟨hi, hl, hk⟩ hpre
      have hlt : w.heap.size + 1 < W.heap.size := (Array.getElem?_eq_some_iff.1 hl).1
      refine ⟨fn, _, assign, body, run_yield (P := P) (args := encs x) hl (hps x), roundIn_of_wpIn hfn (hassign _ x W _ ⟨_, run_beginRound hl rfl, ?_⟩)⟩
      have hl2 : (W.putObj (w.heap.size + 1) (.loop (rec0 .busy))).heap[w.heap.size + 1]? = some (.loop (rec0 .busy)) := World.putObj_heap_same hlt
      have hk2 : (W.putObj (w.heap.size + 1) (.loop (rec0 .busy))).heap[w.heap.size]? = some (.deferred (some [])) := (World.putObj_heap_other (by omega)).trans hk
      refine wpIn_mono (hbody _ pre x _ (hI _ _ _ hi (StillI.put (.loop (rec0 .busy)) (by omega) hl rfl)) hpre) ?_
      rintro e a3 W3 ⟨rfl, hk3, hkp3, hi3⟩
      have hl3 := hk3 _ _ hl2 rfl
      refine ⟨_, _, run_endRound (P := P) none hl3, rfl, ⟨hI _ _ _ hi3 (StillI.put _ (by omega) hl3 rfl), World.putObj_heap_same (Array.getElem?_eq_some_iff.1 hl3).1, (World.putObj_heap_other (by omega)).trans (hk3 _ _ hk2 rfl)⟩, ?_⟩
      exact hKt (hKt (hKb _ _ _ _ (by omega) hl rfl) hkp3) (hKb _ _ _ _ (by omega) hl3 rfl)
    · rintro e W2 ⟨⟨v, rfl⟩, hi, hl, hk⟩
      exact ⟨none, _, run_endLoop (P := P) hl (by simp [rec0]), hdone _ _ (Nat.le_refl _) (hI _ _ _ hi (StillI.put _ (by omega) hl rfl)) ((World.putObj_heap_other (by omega)).trans hk)⟩
end
end Go
namespace Go.Proofs.Ytnajonchjlplmaa
open Go.RowKit Go.Mem Go.Aig Go.Shelf
attribute [local go_sem] Oper.semAt_some

/-- what a round of a loop over the cone keeps: what lies below n₀, and each slice of truths -/
structure Kb (n₀ bo : Nat) (W W' : World) : Prop where
  os : W'.os = W.os
  tape : W'.tape = W.tape
  output : W'.output = W.output
  size : W.heap.size ≤ W'.heap.size
  block : ∀ k, k < n₀ → k ≠ bo → W'.heap[k]? = W.heap[k]?
  bools : ∀ (b : Nat) (xs : Array Value), W.heap[b]? = some (Obj.cells xs 4 (0, 0)) → W'.heap[b]? = some (Obj.cells xs 4 (0, 0))
theorem Kb.trans {n₀ bo : Nat} {A B C : World} (h : Kb n₀ bo A B) (h' : Kb n₀ bo B C) : Kb n₀ bo A C := ⟨h'.os.trans h.os, h'.tape.trans h.tape, h'.output.trans h.output, Nat.le_trans h.size h'.size, fun k h1 h2 => (h'.block k h1 h2).trans (h.block k h1 h2), fun b xs hb => h'.bools b xs (h.bools b xs hb)⟩
theorem Ch.kb {bo : Nat} {w A B : World} (h : Ch [bo] w A) (hk : Kb w.heap.size bo A B) : Ch [bo] w B := ⟨hk.os.trans h.os, hk.tape.trans h.tape, hk.output.trans h.output, Nat.le_trans h.size hk.size, fun k hk1 hk2 => (hk.block k hk1 (by simpa using hk2)).trans (h.block k hk1 hk2)⟩
def bools (l : List Bool) : List Value := l.map .bool
theorem infoBool : (Try.prog.info? 4).map (fun i => (i.zero, i.size, i.bytes)) = some (some (.bool false), 1, 1) := by kernel_rfl
theorem run_make_bools (w : World) (n : Nat) (hn : n ≤ 65536) : (Instr.makeSlice 120 (.int .i64 n) (.int .i64 n)).run Try.prog w = .ok (.slice (some ⟨w.heap.size, 0, none⟩) n n) (w.alloc (.cells (bools (List.replicate n false)).toArray 4)) := by
  obtain ⟨i, hi, hz, hs, hb⟩ := info_parts infoBool
  have := run_make (P := Try.prog) w 120 4 i (.bool false) Try.underlying120 hi hz .i64 .i64 n n (by omega) (by omega) (by rw [hb]; omega) (by omega)
  rw [this, hs]
  have e : madeCells (Value.bool false).cells ((n : Int).toNat * 1) = (bools (List.replicate n false)).toArray := by
    apply Array.ext'
    have h := toList_madeCells_one (Value.bool false) ((n : Int).toNat * 1)
    simpa [bools, Value.cells] using h
  rw [e]; simp
def bblk (w : World) (b : Nat) (met : List Bool) : Prop := w.heap[b]? = some (Obj.cells (bools met).toArray 4 (0, 0))
theorem bblk.blk {w : World} {b : Nat} {met : List Bool} (h : bblk w b met) : blk w b (bools met) := ⟨_, h⟩
theorem bblk.set {w : World} {b i : Nat} {met : List Bool} (h : bblk w b met) (v : Bool) : bblk (w.setCell ⟨b, i, none⟩ (.bool v)) b (met.set i v) := by
  unfold bblk at *
  simp only [World.setCell, Array.getElem?_modify]
  rw [if_pos trivial, h]
  simp [bools, List.map_set]
theorem bblk.cell {w : World} {b i : Nat} {met : List Bool} (h : bblk w b met) (hi : i < met.length) : w.cell? ⟨b, i, none⟩ = some (.bool (met.getD i false)) := by
  refine h.blk.cell ?_
  simp [bools, hi]
theorem bblk.still {w : World} {b B : Nat} {met : List Bool} (h : bblk w b met) (hB : B ≤ b) (i : Nat) (v : Value) : Still 4 B w (w.setCell ⟨b, i, none⟩ v) := ⟨rfl, rfl, rfl, by simp, fun k o hk ho => by
  by_cases hkb : k = b
  · subst hkb
    rw [h] at hk; cases hk
    rcases ho with h1 | h1
    · omega
    · exact (h1 _ _ rfl).elim
  · exact (Below.heap_setCell w _ v k hkb).trans hk⟩
theorem bblk.kb {n₀ bo : Nat} {A B : World} {b : Nat} {met : List Bool} (h : bblk A b met) (hk : Kb n₀ bo A B) : bblk B b met := hk.bools _ _ h
section
variable {w : World} {g : Nat} {G : Gra} {nb ncap : Nat} {iv : Value} {mb : Nat}
set_option maxRecDepth 100000 in
set_option maxHeartbeats 2000000 in
theorem cone1_stops (bo : Nat) (F : Fence) (n : Nat) (hf : F.fn 71) (hro : F.round = none) (hn : 1 ≤ n) (h : GM w g G nb ncap iv mb) {x y : Nat} (bx : w.cell? ⟨x, 0, none⟩ = some (.pointer (some ⟨g, 0, none⟩))) (hxl : x < w.heap.size) {a : Option Addr} {l : List Nat} (cap : Nat) (by' : w.cell? ⟨y, 0, none⟩ = some (.slice a l.length cap)) (hyl : y < w.heap.size)
    (hS : Sl w a (l.map fun (r : Nat) => (r : Int))) (hap : ∀ p, a = some p → p.block < w.heap.size ∧ p.block ≠ bo) (hr : ∀ r ∈ l, r < 2 * G.nodes.length) (hgo : g ≠ bo) (hno : nb ≠ bo) (hxo : x ≠ bo) :
    SeqB F n Try.prog 4 71 #[.pointer (some ⟨x, 0, none⟩), .pointer (some ⟨y, 0, none⟩)] (fun (k : Nat) => #[.int .i64 k]) (Kb w.heap.size bo) (coneDown G.nodes l) w := by
  intro lp J W hW hJ hY h0
  have hc : Ch [] w W := ⟨hW.os, hW.tape, hW.output, hW.size, fun k hk _ => hW.block k hk⟩
  have hg := h.ch hc (by simp)
  have ⟨c0, c1, c2, c3⟩ := hg.c
  have hl0 := hg.lt.1
  have hln := h.lt.1
  have hpos := h.ok.wf.pos
  have hsz : G.nodes.length ≤ 65536 := by have := h.ok.room; have := h.ok.most; omega
  have bx1 := (hc.cell (p := ⟨x, 0, none⟩) hxl (by simp)).trans bx
  have by1 := (hc.cell (p := ⟨y, 0, none⟩) hyl (by simp)).trans by'
  have hxW : x < W.heap.size := Nat.lt_of_lt_of_le hxl hW.size
  have hyW : y < W.heap.size := Nat.lt_of_lt_of_le hyl hW.size
  have hmk := run_make_bools W G.nodes.length hsz
  have hbd := hS.bd
  rw [List.length_map] at hbd
  show CallsIn F n Try.prog 71 #[.func (.yield lp) #[] #[], .pointer (some ⟨x, 0, none⟩), .pointer (some ⟨y, 0, none⟩)] W _
  have H := Lib.hid hg; clear hg
  have HY := Lib.hid hY; clear hY
  have H0 := Lib.hid h0; clear h0
  have HJ := Lib.hid hJ; clear hJ
  have HC := Lib.hid hc; clear hc
  have HW := Lib.hid hW; clear hW
  have HR := Lib.hid hr; clear hr
  have HS := Lib.hid hS; clear hS
  refine callsIn_of_wp Try.func71 rfl hf ?_ hro
  simp only [Try.ntmps71, List.size_toArray, List.length_cons, List.length_nil, Nat.reduceAdd, Nat.reduceSub, Array.replicate_succ, Array.replicate_zero, List.push_toArray, List.append_toArray, List.nil_append, List.cons_append]
  refine wpIn_scope_straight' ?_
  gi_wp2
  have hst : bblk (W.alloc (Obj.cells (bools (List.replicate G.nodes.length false)).toArray 4)) W.heap.size (((l.take 0).foldl setMark (List.replicate G.nodes.length false))) := heap_alloc_new W _
  have HST := Lib.hid hst; clear hst
  gi_loopw [17] (fun i wr => ∃ k : Nat, k ≤ l.length ∧ i = .int .i64 k ∧ Ch [bo] w wr ∧ bblk wr W.heap.size ((l.take k).foldl setMark (List.replicate G.nodes.length false)) ∧ J [] wr) (fun i _ => l.length - (intOf i).toNat)
  case atStart => exact ⟨0, Nat.zero_le _, rfl, (HC.out.mono (F' := [bo]) (by simp)).alloc _, HST.out, HJ.out _ _ _ H0.out (Still.alloc _)⟩
  case round =>
    obtain ⟨k, hk, rfl, hb, hm, hj⟩ := hrel
    have HB := Lib.hid hb; clear hb
    have HM := Lib.hid hm; clear hm
    have HJ1 := Lib.hid hj; clear hj
    by_cases hlt : k < l.length
    · have hxk : l[k]? = some l[k] := List.getElem?_eq_getElem hlt
      have hrk := HR.out _ (List.getElem_mem hlt)
      generalize l[k] = r at *
      obtain ⟨b, o, rfl, hcell⟩ := HS.out.cells k (r : Int) (by simp [hxk])
      have d0 : wr.cell? ⟨b, o + k, none⟩ = some (.int .i64 r) := (World.cell?_of_block (HB.out.block b (hap _ rfl).1 (by simpa using (hap _ rfl).2))).trans hcell
      have hlen : ((l.take k).foldl setMark (List.replicate G.nodes.length false)).length = G.nodes.length := by rw [foldl_mark_len]; simp
      have m0 := HM.out.cell (i := r / 2) (by rw [hlen]; omega)
      have m1 : wr.frozen? ⟨W.heap.size, r / 2, none⟩ = false := HM.out.blk.frozen
      clear hlen hcell
      gi_wp2
      go_roundw
      case rel => exact ⟨k + 1, by omega, by go_num, HB.out.setCell (.inr HW.out.size) _, by rw [foldl_take_succ hxk]; exact HM.out.set true, HJ.out _ _ _ HJ1.out (HM.out.still (Nat.le_refl _) _ _)⟩
      case measure => simp [intOf]; omega
    · have hkl : l.take k = l := List.take_of_length_le (by omega)
      have hm := HM.out
      rw [hkl] at hm
      have HM0 := Lib.hid (show bblk wr W.heap.size (met0 G.nodes.length l) from hm); clear hm HM hkl
      have hd1 : ((G.nodes.length : Int) - 1) = ((G.nodes.length - 1 : Nat) : Int) := by omega
      gi_wp2
      refine wpIn_label ?_
      gi_wp2
      clear c0 c1 c2 c3 bx1 by1 hmk
      gi_loopw [7] (fun i wr => ∃ k : Nat, k ≤ G.nodes.length ∧ i = .int .i64 ((k : Int) - 1) ∧ Ch [bo] w wr ∧ ∃ met, bblk wr W.heap.size met ∧ met.length = G.nodes.length ∧ ∃ pre, pre ++ coneFrom G.nodes k met = coneDown G.nodes l ∧ J pre wr) (fun i _ => (intOf i + 1).toNat)
      case atStart => exact ⟨G.nodes.length, Nat.le_refl _, by go_num, HB.out, _, HM0.out, met0_len _ _, [], rfl, HJ1.out⟩
      case round =>
        obtain ⟨k2, hk2, rfl, hb2, met, hm2, hml, pre, hpre, hj2⟩ := hrel
        have HB2 := Lib.hid hb2; clear hb2
        have HM2 := Lib.hid hm2; clear hm2
        have HJ2 := Lib.hid hj2; clear hj2
        have HP := Lib.hid hpre; clear hpre
        cases k2 with
        | zero =>
          gi_wp2
          rw [Exit.noGoto_normal]
          go_end0
          have hp := HP.out
          rw [show coneFrom G.nodes 0 met = [] from rfl, List.append_nil] at hp
          exact ⟨⟨_, rfl⟩, hp ▸ HJ2.out⟩
        | succ j =>
          have ej : (((j + 1 : Nat) : Int) - 1) = (j : Int) := by omega
          rw [ej]
          have hj1 : j < G.nodes.length := by omega
          have m0 := HM2.out.cell (i := j) (by omega)
          have hd2 : decide ((0 : Int) ≤ j) = true := decide_eq_true (by omega)
          cases hmj : met.getD j false
          · rw [hmj] at m0
            have hcf : coneFrom G.nodes (j + 1) met = coneFrom G.nodes j met := by
              show (if met.getD j false = true then _ else _) = _
              rw [hmj]; try rfl
            have HCF := Lib.hid hcf; clear hcf
            gi_wp2
            go_roundw
            case rel => exact ⟨j, by omega, by go_num, HB2.out, met, HM2.out, hml, pre, by rw [← HCF.out]; exact HP.out, HJ2.out⟩
            case measure => simp [intOf]; try omega
          · rw [hmj] at m0
            have hxg : G.nodes[j]? = some G.nodes[j] := List.getElem?_eq_getElem hj1
            generalize hxe : G.nodes[j] = x0 at hxg
            clear hxe
            have hcf : coneFrom G.nodes (j + 1) met = j :: coneFrom G.nodes j (stepMet G.nodes met j) := by
              show (if met.getD j false = true then _ else _) = _
              rw [hmj]; try rfl
            have hpx : pre ++ [j] <+: coneDown G.nodes l := ⟨coneFrom G.nodes j (stepMet G.nodes met j), by rw [← HP.out, hcf]; simp⟩
            have HCF := Lib.hid hcf; clear hcf
            have HPX := Lib.hid hpx; clear hpx
            have cc : ∀ (p : Addr) (v : Value), w.cell? p = some v → p.block < w.heap.size → p.block ≠ bo → wr.cell? p = some v := fun p v hv hp hq => (World.cell?_of_block (HB2.out.block p.block hp (by simpa using hq))).trans hv
            have ⟨q0, q1, q2, q3⟩ := h.c
            have c1 := cc _ _ q1 hln hgo
            have bx1 := cc _ _ bx hxl hxo
            have ⟨n0, n1, n2, n3⟩ := h.node hxg
            have hnb := h.lt.2.1
            have n0 := cc _ _ n0 hnb hno
            have n1 := cc _ _ n1 hnb hno
            have n2 := cc _ _ n2 hnb hno
            have n3 := cc _ _ n3 hnb hno
            clear q0 q1 q2 q3 cc
            have ⟨xk, xl, xr, xd⟩ := dep_bd h.ok.1 hxg hsz
            have hMl : W.heap.size < wr.heap.size := HM2.out.blk.lt
            by_cases hk3 : x0.k = 3
            · have hb3 : ((x0.k : Int) == 3) = true := beqI (by omega)
              have hoth := h.ok.1.other j x0 hxg (by
                rcases Nat.eq_zero_or_pos j with hj0 | hj0
                · subst hj0
                  rw [h.ok.1.const] at hxg; cases hxg
                  simp at hk3
                · exact hj0)
              have ⟨o0, o1, o2, o3, o4, o5⟩ := hoth.resolve_left (by rintro rfl; simp at hk3)
              clear hoth o0 o5
              have hstep : stepMet G.nodes met j = (met.set (x0.l / 2) true).set (x0.r / 2) true := by unfold stepMet; rw [hxg]; simp [hk3, setMark]
              have ml := HM2.out.cell (i := x0.l / 2) (by omega)
              have mr := HM2.out.cell (i := x0.r / 2) (by omega)
              have fl : wr.frozen? ⟨W.heap.size, x0.l / 2, none⟩ = false := HM2.out.blk.frozen
              have fr : wr.frozen? ⟨W.heap.size, x0.r / 2, none⟩ = false := HM2.out.blk.frozen
              have hmS := (HM2.out.set (i := x0.l / 2) true).set (i := x0.r / 2) true
              have hmA : bblk ((((wr.setCell ⟨W.heap.size, x0.l / 2, none⟩ (.bool true)).setCell ⟨W.heap.size, x0.r / 2, none⟩ (.bool true)).alloc (.cells #[.int .u8 x0.k, .int .i64 x0.l, .int .i64 x0.r, .int .i64 x0.d] 90)).drew) W.heap.size ((met.set (x0.l / 2) true).set (x0.r / 2) true) := (Below.heap_alloc _ _ _ hmS.blk.lt).trans hmS
              have hst : Still 4 W.heap.size wr ((((wr.setCell ⟨W.heap.size, x0.l / 2, none⟩ (.bool true)).setCell ⟨W.heap.size, x0.r / 2, none⟩ (.bool true)).alloc (.cells #[.int .u8 x0.k, .int .i64 x0.l, .int .i64 x0.r, .int .i64 x0.d] 90)).drew) := (((HM2.out.still (Nat.le_refl _) _ _).trans ((HM2.out.set (i := x0.l / 2) true).still (Nat.le_refl _) _ _)).trans (Still.alloc _)).drew
              obtain ⟨fn, tmps, assign, body, hy, hR⟩ := HY.out pre j _ (HJ.out _ _ _ HJ2.out hst) HPX.out
              have HMS := Lib.hid hmA; clear hmS hmA
              have HSTL := Lib.hid hst; clear hst
              have HX3 := Lib.hid hk3; clear hk3
              have o3' : ¬ x0.r / 2 = x0.l / 2 := fun e => o3 e.symm
              gi_wp2
              refine Ord.St.doorIn (fun w' => w'.cell? ⟨wr.heap.size, 2, none⟩ = some (.int .i64 x0.r)) [.fl, .fl, .fl, .rd, .fl, .fl, .fl, .fl, .ho, .fl, .fl, .ef, .fl, .ef] [0, 0, 2, 6, 14, 0, 0, 64, 192, 448, 31, 1055, 4095, 8191] [0, 1, 2, 3, 4, 5, 6, 7, 8, 9, 10, 11, 12, 13] mixed (by kernel_rfl) (by kernel_rfl) rfl ?_
              refine Ord.St.fl2 (T' := ?_) 0 [1, 2, 3, 4, 5, 6, 7, 8, 9, 10, 11, 12, 13] _ _ rfl (by kernel_rfl) rfl rfl rfl rfl (fun K w' hk => ?_) ?_
              rotate_left
              · go_step; exact hk
              refine Ord.St.fl2 (T' := ?_) 1 [2, 3, 4, 5, 6, 7, 8, 9, 10, 11, 12, 13] _ _ rfl (by kernel_rfl) rfl rfl rfl rfl (fun K w' hk => ?_) ?_
              rotate_left
              · go_step; exact hk
              refine Ord.St.fl2 (T' := ?_) 2 [3, 4, 5, 6, 7, 8, 9, 10, 11, 12, 13] _ _ rfl (by kernel_rfl) rfl rfl rfl rfl (fun K w' hk => ?_) ?_
              rotate_left
              · go_step; exact hk
              refine Ord.St.rd2 (T' := ?_) 3 [4, 5, 6, 7, 8, 9, 10, 11, 12, 13] _ _ rfl (by kernel_rfl) rfl rfl rfl rfl (fun K hk => ?_) ?_
              rotate_left
              · go_step; exact hk
              refine Ord.St.fl2 (T' := ?_) 4 [5, 6, 7, 8, 9, 10, 11, 12, 13] _ _ rfl (by kernel_rfl) rfl rfl rfl rfl (fun K w' hk => ?_) ?_
              rotate_left
              · go_step; exact hk
              refine Ord.St.fl2 (T' := ?_) 5 [6, 7, 8, 9, 10, 11, 12, 13] _ _ rfl (by kernel_rfl) rfl rfl rfl rfl (fun K w' hk => ?_) ?_
              rotate_left
              · go_step; exact hk
              refine Ord.St.fl2 (T' := ?_) 6 [7, 8, 9, 10, 11, 12, 13] _ _ rfl (by kernel_rfl) rfl rfl rfl rfl (fun K w' hk => ?_) ?_
              rotate_left
              · go_step; exact hk
              refine Ord.St.fl2 (T' := ?_) 7 [8, 9, 10, 11, 12, 13] _ _ rfl (by kernel_rfl) rfl rfl rfl rfl (fun K w' hk => ?_) ?_
              rotate_left
              · go_step; exact hk
              refine Ord.St.ho2 (T' := ?_) 8 [9, 10, 11, 12, 13] _ _ rfl (by kernel_rfl) rfl rfl rfl rfl ?_ (fun K w' hw' hk => ?_) ?_
              rotate_left
              · (go_simp)
              · skip; go_step; exact hk
              refine Ord.St.fl2 (T' := ?_) 9 [10, 11, 12, 13] _ _ rfl (by kernel_rfl) rfl rfl rfl rfl (fun K w' hk => ?_) ?_
              rotate_left
              · go_step; exact hk
              refine Ord.St.fl2 (T' := ?_) 10 [11, 12, 13] _ _ rfl (by kernel_rfl) rfl rfl rfl rfl (fun K w' hk => ?_) ?_
              rotate_left
              · go_step; exact hk
              refine Ord.St.efC 11 [12, 13] _ rfl (by kernel_rfl) (fun K hK => ?_)
              go_wp2_with fail
              refine ⟨rfl, hK _ _ ?_ ?_⟩
              · (go_simp)
              clear hK K
              refine Ord.St.fl2 (T' := ?_) 12 [13] _ _ rfl (by kernel_rfl) rfl rfl rfl rfl (fun K w' hk => ?_) ?_
              rotate_left
              · go_step; exact hk
              refine Ord.St.ef 13 [] _ rfl (by kernel_rfl) (fun K hK => ?_)
              go_wp2_with fail
              refine ⟨rfl, hK _ _ ?_⟩; clear hK K
              refine Ord.St.nil ?_
              gi_wp2
              refine hR.mono ?_
              rintro e W2 ⟨rfl, hJ', hk⟩
              have HJ3 := Lib.hid hJ'; clear hJ'
              have HK := Lib.hid hk; clear hk
              gi_wp2
              go_roundw
              case rel => exact ⟨j, by omega, by go_num, Ch.kb ((((HB2.out.setCell (.inr HW.out.size) _).setCell (.inr HW.out.size) _).alloc _).drew) HK.out, _, bblk.kb HMS.out HK.out, by simp [hml], pre ++ [j], by rw [← HP.out, HCF.out, hstep]; simp, HJ3.out⟩
              case measure => simp [intOf]; try omega
            · have hb3 : ((x0.k : Int) == 3) = false := beqN (by omega)
              have hstep : stepMet G.nodes met j = met := by unfold stepMet; rw [hxg]; simp [hk3]
              obtain ⟨fn, tmps, assign, body, hy, hR⟩ := HY.out pre j (wr.alloc (.cells #[.int .u8 x0.k, .int .i64 x0.l, .int .i64 x0.r, .int .i64 x0.d] 90)) (HJ.out _ _ _ HJ2.out (Still.alloc _)) HPX.out
              have hmA : bblk (wr.alloc (.cells #[.int .u8 x0.k, .int .i64 x0.l, .int .i64 x0.r, .int .i64 x0.d] 90)) W.heap.size met := (Below.heap_alloc wr _ _ hMl).trans HM2.out
              have HMA := Lib.hid hmA; clear hmA
              gi_wp2
              refine hR.mono ?_
              rintro e W2 ⟨rfl, hJ', hk⟩
              have HJ3 := Lib.hid hJ'; clear hJ'
              have HK := Lib.hid hk; clear hk
              gi_wp2
              go_roundw
              case rel => exact ⟨j, by omega, by go_num, Ch.kb (HB2.out.alloc _) HK.out, met, HMA.out.kb HK.out, hml, pre ++ [j], by rw [← HP.out, HCF.out, hstep]; simp, HJ3.out⟩
              case measure => simp [intOf]; try omega
end
end Go.Proofs.Ytnajonchjlplmaa
namespace Go.Proofs.Ytnajonchjlplmaa
open Go.RowKit Go.Mem Go.Aig
theorem fnvCone1 : Fnv 55 := fnv_of Try.func55 (by simp [Try.f55]) (by simp [Try.f55])
section
variable {w : World} {g : Nat} {G : Gra} {nb ncap : Nat} {iv : Value} {mb : Nat}
set_option maxRecDepth 100000 in
set_option maxHeartbeats 1000000 in
theorem Cone1_is (h : GM w g G nb ncap iv mb) {bx : Nat} (hb : w.cell? ⟨bx, 0, none⟩ = some (.pointer (some ⟨g, 0, none⟩))) (r : Int) (hr : r ≤ 9223372036854775807) :
    Calls Try.prog 55 (#[.int .i64 r] ++ #[.pointer (some ⟨bx, 0, none⟩)]) w fun e w' => e = .returned (.bool (!right G.nodes r)) ∧ w = w' := by
  show Calls Try.prog 55 #[.int .i64 r, .pointer (some ⟨bx, 0, none⟩)] w _
  have HR := Right_is h r hr
  clear h
  generalize right G.nodes r = q at *
  go_enter Try.func55, Try.ntmps55
  go_wp2_with fail
  refine HR.mono ?_
  rintro e w' ⟨rfl, rfl⟩
  go_wp2_with fail
  go_ret
  exact ⟨ret_bool rfl, rfl⟩
set_option maxRecDepth 100000 in
set_option maxHeartbeats 1000000 in
theorem cone_is (g : Nat) (a : Option Addr) (n cap : Nat) :
    Calls Try.prog 56 #[.pointer (some ⟨g, 0, none⟩), .slice a n cap] w fun e w' => e = .returned (.func (.func 71) #[] #[.pointer (some ⟨w.heap.size, 0, none⟩), .pointer (some ⟨w.heap.size + 1, 0, none⟩)]) ∧ w' = (w.alloc (.cells #[.pointer (some ⟨g, 0, none⟩)] 24)).alloc (.cells #[.slice a n cap] 25) := by
  go_enter Try.func56, Try.ntmps56
  go_wp2_with fail
  go_ret
  exact ⟨rfl, rfl⟩
end
end Go.Proofs.Ytnajonchjlplmaa
namespace Go.Proofs.Ytnajonchjlplmaa
open Go.RowKit Go.Mem Go.Aig
/-- after i swaps -/
def swapped (l : List Nat) (i : Nat) (L : List Nat) : Prop := L.length = l.length ∧ ∀ p, p < l.length → L[p]? = if p < i ∨ l.length - i ≤ p then l[l.length - 1 - p]? else l[p]?
theorem swapped_zero (l : List Nat) : swapped l 0 l := ⟨rfl, fun p hp => by rw [if_neg (by omega)]⟩
theorem swapped_done {l L : List Nat} {i : Nat} (h : swapped l i L) (hi : l.length ≤ 2 * i + 1) : L = l.reverse := by
  apply List.ext_getElem?
  intro p
  by_cases hp : p < l.length
  · rw [h.2 p hp, List.getElem?_reverse hp]
    split
    · rfl
    · have : l.length - 1 - p = p := by omega
      rw [this]
  · rw [List.getElem?_eq_none (by rw [h.1]; omega), List.getElem?_eq_none (by simp; omega)]
theorem swapped_step {l L : List Nat} {i x y : Nat} (h : swapped l i L) (hi : 2 * i + 1 < l.length) (hx : L[i]? = some x) (hy : L[l.length - 1 - i]? = some y) :
    swapped l (i + 1) ((L.set i y).set (l.length - 1 - i) x) := by
  refine ⟨by simp [h.1], fun p hp => ?_⟩
  have e1 := h.2 i (by omega)
  rw [if_neg (by omega), hx] at e1
  have e2 := h.2 (l.length - 1 - i) (by omega)
  rw [if_neg (by omega), hy] at e2
  by_cases h1 : p = l.length - 1 - i
  · subst h1
    rw [List.getElem?_set_self (by simp [h.1]; omega), if_pos (by omega)]
    rw [show l.length - 1 - (l.length - 1 - i) = i from by omega]; exact e1
  · rw [List.getElem?_set_ne (by omega)]
    by_cases h2 : p = i
    · subst h2
      rw [List.getElem?_set_self (by rw [h.1]; omega), if_pos (by omega)]; exact e2
    · rw [List.getElem?_set_ne (by omega), h.2 p hp]
      by_cases h3 : p < i ∨ l.length - i ≤ p
      · rw [if_pos h3, if_pos (by omega)]
      · rw [if_neg h3, if_neg (by omega)]
section
variable {w : World}
theorem row.set {e : TypeId} {b n cap i : Nat} {xs : List Value} (h : row w e 1 (.slice (some ⟨b, 0, none⟩) n cap) n xs) (v : Value) : row (w.setCell ⟨b, i, none⟩ v) e 1 (.slice (some ⟨b, 0, none⟩) n cap) n (xs.set i v) := by
  refine ⟨by rw [List.length_set]; exact h.1, ?_⟩
  rcases h.2 with ⟨e1, _⟩ | ⟨g, cap', cur, e1, h0, hg, hle, hm, hs, ht⟩
  · cases e1
  · cases e1
    refine .inr ⟨b, cap, cur.setIfInBounds i v, rfl, h0, ?_, hle, hm, by simpa using hs, ?_⟩
    · simp only [World.setCell, Array.getElem?_modify]
      rw [if_pos trivial, hg]
      simp
    · rw [Array.toList_setIfInBounds, List.take_set, ht]
set_option maxRecDepth 100000 in
set_option maxHeartbeats 1000000 in
theorem Rev_some {b n cap : Nat} {l : List Nat} (h : row w 3 1 (.slice (some ⟨b, 0, none⟩) n cap) n (refsCells l)) (hn : n ≤ 1000000) :
    Calls Try.prog 57 #[.slice (some ⟨b, 0, none⟩) n cap] w fun e w' => (∃ v, e = .returned v) ∧ row w' 3 1 (.slice (some ⟨b, 0, none⟩) n cap) n (refsCells l.reverse) ∧ Ch [b] w w' := by
  have hl : l.length = n := by have := h.1; simpa [refsCells] using this
  have H := Lib.hid h; clear h
  go_enter Try.func57, Try.ntmps57
  go_wp2_with fail
  go_loopw [2, 3] (fun i j wr => ∃ k : Nat, 2 * k ≤ n + 1 ∧ i = .int .i64 k ∧ j = .int .i64 ((n : Int) - 1 - k) ∧ (∃ L, swapped l k L ∧ row wr 3 1 (.slice (some ⟨b, 0, none⟩) n cap) n (refsCells L)) ∧ Ch [b] w wr) (fun i _ _ => n - (intOf i).toNat)
  case atStart => exact ⟨0, by omega, rfl, by go_num, ⟨l, swapped_zero l, H.out⟩, Ch.refl _ _⟩
  case round =>
    obtain ⟨k, hk, rfl, rfl, ⟨L, hL, hrow⟩, hc⟩ := hrel
    have HL := Lib.hid hL; clear hL
    have HR := Lib.hid hrow; clear hrow
    have HC := Lib.hid hc; clear hc
    by_cases hlt : 2 * k + 1 < n
    · have ej : (n : Int) - 1 - k = ((n - 1 - k : Nat) : Int) := by omega
      rw [ej]
      have hLl : L.length = n := by rw [HL.out.1, hl]
      have hx : L[k]? = some L[k] := List.getElem?_eq_getElem (by omega)
      have hy : L[n - 1 - k]? = some L[n - 1 - k] := List.getElem?_eq_getElem (by omega)
      generalize L[k] = x at hx
      generalize L[n - 1 - k] = y at hy
      have c1 : wr.cell? ⟨b, k, none⟩ = some (.int .i64 x) := by
        have := HR.out.cells (g := b) rfl k (.int .i64 x) (by simp [refsCells, hx])
        rw [Addr.add_lit] at this; simpa using this
      have c2 : wr.cell? ⟨b, n - 1 - k, none⟩ = some (.int .i64 y) := by
        have := HR.out.cells (g := b) rfl (n - 1 - k) (.int .i64 y) (by simp [refsCells, hy])
        rw [Addr.add_lit] at this; simpa using this
      have f0 : ∀ i, wr.frozen? ⟨b, i, none⟩ = false := fun i => by
        rcases HR.out.2 with ⟨e1, _⟩ | ⟨g, cap', cur, e1, h0, hg, _⟩
        · cases e1
        · cases e1; simp [World.frozen?, hg]
      have f1 := f0 k
      have f2 := f0 (n - 1 - k)
      have hne : ¬ n - 1 - k = k := by omega
      have hne' : ¬ k = n - 1 - k := by omega
      have hd : decide ((k : Int) < ((n - 1 - k : Nat) : Int)) = true := decide_eq_true (by omega)
      have hst := swapped_step HL.out (by omega) hx (by rw [hl]; exact hy)
      have HST := Lib.hid hst; clear hst
      clear f0
      go_wp2_with fail
      refine Ord.St.door (fun _ => True) [.fl, .fl, .fl, .fl, .fl, .fl, .fl, .rd, .fl, .fl, .fl, .rd, .fl, .ef, .fl, .ef] [0, 0, 0, 0, 0, 0, 48, 112, 0, 0, 768, 1792, 4083, 8179, 16383, 32767] [0, 1, 2, 3, 4, 5, 6, 7, 8, 9, 10, 11, 12, 13, 14, 15] mixed (by kernel_rfl) rfl ?_
      refine Ord.St.fl2 (T' := ?_) 0 [1, 2, 3, 4, 5, 6, 7, 8, 9, 10, 11, 12, 13, 14, 15] _ _ rfl (by kernel_rfl) rfl rfl rfl rfl (fun K w' hk => ?_) ?_
      rotate_left
      · go_step; exact hk
      refine Ord.St.fl2 (T' := ?_) 1 [2, 3, 4, 5, 6, 7, 8, 9, 10, 11, 12, 13, 14, 15] _ _ rfl (by kernel_rfl) rfl rfl rfl rfl (fun K w' hk => ?_) ?_
      rotate_left
      · go_step; exact hk
      refine Ord.St.fl2 (T' := ?_) 2 [3, 4, 5, 6, 7, 8, 9, 10, 11, 12, 13, 14, 15] _ _ rfl (by kernel_rfl) rfl rfl rfl rfl (fun K w' hk => ?_) ?_
      rotate_left
      · go_step; exact hk
      refine Ord.St.fl2 (T' := ?_) 3 [4, 5, 6, 7, 8, 9, 10, 11, 12, 13, 14, 15] _ _ rfl (by kernel_rfl) rfl rfl rfl rfl (fun K w' hk => ?_) ?_
      rotate_left
      · go_step; exact hk
      refine Ord.St.fl2 (T' := ?_) 4 [5, 6, 7, 8, 9, 10, 11, 12, 13, 14, 15] _ _ rfl (by kernel_rfl) rfl rfl rfl rfl (fun K w' hk => ?_) ?_
      rotate_left
      · go_step; exact hk
      refine Ord.St.fl2 (T' := ?_) 5 [6, 7, 8, 9, 10, 11, 12, 13, 14, 15] _ _ rfl (by kernel_rfl) rfl rfl rfl rfl (fun K w' hk => ?_) ?_
      rotate_left
      · go_step; exact hk
      refine Ord.St.fl2 (T' := ?_) 6 [7, 8, 9, 10, 11, 12, 13, 14, 15] _ _ rfl (by kernel_rfl) rfl rfl rfl rfl (fun K w' hk => ?_) ?_
      rotate_left
      · go_step; exact hk
      refine Ord.St.rd2 (T' := ?_) 7 [8, 9, 10, 11, 12, 13, 14, 15] _ _ rfl (by kernel_rfl) rfl rfl rfl rfl (fun K hk => ?_) ?_
      rotate_left
      · go_step; exact hk
      refine Ord.St.fl2 (T' := ?_) 8 [9, 10, 11, 12, 13, 14, 15] _ _ rfl (by kernel_rfl) rfl rfl rfl rfl (fun K w' hk => ?_) ?_
      rotate_left
      · go_step; exact hk
      refine Ord.St.fl2 (T' := ?_) 9 [10, 11, 12, 13, 14, 15] _ _ rfl (by kernel_rfl) rfl rfl rfl rfl (fun K w' hk => ?_) ?_
      rotate_left
      · go_step; exact hk
      refine Ord.St.fl2 (T' := ?_) 10 [11, 12, 13, 14, 15] _ _ rfl (by kernel_rfl) rfl rfl rfl rfl (fun K w' hk => ?_) ?_
      rotate_left
      · go_step; exact hk
      refine Ord.St.rd2 (T' := ?_) 11 [12, 13, 14, 15] _ _ rfl (by kernel_rfl) rfl rfl rfl rfl (fun K hk => ?_) ?_
      rotate_left
      · go_step; exact hk
      refine Ord.St.fl2 (T' := ?_) 12 [13, 14, 15] _ _ rfl (by kernel_rfl) rfl rfl rfl rfl (fun K w' hk => ?_) ?_
      rotate_left
      · go_step; exact hk
      refine Ord.St.ef 13 [14, 15] _ rfl (by kernel_rfl) (fun K hK => ?_)
      go_wp2_with fail
      refine ⟨rfl, hK _ _ ?_⟩; clear hK K
      refine Ord.St.fl2 (T' := ?_) 14 [15] _ _ rfl (by kernel_rfl) rfl rfl rfl rfl (fun K w' hk => ?_) ?_
      rotate_left
      · go_step; exact hk
      refine Ord.St.ef 15 [] _ rfl (by kernel_rfl) (fun K hK => ?_)
      go_wp2_with fail
      refine ⟨rfl, hK _ _ ?_⟩; clear hK K
      refine Ord.St.nil ?_
      go_wp2_with fail
      go_roundw
      case rel =>
        refine ⟨k + 1, by omega, by go_num, by go_num, ⟨_, HST.out, ?_⟩, ((HC.out.setCell (by simp) _).setCell (by simp) _).drew⟩
        rw [hl]
        have := row.set (i := n - 1 - k) (row.set (i := k) HR.out (.int .i64 y)) (.int .i64 x)
        simp only [refsCells, List.map_set] at this ⊢
        exact this
      case measure => simp [intOf]; omega
    · have hd : decide ((k : Int) < (n : Int) - 1 - k) = false := decide_eq_false (by omega)
      go_wp2_with fail
      go_end0
      rw [← swapped_done HL.out (by omega)]
      exact ⟨⟨_, rfl⟩, HR.out, HC.out⟩
set_option maxRecDepth 100000 in
set_option maxHeartbeats 1000000 in
theorem Rev_nil : Calls Try.prog 57 #[.slice none 0 0] w fun e w' => (∃ v, e = .returned v) ∧ w = w' := by
  go_enter Try.func57, Try.ntmps57
  go_wp2_with fail
  refine wp_loop_rounds 1 ?_
  rw [rounds_succ]
  go_wp2_with fail
  go_end0
  exact ⟨⟨_, rfl⟩, rfl⟩
theorem Rev_is {v : Value} {n : Nat} {l : List Nat} (h : row w 3 1 v n (refsCells l)) (hn : n ≤ 1000000) :
    Calls Try.prog 57 #[v] w fun e w' => (∃ v, e = .returned v) ∧ row w' 3 1 v n (refsCells l.reverse) ∧ Ch v.ownBlock.toList w w' := by
  rcases h.2 with ⟨rfl, rfl⟩ | ⟨g, cap, cur, rfl, _⟩
  · refine Rev_nil.mono ?_
    rintro e w' ⟨he, rfl⟩
    have h1 : l = [] := by have := h.1; simpa [refsCells] using this
    subst h1
    exact ⟨he, h, Ch.refl _ _⟩
  · refine (Rev_some h hn).mono ?_
    rintro e w' ⟨he, hr, hc⟩
    exact ⟨he, hr, by simpa using hc⟩
end
end Go.Proofs.Ytnajonchjlplmaa
namespace Go.Proofs.Ytnajonchjlplmaa
open Go.RowKit Go.Mem Go.Aig
section
variable {w : World} {g : Nat} {G : Gra} {nb ncap : Nat} {iv : Value} {mb : Nat}
set_option maxRecDepth 100000 in
set_option maxHeartbeats 2000000 in
theorem Cone_no (h : GM w g G nb ncap iv mb) {a : Option Addr} {l : List Int} (cap : Nat) (hl : Sl w a l) (hlb : ∀ x ∈ l, x ≤ 9223372036854775807) (halt : ∀ p, a = some p → p.block < w.heap.size)
    (hany : (l.any fun x => !right G.nodes x) = true) :
    Calls Try.prog 26 #[.pointer (some ⟨g, 0, none⟩), .slice a l.length cap] w fun e w' => e = .returned (.tuple #[.slice none 0 0, .int .i64 200]) ∧ Ch [] w w' := by
  have hW1 : Ch [] w (w.alloc (.cells #[.pointer (some ⟨g, 0, none⟩)] 24)) := (Ch.refl _ _).alloc _
  have H1 := h.ch hW1 (by simp)
  have b1 : (w.alloc (.cells #[.pointer (some ⟨g, 0, none⟩)] 24)).cell? ⟨w.heap.size, 0, none⟩ = some (.pointer (some ⟨g, 0, none⟩)) := by go_simp
  have HN := none_no H1
  have hl1 : Sl (w.alloc (.cells #[.pointer (some ⟨g, 0, none⟩)] 24)) a l := ⟨fun i x hx => by
    obtain ⟨b, o, hao, hc⟩ := hl.cells i x hx
    exact ⟨b, o, hao, (hW1.cell (p := ⟨b, o + i, none⟩) (halt ⟨b, o, none⟩ hao) (by simp)).trans hc⟩, hl.bd⟩
  have HC := CFref_is cap 55 #[.pointer (some ⟨w.heap.size, 0, none⟩)] (fun x => !right G.nodes x) hl1 (fun x hx => Cone1_is H1 b1 x (hlb x hx)) fnvCone1
  rw [hany] at HC
  have HH1 := Lib.hid H1; clear H1
  clear hl1 b1 hl h hany
  have HW1 := Lib.hid hW1; clear hW1
  go_enter Try.func26, Try.ntmps26
  go_wp2_with fail
  refine HN.mono ?_
  rintro e w' ⟨rfl, rfl⟩
  go_wp2_with fail
  refine HC.mono ?_
  rintro e w' ⟨rfl, rfl⟩
  go_wp2_with fail
  go_ret2
  exact ⟨rfl, HW1.out⟩
end
end Go.Proofs.Ytnajonchjlplmaa
namespace Go.Proofs.Ytnajonchjlplmaa
open Go.RowKit Go.Mem Go.Aig Go.Shelf
attribute [local go_sem] Oper.semAt_some
theorem fnvcone1 : Fnv 71 := fnv_of Try.func71 (by simp [Try.f71]) (by simp [Try.f71])
theorem infoInt : (Try.prog.info? 3).map (fun i => (i.zero, i.size, i.bytes)) = some (some (.int .i64 0), 1, 8) := by kernel_rfl
section
variable {w : World} {g : Nat} {G : Gra} {nb ncap : Nat} {iv : Value} {mb : Nat}
set_option maxRecDepth 100000 in
set_option maxHeartbeats 2000000 in
theorem Cone_yes (h : GM w g G nb ncap iv mb) {a : Option Addr} {l : List Nat} (cap : Nat) (hl : Sl w a (l.map fun (r : Nat) => (r : Int))) (halt : ∀ p, a = some p → p.block < w.heap.size)
    (hr : ∀ r ∈ l, r < 2 * G.nodes.length) :
    Calls Try.prog 26 #[.pointer (some ⟨g, 0, none⟩), .slice a l.length cap] w fun e w' => ∃ v, e = .returned (.tuple #[v, .int .i64 0]) ∧ row w' 3 1 v (cone G.nodes l).length (refsCells (cone G.nodes l)) ∧ (∀ k, v.ownBlock = some k → w.heap.size ≤ k) ∧ Ch [] w w' := by
  have hW1 : Ch [] w (w.alloc (.cells #[.pointer (some ⟨g, 0, none⟩)] 24)) := (Ch.refl _ _).alloc _
  have H1 := h.ch hW1 (by simp)
  have b1 : (w.alloc (.cells #[.pointer (some ⟨g, 0, none⟩)] 24)).cell? ⟨w.heap.size, 0, none⟩ = some (.pointer (some ⟨g, 0, none⟩)) := by go_simp
  have HN := none_no H1
  have hsz : G.nodes.length ≤ 65536 := by have := h.ok.room; have := h.ok.most; omega
  have hl1 : Sl (w.alloc (.cells #[.pointer (some ⟨g, 0, none⟩)] 24)) a (l.map fun (r : Nat) => (r : Int)) := ⟨fun i x hx => by
    obtain ⟨b, o, hao, hc⟩ := hl.cells i x hx
    exact ⟨b, o, hao, (hW1.cell (p := ⟨b, o + i, none⟩) (halt ⟨b, o, none⟩ hao) (by simp)).trans hc⟩, hl.bd⟩
  have hright : ((l.map fun (r : Nat) => (r : Int)).any fun x => !right G.nodes x) = false := by
    simp [right]
    intro x hx
    have := hr x hx; omega
  have HC := CFref_is cap 55 #[.pointer (some ⟨w.heap.size, 0, none⟩)] (fun x => !right G.nodes x) hl1 (fun x hx => Cone1_is H1 b1 x (by
    obtain ⟨r, hm, rfl⟩ := List.mem_map.1 hx
    have := hr r hm; omega) ) fnvCone1
  rw [hright, List.length_map] at HC
  have HCO := fun W => cone_is (w := W) g a l.length cap
  refine (callsIn_wide (n := 4)).1 ?_
  refine callsIn_of_wp_marks Try.func26 rfl trivial ?_ rfl
  simp only [Try.ntmps26, List.size_toArray, List.length_cons, List.length_nil, Nat.reduceAdd, Nat.reduceSub, Array.replicate_succ, Array.replicate_zero, List.push_toArray, List.append_toArray, List.nil_append, List.cons_append]
  refine wpIn_wide.2 ?_
  go_wp2_with fail
  refine HN.mono ?_
  rintro e w' ⟨rfl, rfl⟩
  go_wp2_with fail
  refine HC.mono ?_
  rintro e w' ⟨rfl, rfl⟩
  go_wp2_with fail
  refine (HCO _).mono ?_
  rintro e w' ⟨rfl, rfl⟩
  go_wp2_with fail
  have hzw : ((((w.alloc (.cells #[.pointer (some ⟨g, 0, none⟩)] 24)).alloc (.cells #[.slice none 0 0] 54)).alloc (.cells #[.pointer (some ⟨g, 0, none⟩)] 24)).alloc (.cells #[.slice a l.length cap] 25)).heap.size = w.heap.size + 4 := by simp
  have hc0 : Ch [] w ((((w.alloc (.cells #[.pointer (some ⟨g, 0, none⟩)] 24)).alloc (.cells #[.slice none 0 0] 54)).alloc (.cells #[.pointer (some ⟨g, 0, none⟩)] 24)).alloc (.cells #[.slice a l.length cap] 25)) := ((((Ch.refl _ _).alloc _).alloc _).alloc _).alloc _
  have hx0 : ((((w.alloc (.cells #[.pointer (some ⟨g, 0, none⟩)] 24)).alloc (.cells #[.slice none 0 0] 54)).alloc (.cells #[.pointer (some ⟨g, 0, none⟩)] 24)).alloc (.cells #[.slice a l.length cap] 25)).cell? ⟨w.heap.size + 2, 0, none⟩ = some (.pointer (some ⟨g, 0, none⟩)) := by go_simp
  have hy0 : ((((w.alloc (.cells #[.pointer (some ⟨g, 0, none⟩)] 24)).alloc (.cells #[.slice none 0 0] 54)).alloc (.cells #[.pointer (some ⟨g, 0, none⟩)] 24)).alloc (.cells #[.slice a l.length cap] 25)).cell? ⟨w.heap.size + 3, 0, none⟩ = some (.slice a l.length cap) := by go_simp
  have hbx0 : Boxed ((((w.alloc (.cells #[.pointer (some ⟨g, 0, none⟩)] 24)).alloc (.cells #[.slice none 0 0] 54)).alloc (.cells #[.pointer (some ⟨g, 0, none⟩)] 24)).alloc (.cells #[.slice a l.length cap] 25)) (w.heap.size + 1) 54 (.slice none 0 0) := by
    refine Boxed.alloc (Boxed.alloc ?_ _) _
    have := Boxed.new (w.alloc (.cells #[.pointer (some ⟨g, 0, none⟩)] 24)) 54 (.slice none 0 0)
    simpa using this
  have hl2 : Sl ((((w.alloc (.cells #[.pointer (some ⟨g, 0, none⟩)] 24)).alloc (.cells #[.slice none 0 0] 54)).alloc (.cells #[.pointer (some ⟨g, 0, none⟩)] 24)).alloc (.cells #[.slice a l.length cap] 25)) a (l.map fun (r : Nat) => (r : Int)) := ⟨fun i x hx => by
    obtain ⟨b, o, hao, hc⟩ := hl.cells i x hx
    exact ⟨b, o, hao, (hc0.cell (p := ⟨b, o + i, none⟩) (halt ⟨b, o, none⟩ hao) (by simp)).trans hc⟩, hl.bd⟩
  have hg0 := h.ch hc0 (by simp)
  have hlt := h.lt
  clear hl1 HN HC HCO hl b1 hW1
  generalize hW0 : (((w.alloc (.cells #[.pointer (some ⟨g, 0, none⟩)] 24)).alloc (.cells #[.slice none 0 0] 54)).alloc (.cells #[.pointer (some ⟨g, 0, none⟩)] 24)).alloc (.cells #[.slice a l.length cap] 25) = W0 at *
  clear hW0
  have hst := cone1_stops (w.heap.size + 1) Fence.wide 3 trivial rfl (by omega) hg0 hx0 (by omega) cap hy0 (by omega) hl2 (fun p hp => by have := halt p hp; exact ⟨by omega, by omega⟩) hr (by omega) (by omega) (by omega)
  refine (wpIn_wide (n := 4)).1 ?_
  have hli := coneFrom_len G.nodes G.nodes.length (met0 G.nodes.length l)
  refine wpIn_rangeFunc_B (n := 4) rfl (by omega) rfl trivial (fun args w => fnvcone1 args w) hst Kb.trans ?kb (Below.refl _ _) (fun _ => rfl)
    (fun pre W => (∃ v, Boxed W (w.heap.size + 1) 54 v ∧ W.ownsRow (w.heap.size + 4) 3 1 v pre.length (refsCells pre)) ∧ Ch [] w W ∧ W0.heap.size ≤ W.heap.size) ?hi ?h0
    (fun k => { tmps := #[.pointer (some ⟨g, 0, none⟩), .slice a l.length cap, .pointer (some ⟨w.heap.size, 0, none⟩), undef, .slice none 0 0, .int .i64 0, .pointer (some ⟨w.heap.size + 1, 0, none⟩), .int .i64 k, .bool false, .pointer (some ⟨g, 0, none⟩), .bool false, .bool false, .slice a l.length cap, .func (.func 55) #[] #[.pointer (some ⟨w.heap.size, 0, none⟩)], .bool false, .pointer (some ⟨g, 0, none⟩), .slice a l.length cap, .func (.func 71) #[] #[.pointer (some ⟨w.heap.size + 1 + 1, 0, none⟩), .pointer (some ⟨w.heap.size + 1 + 1 + 1, 0, none⟩)], .int .i64 k, undef, undef, undef, undef, undef, undef, undef], defers := [] }) ?assign ?body ?done
  case kb =>
    intro W q o o' hq ho hoc
    refine ⟨rfl, rfl, rfl, by simp, fun k hk _ => World.putObj_heap_other (by omega), fun b xs hb => ?_⟩
    by_cases hbq : b = q
    · subst hbq; rw [ho] at hb; cases hb; cases hoc
    · exact (World.putObj_heap_other hbq).trans hb
  case hi =>
    rintro pre A B ⟨⟨v, hv, hrow⟩, hc, hz⟩ hs
    refine ⟨⟨v, hs.keep _ _ hv (.inr ⟨_, _, _, rfl, by decide⟩), hrow.1, ?_⟩, ⟨hs.os.trans hc.os, hs.tape.trans hc.tape, hs.output.trans hc.output, Nat.le_trans hc.size hs.size, fun k hk hkn => ?_⟩, Nat.le_trans hz hs.size⟩
    · rcases hrow.2 with e1 | ⟨g2, cap', cur, e1, h0, hg2, rest⟩
      · exact .inl e1
      · exact .inr ⟨g2, cap', cur, e1, h0, hs.keep _ _ hg2 (.inr ⟨_, _, _, rfl, by decide⟩), rest⟩
    · have hkA := hc.block k hk hkn
      have hk2 : k < A.heap.size := Nat.lt_of_lt_of_le hk hc.size
      rw [← hkA]
      rw [Array.getElem?_eq_getElem hk2]
      exact hs.keep k _ (Array.getElem?_eq_getElem hk2) (.inl (by omega))
  case h0 => exact ⟨⟨_, hbx0, rfl, .inl ⟨rfl, rfl⟩⟩, hc0, Nat.le_refl _⟩
  case assign =>
    intro q x W K hK
    gi_wp2
    exact hK
  case body =>
    rintro q pre x W ⟨⟨v, hv, hrow⟩, hc, hWl⟩ hpx
    have hxl : pre.length + 1 ≤ 65536 := by
      have := hpx.length_le
      unfold coneDown at this
      simp at this
      omega
    have hvc := hv.cell
    obtain ⟨i0, hi, hz0, hz1, hz2⟩ := info_parts infoInt
    have hrowA : (W.alloc (.cells #[.int .i64 x] 3)).ownsRow (w.heap.size + 4) 3 1 v pre.length (refsCells pre) := hrow.alloc _
    have HV := Lib.hid hv; clear hv
    have HROW := Lib.hid hrow; clear hrow
    have HC := Lib.hid hc; clear hc
    have HROWA := Lib.hid hrowA; clear hrowA
    have hWz : w.heap.size + 4 ≤ W.heap.size := by omega
    have HZ := Lib.hid hzw; clear hzw
    have HC0 := Lib.hid hc0; clear hc0
    clear hx0 hy0 hbx0 hl2 hg0 hst hright H1
    gi_wp2_with (gi_at_builtin; go_loud (refine wpListIn_append_own _ rfl _ _ _ rfl (w.heap.size + 4) 3 i0 (.int .i64 0) 1 8 Try.underlying54 hi hz0 hz1 hz2 rfl (by decide) v pre.length (refsCells pre) rfl HROWA.out ⟨W.heap.size, 0, none⟩ 1 1 [.int .i64 x] rfl rfl (news_blk (blk.new' _ _ rfl)) (by simp [Value.oneCell']) (by unfold maxLen; omega) (by omega) (by simp; omega) ?_; intro v' w1 hown hgrow _; have hnr := HV.out.not_row (by decide) HROW.out; have hv1 := (HV.out.alloc (.cells #[.int .i64 x] 3)).kept hgrow hnr; have hv1c := hv1.cell; have hv1f := hv1.frozen; obtain ⟨g', cap', rfl⟩ := ownsRow_succ hown; have HG := Lib.hid hgrow; clear hgrow; have HO := Lib.hid hown; clear hown; have HV1 := Lib.hid hv1; clear hv1; have HNR := Lib.hid hnr; clear hnr))
    gi_wp2
    have hw := HG.out
    have hr := HROW.out
    have hob : ∀ k, v.ownBlock = some k → w.heap.size + 4 ≤ k ∧ ∃ cur fz, W.heap[k]? = some (.cells cur 3 fz) := fun k hk => by
      rcases hr.2 with ⟨rfl, _⟩ | ⟨g2, c2, cur, rfl, hb, hgb, _⟩
      · simp at hk
      · simp at hk; subst hk; exact ⟨hb, _, _, hgb⟩
    have hbb := HV.out
    have hsz1 := hw.size
    simp only [World.size_alloc] at hsz1
    have hkeep : ∀ k, k < W.heap.size → some k ≠ v.ownBlock → k ≠ w.heap.size + 1 → (w1.setCell ⟨w.heap.size + 1, 0, none⟩ (.slice (some ⟨g', 0, none⟩) (pre.length + 1) cap')).heap[k]? = W.heap[k]? := fun k hk hne hnb => by
      rw [Below.heap_setCell w1 _ _ k hnb, hw.block k (by simp; omega) hne]
      exact Below.heap_alloc W _ k hk
    refine ⟨fun k o hk ho => ?_, ⟨hw.os, hw.tape, hw.output, ?_, fun k hk hne => ?_, fun b xs hb => ?_⟩, ⟨_, HV1.out.set _, ?_⟩, ((HC.out.alloc _).grown HG.out ?_).setCell ?_ _, ?_⟩
    · rw [hkeep k (Array.getElem?_eq_some_iff.1 hk).1 ?_ ?_]; exact hk
      · intro e
        obtain ⟨_, cur, fz, hc⟩ := hob k e.symm
        rw [hk] at hc; cases hc; cases ho
      · rintro rfl
        rw [show W.heap[_]? = _ from hbb] at hk; cases hk; cases ho
    · simp [World.setCell]; omega
    · rw [hkeep k (by omega) ?_ hne]
      intro e
      have := (hob k e.symm).1
      have := HZ.out; omega
    · rw [hkeep b (Array.getElem?_eq_some_iff.1 hb).1 ?_ ?_]; exact hb
      · intro e
        obtain ⟨_, cur, fz, hc⟩ := hob b e.symm
        rw [hb] at hc; cases hc
      · rintro rfl
        rw [show W.heap[_]? = _ from hbb] at hb; cases hb
    · have hO := HO.out
      rw [show refsCells (pre ++ [x]) = refsCells pre ++ [.int .i64 x] from by simp [refsCells]]
      exact hO.kept (grownBy_setCell' w1 _ _) (.inr (HV1.out.not_row (by decide) hO).symm)
    · intro k hk
      exact .inr (by have := (hob k hk).1; omega)
    · right; simp
    · omega
  case done =>
    rintro D W hD ⟨⟨v, hv, hrow⟩, hc, hz⟩ hK
    have hvc := hv.cell
    clear hst hl2 hg0 hx0 hy0 hbx0 H1 hc0 h
    have hll : (coneDown G.nodes l).length = (cone G.nodes l).length := by simp [cone]
    have hob : ∀ k, v.ownBlock = some k → w.heap.size ≤ k ∧ ∃ cur fz, W.heap[k]? = some (.cells cur 3 fz) := fun k hk => by
      rcases hrow.2 with ⟨rfl, _⟩ | ⟨g2, c2, cur, rfl, hb, hgb, _⟩
      · simp at hk
      · simp at hk; subst hk; exact ⟨by omega, _, _, hgb⟩
    have hnr := hv.not_row (by decide) hrow
    have hrow0 : row W 3 1 v (coneDown G.nodes l).length (refsCells (coneDown G.nodes l)) := by
      refine ⟨hrow.1, ?_⟩
      rcases hrow.2 with e | ⟨g2, c2, cur, e, _, rest⟩
      · exact .inl e
      · exact .inr ⟨g2, c2, cur, e, Nat.zero_le _, rest⟩
    have hrev := Rev_is hrow0 (by show (coneFrom G.nodes G.nodes.length (met0 G.nodes.length l)).length ≤ _; omega)
    rw [hll] at hrev
    have HREV := Lib.hid hrev; clear hrev
    have HV := Lib.hid hv; clear hv
    have HNR := Lib.hid hnr; clear hnr
    have HC := Lib.hid hc; clear hc
    have HK := Lib.hid hK; clear hK
    have HOB := Lib.hid hob; clear hob
    clear hrow hrow0
    clear hli
    have HLL := Lib.hid hll; clear hll
    have HZW := Lib.hid hzw; clear hzw
    go_wp2_with fail
    refine HREV.out.mono ?_
    rintro e W2 ⟨⟨v', rfl⟩, hrow2, hc2⟩
    have hb2 : W2.cell? ⟨w.heap.size + 1, 0, none⟩ = some v := (hc2.cell (p := ⟨w.heap.size + 1, 0, none⟩) HV.out.lt (by simpa using fun e => HNR.out (by rw [e]))).trans hvc
    have hK2 : W2.heap[D]? = some (.deferred (some [])) := by
      refine (hc2.block D (Array.getElem?_eq_some_iff.1 HK.out).1 ?_).trans HK.out
      intro hm
      obtain ⟨_, cur, fz, hcur⟩ := HOB.out D (by simpa using hm)
      rw [HK.out] at hcur; cases hcur
    have HK2 := Lib.hid hK2; clear hK2
    have HR2 := Lib.hid hrow2; clear hrow2
    have HC2 := Lib.hid hc2; clear hc2
    go_wp2
    refine ⟨by simp, .inl ⟨_, _, rfl, run_takeDeferred HK2.out, ?_⟩⟩
    refine ⟨.tuple #[v, .int .i64 0], by simp [results, Try.results26, go_sem], v, rfl, ownsRow_putObj HR2.out _ HK2.out rfl, fun k hk => (HOB.out k hk).1, ?_⟩
    refine Ch.trans (F' := [D]) (HC.out.trans HC2.out (fun k hk => .inr (HOB.out k (by simpa using hk)).1)) ⟨rfl, rfl, rfl, by simp, fun k hk hn => World.putObj_heap_other (by simpa using hn)⟩ (fun k hk => .inr ?_)
    simp at hk
    have := HZW.out
    omega
end
end Go.Proofs.Ytnajonchjlplmaa
namespace Go.Proofs.Ytnajonchjlplmaa
open Go.RowKit Go.Mem Go.Aig
theorem cell_lt {w : World} {p : Addr} {v : Value} (h : w.cell? p = some v) : p.block < w.heap.size := by
  rcases Nat.lt_or_ge p.block w.heap.size with h1 | h1
  · exact h1
  · simp [World.cell?, Array.getElem?_eq_none h1] at h
theorem Sl.ch {F : List Nat} {w w' : World} {a : Option Addr} {xs : List Int} (h : Sl w a xs) (hc : Ch F w w') (hF : ∀ p, a = some p → p.block ∉ F) : Sl w' a xs :=
  ⟨fun i x hx => by
    obtain ⟨b, o, rfl, hcell⟩ := h.cells i x hx
    exact ⟨b, o, rfl, (hc.cell (p := ⟨b, o + i, none⟩) (cell_lt hcell) (hF ⟨b, o, none⟩ rfl)).trans hcell⟩, h.bd⟩
theorem take_eq_succ {xs ys : List Int} {k : Nat} {x y : Int} (h : xs.take k = ys.take k) (hx : xs[k]? = some x) (hy : ys[k]? = some y) (e : x = y) : xs.take (k + 1) = ys.take (k + 1) := by
  rw [List.take_add_one, List.take_add_one, h, hx, hy, e]
section
variable {w : World}
set_option maxRecDepth 100000 in
set_option maxHeartbeats 1000000 in
theorem Eqint_is {a b : Option Addr} {xs ys : List Int} (ca cb : Nat) (hx : Sl w a xs) (hy : Sl w b ys) :
    Calls Try.prog 40 #[.slice a xs.length ca, .slice b ys.length cb] w fun e w' => e = .returned (.bool (decide (xs = ys))) ∧ Ch [] w w' := by
  have hbx := hx.bd
  have hby := hy.bd
  have HX := Lib.hid hx; clear hx
  have HY := Lib.hid hy; clear hy
  by_cases hl : xs.length = ys.length
  · have hne : ((xs.length : Int) != (ys.length : Int)) = false := by simp [hl]
    generalize hd : decide (xs = ys) = d
    have HD := Lib.hid hd; clear hd
    have HL := Lib.hid hl; clear hl
    go_enter Try.func40, Try.ntmps40
    go_wp2_with fail
    go_loopw [13] (fun i wr => ∃ k : Nat, k ≤ xs.length ∧ i = .int .i64 k ∧ xs.take k = ys.take k ∧ Ch [] w wr) (fun i _ => xs.length - (intOf i).toNat)
    case atStart => exact ⟨0, Nat.zero_le _, rfl, rfl, Ch.refl _ _⟩
    case round =>
      obtain ⟨k, hk, rfl, ht, hc⟩ := hrel
      have HT := Lib.hid ht; clear ht
      by_cases hlt : k < xs.length
      · have hlt2 : k < ys.length := by have := HL.out; omega
        have hxk : xs[k]? = some xs[k] := List.getElem?_eq_getElem hlt
        have hyk : ys[k]? = some ys[k] := List.getElem?_eq_getElem hlt2
        obtain ⟨b1, o1, rfl, c1⟩ := (HX.out.ch hc (by simp)).cells k _ hxk
        obtain ⟨b2, o2, rfl, c2⟩ := (HY.out.ch hc (by simp)).cells k _ hyk
        generalize xs[k] = x at *
        generalize ys[k] = y at *
        have HXK := Lib.hid hxk; clear hxk
        have HYK := Lib.hid hyk; clear hyk
        have HC := Lib.hid hc; clear hc
        by_cases hxy : x = y
        · have hb : (x != y) = false := by simp [hxy]
          have HE := Lib.hid hxy; clear hxy
          go_wp2_with fail
          refine Ord.St.door (fun _ => True) [.fl, .fl, .fl, .rd, .fl, .fl, .fl, .rd, .fl] [0, 0, 3, 7, 0, 0, 48, 112, 255] [0, 1, 2, 3, 4, 5, 6, 7, 8] mixed (by kernel_rfl) rfl ?_
          refine Ord.St.fl2 (T' := ?_) 0 [1, 2, 3, 4, 5, 6, 7, 8] _ _ rfl (by kernel_rfl) rfl rfl rfl rfl (fun K w' hk => ?_) ?_
          rotate_left
          · go_step; exact hk
          refine Ord.St.fl2 (T' := ?_) 1 [2, 3, 4, 5, 6, 7, 8] _ _ rfl (by kernel_rfl) rfl rfl rfl rfl (fun K w' hk => ?_) ?_
          rotate_left
          · go_step; exact hk
          refine Ord.St.fl2 (T' := ?_) 2 [3, 4, 5, 6, 7, 8] _ _ rfl (by kernel_rfl) rfl rfl rfl rfl (fun K w' hk => ?_) ?_
          rotate_left
          · go_step; exact hk
          refine Ord.St.rd2 (T' := ?_) 3 [4, 5, 6, 7, 8] _ _ rfl (by kernel_rfl) rfl rfl rfl rfl (fun K hk => ?_) ?_
          rotate_left
          · go_step; exact hk
          refine Ord.St.fl2 (T' := ?_) 4 [5, 6, 7, 8] _ _ rfl (by kernel_rfl) rfl rfl rfl rfl (fun K w' hk => ?_) ?_
          rotate_left
          · go_step; exact hk
          refine Ord.St.fl2 (T' := ?_) 5 [6, 7, 8] _ _ rfl (by kernel_rfl) rfl rfl rfl rfl (fun K w' hk => ?_) ?_
          rotate_left
          · go_step; exact hk
          refine Ord.St.fl2 (T' := ?_) 6 [7, 8] _ _ rfl (by kernel_rfl) rfl rfl rfl rfl (fun K w' hk => ?_) ?_
          rotate_left
          · go_step; exact hk
          refine Ord.St.rd2 (T' := ?_) 7 [8] _ _ rfl (by kernel_rfl) rfl rfl rfl rfl (fun K hk => ?_) ?_
          rotate_left
          · go_step; exact hk
          refine Ord.St.fl2 (T' := ?_) 8 [] _ _ rfl (by kernel_rfl) rfl rfl rfl rfl (fun K w' hk => ?_) ?_
          rotate_left
          · go_step; exact hk
          refine Ord.St.nil ?_
          go_wp2_with fail
          go_roundw
          case rel => exact ⟨k + 1, by omega, by go_num, take_eq_succ HT.out HXK.out HYK.out HE.out, HC.out.drew⟩
          case measure => simp [intOf]; omega
        · have hb : (x != y) = true := by simp [hxy]
          have hdf : d = false := by
            rw [← HD.out]
            refine decide_eq_false fun e => hxy ?_
            have h1 := HXK.out
            rw [e, HYK.out] at h1
            cases h1; rfl
          have HDF := Lib.hid hdf; clear hdf
          clear hxy
          go_wp2_with fail
          refine Ord.St.door (fun _ => True) [.fl, .fl, .fl, .rd, .fl, .fl, .fl, .rd, .fl] [0, 0, 3, 7, 0, 0, 48, 112, 255] [0, 1, 2, 3, 4, 5, 6, 7, 8] mixed (by kernel_rfl) rfl ?_
          refine Ord.St.fl2 (T' := ?_) 0 [1, 2, 3, 4, 5, 6, 7, 8] _ _ rfl (by kernel_rfl) rfl rfl rfl rfl (fun K w' hk => ?_) ?_
          rotate_left
          · go_step; exact hk
          refine Ord.St.fl2 (T' := ?_) 1 [2, 3, 4, 5, 6, 7, 8] _ _ rfl (by kernel_rfl) rfl rfl rfl rfl (fun K w' hk => ?_) ?_
          rotate_left
          · go_step; exact hk
          refine Ord.St.fl2 (T' := ?_) 2 [3, 4, 5, 6, 7, 8] _ _ rfl (by kernel_rfl) rfl rfl rfl rfl (fun K w' hk => ?_) ?_
          rotate_left
          · go_step; exact hk
          refine Ord.St.rd2 (T' := ?_) 3 [4, 5, 6, 7, 8] _ _ rfl (by kernel_rfl) rfl rfl rfl rfl (fun K hk => ?_) ?_
          rotate_left
          · go_step; exact hk
          refine Ord.St.fl2 (T' := ?_) 4 [5, 6, 7, 8] _ _ rfl (by kernel_rfl) rfl rfl rfl rfl (fun K w' hk => ?_) ?_
          rotate_left
          · go_step; exact hk
          refine Ord.St.fl2 (T' := ?_) 5 [6, 7, 8] _ _ rfl (by kernel_rfl) rfl rfl rfl rfl (fun K w' hk => ?_) ?_
          rotate_left
          · go_step; exact hk
          refine Ord.St.fl2 (T' := ?_) 6 [7, 8] _ _ rfl (by kernel_rfl) rfl rfl rfl rfl (fun K w' hk => ?_) ?_
          rotate_left
          · go_step; exact hk
          refine Ord.St.rd2 (T' := ?_) 7 [8] _ _ rfl (by kernel_rfl) rfl rfl rfl rfl (fun K hk => ?_) ?_
          rotate_left
          · go_step; exact hk
          refine Ord.St.fl2 (T' := ?_) 8 [] _ _ rfl (by kernel_rfl) rfl rfl rfl rfl (fun K w' hk => ?_) ?_
          rotate_left
          · go_step; exact hk
          refine Ord.St.nil ?_
          go_wp2_with fail
          go_ret
          rw [HDF.out]
          exact ⟨rfl, HC.out.drew⟩
      · have hdt : d = true := by
          rw [← HD.out]
          have h1 := HT.out
          rw [List.take_of_length_le (by omega), List.take_of_length_le (by have := HL.out; omega)] at h1
          exact decide_eq_true h1
        have HDT := Lib.hid hdt; clear hdt
        have HC := Lib.hid hc; clear hc
        go_wp2_with fail
        go_ret
        rw [HDT.out]
        exact ⟨rfl, HC.out⟩
  · have hne : ((xs.length : Int) != (ys.length : Int)) = true := by rw [bne_iff_ne]; omega
    have hd : decide (xs = ys) = false := decide_eq_false fun e => hl (by rw [e])
    rw [hd]
    clear hd
    go_enter Try.func40, Try.ntmps40
    go_wp2_with fail
    go_ret
    exact ⟨rfl, Ch.refl _ _⟩
set_option maxRecDepth 100000 in
set_option maxHeartbeats 1000000 in
theorem Eqref_is {a b : Option Addr} {xs ys : List Int} (ca cb : Nat) (hx : Sl w a xs) (hy : Sl w b ys) :
    Calls Try.prog 83 #[.slice a xs.length ca, .slice b ys.length cb] w fun e w' => e = .returned (.bool (decide (xs = ys))) ∧ Ch [] w w' := by
  have hbx := hx.bd
  have hby := hy.bd
  have HX := Lib.hid hx; clear hx
  have HY := Lib.hid hy; clear hy
  by_cases hl : xs.length = ys.length
  · have hne : ((xs.length : Int) != (ys.length : Int)) = false := by simp [hl]
    generalize hd : decide (xs = ys) = d
    have HD := Lib.hid hd; clear hd
    have HL := Lib.hid hl; clear hl
    go_enter Try.func83, Try.ntmps83
    go_wp2_with fail
    go_loopw [13] (fun i wr => ∃ k : Nat, k ≤ xs.length ∧ i = .int .i64 k ∧ xs.take k = ys.take k ∧ Ch [] w wr) (fun i _ => xs.length - (intOf i).toNat)
    case atStart => exact ⟨0, Nat.zero_le _, rfl, rfl, Ch.refl _ _⟩
    case round =>
      obtain ⟨k, hk, rfl, ht, hc⟩ := hrel
      have HT := Lib.hid ht; clear ht
      by_cases hlt : k < xs.length
      · have hlt2 : k < ys.length := by have := HL.out; omega
        have hxk : xs[k]? = some xs[k] := List.getElem?_eq_getElem hlt
        have hyk : ys[k]? = some ys[k] := List.getElem?_eq_getElem hlt2
        obtain ⟨b1, o1, rfl, c1⟩ := (HX.out.ch hc (by simp)).cells k _ hxk
        obtain ⟨b2, o2, rfl, c2⟩ := (HY.out.ch hc (by simp)).cells k _ hyk
        generalize xs[k] = x at *
        generalize ys[k] = y at *
        have HXK := Lib.hid hxk; clear hxk
        have HYK := Lib.hid hyk; clear hyk
        have HC := Lib.hid hc; clear hc
        by_cases hxy : x = y
        · have hb : (x != y) = false := by simp [hxy]
          have HE := Lib.hid hxy; clear hxy
          go_wp2_with fail
          refine Ord.St.door (fun _ => True) [.fl, .fl, .fl, .rd, .fl, .fl, .fl, .rd, .fl] [0, 0, 3, 7, 0, 0, 48, 112, 255] [0, 1, 2, 3, 4, 5, 6, 7, 8] mixed (by kernel_rfl) rfl ?_
          refine Ord.St.fl2 (T' := ?_) 0 [1, 2, 3, 4, 5, 6, 7, 8] _ _ rfl (by kernel_rfl) rfl rfl rfl rfl (fun K w' hk => ?_) ?_
          rotate_left
          · go_step; exact hk
          refine Ord.St.fl2 (T' := ?_) 1 [2, 3, 4, 5, 6, 7, 8] _ _ rfl (by kernel_rfl) rfl rfl rfl rfl (fun K w' hk => ?_) ?_
          rotate_left
          · go_step; exact hk
          refine Ord.St.fl2 (T' := ?_) 2 [3, 4, 5, 6, 7, 8] _ _ rfl (by kernel_rfl) rfl rfl rfl rfl (fun K w' hk => ?_) ?_
          rotate_left
          · go_step; exact hk
          refine Ord.St.rd2 (T' := ?_) 3 [4, 5, 6, 7, 8] _ _ rfl (by kernel_rfl) rfl rfl rfl rfl (fun K hk => ?_) ?_
          rotate_left
          · go_step; exact hk
          refine Ord.St.fl2 (T' := ?_) 4 [5, 6, 7, 8] _ _ rfl (by kernel_rfl) rfl rfl rfl rfl (fun K w' hk => ?_) ?_
          rotate_left
          · go_step; exact hk
          refine Ord.St.fl2 (T' := ?_) 5 [6, 7, 8] _ _ rfl (by kernel_rfl) rfl rfl rfl rfl (fun K w' hk => ?_) ?_
          rotate_left
          · go_step; exact hk
          refine Ord.St.fl2 (T' := ?_) 6 [7, 8] _ _ rfl (by kernel_rfl) rfl rfl rfl rfl (fun K w' hk => ?_) ?_
          rotate_left
          · go_step; exact hk
          refine Ord.St.rd2 (T' := ?_) 7 [8] _ _ rfl (by kernel_rfl) rfl rfl rfl rfl (fun K hk => ?_) ?_
          rotate_left
          · go_step; exact hk
          refine Ord.St.fl2 (T' := ?_) 8 [] _ _ rfl (by kernel_rfl) rfl rfl rfl rfl (fun K w' hk => ?_) ?_
          rotate_left
          · go_step; exact hk
          refine Ord.St.nil ?_
          go_wp2_with fail
          go_roundw
          case rel => exact ⟨k + 1, by omega, by go_num, take_eq_succ HT.out HXK.out HYK.out HE.out, HC.out.drew⟩
          case measure => simp [intOf]; omega
        · have hb : (x != y) = true := by simp [hxy]
          have hdf : d = false := by
            rw [← HD.out]
            refine decide_eq_false fun e => hxy ?_
            have h1 := HXK.out
            rw [e, HYK.out] at h1
            cases h1; rfl
          have HDF := Lib.hid hdf; clear hdf
          clear hxy
          go_wp2_with fail
          refine Ord.St.door (fun _ => True) [.fl, .fl, .fl, .rd, .fl, .fl, .fl, .rd, .fl] [0, 0, 3, 7, 0, 0, 48, 112, 255] [0, 1, 2, 3, 4, 5, 6, 7, 8] mixed (by kernel_rfl) rfl ?_
          refine Ord.St.fl2 (T' := ?_) 0 [1, 2, 3, 4, 5, 6, 7, 8] _ _ rfl (by kernel_rfl) rfl rfl rfl rfl (fun K w' hk => ?_) ?_
          rotate_left
          · go_step; exact hk
          refine Ord.St.fl2 (T' := ?_) 1 [2, 3, 4, 5, 6, 7, 8] _ _ rfl (by kernel_rfl) rfl rfl rfl rfl (fun K w' hk => ?_) ?_
          rotate_left
          · go_step; exact hk
          refine Ord.St.fl2 (T' := ?_) 2 [3, 4, 5, 6, 7, 8] _ _ rfl (by kernel_rfl) rfl rfl rfl rfl (fun K w' hk => ?_) ?_
          rotate_left
          · go_step; exact hk
          refine Ord.St.rd2 (T' := ?_) 3 [4, 5, 6, 7, 8] _ _ rfl (by kernel_rfl) rfl rfl rfl rfl (fun K hk => ?_) ?_
          rotate_left
          · go_step; exact hk
          refine Ord.St.fl2 (T' := ?_) 4 [5, 6, 7, 8] _ _ rfl (by kernel_rfl) rfl rfl rfl rfl (fun K w' hk => ?_) ?_
          rotate_left
          · go_step; exact hk
          refine Ord.St.fl2 (T' := ?_) 5 [6, 7, 8] _ _ rfl (by kernel_rfl) rfl rfl rfl rfl (fun K w' hk => ?_) ?_
          rotate_left
          · go_step; exact hk
          refine Ord.St.fl2 (T' := ?_) 6 [7, 8] _ _ rfl (by kernel_rfl) rfl rfl rfl rfl (fun K w' hk => ?_) ?_
          rotate_left
          · go_step; exact hk
          refine Ord.St.rd2 (T' := ?_) 7 [8] _ _ rfl (by kernel_rfl) rfl rfl rfl rfl (fun K hk => ?_) ?_
          rotate_left
          · go_step; exact hk
          refine Ord.St.fl2 (T' := ?_) 8 [] _ _ rfl (by kernel_rfl) rfl rfl rfl rfl (fun K w' hk => ?_) ?_
          rotate_left
          · go_step; exact hk
          refine Ord.St.nil ?_
          go_wp2_with fail
          go_ret
          rw [HDF.out]
          exact ⟨rfl, HC.out.drew⟩
      · have hdt : d = true := by
          rw [← HD.out]
          have h1 := HT.out
          rw [List.take_of_length_le (by omega), List.take_of_length_le (by have := HL.out; omega)] at h1
          exact decide_eq_true h1
        have HDT := Lib.hid hdt; clear hdt
        have HC := Lib.hid hc; clear hc
        go_wp2_with fail
        go_ret
        rw [HDT.out]
        exact ⟨rfl, HC.out⟩
  · have hne : ((xs.length : Int) != (ys.length : Int)) = true := by rw [bne_iff_ne]; omega
    have hd : decide (xs = ys) = false := decide_eq_false fun e => hl (by rw [e])
    rw [hd]
    clear hd
    go_enter Try.func83, Try.ntmps83
    go_wp2_with fail
    go_ret
    exact ⟨rfl, Ch.refl _ _⟩
end
end Go.Proofs.Ytnajonchjlplmaa
namespace Go.Aig
/-- the node of a number, if it is a reference -/
def nodeAt (ns : List Nd) (r : Int) : Option Nd := if 0 ≤ r then ns[r.toNat / 2]? else none
def kindOf (ns : List Nd) (r : Int) : Nat := match nodeAt ns r with | some x => x.k | none => 0
def depthOf (ns : List Nd) (r : Int) : Nat := match nodeAt ns r with | some x => x.d | none => 0
def depthErr (ns : List Nd) (r : Int) : Nat := match nodeAt ns r with | some _ => 0 | none => 200
def isAndAt (ns : List Nd) (r : Int) : Bool := kindOf ns r == 3
def lOf (ns : List Nd) (r : Int) : Nat := match nodeAt ns r with | some x => if x.k = 3 then x.l else 0 | none => 0
def rOf (ns : List Nd) (r : Int) : Nat := match nodeAt ns r with | some x => if x.k = 3 then x.r else 0 | none => 0
theorem nodeAt_none {ns : List Nd} {r : Int} (h : nodeAt ns r = none) : right ns r = false := by
  unfold nodeAt at h
  unfold right
  refine decide_eq_false ?_
  rintro ⟨h0, h1⟩
  rw [if_pos h0, List.getElem?_eq_none_iff] at h
  omega
theorem nodeAt_some {ns : List Nd} {r : Int} {x : Nd} (h : nodeAt ns r = some x) : 0 ≤ r ∧ ns[r.toNat / 2]? = some x := by
  unfold nodeAt at h
  split at h
  · exact ⟨by assumption, h⟩
  · cases h
theorem nodeAt_right {ns : List Nd} {r : Int} : right ns r = (nodeAt ns r).isSome := by
  cases h : nodeAt ns r with
  | none => rw [nodeAt_none h]; rfl
  | some x =>
    obtain ⟨h0, h1⟩ := nodeAt_some h
    have := (List.getElem?_eq_some_iff.1 h1).1
    unfold right
    simp; omega
/-- what Cut does -/
def doCut (G : Gra) (n : Int) : Gra × Nat := if n < 1 ∨ (G.nodes.length : Int) < n then (G, 2) else ({ G with nodes := G.nodes.take n.toNat }, 0)
end Go.Aig
namespace Go.Proofs.Ytnajonchjlplmaa
open Go.RowKit Go.Mem Go.Aig
theorem GTo.gin {w w' : World} {g : Nat} {G : Gra} {F : List Nat} (h : GTo w g G F w') : ∃ F', GIn w' g G F' ∧ Ch F w w' ∧ ∀ k ∈ F', k ∈ F ∨ w.heap.size ≤ k := h
theorem Ch.drewN {F : List Nat} {w : World} (n : Nat) : Ch F w (w.drewN n) := ⟨rfl, rfl, rfl, Nat.le_refl _, fun _ _ _ => rfl⟩
section
variable {w : World} {g : Nat} {G : Gra} {F : List Nat}
theorem none_g (h : GIn w g G F) : Calls Try.prog 42 #[.pointer (some ⟨g, 0, none⟩)] w fun e w' => e = .returned (.bool false) ∧ w = w' := by
  obtain ⟨_, _, _, _, h, rfl⟩ := h; exact none_no h
theorem Len_g (h : GIn w g G F) : Calls Try.prog 16 #[.pointer (some ⟨g, 0, none⟩)] w fun e w' => e = .returned (.int .i64 G.nodes.length) ∧ w = w' := by
  obtain ⟨_, _, _, _, h, rfl⟩ := h; exact Len_is h
theorem Room_g (h : GIn w g G F) : Calls Try.prog 20 #[.pointer (some ⟨g, 0, none⟩)] w fun e w' => e = .returned (.int .i64 (G.most - G.nodes.length : Nat)) ∧ Ch [] w w' := by
  obtain ⟨_, _, _, _, h, rfl⟩ := h
  refine (Room_is h).mono ?_
  rintro e w' ⟨rfl, n, rfl⟩
  exact ⟨rfl, Ch.drewN n⟩
theorem Right_g (h : GIn w g G F) (r : Int) (hr : r ≤ 9223372036854775807) : Calls Try.prog 14 #[.pointer (some ⟨g, 0, none⟩), .int .i64 r] w fun e w' => e = .returned (.bool (right G.nodes r)) ∧ w = w' := by
  obtain ⟨_, _, _, _, h, rfl⟩ := h; exact Right_is h r hr
theorem Kind_g (h : GIn w g G F) (r : Int) (hr : r ≤ 9223372036854775807) : Calls Try.prog 28 #[.pointer (some ⟨g, 0, none⟩), .int .i64 r] w fun e w' => e = .returned (.int .u8 (kindOf G.nodes r)) ∧ w = w' := by
  obtain ⟨_, _, _, _, h, rfl⟩ := h
  unfold kindOf
  cases hn : nodeAt G.nodes r with
  | none => exact Kind_no h r hr (nodeAt_none hn)
  | some x =>
    obtain ⟨h0, h1⟩ := nodeAt_some hn
    obtain ⟨n, rfl⟩ := Int.eq_ofNat_of_zero_le h0
    exact Kind_is h h1
theorem Depth_g (h : GIn w g G F) (r : Int) (hr : r ≤ 9223372036854775807) : Calls Try.prog 27 #[.pointer (some ⟨g, 0, none⟩), .int .i64 r] w fun e w' => e = .returned (.tuple #[.int .i64 (depthOf G.nodes r), .int .i64 (depthErr G.nodes r)]) ∧ w = w' := by
  obtain ⟨_, _, _, _, h, rfl⟩ := h
  unfold depthOf depthErr
  cases hn : nodeAt G.nodes r with
  | none => exact Depth_no h r hr (nodeAt_none hn)
  | some x =>
    obtain ⟨h0, h1⟩ := nodeAt_some hn
    obtain ⟨n, rfl⟩ := Int.eq_ofNat_of_zero_le h0
    exact Depth_is h h1
set_option maxRecDepth 100000 in
set_option maxHeartbeats 400000 in
theorem Sides_off {nb ncap mb : Nat} {iv : Value} (h : GM w g G nb ncap iv mb) (r : Int) (hr : r ≤ 9223372036854775807) (hn : right G.nodes r = false) :
    Calls Try.prog 17 #[.pointer (some ⟨g, 0, none⟩), .int .i64 r] w fun e w' => e = .returned (.tuple #[.int .i64 0, .int .i64 0, .bool false]) ∧ Ch [] w w' := by
  have HK := Kind_no h r hr hn
  clear h
  go_enter Try.func17, Try.ntmps17
  go_wp2_with fail
  refine HK.mono ?_
  rintro e w' ⟨rfl, rfl⟩
  go_wp2_with fail
  go_ret3
  exact ⟨rfl, Ch.refl _ _⟩
theorem Sides_g (h : GIn w g G F) (r : Int) (hr : r ≤ 9223372036854775807) : Calls Try.prog 17 #[.pointer (some ⟨g, 0, none⟩), .int .i64 r] w fun e w' => e = .returned (.tuple #[.int .i64 (lOf G.nodes r), .int .i64 (rOf G.nodes r), .bool (isAndAt G.nodes r)]) ∧ Ch [] w w' := by
  obtain ⟨_, _, _, _, h, rfl⟩ := h
  unfold lOf rOf isAndAt kindOf
  cases hn : nodeAt G.nodes r with
  | none => exact Sides_off h r hr (nodeAt_none hn)
  | some x =>
    obtain ⟨h0, h1⟩ := nodeAt_some hn
    obtain ⟨n, rfl⟩ := Int.eq_ofNat_of_zero_le h0
    by_cases hk : x.k = 3
    · simp only [hk, if_true]
      exact Sides_is h h1 hk
    · have e : (x.k == 3) = false := by simp [hk]
      simp only [hk, if_false, e]
      exact Sides_no h h1 hk
theorem Input_g (h : GIn w g G F) : Calls Try.prog 39 #[.pointer (some ⟨g, 0, none⟩)] w fun e w' => e = .returned (.tuple #[.int .i64 (doInput G).2.1, .int .i64 (doInput G).2.2]) ∧ GTo w g (doInput G).1 F w' := by
  obtain ⟨_, _, _, _, h, rfl⟩ := h; exact Input_is h
theorem And_g (h : GIn w g G F) (a b : Int) (ba : a ≤ 9223372036854775807) (bb : b ≤ 9223372036854775807) : Calls Try.prog 18 #[.pointer (some ⟨g, 0, none⟩), .int .i64 a, .int .i64 b] w fun e w' => e = .returned (.tuple #[.int .i64 (doAnd G a b).2.1, .int .i64 (doAnd G a b).2.2]) ∧ GTo w g (doAnd G a b).1 F w' := by
  obtain ⟨_, _, _, _, h, rfl⟩ := h; exact And_is h a b ba bb
theorem Or_g (h : GIn w g G F) (a b : Int) (ba : a ≤ 9223372036854775807) (bb : b ≤ 9223372036854775807) : Calls Try.prog 22 #[.pointer (some ⟨g, 0, none⟩), .int .i64 a, .int .i64 b] w fun e w' => e = .returned (.tuple #[.int .i64 (doOr G a b).2.1, .int .i64 (doOr G a b).2.2]) ∧ GTo w g (doOr G a b).1 F w' := by
  obtain ⟨_, _, _, _, h, rfl⟩ := h; exact Or_is h a b ba bb
theorem Xor_g (h : GIn w g G F) (a b : Int) (ba : a ≤ 9223372036854775807) (bb : b ≤ 9223372036854775807) : Calls Try.prog 23 #[.pointer (some ⟨g, 0, none⟩), .int .i64 a, .int .i64 b] w fun e w' => e = .returned (.tuple #[.int .i64 (doXor G a b).2.1, .int .i64 (doXor G a b).2.2]) ∧ GTo w g (doXor G a b).1 F w' := by
  obtain ⟨_, _, _, _, h, rfl⟩ := h; exact Xor_is h a b ba bb
theorem Mux_g (h : GIn w g G F) (c a b : Int) (bc : c ≤ 9223372036854775807) (ba : a ≤ 9223372036854775807) (bb : b ≤ 9223372036854775807) : Calls Try.prog 24 #[.pointer (some ⟨g, 0, none⟩), .int .i64 c, .int .i64 a, .int .i64 b] w fun e w' => e = .returned (.tuple #[.int .i64 (doMux G c a b).2.1, .int .i64 (doMux G c a b).2.2]) ∧ GTo w g (doMux G c a b).1 F w' := by
  obtain ⟨_, _, _, _, h, rfl⟩ := h; exact Mux_is h c a b bc ba bb
theorem All_g (h : GIn w g G F) {a : Option Addr} {l : List Int} (n cap : Nat) (hn : l.length = n) (hS : Sl w a l) (hb : ∀ x ∈ l, x ≤ 9223372036854775807) (hap : ∀ p, a = some p → p.block < w.heap.size ∧ p.block ∉ F) : Calls Try.prog 21 #[.pointer (some ⟨g, 0, none⟩), .slice a n cap] w fun e w' => e = .returned (.tuple #[.int .i64 (doAll G l).2.1, .int .i64 (doAll G l).2.2]) ∧ GTo w g (doAll G l).1 F w' := by
  subst hn
  obtain ⟨_, _, _, _, h, rfl⟩ := h; exact All_is h cap hS hb hap
theorem Any_g (h : GIn w g G F) {a : Option Addr} {l : List Int} (n cap : Nat) (hn : l.length = n) (hS : Sl w a l) (hb : ∀ x ∈ l, x ≤ 9223372036854775807) (hap : ∀ p, a = some p → p.block < w.heap.size ∧ p.block ∉ F) : Calls Try.prog 25 #[.pointer (some ⟨g, 0, none⟩), .slice a n cap] w fun e w' => e = .returned (.tuple #[.int .i64 (doAny G l).2.1, .int .i64 (doAny G l).2.2]) ∧ GTo w g (doAny G l).1 F w' := by
  subst hn
  obtain ⟨_, _, _, _, h, rfl⟩ := h; exact Any_is h cap hS hb hap
theorem Cut_g (h : GIn w g G F) (n : Int) (h1 : n ≤ 9223372036854775807) (h0 : -9223372036854775808 ≤ n) : Calls Try.prog 29 #[.pointer (some ⟨g, 0, none⟩), .int .i64 n] w fun e w' => e = .returned (.int .i64 (doCut G n).2) ∧ GTo w g (doCut G n).1 F w' := by
  obtain ⟨nb, ncap, iv, mb, h, rfl⟩ := h
  unfold doCut
  by_cases hn : n < 1 ∨ (G.nodes.length : Int) < n
  · rw [if_pos hn]
    refine (Cut_arg h n hn h1 h0).mono ?_
    rintro e w' ⟨rfl, hc⟩
    exact ⟨rfl, GTo.same ⟨_, _, _, _, h, rfl⟩ hc⟩
  · rw [if_neg hn]
    obtain ⟨m, rfl⟩ := Int.eq_ofNat_of_zero_le (show 0 ≤ n by omega)
    refine (Cut_is h m (by omega) (by omega)).mono ?_
    rintro e w' ⟨rfl, iv', hg, hb, hc⟩
    exact ⟨rfl, GTo.of hg hc (.inl rfl) (fun k hk => .inl (by rw [← hb]; exact hk))⟩
theorem Inputs_g (h : GIn w g G F) : Calls Try.prog 33 #[.pointer (some ⟨g, 0, none⟩)] w fun e w' => ∃ v, e = .returned v ∧ row w' 33 1 v (inputs G.nodes).length (refsCells (inputs G.nodes)) ∧ (∀ k, v.ownBlock = some k → w.heap.size ≤ k) ∧ Ch [] w w' := by
  obtain ⟨_, _, _, _, h, rfl⟩ := h; exact Inputs_is h
theorem Cone_g (h : GIn w g G F) {a : Option Addr} {l : List Nat} (n cap : Nat) (hn : l.length = n) (hl : Sl w a (l.map fun (r : Nat) => (r : Int))) (halt : ∀ p, a = some p → p.block < w.heap.size) (hr : ∀ r ∈ l, r < 2 * G.nodes.length) :
    Calls Try.prog 26 #[.pointer (some ⟨g, 0, none⟩), .slice a n cap] w fun e w' => ∃ v, e = .returned (.tuple #[v, .int .i64 0]) ∧ row w' 3 1 v (cone G.nodes l).length (refsCells (cone G.nodes l)) ∧ (∀ k, v.ownBlock = some k → w.heap.size ≤ k) ∧ Ch [] w w' := by
  subst hn
  obtain ⟨_, _, _, _, h, rfl⟩ := h
  exact Cone_yes h cap hl halt hr
end
/-- a graph that was made since a world w0, and all of it -/
structure Own (w0 w : World) (g : Nat) (G : Gra) (F : List Nat) : Prop where
  gin : GIn w g G F
  own : ∀ k ∈ F, w0.heap.size ≤ k
  ch : Ch [] w0 w
theorem Own.to {w0 w w' : World} {g : Nat} {G G' : Gra} {F : List Nat} (h : Own w0 w g G F) (ht : GTo w g G' F w') : ∃ F', Own w0 w' g G' F' := by
  obtain ⟨F', h1, h2, h3⟩ := ht
  exact ⟨F', h1, fun k hk => (h3 k hk).elim (h.own k) (fun e => Nat.le_trans h.ch.size e), h.ch.trans h2 (fun k hk => .inr (h.own k hk))⟩
theorem Own.same {w0 w w' : World} {g : Nat} {G : Gra} {F : List Nat} (h : Own w0 w g G F) (hc : Ch [] w w') : Own w0 w' g G F :=
  ⟨h.gin.same hc (by simp), h.own, h.ch.trans hc (by simp)⟩
end Go.Proofs.Ytnajonchjlplmaa
namespace Go.Proofs.Ytnajonchjlplmaa
open Go.RowKit Go.Mem Go.Aig
section
variable {w0 w : World} {g : Nat} {G : Gra} {F : List Nat}
theorem row.slN {e : TypeId} {v : Value} {n : Nat} {l : List Nat} {a : Option Addr} {m c : Nat} (h : row w e 1 v n (refsCells l)) (hv : v = .slice a m c) (hn : n ≤ 1000000) : Sl w a (l.map fun (r : Nat) => (r : Int)) := by
  subst hv
  have h1 := h.1
  simp [refsCells] at h1
  refine ⟨fun i x hx => ?_, by simp; omega⟩
  rcases h.2 with ⟨e1, e2⟩ | ⟨b, cap, cur, e1, _⟩
  · subst e2
    have hl : l = [] := List.length_eq_zero_iff.1 h1
    subst hl
    simp at hx
  · cases e1
    refine ⟨b, 0, rfl, ?_⟩
    have := h.cells (g := b) rfl i (.int .i64 x) (by
      simp only [refsCells, List.getElem?_map, Option.map_eq_some_iff] at hx ⊢
      obtain ⟨r, hr, rfl⟩ := hx
      exact ⟨r, hr, rfl⟩)
    rw [Addr.add_lit] at this
    simpa using this
theorem New_c (n : Nat) (h1 : 1 ≤ n) (h2 : n ≤ 65536) (hc : Ch [] w0 w) :
    Calls Try.prog 30 #[.int .i64 n] w fun e w' => ∃ g F, e = .returned (.tuple #[.pointer (some ⟨g, 0, none⟩), .int .i64 0]) ∧ Own w0 w' g (newG n) F := by
  refine (New_yes n h1 h2).mono ?_
  rintro e w' ⟨g, F, rfl, hg, hF, hch⟩
  exact ⟨g, F, rfl, hg, fun k hk => Nat.le_trans hc.size (hF k hk), hc.trans hch (by simp)⟩
theorem Input_c (h : Own w0 w g G F) {G' : Gra} {r e : Int} (hr : ((doInput G).2.1 : Int) = r) (he : ((doInput G).2.2 : Int) = e) (hG : (doInput G).1 = G') :
    Calls Try.prog 39 #[.pointer (some ⟨g, 0, none⟩)] w fun en w' => en = .returned (.tuple #[.int .i64 r, .int .i64 e]) ∧ ∃ F', Own w0 w' g G' F' := by
  subst hr he hG
  exact (Input_g h.gin).mono fun en w' ⟨h1, h2⟩ => ⟨h1, h.to h2⟩
theorem And_c (h : Own w0 w g G F) (a b : Int) (ba : a ≤ 9223372036854775807) (bb : b ≤ 9223372036854775807) {G' : Gra} {r e : Int} (hr : ((doAnd G a b).2.1 : Int) = r) (he : ((doAnd G a b).2.2 : Int) = e) (hG : (doAnd G a b).1 = G') :
    Calls Try.prog 18 #[.pointer (some ⟨g, 0, none⟩), .int .i64 a, .int .i64 b] w fun en w' => en = .returned (.tuple #[.int .i64 r, .int .i64 e]) ∧ ∃ F', Own w0 w' g G' F' := by
  subst hr he hG
  exact (And_g h.gin a b ba bb).mono fun en w' ⟨h1, h2⟩ => ⟨h1, h.to h2⟩
theorem Or_c (h : Own w0 w g G F) (a b : Int) (ba : a ≤ 9223372036854775807) (bb : b ≤ 9223372036854775807) {G' : Gra} {r e : Int} (hr : ((doOr G a b).2.1 : Int) = r) (he : ((doOr G a b).2.2 : Int) = e) (hG : (doOr G a b).1 = G') :
    Calls Try.prog 22 #[.pointer (some ⟨g, 0, none⟩), .int .i64 a, .int .i64 b] w fun en w' => en = .returned (.tuple #[.int .i64 r, .int .i64 e]) ∧ ∃ F', Own w0 w' g G' F' := by
  subst hr he hG
  exact (Or_g h.gin a b ba bb).mono fun en w' ⟨h1, h2⟩ => ⟨h1, h.to h2⟩
theorem Xor_c (h : Own w0 w g G F) (a b : Int) (ba : a ≤ 9223372036854775807) (bb : b ≤ 9223372036854775807) {G' : Gra} {r e : Int} (hr : ((doXor G a b).2.1 : Int) = r) (he : ((doXor G a b).2.2 : Int) = e) (hG : (doXor G a b).1 = G') :
    Calls Try.prog 23 #[.pointer (some ⟨g, 0, none⟩), .int .i64 a, .int .i64 b] w fun en w' => en = .returned (.tuple #[.int .i64 r, .int .i64 e]) ∧ ∃ F', Own w0 w' g G' F' := by
  subst hr he hG
  exact (Xor_g h.gin a b ba bb).mono fun en w' ⟨h1, h2⟩ => ⟨h1, h.to h2⟩
theorem Sides_c (h : Own w0 w g G F) (a : Int) (ba : a ≤ 9223372036854775807) {l r : Int} {b : Bool} (hl : (lOf G.nodes a : Int) = l) (hr : (rOf G.nodes a : Int) = r) (hb : isAndAt G.nodes a = b) :
    Calls Try.prog 17 #[.pointer (some ⟨g, 0, none⟩), .int .i64 a] w fun en w' => en = .returned (.tuple #[.int .i64 l, .int .i64 r, .bool b]) ∧ Own w0 w' g G F := by
  subst hl hr hb
  exact (Sides_g h.gin a ba).mono fun en w' ⟨h1, h2⟩ => ⟨h1, h.same h2⟩
theorem Depth_c (h : Own w0 w g G F) (a : Int) (ba : a ≤ 9223372036854775807) {d e : Int} (hd : (depthOf G.nodes a : Int) = d) (he : (depthErr G.nodes a : Int) = e) :
    Calls Try.prog 27 #[.pointer (some ⟨g, 0, none⟩), .int .i64 a] w fun en w' => en = .returned (.tuple #[.int .i64 d, .int .i64 e]) ∧ w = w' := by
  subst hd he
  exact Depth_g h.gin a ba

def aw1 : Gra := ⟨99, [⟨1, 0, 0, 0⟩, ⟨2, 0, 0, 0⟩]⟩
def aw2 : Gra := ⟨99, [⟨1, 0, 0, 0⟩, ⟨2, 0, 0, 0⟩, ⟨2, 0, 0, 0⟩]⟩
def aw3 : Gra := ⟨99, [⟨1, 0, 0, 0⟩, ⟨2, 0, 0, 0⟩, ⟨2, 0, 0, 0⟩, ⟨3, 2, 4, 1⟩]⟩
def aw4 : Gra := ⟨99, [⟨1, 0, 0, 0⟩, ⟨2, 0, 0, 0⟩, ⟨2, 0, 0, 0⟩, ⟨3, 2, 4, 1⟩, ⟨3, 3, 5, 1⟩]⟩
def aw5 : Gra := ⟨99, [⟨1, 0, 0, 0⟩, ⟨2, 0, 0, 0⟩, ⟨2, 0, 0, 0⟩, ⟨3, 2, 4, 1⟩, ⟨3, 3, 5, 1⟩, ⟨3, 2, 5, 1⟩, ⟨3, 3, 4, 1⟩, ⟨3, 11, 13, 2⟩]⟩
def ah1 : Gra := ⟨4, [⟨1, 0, 0, 0⟩, ⟨2, 0, 0, 0⟩]⟩
def ah2 : Gra := ⟨4, [⟨1, 0, 0, 0⟩, ⟨2, 0, 0, 0⟩, ⟨2, 0, 0, 0⟩]⟩
set_option maxRecDepth 100000 in
set_option maxHeartbeats 4000000 in
theorem awake_is (w : World) : Calls Try.prog 11 #[] w fun e w' => e = .returned (.bool true) ∧ Ch [] w w' := by
  have hN := New_c (w0 := w) (w := w) 99 (by decide) (by decide) (Ch.refl _ _)
  have HN := Lib.hid hN; clear hN
  go_enter Try.func11, Try.ntmps11
  go_wp2_with fail
  refine HN.out.mono ?_
  rintro e w1 ⟨g, F1, rfl, ho⟩
  have HO := Lib.hid ho; clear ho
  go_wp2_with fail
  refine (Input_c (G' := aw1) (r := 2) (e := 0) HO.out rfl rfl rfl).mono ?_
  rintro e w2 ⟨rfl, F2, ho⟩
  clear HO; have HO := Lib.hid ho; clear ho
  go_wp2_with fail
  refine (Input_c (G' := aw2) (r := 4) (e := 0) HO.out rfl rfl rfl).mono ?_
  rintro e w3 ⟨rfl, F3, ho⟩
  clear HO; have HO := Lib.hid ho; clear ho
  go_wp2_with fail
  refine (And_c (G' := aw3) (r := 6) (e := 0) HO.out 2 4 (by decide) (by decide) rfl rfl rfl).mono ?_
  rintro e w4 ⟨rfl, F4, ho⟩
  clear HO; have HO := Lib.hid ho; clear ho
  go_wp2_with fail
  refine (And_c (G' := aw3) (r := 6) (e := 0) HO.out 4 2 (by decide) (by decide) rfl rfl rfl).mono ?_
  rintro e w5 ⟨rfl, F5, ho⟩
  clear HO; have HO := Lib.hid ho; clear ho
  go_wp2_with fail
  refine (And_c (G' := aw3) (r := 0) (e := 0) HO.out 2 3 (by decide) (by decide) rfl rfl rfl).mono ?_
  rintro e w6 ⟨rfl, F6, ho⟩
  clear HO; have HO := Lib.hid ho; clear ho
  go_wp2_with fail
  refine (And_c (G' := aw3) (r := 2) (e := 0) HO.out 2 1 (by decide) (by decide) rfl rfl rfl).mono ?_
  rintro e w7 ⟨rfl, F7, ho⟩
  clear HO; have HO := Lib.hid ho; clear ho
  go_wp2_with fail
  refine (Or_c (G' := aw4) (r := 9) (e := 0) HO.out 2 4 (by decide) (by decide) rfl rfl rfl).mono ?_
  rintro e w8 ⟨rfl, F8, ho⟩
  clear HO; have HO := Lib.hid ho; clear ho
  go_wp2_with fail
  refine (Xor_c (G' := aw5) (r := 15) (e := 0) HO.out 2 4 (by decide) (by decide) rfl rfl rfl).mono ?_
  rintro e w9 ⟨rfl, F9, ho⟩
  clear HO; have HO := Lib.hid ho; clear ho
  go_wp2_with fail
  refine (Sides_c (l := 3) (r := 5) (b := true) HO.out 8 (by decide) rfl rfl rfl).mono ?_
  rintro e w10 ⟨rfl, ho⟩
  clear HO; have HO := Lib.hid ho; clear ho
  go_wp2_with fail
  refine (Sides_c (l := 11) (r := 13) (b := true) HO.out 15 (by decide) rfl rfl rfl).mono ?_
  rintro e w11 ⟨rfl, ho⟩
  clear HO; have HO := Lib.hid ho; clear ho
  go_wp2_with fail
  refine (Depth_c (d := 2) (e := 0) HO.out 15 (by decide) rfl rfl).mono ?_
  rintro e w' ⟨rfl, rfl⟩
  go_wp2_with fail
  have hsl : Sl (w11.alloc (.cells #[.int .i64 15] 33)) (some ⟨w11.heap.size, 0, none⟩) (([15] : List Nat).map fun (r : Nat) => (r : Int)) := ⟨fun i x hx => by
    cases i with
    | zero => simp at hx; subst hx; exact ⟨_, _, rfl, by go_simp⟩
    | succ i => simp at hx, by decide⟩
  have hco := Cone_g (HO.out.same ((Ch.refl [] w11).alloc (.cells #[.int .i64 15] 33))).gin (l := [15]) 1 1 rfl hsl (fun p hp => by cases hp; simp) (by intro r hr; simp at hr; subst hr; decide)
  have hcn : cone aw5.nodes [15] = [1, 2, 5, 6, 7] := by decide
  rw [hcn] at hco
  refine hco.mono ?_
  rintro e w12 ⟨v, rfl, hrow, _, hc⟩
  obtain ⟨b, cap, rfl⟩ := hrow.parts (by decide)
  have hs1 := row.slN hrow rfl (by decide)
  have ho2 := (HO.out.same ((Ch.refl [] w11).alloc (.cells #[.int .i64 15] 33))).same hc
  clear HO hco hrow hc hcn hsl
  have HO := Lib.hid ho2; clear ho2
  have hs2 : Sl (w12.alloc (.cells #[.int .i64 1, .int .i64 2, .int .i64 5, .int .i64 6, .int .i64 7] 3)) (some ⟨b, 0, none⟩) [1, 2, 5, 6, 7] := hs1.ch ((Ch.refl [] _).alloc _) (by simp)
  have hs3 : Sl (w12.alloc (.cells #[.int .i64 1, .int .i64 2, .int .i64 5, .int .i64 6, .int .i64 7] 3)) (some ⟨w12.heap.size, 0, none⟩) [1, 2, 5, 6, 7] := ⟨fun i x hx => by
    refine ⟨_, _, rfl, ?_⟩
    have hi : i < 5 := (List.getElem?_eq_some_iff.1 hx).1
    rcases i with _ | _ | _ | _ | _ | i
    all_goals first | omega | (simp at hx; subst hx; go_simp), by decide⟩
  have hq := Eqint_is cap 5 hs2 hs3
  simp only [List.length_cons, List.length_nil, Nat.zero_add, Nat.reduceAdd, decide_true] at hq
  have HQ := Lib.hid hq; clear hq hs1 hs2 hs3
  go_wp2_with fail
  refine HQ.out.mono ?_
  rintro e w13 ⟨rfl, hc⟩
  have ho2 := (HO.out.same ((Ch.refl [] w12).alloc (.cells #[.int .i64 1, .int .i64 2, .int .i64 5, .int .i64 6, .int .i64 7] 3))).same hc
  have HC := Lib.hid ho2.ch; clear HO HQ hc ho2
  go_wp2_with fail
  refine (New_c (w0 := w) 4 (by decide) (by decide) HC.out).mono ?_
  rintro e w14 ⟨h, H1, rfl, ho⟩
  clear HC; have HO := Lib.hid ho; clear ho
  go_wp2_with fail
  refine (Input_c (G' := ah1) (r := 2) (e := 0) HO.out rfl rfl rfl).mono ?_
  rintro e w15 ⟨rfl, F2, ho⟩
  clear HO; have HO := Lib.hid ho; clear ho
  go_wp2_with fail
  refine (Input_c (G' := ah2) (r := 4) (e := 0) HO.out rfl rfl rfl).mono ?_
  rintro e w16 ⟨rfl, F3, ho⟩
  clear HO; have HO := Lib.hid ho; clear ho
  go_wp2_with fail
  refine (Xor_c (G' := ah2) (r := 0) (e := 201) HO.out 2 4 (by decide) (by decide) rfl rfl rfl).mono ?_
  rintro e w17 ⟨rfl, F4, ho⟩
  clear HO; have HO := Lib.hid ho; clear ho
  go_wp2_with fail
  refine (Len_g HO.out.gin).mono ?_
  rintro e w' ⟨rfl, rfl⟩
  go_wp2_with fail
  refine (Room_g HO.out.gin).mono ?_
  rintro e w18 ⟨rfl, hc⟩
  have HC := Lib.hid (HO.out.same hc).ch; clear HO hc
  go_wp2_with fail
  go_ret
  exact ⟨rfl, HC.out⟩
end
end Go.Proofs.Ytnajonchjlplmaa
