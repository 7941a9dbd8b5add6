/-
  What references are, for an assignment of the inputs: the meaning of the graph of ands, and that what is made means what its name says. No program in sight. Conditions: none beyond the hypotheses.
  Walks over small functions of the laws: words, value, pick. Conditions: slices that are read.
  The laws' graphs, plainly: what small numbers make. No program in sight.
  Walks over pick. Conditions: slices that are read.
  Walks over step. Conditions: a graph in memory, slices that are read.
  What small numbers make, plainly: no error where there is room, and what it means. No program in sight. Conditions: none beyond the hypotheses.
  The laws' graphs, plainly: built step by step. No program in sight. Conditions: none beyond the hypotheses.
  A drawn region where two effects may come up now: each of them first.
  Walks over build. Conditions: room for the inputs and for what is made; a slice of small ones.
  From what the statements say of arguments to what the walks ask: slices of small ones. Conditions: none beyond the hypotheses.
-/
import Derived.Test.YtnajonchjlplmaaQC
import Derived.Laws.Bits64b
import Derived.Test.YtnajonchjlplmaaQA
import Derived.Laws.ResultCell
import Derived.Test.YtnajonchjlplmaaRows
import Derived.WalkKit
import Derived.ProofKit
import Derived.OpenShut
import Derived.ChangeOld
import Derived.Below
import Derived.Carry
import Derived.Deep.Slices
import Derived.Deep.Fields
namespace Go.Aig
/-- the value of a reference, over the values of the nodes -/
def rv (vs : List Bool) (r : Nat) : Bool := Bool.xor (vs.getD (r / 2) false) (decide (r % 2 = 1))
def nvStep (env : Nat → Bool) (s : List Bool × Nat) (x : Nd) : List Bool × Nat :=
  if x.k = 3 then (s.1 ++ [rv s.1 x.l && rv s.1 x.r], s.2) else if x.k = 2 then (s.1 ++ [env s.2], s.2 + 1) else (s.1 ++ [false], s.2)
/-- the values of the nodes, and how many inputs there are -/
def nv (env : Nat → Bool) (ns : List Nd) : List Bool × Nat := ns.foldl (nvStep env) ([], 0)
def bv (env : Nat → Bool) (ns : List Nd) (r : Nat) : Bool := rv (nv env ns).1 r
theorem nv_snoc (env : Nat → Bool) (ns : List Nd) (x : Nd) : nv env (ns ++ [x]) = nvStep env (nv env ns) x := by unfold nv; rw [List.foldl_append]; rfl
theorem nvStep_ext (env : Nat → Bool) (s : List Bool × Nat) (x : Nd) : ∃ b, (nvStep env s x).1 = s.1 ++ [b] := by
  unfold nvStep; (repeat' split) <;> exact ⟨_, rfl⟩
theorem nv_ext (env : Nat → Bool) : ∀ (ms ns : List Nd), ∃ more, (nv env (ns ++ ms)).1 = (nv env ns).1 ++ more ∧ more.length = ms.length
  | [], ns => ⟨[], by simp, rfl⟩
  | x :: ms, ns => by
    obtain ⟨more, h, hl⟩ := nv_ext env ms (ns ++ [x])
    obtain ⟨b, hb⟩ := nvStep_ext env (nv env ns) x
    refine ⟨b :: more, ?_, by simp [hl]⟩
    rw [List.append_cons, h, nv_snoc, hb, List.append_assoc]; rfl
theorem nv_len (env : Nat → Bool) (ns : List Nd) : (nv env ns).1.length = ns.length := by
  obtain ⟨more, h, hl⟩ := nv_ext env ns []
  rw [List.nil_append] at h
  rw [h]
  simp [hl, nv]
theorem rv_ext {vs more : List Bool} {r : Nat} (h : r < 2 * vs.length) : rv (vs ++ more) r = rv vs r := by
  unfold rv
  rw [List.getD_eq_getElem?_getD, List.getD_eq_getElem?_getD, List.getElem?_append_left (by omega)]
theorem bv_ext (env : Nat → Bool) (ns ms : List Nd) {r : Nat} (h : r < 2 * ns.length) : bv env (ns ++ ms) r = bv env ns r := by
  obtain ⟨more, e, _⟩ := nv_ext env ms ns
  unfold bv
  rw [e, rv_ext (by rw [nv_len]; exact h)]
theorem bv_of (env : Nat → Bool) {G G' : Gra} (hx : Ext G G') {r : Nat} (h : r < 2 * G.nodes.length) : bv env G'.nodes r = bv env G.nodes r := by
  obtain ⟨_, more, e⟩ := hx
  rw [e, bv_ext env _ _ h]
theorem bv_neg (env : Nat → Bool) (ns : List Nd) (r : Nat) : bv env ns (neg r) = !bv env ns r := by
  unfold bv rv
  rw [neg_half]
  have : decide (neg r % 2 = 1) = !decide (r % 2 = 1) := by
    unfold neg
    split <;> rw [Bool.eq_iff_iff] <;> simp <;> omega
  rw [this]
  cases (nv env ns).1.getD (r / 2) false <;> cases decide (r % 2 = 1) <;> rfl
theorem split_at {ns : List Nd} {n : Nat} {x : Nd} (h : ns[n]? = some x) : ns = ns.take n ++ [x] ++ ns.drop (n + 1) := by
  obtain ⟨hlt, rfl⟩ := List.getElem?_eq_some_iff.1 h
  rw [List.append_assoc, List.singleton_append, List.getElem_cons_drop, List.take_append_drop]
theorem bv_take (env : Nat → Bool) (ns : List Nd) {n r : Nat} (hn : n ≤ ns.length) (h : r < 2 * n) : bv env (ns.take n) r = bv env ns r := by
  have := bv_ext env (ns.take n) (ns.drop n) (r := r) (by simp; omega)
  rw [List.take_append_drop] at this
  exact this.symm
theorem bv_last (env : Nat → Bool) (ns : List Nd) (x : Nd) (hk : x.k = 3) : bv env (ns ++ [x]) (2 * ns.length) = (bv env ns x.l && bv env ns x.r) := by
  have hl := nv_len env ns
  unfold bv
  rw [nv_snoc]
  unfold nvStep
  rw [if_pos hk]
  conv => lhs; unfold rv
  rw [show 2 * ns.length / 2 = ns.length from by omega, List.getD_eq_getElem?_getD, ← hl]
  rw [List.getElem?_append_right (Nat.le_refl _)]
  simp [rv]
theorem bv_node (env : Nat → Bool) {ns : List Nd} {n : Nat} {x : Nd} (h : ns[n]? = some x) (hk : x.k = 3) (hl : x.l < 2 * n) (hr : x.r < 2 * n) : bv env ns (2 * n) = (bv env ns x.l && bv env ns x.r) := by
  have hlt := (List.getElem?_eq_some_iff.1 h).1
  have e := split_at h
  have hn : (ns.take n).length = n := by simp; omega
  have h1 : bv env ns (2 * n) = bv env (ns.take n ++ [x]) (2 * n) := by
    conv => lhs; rw [e]
    rw [bv_ext env (ns.take n ++ [x]) _ (by simp; omega)]
  have h2 := bv_last env (ns.take n) x hk
  rw [hn] at h2
  rw [h1, h2, bv_take env ns (by omega) hl, bv_take env ns (by omega) hr]
theorem bv_zero (env : Nat → Bool) {ns : List Nd} (h : WF ns) : bv env ns 0 = false := by
  have e := split_at h.const
  rw [e, bv_ext env _ _ (by simp)]
  simp [bv, rv, nv, nvStep]
theorem bv_one (env : Nat → Bool) {ns : List Nd} (h : WF ns) : bv env ns 1 = true := by
  have := bv_neg env ns 0
  rw [bv_zero env h] at this
  exact this
theorem WF.sides {ns : List Nd} (h : WF ns) {n : Nat} {x : Nd} (hx : ns[n]? = some x) (hk : x.k = 3) : 2 ≤ x.l ∧ x.l < x.r ∧ x.l / 2 ≠ x.r / 2 ∧ x.r < 2 * n ∧ x.d = 1 + max (dep ns x.l) (dep ns x.r) := by
  rcases Nat.eq_zero_or_pos n with h0 | h0
  · subst h0
    rw [h.const] at hx; cases hx; simp at hk
  · rcases h.other n x hx h0 with rfl | ⟨_, h1⟩
    · simp at hk
    · exact h1
theorem andIs_sem (env : Nat → Bool) {ns : List Nd} (h : WF ns) {a b r : Nat} (hi : andIs a b = .known r) : bv env ns r = (bv env ns a && bv env ns b) := by
  unfold andIs at hi
  split at hi
  · rename_i h1
    cases hi
    rw [bv_zero env h]
    rcases h1 with h1 | h1
    · rcases Nat.le_total a b with hab | hab
      · rw [Nat.min_eq_left hab] at h1; subst h1; rw [bv_zero env h]; rfl
      · rw [Nat.min_eq_right hab] at h1; subst h1; rw [bv_zero env h]; simp
    · subst h1; rw [bv_neg]; cases bv env ns b <;> rfl
  · split at hi
    · rename_i h1
      cases hi
      rcases h1 with h1 | h1
      · rcases Nat.le_total a b with hab | hab
        · rw [Nat.min_eq_left hab] at h1; subst h1; rw [bv_one env h, Nat.max_eq_right hab]; rfl
        · rw [Nat.min_eq_right hab] at h1; subst h1; rw [bv_one env h, Nat.max_eq_left hab]; simp
      · subst h1; rw [Nat.max_self]; simp
    · cases hi
theorem minmax_sem (f : Nat → Bool) (a b : Nat) : (f (min a b) && f (max a b)) = (f a && f b) := by
  rcases Nat.le_total a b with hab | hab
  · rw [Nat.min_eq_left hab, Nat.max_eq_right hab]
  · rw [Nat.min_eq_right hab, Nat.max_eq_left hab, Bool.and_comm]
theorem and_sem (env : Nat → Bool) {G : Gra} (h : Ok G) {a b : Nat} (_ha : a < 2 * G.nodes.length) (_hb : b < 2 * G.nodes.length) (he : (and G a b).2.2 = 0) :
    bv env (and G a b).1.nodes (and G a b).2.1 = (bv env G.nodes a && bv env G.nodes b) := by
  unfold and at he ⊢
  split at he
  · rename_i r hi
    exact andIs_sem env h.wf hi
  · rename_i l r hi
    obtain ⟨rfl, rfl, h2, h3, h4⟩ := andIs_node hi
    split at he
    · rename_i n hn
      obtain ⟨x, hx, hk, hl, hr⟩ := findAnd_some hn
      obtain ⟨s1, s2, s3, s4, s5⟩ := h.wf.sides hx hk
      show bv env G.nodes (2 * n) = _
      rw [bv_node env hx hk (by omega) s4, hl, hr]
      exact minmax_sem (bv env G.nodes) a b
    · rename_i hn
      unfold put at he ⊢
      split at he
      · cases he
      · rename_i hm
        rw [if_neg hm]
        dsimp only
        rw [bv_last env _ _ rfl]
        exact minmax_sem (bv env G.nodes) a b
theorem mand_err0 {s : Mk} {a b : Nat} (h : (mand s a b).1.2 = 0) : s.2 = 0 ∧ mand s a b = (((and s.1 a b).1, (and s.1 a b).2.2), (and s.1 a b).2.1) ∧ (and s.1 a b).2.2 = 0 := by
  unfold mand at h ⊢
  split at h
  · rename_i h1; exact (h1 h).elim
  · rename_i h1
    rw [if_neg h1]
    exact ⟨by omega, rfl, h⟩
theorem mand_sem (env : Nat → Bool) {s : Mk} (h : MOk s) {a b : Nat} (ha : a < 2 * s.1.nodes.length) (hb : b < 2 * s.1.nodes.length) (he : (mand s a b).1.2 = 0) :
    bv env (mand s a b).1.1.nodes (mand s a b).2 = (bv env s.1.nodes a && bv env s.1.nodes b) := by
  obtain ⟨_, e, h0⟩ := mand_err0 he
  rw [e]
  exact and_sem env h.ok ha hb h0
theorem mor_sem (env : Nat → Bool) {s : Mk} (h : MOk s) {a b : Nat} (ha : a < 2 * s.1.nodes.length) (hb : b < 2 * s.1.nodes.length) (he : (mor s a b).1.2 = 0) :
    bv env (mor s a b).1.1.nodes (mor s a b).2 = (bv env s.1.nodes a || bv env s.1.nodes b) := by
  have := mand_sem env h (neg_lt ha) (neg_lt hb) he
  show bv env (mand s (neg a) (neg b)).1.1.nodes (neg (mand s (neg a) (neg b)).2) = _
  rw [bv_neg, this, bv_neg, bv_neg]
  cases bv env s.1.nodes a <;> cases bv env s.1.nodes b <;> rfl
theorem mmux_sem (env : Nat → Bool) {s : Mk} (h : MOk s) {c a b : Nat} (hc : c < 2 * s.1.nodes.length) (ha : a < 2 * s.1.nodes.length) (hb : b < 2 * s.1.nodes.length) (he : (mmux s c a b).1.2 = 0) :
    bv env (mmux s c a b).1.1.nodes (mmux s c a b).2 = (bv env s.1.nodes c && bv env s.1.nodes a || !bv env s.1.nodes c && bv env s.1.nodes b) := by
  obtain ⟨h1, h2, h3⟩ := mand_ok h hc ha
  obtain ⟨h4, h5, h6⟩ := mand_ok h1 (h2.lt (neg_lt hc)) (h2.lt hb)
  have e3 : (mor (mand (mand s c a).1 (neg c) b).1 (mand s c a).2 (mand (mand s c a).1 (neg c) b).2).1.2 = 0 := he
  have e2 := (mand_err0 (show (mand (mand (mand s c a).1 (neg c) b).1 (neg (mand s c a).2) (neg (mand (mand s c a).1 (neg c) b).2)).1.2 = 0 from e3)).1
  have e1 := (mand_err0 e2).1
  have s1 := mand_sem env h hc ha e1
  have s2 := mand_sem env h1 (h2.lt (neg_lt hc)) (h2.lt hb) e2
  have s3 := mor_sem env h4 (h5.lt h3) h6 e3
  show bv env (mor (mand (mand s c a).1 (neg c) b).1 (mand s c a).2 (mand (mand s c a).1 (neg c) b).2).1.1.nodes (mor (mand (mand s c a).1 (neg c) b).1 (mand s c a).2 (mand (mand s c a).1 (neg c) b).2).2 = _
  rw [s3, s2, bv_of env h5 h3, s1, bv_of env h2 (neg_lt hc), bv_of env h2 hb, bv_neg]
theorem mall_err0 : ∀ (l : List Nat) {s : Mk} {out : Nat}, (mall s out l).1.2 = 0 → s.2 = 0
  | [], _, _, h => h
  | _ :: l, _, _, h => (mand_err0 (mall_err0 l h)).1
theorem mall_sem (env : Nat → Bool) : ∀ (l : List Nat) {s : Mk} {out : Nat}, MOk s → out < 2 * s.1.nodes.length → (∀ r ∈ l, r < 2 * s.1.nodes.length) → (mall s out l).1.2 = 0 →
    bv env (mall s out l).1.1.nodes (mall s out l).2 = (bv env s.1.nodes out && l.all fun r => bv env s.1.nodes r)
  | [], s, out, _, _, _, _ => by simp [mall]
  | r :: l, s, out, h, ho, hl, he => by
    obtain ⟨h1, h2, h3⟩ := mand_ok h ho (hl r (by simp))
    have hr : ∀ x ∈ l, x < 2 * s.1.nodes.length := fun x hx => hl x (by simp [hx])
    have s2 := mall_sem env l h1 h3 (fun x hx => h2.lt (hr x hx)) he
    have s1 := mand_sem env h ho (hl r (by simp)) (mall_err0 l he)
    show bv env (mall (mand s out r).1 (mand s out r).2 l).1.1.nodes (mall (mand s out r).1 (mand s out r).2 l).2 = _
    rw [s2, s1, List.all_cons, ← Bool.and_assoc]
    congr 1
    rw [Bool.eq_iff_iff, List.all_eq_true, List.all_eq_true]
    exact ⟨fun q x hx => by rw [← bv_of env h2 (hr x hx)]; exact q x hx, fun q x hx => by rw [bv_of env h2 (hr x hx)]; exact q x hx⟩
end Go.Aig
namespace Go.Proofs.Ytnajonchjlplmaa
open Go.RowKit Go.Mem Go.Aig
/-- a slice that is read: its cells, one for each element -/
structure Sv (w : World) (a : Option Addr) (xs : List Value) : Prop where
  cells : ∀ (i : Nat) (v : Value), xs[i]? = some v → ∃ b o, a = some ⟨b, o, none⟩ ∧ w.cell? ⟨b, o + i, none⟩ = some v
  bd : xs.length ≤ 9223372036854775807
theorem Sv.ch {F : List Nat} {w w' : World} {a : Option Addr} {xs : List Value} (h : Sv w a xs) (hc : Ch F w w') (hF : ∀ p, a = some p → p.block ∉ F) : Sv w' a xs :=
  ⟨fun i x hx => by
    obtain ⟨b, o, rfl, hcell⟩ := h.cells i x hx
    exact ⟨b, o, rfl, (hc.cell (p := ⟨b, o + i, none⟩) (cell_lt hcell) (hF ⟨b, o, none⟩ rfl)).trans hcell⟩, h.bd⟩
theorem Sv.take {w : World} {a : Option Addr} {xs : List Value} (h : Sv w a xs) (n : Nat) : Sv w a (xs.take n) :=
  ⟨fun i x hx => h.cells i x (by rw [List.getElem?_take] at hx; split at hx; exact hx; cases hx), by have := h.bd; rw [List.length_take]; omega⟩
theorem Sv.sl {w : World} {a : Option Addr} {l : List Nat} (h : Sv w a (refsCells l)) : Sl w a (l.map fun (r : Nat) => (r : Int)) :=
  ⟨fun i x hx => h.cells i (.int .i64 x) (by
    simp only [refsCells, List.getElem?_map, Option.map_eq_some_iff] at hx ⊢
    obtain ⟨r, hr, rfl⟩ := hx
    exact ⟨r, hr, rfl⟩), by have := h.bd; simpa [refsCells] using this⟩
theorem row.sv {w : World} {e : TypeId} {v : Value} {n : Nat} {xs : List Value} {a : Option Addr} {m c : Nat} (h : row w e 1 v n xs) (hv : v = .slice a m c) (hn : n ≤ 1000000) : Sv w a xs := by
  subst hv
  have h1 := h.1
  refine ⟨fun i x hx => ?_, by omega⟩
  rcases h.2 with ⟨e1, e2⟩ | ⟨b, cap, cur, e1, _⟩
  · have := (List.getElem?_eq_some_iff.1 hx).1
    omega
  · cases e1
    refine ⟨b, 0, rfl, ?_⟩
    have := h.cells (g := b) rfl i x hx
    rw [Addr.add_lit] at this
    simpa using this
def u64s (l : List Nat) : List Value := l.map fun (r : Nat) => .int .u64 r
/-- the words of the four inputs -/
def inWords : List Nat := [43690, 52428, 61680, 65280]
set_option maxRecDepth 100000 in
theorem words_is (w : World) : Calls Try.prog 41 #[] w fun e w' => e = .returned (.slice (some ⟨w.heap.size, 0, none⟩) 4 4) ∧ w' = w.alloc (.cells (u64s inWords).toArray 35) := by
  go_enter Try.func41, Try.ntmps41
  go_wp2
  go_ret
  exact ⟨rfl, rfl⟩
/-- the word of a reference, over the words of the nodes -/
def wv (vs : List Nat) (r : Nat) : Nat := if r % 2 = 1 then vs.getD (r / 2) 0 ^^^ 65535 else vs.getD (r / 2) 0
theorem not_word (x : Nat) (hx : x < 65536) : bits .and .u64 (bits .xor .u64 18446744073709551615 (x : Int)) 65535 = ((x ^^^ 65535 : Nat) : Int) := by
  have h1 := bits_xor_u64_nat 18446744073709551615 x (by omega) (by omega)
  have h2 : 18446744073709551615 ^^^ x < 2 ^ 64 := Nat.xor_lt_two_pow (by omega) (by omega)
  have h3 := bits_and_u64_nat (18446744073709551615 ^^^ x) 65535 (by omega) (by omega)
  rw [show (18446744073709551615 : Int) = ((18446744073709551615 : Nat) : Int) from rfl, h1, show (65535 : Int) = ((65535 : Nat) : Int) from rfl, h3]
  congr 1
  apply Nat.eq_of_testBit_eq
  intro i
  rw [Nat.testBit_and, Nat.testBit_xor, Nat.testBit_xor, show (18446744073709551615 : Nat) = 2 ^ 64 - 1 from rfl, show (65535 : Nat) = 2 ^ 16 - 1 from rfl, Nat.testBit_two_pow_sub_one, Nat.testBit_two_pow_sub_one]
  by_cases hi : i < 16
  · have : i < 64 := by omega
    simp [hi, this]
  · have hx' : x.testBit i = false := Nat.testBit_lt_two_pow (Nat.lt_of_lt_of_le hx (by show 2 ^ 16 ≤ 2 ^ i; exact Nat.pow_le_pow_right (by omega) (by omega)))
    simp [hi, hx']
theorem not_word' (x : Nat) (hx : x < 65536) : bits .and .u64 (bits .xor .u64 IntKind.u64.max (x : Int)) 65535 = ((x ^^^ 65535 : Nat) : Int) := by
  rw [show IntKind.u64.max = (18446744073709551615 : Int) from by decide]; exact not_word x hx
set_option maxRecDepth 100000 in
set_option maxHeartbeats 1000000 in
theorem value_is {w : World} {a : Option Addr} {vs : List Nat} (n cap : Nat) (h : Sv w a (u64s vs)) (hn : vs.length = n) (hs : n ≤ 1000000) (hw : ∀ x ∈ vs, x < 65536) (r : Nat) (hr : r < 2 * vs.length) :
    Calls Try.prog 15 #[.slice a n cap, .int .i64 r] w fun e w' => e = .returned (.int .u64 (wv vs r)) ∧ w = w' := by
  have hg : vs[r / 2]? = some vs[r / 2] := List.getElem?_eq_getElem (by omega)
  have hx := hw _ (List.getElem_mem (show r / 2 < vs.length by omega))
  obtain ⟨b, o, rfl, c0⟩ := h.cells (r / 2) (.int .u64 vs[r / 2]) (by simp [u64s, hg])
  have hv : wv vs r = if r % 2 = 1 then vs[r / 2] ^^^ 65535 else vs[r / 2] := by unfold wv; rw [List.getD_eq_getElem?_getD, hg]; rfl
  rw [hv]
  generalize vs[r / 2] = x at *
  clear hg h hw hv
  subst hn
  by_cases h1 : r % 2 = 1
  · rw [if_pos h1]
    have hb : ((r : Int) % 2 == 1) = true := by simp; omega
    have H1 := Lib.hid h1; clear h1
    go_enter Try.func15, Try.ntmps15
    go_wp2
    go_ret
    exact ⟨ret_int (not_word x hx), rfl⟩
  · rw [if_neg h1]
    have hb : ((r : Int) % 2 == 1) = false := by simp; omega
    have H1 := Lib.hid h1; clear h1
    go_enter Try.func15, Try.ntmps15
    go_wp2
    go_ret
    exact ⟨rfl, rfl⟩
end Go.Proofs.Ytnajonchjlplmaa
namespace Go.Aig
/-- a small one: kind, and three numbers -/
structure Sm where
  k : Nat
  a : Nat
  b : Nat
  c : Nat
def pickI (len n : Nat) : Nat := len - 1 - n / 2 % len
def pickR (refs : List Nat) (n : Nat) : Nat := if n % 2 = 1 then neg (refs.getD (pickI refs.length n) 0) else refs.getD (pickI refs.length n) 0
def pickW (want : List Nat) (n : Nat) : Nat := if n % 2 = 1 then want.getD (pickI want.length n) 0 ^^^ 65535 else want.getD (pickI want.length n) 0
def stepW (want : List Nat) (x : Sm) : Nat :=
  let u := pickW want x.a; let v := pickW want x.b; let w := pickW want x.c
  if x.k % 6 = 0 then u &&& v else if x.k % 6 = 1 then u ||| v else if x.k % 6 = 2 then u ^^^ v else if x.k % 6 = 3 then (u &&& v) ||| ((u ^^^ 65535) &&& w) else if x.k % 6 = 4 then u &&& v &&& w else u ||| v ||| w
theorem xor_lt {a : Nat} (h : a < 65536) : a ^^^ 65535 < 65536 := Nat.xor_lt_two_pow (n := 16) h (by decide)
theorem pickW_lt {want : List Nat} (h : ∀ x ∈ want, x < 65536) (n : Nat) : pickW want n < 65536 := by
  have hd : ∀ i, want.getD i 0 < 65536 := fun i => by
    rw [List.getD_eq_getElem?_getD]
    cases hi : want[i]? with
    | none => simp
    | some x => exact h x (List.mem_of_getElem? hi)
  unfold pickW; split
  · exact xor_lt (hd _)
  · exact hd _
theorem pickI_lt {len : Nat} (h : 0 < len) (n : Nat) : pickI len n < len := by unfold pickI; omega
theorem pickR_lt {refs : List Nat} {m : Nat} (h : ∀ r ∈ refs, r < 2 * m) (h0 : 0 < refs.length) (n : Nat) : pickR refs n < 2 * m := by
  have hd : refs.getD (pickI refs.length n) 0 < 2 * m := by
    rw [List.getD_eq_getElem?_getD, List.getElem?_eq_getElem (pickI_lt h0 n)]
    exact h _ (List.getElem_mem _)
  unfold pickR; split
  · exact neg_lt hd
  · exact hd
theorem stepW_lt {want : List Nat} (h : ∀ x ∈ want, x < 65536) (x : Sm) : stepW want x < 65536 := by
  have hu := pickW_lt h x.a
  have hv := pickW_lt h x.b
  have hw := pickW_lt h x.c
  have ha : ∀ {a b : Nat}, a < 65536 → b < 65536 → a &&& b < 65536 := fun {a b} h1 h2 => Nat.and_lt_two_pow (n := 16) _ h2
  have ho : ∀ {a b : Nat}, a < 65536 → b < 65536 → a ||| b < 65536 := fun {a b} h1 h2 => Nat.or_lt_two_pow (n := 16) h1 h2
  have hx : ∀ {a b : Nat}, a < 65536 → b < 65536 → a ^^^ b < 65536 := fun {a b} h1 h2 => Nat.xor_lt_two_pow (n := 16) h1 h2
  unfold stepW
  (repeat' split)
  · exact ha hu hv
  · exact ho hu hv
  · exact hx hu hv
  · exact ho (ha hu hv) (ha (xor_lt hu) hw)
  · exact ha (ha hu hv) hw
  · exact ho (ho hu hv) hw
end Go.Aig
namespace Go.Proofs.Ytnajonchjlplmaa
open Go.RowKit Go.Mem Go.Aig
section
variable {w : World} {g : Value} {ra wa : Option Addr} {refs want : List Nat}
set_option maxRecDepth 100000 in
set_option maxHeartbeats 2000000 in
theorem pick_is (g : Nat) (len rcap wcap : Nat) (hr : Sv w ra (refsCells refs)) (hw : Sv w wa (u64s want)) (hl : refs.length = len) (hl2 : want.length = len) (h0 : 0 < len) (h1 : len ≤ 1000000) (hb : ∀ x ∈ want, x < 65536) (hb2 : ∀ x ∈ refs, x ≤ 1000000) (n : Nat) (hn : n ≤ 255) :
    Calls Try.prog 34 #[.agg #[.pointer (some ⟨g, 0, none⟩), .slice ra len rcap, .slice wa len wcap], .int .u8 n] w fun e w' => e = .returned (.tuple #[.int .i64 (pickR refs n : Nat), .int .u64 (pickW want n : Nat)]) ∧ Ch [] w w' := by
  have hi : pickI len n < len := by unfold pickI; omega
  have g1 : refs[pickI len n]? = some refs[pickI len n] := List.getElem?_eq_getElem (by omega)
  have g2 : want[pickI len n]? = some want[pickI len n] := List.getElem?_eq_getElem (by omega)
  have hx := hb2 _ (List.getElem_mem (show pickI len n < refs.length by omega))
  have hy := hb _ (List.getElem_mem (show pickI len n < want.length by omega))
  obtain ⟨b, o, rfl, c1⟩ := hr.cells (pickI len n) (.int .i64 refs[pickI len n]) (by simp [refsCells, g1])
  obtain ⟨b', o', rfl, c2⟩ := hw.cells (pickI len n) (.int .u64 want[pickI len n]) (by simp [u64s, g2])
  have e1 : pickR refs n = if n % 2 = 1 then neg refs[pickI len n] else refs[pickI len n] := by unfold pickR; simp only [hl, List.getD_eq_getElem?_getD, g1, Option.getD_some]
  have e2 : pickW want n = if n % 2 = 1 then want[pickI len n] ^^^ 65535 else want[pickI len n] := by unfold pickW; simp only [hl2, List.getD_eq_getElem?_getD, g2, Option.getD_some]
  rw [e1, e2]
  generalize refs[pickI len n] = x at *
  generalize want[pickI len n] = y at *
  have hm1 := Nat.mod_lt (n / 2) h0
  have ei : (len : Int) - 1 - (n : Int) / 2 % len = (pickI len n : Nat) := by
    unfold pickI
    have : ((n / 2 % len : Nat) : Int) = (n : Int) / 2 % len := by simp
    omega
  clear g1 g2 hr hw hb hb2 e1 e2 hl hl2
  have ew : wrap64 ((len : Int) - 1 - (n : Int) / 2 % len) = (pickI len n : Nat) := by rw [ei]; exact IntWalk.wrap64_in _ (by omega)
  have EW := Lib.hid ew; clear ew ei hm1
  generalize pickI len n = i at *
  have hA : Ch [] w (w.alloc (.cells #[.pointer (some ⟨g, 0, none⟩), .slice (some ⟨b, o, none⟩) len rcap, .slice (some ⟨b', o', none⟩) len wcap] 28)) := (Ch.refl _ _).alloc _
  have d1 := (hA.cell (cell_lt c1) (by simp)).trans c1
  have d2 := (hA.cell (cell_lt c2) (by simp)).trans c2
  clear hA c1 c2
  by_cases hn2 : n % 2 = 1
  · rw [if_pos hn2, if_pos hn2]
    have hb : ((n : Int) % 2 == 1) = true := by simp; omega
    have HN := Not_any x w.drew.drew hx
    clear hn2
    go_enter Try.func34, Try.ntmps34
    go_wp2_with fail
    refine Ord.St.door (fun _ => True) [.fl, .rd, .rd, .fl, .fl, .fl, .fl, .fl, .rd, .rd, .fl, .fl, .fl] [0, 1, 3, 7, 0, 16, 48, 0, 128, 384, 1008, 2047, 4095] [0, 1, 2, 3, 4, 5, 6, 7, 8, 9, 10, 11, 12] mixed (by kernel_rfl) rfl ?_
    refine Ord.St.fl2 (T' := ?_) 0 [1, 2, 3, 4, 5, 6, 7, 8, 9, 10, 11, 12] _ _ rfl (by kernel_rfl) rfl rfl rfl rfl (fun K w' hk => ?_) ?_
    rotate_left
    · go_step; exact hk
    refine Ord.St.rd2 (T' := ?_) 1 [2, 3, 4, 5, 6, 7, 8, 9, 10, 11, 12] _ _ rfl (by kernel_rfl) rfl rfl rfl rfl (fun K hk => ?_) ?_
    rotate_left
    · go_step; exact hk
    refine Ord.St.rd2 (T' := ?_) 2 [3, 4, 5, 6, 7, 8, 9, 10, 11, 12] _ _ rfl (by kernel_rfl) rfl rfl rfl rfl (fun K hk => ?_) ?_
    rotate_left
    · go_step; exact hk
    refine Ord.St.fl2 (T' := ?_) 3 [4, 5, 6, 7, 8, 9, 10, 11, 12] _ _ rfl (by kernel_rfl) rfl rfl rfl rfl (fun K w' hk => ?_) ?_
    rotate_left
    · go_step; exact hk
    refine Ord.St.fl2 (T' := ?_) 4 [5, 6, 7, 8, 9, 10, 11, 12] _ _ rfl (by kernel_rfl) rfl rfl rfl rfl (fun K w' hk => ?_) ?_
    rotate_left
    · go_step; exact hk
    refine Ord.St.fl2 (T' := ?_) 5 [6, 7, 8, 9, 10, 11, 12] _ _ rfl (by kernel_rfl) rfl rfl rfl rfl (fun K w' hk => ?_) ?_
    rotate_left
    · go_step; exact hk
    refine Ord.St.fl2 (T' := ?_) 6 [7, 8, 9, 10, 11, 12] _ _ rfl (by kernel_rfl) rfl rfl rfl rfl (fun K w' hk => ?_) ?_
    rotate_left
    · go_step; exact hk
    refine Ord.St.fl2 (T' := ?_) 7 [8, 9, 10, 11, 12] _ _ rfl (by kernel_rfl) rfl rfl rfl rfl (fun K w' hk => ?_) ?_
    rotate_left
    · go_step; exact hk
    refine Ord.St.rd2 (T' := ?_) 8 [9, 10, 11, 12] _ _ rfl (by kernel_rfl) rfl rfl rfl rfl (fun K hk => ?_) ?_
    rotate_left
    · go_step; exact hk
    refine Ord.St.rd2 (T' := ?_) 9 [10, 11, 12] _ _ rfl (by kernel_rfl) rfl rfl rfl rfl (fun K hk => ?_) ?_
    rotate_left
    · go_step; exact hk
    refine Ord.St.fl2 (T' := ?_) 10 [11, 12] _ _ rfl (by kernel_rfl) rfl rfl rfl rfl (fun K w' hk => ?_) ?_
    rotate_left
    · go_step; exact hk
    refine Ord.St.fl2 (T' := ?_) 11 [12] _ _ rfl (by kernel_rfl) rfl rfl rfl rfl (fun K w' hk => ?_) ?_
    rotate_left
    · go_step; exact hk
    refine Ord.St.fl2 (T' := ?_) 12 [] _ _ rfl (by kernel_rfl) rfl rfl rfl rfl (fun K w' hk => ?_) ?_
    rotate_left
    · go_step; exact hk
    refine Ord.St.nil ?_
    go_wp2_with fail
    rw [EW.out]
    refine Ord.St.door (fun _ => True) [.fl, .rd, .fl, .fl, .rd, .rd, .fl, .rd, .fl, .fl, .rd, .fl, .fl, .fl, .fl] [0, 1, 0, 7, 15, 31, 0, 64, 0, 448, 960, 1984, 4032, 63, 16383] [0, 1, 2, 3, 4, 5, 6, 7, 8, 9, 10, 11, 12, 13, 14] mixed (by kernel_rfl) rfl ?_
    refine Ord.St.fl2 (T' := ?_) 0 [1, 2, 3, 4, 5, 6, 7, 8, 9, 10, 11, 12, 13, 14] _ _ rfl (by kernel_rfl) rfl rfl rfl rfl (fun K w' hk => ?_) ?_
    rotate_left
    · go_step; exact hk
    refine Ord.St.rd2 (T' := ?_) 1 [2, 3, 4, 5, 6, 7, 8, 9, 10, 11, 12, 13, 14] _ _ rfl (by kernel_rfl) rfl rfl rfl rfl (fun K hk => ?_) ?_
    rotate_left
    · go_step; exact hk
    refine Ord.St.fl2 (T' := ?_) 2 [3, 4, 5, 6, 7, 8, 9, 10, 11, 12, 13, 14] _ _ rfl (by kernel_rfl) rfl rfl rfl rfl (fun K w' hk => ?_) ?_
    rotate_left
    · go_step; exact hk
    refine Ord.St.fl2 (T' := ?_) 3 [4, 5, 6, 7, 8, 9, 10, 11, 12, 13, 14] _ _ rfl (by kernel_rfl) rfl rfl rfl rfl (fun K w' hk => ?_) ?_
    rotate_left
    · go_step; exact hk
    refine Ord.St.rd2 (T' := ?_) 4 [5, 6, 7, 8, 9, 10, 11, 12, 13, 14] _ _ rfl (by kernel_rfl) rfl rfl rfl rfl (fun K hk => ?_) ?_
    rotate_left
    · go_step; exact hk
    refine Ord.St.rd2 (T' := ?_) 5 [6, 7, 8, 9, 10, 11, 12, 13, 14] _ _ rfl (by kernel_rfl) rfl rfl rfl rfl (fun K hk => ?_) ?_
    rotate_left
    · go_step; refine (Not_any x _ hx).mono ?_; rintro e w' ⟨rfl, rfl⟩; exact hk
    refine Ord.St.fl2 (T' := ?_) 6 [7, 8, 9, 10, 11, 12, 13, 14] _ _ rfl (by kernel_rfl) rfl rfl rfl rfl (fun K w' hk => ?_) ?_
    rotate_left
    · go_step; exact hk
    refine Ord.St.rd2 (T' := ?_) 7 [8, 9, 10, 11, 12, 13, 14] _ _ rfl (by kernel_rfl) rfl rfl rfl rfl (fun K hk => ?_) ?_
    rotate_left
    · go_step; exact hk
    refine Ord.St.fl2 (T' := ?_) 8 [9, 10, 11, 12, 13, 14] _ _ rfl (by kernel_rfl) rfl rfl rfl rfl (fun K w' hk => ?_) ?_
    rotate_left
    · go_step; exact hk
    refine Ord.St.fl2 (T' := ?_) 9 [10, 11, 12, 13, 14] _ _ rfl (by kernel_rfl) rfl rfl rfl rfl (fun K w' hk => ?_) ?_
    rotate_left
    · go_step; exact hk
    refine Ord.St.rd2 (T' := ?_) 10 [11, 12, 13, 14] _ _ rfl (by kernel_rfl) rfl rfl rfl rfl (fun K hk => ?_) ?_
    rotate_left
    · go_step; exact hk
    refine Ord.St.fl2 (T' := ?_) 11 [12, 13, 14] _ _ rfl (by kernel_rfl) rfl rfl rfl rfl (fun K w' hk => ?_) ?_
    rotate_left
    · go_step; exact hk
    refine Ord.St.fl2 (T' := ?_) 12 [13, 14] _ _ rfl (by kernel_rfl) rfl rfl rfl rfl (fun K w' hk => ?_) ?_
    rotate_left
    · go_step; exact hk
    refine Ord.St.fl2 (T' := ?_) 13 [14] _ _ rfl (by kernel_rfl) rfl rfl rfl rfl (fun K w' hk => ?_) ?_
    rotate_left
    · go_step; exact hk
    refine Ord.St.fl2 (T' := ?_) 14 [] _ _ rfl (by kernel_rfl) rfl rfl rfl rfl (fun K w' hk => ?_) ?_
    rotate_left
    · go_step; exact hk
    refine Ord.St.nil ?_
    go_wp2_with fail
    go_ret2
    exact ⟨ret_ii rfl (not_word' y hy), (((Ch.refl _ _).alloc _).drew).drew⟩
  · rw [if_neg hn2, if_neg hn2]
    have hb : ((n : Int) % 2 == 1) = false := by simp; omega
    clear hn2
    go_enter Try.func34, Try.ntmps34
    go_wp2_with fail
    refine Ord.St.door (fun _ => True) [.fl, .rd, .rd, .fl, .fl, .fl, .fl, .fl, .rd, .rd, .fl, .fl, .fl] [0, 1, 3, 7, 0, 16, 48, 0, 128, 384, 1008, 2047, 4095] [0, 1, 2, 3, 4, 5, 6, 7, 8, 9, 10, 11, 12] mixed (by kernel_rfl) rfl ?_
    refine Ord.St.fl2 (T' := ?_) 0 [1, 2, 3, 4, 5, 6, 7, 8, 9, 10, 11, 12] _ _ rfl (by kernel_rfl) rfl rfl rfl rfl (fun K w' hk => ?_) ?_
    rotate_left
    · go_step; exact hk
    refine Ord.St.rd2 (T' := ?_) 1 [2, 3, 4, 5, 6, 7, 8, 9, 10, 11, 12] _ _ rfl (by kernel_rfl) rfl rfl rfl rfl (fun K hk => ?_) ?_
    rotate_left
    · go_step; exact hk
    refine Ord.St.rd2 (T' := ?_) 2 [3, 4, 5, 6, 7, 8, 9, 10, 11, 12] _ _ rfl (by kernel_rfl) rfl rfl rfl rfl (fun K hk => ?_) ?_
    rotate_left
    · go_step; exact hk
    refine Ord.St.fl2 (T' := ?_) 3 [4, 5, 6, 7, 8, 9, 10, 11, 12] _ _ rfl (by kernel_rfl) rfl rfl rfl rfl (fun K w' hk => ?_) ?_
    rotate_left
    · go_step; exact hk
    refine Ord.St.fl2 (T' := ?_) 4 [5, 6, 7, 8, 9, 10, 11, 12] _ _ rfl (by kernel_rfl) rfl rfl rfl rfl (fun K w' hk => ?_) ?_
    rotate_left
    · go_step; exact hk
    refine Ord.St.fl2 (T' := ?_) 5 [6, 7, 8, 9, 10, 11, 12] _ _ rfl (by kernel_rfl) rfl rfl rfl rfl (fun K w' hk => ?_) ?_
    rotate_left
    · go_step; exact hk
    refine Ord.St.fl2 (T' := ?_) 6 [7, 8, 9, 10, 11, 12] _ _ rfl (by kernel_rfl) rfl rfl rfl rfl (fun K w' hk => ?_) ?_
    rotate_left
    · go_step; exact hk
    refine Ord.St.fl2 (T' := ?_) 7 [8, 9, 10, 11, 12] _ _ rfl (by kernel_rfl) rfl rfl rfl rfl (fun K w' hk => ?_) ?_
    rotate_left
    · go_step; exact hk
    refine Ord.St.rd2 (T' := ?_) 8 [9, 10, 11, 12] _ _ rfl (by kernel_rfl) rfl rfl rfl rfl (fun K hk => ?_) ?_
    rotate_left
    · go_step; exact hk
    refine Ord.St.rd2 (T' := ?_) 9 [10, 11, 12] _ _ rfl (by kernel_rfl) rfl rfl rfl rfl (fun K hk => ?_) ?_
    rotate_left
    · go_step; exact hk
    refine Ord.St.fl2 (T' := ?_) 10 [11, 12] _ _ rfl (by kernel_rfl) rfl rfl rfl rfl (fun K w' hk => ?_) ?_
    rotate_left
    · go_step; exact hk
    refine Ord.St.fl2 (T' := ?_) 11 [12] _ _ rfl (by kernel_rfl) rfl rfl rfl rfl (fun K w' hk => ?_) ?_
    rotate_left
    · go_step; exact hk
    refine Ord.St.fl2 (T' := ?_) 12 [] _ _ rfl (by kernel_rfl) rfl rfl rfl rfl (fun K w' hk => ?_) ?_
    rotate_left
    · go_step; exact hk
    refine Ord.St.nil ?_
    go_wp2_with fail
    rw [EW.out]
    refine Ord.St.door (fun _ => True) [.fl, .rd, .fl, .fl, .rd, .fl, .rd, .fl, .fl, .rd, .fl, .fl] [0, 1, 0, 7, 15, 0, 32, 0, 224, 480, 31, 2047] [0, 1, 2, 3, 4, 5, 6, 7, 8, 9, 10, 11] mixed (by kernel_rfl) rfl ?_
    refine Ord.St.fl2 (T' := ?_) 0 [1, 2, 3, 4, 5, 6, 7, 8, 9, 10, 11] _ _ rfl (by kernel_rfl) rfl rfl rfl rfl (fun K w' hk => ?_) ?_
    rotate_left
    · go_step; exact hk
    refine Ord.St.rd2 (T' := ?_) 1 [2, 3, 4, 5, 6, 7, 8, 9, 10, 11] _ _ rfl (by kernel_rfl) rfl rfl rfl rfl (fun K hk => ?_) ?_
    rotate_left
    · go_step; exact hk
    refine Ord.St.fl2 (T' := ?_) 2 [3, 4, 5, 6, 7, 8, 9, 10, 11] _ _ rfl (by kernel_rfl) rfl rfl rfl rfl (fun K w' hk => ?_) ?_
    rotate_left
    · go_step; exact hk
    refine Ord.St.fl2 (T' := ?_) 3 [4, 5, 6, 7, 8, 9, 10, 11] _ _ rfl (by kernel_rfl) rfl rfl rfl rfl (fun K w' hk => ?_) ?_
    rotate_left
    · go_step; exact hk
    refine Ord.St.rd2 (T' := ?_) 4 [5, 6, 7, 8, 9, 10, 11] _ _ rfl (by kernel_rfl) rfl rfl rfl rfl (fun K hk => ?_) ?_
    rotate_left
    · go_step; exact hk
    refine Ord.St.fl2 (T' := ?_) 5 [6, 7, 8, 9, 10, 11] _ _ rfl (by kernel_rfl) rfl rfl rfl rfl (fun K w' hk => ?_) ?_
    rotate_left
    · go_step; exact hk
    refine Ord.St.rd2 (T' := ?_) 6 [7, 8, 9, 10, 11] _ _ rfl (by kernel_rfl) rfl rfl rfl rfl (fun K hk => ?_) ?_
    rotate_left
    · go_step; exact hk
    refine Ord.St.fl2 (T' := ?_) 7 [8, 9, 10, 11] _ _ rfl (by kernel_rfl) rfl rfl rfl rfl (fun K w' hk => ?_) ?_
    rotate_left
    · go_step; exact hk
    refine Ord.St.fl2 (T' := ?_) 8 [9, 10, 11] _ _ rfl (by kernel_rfl) rfl rfl rfl rfl (fun K w' hk => ?_) ?_
    rotate_left
    · go_step; exact hk
    refine Ord.St.rd2 (T' := ?_) 9 [10, 11] _ _ rfl (by kernel_rfl) rfl rfl rfl rfl (fun K hk => ?_) ?_
    rotate_left
    · go_step; exact hk
    refine Ord.St.fl2 (T' := ?_) 10 [11] _ _ rfl (by kernel_rfl) rfl rfl rfl rfl (fun K w' hk => ?_) ?_
    rotate_left
    · go_step; exact hk
    refine Ord.St.fl2 (T' := ?_) 11 [] _ _ rfl (by kernel_rfl) rfl rfl rfl rfl (fun K w' hk => ?_) ?_
    rotate_left
    · go_step; exact hk
    refine Ord.St.nil ?_
    go_wp2_with fail
    go_ret2
    exact ⟨rfl, (((Ch.refl _ _).alloc _).drew).drew⟩
end
end Go.Proofs.Ytnajonchjlplmaa
namespace Go.Proofs.Ytnajonchjlplmaa
open Go.RowKit Go.Mem Go.Aig
def stepRes (G : Gra) (refs : List Nat) (x : Sm) : Res :=
  let p := pickR refs x.a; let q := pickR refs x.b; let r := pickR refs x.c
  if x.k % 6 = 0 then doAnd G p q else if x.k % 6 = 1 then doOr G p q else if x.k % 6 = 2 then doXor G p q else if x.k % 6 = 3 then doMux G p q r else if x.k % 6 = 4 then doAll G [p, q, r] else doAny G [p, q, r]
theorem and_words (x y : Nat) (hx : x < 65536) (hy : y < 65536) : bits .and .u64 (x : Int) (y : Int) = ((x &&& y : Nat) : Int) := bits_and_u64_nat x y (by omega) (by omega)
theorem or_words (x y : Nat) (hx : x < 65536) (hy : y < 65536) : bits .or .u64 (x : Int) (y : Int) = ((x ||| y : Nat) : Int) := bits_or_u64_nat x y (by omega) (by omega)
theorem xor_words (x y : Nat) (hx : x < 65536) (hy : y < 65536) : bits .xor .u64 (x : Int) (y : Int) = ((x ^^^ y : Nat) : Int) := bits_xor_u64_nat x y (by omega) (by omega)
theorem ret_iii {k l m : IntKind} {a b c d e f : Int} (h : a = b) (h' : c = d) (h'' : e = f) : Ending.returned (.tuple #[.int k a, .int l c, .int m e]) = .returned (.tuple #[.int k b, .int l d, .int m f]) := by rw [h, h', h'']
theorem and3_lt {a b : Nat} (_h1 : a < 65536) (h2 : b < 65536) : a &&& b < 65536 := Nat.and_lt_two_pow (n := 16) _ h2
theorem or3_lt {a b : Nat} (h1 : a < 65536) (h2 : b < 65536) : a ||| b < 65536 := Nat.or_lt_two_pow (n := 16) h1 h2
theorem mux_words (u v w : Nat) (hu : u < 65536) (hv : v < 65536) (hw : w < 65536) : bits .or .u64 (bits .and .u64 (u : Int) (v : Int)) (bits .and .u64 (bits .and .u64 (bits .xor .u64 IntKind.u64.max (u : Int)) (w : Int)) 65535) = (((u &&& v) ||| ((u ^^^ 65535) &&& w) : Nat) : Int) := by
  have h1 := bits_xor_u64_nat 18446744073709551615 u (by omega) (by omega)
  have h2 : 18446744073709551615 ^^^ u < 2 ^ 64 := Nat.xor_lt_two_pow (by omega) (by omega)
  have h3 := bits_and_u64_nat (18446744073709551615 ^^^ u) w (by omega) (by omega)
  have h4 : (18446744073709551615 ^^^ u) &&& w < 65536 := Nat.and_lt_two_pow (n := 16) _ hw
  have h5 := and_words ((18446744073709551615 ^^^ u) &&& w) 65535 h4 (by omega)
  have h6 : ((18446744073709551615 ^^^ u) &&& w) &&& 65535 < 65536 := Nat.and_lt_two_pow (n := 16) _ (by omega)
  rw [show IntKind.u64.max = ((18446744073709551615 : Nat) : Int) from by decide, h1, h3, show (65535 : Int) = ((65535 : Nat) : Int) from rfl, h5, and_words u v hu hv, or_words _ _ (and3_lt hu hv) h6]
  congr 2
  apply Nat.eq_of_testBit_eq
  intro i
  simp only [Nat.testBit_and, Nat.testBit_xor]
  rw [show (18446744073709551615 : Nat) = 2 ^ 64 - 1 from rfl, show (65535 : Nat) = 2 ^ 16 - 1 from rfl, Nat.testBit_two_pow_sub_one, Nat.testBit_two_pow_sub_one]
  by_cases hi : i < 16
  · have : i < 64 := by omega
    simp [hi, this]
  · have hw' : w.testBit i = false := Nat.testBit_lt_two_pow (Nat.lt_of_lt_of_le hw (by show 2 ^ 16 ≤ 2 ^ i; exact Nat.pow_le_pow_right (by omega) (by omega)))
    simp [hw']
section
variable {w : World} {g : Nat} {G : Gra} {F : List Nat} {ra wa : Option Addr} {refs want : List Nat}
/-- what step is told of the graph, and of the two slices -/
structure Told (w : World) (g : Nat) (G : Gra) (F : List Nat) (ra wa : Option Addr) (len : Nat) (refs want : List Nat) : Prop where
  gin : GIn w g G F
  hr : Sv w ra (refsCells refs)
  hw : Sv w wa (u64s want)
  l1 : refs.length = len
  l2 : want.length = len
  pos : 0 < len
  max : len ≤ 1000000
  ar : ∀ p, ra = some p → p.block < w.heap.size ∧ p.block ∉ F
  aw : ∀ p, wa = some p → p.block < w.heap.size ∧ p.block ∉ F
  words : ∀ x ∈ want, x < 65536
  refs : ∀ r ∈ refs, r < 2 * G.nodes.length
theorem Told.same {w' : World} {len : Nat} (h : Told w g G F ra wa len refs want) (hc : Ch [] w w') : Told w' g G F ra wa len refs want :=
  ⟨h.gin.same hc (by simp), h.hr.ch hc (by simp), h.hw.ch hc (by simp), h.l1, h.l2, h.pos, h.max, fun p hp => ⟨Nat.lt_of_lt_of_le (h.ar p hp).1 hc.size, (h.ar p hp).2⟩, fun p hp => ⟨Nat.lt_of_lt_of_le (h.aw p hp).1 hc.size, (h.aw p hp).2⟩, h.words, h.refs⟩
theorem Told.pick {len : Nat} (h : Told w g G F ra wa len refs want) (rcap wcap n : Nat) (hn : n ≤ 255) :
    Calls Try.prog 34 #[.agg #[.pointer (some ⟨g, 0, none⟩), .slice ra len rcap, .slice wa len wcap], .int .u8 n] w fun e w' => e = .returned (.tuple #[.int .i64 (pickR refs n : Nat), .int .u64 (pickW want n : Nat)]) ∧ Ch [] w w' :=
  pick_is g len rcap wcap h.hr h.hw h.l1 h.l2 h.pos h.max h.words (fun r hr => by have := h.refs r hr; have := h.gin.ok.room; have := h.gin.ok.most; omega) n hn
theorem Sl.new3 (w : World) (p q z : Int) : Sl (w.alloc (.cells #[.int .i64 p, .int .i64 q, .int .i64 z] 33)) (some ⟨w.heap.size, 0, none⟩) [p, q, z] := ⟨fun i y hy => ⟨_, _, rfl, by
  have hb : blk (w.alloc (.cells #[.int .i64 p, .int .i64 q, .int .i64 z] 33)) w.heap.size [.int .i64 p, .int .i64 q, .int .i64 z] := blk.new' _ _ rfl
  have hi : i < 3 := (List.getElem?_eq_some_iff.1 hy).1
  rcases i with _ | _ | _ | i
  all_goals first | omega | (simp at hy; subst hy; exact hb.cell rfl)⟩, by simp⟩
theorem blk3 {w : World} {b : Nat} {x y z : Value} (h : blk w b [x, y, z]) : w.cell? ⟨b, 0, none⟩ = some x ∧ w.cell? ⟨b, 1, none⟩ = some y ∧ w.cell? ⟨b, 2, none⟩ = some z := ⟨h.cell rfl, h.cell rfl, h.cell rfl⟩
theorem blk4 {w : World} {b : Nat} {x y z t : Value} (h : blk w b [x, y, z, t]) : w.cell? ⟨b, 0, none⟩ = some x ∧ w.cell? ⟨b, 1, none⟩ = some y ∧ w.cell? ⟨b, 2, none⟩ = some z ∧ w.cell? ⟨b, 3, none⟩ = some t := ⟨h.cell rfl, h.cell rfl, h.cell rfl, h.cell rfl⟩
set_option maxRecDepth 100000 in
set_option maxHeartbeats 4000000 in
theorem step_And {len : Nat} (h : Told w g G F ra wa len refs want) (rcap wcap : Nat) (x : Sm) (hk : x.k ≤ 255) (ha : x.a ≤ 255) (hb : x.b ≤ 255) (hc : x.c ≤ 255) (hm : x.k % 6 = 0) :
    Calls Try.prog 19 #[.agg #[.pointer (some ⟨g, 0, none⟩), .slice ra len rcap, .slice wa len wcap], .agg #[.int .u8 x.k, .int .u8 x.a, .int .u8 x.b, .int .u8 x.c]] w fun e w' => e = .returned (.tuple #[.int .i64 (stepRes G refs x).2.1, .int .u64 (stepW want x), .int .i64 (stepRes G refs x).2.2]) ∧ GTo w g (stepRes G refs x).1 F w' := by
  have eS : stepRes G refs x = doAnd G (pickR refs x.a) (pickR refs x.b) := by unfold stepRes; simp [hm]
  have eW : stepW want x = pickW want x.a &&& pickW want x.b := by unfold stepW; simp [hm]
  rw [eS, eW]
  have bw := h.words
  have hu := pickW_lt bw x.a
  have hv := pickW_lt bw x.b
  have ht := pickW_lt bw x.c
  have br := fun n => pickR_lt h.refs (by rw [h.l1]; exact h.pos) n
  have hp := br x.a
  have hq := br x.b
  have hz := br x.c
  have hsz : G.nodes.length ≤ 65536 := by have := h.gin.ok.room; have := h.gin.ok.most; omega
  clear br bw eS eW
  have t0 : ((x.k : Int) % 6 == 0) = true := by simp; omega
  clear hm
  have hW : Ch [] w ((w.alloc (.cells #[.pointer (some ⟨g, 0, none⟩), .slice ra len rcap, .slice wa len wcap] 28)).alloc (.cells #[.int .u8 x.k, .int .u8 x.a, .int .u8 x.b, .int .u8 x.c] 48)) := ((Ch.refl _ _).alloc _).alloc _
  have hb1 : blk ((w.alloc (.cells #[.pointer (some ⟨g, 0, none⟩), .slice ra len rcap, .slice wa len wcap] 28)).alloc (.cells #[.int .u8 x.k, .int .u8 x.a, .int .u8 x.b, .int .u8 x.c] 48)) w.heap.size [.pointer (some ⟨g, 0, none⟩), .slice ra len rcap, .slice wa len wcap] := (blk.new' _ _ rfl).alloc _
  have hb2 : blk ((w.alloc (.cells #[.pointer (some ⟨g, 0, none⟩), .slice ra len rcap, .slice wa len wcap] 28)).alloc (.cells #[.int .u8 x.k, .int .u8 x.a, .int .u8 x.b, .int .u8 x.c] 48)) (w.heap.size + 1) [.int .u8 x.k, .int .u8 x.a, .int .u8 x.b, .int .u8 x.c] := blk.new' _ _ (by simp)
  have hT := h.same hW
  have H := Lib.hid h; clear h
  have HW := Lib.hid hW; clear hW
  have HB1 := Lib.hid hb1; clear hb1
  have HB2 := Lib.hid hb2; clear hb2
  have HP := hT.pick rcap wcap x.a ha
  have HT := Lib.hid hT; clear hT
  have HPP := Lib.hid HP; clear HP
  generalize hrp : pickR refs x.a = p at *
  generalize hrq : pickR refs x.b = q at *
  generalize hrz : pickR refs x.c = z at *
  generalize hwu : pickW want x.a = u at *
  generalize hwv : pickW want x.b = v at *
  generalize hwt : pickW want x.c = t at *
  have RP := Lib.hid hrp; clear hrp
  have RQ := Lib.hid hrq; clear hrq
  have RZ := Lib.hid hrz; clear hrz
  have WU := Lib.hid hwu; clear hwu
  have WV := Lib.hid hwv; clear hwv
  have WT := Lib.hid hwt; clear hwt
  go_enter Try.func19, Try.ntmps19
  go_wp2_with fail
  refine HPP.out.mono ?_
  rintro e w1 ⟨rfl, hc1⟩
  have hc1' := HB1.out.ch hc1 (by simp)
  have hc2' := HB2.out.ch hc1 (by simp)
  have ⟨x0, x1, x2⟩ := blk3 hc1'
  have ⟨y0, y1, y2, y3⟩ := blk4 hc2'
  have hT1 := HT.out.same hc1
  have HP2 := hT1.pick rcap wcap x.b hb
  rw [RQ.out, WV.out] at HP2
  clear HPP HT HB1 HB2
  have HT := Lib.hid hT1; clear hT1
  have HPP := Lib.hid HP2; clear HP2
  have HB1 := Lib.hid hc1'; clear hc1'
  have HB2 := Lib.hid hc2'; clear hc2'
  have HC1 := Lib.hid (HW.out.trans hc1 (by simp)); clear hc1 HW
  go_wp2_with fail
  refine HPP.out.mono ?_
  rintro e w2 ⟨rfl, hc1⟩
  clear x0 x1 x2 y0 y1 y2 y3
  have hc1' := HB1.out.ch hc1 (by simp)
  have hc2' := HB2.out.ch hc1 (by simp)
  have ⟨x0, x1, x2⟩ := blk3 hc1'
  have ⟨y0, y1, y2, y3⟩ := blk4 hc2'
  have hT1 := HT.out.same hc1
  have HP2 := hT1.pick rcap wcap x.c hc
  rw [RZ.out, WT.out] at HP2
  clear HPP HT HB1 HB2
  have HT := Lib.hid hT1; clear hT1
  have HPP := Lib.hid HP2; clear HP2
  have HB1 := Lib.hid hc1'; clear hc1'
  have HB2 := Lib.hid hc2'; clear hc2'
  have HC2 := Lib.hid (HC1.out.trans hc1 (by simp)); clear hc1 HC1
  go_wp2_with fail
  refine HPP.out.mono ?_
  rintro e w3 ⟨rfl, hc1⟩
  clear x0 x1 x2 y0 y1 y2 y3
  have hc1' := HB1.out.ch hc1 (by simp)
  have hc2' := HB2.out.ch hc1 (by simp)
  have ⟨x0, x1, x2⟩ := blk3 hc1'
  have ⟨y0, y1, y2, y3⟩ := blk4 hc2'
  have hT1 := HT.out.same hc1
  clear HPP HT HB1 HB2 hc1' hc2'
  have HT := Lib.hid hT1; clear hT1
  have HC3 := Lib.hid (HC2.out.trans hc1 (by simp)); clear hc1 HC2
  go_wp2_with fail
  refine (And_g HT.out.gin p q (by omega) (by omega)).mono ?_
  rintro e w4 ⟨rfl, hto⟩
  have HTO := Lib.hid (GTo.back hto HC3.out); clear hto
  go_wp2_with fail
  go_ret3
  exact ⟨ret_iii rfl (and_words u v hu hv) rfl, HTO.out⟩
set_option maxRecDepth 100000 in
set_option maxHeartbeats 4000000 in
theorem step_Or {len : Nat} (h : Told w g G F ra wa len refs want) (rcap wcap : Nat) (x : Sm) (hk : x.k ≤ 255) (ha : x.a ≤ 255) (hb : x.b ≤ 255) (hc : x.c ≤ 255) (hm : x.k % 6 = 1) :
    Calls Try.prog 19 #[.agg #[.pointer (some ⟨g, 0, none⟩), .slice ra len rcap, .slice wa len wcap], .agg #[.int .u8 x.k, .int .u8 x.a, .int .u8 x.b, .int .u8 x.c]] w fun e w' => e = .returned (.tuple #[.int .i64 (stepRes G refs x).2.1, .int .u64 (stepW want x), .int .i64 (stepRes G refs x).2.2]) ∧ GTo w g (stepRes G refs x).1 F w' := by
  have eS : stepRes G refs x = doOr G (pickR refs x.a) (pickR refs x.b) := by unfold stepRes; simp [hm]
  have eW : stepW want x = pickW want x.a ||| pickW want x.b := by unfold stepW; simp [hm]
  rw [eS, eW]
  have bw := h.words
  have hu := pickW_lt bw x.a
  have hv := pickW_lt bw x.b
  have ht := pickW_lt bw x.c
  have br := fun n => pickR_lt h.refs (by rw [h.l1]; exact h.pos) n
  have hp := br x.a
  have hq := br x.b
  have hz := br x.c
  have hsz : G.nodes.length ≤ 65536 := by have := h.gin.ok.room; have := h.gin.ok.most; omega
  clear br bw eS eW
  have t0 : ((x.k : Int) % 6 == 0) = false := by simp; omega
  have t1 : ((x.k : Int) % 6 == 1) = true := by simp; omega
  clear hm
  have hW : Ch [] w ((w.alloc (.cells #[.pointer (some ⟨g, 0, none⟩), .slice ra len rcap, .slice wa len wcap] 28)).alloc (.cells #[.int .u8 x.k, .int .u8 x.a, .int .u8 x.b, .int .u8 x.c] 48)) := ((Ch.refl _ _).alloc _).alloc _
  have hb1 : blk ((w.alloc (.cells #[.pointer (some ⟨g, 0, none⟩), .slice ra len rcap, .slice wa len wcap] 28)).alloc (.cells #[.int .u8 x.k, .int .u8 x.a, .int .u8 x.b, .int .u8 x.c] 48)) w.heap.size [.pointer (some ⟨g, 0, none⟩), .slice ra len rcap, .slice wa len wcap] := (blk.new' _ _ rfl).alloc _
  have hb2 : blk ((w.alloc (.cells #[.pointer (some ⟨g, 0, none⟩), .slice ra len rcap, .slice wa len wcap] 28)).alloc (.cells #[.int .u8 x.k, .int .u8 x.a, .int .u8 x.b, .int .u8 x.c] 48)) (w.heap.size + 1) [.int .u8 x.k, .int .u8 x.a, .int .u8 x.b, .int .u8 x.c] := blk.new' _ _ (by simp)
  have hT := h.same hW
  have H := Lib.hid h; clear h
  have HW := Lib.hid hW; clear hW
  have HB1 := Lib.hid hb1; clear hb1
  have HB2 := Lib.hid hb2; clear hb2
  have HP := hT.pick rcap wcap x.a ha
  have HT := Lib.hid hT; clear hT
  have HPP := Lib.hid HP; clear HP
  generalize hrp : pickR refs x.a = p at *
  generalize hrq : pickR refs x.b = q at *
  generalize hrz : pickR refs x.c = z at *
  generalize hwu : pickW want x.a = u at *
  generalize hwv : pickW want x.b = v at *
  generalize hwt : pickW want x.c = t at *
  have RP := Lib.hid hrp; clear hrp
  have RQ := Lib.hid hrq; clear hrq
  have RZ := Lib.hid hrz; clear hrz
  have WU := Lib.hid hwu; clear hwu
  have WV := Lib.hid hwv; clear hwv
  have WT := Lib.hid hwt; clear hwt
  go_enter Try.func19, Try.ntmps19
  go_wp2_with fail
  refine HPP.out.mono ?_
  rintro e w1 ⟨rfl, hc1⟩
  have hc1' := HB1.out.ch hc1 (by simp)
  have hc2' := HB2.out.ch hc1 (by simp)
  have ⟨x0, x1, x2⟩ := blk3 hc1'
  have ⟨y0, y1, y2, y3⟩ := blk4 hc2'
  have hT1 := HT.out.same hc1
  have HP2 := hT1.pick rcap wcap x.b hb
  rw [RQ.out, WV.out] at HP2
  clear HPP HT HB1 HB2
  have HT := Lib.hid hT1; clear hT1
  have HPP := Lib.hid HP2; clear HP2
  have HB1 := Lib.hid hc1'; clear hc1'
  have HB2 := Lib.hid hc2'; clear hc2'
  have HC1 := Lib.hid (HW.out.trans hc1 (by simp)); clear hc1 HW
  go_wp2_with fail
  refine HPP.out.mono ?_
  rintro e w2 ⟨rfl, hc1⟩
  clear x0 x1 x2 y0 y1 y2 y3
  have hc1' := HB1.out.ch hc1 (by simp)
  have hc2' := HB2.out.ch hc1 (by simp)
  have ⟨x0, x1, x2⟩ := blk3 hc1'
  have ⟨y0, y1, y2, y3⟩ := blk4 hc2'
  have hT1 := HT.out.same hc1
  have HP2 := hT1.pick rcap wcap x.c hc
  rw [RZ.out, WT.out] at HP2
  clear HPP HT HB1 HB2
  have HT := Lib.hid hT1; clear hT1
  have HPP := Lib.hid HP2; clear HP2
  have HB1 := Lib.hid hc1'; clear hc1'
  have HB2 := Lib.hid hc2'; clear hc2'
  have HC2 := Lib.hid (HC1.out.trans hc1 (by simp)); clear hc1 HC1
  go_wp2_with fail
  refine HPP.out.mono ?_
  rintro e w3 ⟨rfl, hc1⟩
  clear x0 x1 x2 y0 y1 y2 y3
  have hc1' := HB1.out.ch hc1 (by simp)
  have hc2' := HB2.out.ch hc1 (by simp)
  have ⟨x0, x1, x2⟩ := blk3 hc1'
  have ⟨y0, y1, y2, y3⟩ := blk4 hc2'
  have hT1 := HT.out.same hc1
  clear HPP HT HB1 HB2 hc1' hc2'
  have HT := Lib.hid hT1; clear hT1
  have HC3 := Lib.hid (HC2.out.trans hc1 (by simp)); clear hc1 HC2
  go_wp2_with fail
  refine (Or_g HT.out.gin p q (by omega) (by omega)).mono ?_
  rintro e w4 ⟨rfl, hto⟩
  have HTO := Lib.hid (GTo.back hto HC3.out); clear hto
  go_wp2_with fail
  go_ret3
  exact ⟨ret_iii rfl (or_words u v hu hv) rfl, HTO.out⟩
set_option maxRecDepth 100000 in
set_option maxHeartbeats 4000000 in
theorem step_Xor {len : Nat} (h : Told w g G F ra wa len refs want) (rcap wcap : Nat) (x : Sm) (hk : x.k ≤ 255) (ha : x.a ≤ 255) (hb : x.b ≤ 255) (hc : x.c ≤ 255) (hm : x.k % 6 = 2) :
    Calls Try.prog 19 #[.agg #[.pointer (some ⟨g, 0, none⟩), .slice ra len rcap, .slice wa len wcap], .agg #[.int .u8 x.k, .int .u8 x.a, .int .u8 x.b, .int .u8 x.c]] w fun e w' => e = .returned (.tuple #[.int .i64 (stepRes G refs x).2.1, .int .u64 (stepW want x), .int .i64 (stepRes G refs x).2.2]) ∧ GTo w g (stepRes G refs x).1 F w' := by
  have eS : stepRes G refs x = doXor G (pickR refs x.a) (pickR refs x.b) := by unfold stepRes; simp [hm]
  have eW : stepW want x = pickW want x.a ^^^ pickW want x.b := by unfold stepW; simp [hm]
  rw [eS, eW]
  have bw := h.words
  have hu := pickW_lt bw x.a
  have hv := pickW_lt bw x.b
  have ht := pickW_lt bw x.c
  have br := fun n => pickR_lt h.refs (by rw [h.l1]; exact h.pos) n
  have hp := br x.a
  have hq := br x.b
  have hz := br x.c
  have hsz : G.nodes.length ≤ 65536 := by have := h.gin.ok.room; have := h.gin.ok.most; omega
  clear br bw eS eW
  have t0 : ((x.k : Int) % 6 == 0) = false := by simp; omega
  have t1 : ((x.k : Int) % 6 == 1) = false := by simp; omega
  have t2 : ((x.k : Int) % 6 == 2) = true := by simp; omega
  clear hm
  have hW : Ch [] w ((w.alloc (.cells #[.pointer (some ⟨g, 0, none⟩), .slice ra len rcap, .slice wa len wcap] 28)).alloc (.cells #[.int .u8 x.k, .int .u8 x.a, .int .u8 x.b, .int .u8 x.c] 48)) := ((Ch.refl _ _).alloc _).alloc _
  have hb1 : blk ((w.alloc (.cells #[.pointer (some ⟨g, 0, none⟩), .slice ra len rcap, .slice wa len wcap] 28)).alloc (.cells #[.int .u8 x.k, .int .u8 x.a, .int .u8 x.b, .int .u8 x.c] 48)) w.heap.size [.pointer (some ⟨g, 0, none⟩), .slice ra len rcap, .slice wa len wcap] := (blk.new' _ _ rfl).alloc _
  have hb2 : blk ((w.alloc (.cells #[.pointer (some ⟨g, 0, none⟩), .slice ra len rcap, .slice wa len wcap] 28)).alloc (.cells #[.int .u8 x.k, .int .u8 x.a, .int .u8 x.b, .int .u8 x.c] 48)) (w.heap.size + 1) [.int .u8 x.k, .int .u8 x.a, .int .u8 x.b, .int .u8 x.c] := blk.new' _ _ (by simp)
  have hT := h.same hW
  have H := Lib.hid h; clear h
  have HW := Lib.hid hW; clear hW
  have HB1 := Lib.hid hb1; clear hb1
  have HB2 := Lib.hid hb2; clear hb2
  have HP := hT.pick rcap wcap x.a ha
  have HT := Lib.hid hT; clear hT
  have HPP := Lib.hid HP; clear HP
  generalize hrp : pickR refs x.a = p at *
  generalize hrq : pickR refs x.b = q at *
  generalize hrz : pickR refs x.c = z at *
  generalize hwu : pickW want x.a = u at *
  generalize hwv : pickW want x.b = v at *
  generalize hwt : pickW want x.c = t at *
  have RP := Lib.hid hrp; clear hrp
  have RQ := Lib.hid hrq; clear hrq
  have RZ := Lib.hid hrz; clear hrz
  have WU := Lib.hid hwu; clear hwu
  have WV := Lib.hid hwv; clear hwv
  have WT := Lib.hid hwt; clear hwt
  go_enter Try.func19, Try.ntmps19
  go_wp2_with fail
  refine HPP.out.mono ?_
  rintro e w1 ⟨rfl, hc1⟩
  have hc1' := HB1.out.ch hc1 (by simp)
  have hc2' := HB2.out.ch hc1 (by simp)
  have ⟨x0, x1, x2⟩ := blk3 hc1'
  have ⟨y0, y1, y2, y3⟩ := blk4 hc2'
  have hT1 := HT.out.same hc1
  have HP2 := hT1.pick rcap wcap x.b hb
  rw [RQ.out, WV.out] at HP2
  clear HPP HT HB1 HB2
  have HT := Lib.hid hT1; clear hT1
  have HPP := Lib.hid HP2; clear HP2
  have HB1 := Lib.hid hc1'; clear hc1'
  have HB2 := Lib.hid hc2'; clear hc2'
  have HC1 := Lib.hid (HW.out.trans hc1 (by simp)); clear hc1 HW
  go_wp2_with fail
  refine HPP.out.mono ?_
  rintro e w2 ⟨rfl, hc1⟩
  clear x0 x1 x2 y0 y1 y2 y3
  have hc1' := HB1.out.ch hc1 (by simp)
  have hc2' := HB2.out.ch hc1 (by simp)
  have ⟨x0, x1, x2⟩ := blk3 hc1'
  have ⟨y0, y1, y2, y3⟩ := blk4 hc2'
  have hT1 := HT.out.same hc1
  have HP2 := hT1.pick rcap wcap x.c hc
  rw [RZ.out, WT.out] at HP2
  clear HPP HT HB1 HB2
  have HT := Lib.hid hT1; clear hT1
  have HPP := Lib.hid HP2; clear HP2
  have HB1 := Lib.hid hc1'; clear hc1'
  have HB2 := Lib.hid hc2'; clear hc2'
  have HC2 := Lib.hid (HC1.out.trans hc1 (by simp)); clear hc1 HC1
  go_wp2_with fail
  refine HPP.out.mono ?_
  rintro e w3 ⟨rfl, hc1⟩
  clear x0 x1 x2 y0 y1 y2 y3
  have hc1' := HB1.out.ch hc1 (by simp)
  have hc2' := HB2.out.ch hc1 (by simp)
  have ⟨x0, x1, x2⟩ := blk3 hc1'
  have ⟨y0, y1, y2, y3⟩ := blk4 hc2'
  have hT1 := HT.out.same hc1
  clear HPP HT HB1 HB2 hc1' hc2'
  have HT := Lib.hid hT1; clear hT1
  have HC3 := Lib.hid (HC2.out.trans hc1 (by simp)); clear hc1 HC2
  go_wp2_with fail
  refine (Xor_g HT.out.gin p q (by omega) (by omega)).mono ?_
  rintro e w4 ⟨rfl, hto⟩
  have HTO := Lib.hid (GTo.back hto HC3.out); clear hto
  go_wp2_with fail
  go_ret3
  exact ⟨ret_iii rfl (xor_words u v hu hv) rfl, HTO.out⟩
set_option maxRecDepth 100000 in
set_option maxHeartbeats 4000000 in
theorem step_Mux {len : Nat} (h : Told w g G F ra wa len refs want) (rcap wcap : Nat) (x : Sm) (hk : x.k ≤ 255) (ha : x.a ≤ 255) (hb : x.b ≤ 255) (hc : x.c ≤ 255) (hm : x.k % 6 = 3) :
    Calls Try.prog 19 #[.agg #[.pointer (some ⟨g, 0, none⟩), .slice ra len rcap, .slice wa len wcap], .agg #[.int .u8 x.k, .int .u8 x.a, .int .u8 x.b, .int .u8 x.c]] w fun e w' => e = .returned (.tuple #[.int .i64 (stepRes G refs x).2.1, .int .u64 (stepW want x), .int .i64 (stepRes G refs x).2.2]) ∧ GTo w g (stepRes G refs x).1 F w' := by
  have eS : stepRes G refs x = doMux G (pickR refs x.a) (pickR refs x.b) (pickR refs x.c) := by unfold stepRes; simp [hm]
  have eW : stepW want x = (pickW want x.a &&& pickW want x.b) ||| ((pickW want x.a ^^^ 65535) &&& pickW want x.c) := by unfold stepW; simp [hm]
  rw [eS, eW]
  have bw := h.words
  have hu := pickW_lt bw x.a
  have hv := pickW_lt bw x.b
  have ht := pickW_lt bw x.c
  have br := fun n => pickR_lt h.refs (by rw [h.l1]; exact h.pos) n
  have hp := br x.a
  have hq := br x.b
  have hz := br x.c
  have hsz : G.nodes.length ≤ 65536 := by have := h.gin.ok.room; have := h.gin.ok.most; omega
  clear br bw eS eW
  have t0 : ((x.k : Int) % 6 == 0) = false := by simp; omega
  have t1 : ((x.k : Int) % 6 == 1) = false := by simp; omega
  have t2 : ((x.k : Int) % 6 == 2) = false := by simp; omega
  have t3 : ((x.k : Int) % 6 == 3) = true := by simp; omega
  clear hm
  have hW : Ch [] w ((w.alloc (.cells #[.pointer (some ⟨g, 0, none⟩), .slice ra len rcap, .slice wa len wcap] 28)).alloc (.cells #[.int .u8 x.k, .int .u8 x.a, .int .u8 x.b, .int .u8 x.c] 48)) := ((Ch.refl _ _).alloc _).alloc _
  have hb1 : blk ((w.alloc (.cells #[.pointer (some ⟨g, 0, none⟩), .slice ra len rcap, .slice wa len wcap] 28)).alloc (.cells #[.int .u8 x.k, .int .u8 x.a, .int .u8 x.b, .int .u8 x.c] 48)) w.heap.size [.pointer (some ⟨g, 0, none⟩), .slice ra len rcap, .slice wa len wcap] := (blk.new' _ _ rfl).alloc _
  have hb2 : blk ((w.alloc (.cells #[.pointer (some ⟨g, 0, none⟩), .slice ra len rcap, .slice wa len wcap] 28)).alloc (.cells #[.int .u8 x.k, .int .u8 x.a, .int .u8 x.b, .int .u8 x.c] 48)) (w.heap.size + 1) [.int .u8 x.k, .int .u8 x.a, .int .u8 x.b, .int .u8 x.c] := blk.new' _ _ (by simp)
  have hT := h.same hW
  have H := Lib.hid h; clear h
  have HW := Lib.hid hW; clear hW
  have HB1 := Lib.hid hb1; clear hb1
  have HB2 := Lib.hid hb2; clear hb2
  have HP := hT.pick rcap wcap x.a ha
  have HT := Lib.hid hT; clear hT
  have HPP := Lib.hid HP; clear HP
  generalize hrp : pickR refs x.a = p at *
  generalize hrq : pickR refs x.b = q at *
  generalize hrz : pickR refs x.c = z at *
  generalize hwu : pickW want x.a = u at *
  generalize hwv : pickW want x.b = v at *
  generalize hwt : pickW want x.c = t at *
  have RP := Lib.hid hrp; clear hrp
  have RQ := Lib.hid hrq; clear hrq
  have RZ := Lib.hid hrz; clear hrz
  have WU := Lib.hid hwu; clear hwu
  have WV := Lib.hid hwv; clear hwv
  have WT := Lib.hid hwt; clear hwt
  go_enter Try.func19, Try.ntmps19
  go_wp2_with fail
  refine HPP.out.mono ?_
  rintro e w1 ⟨rfl, hc1⟩
  have hc1' := HB1.out.ch hc1 (by simp)
  have hc2' := HB2.out.ch hc1 (by simp)
  have ⟨x0, x1, x2⟩ := blk3 hc1'
  have ⟨y0, y1, y2, y3⟩ := blk4 hc2'
  have hT1 := HT.out.same hc1
  have HP2 := hT1.pick rcap wcap x.b hb
  rw [RQ.out, WV.out] at HP2
  clear HPP HT HB1 HB2
  have HT := Lib.hid hT1; clear hT1
  have HPP := Lib.hid HP2; clear HP2
  have HB1 := Lib.hid hc1'; clear hc1'
  have HB2 := Lib.hid hc2'; clear hc2'
  have HC1 := Lib.hid (HW.out.trans hc1 (by simp)); clear hc1 HW
  go_wp2_with fail
  refine HPP.out.mono ?_
  rintro e w2 ⟨rfl, hc1⟩
  clear x0 x1 x2 y0 y1 y2 y3
  have hc1' := HB1.out.ch hc1 (by simp)
  have hc2' := HB2.out.ch hc1 (by simp)
  have ⟨x0, x1, x2⟩ := blk3 hc1'
  have ⟨y0, y1, y2, y3⟩ := blk4 hc2'
  have hT1 := HT.out.same hc1
  have HP2 := hT1.pick rcap wcap x.c hc
  rw [RZ.out, WT.out] at HP2
  clear HPP HT HB1 HB2
  have HT := Lib.hid hT1; clear hT1
  have HPP := Lib.hid HP2; clear HP2
  have HB1 := Lib.hid hc1'; clear hc1'
  have HB2 := Lib.hid hc2'; clear hc2'
  have HC2 := Lib.hid (HC1.out.trans hc1 (by simp)); clear hc1 HC1
  go_wp2_with fail
  refine HPP.out.mono ?_
  rintro e w3 ⟨rfl, hc1⟩
  clear x0 x1 x2 y0 y1 y2 y3
  have hc1' := HB1.out.ch hc1 (by simp)
  have hc2' := HB2.out.ch hc1 (by simp)
  have ⟨x0, x1, x2⟩ := blk3 hc1'
  have ⟨y0, y1, y2, y3⟩ := blk4 hc2'
  have hT1 := HT.out.same hc1
  clear HPP HT HB1 HB2 hc1' hc2'
  have HT := Lib.hid hT1; clear hT1
  have HC3 := Lib.hid (HC2.out.trans hc1 (by simp)); clear hc1 HC2
  go_wp2_with fail
  refine (Mux_g HT.out.gin p q z (by omega) (by omega) (by omega)).mono ?_
  rintro e w4 ⟨rfl, hto⟩
  have HTO := Lib.hid (GTo.back hto HC3.out); clear hto
  go_wp2_with fail
  go_ret3
  exact ⟨ret_iii rfl (mux_words u v t hu hv ht) rfl, HTO.out⟩
set_option maxRecDepth 100000 in
set_option maxHeartbeats 4000000 in
theorem step_All {len : Nat} (h : Told w g G F ra wa len refs want) (rcap wcap : Nat) (x : Sm) (hk : x.k ≤ 255) (ha : x.a ≤ 255) (hb : x.b ≤ 255) (hc : x.c ≤ 255) (hm : x.k % 6 = 4) :
    Calls Try.prog 19 #[.agg #[.pointer (some ⟨g, 0, none⟩), .slice ra len rcap, .slice wa len wcap], .agg #[.int .u8 x.k, .int .u8 x.a, .int .u8 x.b, .int .u8 x.c]] w fun e w' => e = .returned (.tuple #[.int .i64 (stepRes G refs x).2.1, .int .u64 (stepW want x), .int .i64 (stepRes G refs x).2.2]) ∧ GTo w g (stepRes G refs x).1 F w' := by
  have eS : stepRes G refs x = doAll G [((pickR refs x.a) : Int), ((pickR refs x.b) : Int), ((pickR refs x.c) : Int)] := by unfold stepRes; simp [hm]
  have eW : stepW want x = pickW want x.a &&& pickW want x.b &&& pickW want x.c := by unfold stepW; simp [hm]
  rw [eS, eW]
  have bw := h.words
  have hu := pickW_lt bw x.a
  have hv := pickW_lt bw x.b
  have ht := pickW_lt bw x.c
  have br := fun n => pickR_lt h.refs (by rw [h.l1]; exact h.pos) n
  have hp := br x.a
  have hq := br x.b
  have hz := br x.c
  have hsz : G.nodes.length ≤ 65536 := by have := h.gin.ok.room; have := h.gin.ok.most; omega
  clear br bw eS eW
  have t0 : ((x.k : Int) % 6 == 0) = false := by simp; omega
  have t1 : ((x.k : Int) % 6 == 1) = false := by simp; omega
  have t2 : ((x.k : Int) % 6 == 2) = false := by simp; omega
  have t3 : ((x.k : Int) % 6 == 3) = false := by simp; omega
  have t4 : ((x.k : Int) % 6 == 4) = true := by simp; omega
  clear hm
  have hW : Ch [] w ((w.alloc (.cells #[.pointer (some ⟨g, 0, none⟩), .slice ra len rcap, .slice wa len wcap] 28)).alloc (.cells #[.int .u8 x.k, .int .u8 x.a, .int .u8 x.b, .int .u8 x.c] 48)) := ((Ch.refl _ _).alloc _).alloc _
  have hb1 : blk ((w.alloc (.cells #[.pointer (some ⟨g, 0, none⟩), .slice ra len rcap, .slice wa len wcap] 28)).alloc (.cells #[.int .u8 x.k, .int .u8 x.a, .int .u8 x.b, .int .u8 x.c] 48)) w.heap.size [.pointer (some ⟨g, 0, none⟩), .slice ra len rcap, .slice wa len wcap] := (blk.new' _ _ rfl).alloc _
  have hb2 : blk ((w.alloc (.cells #[.pointer (some ⟨g, 0, none⟩), .slice ra len rcap, .slice wa len wcap] 28)).alloc (.cells #[.int .u8 x.k, .int .u8 x.a, .int .u8 x.b, .int .u8 x.c] 48)) (w.heap.size + 1) [.int .u8 x.k, .int .u8 x.a, .int .u8 x.b, .int .u8 x.c] := blk.new' _ _ (by simp)
  have hT := h.same hW
  have H := Lib.hid h; clear h
  have HW := Lib.hid hW; clear hW
  have HB1 := Lib.hid hb1; clear hb1
  have HB2 := Lib.hid hb2; clear hb2
  have HP := hT.pick rcap wcap x.a ha
  have HT := Lib.hid hT; clear hT
  have HPP := Lib.hid HP; clear HP
  generalize hrp : pickR refs x.a = p at *
  generalize hrq : pickR refs x.b = q at *
  generalize hrz : pickR refs x.c = z at *
  generalize hwu : pickW want x.a = u at *
  generalize hwv : pickW want x.b = v at *
  generalize hwt : pickW want x.c = t at *
  have RP := Lib.hid hrp; clear hrp
  have RQ := Lib.hid hrq; clear hrq
  have RZ := Lib.hid hrz; clear hrz
  have WU := Lib.hid hwu; clear hwu
  have WV := Lib.hid hwv; clear hwv
  have WT := Lib.hid hwt; clear hwt
  go_enter Try.func19, Try.ntmps19
  go_wp2_with fail
  refine HPP.out.mono ?_
  rintro e w1 ⟨rfl, hc1⟩
  have hc1' := HB1.out.ch hc1 (by simp)
  have hc2' := HB2.out.ch hc1 (by simp)
  have ⟨x0, x1, x2⟩ := blk3 hc1'
  have ⟨y0, y1, y2, y3⟩ := blk4 hc2'
  have hT1 := HT.out.same hc1
  have HP2 := hT1.pick rcap wcap x.b hb
  rw [RQ.out, WV.out] at HP2
  clear HPP HT HB1 HB2
  have HT := Lib.hid hT1; clear hT1
  have HPP := Lib.hid HP2; clear HP2
  have HB1 := Lib.hid hc1'; clear hc1'
  have HB2 := Lib.hid hc2'; clear hc2'
  have HC1 := Lib.hid (HW.out.trans hc1 (by simp)); clear hc1 HW
  go_wp2_with fail
  refine HPP.out.mono ?_
  rintro e w2 ⟨rfl, hc1⟩
  clear x0 x1 x2 y0 y1 y2 y3
  have hc1' := HB1.out.ch hc1 (by simp)
  have hc2' := HB2.out.ch hc1 (by simp)
  have ⟨x0, x1, x2⟩ := blk3 hc1'
  have ⟨y0, y1, y2, y3⟩ := blk4 hc2'
  have hT1 := HT.out.same hc1
  have HP2 := hT1.pick rcap wcap x.c hc
  rw [RZ.out, WT.out] at HP2
  clear HPP HT HB1 HB2
  have HT := Lib.hid hT1; clear hT1
  have HPP := Lib.hid HP2; clear HP2
  have HB1 := Lib.hid hc1'; clear hc1'
  have HB2 := Lib.hid hc2'; clear hc2'
  have HC2 := Lib.hid (HC1.out.trans hc1 (by simp)); clear hc1 HC1
  go_wp2_with fail
  refine HPP.out.mono ?_
  rintro e w3 ⟨rfl, hc1⟩
  clear x0 x1 x2 y0 y1 y2 y3
  have hc1' := HB1.out.ch hc1 (by simp)
  have hc2' := HB2.out.ch hc1 (by simp)
  have ⟨x0, x1, x2⟩ := blk3 hc1'
  have ⟨y0, y1, y2, y3⟩ := blk4 hc2'
  have hT1 := HT.out.same hc1
  clear HPP HT HB1 HB2 hc1' hc2'
  have HT := Lib.hid hT1; clear hT1
  have HC3 := Lib.hid (HC2.out.trans hc1 (by simp)); clear hc1 HC2
  go_wp2_with fail
  have hA : Ch [] w3 (w3.alloc (.cells #[.int .i64 p, .int .i64 q, .int .i64 z] 33)) := (Ch.refl _ _).alloc _
  have hsl : Sl (w3.alloc (.cells #[.int .i64 p, .int .i64 q, .int .i64 z] 33)) (some ⟨w3.heap.size, 0, none⟩) [(p : Int), (q : Int), (z : Int)] := Sl.new3 w3 p q z
  have hnf : w3.heap.size ∉ F := fun hF => by have := HT.out.gin.lt _ hF; omega
  refine (All_g (HT.out.gin.same hA (by simp)) 3 3 rfl hsl (fun y hy => by simp at hy; rcases hy with rfl | rfl | rfl <;> omega) (fun a ha => by cases ha; exact ⟨by simp, hnf⟩)).mono ?_
  rintro e w4 ⟨rfl, hto⟩
  have HTO := Lib.hid (GTo.back hto (HC3.out.trans hA (by simp))); clear hto
  go_wp2_with fail
  go_ret3
  exact ⟨ret_iii rfl (by rw [and_words u v hu hv, and_words _ t (and3_lt hu hv) ht]) rfl, HTO.out⟩
set_option maxRecDepth 100000 in
set_option maxHeartbeats 4000000 in
theorem step_Any {len : Nat} (h : Told w g G F ra wa len refs want) (rcap wcap : Nat) (x : Sm) (hk : x.k ≤ 255) (ha : x.a ≤ 255) (hb : x.b ≤ 255) (hc : x.c ≤ 255) (hm : x.k % 6 = 5) :
    Calls Try.prog 19 #[.agg #[.pointer (some ⟨g, 0, none⟩), .slice ra len rcap, .slice wa len wcap], .agg #[.int .u8 x.k, .int .u8 x.a, .int .u8 x.b, .int .u8 x.c]] w fun e w' => e = .returned (.tuple #[.int .i64 (stepRes G refs x).2.1, .int .u64 (stepW want x), .int .i64 (stepRes G refs x).2.2]) ∧ GTo w g (stepRes G refs x).1 F w' := by
  have eS : stepRes G refs x = doAny G [((pickR refs x.a) : Int), ((pickR refs x.b) : Int), ((pickR refs x.c) : Int)] := by unfold stepRes; simp [hm]
  have eW : stepW want x = pickW want x.a ||| pickW want x.b ||| pickW want x.c := by unfold stepW; simp [hm]
  rw [eS, eW]
  have bw := h.words
  have hu := pickW_lt bw x.a
  have hv := pickW_lt bw x.b
  have ht := pickW_lt bw x.c
  have br := fun n => pickR_lt h.refs (by rw [h.l1]; exact h.pos) n
  have hp := br x.a
  have hq := br x.b
  have hz := br x.c
  have hsz : G.nodes.length ≤ 65536 := by have := h.gin.ok.room; have := h.gin.ok.most; omega
  clear br bw eS eW
  have t0 : ((x.k : Int) % 6 == 0) = false := by simp; omega
  have t1 : ((x.k : Int) % 6 == 1) = false := by simp; omega
  have t2 : ((x.k : Int) % 6 == 2) = false := by simp; omega
  have t3 : ((x.k : Int) % 6 == 3) = false := by simp; omega
  have t4 : ((x.k : Int) % 6 == 4) = false := by simp; omega
  clear hm
  have hW : Ch [] w ((w.alloc (.cells #[.pointer (some ⟨g, 0, none⟩), .slice ra len rcap, .slice wa len wcap] 28)).alloc (.cells #[.int .u8 x.k, .int .u8 x.a, .int .u8 x.b, .int .u8 x.c] 48)) := ((Ch.refl _ _).alloc _).alloc _
  have hb1 : blk ((w.alloc (.cells #[.pointer (some ⟨g, 0, none⟩), .slice ra len rcap, .slice wa len wcap] 28)).alloc (.cells #[.int .u8 x.k, .int .u8 x.a, .int .u8 x.b, .int .u8 x.c] 48)) w.heap.size [.pointer (some ⟨g, 0, none⟩), .slice ra len rcap, .slice wa len wcap] := (blk.new' _ _ rfl).alloc _
  have hb2 : blk ((w.alloc (.cells #[.pointer (some ⟨g, 0, none⟩), .slice ra len rcap, .slice wa len wcap] 28)).alloc (.cells #[.int .u8 x.k, .int .u8 x.a, .int .u8 x.b, .int .u8 x.c] 48)) (w.heap.size + 1) [.int .u8 x.k, .int .u8 x.a, .int .u8 x.b, .int .u8 x.c] := blk.new' _ _ (by simp)
  have hT := h.same hW
  have H := Lib.hid h; clear h
  have HW := Lib.hid hW; clear hW
  have HB1 := Lib.hid hb1; clear hb1
  have HB2 := Lib.hid hb2; clear hb2
  have HP := hT.pick rcap wcap x.a ha
  have HT := Lib.hid hT; clear hT
  have HPP := Lib.hid HP; clear HP
  generalize hrp : pickR refs x.a = p at *
  generalize hrq : pickR refs x.b = q at *
  generalize hrz : pickR refs x.c = z at *
  generalize hwu : pickW want x.a = u at *
  generalize hwv : pickW want x.b = v at *
  generalize hwt : pickW want x.c = t at *
  have RP := Lib.hid hrp; clear hrp
  have RQ := Lib.hid hrq; clear hrq
  have RZ := Lib.hid hrz; clear hrz
  have WU := Lib.hid hwu; clear hwu
  have WV := Lib.hid hwv; clear hwv
  have WT := Lib.hid hwt; clear hwt
  go_enter Try.func19, Try.ntmps19
  go_wp2_with fail
  refine HPP.out.mono ?_
  rintro e w1 ⟨rfl, hc1⟩
  have hc1' := HB1.out.ch hc1 (by simp)
  have hc2' := HB2.out.ch hc1 (by simp)
  have ⟨x0, x1, x2⟩ := blk3 hc1'
  have ⟨y0, y1, y2, y3⟩ := blk4 hc2'
  have hT1 := HT.out.same hc1
  have HP2 := hT1.pick rcap wcap x.b hb
  rw [RQ.out, WV.out] at HP2
  clear HPP HT HB1 HB2
  have HT := Lib.hid hT1; clear hT1
  have HPP := Lib.hid HP2; clear HP2
  have HB1 := Lib.hid hc1'; clear hc1'
  have HB2 := Lib.hid hc2'; clear hc2'
  have HC1 := Lib.hid (HW.out.trans hc1 (by simp)); clear hc1 HW
  go_wp2_with fail
  refine HPP.out.mono ?_
  rintro e w2 ⟨rfl, hc1⟩
  clear x0 x1 x2 y0 y1 y2 y3
  have hc1' := HB1.out.ch hc1 (by simp)
  have hc2' := HB2.out.ch hc1 (by simp)
  have ⟨x0, x1, x2⟩ := blk3 hc1'
  have ⟨y0, y1, y2, y3⟩ := blk4 hc2'
  have hT1 := HT.out.same hc1
  have HP2 := hT1.pick rcap wcap x.c hc
  rw [RZ.out, WT.out] at HP2
  clear HPP HT HB1 HB2
  have HT := Lib.hid hT1; clear hT1
  have HPP := Lib.hid HP2; clear HP2
  have HB1 := Lib.hid hc1'; clear hc1'
  have HB2 := Lib.hid hc2'; clear hc2'
  have HC2 := Lib.hid (HC1.out.trans hc1 (by simp)); clear hc1 HC1
  go_wp2_with fail
  refine HPP.out.mono ?_
  rintro e w3 ⟨rfl, hc1⟩
  clear x0 x1 x2 y0 y1 y2 y3
  have hc1' := HB1.out.ch hc1 (by simp)
  have hc2' := HB2.out.ch hc1 (by simp)
  have ⟨x0, x1, x2⟩ := blk3 hc1'
  have ⟨y0, y1, y2, y3⟩ := blk4 hc2'
  have hT1 := HT.out.same hc1
  clear HPP HT HB1 HB2 hc1' hc2'
  have HT := Lib.hid hT1; clear hT1
  have HC3 := Lib.hid (HC2.out.trans hc1 (by simp)); clear hc1 HC2
  go_wp2_with fail
  have hA : Ch [] w3 (w3.alloc (.cells #[.int .i64 p, .int .i64 q, .int .i64 z] 33)) := (Ch.refl _ _).alloc _
  have hsl : Sl (w3.alloc (.cells #[.int .i64 p, .int .i64 q, .int .i64 z] 33)) (some ⟨w3.heap.size, 0, none⟩) [(p : Int), (q : Int), (z : Int)] := Sl.new3 w3 p q z
  have hnf : w3.heap.size ∉ F := fun hF => by have := HT.out.gin.lt _ hF; omega
  refine (Any_g (HT.out.gin.same hA (by simp)) 3 3 rfl hsl (fun y hy => by simp at hy; rcases hy with rfl | rfl | rfl <;> omega) (fun a ha => by cases ha; exact ⟨by simp, hnf⟩)).mono ?_
  rintro e w4 ⟨rfl, hto⟩
  have HTO := Lib.hid (GTo.back hto (HC3.out.trans hA (by simp))); clear hto
  go_wp2_with fail
  go_ret3
  exact ⟨ret_iii rfl (by rw [or_words u v hu hv, or_words _ t (or3_lt hu hv) ht]) rfl, HTO.out⟩
theorem step_is {len : Nat} (h : Told w g G F ra wa len refs want) (rcap wcap : Nat) (x : Sm) (hk : x.k ≤ 255) (ha : x.a ≤ 255) (hb : x.b ≤ 255) (hc : x.c ≤ 255) :
    Calls Try.prog 19 #[.agg #[.pointer (some ⟨g, 0, none⟩), .slice ra len rcap, .slice wa len wcap], .agg #[.int .u8 x.k, .int .u8 x.a, .int .u8 x.b, .int .u8 x.c]] w fun e w' => e = .returned (.tuple #[.int .i64 (stepRes G refs x).2.1, .int .u64 (stepW want x), .int .i64 (stepRes G refs x).2.2]) ∧ GTo w g (stepRes G refs x).1 F w' := by
  rcases (show x.k % 6 = 0 ∨ x.k % 6 = 1 ∨ x.k % 6 = 2 ∨ x.k % 6 = 3 ∨ x.k % 6 = 4 ∨ x.k % 6 = 5 by omega) with e | e | e | e | e | e
  · exact step_And h rcap wcap x hk ha hb hc e
  · exact step_Or h rcap wcap x hk ha hb hc e
  · exact step_Xor h rcap wcap x hk ha hb hc e
  · exact step_Mux h rcap wcap x hk ha hb hc e
  · exact step_All h rcap wcap x hk ha hb hc e
  · exact step_Any h rcap wcap x hk ha hb hc e
end
end Go.Proofs.Ytnajonchjlplmaa
namespace Go.Proofs.Ytnajonchjlplmaa
open Go.Aig
theorem and_room {G : Gra} {a b : Nat} (h : G.nodes.length < G.most) : (Aig.and G a b).2.2 = 0 ∧ (Aig.and G a b).1.nodes.length ≤ G.nodes.length + 1 := by
  unfold Aig.and
  split
  · exact ⟨rfl, by show G.nodes.length ≤ _; omega⟩
  · split
    · exact ⟨rfl, by show G.nodes.length ≤ _; omega⟩
    · unfold put
      rw [if_neg (by omega)]
      exact ⟨rfl, by simp⟩
theorem and_most (G : Gra) (a b : Nat) : (Aig.and G a b).1.most = G.most := by
  unfold Aig.and put; (repeat' split) <;> rfl
theorem mand_room {s : Mk} {a b : Nat} (he : s.2 = 0) (h : s.1.nodes.length < s.1.most) : (mand s a b).1.2 = 0 ∧ (mand s a b).1.1.nodes.length ≤ s.1.nodes.length + 1 ∧ (mand s a b).1.1.most = s.1.most := by
  unfold mand
  rw [if_neg (by omega)]
  obtain ⟨h1, h2⟩ := and_room (a := a) (b := b) h
  exact ⟨h1, h2, and_most _ _ _⟩
theorem mor_room {s : Mk} {a b : Nat} (he : s.2 = 0) (h : s.1.nodes.length < s.1.most) : (mor s a b).1.2 = 0 ∧ (mor s a b).1.1.nodes.length ≤ s.1.nodes.length + 1 ∧ (mor s a b).1.1.most = s.1.most := mand_room (a := neg a) (b := neg b) he h
theorem mmux_room {s : Mk} {c a b : Nat} (he : s.2 = 0) (h : s.1.nodes.length + 3 ≤ s.1.most) : (mmux s c a b).1.2 = 0 ∧ (mmux s c a b).1.1.nodes.length ≤ s.1.nodes.length + 3 ∧ (mmux s c a b).1.1.most = s.1.most := by
  obtain ⟨h1, h2, h3⟩ := mand_room (a := c) (b := a) he (by omega)
  obtain ⟨h4, h5, h6⟩ := mand_room (a := neg c) (b := b) h1 (by omega)
  obtain ⟨h7, h8, h9⟩ := mor_room (a := (mand s c a).2) (b := (mand (mand s c a).1 (neg c) b).2) h4 (by omega)
  exact ⟨h7, by show (mor _ _ _).1.1.nodes.length ≤ _; omega, by show (mor _ _ _).1.1.most = _; omega⟩
theorem mall_room : ∀ (l : List Nat) {s : Mk} {out : Nat}, s.2 = 0 → s.1.nodes.length + l.length ≤ s.1.most → (mall s out l).1.2 = 0 ∧ (mall s out l).1.1.nodes.length ≤ s.1.nodes.length + l.length ∧ (mall s out l).1.1.most = s.1.most
  | [], s, out, he, _ => ⟨he, by simp [mall], rfl⟩
  | r :: l, s, out, he, h => by
    simp only [List.length_cons] at h ⊢
    obtain ⟨h1, h2, h3⟩ := mand_room (a := out) (b := r) he (by omega)
    obtain ⟨h4, h5, h6⟩ := mall_room l (s := (mand s out r).1) (out := (mand s out r).2) h1 (by omega)
    refine ⟨h4, ?_, ?_⟩
    · show (mall (mand s out r).1 (mand s out r).2 l).1.1.nodes.length ≤ _; omega
    · show (mall (mand s out r).1 (mand s out r).2 l).1.1.most = _; omega
/-- what a maker is that keeps all in order -/
structure Good (f : Mk → Mk × Nat) (G : Gra) (k : Nat) (v : (Nat → Bool) → Bool) : Prop where
  ok : MOk (f (G, 0)).1
  ext : Ext G (f (G, 0)).1.1
  lt : (f (G, 0)).2 < 2 * (f (G, 0)).1.1.nodes.length
  sem : ∀ env, (f (G, 0)).1.2 = 0 → bv env (f (G, 0)).1.1.nodes (f (G, 0)).2 = v env
  room : G.nodes.length + k ≤ G.most → (f (G, 0)).1.2 = 0 ∧ (f (G, 0)).1.1.nodes.length ≤ G.nodes.length + k
theorem right_of {ns : List Nd} {r : Nat} (h : r < 2 * ns.length) : right ns (r : Int) = true := by unfold right; simp; omega
theorem whole_good {G : Gra} {l : List Nat} {f : Mk → Mk × Nat} {k : Nat} {v : (Nat → Bool) → Bool} (hl : ∀ r ∈ l, r < 2 * G.nodes.length) (h : Good f G k v) (hok : Ok G) :
    Ok (whole G (l.map fun (r : Nat) => (r : Int)) f).1 ∧ Ext G (whole G (l.map fun (r : Nat) => (r : Int)) f).1 ∧ (whole G (l.map fun (r : Nat) => (r : Int)) f).2.1 < 2 * (whole G (l.map fun (r : Nat) => (r : Int)) f).1.nodes.length ∧
      (∀ env, (whole G (l.map fun (r : Nat) => (r : Int)) f).2.2 = 0 → bv env (whole G (l.map fun (r : Nat) => (r : Int)) f).1.nodes (whole G (l.map fun (r : Nat) => (r : Int)) f).2.1 = v env) ∧
      (G.nodes.length + k ≤ G.most → (whole G (l.map fun (r : Nat) => (r : Int)) f).2.2 = 0 ∧ (whole G (l.map fun (r : Nat) => (r : Int)) f).1.nodes.length ≤ G.nodes.length + k) := by
  have hany : ((l.map fun (r : Nat) => (r : Int)).any fun r => !right G.nodes r) = false := by
    rw [List.any_eq_false]
    intro x hx
    obtain ⟨r, hr, rfl⟩ := List.mem_map.1 hx
    simp [right_of (hl r hr)]
  have hp := hok.wf.pos
  unfold whole
  rw [hany]
  simp only [Bool.false_eq_true, if_false]
  by_cases he : (f (G, 0)).1.2 = 0
  · rw [if_neg (by omega)]
    exact ⟨h.ok.ok, h.ext, h.lt, fun env _ => h.sem env he, fun hk => ⟨rfl, (h.room hk).2⟩⟩
  · rw [if_pos (by omega)]
    exact ⟨hok, Ext.refl _, by show 0 < 2 * G.nodes.length; omega, fun env hz => (he hz).elim, fun hk => (he (h.room hk).1).elim⟩
section
variable {G : Gra} (h : Ok G)
include h
theorem mok0 : MOk (G, 0) := ⟨h, .inl rfl⟩
theorem good_and {a b : Nat} (ha : a < 2 * G.nodes.length) (hb : b < 2 * G.nodes.length) : Good (fun s => mand s a b) G 1 (fun env => bv env G.nodes a && bv env G.nodes b) := by
  obtain ⟨h1, h2, h3⟩ := mand_ok (mok0 h) ha hb
  exact ⟨h1, h2, h3, fun env he => mand_sem env (mok0 h) ha hb he, fun hk => ⟨(mand_room (s := (G, 0)) rfl hk).1, (mand_room (s := (G, 0)) rfl hk).2.1⟩⟩
theorem good_or {a b : Nat} (ha : a < 2 * G.nodes.length) (hb : b < 2 * G.nodes.length) : Good (fun s => mor s a b) G 1 (fun env => bv env G.nodes a || bv env G.nodes b) := by
  obtain ⟨h1, h2, h3⟩ := mor_ok (mok0 h) ha hb
  exact ⟨h1, h2, h3, fun env he => mor_sem env (mok0 h) ha hb he, fun hk => ⟨(mor_room (s := (G, 0)) rfl hk).1, (mor_room (s := (G, 0)) rfl hk).2.1⟩⟩
theorem good_mux {c a b : Nat} (hc : c < 2 * G.nodes.length) (ha : a < 2 * G.nodes.length) (hb : b < 2 * G.nodes.length) : Good (fun s => mmux s c a b) G 3 (fun env => bv env G.nodes c && bv env G.nodes a || !bv env G.nodes c && bv env G.nodes b) := by
  obtain ⟨h1, h2, h3⟩ := mmux_ok (mok0 h) hc ha hb
  exact ⟨h1, h2, h3, fun env he => mmux_sem env (mok0 h) hc ha hb he, fun hk => ⟨(mmux_room (s := (G, 0)) rfl hk).1, (mmux_room (s := (G, 0)) rfl hk).2.1⟩⟩
theorem good_all {l : List Nat} (hl : ∀ r ∈ l, r < 2 * G.nodes.length) : Good (fun s => mall s 1 l) G l.length (fun env => l.all fun r => bv env G.nodes r) := by
  have hp := h.wf.pos
  obtain ⟨h1, h2, h3⟩ := mall_ok l (mok0 h) (show 1 < 2 * G.nodes.length by omega) hl
  refine ⟨h1, h2, h3, fun env he => ?_, fun hk => ⟨(mall_room l (s := (G, 0)) rfl hk).1, (mall_room l (s := (G, 0)) rfl hk).2.1⟩⟩
  have := mall_sem env l (mok0 h) (show 1 < 2 * G.nodes.length by omega) hl he
  rw [this]
  show (bv env G.nodes 1 && _) = _
  rw [bv_one env h.wf, Bool.true_and]
theorem good_any {l : List Nat} (hl : ∀ r ∈ l, r < 2 * G.nodes.length) : Good (fun s => many s l) G l.length (fun env => l.any fun r => bv env G.nodes r) := by
  have hl' : ∀ r ∈ l.map neg, r < 2 * G.nodes.length := fun r hr => by
    obtain ⟨x, hx, rfl⟩ := List.mem_map.1 hr
    exact neg_lt (hl x hx)
  have := good_all h hl'
  refine ⟨this.ok, this.ext, neg_lt this.lt, fun env he => ?_, fun hk => ?_⟩
  rotate_left
  · obtain ⟨h1, h2⟩ := this.room (by simpa using hk)
    exact ⟨h1, by simpa [many] using h2⟩
  have h2 := this.sem env he
  show bv env (mall (G, 0) 1 (l.map neg)).1.1.nodes (neg (mall (G, 0) 1 (l.map neg)).2) = _
  rw [bv_neg, h2]
  simp only [List.all_map, Function.comp_def, bv_neg]
  simp [List.any_eq_not_all_not]
end
/-- the maker of a small one, the references that it takes, and what it means -/
def stepMk (refs : List Nat) (x : Sm) : Mk → Mk × Nat := fun s =>
  let p := pickR refs x.a; let q := pickR refs x.b; let r := pickR refs x.c
  if x.k % 6 = 0 then mand s p q else if x.k % 6 = 1 then mor s p q else if x.k % 6 = 2 then mmux s p (neg q) q else if x.k % 6 = 3 then mmux s p q r else if x.k % 6 = 4 then mall s 1 [p, q, r] else many s [p, q, r]
def stepArgs (refs : List Nat) (x : Sm) : List Nat := if x.k % 6 < 3 then [pickR refs x.a, pickR refs x.b] else [pickR refs x.a, pickR refs x.b, pickR refs x.c]
def stepV (u v w : Bool) (k : Nat) : Bool :=
  if k % 6 = 0 then u && v else if k % 6 = 1 then u || v else if k % 6 = 2 then Bool.xor u v else if k % 6 = 3 then (u && v || !u && w) else if k % 6 = 4 then u && v && w else u || v || w
theorem stepRes_eq (G : Gra) (refs : List Nat) (x : Sm) : stepRes G refs x = whole G ((stepArgs refs x).map fun (r : Nat) => (r : Int)) (stepMk refs x) := by
  unfold stepRes stepArgs stepMk
  rcases (show x.k % 6 = 0 ∨ x.k % 6 = 1 ∨ x.k % 6 = 2 ∨ x.k % 6 = 3 ∨ x.k % 6 = 4 ∨ x.k % 6 = 5 by omega) with e | e | e | e | e | e <;> simp [e, doAnd, doOr, doXor, doMux, doAll, doAny]
theorem stepMk_good {G : Gra} (h : Ok G) {refs : List Nat} (hr : ∀ r ∈ refs, r < 2 * G.nodes.length) (h0 : 0 < refs.length) (x : Sm) :
    Good (stepMk refs x) G 3 (fun env => stepV (bv env G.nodes (pickR refs x.a)) (bv env G.nodes (pickR refs x.b)) (bv env G.nodes (pickR refs x.c)) x.k) := by
  have hp := pickR_lt hr h0 x.a
  have hq := pickR_lt hr h0 x.b
  have hz := pickR_lt hr h0 x.c
  have hl : ∀ r ∈ [pickR refs x.a, pickR refs x.b, pickR refs x.c], r < 2 * G.nodes.length := fun r hr => by
    simp at hr; rcases hr with rfl | rfl | rfl <;> assumption
  have up : ∀ {f : Mk → Mk × Nat} {v : (Nat → Bool) → Bool}, Good f G 1 v → Good f G 3 v := fun g => ⟨g.ok, g.ext, g.lt, g.sem, fun hk => ⟨(g.room (by omega)).1, by have := (g.room (by omega)).2; omega⟩⟩
  unfold stepMk stepV
  rcases (show x.k % 6 = 0 ∨ x.k % 6 = 1 ∨ x.k % 6 = 2 ∨ x.k % 6 = 3 ∨ x.k % 6 = 4 ∨ x.k % 6 = 5 by omega) with e | e | e | e | e | e <;> simp (decide := true) only [e, if_true, if_false]
  · exact up (good_and h hp hq)
  · exact up (good_or h hp hq)
  · have := good_mux h hp (neg_lt hq) hq
    refine ⟨this.ok, this.ext, this.lt, fun env he => (this.sem env he).trans ?_, this.room⟩
    rw [bv_neg]
    cases bv env G.nodes (pickR refs x.a) <;> cases bv env G.nodes (pickR refs x.b) <;> rfl
  · exact good_mux h hp hq hz
  · have := good_all h hl
    refine ⟨this.ok, this.ext, this.lt, fun env he => (this.sem env he).trans ?_, this.room⟩
    simp [Bool.and_assoc]
  · have := good_any h hl
    refine ⟨this.ok, this.ext, this.lt, fun env he => (this.sem env he).trans ?_, this.room⟩
    simp [Bool.or_assoc]
end Go.Proofs.Ytnajonchjlplmaa
namespace Go.Proofs.Ytnajonchjlplmaa
open Go.Aig
structure Bd where
  G : Gra
  refs : List Nat
  want : List Nat
def inNodes (k : Nat) : List Nd := ⟨1, 0, 0, 0⟩ :: List.replicate k ⟨2, 0, 0, 0⟩
def bd0 (most k : Nat) : Bd := ⟨⟨most, inNodes k⟩, 0 :: (List.range k).map (fun i => 2 * (i + 1)), 0 :: inWords.take k⟩
def stepB (b : Bd) (x : Sm) : Bd := ⟨(stepRes b.G b.refs x).1, b.refs ++ [(stepRes b.G b.refs x).2.1], b.want ++ [stepW b.want x]⟩
def builtB (most : Nat) (l : List Sm) : Bd := l.foldl stepB (bd0 most 4)
/-- the bits of the inputs, for the assignment j -/
def envOf (j k : Nat) : Bool := (inWords.getD k 0).testBit j
structure BOk (b : Bd) : Prop where
  ok : Ok b.G
  len : b.refs.length = b.want.length
  pos : 0 < b.refs.length
  refs : ∀ r ∈ b.refs, r < 2 * b.G.nodes.length
  words : ∀ x ∈ b.want, x < 65536
  sem : ∀ j, j < 16 → ∀ (i r x : Nat), b.refs[i]? = some r → b.want[i]? = some x → x.testBit j = bv (envOf j) b.G.nodes r
  ins : ∀ env, (nv env b.G.nodes).2 = 4
theorem inNodes_len (k : Nat) : (inNodes k).length = k + 1 := by simp [inNodes]
theorem doInput_in {most k : Nat} (h : k + 1 < most) : doInput ⟨most, inNodes k⟩ = (⟨most, inNodes (k + 1)⟩, 2 * (k + 1), 0) := by
  unfold doInput put
  rw [if_neg (by simp [inNodes_len]; omega)]
  simp [inNodes, List.replicate_succ']
theorem nv_count (env : Nat → Bool) : ∀ (ms ns : List Nd), (nv env (ns ++ ms)).2 = (nv env ns).2 + (ms.filter fun x => x.k == 2).length
  | [], ns => by simp
  | x :: ms, ns => by
    rw [List.append_cons, nv_count env ms (ns ++ [x]), nv_snoc]
    unfold nvStep
    by_cases h3 : x.k = 3
    · simp [h3]
    · by_cases h2 : x.k = 2
      · simp [h2]; omega
      · simp [h3, h2]
/-- what the ands make holds no input -/
theorem and_noin {G : Gra} {a b : Nat} : ∃ more, (Aig.and G a b).1.nodes = G.nodes ++ more ∧ ∀ x ∈ more, x.k = 3 := by
  unfold Aig.and put
  (repeat' split)
  · exact ⟨[], by simp, by simp⟩
  · exact ⟨[], by simp, by simp⟩
  · exact ⟨[], by simp, by simp⟩
  · exact ⟨_, rfl, fun x hx => by simp at hx; subst hx; rfl⟩
def NoIn (G G' : Gra) : Prop := ∃ more, G'.nodes = G.nodes ++ more ∧ ∀ x ∈ more, x.k = 3
theorem NoIn.refl (G : Gra) : NoIn G G := ⟨[], by simp, by simp⟩
theorem NoIn.trans {a b c : Gra} (h : NoIn a b) (h' : NoIn b c) : NoIn a c := by
  obtain ⟨m, e, h1⟩ := h
  obtain ⟨m', e', h2⟩ := h'
  exact ⟨m ++ m', by rw [e', e, List.append_assoc], fun x hx => (List.mem_append.1 hx).elim (h1 x) (h2 x)⟩
theorem mand_noin (s : Mk) (a b : Nat) : NoIn s.1 (mand s a b).1.1 := by
  unfold mand
  split
  · exact .refl _
  · exact and_noin
theorem mall_noin : ∀ (l : List Nat) (s : Mk) (out : Nat), NoIn s.1 (mall s out l).1.1
  | [], _, _ => .refl _
  | r :: l, s, out => (mand_noin s out r).trans (mall_noin l _ _)
theorem stepMk_noin (refs : List Nat) (x : Sm) (G : Gra) : NoIn G (stepMk refs x (G, 0)).1.1 := by
  unfold stepMk
  (repeat' split)
  · exact mand_noin _ _ _
  · exact mand_noin _ _ _
  · exact ((mand_noin _ _ _).trans (mand_noin _ _ _)).trans (mand_noin _ _ _)
  · exact ((mand_noin _ _ _).trans (mand_noin _ _ _)).trans (mand_noin _ _ _)
  · exact mall_noin _ _ _
  · exact mall_noin _ _ _
theorem whole_noin {G : Gra} {l : List Int} {f : Mk → Mk × Nat} (h : NoIn G (f (G, 0)).1.1) : NoIn G (whole G l f).1 := by
  unfold whole
  split
  · exact .refl _
  · dsimp only
    split
    · exact .refl _
    · exact h
theorem stepRes_noin (G : Gra) (refs : List Nat) (x : Sm) : NoIn G (stepRes G refs x).1 := by
  rw [stepRes_eq]
  exact whole_noin (stepMk_noin refs x G)
theorem NoIn.count {G G' : Gra} (h : NoIn G G') (env : Nat → Bool) : (nv env G'.nodes).2 = (nv env G.nodes).2 := by
  obtain ⟨more, e, hm⟩ := h
  rw [e, nv_count]
  have : more.filter (fun x => x.k == 2) = [] := by
    rw [List.filter_eq_nil_iff]
    intro x hx
    simp [hm x hx]
  simp [this]
theorem pickR_sem {b : Bd} (h : BOk b) (j : Nat) (hj : j < 16) (n : Nat) : (pickW b.want n).testBit j = bv (envOf j) b.G.nodes (pickR b.refs n) := by
  have hi := pickI_lt h.pos n
  have g1 : b.refs[pickI b.refs.length n]? = some b.refs[pickI b.refs.length n] := List.getElem?_eq_getElem hi
  have hi2 : pickI b.refs.length n < b.want.length := by rw [← h.len]; exact hi
  have g2 : b.want[pickI b.refs.length n]? = some b.want[pickI b.refs.length n] := List.getElem?_eq_getElem hi2
  have hs := h.sem j hj _ _ _ g1 g2
  have e1 : b.refs.getD (pickI b.refs.length n) 0 = b.refs[pickI b.refs.length n] := by rw [List.getD_eq_getElem?_getD, g1]; rfl
  have e2 : b.want.getD (pickI b.want.length n) 0 = b.want[pickI b.refs.length n] := by rw [← h.len, List.getD_eq_getElem?_getD, g2]; rfl
  unfold pickW pickR
  rw [e1, e2]
  split
  · rw [Nat.testBit_xor, hs, bv_neg, show (65535 : Nat) = 2 ^ 16 - 1 from rfl, Nat.testBit_two_pow_sub_one]
    simp [hj]
  · exact hs
theorem stepW_sem {b : Bd} (h : BOk b) (j : Nat) (hj : j < 16) (x : Sm) :
    (stepW b.want x).testBit j = stepV (bv (envOf j) b.G.nodes (pickR b.refs x.a)) (bv (envOf j) b.G.nodes (pickR b.refs x.b)) (bv (envOf j) b.G.nodes (pickR b.refs x.c)) x.k := by
  have hu := pickR_sem h j hj x.a
  have hv := pickR_sem h j hj x.b
  have hw := pickR_sem h j hj x.c
  have hm : Nat.testBit 65535 j = true := by rw [show (65535 : Nat) = 2 ^ 16 - 1 from rfl, Nat.testBit_two_pow_sub_one]; simp [hj]
  unfold stepW stepV
  rcases (show x.k % 6 = 0 ∨ x.k % 6 = 1 ∨ x.k % 6 = 2 ∨ x.k % 6 = 3 ∨ x.k % 6 = 4 ∨ x.k % 6 = 5 by omega) with e | e | e | e | e | e <;> simp (decide := true) only [e, if_true, if_false, Nat.testBit_and, Nat.testBit_or, Nat.testBit_xor, hu, hv, hw, hm, Bool.xor_true]
/-- a step where there is room -/
theorem stepB_ok {b : Bd} (h : BOk b) (x : Sm) (hr : b.G.nodes.length + 3 ≤ b.G.most) :
    (stepRes b.G b.refs x).2.2 = 0 ∧ BOk (stepB b x) ∧ Ext b.G (stepB b x).G ∧ (stepB b x).G.nodes.length ≤ b.G.nodes.length + 3 := by
  have hg := stepMk_good h.ok h.refs h.pos x
  have ha : ∀ r ∈ stepArgs b.refs x, r < 2 * b.G.nodes.length := fun r hr => by
    unfold stepArgs at hr
    split at hr <;> simp at hr
    · rcases hr with rfl | rfl <;> exact pickR_lt h.refs h.pos _
    · rcases hr with rfl | rfl | rfl <;> exact pickR_lt h.refs h.pos _
  obtain ⟨h1, h2, h3, h4, h5⟩ := whole_good ha hg h.ok
  rw [← stepRes_eq] at h1 h2 h3 h4 h5
  obtain ⟨h6, h7⟩ := h5 hr
  refine ⟨h6, ⟨h1, by simp [stepB, h.len], by simp [stepB], fun r hr => ?_, fun y hy => ?_, fun j hj i r y hi hy => ?_, fun env => ?_⟩, h2, h7⟩
  · simp only [stepB, List.mem_append, List.mem_singleton] at hr
    rcases hr with hr | rfl
    · exact h2.lt (h.refs r hr)
    · exact h3
  · simp only [stepB, List.mem_append, List.mem_singleton] at hy
    rcases hy with hy | rfl
    · exact h.words y hy
    · exact stepW_lt h.words x
  · simp only [stepB] at hi hy ⊢
    by_cases hlt : i < b.refs.length
    · rw [List.getElem?_append_left hlt] at hi
      rw [List.getElem?_append_left (by rw [← h.len]; exact hlt)] at hy
      rw [bv_of (envOf j) h2 (h.refs r (List.mem_of_getElem? hi))]
      exact h.sem j hj i r y hi hy
    · have hi' := (List.getElem?_eq_some_iff.1 hi).1
      simp at hi'
      have e : i = b.refs.length := by omega
      subst e
      rw [List.getElem?_append_right (Nat.le_refl _)] at hi
      rw [List.getElem?_append_right (by rw [h.len]; exact Nat.le_refl _)] at hy
      simp [h.len] at hi hy
      subst hi; subst hy
      rw [stepW_sem h j hj x, h4 (envOf j) h6]
  · exact ((stepRes_noin b.G b.refs x).count env).trans (h.ins env)
theorem bd0_ok {most : Nat} (h5 : 5 ≤ most) (hm : most ≤ 65536) : BOk (bd0 most 4) := by
  have hin : (bd0 most 4).G.nodes = [⟨1, 0, 0, 0⟩, ⟨2, 0, 0, 0⟩, ⟨2, 0, 0, 0⟩, ⟨2, 0, 0, 0⟩, ⟨2, 0, 0, 0⟩] := rfl
  have hw : WF (bd0 most 4).G.nodes := by
    have h1 := (newG_ok (n := 1) (by omega) (by omega)).wf
    exact (((h1.input).input).input).input
  refine ⟨⟨hw, by rw [hin]; simpa [bd0] using h5, hm⟩, rfl, by simp [bd0], ?_, ?_, ?_, fun env => rfl⟩
  · rw [hin]; intro r hr; simp [bd0, List.range, List.range.loop] at hr ⊢; omega
  · intro x hx; simp [bd0, inWords] at hx; omega
  · intro j hj i r x hi hx
    rcases i with _ | _ | _ | _ | _ | i <;> simp [bd0, List.range, List.range.loop, inWords] at hi hx
    all_goals subst hi; subst hx; simp [hin, bv, rv, nv, nvStep, envOf, inWords]
theorem run_ok : ∀ (l : List Sm) {b : Bd}, BOk b → b.G.nodes.length + 3 * l.length ≤ b.G.most → BOk (l.foldl stepB b) ∧ Ext b.G (l.foldl stepB b).G ∧ (l.foldl stepB b).G.nodes.length ≤ b.G.nodes.length + 3 * l.length ∧ (l.foldl stepB b).refs.length = b.refs.length + l.length
  | [], b, h, _ => ⟨h, .refl _, by simp, by simp⟩
  | x :: l, b, h, hr => by
    simp only [List.length_cons] at hr ⊢
    obtain ⟨_, h1, h2, h3⟩ := stepB_ok h x (by omega)
    obtain ⟨h4, h5, h6, h7⟩ := run_ok l h1 (by have : (stepB b x).G.most = b.G.most := h2.most; omega)
    refine ⟨h4, h2.trans h5, by simp only [List.foldl_cons]; omega, ?_⟩
    simp only [List.foldl_cons]
    rw [h7]
    simp [stepB]; omega
end Go.Proofs.Ytnajonchjlplmaa
namespace Go.Ord
section
variable {P : Program} {l : List Oper} {ks : List Kd} {A : List Nat} {C : World → Prop} {Q : Act → World → Prop}
/-- the look at one of the effects that may come up -/
def chkB (ops : Array Oper) (ks : List Kd) (R R' : List Nat) (i : Nat) : Bool := R.contains i && readyIn ops R i && decide (R.erase i = R') && decide (kd ks i = .ef)
theorem chkB_spec {ops : Array Oper} {R R' : List Nat} {i : Nat} (h : chkB ops ks R R' i = true) : i ∈ R ∧ readyIn ops R i = true ∧ R.erase i = R' ∧ kd ks i = .ef := by
  simp only [chkB, Bool.and_eq_true, decide_eq_true_eq] at h
  exact ⟨by simpa using h.1.1.1, h.1.1.2, h.1.2, h.2⟩
theorem ef_op {R R' : List Nat} {a : Act} {w : World} (i : Nat) (o : Oper) (hil : l[i]? = some o) (hchk : chkB l.toArray ks R R' i = true)
    (h : ∀ K : Act → World → Prop, (∀ a w, C w → St P l ks A C Q R' a w → K a w) → wpList P l.toArray (only K) [o] a w) (hn : R.Nodup) (hu : Up l.toArray R) (hlt : ∀ k ∈ R, k < l.toArray.size) (hs : Stat l.toArray ks A) :
    wpOp P l.toArray (only Q) i (fun a' w' => post ks A l.toArray.size C i w w' ∧ allOrd l.toArray (wpOp P l.toArray (only Q)) ks A C Q (R.length - 1) (R.erase i) a' w') a w := by
  have hi : l.toArray[i]? = some o := by simpa using hil
  have ⟨hm, hri, hR, hk⟩ := chkB_spec hchk
  have h1 := h (fun a w => C w ∧ St P l ks A C Q R' a w) (fun _ _ hc hh => ⟨hc, hh⟩)
  unfold wpOp
  simp only [hi]
  unfold wpList at h1
  have key : ∀ a' w', (wpList P l.toArray (only (fun a w => C w ∧ St P l ks A C Q R' a w)) [] a' w') → post ks A l.toArray.size C i w w' ∧ allOrd l.toArray (wpOp P l.toArray (only Q)) ks A C Q (R.length - 1) (R.erase i) a' w' := by
    intro a' w' hh
    refine ⟨?_, ?_⟩
    · unfold post; rw [if_pos hk]; intro _; exact hh.2.1
    subst hR
    have := hh.2.2 (hn.erase _) (hu.erase hn hri) (fun k hk => hlt k (List.mem_of_mem_erase hk)) hs
    rwa [List.length_erase_of_mem hm] at this
  split
  · rename_i hw
    rw [if_pos hw] at h1
    have h1 := h1.resolve_right fun hh => only_lets _ hh.2
    left
    have h2 := Oper.wp_mono (K' := fun a' w' => post ks A l.toArray.size C i w w' ∧ allOrd l.toArray (wpOp P l.toArray (only Q)) ks A C Q (R.length - 1) (R.erase i) a' w') key h1
    unfold Oper.wp at h2 ⊢
    generalize (execOp a.eval o).run P w = r at h2 ⊢
    cases r with
    | ok n w' =>
      cases n <;> simp only [Oper.upon] at h2 ⊢
      case value u => exact h2
      case skip => exact h2
      case defer d => exact h2
      case enter f args =>
        refine Calls.mono h2 fun e w'' he => ?_
        cases e with
        | returned u => exact he
        | panicked c => cases he.1
        | outgrown => exact (only_lets _ he).elim
      case row row args => exact h2
    | halt x w' =>
      cases x <;> simp only [Oper.upon] at h2 ⊢
      case panic u => cases h2.1
  · rename_i hw
    rw [if_neg hw] at h1
    exact key _ _ h1
def chkR (ops : Array Oper) (R rs : List Nat) : Bool := decide (R.filter (readyIn ops R) = rs)
/-- two effects may come up now: each of them first -/
theorem St.two {R : List Nat} {a : Act} {w : World} (i j : Nat) (Ri Rj : List Nat) (oi oj : Oper) (hir : chkR l.toArray R [i, j] = true) (hil : l[i]? = some oi) (hjl : l[j]? = some oj) (hci : chkB l.toArray ks R Ri i = true) (hcj : chkB l.toArray ks R Rj j = true)
    (h1 : ∀ K : Act → World → Prop, (∀ a w, C w → St P l ks A C Q Ri a w → K a w) → wpList P l.toArray (only K) [oi] a w)
    (h2 : ∀ K : Act → World → Prop, (∀ a w, C w → St P l ks A C Q Rj a w → K a w) → wpList P l.toArray (only K) [oj] a w) : St P l ks A C Q R a w := by
  intro hn hu hlt hs
  have hm : i ∈ R := (chkB_spec hci).1
  have hlen : R.length = R.length - 1 + 1 := by have := List.length_pos_of_mem hm; omega
  rw [hlen]
  refine branch (rs := [i, j]) (by unfold chkR at hir; simpa using hir) fun k hk => ?_
  simp only [List.mem_cons, List.not_mem_nil, or_false] at hk
  rcases hk with rfl | rfl
  · exact ef_op _ oi hil hci h1 hn hu hlt hs
  · exact ef_op _ oj hjl hcj h2 hn hu hlt hs
/-- the world behind a new block under a name -/
theorem St.alw {R : List Nat} {a : Act} {w : World} {o : Obj} (h : ∀ W, W = w.alloc o → St P l ks A C Q R a W) : St P l ks A C Q R a (w.alloc o) := h _ rfl
end
end Go.Ord
namespace Go.Proofs.Ytnajonchjlplmaa
open Go.RowKit Go.Mem Go.Aig
theorem _root_.Go.Mem.blk.of_heap {w w' : World} {b : Nat} {xs : List Value} (h : blk w b xs) (e : w'.heap[b]? = w.heap[b]?) : blk w' b xs := by
  obtain ⟨T, h⟩ := h
  exact ⟨T, e.trans h⟩
theorem min_nat (n k m : Nat) (h : min n k = m) (ats : Array TypeId) (ty : TypeId) : Builtin.min_ ats ty #[.int .i64 (n : Int), .int .i64 (k : Int)] = pure (.int .i64 (m : Int)) := by
  have e : (if (k : Int) < n then (k : Int) else n) = m := by split <;> omega
  rw [← e]
  simp [Builtin.min_, Builtin.min2]
theorem alw_ch {W w : World} {o : Obj} (h : W = w.alloc o) : Ch [] w W := h ▸ (Ch.refl _ _).alloc _
theorem alw_blk {W w : World} {xs : List Value} {T : TypeId} (h : W = w.alloc (.cells xs.toArray T)) : blk W w.heap.size xs := h ▸ blk.new' _ _ rfl
theorem infoWord : (Try.prog.info? 35).map (fun i => (i.zero, i.size, i.bytes)) = some (some (.int .u64 0), 1, 8) := by kernel_rfl
theorem slWords : SliceTy Try.prog 26 35 1 8 (.int .u64 0) := ⟨Try.underlying26, infoWord, rfl, by decide⟩
/-- a slice of small ones -/
structure SmS (w : World) (a : Option Addr) (n cap : Nat) (l : List Sm) : Prop where
  len : l.length = n
  le : n ≤ cap
  max : cap ≤ 9223372036854775807
  cells : ∀ (i : Nat) (x : Sm), l[i]? = some x → ∃ b o, a = some ⟨b, o, none⟩ ∧ w.cell? ⟨b, o + i * 4, none⟩ = some (.int .u8 x.k) ∧ w.cell? ⟨b, o + i * 4 + 1, none⟩ = some (.int .u8 x.a) ∧ w.cell? ⟨b, o + i * 4 + 2, none⟩ = some (.int .u8 x.b) ∧ w.cell? ⟨b, o + i * 4 + 3, none⟩ = some (.int .u8 x.c)
  bd : ∀ x ∈ l, x.k ≤ 255 ∧ x.a ≤ 255 ∧ x.b ≤ 255 ∧ x.c ≤ 255
theorem SmS.ch {F : List Nat} {w w' : World} {a : Option Addr} {n cap : Nat} {l : List Sm} (h : SmS w a n cap l) (hc : Ch F w w') (hF : ∀ p, a = some p → p.block ∉ F) : SmS w' a n cap l :=
  ⟨h.len, h.le, h.max, fun i x hx => by
    obtain ⟨b, o, rfl, h0, h1, h2, h3⟩ := h.cells i x hx
    have hn := hF ⟨b, o, none⟩ rfl
    exact ⟨b, o, rfl, (hc.cell (cell_lt h0) hn).trans h0, (hc.cell (cell_lt h1) hn).trans h1, (hc.cell (cell_lt h2) hn).trans h2, (hc.cell (cell_lt h3) hn).trans h3⟩, h.bd⟩
/-- a built graph in memory -/
structure BM (w0 w : World) (g : Nat) (F : List Nat) (rv wv : Value) (b : Bd) : Prop where
  own : Own w0 w g b.G F
  rr : row w 33 1 rv b.refs.length (refsCells b.refs)
  ww : row w 35 1 wv b.want.length (u64s b.want)
  ro : ∀ k, rv.ownBlock = some k → w0.heap.size ≤ k ∧ k ∉ F
  wo : ∀ k, wv.ownBlock = some k → w0.heap.size ≤ k ∧ k ∉ F ∧ rv.ownBlock ≠ some k
theorem BM.lt {w0 w : World} {g : Nat} {F : List Nat} {rv wv : Value} {b : Bd} (h : BM w0 w g F rv wv b) : (∀ k, rv.ownBlock = some k → k < w.heap.size) ∧ (∀ k, wv.ownBlock = some k → k < w.heap.size) :=
  ⟨fun k hk => (h.rr.lt k hk).2, fun k hk => (h.ww.lt k hk).2⟩
theorem BM.same {w0 w w' : World} {g : Nat} {F : List Nat} {rv wv : Value} {b : Bd} (h : BM w0 w g F rv wv b) (hc : Ch [] w w') : BM w0 w' g F rv wv b :=
  ⟨h.own.same hc, h.rr.ch hc (by simp), h.ww.ch hc (by simp), h.ro, h.wo⟩
theorem BM.to {w0 w w' : World} {g : Nat} {F : List Nat} {rv wv : Value} {b : Bd} (h : BM w0 w g F rv wv b) {G' : Gra} (ht : GTo w g G' F w') : ∃ F', BM w0 w' g F' rv wv { b with G := G' } ∧ Ch F w w' ∧ ∀ k ∈ F', k ∈ F ∨ w.heap.size ≤ k := by
  obtain ⟨hl1, hl2⟩ := h.lt
  obtain ⟨F', h1, h2, h3⟩ := ht
  have hx : ∀ k, k < w.heap.size → k ∉ F → k ∉ F' := fun k hk hn hin => (h3 k hin).elim hn (by omega)
  refine ⟨F', ⟨⟨h1, fun k hk => (h3 k hk).elim (h.own.own k) (fun e => Nat.le_trans h.own.ch.size e), h.own.ch.trans h2 (fun k hk => .inr (h.own.own k hk))⟩, h.rr.ch h2 (fun k hk => (h.ro k hk).2), h.ww.ch h2 (fun k hk => (h.wo k hk).2.1), fun k hk => ⟨(h.ro k hk).1, hx k (hl1 k hk) (h.ro k hk).2⟩, fun k hk => ⟨(h.wo k hk).1, hx k (hl2 k hk) (h.wo k hk).2.1, (h.wo k hk).2.2⟩⟩, h2, h3⟩
/-- the same, and a variable that holds it -/
structure BB (K : List Nat) (w0 w : World) (tb g : Nat) (F : List Nat) (rv wv : Value) (b : Bd) : Prop where
  bm : BM w0 w g F rv wv b
  bk : blk w tb [.pointer (some ⟨g, 0, none⟩), rv, wv]
  lo : w0.heap.size ≤ tb
  tF : tb ∉ F
  tr : rv.ownBlock ≠ some tb
  tw : wv.ownBlock ≠ some tb
  kp : ∀ k ∈ K, k < w.heap.size ∧ k ∉ F ∧ k ≠ tb ∧ rv.ownBlock ≠ some k ∧ wv.ownBlock ≠ some k
theorem BB.same {K : List Nat} {w0 w w' : World} {tb g : Nat} {F : List Nat} {rv wv : Value} {b : Bd} (h : BB K w0 w tb g F rv wv b) (hc : Ch [] w w') : BB K w0 w' tb g F rv wv b :=
  ⟨h.bm.same hc, h.bk.ch hc (by simp), h.lo, h.tF, h.tr, h.tw, fun k hk => ⟨Nat.lt_of_lt_of_le (h.kp k hk).1 hc.size, (h.kp k hk).2⟩⟩
theorem BB.to {K : List Nat} {w0 w w' : World} {tb g : Nat} {F : List Nat} {rv wv : Value} {b : Bd} (h : BB K w0 w tb g F rv wv b) {G' : Gra} (ht : GTo w g G' F w') : ∃ F', BB K w0 w' tb g F' rv wv { b with G := G' } ∧ ∀ k ∈ K, w'.heap[k]? = w.heap[k]? := by
  have hlt := h.bk.lt
  obtain ⟨F', h1, h2, h3⟩ := h.bm.to ht
  exact ⟨F', ⟨h1, h.bk.ch h2 h.tF, h.lo, fun hin => (h3 tb hin).elim h.tF (by omega), h.tr, h.tw, fun k hk => by
    obtain ⟨k1, k2, k3⟩ := h.kp k hk
    exact ⟨Nat.lt_of_lt_of_le k1 h2.size, fun hin => (h3 k hin).elim k2 (by omega), k3⟩⟩, fun k hk => h2.block k (h.kp k hk).1 (h.kp k hk).2.1⟩
theorem setCell_two (w : World) (tb : Nat) (u v : Value) : Ch [tb] w ((w.setCell ⟨tb, 1, none⟩ u).setCell ⟨tb, 2, none⟩ v) := ((Ch.refl [tb] w).setCell (by simp) _).setCell (by simp) _
/-- both slices grow, and the variable is set -/
theorem BB.app {K : List Nat} {w0 W W1 W2 W3 W4 : World} {tb g : Nat} {F : List Nat} {rv wv rv' wv' : Value} {b : Bd} {r x : Nat} (h : BB K w0 W tb g F rv wv b)
    (c1 : Ch [] W W1) (r1 : row W2 33 1 rv' (b.refs.length + 1) (refsCells b.refs ++ [.int .i64 r])) (c2 : Ch rv.ownBlock.toList W1 W2) (f1 : ∀ k, rv'.ownBlock = some k → rv.ownBlock = some k ∨ W1.heap.size ≤ k)
    (c3 : Ch [] W2 W3) (r2 : row W4 35 1 wv' (b.want.length + 1) (u64s b.want ++ [.int .u64 x])) (c4 : Ch wv.ownBlock.toList W3 W4) (f2 : ∀ k, wv'.ownBlock = some k → wv.ownBlock = some k ∨ W3.heap.size ≤ k) :
    BB K w0 ((W4.setCell ⟨tb, 1, none⟩ rv').setCell ⟨tb, 2, none⟩ wv') tb g F rv' wv' ⟨b.G, b.refs ++ [r], b.want ++ [x]⟩ ∧ ∀ k ∈ K, ((W4.setCell ⟨tb, 1, none⟩ rv').setCell ⟨tb, 2, none⟩ wv').heap[k]? = W.heap[k]? := by
  obtain ⟨hl1, hl2⟩ := h.bm.lt
  have hlt := h.bk.lt
  have s1 := c1.size; have s2 := c2.size; have s3 := c3.size; have s4 := c4.size
  have s0 := h.bm.own.ch.size
  have hFlt := h.bm.own.gin.lt
  have hset := setCell_two W4 tb rv' wv'
  -- what lies where
  have hro : ∀ k, rv'.ownBlock = some k → w0.heap.size ≤ k ∧ k ∉ F ∧ k ≠ tb ∧ k < W2.heap.size ∧ wv.ownBlock ≠ some k := fun k hk => by
    have hk2 := (r1.lt k hk).2
    rcases f1 k hk with e | e
    · exact ⟨(h.bm.ro k e).1, (h.bm.ro k e).2, fun e2 => h.tr (e2 ▸ e), hk2, fun e2 => (h.bm.wo k e2).2.2 e⟩
    · exact ⟨by omega, fun hin => by have := hFlt k hin; omega, by omega, hk2, fun e2 => by have := hl2 k e2; omega⟩
  have hwo : ∀ k, wv'.ownBlock = some k → w0.heap.size ≤ k ∧ k ∉ F ∧ k ≠ tb ∧ rv'.ownBlock ≠ some k := fun k hk => by
    rcases f2 k hk with e | e
    · exact ⟨(h.bm.wo k e).1, (h.bm.wo k e).2.1, fun e2 => h.tw (e2 ▸ e), fun e2 => (hro k e2).2.2.2.2 e⟩
    · exact ⟨by omega, fun hin => by have := hFlt k hin; omega, by omega, fun e2 => by have := (hro k e2).2.2.2.1; omega⟩
  have hrF : ∀ k ∈ rv.ownBlock.toList, k ∉ F := fun k hk => (h.bm.ro k (by simpa using hk)).2
  have hwF : ∀ k ∈ wv.ownBlock.toList, k ∉ F := fun k hk => (h.bm.wo k (by simpa using hk)).2.1
  have call : Ch (rv.ownBlock.toList ++ wv.ownBlock.toList ++ [tb]) W ((W4.setCell ⟨tb, 1, none⟩ rv').setCell ⟨tb, 2, none⟩ wv') := by
    refine Ch.trans (F' := [tb]) (Ch.trans (F' := wv.ownBlock.toList) (Ch.trans (F' := []) (Ch.trans (F' := rv.ownBlock.toList) (c1.mono (F' := _) (by simp)) c2 (fun k hk => ?_)) c3 (by simp)) c4 (fun k hk => ?_)) hset (fun k hk => ?_)
    · left; simp [hk]
    · left; simp [hk]
    · left; simp at hk; simp [hk]
  have hkk : ∀ k ∈ K, k ∉ rv.ownBlock.toList ++ wv.ownBlock.toList ++ [tb] := fun k hk hin => by
    obtain ⟨k1, k2, k3, k4, k5⟩ := h.kp k hk
    simp only [List.mem_append, List.mem_singleton, Option.mem_toList] at hin
    rcases hin with (hin | hin) | hin
    · exact k4 hin
    · exact k5 hin
    · exact k3 hin
  refine ⟨?_, fun k hk => call.block k (h.kp k hk).1 (hkk k hk)⟩
  refine ⟨⟨⟨h.bm.own.gin.same call (fun k hk => ?_), h.bm.own.own, h.bm.own.ch.trans call (fun k hk => .inr ?_)⟩, ?_, ?_, fun k hk => ⟨(hro k hk).1, (hro k hk).2.1⟩, fun k hk => ⟨(hwo k hk).1, (hwo k hk).2.1, (hwo k hk).2.2.2⟩⟩, ?_, h.lo, h.tF, fun e => (hro tb e).2.2.1 rfl, fun e => (hwo tb e).2.2.1 rfl, fun k hk => ?_⟩
  rotate_right
  · obtain ⟨k1, k2, k3, k4, k5⟩ := h.kp k hk
    exact ⟨Nat.lt_of_lt_of_le k1 call.size, k2, k3, fun e => (f1 k e).elim k4 (by omega), fun e => (f2 k e).elim k5 (by omega)⟩
  · intro hin
    simp only [List.mem_append, List.mem_singleton] at hin
    rcases hin with (hin | hin) | hin
    · exact hrF k hin hk
    · exact hwF k hin hk
    · exact h.tF (hin ▸ hk)
  · simp only [List.mem_append, List.mem_singleton, Option.mem_toList] at hk
    rcases hk with (hk | hk) | hk
    · exact (h.bm.ro k hk).1
    · exact (h.bm.wo k hk).1
    · rw [hk]; exact h.lo
  · have := ((r1.ch c3 (by simp)).ch c4 (fun k hk hin => (hro k hk).2.2.2.2 (by simpa using hin))).ch hset (fun k hk => by simpa using (hro k hk).2.2.1)
    simpa [refsCells] using this
  · have := r2.ch hset (fun k hk => by simpa using (hwo k hk).2.2.1)
    simpa [u64s] using this
  · have hb4 : blk W4 tb [.pointer (some ⟨g, 0, none⟩), rv, wv] := (((h.bk.ch c1 (by simp)).ch c2 (by simpa using h.tr)).ch c3 (by simp)).ch c4 (by simpa using h.tw)
    exact (hb4.set (i := 1) rv').set (i := 2) wv'
theorem BB.told {K : List Nat} {w0 W : World} {tb g : Nat} {F : List Nat} {b : Bd} {ra wa : Option Addr} {n m rc wc : Nat} (h : BB K w0 W tb g F (.slice ra n rc) (.slice wa m wc) b) (hb : BOk b) (hn : b.refs.length = n) (hm : n ≤ 1000000) : Told W g b.G F ra wa n b.refs b.want := by
  obtain ⟨hl1, hl2⟩ := h.bm.lt
  refine ⟨h.bm.own.gin, row.sv h.bm.rr rfl (by omega), row.sv h.bm.ww rfl (by have := hb.len; omega), hn, by have := hb.len; omega, by have := hb.pos; omega, hm, fun p hp => ?_, fun p hp => ?_, hb.words, hb.refs⟩
  · subst hp; exact ⟨hl1 _ rfl, (h.bm.ro _ rfl).2⟩
  · subst hp; exact ⟨hl2 _ rfl, (h.bm.wo _ rfl).2.1⟩
theorem BB.new {w0 w1 : World} {g : Nat} {F : List Nat} {most : Nat} (ho : Own w0 w1 g (newG most) F) :
    BB [] w0 (((w1.alloc (.cells #[.int .i64 0] 33)).alloc (.cells #[.int .u64 0] 35)).alloc (.cells #[.pointer (some ⟨g, 0, none⟩), .slice (some ⟨w1.heap.size, 0, none⟩) 1 1, .slice (some ⟨w1.heap.size + 1, 0, none⟩) 1 1] 28)) (w1.heap.size + 1 + 1) g F
      (.slice (some ⟨w1.heap.size, 0, none⟩) 1 1) (.slice (some ⟨w1.heap.size + 1, 0, none⟩) 1 1) (bd0 most 0) := by
  have hc : Ch [] w1 (((w1.alloc (.cells #[.int .i64 0] 33)).alloc (.cells #[.int .u64 0] 35)).alloc (.cells #[.pointer (some ⟨g, 0, none⟩), .slice (some ⟨w1.heap.size, 0, none⟩) 1 1, .slice (some ⟨w1.heap.size + 1, 0, none⟩) 1 1] 28)) := (((Ch.refl _ _).alloc _).alloc _).alloc _
  have hlt := ho.gin.lt
  have hs := ho.ch.size
  have b1 := ((blk.new' (w := w1) (b := w1.heap.size) [.int .i64 0] 33 rfl).alloc (.cells #[.int .u64 0] 35)).alloc (.cells #[.pointer (some ⟨g, 0, none⟩), .slice (some ⟨w1.heap.size, 0, none⟩) 1 1, .slice (some ⟨w1.heap.size + 1, 0, none⟩) 1 1] 28)
  have k1 : (((w1.alloc (.cells #[.int .i64 0] 33)).alloc (.cells #[.int .u64 0] 35)).alloc (.cells #[.pointer (some ⟨g, 0, none⟩), .slice (some ⟨w1.heap.size, 0, none⟩) 1 1, .slice (some ⟨w1.heap.size + 1, 0, none⟩) 1 1] 28)).heap[w1.heap.size]? = some (.cells #[.int .i64 0] 33 (0, 0)) :=
    ((((Ch.refl [] (w1.alloc (.cells #[.int .i64 0] 33))).alloc _).alloc _).block _ (by simp) (by simp)).trans (heap_alloc_new w1 _)
  have k2 : (((w1.alloc (.cells #[.int .i64 0] 33)).alloc (.cells #[.int .u64 0] 35)).alloc (.cells #[.pointer (some ⟨g, 0, none⟩), .slice (some ⟨w1.heap.size, 0, none⟩) 1 1, .slice (some ⟨w1.heap.size + 1, 0, none⟩) 1 1] 28)).heap[w1.heap.size + 1]? = some (.cells #[.int .u64 0] 35 (0, 0)) :=
    (((Ch.refl [] ((w1.alloc (.cells #[.int .i64 0] 33)).alloc (.cells #[.int .u64 0] 35))).alloc _).block _ (by simp) (by simp)).trans (by have := heap_alloc_new (w1.alloc (.cells #[.int .i64 0] 33)) (.cells #[.int .u64 0] 35); simpa using this)
  refine ⟨⟨ho.same hc, ⟨rfl, .inr ⟨_, 1, _, rfl, Nat.zero_le _, k1, by simp [bd0], by unfold maxLen; omega, rfl, rfl⟩⟩, ⟨rfl, .inr ⟨_, 1, _, rfl, Nat.zero_le _, k2, by simp [bd0], by unfold maxLen; omega, rfl, rfl⟩⟩, ?_, ?_⟩, blk.new' _ _ (by simp), by omega, fun hin => by have := hlt _ hin; omega, by simp; omega, by simp, by simp⟩
  · intro k hk; simp at hk; subst hk; exact ⟨hs, fun hin => by have := hlt _ hin; omega⟩
  · intro k hk; simp at hk; subst hk; exact ⟨by omega, fun hin => by have := hlt _ hin; omega, by simp⟩
theorem BM.rebase {w wr wr' : World} {o : Obj} {g : Nat} {F : List Nat} {rv wv : Value} {b : Bd} (h : BM (w.alloc o) wr g F rv wv b) (hc : Ch [w.heap.size] wr wr') : BM w wr' g F rv wv b := by
  have hF : ∀ k ∈ F, k ∉ [w.heap.size] := fun k hk hin => by
    have := h.own.own k hk
    simp at hin this
    omega
  have hr : ∀ k, rv.ownBlock = some k → k ∉ [w.heap.size] := fun k hk hin => by
    have := (h.ro k hk).1
    simp at hin this
    omega
  have hw : ∀ k, wv.ownBlock = some k → k ∉ [w.heap.size] := fun k hk hin => by
    have := (h.wo k hk).1
    simp at hin this
    omega
  have lo : ∀ k, (w.alloc o).heap.size ≤ k → w.heap.size ≤ k := fun k hk => by simp at hk; omega
  exact ⟨⟨h.own.gin.same hc hF, fun k hk => lo k (h.own.own k hk), (((Ch.refl [] w).alloc o).trans h.own.ch (by simp)).trans hc (fun k hk => .inr (by simp at hk; omega))⟩, h.rr.ch hc hr, h.ww.ch hc hw, fun k hk => ⟨lo k (h.ro k hk).1, (h.ro k hk).2⟩, fun k hk => ⟨lo k (h.wo k hk).1, (h.wo k hk).2⟩⟩
theorem BB.freshR {K : List Nat} {w0 w : World} {tb g : Nat} {F : List Nat} {rv wv : Value} {b : Bd} (h : BB K w0 w tb g F rv wv b) : rv.ownBlock ≠ some w.heap.size := fun e => by have := h.bm.lt.1 _ e; omega
theorem BB.keep {w0 w : World} {tb g : Nat} {F : List Nat} {rv wv : Value} {b : Bd} (h : BB [] w0 w tb g F rv wv b) (o : Obj) : BB [w.heap.size] w0 (w.alloc o) tb g F rv wv b := by
  obtain ⟨hl1, hl2⟩ := h.bm.lt
  have h2 := h.same ((Ch.refl [] w).alloc o)
  refine ⟨h2.bm, h2.bk, h2.lo, h2.tF, h2.tr, h2.tw, fun k hk => ?_⟩
  simp at hk
  subst hk
  exact ⟨by simp, fun hin => by have := h.bm.own.gin.lt _ hin; omega, fun e => by have := h.bk.lt; omega, fun e => by have := hl1 _ e; omega, fun e => by have := hl2 _ e; omega⟩
theorem BB.drop {K : List Nat} {w0 w : World} {tb g : Nat} {F : List Nat} {rv wv : Value} {b : Bd} (h : BB K w0 w tb g F rv wv b) : BB [] w0 w tb g F rv wv b := ⟨h.bm, h.bk, h.lo, h.tF, h.tr, h.tw, by simp⟩
end Go.Proofs.Ytnajonchjlplmaa
namespace Go.Proofs.Ytnajonchjlplmaa
open Go.ChangeShapes Go.WideShapes Go.ChangeAt Go.RowKit Go.Mem Go.Aig Go.Deep
theorem own : ownKnob Try.prog.godebug = none := by kernel_rfl
theorem laidOut : laidOutB Try.prog = true := by kernel_rfl
theorem list_of {α : Type} (P : Nat → α → Prop) : ∀ (n : Nat), (∀ i, i < n → ∃ x, P i x) → ∃ l : List α, l.length = n ∧ ∀ i x, l[i]? = some x → P i x
  | 0, _ => ⟨[], rfl, by simp⟩
  | n + 1, h => by
    obtain ⟨l, hl, hp⟩ := list_of P n (fun i hi => h i (by omega))
    obtain ⟨x, hx⟩ := h n (by omega)
    refine ⟨l ++ [x], by simp [hl], fun i y hy => ?_⟩
    by_cases hi : i < n
    · rw [List.getElem?_append_left (by omega)] at hy; exact hp i y hy
    · have hlt := (List.getElem?_eq_some_iff.1 hy).1
      simp at hlt
      have : i = n := by omega
      subst this
      rw [List.getElem?_append_right (by omega)] at hy
      simp [hl] at hy
      subst hy; exact hx
section
variable {H : Type} {enc : TypeId × Value → H} {W : World}
theorem wf_u8 {n : Int} (h : (Lit.int .u8 n).wf = true) : ∃ m : Nat, n = m ∧ m ≤ 255 := by
  have : 0 ≤ n ∧ n ≤ 255 := by simpa [Lit.wf, IntKind.min, IntKind.max, IntKind.signed, IntKind.bits] using h
  exact ⟨n.toNat, by omega, by omega⟩
set_option maxRecDepth 100000 in
theorem small_open {a : Option Addr} {len cap : Nat} {d : DataW H} {p : List MemPlace} (h : DataW.Trod enc Try.prog W 0 (fun _ => true) true 22 (.slice a len cap) d p) : ∃ l, SmS W a len cap l := by
  obtain ⟨fuel, hf⟩ := h
  rcases open_slice Try.underlying22 hf with ⟨hcs, _⟩ | ⟨x, l, c, m, n, D, Pl, hcs, _, hl, hm, hmm, _, hi⟩
  · simp [Value.cells] at hcs
    obtain ⟨rfl, rfl, rfl⟩ := hcs
    exact ⟨[], rfl, by omega, by omega, by simp, by simp⟩
  · simp [Value.cells] at hcs
    obtain ⟨rfl, rfl, rfl⟩ := hcs
    have hC : Try.prog.cellsOf 48 = 4 := by kernel_rfl
    have hspot : 0 < len → x.spot = none := fun h0 => by
      obtain ⟨cs', hc, _⟩ := hi 0 (by rw [hmm]; simp; omega)
      rw [hC] at hc
      obtain ⟨_, hcl, hat⟩ := World.cells?_some hc
      have e0 := hat 0 (by omega)
      rw [List.getElem?_eq_getElem (by omega)] at e0
      simpa [Addr.add] using World.cell?_spot e0
    have key : ∀ i, i < len → ∃ s : Sm, (∃ b o, (some x : Option Addr) = some ⟨b, o, none⟩ ∧ W.cell? ⟨b, o + i * 4, none⟩ = some (.int .u8 s.k) ∧ W.cell? ⟨b, o + i * 4 + 1, none⟩ = some (.int .u8 s.a) ∧ W.cell? ⟨b, o + i * 4 + 2, none⟩ = some (.int .u8 s.b) ∧ W.cell? ⟨b, o + i * 4 + 3, none⟩ = some (.int .u8 s.c)) ∧ s.k ≤ 255 ∧ s.a ≤ 255 ∧ s.b ≤ 255 ∧ s.c ≤ 255 := by
      intro i hlt
      obtain ⟨cs', hc, ht⟩ := hi i (by rw [hmm]; simp; omega)
      rw [hC] at hc
      obtain ⟨ys, n', _, _, hlen, _, hfd⟩ := DataW.trod_struct Try.underlying48 ht
      obtain ⟨_, hcl, hat⟩ := World.cells?_some hc
      match cs', hcl with
      | [c0, c1, c2, c3], _ =>
        have f0 := hfd 0 _ rfl
        have f1 := hfd 1 _ rfl
        have f2 := hfd 2 _ rfl
        have f3 := hfd 3 _ rfl
        have hu : Try.prog.cellsOf 5 = 1 := by kernel_rfl
        simp only [List.getElem_toArray, List.getElem_cons_zero, List.getElem_cons_succ, hu, List.drop_zero, List.drop_succ_cons, List.take_succ_cons, List.take_zero] at f0 f1 f2 f3
        have g : ∀ {j : Nat} {c : Value}, DataW.trod enc Try.prog W 0 (fun _ => true) true n' 5 [c] = ys[j]? → j < 4 → ∃ z : Nat, c = .int .u8 z ∧ z ≤ 255 := by
          intro j c hq hj
          have hys : ys.length = 4 := by have := ‹ys.length = _›; simpa using this
          rw [List.getElem?_eq_getElem (by omega)] at hq
          obtain ⟨z, hz, _, hw⟩ := DataW.trod_int Try.underlying5 hq
          obtain ⟨k, rfl, hk⟩ := wf_u8 hw
          simp at hz
          exact ⟨k, hz, hk⟩
        obtain ⟨z0, rfl, b0⟩ := g f0 (by omega)
        obtain ⟨z1, rfl, b1⟩ := g f1 (by omega)
        obtain ⟨z2, rfl, b2⟩ := g f2 (by omega)
        obtain ⟨z3, rfl, b3⟩ := g f3 (by omega)
        have e0 := hat 0 (by omega)
        have e1 := hat 1 (by omega)
        have e2 := hat 2 (by omega)
        have e3 := hat 3 (by omega)
        simp at e0 e1 e2 e3
        obtain ⟨b, o, spot⟩ := x
        have hsp : spot = none := hspot (by omega)
        subst hsp
        simp only [Addr.add_lit] at e0 e1 e2 e3
        exact ⟨⟨z0, z1, z2, z3⟩, ⟨b, o, rfl, by simpa using e0, by simpa using e1, by simpa using e2, by simpa using e3⟩, b0, b1, b2, b3⟩
    obtain ⟨ll, hll, hp⟩ := list_of _ len key
    refine ⟨ll, hll, hl, by unfold maxLen at hm; exact hm, fun i s hs => (hp i s hs).1, fun s hs => ?_⟩
    obtain ⟨i, hi2⟩ := List.mem_iff_getElem?.1 hs
    exact (hp i s hi2).2
end
end Go.Proofs.Ytnajonchjlplmaa
