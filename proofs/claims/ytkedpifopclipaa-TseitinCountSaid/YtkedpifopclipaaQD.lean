/-
  The models of the formula of a graph and of roots are counted by assignments of the inputs of the cone. No program in sight. Conditions: a graph that is right, roots of it.
  Walk over tseitin's Inputs. Conditions: a graph in memory, a map of any numbers and values that can be read.
  Plain facts of TseitinWrong: maps that are not of a graph; Clone of maps and of clauses, make of truths. Conditions: slices that can be read.
  Walk over formula.Copy. Conditions: a formula in memory, its clauses not too long.
  Walk over law 27's assignments: all values of at most six inputs. Conditions: a number up to six.
  Walk over the iterator of formula.Models: it yields the models, in order. Conditions: a formula in memory, right, of at most sixteen variables.
  Walks over formula.Models and formula.Count. Conditions: a formula in memory, right, of at most sixteen variables.
  Walks over slices.Index and slices.Contains of truths, whatever they hold. Conditions: a slice that can be read.
  Walk over law 27's all. Conditions: a graph in memory, any references, any truths.
  Plainly: what Model and all return for values of all inputs. No program in sight. Conditions: a graph that is right, roots of it.
  Plainly: what TseitinCount asks of each model. No program in sight. Conditions: a graph that is right, roots of it.
  Walk over TseitinCount: true, whatever comes in. Conditions: a slice of nodes of any integers, a slice of bytes.
-/
import Derived.Test.YtkedpifopclipaaQC
namespace Go.Aig
/-- numbers in order, by a map into numbers: not more than there -/
theorem sub_len {l l' : List Nat} (h : l.Pairwise (fun a b => a ≠ b)) (hs : ∀ x ∈ l, x ∈ l') : l.length ≤ l'.length := by
  induction l generalizing l' with
  | nil => simp
  | cons a l ih =>
    have ha := hs a (List.mem_cons_self ..)
    rw [List.pairwise_cons] at h
    have h2 : ∀ x ∈ l, x ∈ l'.erase a := fun x hx => (List.mem_erase_of_ne (fun e => h.1 x hx e.symm)).2 (hs x (List.mem_cons_of_mem _ hx))
    have h3 := ih h.2 h2
    have h4 := List.length_erase_of_mem ha
    have h5 := List.length_pos_of_mem ha
    simp only [List.length_cons]
    omega
theorem cntR_le {N M : Nat} {P Q : Nat → Bool} (f : Nat → Nat) (h : ∀ a, a < N → P a = true → f a < M ∧ Q (f a) = true) (hi : ∀ a b, a < N → b < N → P a = true → P b = true → f a = f b → a = b) :
    ((List.range N).filter P).length ≤ ((List.range M).filter Q).length := by
  have hp : (((List.range N).filter P).map f).Pairwise (fun a b => a ≠ b) := by
    rw [List.pairwise_map]
    have h1 : ((List.range N).filter P).Pairwise (fun a b => a < b) := List.Pairwise.filter _ List.pairwise_lt_range
    refine List.Pairwise.imp_of_mem ?_ h1
    intro a b ha hb hlt e
    rw [List.mem_filter, List.mem_range] at ha hb
    have := hi a b ha.1 hb.1 ha.2 hb.2 e
    omega
  have := sub_len hp (l' := (List.range M).filter Q) (fun x hx => by
    obtain ⟨a, ha, rfl⟩ := List.mem_map.1 hx
    rw [List.mem_filter, List.mem_range] at ha ⊢
    exact h a ha.1 ha.2)
  rwa [List.length_map] at this
/-- the model with a number: its first value is the highest bit -/
def patH (n way : Nat) : List Bool := (List.range n).map fun v => way.testBit (n - 1 - v)
/-- the assignment with a number: its first value is the lowest bit -/
def patL (n way : Nat) : List Bool := (List.range n).map fun v => way.testBit v
theorem patH_len (n way : Nat) : (patH n way).length = n := by simp [patH]
theorem patL_len (n way : Nat) : (patL n way).length = n := by simp [patL]
theorem patL_at {n way i : Nat} (h : i < n) : (patL n way).getD i false = way.testBit i := by
  unfold patL
  rw [List.getD_eq_getElem?_getD, List.getElem?_map, List.getElem?_range h]; rfl
theorem patH_at {n way i : Nat} (h : i < n) : (patH n way).getD i false = way.testBit (n - 1 - i) := by
  unfold patH
  rw [List.getD_eq_getElem?_getD, List.getElem?_map, List.getElem?_range h]; rfl
theorem patL_inj {n a b : Nat} (ha : a < 2 ^ n) (hb : b < 2 ^ n) (h : patL n a = patL n b) : a = b := by
  apply Nat.eq_of_testBit_eq
  intro i
  by_cases hi : i < n
  · rw [← patL_at hi, ← patL_at hi, h]
  · rw [Nat.testBit_lt_two_pow (Nat.lt_of_lt_of_le ha (Nat.pow_le_pow_right (by omega) (by omega))), Nat.testBit_lt_two_pow (Nat.lt_of_lt_of_le hb (Nat.pow_le_pow_right (by omega) (by omega)))]
theorem patH_inj {n a b : Nat} (ha : a < 2 ^ n) (hb : b < 2 ^ n) (h : patH n a = patH n b) : a = b := by
  apply Nat.eq_of_testBit_eq
  intro i
  by_cases hi : i < n
  · have e := congrArg (fun l => l.getD (n - 1 - i) false) h
    rw [patH_at (by omega), patH_at (by omega), show n - 1 - (n - 1 - i) = i by omega] at e
    exact e
  · rw [Nat.testBit_lt_two_pow (Nat.lt_of_lt_of_le ha (Nat.pow_le_pow_right (by omega) (by omega))), Nat.testBit_lt_two_pow (Nat.lt_of_lt_of_le hb (Nat.pow_le_pow_right (by omega) (by omega)))]
theorem patL_val (l : List Bool) : patL l.length (bitsVal l) = l := by
  apply List.ext_getElem? 
  intro i
  unfold patL
  rw [List.getElem?_map]
  by_cases h : i < l.length
  · rw [List.getElem?_range h, Option.map_some, bitsVal_bit, List.getD_eq_getElem?_getD, List.getElem?_eq_getElem h]
    rfl
  · rw [List.getElem?_eq_none (by simpa using h), List.getElem?_eq_none (by omega)]
    rfl
theorem patH_val (l : List Bool) : patH l.length (bitsVal l.reverse) = l := by
  apply List.ext_getElem?
  intro i
  unfold patH
  rw [List.getElem?_map]
  by_cases h : i < l.length
  · rw [List.getElem?_range h, Option.map_some, bitsVal_bit, List.getD_eq_getElem?_getD, List.getElem?_reverse (by omega), show l.length - 1 - (l.length - 1 - i) = i by omega, List.getElem?_eq_getElem h]
    rfl
  · rw [List.getElem?_eq_none (by simpa using h), List.getElem?_eq_none (by omega)]
    rfl
theorem val_ltL (l : List Bool) : bitsVal l < 2 ^ l.length := bitsVal_lt l
/-- what an input is -/
theorem nv_cnt (env : Nat → Bool) : ∀ ns : List Nd, (∀ x ∈ ns, x.k = 2 ∨ x.k ≠ 2) → (nv env ns).2 = (inputs ns).length := by
  intro ns
  induction ns using List.snocRec with
  | nil => intro _; rfl
  | snoc ns x ih =>
    intro h
    have ih := ih (fun y hy => h y (by simp [hy]))
    have e : inputs (ns ++ [x]) = inputs ns ++ (if x.k = 2 then [2 * ns.length] else []) := by
      unfold inputs
      rw [inputsFrom_app, Nat.zero_add]
      congr 1
    rw [nv_snoc, e]
    unfold nvStep
    by_cases h3 : x.k = 3
    · rw [if_pos h3, if_neg (by omega)]; simpa using ih
    · rw [if_neg h3]
      by_cases h2 : x.k = 2
      · rw [if_pos h2, if_pos h2]; simp [ih]
      · rw [if_neg h2, if_neg h2]; simpa using ih
theorem bv_input (env : Nat → Bool) {ns : List Nd} {n : Nat} {x : Nd} (hx : ns[n]? = some x) (h2 : x.k = 2) : bv env ns (2 * n) = env (inputs (ns.take n)).length := by
  have hn := (List.getElem?_eq_some_iff.1 hx).1
  have h := bv_ext env (ns.take n ++ [x]) (ns.drop (n + 1)) (r := 2 * n) (by simp; omega)
  have e : ns.take n ++ [x] ++ ns.drop (n + 1) = ns := by
    have h1 := List.take_append_drop n ns
    rw [List.drop_eq_getElem_cons hn, (List.getElem?_eq_some_iff.1 hx).2] at h1
    rw [List.append_assoc]
    exact h1
  rw [e] at h
  rw [h]
  have hl := nv_len env (ns.take n)
  have hc := nv_cnt env (ns.take n) (fun y _ => by omega)
  unfold bv
  rw [nv_snoc]
  unfold nvStep
  rw [if_neg (by omega), if_pos h2]
  unfold rv
  have hl2 : (nv env (ns.take n)).1.length = n := by rw [hl, List.length_take]; omega
  rw [show 2 * n / 2 = n by omega, show 2 * n % 2 = 0 by omega, List.getD_eq_getElem?_getD, List.getElem?_append_right (by omega), hl2, Nat.sub_self, hc]
  simp
theorem nth_input : ∀ (ns : List Nd) (i : Nat), i < (inputs ns).length → ∃ (n : Nat) (x : Nd), ns[n]? = some x ∧ x.k = 2 ∧ (inputs (ns.take n)).length = i := by
  intro ns
  induction ns using List.snocRec with
  | nil => intro i h; simp [inputs, inputsFrom] at h
  | snoc ns x ih =>
    intro i h
    have e : inputs (ns ++ [x]) = inputs ns ++ (if x.k = 2 then [2 * ns.length] else []) := by
      unfold inputs
      rw [inputsFrom_app, Nat.zero_add]
      congr 1
    by_cases hi : i < (inputs ns).length
    · obtain ⟨n, y, h1, h2, h3⟩ := ih i hi
      have hn := (List.getElem?_eq_some_iff.1 h1).1
      exact ⟨n, y, by rw [List.getElem?_append_left hn]; exact h1, h2, by rw [List.take_append_of_le_length (by omega)]; exact h3⟩
    · rw [e, List.length_append] at h
      by_cases h2 : x.k = 2
      · rw [if_pos h2] at h
        simp only [List.length_cons, List.length_nil] at h
        exact ⟨ns.length, x, by simp, h2, by rw [List.take_left']; omega; rfl⟩
      · rw [if_neg h2] at h
        simp at h
        omega
section
variable {ns : List Nd} (hw : WF ns) (hn6 : ns.length ≤ 65536) {l : List Nat} (hl : ∀ r ∈ l, r < 2 * ns.length)
include hw hn6
theorem lit_in (r : Nat) : litF (natInts (mapN ns l)) r = litOf (natInts (mapN ns l)) r := by
  unfold litF
  rw [if_pos ⟨mapN_rising hw hn6 l, by omega⟩]
/-- what an input is in a model -/
theorem insV_at (mv : List Bool) {i : Nat} (hi : i < (inputs ns).length) : (insV ns (natInts (mapN ns l)) mv).getD i false = (litOf (natInts (mapN ns l)) ((inputs ns).getD i 0 : Nat) != 0 && mv.getD ((litOf (natInts (mapN ns l)) ((inputs ns).getD i 0 : Nat)).natAbs - 1) false) := by
  unfold insV
  rw [List.getD_eq_getElem?_getD, List.getElem?_map, List.getD_eq_getElem?_getD, List.getElem?_eq_getElem hi]
  simp only [Option.map_some, Option.getD_some, lit_in hw hn6]
theorem insV_input (mv : List Bool) {k n : Nat} {x : Nd} (hk : (mapN ns l)[k]? = some n) (hx : ns[n]? = some x) (h2 : x.k = 2) : (insV ns (natInts (mapN ns l)) mv).getD (inputs (ns.take n)).length false = mv.getD k false := by
  obtain ⟨h1, h3⟩ := input_at hx h2
  rw [insV_at hw hn6 mv h1, h3]
  have hm := List.mem_of_getElem? hk
  obtain ⟨j, hj, e1, e2⟩ := lit_abs (mapN_asc hw l) (r := 2 * n) (by rw [show 2 * n / 2 = n by omega]; exact hm)
  have hjk : j = k := by
    have a1 := var_at (mapN_asc hw l) hj
    have a2 := var_at (mapN_asc hw l) hk
    rw [show 2 * n / 2 = n by omega] at a1
    omega
  rw [e1, Nat.add_sub_cancel, hjk]
  have : (litOf (natInts (mapN ns l)) ((2 * n : Nat) : Int) != 0) = true := by
    rw [bne_iff_ne]
    intro e
    rw [e] at e1
    simp at e1
  rw [this, Bool.true_and]
/-- a model of the nodes' clauses is that of the assignment that it has for the inputs -/
theorem back_model {mv : List Bool} (hlen : mv.length = (mapN ns l).length) (h : forV mv (nodesCls ns (natInts (mapN ns l)) (mapN ns l).length) = true) :
    modV (fun i => (insV ns (natInts (mapN ns l)) mv).getD i false) ns (mapN ns l) = mv := by
  have hm := mapN_ok hw l
  have key : ∀ n, ∀ k, (mapN ns l)[k]? = some n → bv (fun i => (insV ns (natInts (mapN ns l)) mv).getD i false) ns (2 * n) = mv.getD k false := by
    intro n
    induction n using Nat.strongRecOn with
    | ind n ih =>
      intro k hk
      have hnm := List.mem_of_getElem? hk
      have hlt := hm.lt n hnm
      have hx := List.getElem?_eq_getElem hlt.2
      rcases hw.other n _ hx hlt.1 with h2 | h3
      · rw [bv_input _ hx (by rw [h2]), insV_input hw hn6 mv hk hx (by rw [h2])]
      · have h3k := h3.1
        obtain ⟨_, hs⟩ := side_of hw hx
        obtain ⟨_, _, _, _, h5, h6⟩ := hs h3k
        obtain ⟨c1, c2⟩ := hm.cl n hnm _ hx h3k
        rw [bv_node _ hx h3k h5 h6, (forV_nodes_iff hw hm mv).1 h k n _ hk hx h3k]
        obtain ⟨j1, e1, v1⟩ := lit_val hm.asc (mv := mv) c1
        obtain ⟨j2, e2, v2⟩ := lit_val hm.asc (mv := mv) c2
        rw [v1, v2, bv_xor _ (ns[n]).l, bv_xor _ (ns[n]).r, ih _ (by omega) j1 e1, ih _ (by omega) j2 e2]
  apply List.ext_getElem?
  intro k
  unfold modV
  rw [List.getElem?_map]
  by_cases hk : k < (mapN ns l).length
  · rw [List.getElem?_eq_getElem hk, Option.map_some, key _ k (List.getElem?_eq_getElem hk), List.getD_eq_getElem?_getD, List.getElem?_eq_getElem (by omega)]
    rfl
  · rw [List.getElem?_eq_none (by omega), List.getElem?_eq_none (by omega)]
    rfl
/-- what is true of the inputs in a model lies in the support -/
theorem insV_alone (mv : List Bool) {i : Nat} (h : (insV ns (natInts (mapN ns l)) mv).getD i false = true) : i ∈ Go.Proofs.Ytkedpifopclipaa.suppL ns l (inputs ns).length := by
  have hi : i < (inputs ns).length := by
    rw [List.getD_eq_getElem?_getD] at h
    by_cases hi : i < (insV ns (natInts (mapN ns l)) mv).length
    · simpa [insV] using hi
    · rw [List.getElem?_eq_none (by omega)] at h
      simp at h
  rw [insV_at hw hn6 mv hi, Bool.and_eq_true, bne_iff_ne] at h
  have h1 := h.1
  rw [Ne, litOf_zero, varOf_zero (nat_asc (mapN_asc hw l))] at h1
  have h2 : (((inputs ns).getD i 0 : Nat) : Int) / 2 ∈ natInts (mapN ns l) := by
    rcases Decidable.em ((((inputs ns).getD i 0 : Nat) : Int) / 2 ∈ natInts (mapN ns l)) with h2 | h2
    · exact h2
    · exact absurd h2 h1
  unfold natInts at h2
  obtain ⟨d, hd, e⟩ := List.mem_map.1 h2
  unfold Go.Proofs.Ytkedpifopclipaa.suppL
  rw [List.mem_filter, List.mem_range]
  refine ⟨hi, decide_eq_true ?_⟩
  have : (inputs ns).getD i 0 / 2 = d := by omega
  rw [this]
  exact (mem_mapN.1 hd).1
/-- whether an assignment has only inputs of the support -/
def aloneF (S : List Nat) (ins : List Bool) : Bool := (List.range ins.length).all fun i => !ins.getD i false || decide (i ∈ S)
omit hn6 in
theorem roots_in : ∀ r ∈ l, r < 2 * ns.length → 2 ≤ r → r / 2 ∈ mapN ns l := fun r hr hlt h2 => mem_mapN.2 ⟨cone_has hw hr hlt, by omega⟩
omit hw hn6 in
theorem insV_len (mv : List Bool) : (insV ns (natInts (mapN ns l)) mv).length = (inputs ns).length := by simp [insV]
/-- an assignment of the support's inputs is read back from its model -/
theorem ins_back {ins : List Bool} (hlen : ins.length = (inputs ns).length) (ha : aloneF (Go.Proofs.Ytkedpifopclipaa.suppL ns l (inputs ns).length) ins = true) :
    insV ns (natInts (mapN ns l)) (modV (fun i => ins.getD i false) ns (mapN ns l)) = ins := by
  apply List.ext_getElem?
  intro i
  by_cases hi : i < ins.length
  · have h1 : i < (inputs ns).length := by omega
    have e1 : (insV ns (natInts (mapN ns l)) (modV (fun i => ins.getD i false) ns (mapN ns l)))[i]? = some ((insV ns (natInts (mapN ns l)) (modV (fun i => ins.getD i false) ns (mapN ns l))).getD i false) := by
      rw [List.getD_eq_getElem?_getD, List.getElem?_eq_getElem (by rw [insV_len]; exact h1)]
      rfl
    rw [e1, List.getElem?_eq_getElem hi]
    congr 1
    have hg : ins.getD i false = ins[i] := by rw [List.getD_eq_getElem?_getD, List.getElem?_eq_getElem hi]; rfl
    rw [← hg]
    -- the i-th input is a node
    obtain ⟨n, x, hx, h2, hc⟩ := Go.Aig.nth_input ns i h1
    by_cases hm : n ∈ mapN ns l
    · obtain ⟨k, hk⟩ := List.getElem?_of_mem hm
      have e3 := insV_input hw hn6 (modV (fun i => ins.getD i false) ns (mapN ns l)) hk hx h2
      rw [hc] at e3
      rw [e3]
      unfold modV
      rw [List.getD_eq_getElem?_getD, List.getElem?_map, hk]
      show bv _ ns (2 * n) = _
      rw [bv_input _ hx h2, hc]
    · have hs : i ∉ Go.Proofs.Ytkedpifopclipaa.suppL ns l (inputs ns).length := fun hin => by
        unfold Go.Proofs.Ytkedpifopclipaa.suppL at hin
        rw [List.mem_filter] at hin
        have h4 := of_decide_eq_true hin.2
        have h5 := (input_at hx h2).2
        rw [hc] at h5
        rw [h5, show 2 * n / 2 = n by omega] at h4
        have hpos : n ≠ 0 := by
          rintro rfl
          rw [hw.const] at hx
          cases hx
          simp at h2
        exact hm (mem_mapN.2 ⟨h4, hpos⟩)
      have hf : ins.getD i false = false := by
        unfold aloneF at ha
        rw [List.all_eq_true] at ha
        have := ha i (by simpa using hi)
        rw [Bool.or_eq_true, decide_eq_true_eq] at this
        rcases this with h | h
        · simpa using h
        · exact absurd h hs
      rw [hf]
      cases hq : (insV ns (natInts (mapN ns l)) (modV (fun i => ins.getD i false) ns (mapN ns l))).getD i false
      · rfl
      · exact absurd (insV_alone hw hn6 _ hq) hs
  · rw [List.getElem?_eq_none (by rw [insV_len]; omega), List.getElem?_eq_none (by omega)]
include hl
/-- there are as many models as assignments of the support for which all roots are true -/
theorem count_models : ((List.range (2 ^ (mapN ns l).length)).filter fun way => forV (patH (mapN ns l).length way) (clsOf ns (natInts (mapN ns l)) (natInts l))).length =
    ((List.range (2 ^ (inputs ns).length)).filter fun k => l.all (bv (fun i => (patL (inputs ns).length k).getD i false) ns) && aloneF (Go.Proofs.Ytkedpifopclipaa.suppL ns l (inputs ns).length) (patL (inputs ns).length k)).length := by
  have hm := mapN_ok hw l
  have hr : ∀ r ∈ l, 2 ≤ r → r / 2 ∈ mapN ns l := fun r h h2 => roots_in hw r h (hl r h) h2
  apply Nat.le_antisymm
  · refine cntR_le (fun way => bitsVal (insV ns (natInts (mapN ns l)) (patH (mapN ns l).length way))) ?_ ?_
    · intro way hway hf
      have hlen := patH_len (mapN ns l).length way
      generalize patH (mapN ns l).length way = mv at hf hlen ⊢
      have hil := insV_len (ns := ns) (l := l) mv
      have hlt := val_ltL (insV ns (natInts (mapN ns l)) mv)
      rw [hil] at hlt
      have hpl := patL_val (insV ns (natInts (mapN ns l)) mv)
      rw [hil] at hpl
      refine ⟨hlt, ?_⟩
      simp only [hpl]
      have hn : forV mv (nodesCls ns (natInts (mapN ns l)) (mapN ns l).length) = true := by
        unfold clsOf at hf
        rw [natInts_len, forV_app, Bool.and_eq_true] at hf
        exact hf.1
      have hb := back_model hw hn6 hlen hn
      rw [← modV_iff hw hm _ hr, hb, hf, Bool.true_and]
      unfold aloneF
      rw [List.all_eq_true]
      intro i _
      cases hq : (insV ns (natInts (mapN ns l)) mv).getD i false
      · rfl
      · simpa using insV_alone hw hn6 mv hq
    · intro a b ha hb hfa hfb e
      have hla := patH_len (mapN ns l).length a
      have hlb := patH_len (mapN ns l).length b
      have hn : ∀ c, forV (patH (mapN ns l).length c) (clsOf ns (natInts (mapN ns l)) (natInts l)) = true → forV (patH (mapN ns l).length c) (nodesCls ns (natInts (mapN ns l)) (mapN ns l).length) = true := fun c hf => by
        unfold clsOf at hf
        rw [natInts_len, forV_app, Bool.and_eq_true] at hf
        exact hf.1
      have h1 := back_model hw hn6 hla (hn a hfa)
      have h2 := back_model hw hn6 hlb (hn b hfb)
      have h3 : insV ns (natInts (mapN ns l)) (patH (mapN ns l).length a) = insV ns (natInts (mapN ns l)) (patH (mapN ns l).length b) := bitsVal_inj (by rw [insV_len, insV_len]) e
      rw [h3, h2] at h1
      exact patH_inj ha hb h1.symm
  · refine cntR_le (fun k => bitsVal (modV (fun i => (patL (inputs ns).length k).getD i false) ns (mapN ns l)).reverse) ?_ ?_
    · intro k hk hf
      rw [Bool.and_eq_true] at hf
      have hml : (modV (fun i => (patL (inputs ns).length k).getD i false) ns (mapN ns l)).length = (mapN ns l).length := by simp [modV]
      have hlt := val_ltL (modV (fun i => (patL (inputs ns).length k).getD i false) ns (mapN ns l)).reverse
      rw [List.length_reverse, hml] at hlt
      refine ⟨hlt, ?_⟩
      have hpv := patH_val (modV (fun i => (patL (inputs ns).length k).getD i false) ns (mapN ns l))
      rw [hml] at hpv
      simp only [hpv]
      rw [modV_iff hw hm _ hr]
      exact hf.1
    · intro a b ha hb hfa hfb e
      rw [Bool.and_eq_true] at hfa hfb
      have e2 := bitsVal_inj (by simp [modV]) e
      have e3 := List.reverse_inj.1 e2
      have b1 := ins_back hw hn6 (patL_len _ a) hfa.2
      have b2 := ins_back hw hn6 (patL_len _ b) hfb.2
      rw [e3, b2] at b1
      exact patL_inj ha hb b1.symm
end
end Go.Aig
namespace Go.Aig
theorem inputs_lt {ns : List Nd} {r : Nat} (h : r ∈ inputs ns) : r < 2 * ns.length := by
  obtain ⟨i, hi⟩ := List.getElem?_of_mem h
  have hl := (List.getElem?_eq_some_iff.1 hi).1
  obtain ⟨n, x, hx, h2, hc⟩ := nth_input ns i hl
  have h3 := (input_at hx h2).2
  rw [hc, List.getD_eq_getElem?_getD, hi] at h3
  have := (List.getElem?_eq_some_iff.1 hx).1
  simp at h3
  omega
end Go.Aig
namespace Go.Proofs.Ytkedpifopclipaa
open Go.RowKit Go.Mem Go.Aig
section
variable {w : World} {g : Nat} {G : Gra} {F : List Nat}
set_option maxRecDepth 100000 in
set_option maxHeartbeats 4000000 in
theorem tsInputs_is (h : GIn w g G F) {a : Option Addr} {m : List Int} (n c : Nat) (hn : m.length = n) (hnl : n ≤ 100000) (hS : Sl w a m) {xa : Option Addr} {mv : List Bool} (k xc : Nat) (hk : mv.length = k) (hB : Sb w xa mv) (hkl : k ≤ 100000) :
    Calls Try.prog 33 #[.pointer (some ⟨g, 0, none⟩), .slice a n c, .slice xa k xc] w fun e w' => ∃ v, e = .returned (.tuple #[v, .int .i64 (insR G m mv).2]) ∧ BNew w v (insR G m mv).1 w' := by
  have hpos := h.ok.wf.pos
  have hL := Len_g h
  have hRi := tsRight_is h n c hn hnl hS
  have hIn := fun (W : World) (hc : Ch [] w W) => Inputs_g (h.same hc (by simp))
  have hLit := fun (W : World) (hc : Ch [] w W) (r : Int) hr => tsLit_is n c hn (by omega) (hS.ch hc (by simp)) r hr
  have hN6 : G.nodes.length ≤ 65536 := by have := h.ok.room; have := h.ok.most; omega
  have d0 : ((G.nodes.length : Int) == 0) = false := by rw [beq_eq_false_iff_ne]; omega
  have hib : ∀ r ∈ inputs G.nodes, r ≤ 1000000 := fun r hr => by have := inputs_lt hr; omega
  have hil : (inputs G.nodes).length ≤ 65536 := Nat.le_trans (inputs_le G.nodes) hN6
  unfold insR
  cases hrm : rightM G.nodes m
  · rw [hrm] at hRi
    simp only [if_true]
    have HL := Lib.hid hL; clear hL
    have HR := Lib.hid hRi; clear hRi
    clear hIn hLit h hS hB hrm hn hk hib hil
    generalize G.nodes.length = NL at *
    go_enter Try.func33, Try.ntmps33
    go_wp2_with fail
    refine HL.out.mono ?_
    rintro e w' ⟨rfl, rfl⟩
    go_wp2_with fail
    refine HR.out.mono ?_
    rintro e w1 ⟨rfl, hc⟩
    have HC := Lib.hid hc; clear hc
    go_wp2_with fail
    go_ret2
    exact ⟨_, rfl, BNew.nil _ _ HC.out⟩
  · rw [hrm] at hRi
    simp only [Bool.true_eq_false, if_false]
    by_cases hkn : mv.length ≠ m.length
    · rw [if_pos hkn]
      have d1 : ((k : Int) != (n : Int)) = true := by simp; omega
      have HL := Lib.hid hL; clear hL
      have HR := Lib.hid hRi; clear hRi
      clear hIn hLit h hS hB hrm hn hk hkn hib hil
      generalize G.nodes.length = NL at *
      go_enter Try.func33, Try.ntmps33
      go_wp2_with fail
      refine HL.out.mono ?_
      rintro e w' ⟨rfl, rfl⟩
      go_wp2_with fail
      refine HR.out.mono ?_
      rintro e w1 ⟨rfl, hc⟩
      have HC := Lib.hid hc; clear hc
      go_wp2_with fail
      go_ret2
      exact ⟨_, rfl, BNew.nil _ _ HC.out⟩
    · rw [if_neg hkn]
      have hkn2 : k = n := by omega
      subst hkn2
      have d1 : ((k : Int) != (k : Int)) = false := by simp
      have hab := fun r => litF_abs m r
      unfold insV
      obtain ⟨IN, hINe⟩ : ∃ IN, inputs G.nodes = IN := ⟨_, rfl⟩
      rw [hINe] at hIn hib hil ⊢
      have HL := Lib.hid hL; clear hL
      have HR := Lib.hid hRi; clear hRi
      have HIN := Lib.hid hIn; clear hIn
      have HLI := Lib.hid hLit; clear hLit
      have HB := Lib.hid hB; clear hB
      have HK := Lib.hid hk; clear hk
      have HN := Lib.hid hn; clear hn
      have HAB := Lib.hid hab; clear hab
      have HIB := Lib.hid hib; clear hib
      clear h hS hrm hINe hkn
      generalize G.nodes.length = NL at *
      go_enter Try.func33, Try.ntmps33
      go_wp2_with fail
      refine HL.out.mono ?_
      rintro e w' ⟨rfl, rfl⟩
      go_wp2_with fail
      refine HR.out.mono ?_
      rintro e w1 ⟨rfl, hc⟩
      have hin := HIN.out w1 hc
      have HC := Lib.hid hc; clear hc
      have HI1 := Lib.hid hin; clear hin HIN
      go_wp2_with fail
      refine HI1.out.mono ?_
      rintro e w2 ⟨v, rfl, hrow, _, hc2⟩
      obtain ⟨ia, ic, rfl⟩ := row.shape hrow
      have hc2 := HC.out.trans hc2 (by simp)
      have HROWI := Lib.hid hrow; clear hrow HC
      have HC2 := Lib.hid hc2; clear hc2
      go_wp2_with fail
      go_loopw [8, 31] (fun o i wr => ∃ j : Nat, j ≤ IN.length ∧ i = .int .i64 j ∧ Ch [] w2 wr ∧ row wr 4 1 o j (bools ((IN.take j).map fun (r : Nat) => litF m r != 0 && mv.getD ((litF m r).natAbs - 1) false)) ∧ ∀ q ∈ o.ownBlock.toList, w2.heap.size ≤ q) (fun _ i _ => IN.length - (intOf i).toNat)
      case atStart => exact ⟨0, by omega, rfl, Ch.refl _ _, ⟨rfl, .inl ⟨rfl, rfl⟩⟩, by simp⟩
      case round =>
        obtain ⟨j, hj, rfl, hc, hrow, hlo⟩ := hrel
        obtain ⟨oa, oc, rfl⟩ := row.shape hrow
        by_cases hlt : j < IN.length
        · obtain ⟨r, hr⟩ : ∃ r, IN[j]? = some r := ⟨_, List.getElem?_eq_getElem hlt⟩
          have hrb := HIB.out r (List.mem_of_getElem? hr)
          obtain ⟨ib, ic2, e⟩ := HROWI.out.parts (by omega)
          cases e
          have d9 := row_cell HROWI.out (k := j) (v := .int .i64 r) (by unfold refsCells; rw [List.getElem?_map, hr]; rfl)
          have c0 := (hc.cell (cell_lt d9) (by simp)).trans d9
          have hli := HLI.out wr (HC2.out.trans hc (by simp)) r (by omega)
          have hab := HAB.out r
          rw [HN.out] at hab
          obtain ⟨t, ht⟩ : ∃ t, (litF m r != 0 && mv.getD ((litF m r).natAbs - 1) false) = t := ⟨_, rfl⟩
          have hsu : bools ((IN.take (j + 1)).map fun (r : Nat) => litF m r != 0 && mv.getD ((litF m r).natAbs - 1) false) = bools ((IN.take j).map fun (r : Nat) => litF m r != 0 && mv.getD ((litF m r).natAbs - 1) false) ++ [.bool t] := by rw [List.take_add_one, hr, ← ht]; simp [bools]
          have hcA : Ch [] wr (wr.alloc (.cells #[.bool t] 4)) := (Ch.refl _ _).alloc _
          have hrA := hrow.ch hcA (by simp)
          have hbA : blk (wr.alloc (.cells #[.bool t] 4)) wr.heap.size [.bool t] := blk.new' _ _ rfl
          have HSU := Lib.hid hsu; clear hsu
          have HRA := Lib.hid hrA; clear hrA hrow
          have HBA := Lib.hid hbA; clear hbA
          have HCA := Lib.hid hcA; clear hcA
          have HLO := Lib.hid hlo; clear hlo d9 hr
          generalize hLF : litF m r = LF at *
          have HLI1 := Lib.hid hli; clear hli
          cases hz : (LF != 0)
          · rw [hz] at ht HLI1
            have ht2 : t = false := by rw [← ht]; rfl
            subst ht2
            have HCP := Lib.hid hc; clear hc ht hz hLF
            go_wp2_with fail
            refine HLI1.out.mono ?_
            rintro e w' ⟨rfl, rfl⟩
            go_wp2_with (at_builtin; go_loud (refine wpList_append_row slBools rfl _ _ rfl (v := .slice oa j oc) (n := j) (xs := _) rfl HRA.out (ad := ⟨wr.heap.size, 0, none⟩) (m := 1) (c := 1) (news := [.bool false]) rfl rfl (news_blk HBA.out) (by simp [Value.oneCell']) (by omega) (by omega) ?_; intro v' w4 hown4 hC4 hf4; obtain ⟨gb, gc, rfl⟩ := hown4.parts (by omega); have HO4 := Lib.hid hown4; clear hown4; have HCC4 := Lib.hid hC4; clear hC4; have HF4 := Lib.hid hf4; clear hf4))
            go_roundw
            case rel =>
              obtain ⟨q1, q2⟩ := app_step HCP.out HCA.out HLO.out HCC4.out HF4.out
              refine ⟨j + 1, by omega, by go_num, q1, ?_, q2⟩
              rw [HSU.out]; exact HO4.out
            case measure => simp [intOf]; omega
          · rw [hz, Bool.true_and] at ht
            rw [hz] at HLI1
            have hne : LF ≠ 0 := by simpa using hz
            obtain ⟨V, hV⟩ : ∃ V, LF.natAbs = V + 1 := ⟨LF.natAbs - 1, by omega⟩
            rw [hV, Nat.add_sub_cancel] at ht
            have hVk : V < k := by omega
            obtain ⟨xb, xo, rfl, d8⟩ := HB.out.cells V (.bool t) (by
              rw [List.getElem?_map, List.getElem?_eq_getElem (by rw [HK.out]; exact hVk), Option.map_some, ← ht, List.getD_eq_getElem?_getD, List.getElem?_eq_getElem (by rw [HK.out]; exact hVk)]
              rfl)
            have c8 := ((HC2.out.trans hc (by simp)).cell (cell_lt d8) (by simp)).trans d8
            have hvar := fun (W : World) => litsVar_is W LF (by omega)
            have hvv : varL LF = V + 1 := by
              unfold varL
              rw [if_pos ((rightLit_iff LF).2 (by omega)), hV]
            rw [hvv, show ((V + 1 : Nat) : Int) = (V : Int) + 1 by omega] at hvar
            have hmx : ∀ ats ty, Builtin.max_ ats ty #[.int .i64 ((V : Int) + 1), .int .i64 1] = pure (.int .i64 ((V : Int) + 1)) := fun ats ty => by
              have e9 : (if (V : Int) + 1 < 1 then 1 else (V : Int) + 1) = (V : Int) + 1 := by split <;> omega
              conv => rhs; rw [← e9]
              simp [Builtin.max_, Builtin.max2]
            have HCP := Lib.hid hc
            have HVAR := Lib.hid hvar
            clear hc ht hz hLF hne hvar hvv d8 hV hab
            go_wp2_with fail
            refine HLI1.out.mono ?_
            rintro e w' ⟨rfl, rfl⟩
            go_wp2_with fail
            refine (HVAR.out _).mono ?_
            rintro e w' ⟨rfl, rfl⟩
            go_wp2_with (at_builtin; go_loud (refine wpList_append_row slBools rfl _ _ rfl (v := .slice oa j oc) (n := j) (xs := _) rfl HRA.out (ad := ⟨wr.heap.size, 0, none⟩) (m := 1) (c := 1) (news := [.bool t]) rfl rfl (news_blk HBA.out) (by simp [Value.oneCell']) (by omega) (by omega) ?_; intro v' w4 hown4 hC4 hf4; obtain ⟨gb, gc, rfl⟩ := hown4.parts (by omega); have HO4 := Lib.hid hown4; clear hown4; have HCC4 := Lib.hid hC4; clear hC4; have HF4 := Lib.hid hf4; clear hf4))
            go_roundw
            case rel =>
              obtain ⟨q1, q2⟩ := app_step HCP.out HCA.out HLO.out HCC4.out HF4.out
              refine ⟨j + 1, by omega, by go_num, q1, ?_, q2⟩
              rw [HSU.out]; exact HO4.out
            case measure => simp [intOf]; omega
        · have hjn : j = IN.length := by omega
          subst hjn
          rw [List.take_of_length_le (Nat.le_refl _)] at hrow
          have HROW := Lib.hid hrow; clear hrow
          have HC3 := Lib.hid (HC2.out.trans hc (by simp)); clear hc
          have hz := HC2.out.size
          have HZ := Lib.hid hz; clear hz
          have HLO := Lib.hid hlo; clear hlo
          go_wp2_with fail
          go_ret2
          refine ⟨_, rfl, ?_, fun q hq => Nat.le_trans HZ.out (HLO.out q hq), HC3.out⟩
          rw [List.length_map]
          exact HROW.out
end
end Go.Proofs.Ytkedpifopclipaa
namespace Go.Aig
theorem mapN_right {ns : List Nd} (hw : WF ns) (hn : ns.length ≤ 65536) (l : List Nat) : rightM ns (natInts (mapN ns l)) = true := by
  have hm := mapN_ok hw l
  have hr := mapN_rising hw hn l
  rw [rightM_eq, hr, Bool.true_and, List.all_eq_true]
  intro x hx
  unfold natInts at hx
  obtain ⟨n, hnm, rfl⟩ := List.mem_map.1 hx
  have hlt := hm.lt n hnm
  have hxn := List.getElem?_eq_getElem hlt.2
  obtain ⟨s1, s2⟩ := side_of hw hxn
  unfold rightAt
  rw [decide_eq_true (by omega), Bool.true_and, s1]
  by_cases h3 : (ns[n]).k = 3
  · obtain ⟨e1, e2, _⟩ := s2 h3
    obtain ⟨c1, c2⟩ := hm.cl n hnm _ hxn h3
    rw [e1, e2]
    have hf : ∀ r : Nat, r / 2 ∈ mapN ns l → (litF (natInts (mapN ns l)) r != 0) = true := fun r hrm => by
      rw [bne_iff_ne]
      unfold litF
      rw [if_pos ⟨hr, by omega⟩]
      exact lit_ne hm.asc hrm
    rw [hf _ c1, hf _ c2]
    simp
  · simp [h3]
end Go.Aig
namespace Go.Proofs.Ytkedpifopclipaa
open Go.RowKit Go.Mem Go.Aig
theorem row.alt {w : World} {e : TypeId} {size n c : Nat} {a : Option Addr} {xs : List Value} (h : Mem.row w e size (.slice a n c) n xs) : ∀ p, a = some p → p.block < w.heap.size := fun p hp => by
  subst hp
  exact (h.lt p.block (by rcases h.2 with ⟨e, _⟩ | ⟨b, _, _, e, _⟩; cases e; cases e; rfl)).2
theorem infoInt27 : (Try.prog.info? 3).map (fun i => (i.zero, i.size, i.bytes)) = some (some (.int .i64 0), 1, 8) := by kernel_rfl
theorem slMap : SliceTy Try.prog 37 3 1 8 (.int .i64 0) := ⟨Try.underlying37, infoInt27, rfl, by decide⟩
theorem eqSliceNil_CLmap (w : World) (a : Option Addr) (n c : Nat) : (binOp .eql 37 (.slice a n c) (.slice none 0 0)).run Try.prog w = .ok (.bool a.isNone) w := by
  have h : Try.prog.underlying 37 = some (.slice 3) := Try.underlying37
  simp only [binOp]
  simp [run_equal_slice_nil w _ _ a n c h]
theorem eqSliceNil_CLcls (w : World) (a : Option Addr) (n c : Nat) : (binOp .eql 137 (.slice a n c) (.slice none 0 0)).run Try.prog w = .ok (.bool a.isNone) w := by
  have h : Try.prog.underlying 137 = some (.slice 46) := Try.underlying137
  simp only [binOp]
  simp [run_equal_slice_nil w _ _ a n c h]
section
attribute [local go_sem] eqSliceNil_CLmap eqSliceNil_CLcls
variable {w : World}
set_option maxRecDepth 100000 in
set_option maxHeartbeats 1000000 in
theorem CLmap_is {a : Option Addr} {l : List Int} (n c : Nat) (hn : l.length = n) (h : Sl w a l) (hm : n ≤ 1000000) : Calls Try.prog 31 #[.slice a n c] w fun e w' => ∃ v, e = .returned v ∧ row w' 3 1 v n (intCells l) ∧ (∀ q ∈ v.ownBlock.toList, w.heap.size ≤ q) ∧ Ch [] w w' := by
  subst hn
  cases a with
  | none =>
    have hl : l = [] := by
      cases l with
      | nil => rfl
      | cons y l =>
        obtain ⟨b, o, e, _⟩ := h.cells 0 y rfl
        cases e
    subst hl
    clear h
    go_enter Try.func31, Try.ntmps31
    go_wp2_with fail
    go_ret
    exact ⟨_, rfl, ⟨rfl, .inl ⟨rfl, rfl⟩⟩, by simp, Ch.refl _ _⟩
  | some p =>
    have hO : row (w.alloc (.cells #[] 3)) 3 1 (.slice (some ⟨w.heap.size, 0, none⟩) 0 0) 0 [] := empty_row w _
    have hN : ∀ j u, (intCells l)[j]? = some u → (w.alloc (.cells #[] 3)).cell? (p.add j) = some u := fun j u hu => by
      unfold intCells at hu
      rw [List.getElem?_map, Option.map_eq_some_iff] at hu
      obtain ⟨x, hx, rfl⟩ := hu
      obtain ⟨b, o, e, hc⟩ := h.cells j x hx
      cases e
      rw [Addr.add_lit]
      exact (((Ch.refl [] w).alloc _).cell (cell_lt hc) (by simp)).trans hc
    have h1 : ∀ u ∈ intCells l, u.oneCell' = true := fun u hu => by
      obtain ⟨r, _, rfl⟩ := List.mem_map.1 hu
      rfl
    have HO := Lib.hid hO; clear hO
    have HN := Lib.hid hN; clear hN h
    have H1 := Lib.hid h1; clear h1
    go_enter Try.func31, Try.ntmps31
    go_wp2_with (at_builtin; go_loud (refine wpList_append_row slMap rfl _ _ rfl (v := .slice (some ⟨w.heap.size, 0, none⟩) 0 0) (n := 0) (xs := []) rfl HO.out (ad := p) (m := l.length) (c := c) (news := intCells l) rfl (by simp [intCells]) HN.out H1.out (by omega) (by omega) ?_; intro v' w2 hown hC2 hfresh; have HOWN := Lib.hid hown; clear hown; have HC2 := Lib.hid hC2; clear hC2; have HFR := Lib.hid hfresh; clear hfresh))
    go_ret
    have hown := HOWN.out
    rw [Nat.zero_add, List.nil_append] at hown
    refine ⟨_, rfl, hown, fun k hk => ?_, (((Ch.refl [] w).alloc (.cells #[] 3))).trans HC2.out (by simp [Value.ownBlock])⟩
    rcases HFR.out k (by simpa using hk) with e | e
    · simp [Value.ownBlock] at e; omega
    · simp at e; omega
set_option maxRecDepth 100000 in
set_option maxHeartbeats 1000000 in
theorem CLcls_is {a : Option Addr} {l : List Int} (n c : Nat) (hn : l.length = n) (h : Sl w a l) (hm : n ≤ 1000000) : Calls Try.prog 176 #[.slice a n c] w fun e w' => ∃ v, e = .returned v ∧ row w' 46 1 v n (intCells l) ∧ (∀ q ∈ v.ownBlock.toList, w.heap.size ≤ q) ∧ Ch [] w w' := by
  subst hn
  cases a with
  | none =>
    have hl : l = [] := by
      cases l with
      | nil => rfl
      | cons y l =>
        obtain ⟨b, o, e, _⟩ := h.cells 0 y rfl
        cases e
    subst hl
    clear h
    go_enter Try.func176, Try.ntmps176
    go_wp2_with fail
    go_ret
    exact ⟨_, rfl, ⟨rfl, .inl ⟨rfl, rfl⟩⟩, by simp, Ch.refl _ _⟩
  | some p =>
    have hO : row (w.alloc (.cells #[] 46)) 46 1 (.slice (some ⟨w.heap.size, 0, none⟩) 0 0) 0 [] := empty_row w _
    have hN : ∀ j u, (intCells l)[j]? = some u → (w.alloc (.cells #[] 46)).cell? (p.add j) = some u := fun j u hu => by
      unfold intCells at hu
      rw [List.getElem?_map, Option.map_eq_some_iff] at hu
      obtain ⟨x, hx, rfl⟩ := hu
      obtain ⟨b, o, e, hc⟩ := h.cells j x hx
      cases e
      rw [Addr.add_lit]
      exact (((Ch.refl [] w).alloc _).cell (cell_lt hc) (by simp)).trans hc
    have h1 : ∀ u ∈ intCells l, u.oneCell' = true := fun u hu => by
      obtain ⟨r, _, rfl⟩ := List.mem_map.1 hu
      rfl
    have HO := Lib.hid hO; clear hO
    have HN := Lib.hid hN; clear hN h
    have H1 := Lib.hid h1; clear h1
    go_enter Try.func176, Try.ntmps176
    go_wp2_with (at_builtin; go_loud (refine wpList_append_row slLits rfl _ _ rfl (v := .slice (some ⟨w.heap.size, 0, none⟩) 0 0) (n := 0) (xs := []) rfl HO.out (ad := p) (m := l.length) (c := c) (news := intCells l) rfl (by simp [intCells]) HN.out H1.out (by omega) (by omega) ?_; intro v' w2 hown hC2 hfresh; have HOWN := Lib.hid hown; clear hown; have HC2 := Lib.hid hC2; clear hC2; have HFR := Lib.hid hfresh; clear hfresh))
    go_ret
    have hown := HOWN.out
    rw [Nat.zero_add, List.nil_append] at hown
    refine ⟨_, rfl, hown, fun k hk => ?_, (((Ch.refl [] w).alloc (.cells #[] 46))).trans HC2.out (by simp [Value.ownBlock])⟩
    rcases HFR.out k (by simpa using hk) with e | e
    · simp [Value.ownBlock] at e; omega
    · simp at e; omega
end
end Go.Proofs.Ytkedpifopclipaa
namespace Go.Proofs.Ytkedpifopclipaa
open Go.RowKit Go.Mem Go.Aig
theorem row.caps {w : World} {e : TypeId} {a : Option Addr} {n cc : Nat} {xs : List Value} (h : row w e 1 (.slice a n cc) n xs) : n ≤ cc ∧ cc ≤ 9223372036854775807 := by
  rcases h.2 with ⟨e1, e2⟩ | ⟨g, cap, cur, e1, h0, hg, hle, hm, _⟩
  · cases e1
    exact ⟨by omega, by omega⟩
  · cases e1
    exact ⟨hle, by unfold maxLen at hm; omega⟩
set_option maxRecDepth 100000 in
set_option maxHeartbeats 4000000 in
theorem foCopy_is {w : World} {vars : Nat} {ca : Option Addr} {es : List Value} {cls : List (List Int)} (n cc : Nat) (hn : cls.length = n) (hn6 : n ≤ 300000) (hv : Sv w ca es) (hI : ClsIn w [] es cls) (hln : ∀ c ∈ cls, c.length ≤ 1000000) :
    Calls Try.prog 112 #[.agg #[.int .i64 vars, .slice ca n cc]] w fun e w' => ∃ cv, e = .returned (.agg #[.int .i64 vars, cv]) ∧ ForIn w w' cv cls ∧ Ch [] w w' := by
  have HV := Lib.hid hv; clear hv
  have HI := Lib.hid hI; clear hI
  have HN := Lib.hid hn; clear hn
  have HLN := Lib.hid hln; clear hln
  go_enter Try.func112, Try.ntmps112
  go_upto_region 1 with fail
  refine wp_named fun W1 hW1 => ?_
  have k1 : blk W1 w.heap.size [.int .i64 vars, .slice ca n cc] := by rw [hW1]; exact (blk.new' _ _ (by simp)).alloc _
  have k2 : blk W1 (w.heap.size + 1) [.int .i64 0, .slice none 0 0] := by rw [hW1]; exact blk.new' _ _ (by simp)
  have hc1 : Ch [] w W1 := by rw [hW1]; exact ((Ch.refl _ _).alloc _).alloc _
  clear hW1
  have hb12 : w.heap.size < w.heap.size + 1 := by omega
  have hbl : w.heap.size ≤ w.heap.size + 1 := by omega
  generalize w.heap.size + 1 = b2 at *
  have x0 := k1.cell (i := 0) rfl
  have x1 := k1.cell (i := 1) rfl
  have K1 := Lib.hid k1; clear k1
  have K2 := Lib.hid k2; clear k2
  have HC1 := Lib.hid hc1; clear hc1
  have HB12 := Lib.hid hb12; clear hb12
  have HBL := Lib.hid hbl; clear hbl
  go_upto_region 2 with fail
  refine wp_named fun W2 hW2 => ?_
  have hbo := alw_blk (xs := [.int .i64 vars, .slice none 0 0]) hW2
  have hc2 := alw_ch hW2
  clear hW2 x0 x1
  have h2l := K2.out.lt
  have hz1 := HC1.out.size
  have k1 := K1.out.ch hc2 (by simp)
  have k2 := K2.out.ch hc2 (by simp)
  generalize W1.heap.size = bo at *
  have hcc := HC1.out.trans hc2 (by simp)
  clear K1 K2 HC1
  have x1 := k1.cell (i := 1) rfl
  have HC := Lib.hid hcc; clear hcc hc2
  have K2 := Lib.hid k2; clear k2
  have KO := Lib.hid hbo; clear hbo
  have H2L := Lib.hid h2l; clear h2l
  have HZ1 := Lib.hid hz1; clear hz1 k1
  go_wp2_with fail
  clear x1
  go_loopw [12] (fun i wr => ∃ (k : Nat) (v : Value) (es' : List Value), k ≤ n ∧ i = .int .i64 k ∧ Ch [] w wr ∧ blk wr b2 [.int .i64 0, .slice none 0 0] ∧ blk wr bo [.int .i64 vars, v] ∧ row wr 137 1 v k es' ∧ ClsIn wr (b2 :: bo :: v.ownBlock.toList) es' (cls.take k) ∧ ∀ q ∈ v.ownBlock.toList, bo < q) (fun i _ => n - (intOf i).toNat)
  case atStart => exact ⟨0, _, [], by omega, rfl, HC.out, K2.out, KO.out, ⟨rfl, .inl ⟨rfl, rfl⟩⟩, ⟨by simp, by simp⟩, by simp⟩
  case round =>
    clear HC K2 KO
    obtain ⟨k, v, es', hk, rfl, hc, k2, ko, hrow, hci, hown⟩ := hrel
    obtain ⟨va, vc, rfl⟩ := row.shape hrow
    by_cases hlt : k < n
    · obtain ⟨c, hcx⟩ : ∃ c, cls[k]? = some c := ⟨_, List.getElem?_eq_getElem (by rw [HN.out]; exact hlt)⟩
      obtain ⟨a, acc, he, hle, hmx, hsl, _⟩ := HI.out.each k c hcx
      obtain ⟨xb, xo, rfl, hcl⟩ := (HV.out.ch hc (by simp)).cells k _ he
      have htk : cls.take (k + 1) = cls.take k ++ [c] := by rw [List.take_add_one, hcx]; rfl
      obtain ⟨q, hq⟩ : ∃ q, c.length = q := ⟨_, rfl⟩
      have hq6 := HLN.out c (List.mem_of_getElem? hcx)
      rw [hq] at hcl hq6
      have HQ6 := Lib.hid hq6
      have hCl := fun (W : World) (h : Ch [] wr W) => CLcls_is (w := W) (a := a) (l := c) q acc hq (hsl.ch (hc.trans h (by simp)) (by simp)) hq6
      have hkx := ko
      have HCL := Lib.hid hCl; clear hCl
      have HTK := Lib.hid htk; clear htk
      have HC := Lib.hid hc; clear hc
      have K2 := Lib.hid k2; clear k2
      have KO := Lib.hid ko; clear ko
      have HROW := Lib.hid hrow; clear hrow
      have HCI := Lib.hid hci; clear hci
      have HOWN := Lib.hid hown; clear hown
      have HQ := Lib.hid hq; clear hq
      clear he hle hmx hsl hcx hq6
      go_wp2_with fail
      clear hcl
      refine Ord.St.door (fun w' => w'.cell? ⟨bo, 1, none⟩ = some (.slice va k vc)) [.fl, .ho, .fl, .ef, .ef, .ef, .fl, .ef] [0, 1, 0, 4, 12, 31, 63, 127] [0, 1, 2, 3, 4, 5, 6, 7] mixed (by kernel_rfl) rfl ?_
      obtain ⟨Wc, hWc⟩ : ∃ Wc, Wc = wr.drew := ⟨_, rfl⟩
      rw [← hWc]
      have hcur : Ch [] wr Wc := by rw [hWc]; exact (Ch.refl _ _).drew
      clear hWc
      replace hkx := hkx.ch hcur (by simp)
      have hcl := HCL.out Wc hcur
      have HX := Lib.hid hcl; clear hcl
      have HCUR := Lib.hid hcur; clear hcur
      refine Ord.St.fl2 (T' := ?_) 0 [1, 2, 3, 4, 5, 6, 7] _ _ rfl (by kernel_rfl) rfl rfl rfl rfl (fun K w' hk => ?_) ?_
      rotate_left
      · go_step; exact hk
      refine Ord.St.ho2 (T' := ?_) 1 [2, 3, 4, 5, 6, 7] _ _ rfl (by kernel_rfl) rfl rfl rfl rfl ?_ (fun K w' hw' hk => ?_) ?_
      rotate_left
      · exact hkx.cell (i := 1) rfl
      · have q1 := hw'; go_step; exact hk
      refine Ord.St.fl2 (T' := ?_) 2 [3, 4, 5, 6, 7] _ _ rfl (by kernel_rfl) rfl rfl rfl rfl (fun K w' hk => ?_) ?_
      rotate_left
      · go_step; exact hk
      refine Ord.St.efC 3 [4, 5, 6, 7] _ rfl (by kernel_rfl) (fun K hK => ?_)
      go_wp2_with fail
      refine HX.out.mono ?_
      rintro e w1 ⟨u, rfl, hru, huo, hcs⟩
      obtain ⟨ua, uc, rfl⟩ := row.shape hru
      have hca := HCUR.out.trans hcs (by simp)
      have hc8 : Ch [] w1 (w1.alloc (.cells #[.slice ua q uc] 137)) := (Ch.refl _ _).alloc _
      have hrA := HROW.out.ch (hca.trans hc8 (by simp)) (by simp)
      have hnb : blk (w1.alloc (.cells #[.slice ua q uc] 137)) w1.heap.size [.slice ua q uc] := blk.new' _ _ rfl
      have hru2 := hru.ch hc8 (by simp)
      have hul : ∀ z, (Value.slice ua q uc).ownBlock = some z → wr.heap.size ≤ z := fun z hz => by have := huo z (by simpa using hz); have := HCUR.out.size; omega
      have hua : ∀ p, ua = some p → (Value.slice ua q uc).ownBlock = some p.block := fun p hp => by
        subst hp
        rfl
      have hul2 : ∀ z, (Value.slice ua q uc).ownBlock = some z → z < w1.heap.size := fun z hz => (hru.lt z hz).2
      have hcps := row.caps hru
      replace hkx := hkx.ch hcs (by simp)
      have HRA := Lib.hid hrA; clear hrA
      have HNB := Lib.hid hnb; clear hnb
      have HRU := Lib.hid hru2; clear hru2 hru
      have HUL := Lib.hid hul; clear hul
      have HUL2 := Lib.hid hul2; clear hul2
      have HUA := Lib.hid hua; clear hua
      have HCPS := Lib.hid hcps; clear hcps
      have HCA := Lib.hid (hca.trans hc8 (by simp)); clear hca hc8 hcs huo HX HCUR
      go_wp2_with fail
      refine ⟨rfl, hK _ _ ?_ ?_⟩
      · exact hkx.cell (i := 1) rfl
      clear hK K
      refine Ord.St.efC 4 [5, 6, 7] _ rfl (by kernel_rfl) (fun K hK => ?_)
      go_wp2_with fail
      replace hkx := hkx.alloc (.cells #[.slice ua q uc] 137)
      refine ⟨rfl, hK _ _ ?_ ?_⟩
      · exact hkx.cell (i := 1) rfl
      clear hK K
      refine Ord.St.ef 5 [6, 7] _ rfl (by kernel_rfl) (fun K hK => ?_)
      go_wp2_with (at_builtin; go_loud (refine wpList_append_row slCls rfl _ _ rfl (v := .slice va k vc) (n := k) (xs := es') rfl HRA.out (ad := ⟨w1.heap.size, 0, none⟩) (m := 1) (c := 1) (news := [.slice ua q uc]) rfl rfl (news_blk HNB.out) (by simp [Value.oneCell']) (by omega) (by omega) ?_; intro v' w4 hown4 hC4 hf4; obtain ⟨gb, gc, rfl⟩ := row.parts hown4 (by omega); have HO4 := Lib.hid hown4; clear hown4; have HC4 := Lib.hid hC4; clear hC4; have HF4 := Lib.hid hf4; clear hf4))
      replace hkx := hkx.ch HC4.out (fun hk => by have := HOWN.out _ hk; omega)
      have k1 := hkx.cell (i := 1) rfl
      have k2 := hkx.frozen (i := 1)
      refine ⟨rfl, hK _ _ ?_⟩; clear hK K
      refine Ord.St.fl2 (T' := ?_) 6 [7] _ _ rfl (by kernel_rfl) rfl rfl rfl rfl (fun K w' hk => ?_) ?_
      rotate_left
      · go_step; exact hk
      refine Ord.St.ef 7 [] _ rfl (by kernel_rfl) (fun K hK => ?_)
      go_wp2_with fail
      refine ⟨rfl, hK _ _ ?_⟩; clear hK K
      refine Ord.St.nil ?_
      go_wp2_with fail
      have hcs : Ch [bo] w4 (w4.setCell ⟨bo, 1, none⟩ (.slice (some ⟨gb, 0, none⟩) (k + 1) gc)) := (Ch.refl _ _).setCell (by simp) _
      have hko : blk (w4.setCell ⟨bo, 1, none⟩ (.slice (some ⟨gb, 0, none⟩) (k + 1) gc)) bo [.int .i64 vars, .slice (some ⟨gb, 0, none⟩) (k + 1) gc] := hkx.set (i := 1) _
      generalize (w4.setCell ⟨bo, 1, none⟩ (.slice (some ⟨gb, 0, none⟩) (k + 1) gc)) = W5 at *
      have hz0 := HC.out.size
      have hown := HOWN.out
      have h2l := H2L.out
      have hz1 := HZ1.out
      have hbl := HBL.out
      have hgb : gb ∈ (Value.slice va k vc).ownBlock.toList ∨ wr.heap.size ≤ gb := by
        rcases HF4.out gb rfl with e | e
        · exact .inl (by simp [e])
        · have := HCA.out.size
          exact .inr (by omega)
      have hvl : ∀ z ∈ (Value.slice va k vc).ownBlock.toList, z < wr.heap.size := fun z hz => (HROW.out.lt z (by simpa using hz)).2
      have hbl2 := KO.out.lt
      have hwa : Ch (Value.slice va k vc).ownBlock.toList wr w4 := (HCA.out.mono (by simp)).trans HC4.out (fun z hz => .inl hz)
      have hwb : Ch (bo :: (Value.slice va k vc).ownBlock.toList) wr W5 := (hwa.mono (fun z hz => .inl (List.mem_cons_of_mem _ hz))).trans hcs (fun z hz => .inl (by simp at hz; simp [hz]))
      refine ⟨⟨k + 1, .slice (some ⟨gb, 0, none⟩) (k + 1) gc, es' ++ [.slice ua q uc], by omega, by go_num, HC.out.trans hwb (fun z hz => .inr ?_), K2.out.ch hwb ?_, hko, HO4.out.ch hcs ?_, ?_, ?_⟩, ?_⟩
      · rcases List.mem_cons.1 hz with e | e
        · omega
        · have := hown z e; omega
      · intro hin
        rcases List.mem_cons.1 hin with e | e
        · omega
        · have := hown _ e; omega
      · intro z hz hin
        simp [Value.ownBlock] at hz hin
        subst hz
        subst hin
        rcases hgb with e | e
        · have := hown _ e; omega
        · omega
      · have h6 := HCI.out.ch (O' := b2 :: bo :: [gb]) hwb (fun z hz => .inl (List.mem_cons_of_mem _ hz)) (fun z hz => by
          simp only [List.mem_cons, List.not_mem_nil, or_false] at hz ⊢
          rcases hz with e | e | e
          · exact .inl (.inl e)
          · exact .inl (.inr (.inl e))
          · subst e
            rcases hgb with e | e
            · exact .inl (.inr (.inr e))
            · exact .inr e)
        have hqe := HQ.out
        have h7 := h6.snoc (a := ua) (c := c) (cc := uc) (by rw [hqe]; exact HCPS.out.1) HCPS.out.2 (((Sl.of_ints HRU.out HQ6.out).chO HC4.out (fun p hp => ⟨by have := HUL2.out p.block (HUA.out p hp); simp; omega, fun hin => by have h8 := HUL.out p.block (HUA.out p hp); have h9 := hvl _ hin; omega⟩)).chO hcs (fun p hp => ⟨by have := HUL2.out p.block (HUA.out p hp); have h8 := HC4.out.size; simp at h8; omega, by have h8 := HUL.out p.block (HUA.out p hp); simp; omega⟩)) (fun p hp => ⟨by have := HUL2.out p.block (HUA.out p hp); have h8 := HC4.out.size; have h9 := hcs.size; simp at h8; omega, fun hin => by
          have h8 := HUL.out p.block (HUA.out p hp)
          have h9 := HUL2.out p.block (HUA.out p hp)
          simp only [List.mem_cons, List.not_mem_nil, or_false] at hin
          rcases hin with e | e | e
          · omega
          · omega
          · rcases HF4.out gb rfl with e2 | e2
            · have := hvl gb (by simp [e2]); omega
            · simp at e2; omega⟩)
        rw [hqe] at h7
        rw [HTK.out]
        exact h7
      · intro z hz
        simp [Value.ownBlock] at hz
        subst hz
        rcases hgb with e | e
        · exact hown _ e
        · omega
      · simp [intOf]; omega
    · have hkn : k = n := by omega
      subst hkn
      rw [List.take_of_length_le (by rw [HN.out]; exact Nat.le_refl _)] at hci
      have x0 := ko.cell (i := 0) rfl
      have x1 := ko.cell (i := 1) rfl
      have k2f := k2.frozen (i := 0)
      have k2g := k2.frozen (i := 1)
      have z0 := k2.cell (i := 0) rfl
      have z1 := k2.cell (i := 1) rfl
      have HC := Lib.hid hc; clear hc
      have K2 := Lib.hid k2; clear k2
      have HROW := Lib.hid hrow; clear hrow
      have HCI := Lib.hid hci; clear hci
      have HOWN := Lib.hid hown; clear hown ko
      go_wp2_with fail
      obtain ⟨Wf, hWf⟩ : ∃ Wf, Wf = (wr.setCell ⟨b2, 0, none⟩ (.int .i64 vars)).setCell ⟨b2, 1, none⟩ (.slice va k vc) := ⟨_, rfl⟩
      rw [← hWf]
      have hcf : Ch [b2] wr Wf := by rw [hWf]; exact ((Ch.refl _ _).setCell (.inl (by simp)) _).setCell (.inl (by simp)) _
      have hbf : blk Wf b2 [.int .i64 vars, .slice va k vc] := by rw [hWf]; exact (K2.out.set (i := 0) _).set (i := 1) _
      clear hWf
      have y0 := hbf.cell (i := 0) rfl
      have y1 := hbf.cell (i := 1) rfl
      refine bodyPost_ret (v := .agg #[.int .i64 vars, .slice va k vc]) (by simp [results, Try.results112, go_sem, y0, y1]) rfl ?_
      have hbl := HBL.out
      have h2l := H2L.out
      have hown := HOWN.out
      have hkk := HN.out
      exact ⟨_, rfl, ⟨⟨es', by rw [hkk]; exact HROW.out.ch hcf (fun z hz hin => by have := hown z (by simpa using hz); simp at hin; omega), HCI.out.ch hcf (fun z hz => .inl (by simp at hz; simp [hz])) (by simp)⟩, fun z hz => by have := hown z hz; omega⟩, HC.out.trans hcf (fun z hz => .inr (by simp at hz; omega))⟩
end Go.Proofs.Ytkedpifopclipaa
namespace Go.Proofs.Ytkedpifopclipaa
open Go.RowKit Go.Mem Go.Aig
theorem infoBools : (Try.prog.info? 56).map (fun i => (i.zero, i.size, i.bytes)) = some (some (.slice none 0 0), 1, 24) := by kernel_rfl
theorem slBoolss : SliceTy Try.prog 69 56 1 24 (.slice none 0 0) := ⟨Try.underlying69, infoBools, rfl, by decide⟩
/-- lists of truths in memory: their slices, apart from the blocks O -/
structure BsIn (w : World) (O : List Nat) (es : List Value) (cls : List (List Bool)) : Prop where
  len : es.length = cls.length
  each : ∀ (i : Nat) (c : List Bool), cls[i]? = some c → ∃ a cc, es[i]? = some (.slice a c.length cc) ∧ Sb w a c ∧ ∀ p, a = some p → p.block < w.heap.size ∧ p.block ∉ O
theorem BsIn.ch {w w' : World} {O O' F : List Nat} {es : List Value} {cls : List (List Bool)} (h : BsIn w O es cls) (hc : Ch F w w') (hF : ∀ q ∈ F, q ∈ O ∨ w.heap.size ≤ q) (hO : ∀ q ∈ O', q ∈ O ∨ w.heap.size ≤ q) : BsIn w' O' es cls :=
  ⟨h.len, fun i c hi => by
    obtain ⟨a, cc, h1, h4, h5⟩ := h.each i c hi
    refine ⟨a, cc, h1, h4.ch hc (fun p hp hin => ?_), fun p hp => ⟨Nat.lt_of_lt_of_le (h5 p hp).1 hc.size, fun hin => ?_⟩⟩
    · have := h5 p hp
      rcases hF _ hin with e | e
      · exact this.2 e
      · omega
    · have := h5 p hp
      rcases hO _ hin with e | e
      · exact this.2 e
      · omega⟩
theorem BsIn.snoc {w : World} {O : List Nat} {es : List Value} {cls : List (List Bool)} (h : BsIn w O es cls) {a : Option Addr} {c : List Bool} {cc : Nat} (h4 : Sb w a c) (h5 : ∀ p, a = some p → p.block < w.heap.size ∧ p.block ∉ O) : BsIn w O (es ++ [.slice a c.length cc]) (cls ++ [c]) :=
  ⟨by simp [h.len], fun i d hi => by
    by_cases hlt : i < cls.length
    · rw [List.getElem?_append_left hlt] at hi
      obtain ⟨a', cc', q1, q2⟩ := h.each i d hi
      exact ⟨a', cc', by rw [List.getElem?_append_left (by rw [h.len]; exact hlt)]; exact q1, q2⟩
    · have hlt2 := (List.getElem?_eq_some_iff.1 hi).1
      rw [List.length_append] at hlt2
      have hie : i = cls.length := by simp at hlt2; omega
      subst hie
      rw [List.getElem?_append_right (Nat.le_refl _), Nat.sub_self] at hi
      have hd : c = d := by simpa using hi
      subst hd
      exact ⟨a, cc, by rw [List.getElem?_append_right (by rw [h.len]; exact Nat.le_refl _), h.len, Nat.sub_self]; rfl, h4, h5⟩⟩
theorem patL_snoc {n x j : Nat} (hj : j < n) : (patL n x).take (j + 1) = (patL n x).take j ++ [x.testBit j] := by
  rw [List.take_add_one]
  congr 1
  unfold patL
  rw [List.getElem?_map, List.getElem?_range hj]
  rfl
theorem pow64 {n D : Nat} (hD : 2 ^ n = D) (hn : n ≤ 20) : wrap64 ((2 : Int) ^ n) = ((D : Nat) : Int) := by
  have e : (2 : Int) ^ n = ((2 ^ n : Nat) : Int) := by simp
  have h2 : 2 ^ n ≤ 2 ^ 20 := Nat.pow_le_pow_right (by omega) hn
  rw [e, hD]
  rw [hD] at h2
  exact IntWalk.wrap64_in _ ⟨by omega, by omega⟩
set_option maxRecDepth 100000 in
set_option maxHeartbeats 4000000 in
theorem assign27_is (w : World) (n : Nat) (hn : n ≤ 6) :
    Calls Try.prog 37 #[.int .i64 n] w fun e w' => ∃ v es, e = .returned v ∧ row w' 56 1 v (2 ^ n) es ∧ BsIn w' v.ownBlock.toList es ((List.range (2 ^ n)).map (patL n)) ∧ (∀ q ∈ v.ownBlock.toList, w.heap.size ≤ q) ∧ Ch [] w w' := by
  obtain ⟨D, hD⟩ : ∃ D, 2 ^ n = D := ⟨_, rfl⟩
  have hwD0 := pow64 hD (by omega)
  have hwD : ∀ [Nonempty Unit], wrap64 ((2 : Int) ^ n) = ((D : Nat) : Int) := hwD0
  have hD64 : D ≤ 64 := by rw [← hD]; exact Nat.pow_le_pow_right (by omega) hn
  have hmin := min_nat n 6 n (by omega)
  rw [hD]
  clear hwD0 hD
  have HWD := Lib.hid hwD; clear hwD
  have HMIN := Lib.hid hmin
  have d0 : decide ((0 : Int) ≤ (n : Int)) = true := decide_eq_true (by omega)
  have d1 : decide ((n : Int) < 64) = true := decide_eq_true (by omega)
  rw [show ((6 : Nat) : Int) = 6 from rfl] at hmin
  go_enter Try.func37, Try.ntmps37
  have hwD : ∀ [Nonempty Unit], wrap64 ((2 : Int) ^ n) = ((D : Nat) : Int) := HWD.out
  go_wp2_with fail
  rw [HWD.out]
  clear hwD
  go_loopw [3, 10] (fun o i wr => ∃ (k : Nat) (es : List Value), k ≤ D ∧ i = .int .i64 k ∧ Ch [] w wr ∧ row wr 56 1 o k es ∧ BsIn wr o.ownBlock.toList es ((List.range k).map (patL n)) ∧ ∀ q ∈ o.ownBlock.toList, w.heap.size ≤ q) (fun _ i _ => D - (intOf i).toNat)
  case atStart => exact ⟨0, [], by omega, rfl, Ch.refl _ _, ⟨rfl, .inl ⟨rfl, rfl⟩⟩, ⟨rfl, by simp⟩, by simp⟩
  case round =>
    obtain ⟨k, es, hk, rfl, hc, hrow, hbs, hlo⟩ := hrel
    obtain ⟨oa, oc, rfl⟩ := row.shape hrow
    by_cases hlt : k < D
    · have hbz := fun d => bit_i64 k d (by omega)
      have HBZ := Lib.hid hbz; clear hbz
      obtain ⟨wo, hwo⟩ : ∃ wo, wo = wr := ⟨_, rfl⟩
      subst hwo
      have HC := Lib.hid hc; clear hc
      have HROW := Lib.hid hrow; clear hrow
      have HBS := Lib.hid hbs; clear hbs
      have HLO := Lib.hid hlo; clear hlo
      have hpl : (patL n k).length = n := patL_len n k
      have hps := fun j (hj : j < n) => patL_snoc (n := n) (x := k) hj
      obtain ⟨P, hP⟩ : ∃ P, patL n k = P := ⟨_, rfl⟩
      rw [hP] at hpl hps
      have HP := Lib.hid hP; clear hP
      have HPL := Lib.hid hpl; clear hpl
      have HPS := Lib.hid hps; clear hps
      have dk : decide ((k : Int) < (D : Int)) = true := decide_eq_true (by omega)
      go_wp2_with fail
      go_loopw [5, 14] (fun u i wr => ∃ j : Nat, j ≤ n ∧ i = .int .i64 j ∧ Ch [] wo wr ∧ row wr 4 1 u j (bools (P.take j)) ∧ ∀ q ∈ u.ownBlock.toList, wo.heap.size ≤ q) (fun _ i _ => n - (intOf i).toNat)
      case atStart => exact ⟨0, by omega, rfl, Ch.refl _ _, ⟨rfl, .inl ⟨rfl, rfl⟩⟩, by simp⟩
      case round =>
        obtain ⟨j, hj, rfl, hc, hrow, hlo⟩ := hrel
        obtain ⟨ua, uc, rfl⟩ := row.shape hrow
        by_cases hltj : j < n
        · have hbit := HBZ.out j
          rw [← Nat.testBit_eq_decide_div_mod_eq] at hbit
          have hps := HPS.out j hltj
          have h1 : decide ((0 : Int) ≤ j) = true := decide_eq_true (by omega)
          have h2 : decide ((j : Int) < 64) = true := decide_eq_true (by omega)
          generalize k.testBit j = tb at hps hbit
          have hcA : Ch [] wr (wr.alloc (.cells #[.bool tb] 4)) := (Ch.refl _ _).alloc _
          have hrA := hrow.ch hcA (by simp)
          have hbA : blk (wr.alloc (.cells #[.bool tb] 4)) wr.heap.size [.bool tb] := blk.new' _ _ rfl
          have HSU := Lib.hid hps; clear hps
          have HRA := Lib.hid hrA; clear hrA hrow
          have HBA := Lib.hid hbA; clear hbA
          have HCA := Lib.hid hcA; clear hcA
          have HCP := Lib.hid hc; clear hc
          have HLO2 := Lib.hid hlo; clear hlo
          go_wp2_with (at_builtin; go_loud (refine wpList_append_row slBools rfl _ _ rfl (v := .slice ua j uc) (n := j) (xs := bools (P.take j)) rfl HRA.out (ad := ⟨wr.heap.size, 0, none⟩) (m := 1) (c := 1) (news := [.bool tb]) rfl rfl (news_blk HBA.out) (by simp [Value.oneCell']) (by omega) (by omega) ?_; intro v' w5 hown4 hC4 hf4; have HO4 := Lib.hid hown4; clear hown4; have HCC4 := Lib.hid hC4; clear hC4; have HF4 := Lib.hid hf4; clear hf4))
          go_roundw
          case rel =>
            obtain ⟨q1, q2⟩ := app_step HCP.out HCA.out HLO2.out HCC4.out HF4.out
            refine ⟨j + 1, by omega, by go_num, q1, ?_, q2⟩
            rw [HSU.out, show bools (P.take j ++ [tb]) = bools (P.take j) ++ [.bool tb] by simp [bools]]
            exact HO4.out
          case measure => simp [intOf]; omega
        · have hjn : j = n := by omega
          subst hjn
          rw [List.take_of_length_le (by rw [HPL.out]; exact Nat.le_refl _)] at hrow
          have hcA : Ch [] wr (wr.alloc (.cells #[.slice ua j uc] 56)) := (Ch.refl _ _).alloc _
          have hcOA := hc.trans hcA (by simp)
          have hrA := HROW.out.ch hcOA (by simp)
          have hbA : blk (wr.alloc (.cells #[.slice ua j uc] 56)) wr.heap.size [.slice ua j uc] := blk.new' _ _ rfl
          have hsb := row.sv hrow rfl (by omega)
          have hsbA := hsb.ch hcA (by simp)
          have hlt2 : ∀ p, ua = some p → p.block < wr.heap.size ∧ wo.heap.size ≤ p.block := fun p hp => by
            subst hp
            rcases hrow.2 with ⟨e1, _⟩ | ⟨g, cap, cur, e1, _⟩
            · cases e1
            · cases e1
              exact ⟨(hrow.lt g rfl).2, hlo g (by simp)⟩
          have hol : ∀ q, (Value.slice oa k oc).ownBlock = some q → q < wo.heap.size := fun q hq => (HROW.out.lt q hq).2
          have hlo2 := HLO.out
          have HSBA := Lib.hid hsbA; clear hsbA hsb
          have HLT2 := Lib.hid hlt2; clear hlt2
          have HOL := Lib.hid hol; clear hol
          have HBSA := Lib.hid (HBS.out.ch hcOA (by simp) (fun q hq => .inl hq)); clear HBS
          have HRA := Lib.hid hrA; clear hrA hrow HROW
          have HBA := Lib.hid hbA; clear hbA
          have HCA := Lib.hid hcOA; clear hcOA hcA
          have HCP := Lib.hid HC.out; clear HC hc hlo hlo2
          go_wp2_with (at_builtin; go_loud (refine wpList_append_row slBoolss rfl _ _ rfl (v := .slice oa k oc) (n := k) (xs := es) rfl HRA.out (ad := ⟨wr.heap.size, 0, none⟩) (m := 1) (c := 1) (news := [.slice ua j uc]) rfl rfl (news_blk HBA.out) (by simp [Value.oneCell']) (by omega) (by omega) ?_; intro v' w5 hown4 hC4 hf4; have HO4 := Lib.hid hown4; clear hown4; have HCC4 := Lib.hid hC4; clear hC4; have HF4 := Lib.hid hf4; clear hf4))
          go_roundw
          case rel =>
            obtain ⟨q1, q2⟩ := app_step HCP.out HCA.out HLO.out HCC4.out HF4.out
            refine ⟨k + 1, es ++ [Value.slice ua j uc], by omega, by go_num, q1, HO4.out, ?_, q2⟩
            rw [List.range_succ, List.map_append, show List.map (patL j) [k] = [P] by rw [← HP.out]; rfl]
            have h5 := HBSA.out.ch (O' := v'.ownBlock.toList) HCC4.out (fun q hq => .inl hq) (fun q hq => by
              rcases HF4.out q (by simpa using hq) with e | e
              · exact .inl (by rw [e]; simp)
              · exact .inr e)
            have h6 := h5.snoc (a := ua) (c := P) (cc := uc) (HSBA.out.ch HCC4.out (fun p hp hin => by
              have h7 := HLT2.out p hp
              have h8 := HOL.out p.block (by simpa using hin)
              omega)) (fun p hp => ⟨by have h7 := HLT2.out p hp; have := HCC4.out.size; simp at this; omega, fun hin => by
              have h7 := HLT2.out p hp
              rcases HF4.out p.block (by simpa using hin) with e | e
              · have h8 := HOL.out p.block e
                omega
              · simp at e; omega⟩)
            rw [HPL.out] at h6
            exact h6
          case measure => simp [intOf]; omega
    · have hkD : k = D := by omega
      subst hkD
      have HROW := Lib.hid hrow; clear hrow
      have HBS := Lib.hid hbs; clear hbs
      have HLO := Lib.hid hlo; clear hlo
      have HC := Lib.hid hc; clear hc
      go_wp2_with fail
      go_ret
      exact ⟨_, _, rfl, HROW.out, HBS.out, HLO.out, HC.out⟩
end Go.Proofs.Ytkedpifopclipaa
namespace Go.Aig
/-- the models of clauses with a number up to one, in order -/
def modsTo (n : Nat) (cls : List (List Int)) (k : Nat) : List (List Bool) := ((List.range k).filter fun way => forV (patH n way) cls).map (patH n)
def modsOf (n : Nat) (cls : List (List Int)) : List (List Bool) := modsTo n cls (2 ^ n)
theorem modsTo_succ (n : Nat) (cls : List (List Int)) (k : Nat) : modsTo n cls (k + 1) = modsTo n cls k ++ if forV (patH n k) cls then [patH n k] else [] := by
  unfold modsTo
  rw [List.range_succ, List.filter_append, List.map_append]
  congr 1
  cases h : forV (patH n k) cls <;> simp [List.filter, h]
theorem modsTo_at {n : Nat} {cls : List (List Int)} {k : Nat} (hk : k < 2 ^ n) (h : forV (patH n k) cls = true) : (modsOf n cls)[(modsTo n cls k).length]? = some (patH n k) := by
  have hpre : ∀ d, ∃ t, modsTo n cls (k + 1 + d) = modsTo n cls (k + 1) ++ t := by
    intro d
    induction d with
    | zero => exact ⟨[], by simp⟩
    | succ d ih =>
      obtain ⟨t, e⟩ := ih
      exact ⟨t ++ _, by rw [← Nat.add_assoc, modsTo_succ, e, List.append_assoc]⟩
  obtain ⟨t, e⟩ := hpre (2 ^ n - (k + 1))
  rw [show k + 1 + (2 ^ n - (k + 1)) = 2 ^ n by omega, modsTo_succ, h, if_pos rfl] at e
  unfold modsOf
  rw [e, List.append_assoc, List.getElem?_append_right (Nat.le_refl _), Nat.sub_self]
  rfl
theorem patH_snoc {n way j : Nat} (hj : j < n) : (patH n way)[j]? = some (way.testBit (n - 1 - j)) := by
  unfold patH
  rw [List.getElem?_map, List.getElem?_range hj]
  rfl
end Go.Aig
namespace Go.Proofs.Ytkedpifopclipaa
open Go.RowKit Go.Mem Go.Aig
/-- a model that is yielded: which one, and its block -/
structure MC where
  k : Nat
  b : Nat
def mcEnc (n : Nat) (x : MC) : Array Value := #[.slice (some ⟨x.b, 0, none⟩) n n]
/-- what is known when a model is yielded, and what has to be known behind it; I k: k models were taken; the blocks O are the consumer's -/
def MK (B : Nat) (ml : List (List Bool)) (O : List Nat) (I : Nat → World → Prop) (x : MC) (W : World) : Prop := ∃ c, I x.k W ∧ ml[x.k]? = some c ∧ blk W x.b (bools c) ∧ x.b ∉ O ∧ x.b ≠ B ∧ x.b ≠ B + 1
def MJ (I : Nat → World → Prop) (x : MC) (W : World) : Prop := I (x.k + 1) W
/-- what a consumer's state has to stand, and to give -/
structure MI (bo n : Nat) (ca : Option Addr) (z cc : Nat) (es : List Value) (cls : List (List Int)) (O : List Nat) (I : Nat → World → Prop) : Prop where
  lt : ∀ k W, I k W → ∀ q ∈ O, q < W.heap.size
  ch : ∀ k A A', I k A → Ch [] A A' → I k A'
  f : ∀ k W, I k W → blk W bo [.int .i64 n, .slice ca z cc] ∧ Sv W ca es ∧ ClsIn W [] es cls
section
set_option maxRecDepth 100000 in
set_option maxHeartbeats 8000000 in
theorem models1_seq {bo n : Nat} {ca : Option Addr} {z cc : Nat} {es : List Value} {cls : List (List Int)} (hz : cls.length = z) (hok : forOk n cls) (hn16 : n ≤ 16) {O : List Nat} {I : Nat → World → Prop} (hI : MI bo n ca z cc es cls O I)
    (N : Nat) (hN : 1 ≤ N) (B : Nat) (lp : Nat) (X : World → Prop) (hX : ∀ A A' L, X A → Ch L A A' → (∀ q ∈ L, q ≠ B ∧ q ≠ B + 1) → X A') (hXB : ∀ A, X A → B + 2 ≤ A.heap.size)
    (hY : ∀ x W, MK B (modsOf n cls) O I x W → X W → YieldAt Fence.wide (N - 1) Try.prog lp (mcEnc n x) W fun e W' => e = .returned (.bool true) ∧ MJ I x W' ∧ X W')
    (W : World) (hI0 : I 0 W) (hXW : X W) :
    CallsIn Fence.wide N Try.prog 113 (#[.func (.yield lp) #[] #[]] ++ #[.pointer (some ⟨bo, 0, none⟩)]) W fun e W' => (∃ v, e = .returned v) ∧ I (modsOf n cls).length W' ∧ X W' := by
  show CallsIn Fence.wide N Try.prog 113 #[.func (.yield lp) #[] #[], .pointer (some ⟨bo, 0, none⟩)] W _
  obtain ⟨D, hD⟩ : ∃ D, 2 ^ n = D := ⟨_, rfl⟩
  have hwD := pow64 hD (by omega)
  have hD64 : D ≤ 65536 := by rw [← hD]; exact Nat.pow_le_pow_right (by omega) hn16
  have HWD := Lib.hid hwD; clear hwD
  have hmods : modsOf n cls = modsTo n cls D := by unfold modsOf; rw [hD]
  have hat := fun (k : Nat) (hk : k < D) => modsTo_at (n := n) (cls := cls) (k := k) (by rw [hD]; exact hk)
  rw [hmods] at hY ⊢
  simp only [hmods] at hat
  have y0 := (hI.f _ _ hI0).1.cell (i := 0) rfl
  have d0 : decide ((0 : Int) ≤ (n : Int)) = true := decide_eq_true (by omega)
  have d1 : decide ((n : Int) < 64) = true := decide_eq_true (by omega)
  have HAT := Lib.hid hat; clear hat hmods
  have HD := Lib.hid hD; clear hD
  have HI := Lib.hid hI; clear hI
  have HX := Lib.hid hX; clear hX
  have HY := Lib.hid hY; clear hY
  have HXB := Lib.hid hXB; clear hXB
  have HI0 := Lib.hid hI0; clear hI0
  have HXW := Lib.hid hXW; clear hXW
  have HOK := Lib.hid hok; clear hok
  have HZ := Lib.hid hz; clear hz
  refine callsIn_of_wp Try.func113 rfl trivial ?_ rfl
  simp only [Try.ntmps113, List.size_toArray, List.length_cons, List.length_nil, Nat.reduceAdd, Nat.reduceSub, Array.replicate_succ, Array.replicate_zero, List.push_toArray, List.append_toArray, List.nil_append, List.cons_append]
  have hwD : ∀ [Nonempty Unit], wrap64 ((2 : Int) ^ n) = ((D : Nat) : Int) := HWD.out
  gi_wp2
  rw [HWD.out]
  clear hwD y0
  gi_loopw [9] (fun i wr => ∃ k : Nat, k ≤ D ∧ i = .int .i64 k ∧ I (modsTo n cls k).length wr ∧ X wr) (fun i _ => D - (intOf i).toNat)
  case atStart => exact ⟨0, by omega, rfl, HI0.out, HXW.out⟩
  case round =>
    clear HI0 HXW
    obtain ⟨k, hk, rfl, hi, hx⟩ := hrel
    by_cases hlt : k < D
    · have hf := HI.out.f _ _ hi
      have y0 := hf.1.cell (i := 0) rfl
      have hmk := fun W => run_make_bools W n (by omega)
      have dk : decide ((k : Int) < (D : Int)) = true := decide_eq_true (by omega)
      have hbz := fun d => bit_i64 k d (by omega)
      have hph := fun j (hj : j < n) => patH_snoc (n := n) (way := k) hj
      have hpl := patH_len n k
      have hsu := modsTo_succ n cls k
      have hat := HAT.out k hlt
      obtain ⟨P, hP⟩ : ∃ P, patH n k = P := ⟨_, rfl⟩
      rw [hP] at hph hpl hsu hat
      clear hP
      have HBZ := Lib.hid hbz; clear hbz
      have HPH := Lib.hid hph; clear hph
      have HPL := Lib.hid hpl; clear hpl
      have HSU := Lib.hid hsu; clear hsu
      have HATK := Lib.hid hat; clear hat
      have HIK := Lib.hid hi; clear hi
      have HXK := Lib.hid hx; clear hx
      have HF := Lib.hid hf; clear hf
      gi_wp2
      obtain ⟨wo, hwo⟩ : ∃ wo, wo = wr := ⟨_, rfl⟩
      rw [← hwo]
      refine wpIn_named fun W7 hW7 => ?_
      have hb0 := alw_blk (xs := bools (List.replicate n false)) hW7
      have hc0 := alw_ch hW7
      subst hwo
      clear hW7
      obtain ⟨mb, hmb⟩ : ∃ mb, mb = wo.heap.size := ⟨_, rfl⟩
      rw [← hmb] at hb0 ⊢
      have HMB := Lib.hid hmb; clear hmb
      have HB0 := Lib.hid hb0; clear hb0
      have HC0 := Lib.hid hc0; clear hc0
      gi_wp2
      clear y0
      gi_loopw [17] (fun i wr => ∃ j : Nat, j ≤ n ∧ i = .int .i64 j ∧ Ch [] wo wr ∧ blk wr mb (bools (P.take j ++ List.replicate (n - j) false))) (fun i _ => n - (intOf i).toNat)
      case atStart => exact ⟨0, by omega, rfl, HC0.out, HB0.out⟩
      case round =>
        clear HC0 HB0
        obtain ⟨j, hj, rfl, hc, hb⟩ := hrel
        by_cases hltj : j < n
        · obtain ⟨s, hs⟩ : ∃ s, n - 1 - j = s := ⟨_, rfl⟩
          have hph := HPH.out j hltj
          rw [hs] at hph
          have hbit := HBZ.out s
          rw [← Nat.testBit_eq_decide_div_mod_eq] at hbit
          generalize k.testBit s = tb at hph hbit
          have hse : (n : Int) - 1 - (j : Int) = (s : Int) := by omega
          have y0 := (HF.out.1.ch hc (by simp)).cell (i := 0) rfl
          have h1 : decide ((0 : Int) ≤ s) = true := decide_eq_true (by omega)
          have h2 : decide ((s : Int) < 64) = true := decide_eq_true (by omega)
          obtain ⟨old, c0⟩ : ∃ old, wr.cell? ⟨mb, j, none⟩ = some old := by
            obtain ⟨v, hv⟩ : ∃ v, (bools (P.take j ++ List.replicate (n - j) false))[j]? = some v := ⟨_, List.getElem?_eq_getElem (by simp [bools, HPL.out]; omega)⟩
            exact ⟨v, hb.cell hv⟩
          have f0 := hb.frozen (i := j)
          have hset := hb.set (i := j) (.bool tb)
          have e1 : (bools (P.take j ++ List.replicate (n - j) false)).set j (.bool tb) = bools (P.take (j + 1) ++ List.replicate (n - (j + 1)) false) := by
            have e2 : P.take (j + 1) = P.take j ++ [tb] := by rw [List.take_add_one, hph]; rfl
            rw [e2]
            unfold bools
            rw [List.map_append, List.set_append_right _ _ (by simp [HPL.out]; omega), List.length_map, List.length_take, HPL.out, Nat.min_eq_left (by omega), Nat.sub_self, show n - j = (n - (j + 1)) + 1 by omega, List.replicate_succ, List.map_cons, List.set_cons_zero]
            simp
          rw [e1] at hset
          have HSET := Lib.hid hset; clear hset e1
          have HC := Lib.hid hc; clear hc hb hph hs
          gi_wp2
          exact ⟨⟨j + 1, by omega, by go_num, HC.out.setCell (.inr (by rw [HMB.out]; exact Nat.le_refl _)) _, HSET.out⟩, by simp [intOf]; omega⟩
        · have hjn : j = n := by omega
          subst hjn
          rw [List.take_of_length_le (by rw [HPL.out]; exact Nat.le_refl _), Nat.sub_self, show P ++ List.replicate 0 false = P by simp] at hb
          have hf := HF.out
          have y0 := (hf.1.ch hc (by simp)).cell (i := 0) rfl
          have y1 := (hf.1.ch hc (by simp)).cell (i := 1) rfl
          have hfl := fofails_is (w := wr) z cc HZ.out (hf.2.1.ch hc (by simp)) (hf.2.2.ch hc (by simp) (O' := []) (by simp)) HOK.out (va := some ⟨mb, 0, none⟩) (mv := P) j HPL.out (Sv.of_blk hb (by simp [HPL.out]; omega))
          have HFL := Lib.hid hfl; clear hfl
          have HC := Lib.hid hc; clear hc
          have HB := Lib.hid hb; clear hb hf
          gi_wp2
          clear y0 y1
          refine ⟨trivial, callsIn_wide.2 (HFL.out.mono ?_)⟩
          rintro e w9 ⟨i, hi1, hi2, hi3, rfl, hc9⟩
          have hcA := HC.out.trans hc9 (by simp)
          have hik := HI.out.ch _ _ _ HIK.out hcA
          have hxk := HX.out _ _ _ HXK.out hcA (by simp)
          have hb9 := HB.out.ch hc9 (by simp)
          have hsu := HSU.out
          have hat := HATK.out
          clear HC HB HFL hc9
          cases hfv : forV P cls
          · rw [hfv] at hi3 hsu
            have d9 : decide (i < 0) = false := decide_eq_false (by have := of_decide_eq_true (p := 0 ≤ i) (by rw [hi3]; rfl); omega)
            rw [if_neg (by simp), List.append_nil] at hsu
            rw [← hsu] at hik
            have HIK2 := Lib.hid hik; clear hik
            have HXK2 := Lib.hid hxk; clear hxk
            clear hat hsu hi1 hi2 hi3 hb9 hcA hfv
            gi_wp2
            refine ⟨fun f hf => (nomatch hf), ?_⟩
            gi_wp2
            go_roundw
            case rel => exact ⟨k + 1, by omega, by go_num, HIK2.out, HXK2.out⟩
            case measure => simp [intOf]; omega
          · rw [hfv] at hi3 hsu
            have d9 : decide (i < 0) = true := decide_eq_true (by have := of_decide_eq_false (p := 0 ≤ i) (by rw [hi3]; rfl); omega)
            rw [if_pos rfl] at hsu
            have hsl : (modsTo j cls (k + 1)).length = (modsTo j cls k).length + 1 := by rw [hsu]; simp
            have hxb := HXB.out _ HXK.out
            have hmb := HMB.out
            have hY1 := HY.out ⟨(modsTo j cls k).length, mb⟩ w9 ⟨P, hik, hat hfv, hb9, (show mb ∉ O from fun hin => by have := HI.out.lt _ _ HIK.out _ hin; omega), (show mb ≠ B by omega), (show mb ≠ B + 1 by omega)⟩ hxk
            obtain ⟨fn, tmps, assign, body, hy1, hR⟩ := hY1
            simp only [mcEnc] at hy1
            have HSL := Lib.hid hsl; clear hsl
            clear hat hsu hi1 hi2 hi3 hb9 hcA hfv hik hxk hxb hmb
            gi_wp2
            refine hR.mono ?_
            rintro e W2 ⟨rfl, hj, hx'⟩
            unfold MJ at hj
            rw [← HSL.out] at hj
            have HIK2 := Lib.hid hj; clear hj
            have HXK2 := Lib.hid hx'; clear hx' hR hy1
            gi_wp2
            go_roundw
            case rel => exact ⟨k + 1, by omega, by go_num, HIK2.out, HXK2.out⟩
            case measure => simp [intOf]; omega
    · have hkD : k = D := by omega
      subst hkD
      have HIK := Lib.hid hi; clear hi
      have HXK := Lib.hid hx; clear hx
      gi_wp2
      go_end0
      exact ⟨⟨_, rfl⟩, HIK.out, HXK.out⟩
end
end Go.Proofs.Ytkedpifopclipaa
namespace Go.Proofs.Ytkedpifopclipaa
open Go.RowKit Go.Mem Go.Aig
theorem fnvfoModels1 : Fnv 113 := fnv_of Try.func113 (by simp [Try.f113]) (by simp [Try.f113])
set_option maxRecDepth 100000 in
set_option maxHeartbeats 4000000 in
theorem foModels_is {w : World} {vars : Nat} {ca : Option Addr} {es : List Value} {cls : List (List Int)} (n cc : Nat) (hn : cls.length = n) (hv : Sv w ca es) (hI : ClsIn w [] es cls) (hok : forOk vars cls) (h16 : vars ≤ 16) :
    Calls Try.prog 45 #[.agg #[.int .i64 vars, .slice ca n cc]] w fun e w' => ∃ bo cb cc2 es2, e = .returned (.tuple #[.func (.func 113) #[] #[.pointer (some ⟨bo, 0, none⟩)], .int .i64 0]) ∧ w.heap.size ≤ bo ∧ blk w' bo [.int .i64 vars, .slice cb n cc2] ∧ Sv w' cb es2 ∧ ClsIn w' [] es2 cls ∧ (∀ p, cb = some p → p.block < w'.heap.size) ∧ Ch [] w w' := by
  have hCk := fun W (h : Ch [] w W) => foCheck_ok (w := W) n cc hn (hv.ch h (by simp)) (hI.ch h (by simp) (by simp)) hok
  have hn6 : n ≤ 300000 := by have := hok.2.1; omega
  have hCp := fun W (h : Ch [] w W) => foCopy_is (w := W) (vars := vars) n cc hn hn6 (hv.ch h (by simp)) (hI.ch h (by simp) (by simp)) (fun c hc => (hok.2.2 c hc).2.2.1)
  clear hv hI hok
  have HN := Lib.hid hn; clear hn
  have HCK := Lib.hid hCk; clear hCk
  have HCP := Lib.hid hCp; clear hCp
  have d0 : decide (16 < vars) = false := decide_eq_false (by omega)
  go_enter Try.func45, Try.ntmps45
  go_wp2_with fail
  refine calls_named fun W1 hW1 => ?_
  have hb := alw_blk (xs := [.int .i64 vars, .slice ca n cc]) hW1
  have hc1 := alw_ch hW1
  clear hW1
  obtain ⟨bx, hbx⟩ : ∃ bx, bx = w.heap.size := ⟨_, rfl⟩
  rw [← hbx] at hb ⊢
  clear hbx
  have HB := Lib.hid hb; clear hb
  refine (HCK.out W1 hc1).mono ?_
  rintro e w2 ⟨rfl, hc2⟩
  have HB2 := Lib.hid (HB.out.ch hc2 (by simp))
  have HC2 := Lib.hid (hc1.trans hc2 (by simp)); clear hc2 hc1 HB
  have c0 := HB2.out.cell (i := 0) rfl
  have c1 := HB2.out.cell (i := 1) rfl
  go_wp2_with fail
  refine (HCP.out w2 HC2.out).mono ?_
  rintro e w3 ⟨cv, rfl, hfor, hc3⟩
  obtain ⟨es2, h1, h2⟩ := hfor.ex
  rw [HN.out] at h1
  obtain ⟨cb, cc2, rfl⟩ := row.shape h1
  have hal := row.alt h1
  have HAL := Lib.hid hal; clear hal
  have HSV := Lib.hid (row.sv h1 rfl (by omega)); clear h1
  have HCI := Lib.hid h2; clear h2 hfor
  have HC3 := Lib.hid (HC2.out.trans hc3 (by simp)); clear hc3 HC2 c0 c1
  have hsz := HC3.out.size
  have HSZ := Lib.hid hsz; clear hsz
  go_upto_region 7 with fail
  refine wp_alw ?_
  intro W4 hW4
  have hb := alw_blk (xs := [.int .i64 vars, .slice cb n cc2]) hW4
  have hc4 := alw_ch hW4
  clear hW4
  have hsz := HSZ.out
  have hal4 : ∀ p, cb = some p → p.block < W4.heap.size := fun p hp => by have := HAL.out p hp; have := hc4.size; omega
  have HAL4 := Lib.hid hal4; clear hal4 HAL
  generalize w3.heap.size = bo at *
  have HB := Lib.hid hb; clear hb
  have HSV4 := Lib.hid (HSV.out.ch hc4 (by simp))
  have HCI4 := Lib.hid (HCI.out.ch (O' := []) hc4 (by simp) (by simp))
  have HC4 := Lib.hid (HC3.out.trans hc4 (by simp)); clear hc4
  have HSZ := Lib.hid hsz; clear hsz
  go_wp2_with fail
  go_ret2
  exact ⟨bo, cb, cc2, es2, rfl, HSZ.out, HB.out, HSV4.out, HCI4.out, HAL4.out, HC4.out⟩
/-- what a loop over models knows of the formula, beside what it changes -/
structure CtF (B bn bo vars : Nat) (ca : Option Addr) (z cc : Nat) (es : List Value) (cls : List (List Int)) (W : World) : Prop where
  b : blk W bo [.int .i64 vars, .slice ca z cc]
  s : Sv W ca es
  c : ClsIn W [bn, B, B + 1] es cls
  ne : bo ∉ [bn, B, B + 1]
  al : ∀ p, ca = some p → p.block ∉ [bn, B, B + 1]
theorem CtF.ch {B bn bo vars : Nat} {ca : Option Addr} {z cc : Nat} {es : List Value} {cls : List (List Int)} {A A' : World} {F : List Nat} (h : CtF B bn bo vars ca z cc es cls A) (hc : Ch F A A') (hF : ∀ q ∈ F, q ∈ [bn, B, B + 1]) : CtF B bn bo vars ca z cc es cls A' :=
  ⟨h.b.ch hc (fun hin => h.ne (hF _ hin)), h.s.ch hc (fun p hp hin => h.al p hp (hF _ hin)), h.c.ch hc (fun q hq => .inl (hF q hq)) (fun q hq => .inl hq), h.ne, h.al⟩
theorem CtF.new {B bn bo vars : Nat} {ca : Option Addr} {z cc : Nat} {es : List Value} {cls : List (List Int)} {w A : World} (hb : blk w bo [.int .i64 vars, .slice ca z cc]) (hs : Sv w ca es) (hcl : ClsIn w [] es cls) (hal : ∀ p, ca = some p → p.block < w.heap.size) (hc : Ch [] w A) (hbn : w.heap.size ≤ bn) (hB : w.heap.size ≤ B) : CtF B bn bo vars ca z cc es cls A :=
  ⟨hb.ch hc (by simp), hs.ch hc (by simp), hcl.ch hc (by simp) (fun q hq => .inr (by simp at hq; omega)), by have := hb.lt; simp; omega, fun p hp => by have := hal p hp; simp; omega⟩
/-- what Count knows when k models were taken -/
structure CtI (B bn bo vars : Nat) (ca : Option Addr) (z cc : Nat) (es : List Value) (cls : List (List Int)) (W0 : World) (k : Nat) (W : World) : Prop where
  n : blk W bn [.int .i64 k]
  f : CtF B bn bo vars ca z cc es cls W
  c : Ch [bn, B, B + 1] W0 W
theorem CtI.mi {B bn bo vars : Nat} {ca : Option Addr} {z cc : Nat} {es : List Value} {cls : List (List Int)} {W0 : World} : MI bo vars ca z cc es cls [bn] (CtI B bn bo vars ca z cc es cls W0) :=
  ⟨fun k W h q hq => by simp at hq; subst hq; exact h.n.lt,
    fun k A A' h hc => ⟨h.n.ch hc (by simp), h.f.ch hc (by simp), h.c.trans hc (by simp)⟩,
    fun k W h => ⟨h.f.b, h.f.s, h.f.c.ch (Ch.refl [] _) (by simp) (by simp)⟩⟩
theorem CtI.books {B bn bo vars : Nat} {ca : Option Addr} {z cc : Nat} {es : List Value} {cls : List (List Int)} {W0 A A' : World} {k : Nat} (hb : bn < B) (h : CtI B bn bo vars ca z cc es cls W0 k A) (hc : Ch [B, B + 1] A A') : CtI B bn bo vars ca z cc es cls W0 k A' :=
  ⟨h.n.ch hc (by simp; omega), h.f.ch hc (fun q hq => List.mem_cons_of_mem _ hq), h.c.trans hc (fun q hq => .inl (List.mem_cons_of_mem _ hq))⟩
section
attribute [local go_sem] Oper.semAt_some
set_option maxRecDepth 100000 in
set_option maxHeartbeats 4000000 in
theorem foCount_is {w : World} {vars : Nat} {ca : Option Addr} {es : List Value} {cls : List (List Int)} (n cc : Nat) (hn : cls.length = n) (hv : Sv w ca es) (hI : ClsIn w [] es cls) (hok : forOk vars cls) (h16 : vars ≤ 16) :
    Calls Try.prog 42 #[.agg #[.int .i64 vars, .slice ca n cc]] w fun e w' => e = .returned (.tuple #[.int .i64 (modsOf vars cls).length, .int .i64 0]) ∧ Ch [] w w' := by
  have hMo := fun W (h : Ch [] w W) => foModels_is (w := W) n cc hn (hv.ch h (by simp)) (hI.ch h (by simp) (by simp)) hok h16
  have hml : (modsOf vars cls).length ≤ 65536 := by
    unfold modsOf modsTo
    rw [List.length_map]
    refine Nat.le_trans (List.length_filter_le _ _) ?_
    rw [List.length_range]
    exact Nat.pow_le_pow_right (n := 2) (by omega) h16
  clear hv hI
  have HN := Lib.hid hn; clear hn
  have HOK := Lib.hid hok; clear hok
  have HMO := Lib.hid hMo; clear hMo
  refine callsIn_wide (n := 4) |>.1 ?_
  refine callsIn_of_wp_marks Try.func42 rfl trivial ?_ rfl
  simp only [Try.ntmps42, List.size_toArray, List.length_cons, List.length_nil, Nat.reduceAdd, Nat.reduceSub, Array.replicate_succ, Array.replicate_zero, List.push_toArray, List.append_toArray, List.nil_append, List.cons_append]
  refine wpIn_wide.2 ?_
  go_wp2_with fail
  refine calls_named fun W1 hW1 => ?_
  have hc1 := alw_ch hW1
  clear hW1
  refine (HMO.out W1 hc1).mono ?_
  rintro e w2 ⟨bo, cb, cc2, es2, rfl, hbo, hb, hsv, hci, hal, hc2⟩
  have hcw := hc1.trans hc2 (by simp)
  have HB := Lib.hid hb; clear hb
  have HSV := Lib.hid hsv; clear hsv
  have HCI := Lib.hid hci; clear hci
  have HAL := Lib.hid hal; clear hal
  have HC := Lib.hid hcw; clear hcw hc1 hc2 HMO
  clear hbo
  go_upto_region 5 with fail
  refine wp_alw ?_
  intro W3 hW3
  have hbn := alw_blk (xs := [.int .i64 0]) hW3
  have hc3 := alw_ch hW3
  clear hW3
  have hwl := HC.out.size
  have hz3 := hc3.size
  obtain ⟨B, hB⟩ : ∃ B, W3.heap.size = B := ⟨_, rfl⟩
  have hf := CtF.new (B := B) (bn := w2.heap.size) HB.out HSV.out HCI.out HAL.out hc3 (Nat.le_refl _) (by omega)
  generalize w2.heap.size = bn at *
  have hbB : bn < B := by rw [← hB]; exact hbn.lt
  have hi0 : CtI B bn bo vars cb n cc2 es2 cls W3 0 W3 := ⟨hbn, hf, Ch.refl _ _⟩
  have hseq := fun (N : Nat) (hN : 1 ≤ N) => models1_seq HN.out HOK.out h16 (CtI.mi (B := B) (bn := bn) (bo := bo) (vars := vars) (ca := cb) (z := n) (cc := cc2) (es := es2) (cls := cls) (W0 := W3)) N hN B
  have HC4 := Lib.hid (HC.out.trans hc3 (by simp))
  have HSEQ := Lib.hid hseq; clear hseq
  have HI0 := Lib.hid hi0; clear hi0
  clear hf hbn HB HSV HCI HAL hc3 hz3 HC
  go_wp2_with fail
  refine (wpIn_wide (n := 4)).1 ?_
  refine wpIn_rangeFunc_Q (n := 4) B hB rfl (by omega) rfl trivial (fun args w => fnvfoModels1 args w) (encs := mcEnc vars) (fun _ => rfl)
    (CtI B bn bo vars cb n cc2 es2 cls W3 0) (MK B (modsOf vars cls) [bn] (CtI B bn bo vars cb n cc2 es2 cls W3)) (MJ (CtI B bn bo vars cb n cc2 es2 cls W3)) (CtI B bn bo vars cb n cc2 es2 cls W3 (modsOf vars cls).length) ?seq ?j0 ?k ?j ?d HI0.out ?a1 ?assign ?body ?done
  case assign =>
    intro q x W K hK
    simp only [mcEnc]
    gi_wp2
    exact hK
  case j0 => exact fun A A' h hc => h.books hbB hc
  case k =>
    rintro x A A' ⟨c, h1, h2, h3, h4, h5⟩ hc
    exact ⟨c, h1.books hbB hc, h2, h3.ch hc (by simp; omega), h4, h5⟩
  case j => exact fun x A A' h hc => CtI.books hbB h hc
  case d => exact fun A A' h hc => h.books hbB hc
  case seq =>
    rintro lp X hX hXB hY W hi hXW
    refine (HSEQ.out 3 (by omega) lp X hX hXB (fun x W hk hx => (hY x W hk hx).mono ?_) W hi hXW).mono ?_
    · rintro e W' ⟨h1, h2, h3⟩
      exact ⟨h1, h2, h3⟩
    · rintro e W' h
      exact h
  case body =>
    rintro lp x W ⟨c, hi, h2, h3, h4, h5⟩ hWl
    have hkl := (List.getElem?_eq_some_iff.1 h2).1
    have c0 := hi.n.cell (i := 0) rfl
    have f0 := hi.n.frozen (i := 0)
    have HI := Lib.hid hi; clear hi h2 h3 h4 h5
    have hlo : (x.k : Int) ≤ 1000000 := by omega
    gi_wp2
    have hwr : ((x.k : Nat) : Int) + 1 = ((x.k + 1 : Nat) : Int) := by omega
    have hcs : Ch [bn] W (W.setCell ⟨bn, 0, none⟩ (.int .i64 ((x.k : Int) + 1))) := (Ch.refl _ _).setCell (.inl (by simp)) _
    have hbs := HI.out.n.set (i := 0) (.int .i64 ((x.k : Int) + 1))
    refine ⟨Books.of_ch hcs hWl (by simp; omega), ⟨by rw [hwr] at hbs ⊢; simpa using hbs, HI.out.f.ch hcs (by simp), HI.out.c.trans hcs (fun q hq => .inl (by simp at hq; simp [hq]))⟩⟩
  case done =>
    rintro W hi hK _
    have c0 := hi.n.cell (i := 0) rfl
    have HI := Lib.hid hi; clear hi
    have HK := Lib.hid hK; clear hK
    go_wp2_with fail
    refine ⟨by simp, .inl ⟨_, _, rfl, run_takeDeferred HK.out, ?_⟩⟩
    refine ⟨_, results_tmp2 rfl _ _ _, rfl, ?_⟩
    refine HC4.out.trans (HI.out.c.trans (ch_put (l := B) (L := [B]) (by simp)) (fun q hq => .inl (by simp at hq; simp [hq]))) (fun q hq => .inr (by have := HC4.out.size; simp only [List.mem_cons, List.not_mem_nil, or_false] at hq; omega))
end
end Go.Proofs.Ytkedpifopclipaa
namespace Go.Proofs.Ytkedpifopclipaa
open Go.RowKit Go.Mem Go.Aig
set_option maxRecDepth 100000 in
set_option maxHeartbeats 1000000 in
theorem IXbool_is {w : World} {a : Option Addr} {l : List Bool} (n c : Nat) (hn : l.length = n) (hm : n ≤ 1000000) (hS : Sb w a l) (v : Bool) :
    Calls Try.prog 103 #[.slice a n c, .bool v] w fun e w' => ∃ i : Int, -1 ≤ i ∧ i ≤ 1000000 ∧ decide (0 ≤ i) = l.any (fun x => x == v) ∧ e = .returned (.int .i64 i) ∧ w = w' := by
  subst hn
  have HS := Lib.hid hS; clear hS
  go_enter Try.func103, Try.ntmps103
  go_wp2_with fail
  go_loopw [8] (fun i wr => ∃ k : Nat, k ≤ l.length ∧ i = .int .i64 k ∧ w = wr ∧ (l.take k).any (fun x => x == v) = false) (fun i _ => l.length - (intOf i).toNat)
  case atStart => exact ⟨0, by omega, rfl, rfl, rfl⟩
  case round =>
    obtain ⟨k, hk, rfl, rfl, hno⟩ := hrel
    have HNO := Lib.hid hno; clear hno
    by_cases hlt : k < l.length
    · obtain ⟨x, hx⟩ : ∃ x, l[k]? = some x := ⟨_, List.getElem?_eq_getElem hlt⟩
      obtain ⟨b, o, rfl, c0⟩ := HS.out.cells k (.bool x) (by simp [hx])
      cases hxv : (v == x)
      · have hno2 : (l.take (k + 1)).any (fun x => x == v) = false := by
          rw [List.take_add_one, hx, List.any_append, HNO.out]
          simp only [Option.toList_some, List.any_cons, List.any_nil, Bool.or_false, Bool.false_or]
          rw [← hxv]; exact Bool.beq_comm
        have HN2 := Lib.hid hno2; clear hno2 hx
        go_wp2_with fail
        go_roundw
        case rel => exact ⟨k + 1, by omega, by go_num, trivial, HN2.out⟩
        case measure => simp [intOf]; omega
      · have hany : l.any (fun x => x == v) = true := List.any_eq_true.2 ⟨x, List.mem_of_getElem? hx, by rw [← hxv]; exact Bool.beq_comm⟩
        have HANY := Lib.hid hany; clear hany hx
        go_wp2_with fail
        go_ret
        exact ⟨k, by omega, by omega, by rw [HANY.out]; simp, rfl, rfl⟩
    · have hno := HNO.out
      rw [List.take_of_length_le (by omega)] at hno
      have HN2 := Lib.hid hno; clear hno
      go_wp2_with fail
      go_ret
      exact ⟨-1, by omega, by omega, by rw [HN2.out]; rfl, rfl, rfl⟩
set_option maxRecDepth 100000 in
theorem CObool_is {w : World} {a : Option Addr} {l : List Bool} (n c : Nat) (hn : l.length = n) (hm : n ≤ 1000000) (hS : Sb w a l) (v : Bool) :
    Calls Try.prog 35 #[.slice a n c, .bool v] w fun e w' => e = .returned (.bool (l.any fun x => x == v)) ∧ w = w' := by
  have HI := IXbool_is n c hn hm hS v
  clear hS
  generalize (l.any fun x => x == v) = t at *
  go_enter Try.func35, Try.ntmps35
  go_wp2_with fail
  refine HI.mono ?_
  rintro e w' ⟨i, h1, h2, h3, rfl, rfl⟩
  go_wp2_with fail
  go_ret
  exact ⟨by rw [← h3]; rfl, rfl⟩
end Go.Proofs.Ytkedpifopclipaa
namespace Go.Proofs.Ytkedpifopclipaa
open Go.RowKit Go.Mem Go.Aig
section
variable {w : World} {g : Nat} {G : Gra} {F : List Nat}
/-- what all tells: whether all are true, and whether the values are fit -/
def allR (B : List Bool × Nat) (n : Nat) : Bool × Bool := (!B.1.any fun x => x == false, decide (B.2 = 0) && decide (B.1.length = n))
set_option maxRecDepth 100000 in
set_option maxHeartbeats 2000000 in
theorem all27_is (h : GIn w g G F) {xa : Option Addr} {ins : List Bool} (k xc : Nat) (hk : ins.length = k) (hS : Sb w xa ins) (hkl : k ≤ 100000) {a : Option Addr} {l : List Int} (n c : Nat) (hn : l.length = n) (hL : Sl w a l) (hbd : ∀ r ∈ l, -9223372036854775808 ≤ r ∧ r ≤ 9223372036854775807) (hnl : n ≤ 100000) (hbl : (bitsR G ins l).1.length ≤ 100000) :
    Calls Try.prog 39 #[.pointer (some ⟨g, 0, none⟩), .slice xa k xc, .slice a n c] w fun e w' => e = .returned (.tuple #[.bool (allR (bitsR G ins l) n).1, .bool (allR (bitsR G ins l) n).2]) ∧ Ch [] w w' := by
  have hB := simBits_is h k xc hk hS hkl n c hn hL hbd hnl
  obtain ⟨B, hBe⟩ : ∃ B, bitsR G ins l = B := ⟨_, rfl⟩
  rw [hBe] at hB hbl ⊢
  obtain ⟨t, ht⟩ : ∃ t, (B.1.any fun x => x == false) = t := ⟨_, rfl⟩
  obtain ⟨b1, e1⟩ := B
  obtain ⟨p1, hp1⟩ : ∃ p, (allR (b1, e1) n).1 = p := ⟨_, rfl⟩
  obtain ⟨p2, hp2⟩ : ∃ p, (allR (b1, e1) n).2 = p := ⟨_, rfl⟩
  rw [hp1, hp2]
  simp only at hbl ht hB
  have hq1 : p1 = !t := by rw [← hp1, ← ht]; rfl
  have hq2 : p2 = (decide (e1 = 0) && decide (b1.length = n)) := hp2.symm
  have HB := Lib.hid hB; clear hB hBe hp1 hp2
  clear h hS hL hbd
  go_enter Try.func39, Try.ntmps39
  go_wp2_with fail
  refine HB.out.mono ?_
  rintro e w1 ⟨v, rfl, hrow, _, hc⟩
  obtain ⟨m, hm⟩ : ∃ m, b1.length = m := ⟨_, rfl⟩
  rw [hm] at hrow hbl hq2
  obtain ⟨va, vc, rfl⟩ := row.shape hrow
  have hco := CObool_is (w := w1) (a := va) m vc hm (by omega) (row.sv hrow rfl (by omega)) false
  rw [ht] at hco
  have HCO := Lib.hid hco; clear hco
  have HC := Lib.hid hc; clear hc hrow ht hm HB
  by_cases he : e1 = 0
  · subst he
    have d1 : ((m : Int) == (n : Int)) = decide (m = n) := by
      by_cases e : m = n
      · subst e; simp
      · rw [decide_eq_false e, beq_eq_false_iff_ne]; omega
    rw [decide_eq_true rfl, Bool.true_and] at hq2
    rw [show ((0 : Nat) : Int) = 0 from rfl]
    go_wp2_with fail
    refine HCO.out.mono ?_
    rintro e w' ⟨rfl, rfl⟩
    go_wp2_with fail
    refine bodyPost_ret (results_tmp2 rfl _ _ _) rfl ?_
    exact ⟨by rw [hq1, hq2]; simp, HC.out⟩
  · have d1 : ((e1 : Int) == 0) = false := by rw [beq_eq_false_iff_ne]; omega
    rw [decide_eq_false he, Bool.false_and] at hq2
    go_wp2_with fail
    refine HCO.out.mono ?_
    rintro e w' ⟨rfl, rfl⟩
    go_wp2_with fail
    refine bodyPost_ret (results_tmp2 rfl _ _ _) rfl ?_
    exact ⟨by rw [hq1, hq2]; simp, HC.out⟩
end
end Go.Proofs.Ytkedpifopclipaa
namespace Go.Aig
theorem modelR_yes {G : Gra} {ms : List Nat} (hr : rightM G.nodes (natInts ms) = true) {ins : List Bool} (hl : ins.length = (inputs G.nodes).length) : modelR G (natInts ms) ins = (modV (fun i => ins.getD i false) G.nodes ms, 0) := by
  unfold modelR
  rw [if_neg (by rw [hr]; simp), if_neg (by rw [hl]; simp)]
  unfold modV natInts
  rw [List.map_map]
  rfl
theorem bitsR_yes {G : Gra} {R : List Nat} (hR : ∀ r ∈ R, r < 2 * G.nodes.length) {ins : List Bool} (hl : ins.length = (inputs G.nodes).length) : Go.Proofs.Ytkedpifopclipaa.bitsR G ins (natInts R) = (R.map (bv (fun i => ins.getD i false) G.nodes), 0) := by
  have hb : badIn G (natInts R) = false := by
    unfold badIn
    rw [List.any_eq_false]
    intro r hr
    obtain ⟨n, hn, rfl⟩ := List.mem_map.1 hr
    have := hR n hn
    unfold right
    simp
    omega
  unfold Go.Proofs.Ytkedpifopclipaa.bitsR
  rw [hb, if_neg (by simp), if_neg (by rw [hl]; simp)]
  unfold bsOf nats natInts
  rw [List.map_map, List.map_map]
  rfl
theorem allR_yes {G : Gra} {R : List Nat} (hR : ∀ r ∈ R, r < 2 * G.nodes.length) {ins : List Bool} (hl : ins.length = (inputs G.nodes).length) : Go.Proofs.Ytkedpifopclipaa.allR (Go.Proofs.Ytkedpifopclipaa.bitsR G ins (natInts R)) R.length = (R.all (bv (fun i => ins.getD i false) G.nodes), true) := by
  rw [bitsR_yes hR hl]
  unfold Go.Proofs.Ytkedpifopclipaa.allR
  simp only [List.length_map, decide_true, Bool.and_self, List.any_map]
  congr 1
  rw [Bool.eq_iff_iff, Bool.not_eq_true', List.any_eq_false, List.all_eq_true]
  refine forall_congr' fun r => forall_congr' fun _ => ?_
  simp
end Go.Aig
namespace Go.Aig
theorem insR_yes {G : Gra} {ms : List Nat} (hr : rightM G.nodes (natInts ms) = true) {mv : List Bool} (hl : mv.length = ms.length) : insR G (natInts ms) mv = (insV G.nodes (natInts ms) mv, 0) := by
  unfold insR
  rw [if_neg (by rw [hr]; simp), if_neg (by rw [natInts_len, hl]; simp)]
theorem modsOf_mem {n : Nat} {cls : List (List Int)} {c : List Bool} (h : c ∈ modsOf n cls) : c.length = n ∧ forV c cls = true := by
  unfold modsOf modsTo at h
  obtain ⟨k, hk, rfl⟩ := List.mem_map.1 h
  exact ⟨patH_len n k, (List.mem_filter.1 hk).2⟩
theorem filter_one (p : Nat → Bool) (x : Nat) : ([x].filter p).length = (p x).toNat := by
  cases h : p x <;> simp [List.filter, h]
/-- how many assignments up to one are alone and make all roots true -/
def wantTo (ns : List Nd) (l : List Nat) (S : List Nat) (q x : Nat) : Nat := ((List.range x).filter fun k => l.all (bv (fun i => (patL q k).getD i false) ns) && aloneF S (patL q k)).length
theorem wantTo_succ (ns : List Nd) (l : List Nat) (S : List Nat) (q x : Nat) : wantTo ns l S q (x + 1) = wantTo ns l S q x + (l.all (bv (fun i => (patL q x).getD i false) ns) && aloneF S (patL q x)).toNat := by
  unfold wantTo
  rw [List.range_succ, List.filter_append, List.length_append]
  congr 1
  exact filter_one _ x
theorem wantTo_le (ns : List Nd) (l : List Nat) (S : List Nat) (q x : Nat) : wantTo ns l S q x ≤ x := by
  unfold wantTo
  refine Nat.le_trans (List.length_filter_le _ _) ?_
  rw [List.length_range]
  exact Nat.le_refl _
/-- whether the first values are alone -/
def aloneTo (S : List Nat) (ins : List Bool) (j : Nat) : Bool := (List.range j).all fun i => !ins.getD i false || decide (i ∈ S)
theorem aloneTo_succ (S : List Nat) (ins : List Bool) (j : Nat) : aloneTo S ins (j + 1) = (aloneTo S ins j && (!ins.getD j false || decide (j ∈ S))) := by
  unfold aloneTo
  rw [List.range_succ, List.all_append]
  simp
theorem aloneTo_all (S : List Nat) (ins : List Bool) : aloneTo S ins ins.length = aloneF S ins := rfl
section
variable {ns : List Nd} (hw : WF ns) (hn6 : ns.length ≤ 65536) {l : List Nat} (hl : ∀ r ∈ l, r < 2 * ns.length)
include hw hn6 hl
theorem mods_count : (modsOf (mapN ns l).length (clsOf ns (natInts (mapN ns l)) (natInts l))).length = wantTo ns l (Go.Proofs.Ytkedpifopclipaa.suppL ns l (inputs ns).length) (inputs ns).length (2 ^ (inputs ns).length) := by
  have h := count_models hw hn6 hl
  unfold modsOf modsTo wantTo
  rw [List.length_map]
  exact h
/-- a model is read as an assignment for which all roots are true, and written back as it was -/
theorem mods_back {c : List Bool} (h : c ∈ modsOf (mapN ns l).length (clsOf ns (natInts (mapN ns l)) (natInts l))) :
    modV (fun i => (insV ns (natInts (mapN ns l)) c).getD i false) ns (mapN ns l) = c ∧ l.all (bv (fun i => (insV ns (natInts (mapN ns l)) c).getD i false) ns) = true := by
  obtain ⟨h1, h2⟩ := modsOf_mem h
  have hm := mapN_ok hw l
  have h3 : forV c (nodesCls ns (natInts (mapN ns l)) (mapN ns l).length) = true := by
    unfold clsOf at h2
    rw [natInts_len, forV_app, Bool.and_eq_true] at h2
    exact h2.1
  have hb := back_model hw hn6 h1 h3
  refine ⟨hb, ?_⟩
  rw [← modV_iff hw hm _ (fun r hr h2 => roots_in hw r hr (hl r hr) h2), hb]
  exact h2
end
end Go.Aig
namespace Go.Proofs.Ytkedpifopclipaa
open Go.RowKit Go.Mem Go.Aig
section
theorem eqFuncNil (w : World) (f : Fn) (c r : Array Value) : (binOp .eql 81 (.func f c r) .nilFunc).run Try.prog w = .ok (.bool false) w := by
  obtain ⟨ps, rs, v, h⟩ : ∃ ps rs v, Try.prog.underlying 81 = some (.func ps rs v) := ⟨_, _, _, Try.underlying81⟩
  have h2 : ∀ d, (Op.equalIn (d + 1) 81 (.func f c r) .nilFunc).run Try.prog w = .ok false w := fun d => by simp [Op.equalIn, run_underlying h]
  have h3 : (Op.equal 81 (.func f c r) .nilFunc).run Try.prog w = .ok false w := h2 9999
  simp only [binOp]
  simp [h3]
attribute [local go_sem] Oper.semAt_some eqFuncNil
set_option maxRecDepth 100000 in
set_option maxHeartbeats 8000000 in
theorem TseitinCount_walk {w : World} {a : Option Addr} {n cap : Nat} {l : List N21} (hS : NodeS w a n cap l) {xa : Option Addr} {xn xc : Nat} {ys : List Nat} (hU : NumS .u8 8 w xa xn xc ys) :
    Calls Try.prog 9 #[.slice a n cap, .slice xa xn xc] w fun e w' => e = .returned (.bool true) ∧ Ch [] w w' := by
  have HS := Lib.hid hS; clear hS
  have HU := Lib.hid hU; clear hU
  refine callsIn_wide (n := 4) |>.1 ?_
  refine callsIn_of_wp_marks Try.func9 rfl trivial ?_ rfl
  simp only [Try.ntmps9, List.size_toArray, List.length_cons, List.length_nil, Nat.reduceAdd, Nat.reduceSub, Array.replicate_succ, Array.replicate_zero, List.push_toArray, List.append_toArray, List.nil_append, List.cons_append]
  refine wpIn_wide.2 ?_
  go_wp2_with fail
  refine calls_named fun W0 hW0 => ?_
  have hb4 := alw_blk (xs := [.bool false]) hW0
  have hc0 := alw_ch hW0
  clear hW0
  obtain ⟨b4, hb4e⟩ : ∃ b4, b4 = w.heap.size := ⟨_, rfl⟩
  rw [← hb4e] at hb4 ⊢
  refine (awake27_is W0).mono ?_
  rintro e w1 ⟨rfl, hc1⟩
  have HB4 := Lib.hid (hb4.ch hc1 (by simp)); clear hb4
  have HB4E := Lib.hid (Nat.le_of_eq hb4e.symm); clear hb4e
  have HC1 := Lib.hid (hc0.trans hc1 (by simp)); clear hc1 hc0
  go_wp2_with fail
  refine (made27_is (HS.out.ch HC1.out) (HU.out.ch HC1.out)).mono ?_
  rintro e w2 ⟨g, G, F, v, R, rfl, ho, hm, hN31, hi6, hR4, hRl, hrow, hv⟩
  obtain ⟨ra, rc, rfl⟩ := row.shape hrow
  have hlt := row.alt hrow
  have hok := ho.gin.ok
  have hrgt := mapN_right hok.wf (by omega) R
  have hmk := mapN_ok hok.wf R
  have hml : (mapN G.nodes R).length ≤ 31 := by
    have h1 := mapN_len hok R
    have h3 : (mapN G.nodes R).length ≤ (List.range G.nodes.length).length := sub_len (by
      refine (Go.Aig.mapN_asc hok.wf R).imp ?_
      intro a b h
      omega) (fun x hx => List.mem_range.2 (mapN_lt hok.wf hx).2)
    rw [List.length_range] at h3
    omega
  have hfok := forOk_cls hok.wf hmk (fun r hr h2 => roots_in hok.wf r hr (hRl r hr) h2) (by omega) (by omega)
  have hcl := clsOf_len G.nodes (natInts (mapN G.nodes R)) (natInts R)
  rw [natInts_len, natInts_len] at hcl
  have hmc := mods_count hok.wf (by omega : G.nodes.length ≤ 65536) hRl
  have hmb := fun c hc => mods_back hok.wf (by omega : G.nodes.length ≤ 65536) hRl (c := c) hc
  have hsl : Sl w2 ra (natInts R) := Sl.of_ints hrow (by omega)
  have HB4b := Lib.hid (HB4.out.ch ho.ch (by simp)); clear HB4
  have HC12 := Lib.hid (HC1.out.trans ho.ch (by simp)); clear HC1
  have HB4 := HB4b; clear HB4b
  have hRb : ∀ r ∈ natInts R, 0 ≤ r ∧ r ≤ 62 := fun r hr => by
    obtain ⟨z, hz, rfl⟩ := List.mem_map.1 hr
    have := hRl z hz
    omega
  obtain ⟨k, hkl⟩ : ∃ k, R.length = k := ⟨_, rfl⟩
  obtain ⟨q, hqi⟩ : ∃ q, (inputs G.nodes).length = q := ⟨_, rfl⟩
  have hEn := fun (W : World) (hc : Ch [] w2 W) => tsEncode_yes (ho.gin.same hc (by simp)) R.length rc rfl (by omega) (hsl.ch hc (by simp)) (fun p hp => Nat.lt_of_lt_of_le (hlt p hp) hc.size) hRl 1048576 (by omega) (by omega) (by omega)
  have hIp := fun (W : World) (hc : Ch [] w2 W) => Inputs_g (ho.gin.same hc (by simp))
  have hSu := fun (W : World) (hc : Ch [] w2 W) => by
    have h9 := simSupport_is (ho.gin.same hc (by simp)) (a := ra) (l := natInts R) R.length rc (by rw [natInts_len]) (hsl.ch hc (by simp)) (fun p hp => Nat.lt_of_lt_of_le (hlt p hp) hc.size) (fun r hr => by have := hRb r hr; omega)
    have hb : badIn G (natInts R) = false := by
      unfold badIn
      rw [List.any_eq_false]
      intro r hr
      obtain ⟨n, hn, rfl⟩ := List.mem_map.1 hr
      have := hRl n hn
      unfold right
      simp
      omega
    have hnats : nats (natInts R) = R := by
      unfold nats natInts
      rw [List.map_map]
      have : ∀ l : List Nat, l.map (Int.toNat ∘ fun (r : Nat) => (r : Int)) = l := fun l => by
        conv => rhs; rw [← List.map_id l]
        exact List.map_congr_left fun x _ => rfl
      exact this R
    unfold suppR at h9
    rw [hb, if_neg (by simp), hnats] at h9
    exact h9
  have hAl := fun (W : World) (hc : Ch [] w2 W) (xa : Option Addr) (xc : Nat) (ins : List Bool) (hk : ins.length = q) (hB : Sb W xa ins) => by
    have h9 := all27_is (ho.gin.same hc (by simp)) q xc hk hB (by omega) (a := ra) (l := natInts R) R.length rc (by rw [natInts_len]) (hsl.ch hc (by simp)) (fun r hr => by have := hRb r hr; omega) (by omega) (by rw [bitsR_yes hRl (by rw [hk, hqi])]; simp; omega)
    rw [allR_yes hRl (by rw [hk, hqi])] at h9
    exact h9
  have hsuL : (suppL G.nodes R q).length ≤ q := by
    unfold suppL
    refine Nat.le_trans (List.length_filter_le _ _) ?_
    rw [List.length_range]
    exact Nat.le_refl _
  obtain ⟨ms, hms⟩ : ∃ ms, mapN G.nodes R = ms := ⟨_, rfl⟩
  rw [hms] at hml hcl hrgt hfok hmc
  simp only [hms] at hEn hmb
  obtain ⟨m, hml2⟩ : ∃ m, ms.length = m := ⟨_, rfl⟩
  have hMo := fun (W : World) (b : Option Addr) (c : Nat) (hc : Ch [] w2 W) (hr : row W 3 1 (.slice b m c) m (intCells (natInts ms))) (xa : Option Addr) (xc : Nat) (ins : List Bool) (hk : ins.length = q) (hB : Sb W xa ins) => by
    have h9 := tsModel_is (ho.gin.same hc (by simp)) (m := natInts ms) m c (by rw [natInts_len]; exact hml2) (by omega) (Sl.of_ints hr (by omega)) q xc hk hB (by omega)
    rw [modelR_yes hrgt (by rw [hk, hqi])] at h9
    exact h9
  have hIn := fun (W : World) (b : Option Addr) (c : Nat) (hc : Ch [] w2 W) (hr : row W 3 1 (.slice b m c) m (intCells (natInts ms))) (xa : Option Addr) (xc : Nat) (mv : List Bool) (hk : mv.length = m) (hB : Sb W xa mv) => by
    have h9 := tsInputs_is (ho.gin.same hc (by simp)) (m := natInts ms) m c (by rw [natInts_len]; exact hml2) (by omega) (Sl.of_ints hr (by omega)) m xc hk hB (by omega)
    rw [insR_yes hrgt (by rw [hk, hml2])] at h9
    exact h9
  have hil := fun mv : List Bool => insV_len (ns := G.nodes) (l := R) mv
  rw [hms] at hil
  obtain ⟨cls, hcls⟩ : ∃ cls, clsOf G.nodes (natInts ms) (natInts R) = cls := ⟨_, rfl⟩
  simp only [hcls] at hEn hmb
  rw [hcls] at hcl hfok hmc
  obtain ⟨z, hzl⟩ : ∃ z, cls.length = z := ⟨_, rfl⟩
  rw [hml2] at hml hcl hfok hmc
  simp only [hml2] at hmb
  simp only [hml2, hkl, hqi] at hEn hIp hAl hSu
  rw [hzl, hkl] at hcl
  rw [hqi] at hi6 hmc
  simp only [hqi] at hil
  obtain ⟨SU, hSUe⟩ : ∃ SU, suppL G.nodes R q = SU := ⟨_, rfl⟩
  rw [hSUe] at hsuL hmc
  simp only [hSUe] at hSu
  obtain ⟨s, hsu⟩ : ∃ s, SU.length = s := ⟨_, rfl⟩
  have hCt := fun (h11 : m ≤ 11) (W : World) (ca : Option Addr) (cc : Nat) (es : List Value) (hv : Sv W ca es) (hI : ClsIn W [] es cls) => foCount_is (w := W) z cc hzl hv hI hfok (by omega)
  have hMd := fun (h11 : m ≤ 11) (W : World) (ca : Option Addr) (cc : Nat) (es : List Value) (hv : Sv W ca es) (hI : ClsIn W [] es cls) => foModels_is (w := W) z cc hzl hv hI hfok (by omega)
  have hML : (modsOf m cls).length ≤ 2 ^ m := by
    unfold modsOf modsTo
    rw [List.length_map]
    refine Nat.le_trans (List.length_filter_le _ _) ?_
    rw [List.length_range]
    exact Nat.le_refl _
  have hmm := fun c (hc : c ∈ modsOf m cls) => (modsOf_mem hc).1
  have hAs := fun (W : World) => assign27_is W q hi6
  rw [hkl] at hR4
  have HEN := Lib.hid hEn; clear hEn
  have HIP := Lib.hid hIp; clear hIp
  have HSU := Lib.hid hSu; clear hSu
  have HAL := Lib.hid hAl; clear hAl
  have HMO := Lib.hid hMo; clear hMo
  have HIN := Lib.hid hIn; clear hIn
  have HIL := Lib.hid hil; clear hil
  have HCT := Lib.hid hCt; clear hCt
  have HMD := Lib.hid hMd; clear hMd
  have HMLN := Lib.hid hML; clear hML
  have HMM := Lib.hid hmm; clear hmm
  have HMB := Lib.hid hmb; clear hmb
  have HMC := Lib.hid hmc; clear hmc
  have HAS := Lib.hid hAs; clear hAs
  have HML := Lib.hid hml2; clear hml2
  have HZL := Lib.hid hzl
  have HSL := Lib.hid hsu
  have HFOK := Lib.hid hfok; clear hfok
  rw [hsu] at hsuL
  rw [hkl]
  clear ho hm hRl hrow hv hok hmk hsl hms hcls hkl hqi hzl hSUe hsu HS HU hlt hRb hrgt
  go_upto_region 4 with fail
  refine wp_named fun W3 hW3 => ?_
  have k5 : blk W3 w2.heap.size [.pointer (some ⟨g, 0, none⟩)] := by rw [hW3]; exact (blk.new' _ _ (by simp)).alloc _
  have k6 : blk W3 (w2.heap.size + 1) [.slice ra k rc] := by rw [hW3]; exact blk.new' _ _ (by simp)
  have hc3 : Ch [] w2 W3 := by rw [hW3]; exact ((Ch.refl _ _).alloc _).alloc _
  clear hW3
  obtain ⟨b6, hb6⟩ : ∃ b6, b6 = w2.heap.size + 1 := ⟨_, rfl⟩
  rw [← hb6] at k6 ⊢
  clear hb6
  obtain ⟨b5, hb5⟩ : ∃ b5, b5 = w2.heap.size := ⟨_, rfl⟩
  rw [← hb5] at k5 ⊢
  clear hb5
  have y5 := k5.cell (i := 0) rfl
  have y6 := k6.cell (i := 0) rfl
  have K5 := Lib.hid k5; clear k5
  have K6 := Lib.hid k6; clear k6
  have HB4b := Lib.hid (HB4.out.ch hc3 (by simp)); clear HB4
  have HC := Lib.hid hc3; clear hc3
  go_wp2_with fail
  refine (HEN.out W3 HC.out).mono ?_
  rintro e w4 ⟨cv, mv, rfl, hfor, hrm, hmo, hcs⟩
  clear HEN y5 y6
  obtain ⟨es, hes1, hes2⟩ := hfor.ex
  rw [HZL.out] at hes1
  obtain ⟨ca, cc, rfl⟩ := row.shape hes1
  obtain ⟨ma, mc, rfl⟩ := row.shape hrm
  have hsv := row.sv hes1 rfl (by omega)
  have hal := row.alt hes1
  clear hfor hmo hes1
  have HSV := Lib.hid hsv; clear hsv
  have HAL0 := Lib.hid hal; clear hal
  have HCI := Lib.hid hes2; clear hes2
  have HM := Lib.hid hrm; clear hrm
  have HCS := Lib.hid hcs; clear hcs
  go_upto_region 7 with fail
  refine wp_named fun W5 hW5 => ?_
  have k8 : blk W5 w4.heap.size [.int .i64 m, .slice ca z cc] := by rw [hW5]; exact (blk.new' _ _ (by simp)).alloc _
  have k9 : blk W5 (w4.heap.size + 1) [.slice ma m mc] := by rw [hW5]; exact blk.new' _ _ (by simp)
  have hc5 : Ch [] w4 W5 := by rw [hW5]; exact ((Ch.refl _ _).alloc _).alloc _
  clear hW5
  obtain ⟨b9, hb9⟩ : ∃ b9, b9 = w4.heap.size + 1 := ⟨_, rfl⟩
  rw [← hb9] at k9 ⊢
  clear hb9
  obtain ⟨b8, hb8⟩ : ∃ b8, b8 = w4.heap.size := ⟨_, rfl⟩
  rw [← hb8] at k8 ⊢
  clear hb8
  have hcA := HCS.out.trans hc5 (by simp)
  have B4 := Lib.hid (HB4b.out.ch hcA (by simp)); clear HB4b
  have B5 := Lib.hid (K5.out.ch hcA (by simp)); clear K5
  have B6 := Lib.hid (K6.out.ch hcA (by simp)); clear K6
  have B8 := Lib.hid k8; clear k8
  have B9 := Lib.hid k9; clear k9
  have SV5 := Lib.hid (HSV.out.ch hc5 (by simp)); clear HSV
  have CI5 := Lib.hid (HCI.out.ch (O' := []) hc5 (by simp) (by simp)); clear HCI
  have M5 := Lib.hid (HM.out.ch hc5 (by simp)); clear HM
  have HC2 := Lib.hid (HC.out.trans hcA (by simp)); clear HC hcA hc5 HCS HAL0
  have HC := Lib.hid (Ch.refl [] W5)
  go_upto_region 9 with fail
  have x0 := B8.out.cell (i := 0) rfl
  by_cases h11 : 11 < m
  · have d11 : decide (11 < m) = true := decide_eq_true h11
    have c4 := B4.out.cell (i := 0) rfl
    have f4 := B4.out.frozen (i := 0)
    go_wp2_with fail
    have hbs := B4.out.set (i := 0) (.bool true)
    have hcs : Ch [b4] W5 (W5.setCell ⟨b4, 0, none⟩ (.bool true)) := (Ch.refl _ _).setCell (.inl (by simp)) _
    generalize W5.setCell ⟨b4, 0, none⟩ (.bool true) = WX at *
    have y4 := hbs.cell (i := 0) rfl
    refine ⟨.bool true, by simp [results, Try.results9, go_sem, y4], rfl, ?_⟩
    have h9 := HB4E.out
    exact (HC12.out.trans HC2.out (by simp)).trans hcs (fun q hq => .inr (by simp at hq; omega))
  · have d11 : decide (11 < m) = false := decide_eq_false h11
    have h11 : m ≤ 11 := by omega
    go_upto_region 11 with fail
    clear x0
    have y5 := B5.out.cell (i := 0) rfl
    have y6 := B6.out.cell (i := 0) rfl
    go_wp2_with fail
    refine (HSU.out W5 HC2.out).mono ?_
    rintro e w6 ⟨v, rfl, hsr, hso, hcs⟩
    rw [HSL.out] at hsr
    obtain ⟨sa, sc, rfl⟩ := row.shape hsr
    have HSR := Lib.hid hsr; clear hsr hso HSU y5 y6
    have HC6 := Lib.hid (HC.out.trans hcs (by simp)); clear hcs HC
    have y0 := (B8.out.ch HC6.out (by simp)).cell (i := 0) rfl
    have y1 := (B8.out.ch HC6.out (by simp)).cell (i := 1) rfl
    go_wp2_with fail
    clear y0 y1
    refine (HCT.out h11 w6 ca cc es (SV5.out.ch HC6.out (by simp)) (CI5.out.ch HC6.out (by simp) (by simp))).mono ?_
    rintro e w7 ⟨rfl, hcs⟩
    have HSR7 := Lib.hid (HSR.out.ch hcs (by simp)); clear HSR HCT
    have HC7 := Lib.hid (HC6.out.trans hcs (by simp)); clear hcs HC6
    have y0 := (B8.out.ch HC7.out (by simp)).cell (i := 0) rfl
    have y1 := (B8.out.ch HC7.out (by simp)).cell (i := 1) rfl
    go_wp2_with fail
    clear y0 y1
    refine (HMD.out h11 w7 ca cc es (SV5.out.ch HC7.out (by simp)) (CI5.out.ch HC7.out (by simp) (by simp))).mono ?_
    rintro e w8 ⟨bo, cb, cc2, es2, rfl, hbo, hb, hsv, hci, hal, hcs⟩
    have HSR := Lib.hid (HSR7.out.ch hcs (by simp)); clear HSR7 HMD hbo
    have HC := Lib.hid (HC7.out.trans hcs (by simp)); clear hcs HC7
    have HB := Lib.hid hb; clear hb
    have HSV := Lib.hid hsv; clear hsv
    have HCI := Lib.hid hci; clear hci
    have HAL2 := Lib.hid hal; clear hal
    obtain ⟨M, hM⟩ : ∃ M, (modsOf m cls).length = M := ⟨_, rfl⟩
    rw [hM]
    have hML := HMLN.out
    rw [hM] at hML
    have hM2 : M ≤ 2048 := Nat.le_trans hML (Nat.pow_le_pow_right (n := 2) (by omega) h11)
    clear hML
    have HMQ := Lib.hid hM; clear hM
    go_upto_region 17 with fail
    have y5 := (B5.out.ch HC.out (by simp)).cell (i := 0) rfl
    go_wp2_with fail
    refine (HIP.out w8 (HC2.out.trans HC.out (by simp))).mono ?_
    rintro e w9 ⟨v, rfl, hrv, _, hcs⟩
    obtain ⟨ia, ic, rfl⟩ := row.shape hrv
    have HSR9 := Lib.hid (HSR.out.ch hcs (by simp)); clear HSR HIP y5 hrv
    have HB9 := Lib.hid (HB.out.ch hcs (by simp)); clear HB
    have HSV9 := Lib.hid (HSV.out.ch hcs (by simp)); clear HSV
    have HCI9 := Lib.hid (HCI.out.ch (O' := []) hcs (by simp) (by simp)); clear HCI
    have hal9 : ∀ p, cb = some p → p.block < w9.heap.size := fun p hp => Nat.lt_of_lt_of_le (HAL2.out p hp) hcs.size
    have HAL9 := Lib.hid hal9; clear hal9 HAL2
    have HC9 := Lib.hid (HC.out.trans hcs (by simp)); clear hcs HC
    go_wp2_with fail
    refine (HAS.out w9).mono ?_
    rintro e w10 ⟨v, es3, rfl, hrv, hbs, _, hcs⟩
    obtain ⟨D, hD⟩ : ∃ D, 2 ^ q = D := ⟨_, rfl⟩
    have hD64 : D ≤ 64 := by rw [← hD]; exact Nat.pow_le_pow_right (by omega) hi6
    rw [hD] at hrv hbs
    obtain ⟨aa, ac, rfl⟩ := row.shape hrv
    have hsv2 := row.sv hrv rfl (by omega)
    have hmc := HMC.out
    rw [hD, HMQ.out] at hmc
    have HMC2 := Lib.hid hmc; clear hmc HMC hD
    have HSR := Lib.hid (HSR9.out.ch hcs (by simp)); clear HSR9 hrv HAS
    have HB := Lib.hid (HB9.out.ch hcs (by simp)); clear HB9
    have HSV := Lib.hid (HSV9.out.ch hcs (by simp)); clear HSV9
    have HCI := Lib.hid (HCI9.out.ch (O' := []) hcs (by simp) (by simp)); clear HCI9
    have hal9 : ∀ p, cb = some p → p.block < w10.heap.size := fun p hp => Nat.lt_of_lt_of_le (HAL9.out p hp) hcs.size
    have HAL2 := Lib.hid hal9; clear hal9 HAL9
    have HC := Lib.hid (HC9.out.trans hcs (by simp)); clear hcs HC9
    have HES := Lib.hid hsv2; clear hsv2
    have HBS := Lib.hid hbs; clear hbs
    go_wp2_with fail
    go_loopw [17, 87] (fun u i wr => ∃ x : Nat, x ≤ D ∧ u = .int .i64 (wantTo G.nodes R SU q x : Nat) ∧ i = .int .i64 x ∧ Ch [] w10 wr) (fun _ i _ => D - (intOf i).toNat)
    case atStart => exact ⟨0, by omega, rfl, rfl, Ch.refl _ _⟩
    case round =>
      obtain ⟨x, hx, rfl, rfl, hc⟩ := hrel
      have hcw := HC.out.trans hc (by simp)
      have hwle := wantTo_le G.nodes R SU q x
      by_cases hlt : x < D
      · have hsu := wantTo_succ G.nodes R SU q x
        obtain ⟨W, hW⟩ : ∃ W, wantTo G.nodes R SU q x = W := ⟨_, rfl⟩
        rw [hW] at hsu hwle ⊢
        obtain ⟨ins, hins⟩ : ∃ ins, patL q x = ins := ⟨_, rfl⟩
        have hil : ins.length = q := by rw [← hins, patL_len]
        obtain ⟨ja, jc, he, hsb, hjb⟩ := HBS.out.each x ins (by rw [List.getElem?_map, List.getElem?_range hlt]; simp [hins])
        rw [hil] at he
        obtain ⟨xb, xo, rfl, hcl⟩ := (HES.out.ch hc (by simp)).cells x _ he
        rw [hins] at hsu
        have hal := HAL.out wr (HC2.out.trans hcw (by simp)) ja jc ins hil (hsb.ch hc (by simp))
        have hsbw := hsb.ch hc (by simp)
        have hsr := HSR.out.ch hc (by simp)
        have y5 := (B5.out.ch hcw (by simp)).cell (i := 0) rfl
        have y6 := (B6.out.ch hcw (by simp)).cell (i := 0) rfl
        have hco := fun j : Nat => Coint_is (w := wr) (a := sa) (xs := natInts SU) sc j (Sl.of_ints (by rw [← refs_natInts]; exact hsr) (by omega))
        simp only [natInts_len, HSL.out] at hco
        have hal9 : aloneTo SU ins q = aloneF SU ins := by rw [← aloneTo_all, hil]
        generalize (R.all (bv (fun i => ins.getD i false) G.nodes)) = t at *
        have HSUC := Lib.hid hsu; clear hsu
        have HAL1 := Lib.hid hal; clear hal
        have HAL9 := Lib.hid hal9; clear hal9
        have HCO := Lib.hid hco; clear hco
        have HSBW := Lib.hid hsbw; clear hsbw
        have HILN := Lib.hid hil; clear hil
        have HCX := Lib.hid hc; clear hc
        clear he hsb hjb hins hsr hW hcw
        obtain ⟨wo, hwo⟩ : ∃ wo, wo = wr := ⟨_, rfl⟩
        subst hwo
        go_wp2_with fail
        clear hcl
        go_loopw [20, 93] (fun u i wr => ∃ j : Nat, j ≤ q ∧ u = .bool (aloneTo SU ins j) ∧ i = .int .i64 j ∧ wr = wo) (fun _ i _ => q - (intOf i).toNat)
        case atStart => exact ⟨0, by omega, rfl, rfl, rfl⟩
        case round =>
          obtain ⟨j, hj, rfl, rfl, rfl⟩ := hrel
          by_cases hltj : j < q
          · obtain ⟨b, hb⟩ : ∃ b, ins[j]? = some b := ⟨_, List.getElem?_eq_getElem (by rw [HILN.out]; exact hltj)⟩
            obtain ⟨zb, zo, rfl, d0⟩ := HSBW.out.cells j (.bool b) (by rw [List.getElem?_map, hb]; rfl)
            have hsc := aloneTo_succ SU ins j
            rw [show ins.getD j false = b by rw [List.getD_eq_getElem?_getD, hb]; rfl] at hsc
            have hcj := HCO.out j
            have hany : ((natInts SU).any fun y => (j : Int) == y) = decide (j ∈ SU) := by
              rw [Bool.eq_iff_iff, List.any_eq_true, decide_eq_true_iff]
              constructor
              · rintro ⟨y, hy, e⟩
                obtain ⟨d, hd, rfl⟩ := List.mem_map.1 hy
                have e2 : (j : Int) = (d : Int) := eq_of_beq e
                rw [show j = d by omega]; exact hd
              · intro h
                exact ⟨(j : Int), List.mem_map.2 ⟨j, h, rfl⟩, by simp⟩
            rw [hany] at hcj
            generalize decide (j ∈ SU) = s2 at *
            generalize aloneTo SU ins j = s1 at *
            have HSC := Lib.hid hsc; clear hsc
            have HCJ := Lib.hid hcj; clear hcj
            clear hb hany
            cases s1
            · go_wp2_with fail
              clear d0
              go_roundw
              case rel => exact ⟨j + 1, by omega, by rw [HSC.out]; simp, by go_num, trivial⟩
              case measure => simp [intOf]; omega
            · cases b
              · go_wp2_with fail
                clear d0
                go_roundw
                case rel => exact ⟨j + 1, by omega, by rw [HSC.out]; simp, by go_num, trivial⟩
                case measure => simp [intOf]; omega
              · go_wp2_with fail
                clear d0
                refine HCJ.out.mono ?_
                rintro e w' ⟨rfl, rfl⟩
                go_wp2_with fail
                go_roundw
                case rel => exact ⟨j + 1, by omega, by rw [HSC.out]; simp, by go_num, trivial⟩
                case measure => simp [intOf]; omega
          · have hjq : j = q := by omega
            rw [hjq, HAL9.out]
            clear hjq
            have hsuc := HSUC.out
            generalize aloneF SU ins = s1 at *
            have HSUC2 := Lib.hid hsuc; clear hsuc
            go_wp2_with fail
            refine HAL1.out.mono ?_
            rintro e w12 ⟨rfl, hcs⟩
            have HCY := Lib.hid (HCX.out.trans hcs (by simp)); clear hcs
            cases t <;> cases s1
            all_goals
              go_wp2_with fail
              go_roundw
              case rel => exact ⟨x + 1, by omega, by rw [HSUC2.out]; simp, by go_num, HCY.out⟩
              case measure => simp [intOf]; omega
      · have hxD : x = D := by omega
        subst hxD
        have hmw : wantTo G.nodes R SU q x = M := HMC2.out.symm
        rw [hmw]
        clear hwle hmw
        have HCW := Lib.hid hcw; clear hcw
        have HCX := Lib.hid hc; clear hc
        go_upto_region 33 with fail
        refine wp_alw ?_
        intro W3 hW3
        have hbn := alw_blk (xs := [.int .i64 0]) hW3
        have hc3 := alw_ch hW3
        clear hW3
        have hwl := HCW.out.size
        have hz3 := hc3.size
        obtain ⟨B, hB⟩ : ∃ B, W3.heap.size = B := ⟨_, rfl⟩
        have hf := CtF.new (B := B) (bn := wr.heap.size) (HB.out.ch HCX.out (by simp)) (HSV.out.ch HCX.out (by simp)) (HCI.out.ch (O' := []) HCX.out (by simp) (by simp)) (fun p hp => Nat.lt_of_lt_of_le (HAL2.out p hp) HCX.out.size) hc3 (Nat.le_refl _) (by omega)
        obtain ⟨bn, hbne⟩ : ∃ bn, bn = wr.heap.size := ⟨_, rfl⟩
        rw [← hbne] at hbn hf ⊢
        have hbB : bn < B := by rw [← hB]; exact hbn.lt
        have hi0 : CtI B bn bo m cb z cc2 es2 cls W3 0 W3 := ⟨hbn, hf, Ch.refl _ _⟩
        have hseq := fun (N : Nat) (hN : 1 ≤ N) => models1_seq HZL.out HFOK.out (by omega : m ≤ 16) (CtI.mi (B := B) (bn := bn) (bo := bo) (vars := m) (ca := cb) (z := z) (cc := cc2) (es := es2) (cls := cls) (W0 := W3)) N hN B
        have hall : ∀ (W : World) (j : Nat), CtI B bn bo m cb z cc2 es2 cls W3 j W → Ch [] W5 W := fun W j h => HCW.out.trans (hc3.trans h.c (fun q hq => .inr (by simp at hq; omega))) (by simp)
        have hbw5 : W5.heap.size ≤ B := by have h4 := HCW.out.size; omega
        have HBW5 := Lib.hid hbw5; clear hbw5
        have h5n : b5 < bn ∧ b6 < bn ∧ b9 < bn := by have h1 := B5.out.lt; have h2 := B6.out.lt; have h3 := B9.out.lt; have h4 := HCW.out.size; omega
        have HALL := Lib.hid hall; clear hall
        have HSEQ := Lib.hid hseq; clear hseq
        have HI0 := Lib.hid hi0; clear hi0
        clear hf hbn HB HSV HCI HAL2 hc3 hz3 hwl hbne HCX HCW HC
        go_wp2_with fail
        refine (wpIn_wide (n := 4)).1 ?_
        refine wpIn_rangeFunc_Q (n := 4) B hB rfl (by omega) rfl trivial (fun args w => fnvfoModels1 args w) (encs := mcEnc m) (fun _ => rfl)
          (CtI B bn bo m cb z cc2 es2 cls W3 0) (MK B (modsOf m cls) [bn] (CtI B bn bo m cb z cc2 es2 cls W3)) (MJ (CtI B bn bo m cb z cc2 es2 cls W3)) (CtI B bn bo m cb z cc2 es2 cls W3 (modsOf m cls).length) ?seq ?j0 ?k ?j ?d HI0.out ?a1 ?assign ?body ?done
        case assign =>
          intro q x W K hK
          simp only [mcEnc]
          gi_wp2
          exact hK
        case j0 => exact fun A A' h hc => h.books hbB hc
        case k =>
          rintro x A A' ⟨c, h1, h2, h3, h4, h5⟩ hc
          exact ⟨c, h1.books hbB hc, h2, h3.ch hc (by simp; omega), h4, h5⟩
        case j => exact fun x A A' h hc => CtI.books hbB h hc
        case d => exact fun A A' h hc => h.books hbB hc
        case seq =>
          rintro lp X hX hXB hY W hi hXW
          exact HSEQ.out 3 (by omega) lp X hX hXB hY W hi hXW
        case body =>
          rintro lp ⟨xk, xb⟩ W ⟨c, hi, h2, h3, h4, h5⟩ hWl
          simp only at hi h2 h3 h4 h5
          have hkl := (List.getElem?_eq_some_iff.1 h2).1
          rw [HMQ.out] at hkl
          have hmem := List.mem_of_getElem? h2
          have hcl := HMM.out c hmem
          obtain ⟨hm1, hm2⟩ := HMB.out c hmem
          have hiln := HIL.out c
          have c0 := hi.n.cell (i := 0) rfl
          have f0 := hi.n.frozen (i := 0)
          clear h2 hmem
          have HI := Lib.hid hi; clear hi
          have HXB := Lib.hid h3; clear h3
          have HXN := Lib.hid h4; clear h4
          have HCLN := Lib.hid hcl; clear hcl
          have HM1 := Lib.hid hm1; clear hm1
          have HM2 := Lib.hid hm2; clear hm2
          have HILC := Lib.hid hiln; clear hiln
          have hlo : (xk : Int) ≤ 1000000 := by omega
          have hca := HALL.out W xk HI.out
          have y5 := (B5.out.ch hca (by simp)).cell (i := 0) rfl
          have y9 := (B9.out.ch hca (by simp)).cell (i := 0) rfl
          have n5 : ¬ b5 = bn := by omega
          have n9 : ¬ b9 = bn := by omega
          clear hca
          gi_wp2
          clear c0 f0 y5 y9 n5 n9
          obtain ⟨W1, hW1⟩ : ∃ W1, W1 = W.setCell ⟨bn, 0, none⟩ (.int .i64 ((xk : Int) + 1)) := ⟨_, rfl⟩
          rw [← hW1]
          have hcs : Ch [bn] W W1 := by rw [hW1]; exact (Ch.refl _ _).setCell (.inl (by simp)) _
          have hbs := HI.out.n.set (i := 0) (.int .i64 ((xk : Int) + 1))
          rw [← hW1] at hbs
          clear hW1
          have hwr : ((xk : Nat) : Int) + 1 = ((xk + 1 : Nat) : Int) := by omega
          have hi1 : CtI B bn bo m cb z cc2 es2 cls W3 (xk + 1) W1 := ⟨by rw [← hwr]; exact hbs, HI.out.f.ch hcs (by simp), HI.out.c.trans hcs (fun q hq => .inl (by simp at hq; simp [hq]))⟩
          clear hbs hwr
          have hxb := HXB.out.ch hcs (by intro hin; exact HXN.out hin)
          have hca := HALL.out W1 (xk + 1) hi1
          have hin := HIN.out W1 ma mc (HC2.out.trans hca (by simp)) (M5.out.ch hca (by simp)) (some ⟨xb, 0, none⟩) m c HCLN.out (Sv.of_blk hxb (by rw [List.length_map, HCLN.out]; omega))
          have hHI1 := Lib.hid hi1; clear hi1 HI
          have HX := Lib.hid hin; clear hin hca
          have HXB1 := Lib.hid hxb; clear hxb HXB
          have HCB := Lib.hid hcs; clear hcs
          refine ⟨trivial, callsIn_wide.2 (HX.out.mono ?_)⟩
          rintro e W2 ⟨v, rfl, hvr, _, hcs⟩
          obtain ⟨va, vc, rfl⟩ := row.shape hvr
          rw [HILC.out] at hvr ⊢
          clear HX
          have hi2 := CtI.mi.ch _ _ _ hHI1.out hcs
          have hca := HALL.out W2 (xk + 1) hi2
          have hmo := HMO.out W2 ma mc (HC2.out.trans hca (by simp)) (M5.out.ch hca (by simp)) va vc _ HILC.out (row.sv hvr rfl (by omega))
          rw [HM1.out] at hmo
          have y5 := (B5.out.ch hca (by simp)).cell (i := 0) rfl
          have y9 := (B9.out.ch hca (by simp)).cell (i := 0) rfl
          have HX := Lib.hid hmo; clear hmo
          have hHI2 := Lib.hid hi2; clear hi2 hHI1 hca
          have HXB2 := Lib.hid (HXB1.out.ch hcs (by simp)); clear HXB1
          have HCB2 := Lib.hid (HCB.out.trans hcs (by simp)); clear HCB hcs
          have HVR := Lib.hid hvr; clear hvr
          gi_wp2
          clear y5 y9
          refine ⟨trivial, callsIn_wide.2 (HX.out.mono ?_)⟩
          rintro e W4 ⟨u, rfl, hur, _, hcs⟩
          obtain ⟨ua, uc, rfl⟩ := row.shape hur
          rw [HCLN.out] at hur ⊢
          clear HX
          have hi3 := CtI.mi.ch _ _ _ hHI2.out hcs
          have hca := HALL.out W4 (xk + 1) hi3
          have hal := HAL.out W4 (HC2.out.trans hca (by simp)) va vc _ HILC.out (row.sv (HVR.out.ch hcs (by simp)) rfl (by omega))
          rw [HM2.out] at hal
          have y5 := (B5.out.ch hca (by simp)).cell (i := 0) rfl
          have y6 := (B6.out.ch hca (by simp)).cell (i := 0) rfl
          have HX := Lib.hid hal; clear hal
          have hHI3 := Lib.hid hi3; clear hi3 hHI2 hca
          have HXB3 := Lib.hid (HXB2.out.ch hcs (by simp)); clear HXB2
          have HCB3 := Lib.hid (HCB2.out.trans hcs (by simp)); clear HCB2 hcs HVR
          have HUR := Lib.hid hur; clear hur
          gi_wp2
          clear y5 y6
          refine ⟨trivial, callsIn_wide.2 (HX.out.mono ?_)⟩
          rintro e W6 ⟨rfl, hcs⟩
          clear HX
          have hi4 := CtI.mi.ch _ _ _ hHI3.out hcs
          have hxb := HXB3.out.ch hcs (by simp)
          have hE := Eqbool_is (w := W6) (xs := c) (ys := c) uc m (row.sv (HUR.out.ch hcs (by simp)) rfl (by omega)) (Sv.of_blk hxb (by rw [List.length_map, HCLN.out]; omega))
          rw [HCLN.out, decide_eq_true rfl] at hE
          have HX := Lib.hid hE; clear hE hxb HXB3 HUR
          have hHI4 := Lib.hid hi4; clear hi4 hHI3
          have HCB4 := Lib.hid (HCB3.out.trans hcs (by simp)); clear HCB3 hcs
          gi_wp2
          refine ⟨trivial, callsIn_wide.2 (HX.out.mono ?_)⟩
          rintro e W7 ⟨rfl, hcs⟩
          clear HX
          have hi5 := CtI.mi.ch _ _ _ hHI4.out hcs
          have c0 := hi5.n.cell (i := 0) rfl
          have d9 : decide ((2048 : Int) < ((xk + 1 : Nat) : Int)) = false := decide_eq_false (by omega)
          have hHI5 := Lib.hid hi5; clear hi5 hHI4
          have HCB5 := Lib.hid (HCB4.out.trans hcs (by simp)); clear HCB4 hcs
          gi_wp2
          exact ⟨Books.of_ch HCB5.out hWl (by simp; omega), hHI5.out⟩
        case done =>
          rintro W hi hK _
          rw [HMQ.out] at hi
          have hca := HALL.out W _ hi
          have c0 := hi.n.cell (i := 0) rfl
          have hb4 := B4.out.ch hca (by simp)
          have c4 := hb4.cell (i := 0) rfl
          have f4 := hb4.frozen (i := 0)
          have HB4W := Lib.hid hb4; clear hb4 hi
          have HCAW := Lib.hid hca; clear hca
          have HK := Lib.hid hK; clear hK
          have d1 : ((M : Int) == (M : Int)) = true := by simp
          go_wp2_with fail
          obtain ⟨Wf, hWf⟩ : ∃ Wf, Wf = W.setCell ⟨b4, 0, none⟩ (.bool true) := ⟨_, rfl⟩
          try rw [← hWf]
          have hcf : Ch [b4] W Wf := by rw [hWf]; exact (Ch.refl _ _).setCell (.inl (by simp)) _
          have hbf : blk Wf b4 [.bool true] := by rw [hWf]; exact HB4W.out.set (i := 0) _
          have hl4 := B4.out.lt
          have hKf := (hcf.block B (Array.getElem?_eq_some_iff.1 HK.out).1 (by have h4 := HBW5.out; simp; omega)).trans HK.out
          clear hWf
          refine ⟨by simp, .inl ⟨_, _, rfl, run_takeDeferred hKf, ?_⟩⟩
          obtain ⟨WF, hWF⟩ : ∃ WF, WF = Wf.putObj B (Obj.deferred none) := ⟨_, rfl⟩
          rw [← hWF]
          have hcp : Ch [B] Wf WF := by rw [hWF]; exact ch_put (by simp)
          have hbF := hbf.ch hcp (by have h4 := HBW5.out; simp; omega)
          have y0 := hbF.cell (i := 0) rfl
          refine ⟨.bool true, by simp [results, Try.results9, go_sem, y0], rfl, ?_⟩
          have h9 := HB4E.out
          have h8 := HBW5.out
          have h7 := HC12.out.size
          have h6 := HC2.out.size
          exact (((HC12.out.trans HC2.out (by simp)).trans HCAW.out (by simp)).trans hcf (fun q hq => .inr (by simp at hq; omega))).trans hcp (fun q hq => .inr (by simp at hq; omega))
end
end Go.Proofs.Ytkedpifopclipaa
