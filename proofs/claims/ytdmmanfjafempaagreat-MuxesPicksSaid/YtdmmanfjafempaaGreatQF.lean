/-
  What the exported functions of muxes return, plainly: no error where there is room, and what it means; what inputs are. No program in sight. Conditions: a right graph with room, words of it.
  The functions of muxes beside a graph and words that are held; EqualFunc of arrays of words. Conditions: none beyond the hypotheses.
  Walk over begin's closure of chapter 26's laws; what is known while an array of inputs is made. Conditions: a graph of inputs in memory.
  Walk over begin of chapter 26's laws: a graph with an array of new inputs, a word, an index and a guard. Conditions: any three bytes.
  Walk over Is of muxes. Conditions: a graph in memory, a word of any integers, any number.
  A map from small numbers (bytes) to values that are known, one after the other. Conditions: the two facts on the types of map and key.
  Walks over the small functions of shifts: right, moves. Conditions: none.
  Walks over shifted of shifts: a word shifted by a number up to its width. Conditions: a word that can be read.
  Walks over steps, Steps, Fixed of shifts. Conditions: a word that can be read.
  Walks over slices.Grow (of nothing), slices.Concat of two, and Turn of shifts. Conditions: words that can be read.
  Plain: one bit of a shift (a choice, bit by bit), shifts by a word; and append at a row inside a round of a range over a function. Conditions: none beyond the hypotheses.
  Walk over step of shifts: a word that is another one, if a bit is true. Conditions: a graph in memory, two words of it, a reference of it.
  What move and By of shifts make, plainly. No program in sight. Conditions: none beyond the hypotheses.
  Turns of a word, plainly: one after the other, and shifts by constants, by evaluation. No program in sight. Conditions: none beyond the hypotheses.
  Plain facts of MuxesConsts, by evaluation: by constants nothing is made. Conditions: the world's sizes.
  What MuxesIs asks, plainly: the word that the index says, a write of just that word, a choice. No program in sight. Conditions: a graph of inputs, sizes in their ranges.
  Tables, plainly: the words of the inputs for 64 assignments at once, the table of what is told of the nodes, bit by bit. No program in sight. Conditions: none beyond the hypotheses.
  Counting the bits of a word, plainly: the lowest bit that is 1 goes with each step. No program in sight. Conditions: none beyond the hypotheses.
  A table's bits by their numbers, plainly: how many there are, which is the first. No program in sight. Conditions: none beyond the hypotheses.
  Tables by what is told of each assignment, plainly: how many, the first one, what parts two. No program in sight. Conditions: none beyond the hypotheses.
  Walks over sim: inputs, one. Conditions: at most 16 inputs, a block of a table of them.
  Walks over numbers and values of a world of chapter 26's laws: what the inputs are for a number, and the numbers that the words are. Conditions: a graph of inputs in memory, its words.
  Reads of words for values of the inputs. Conditions: a graph in memory, words of 1 to 16 bits.
  slices.Clone of numbers of 32 bits. Conditions: a slice that can be read.
  The library's Clone and Reverse over words and over numbers, its Equal over numbers. Conditions: slices that are read, or rows.
  What MuxesBack asks, plainly: what is read behind a write. No program in sight. Conditions: a graph of inputs, sizes in their ranges.
  What MuxesPicks asks, plainly: the word of the first guard that is true, and whether an array is itself turned round. No program in sight. Conditions: a graph of inputs, sizes in their ranges.
  Walks over the reference's functions of shifts: Right, Power, Steps, Shifted, Turn, Check, Fixed. Conditions: numbers in range, words that can be read.
  Walks over fit of chapter 26's laws, and the reference's Array and Fits. Conditions: any numbers.
-/
import Derived.Test.YtdmmanfjafempaaGreatQE
import Derived.Test.YtdmmanfjafempaaGreatQD
import Derived.Test.YtdmmanfjafempaaGreatQA
import Derived.MapKept
import Derived.Lib.AppendZeros
import Derived.OwnWalkIn
import Derived.Laws.Bits64b
namespace Go.Aig
/-- words of one width, of a graph -/
structure Wds (G : Gra) (width : Nat) (L : List (List Nat)) : Prop where
  all : ∀ l ∈ L, l.length = width ∧ ∀ r ∈ l, r < 2 * G.nodes.length
  w1 : 1 ≤ width
  w16 : width ≤ 16
theorem Wds.ext {G G' : Gra} {width : Nat} {L : List (List Nat)} (h : Wds G width L) (he : Ext G G') : Wds G' width L := ⟨fun l hl => ⟨(h.all l hl).1, fun r hr => he.lt ((h.all l hl).2 r hr)⟩, h.w1, h.w16⟩
theorem right_nats {G : Gra} {l : List Nat} (h : ∀ r ∈ l, r < 2 * G.nodes.length) : badIn G (natInts l) = false := by
  unfold badIn natInts
  rw [List.any_map, List.any_eq_false]
  intro r hr
  have := h r hr
  simp [right]; omega
theorem chk26_zero {G : Gra} {width : Nat} {L : List (List Nat)} (h : Wds G width L) {y c : List Nat} (hy : ∀ r ∈ y, r < 2 * G.nodes.length) (hc : ∀ r ∈ c, r < 2 * G.nodes.length) : chk26 G (natInts y) (natInts c) (L.map natInts) = 0 := by
  unfold chk26
  have e1 : (L.map natInts).any (bad26 ((L.map natInts).headD []).length) = false := by
    rw [List.any_eq_false]
    intro x hx
    obtain ⟨l, hl, rfl⟩ := List.mem_map.1 hx
    have hh : ((L.map natInts).headD []).length = width := by
      cases L with
      | nil => cases hl
      | cons a L => simp [(h.all a (List.mem_cons_self ..)).1]
    have h1 := h.w1
    have h2 := h.w16
    rw [hh]
    unfold bad26 right26
    rw [natInts_len, (h.all l hl).1]
    simp
    omega
  have e2 : badIn G (natInts c ++ (L.map natInts).flatten ++ natInts y) = false := by
    have : natInts c ++ (L.map natInts).flatten ++ natInts y = natInts (c ++ L.flatten ++ y) := by
      unfold natInts
      rw [List.map_append, List.map_append, List.map_flatten]
    rw [this]
    refine right_nats fun r hr => ?_
    simp only [List.mem_append, List.mem_flatten] at hr
    rcases hr with (hr | ⟨l, hl, hr⟩) | hr
    · exact hc r hr
    · exact (h.all l hl).2 r hr
    · exact hy r hr
  rw [if_neg (by rw [e1]; simp), if_neg (by rw [e2]; simp)]
theorem map_nats (L : List (List Nat)) : (L.map natInts).map nats = L := by
  rw [List.map_map]
  conv => rhs; rw [← List.map_id L]
  exact List.map_congr_left fun l _ => nats_natInts' l
theorem Vals.res {s : Mk} {k : Nat} {R : Mk × List Nat} {v : (Nat → Bool) → List Bool} (h : Vals s k R v) (G : Gra) : wres G R = (R.1.1, R.2, 0) ∧ Vals s k ((R.1.1, 0), R.2) v := by
  have e := h.ran.err
  unfold wres
  rw [if_neg (by simp [e])]
  exact ⟨rfl, ⟨⟨rfl, h.ran.ok, h.ran.ext, h.ran.noin, h.ran.len⟩, h.lt, h.val⟩⟩
theorem ValsL.res {s : Mk} {k : Nat} {R : Mk × List (List Nat)} {v : (Nat → Bool) → List (List Bool)} (h : ValsL s k R v) (G : Gra) : lres G R = (R.1.1, R.2, 0) ∧ ValsL s k ((R.1.1, 0), R.2) v := by
  have e := h.ran.err
  unfold lres
  rw [if_neg (by simp [e])]
  exact ⟨rfl, ⟨⟨rfl, h.ran.ok, h.ran.ext, h.ran.noin, h.ran.len⟩, h.lt, h.val⟩⟩
theorem Val.res {s : Mk} {k : Nat} {R : Mk × Nat} {v : (Nat → Bool) → Bool} (h : Val s k R v) (G : Gra) : rres G R = (R.1.1, R.2, 0) ∧ Val s k ((R.1.1, 0), R.2) v := by
  have e := h.ran.err
  unfold rres
  rw [if_neg (by simp [e])]
  exact ⟨rfl, ⟨⟨rfl, h.ran.ok, h.ran.ext, h.ran.noin, h.ran.len⟩, h.lt, h.val⟩⟩
theorem numW_lt (env : Nat → Bool) (ns : List Nd) (y : List Nat) : numW env ns y < 2 ^ y.length := by
  have := bitsVal_lt (y.map (bv env ns))
  rwa [List.length_map] at this
theorem array_of {n : Nat} (h1 : 1 ≤ n) (h2 : n ≤ 256) : array26 n = true := by unfold array26; simp; omega
theorem right_of26 {n : Nat} (h1 : 1 ≤ n) (h2 : n ≤ 16) : right26 n = true := by unfold right26; simp; omega
section
variable {G : Gra} {L : List (List Nat)} {y : List Nat} {n width : Nat}
theorem readG_vals (hG : Ok G) (hL : Wds G width L) (h1 : 1 ≤ L.length) (h256 : L.length ≤ 256) (hy : y.length = n) (hn1 : 1 ≤ n) (hn16 : n ≤ 16) (hyr : ∀ r ∈ y, r < 2 * G.nodes.length) (hr : G.nodes.length + L.length * (4 * n + 3 * width) ≤ G.most) :
    ∃ G' l, readG G (L.map natInts) (natInts y) = (G', l, 0) ∧ l.length = width ∧ Vals (G, 0) (L.length * (4 * n + 3 * width)) ((G', 0), l) (fun env => if numW env G.nodes y < L.length then (L.getD (numW env G.nodes y) []).map (bv env G.nodes) else List.replicate width false) := by
  have hk1 : fitN L.length n ≤ L.length := Nat.min_le_left _ _
  have hk2 : fitN L.length n ≤ 2 ^ n := Nat.min_le_right _ _
  have hm := Nat.mul_le_mul_right (4 * n + 3 * width) hk1
  have hv := readF_vals hG hy hn1 hn16 hyr hL.all (fitN L.length n) hk1 hk2 (by omega)
  obtain ⟨e, hv'⟩ := hv.res G
  have hw : ((L.map natInts).headD []).length = width := by
    cases L with
    | nil => simp at h1
    | cons a L => simp [(hL.all a (List.mem_cons_self ..)).1]
  refine ⟨_, _, ?_, ?_, ⟨hv'.ran.mono hm, hv'.lt, fun env => ?_⟩⟩
  · unfold readG
    rw [List.length_map, natInts_len, hy, array_of h1 h256, right_of26 hn1 hn16, if_neg (by simp), if_neg (by simp), show ([] : List Int) = natInts [] from rfl, chk26_zero hL hyr (by simp), if_neg (by simp), map_nats, nats_natInts']
    show wres G (readF G L y n ((L.map natInts).headD []).length (fitN L.length n)) = _
    rw [hw]
    exact e
  · have := congrArg List.length (hv.val fun _ => false)
    rw [List.length_map] at this
    rw [this]
    split
    · next h => rw [List.length_map]; exact (hL.all _ (getD_mem (by omega))).1
    · simp
  · refine (hv'.val env).trans ?_
    have := numW_lt env G.nodes y
    rw [hy] at this
    have e2 : numW env G.nodes y < fitN L.length n ↔ numW env G.nodes y < L.length := by unfold fitN; omega
    simp only [e2]
theorem writeG_vals {c : Nat} {x : List Nat} (hG : Ok G) (hL : Wds G width L) (h1 : 1 ≤ L.length) (h256 : L.length ≤ 256) (hy : y.length = n) (hn1 : 1 ≤ n) (hn16 : n ≤ 16) (hyr : ∀ r ∈ y, r < 2 * G.nodes.length) (hc : c < 2 * G.nodes.length) (hx : x.length = width) (hxr : ∀ r ∈ x, r < 2 * G.nodes.length) (hr : G.nodes.length + L.length * (4 * n + 1 + 3 * width) ≤ G.most) :
    ∃ G' ls, writeG G (L.map natInts) c (natInts y) (natInts x) = (G', ls, 0) ∧ ls.length = L.length ∧ (∀ l ∈ ls, l.length = width) ∧ ValsL (G, 0) (L.length * (4 * n + 1 + 3 * width)) ((G', 0), ls) (fun env => if bv env G.nodes c = true ∧ numW env G.nodes y < L.length then (L.map fun l => l.map (bv env G.nodes)).set (numW env G.nodes y) (x.map (bv env G.nodes)) else L.map fun l => l.map (bv env G.nodes)) := by
  have hk1 : fitN L.length n ≤ L.length := Nat.min_le_left _ _
  have hk2 : fitN L.length n ≤ 2 ^ n := Nat.min_le_right _ _
  have hm := Nat.mul_le_mul_right (4 * n + 1 + 3 * width) hk1
  have hv := writeF_vals hG hy hn1 hn16 hyr hc hx hxr hL.all (fitN L.length n) hk1 hk2 (by omega)
  obtain ⟨e, hv'⟩ := hv.res G
  have hLx : Wds G width (L ++ [x]) := ⟨fun l hl => by
    rcases List.mem_append.1 hl with hl | hl
    · exact hL.all l hl
    · rw [List.mem_singleton.1 hl]; exact ⟨hx, hxr⟩, hL.w1, hL.w16⟩
  have hlen : (writeF G c x L y n (fitN L.length n)).2.length = L.length := by
    have := congrArg List.length (hv.val fun _ => false)
    rw [List.length_map] at this
    rw [this]
    split <;> simp
  refine ⟨_, _, ?_, hlen, fun l hl => ?_, ⟨hv'.ran.mono hm, hv'.lt, fun env => ?_⟩⟩
  · unfold writeG
    rw [List.length_map, natInts_len, hy, array_of h1 h256, right_of26 hn1 hn16, if_neg (by simp), if_neg (by simp), show L.map natInts ++ [natInts x] = (L ++ [x]).map natInts by simp, show [(c : Int)] = natInts [c] from rfl, chk26_zero hLx hyr (by simpa using hc), if_neg (by simp), map_nats, nats_natInts', nats_natInts']
    exact e
  · have h2 := hv.val fun _ => false
    obtain ⟨i, hi⟩ := List.mem_iff_getElem?.1 hl
    have h3 := congrArg (fun z => (z[i]?).map List.length) h2
    simp only [List.getElem?_map, hi, Option.map_some, List.length_map] at h3
    split at h3
    · rw [List.getElem?_set] at h3
      split at h3
      · next e0 =>
        split at h3
        · simp only [Option.map_some, List.length_map, Option.some.injEq] at h3; omega
        · cases h3
      · rw [List.getElem?_map] at h3
        rcases hz : L[i]? with _ | z
        · rw [hz] at h3; cases h3
        · rw [hz] at h3
          simp only [Option.map_some, List.length_map, Option.some.injEq] at h3
          rw [h3]
          exact (hL.all z (List.mem_of_getElem? hz)).1
    · rw [List.getElem?_map] at h3
      rcases hz : L[i]? with _ | z
      · rw [hz] at h3; cases h3
      · rw [hz] at h3
        simp only [Option.map_some, List.length_map, Option.some.injEq] at h3
        rw [h3]
        exact (hL.all z (List.mem_of_getElem? hz)).1
  · refine (hv'.val env).trans ?_
    have := numW_lt env G.nodes y
    rw [hy] at this
    have e2 : numW env G.nodes y < fitN L.length n ↔ numW env G.nodes y < L.length := by unfold fitN; omega
    simp only [e2]
theorem chooseG_vals {c : Nat} {x : List Nat} (hG : Ok G) (h1 : 1 ≤ n) (h16 : n ≤ 16) (hc : c < 2 * G.nodes.length) (hx : x.length = n) (hxr : ∀ r ∈ x, r < 2 * G.nodes.length) (hy : y.length = n) (hyr : ∀ r ∈ y, r < 2 * G.nodes.length) (hr : G.nodes.length + 3 * n ≤ G.most) :
    ∃ G' l, chooseG G c (natInts x) (natInts y) = (G', l, 0) ∧ l.length = n ∧ Vals (G, 0) (3 * n) ((G', 0), l) (fun env => if bv env G.nodes c = true then x.map (bv env G.nodes) else y.map (bv env G.nodes)) := by
  have hv := chF_vals (s := (G, 0)) (c := c) (x := x) (y := y) (n := n) ⟨rfl, hG, hr⟩ hx hy hc hxr hyr
  obtain ⟨e, hv'⟩ := hv.res G
  have hW : Wds G n [x, y] := ⟨fun l hl => by
    simp only [List.mem_cons, List.not_mem_nil, or_false] at hl
    rcases hl with rfl | rfl
    · exact ⟨hx, hxr⟩
    · exact ⟨hy, hyr⟩, h1, h16⟩
  refine ⟨_, _, ?_, ?_, hv'⟩
  · unfold chooseG
    rw [show [natInts x, natInts y] = [x, y].map natInts from rfl, show [(c : Int)] = natInts [c] from rfl, show ([] : List Int) = natInts [] from rfl, chk26_zero hW (by simp) (by simpa using hc), if_neg (by simp), nats_natInts', nats_natInts']
    exact e
  · have := congrArg List.length (hv.val fun _ => false)
    rw [List.length_map] at this
    rw [this]
    split <;> simp [hx, hy]
theorem constL_mod' (x n : Nat) : constL x n = constL (x % 2 ^ n) n := by
  unfold constL
  refine List.map_congr_left fun i hi => ?_
  rw [Nat.testBit_mod_two_pow, decide_eq_true (List.mem_range.1 hi), Bool.true_and]
theorem isG_val (i : Nat) (hG : Ok G) (h1 : 1 ≤ n) (h16 : n ≤ 16) (hy : y.length = n) (hyr : ∀ r ∈ y, r < 2 * G.nodes.length) (hr : G.nodes.length + 4 * n ≤ G.most) :
    ∃ G' r, isG G (natInts y) i = (G', r, 0) ∧ Val (G, 0) (4 * n) ((G', 0), r) (fun env => decide (numW env G.nodes y = i % 2 ^ n)) := by
  have hv := isR_val (s := (G, 0)) (y := y) (n := n) (i := i % 2 ^ n) ⟨rfl, hG, hr⟩ hy h1 h16 (Nat.mod_lt _ (Nat.two_pow_pos n)) hyr
  obtain ⟨e, hv'⟩ := hv.res G
  have hW : Wds G n [y] := ⟨fun l hl => by rw [List.mem_singleton.1 hl]; exact ⟨hy, hyr⟩, h1, h16⟩
  refine ⟨_, _, ?_, hv'⟩
  unfold isG
  rw [show [natInts y] = [y].map natInts from rfl, show ([] : List Int) = natInts [] from rfl, chk26_zero hW (by simp) (by simp), if_neg (by simp), nats_natInts', natInts_len, hy]
  rw [show isR (G, 0) y n i = isR (G, 0) y n (i % 2 ^ n) by unfold isR; rw [constL_mod']]
  exact e
theorem equalG_val {A B : List (List Nat)} (hG : Ok G) (hA : Wds G n A) (hB : Wds G n B) (h1 : 1 ≤ A.length) (h256 : A.length ≤ 256) (hlen : A.length = B.length) (hr : G.nodes.length + (4 * n + 1) * A.length ≤ G.most) :
    ∃ G' r, equalG G (A.map natInts) (B.map natInts) = (G', r, 0) ∧ Val (G, 0) ((4 * n + 1) * A.length) ((G', 0), r) (fun env => (A.zip B).all fun p => decide (p.1.map (bv env G.nodes) = p.2.map (bv env G.nodes))) := by
  have hz : (A.zip B).length = A.length := by rw [List.length_zip, ← hlen, Nat.min_self]
  have hv := equalR_val hG hA.w1 hA.w16 (A.zip B) (fun p hp => by
    obtain ⟨a, b⟩ := p
    have ha := hA.all _ (List.of_mem_zip hp).1
    have hb := hB.all _ (List.of_mem_zip hp).2
    exact ⟨ha.1, hb.1, ha.2, hb.2⟩) (by rw [hz]; exact hr)
  rw [hz] at hv
  obtain ⟨e, hv'⟩ := hv.res G
  have hW : Wds G n (A ++ B) := ⟨fun l hl => (List.mem_append.1 hl).elim (hA.all l) (hB.all l), hA.w1, hA.w16⟩
  refine ⟨_, _, ?_, hv'⟩
  unfold equalG
  rw [List.length_map, List.length_map, array_of h1 h256, if_neg (by simp), if_neg (by simp [hlen]), ← List.map_append, show ([] : List Int) = natInts [] from rfl, chk26_zero hW (by simp) (by simp), if_neg (by simp), map_nats, map_nats]
  exact e
theorem pickG_vals {gs : List Nat} (hG : Ok G) (hL : Wds G width L) (h256 : L.length ≤ 256) (hg : gs.length + 1 = L.length) (hgr : ∀ r ∈ gs, r < 2 * G.nodes.length) (hr : G.nodes.length + 3 * width * gs.length ≤ G.most) :
    ∃ G' l, pickG G (natInts gs) (L.map natInts) = (G', l, 0) ∧ l.length = width ∧ Vals (G, 0) (3 * width * gs.length) ((G', 0), l) (fun env => (bwd gs).foldl (fun acc p => if bv env G.nodes p.2 = true then (L.getD p.1 []).map (bv env G.nodes) else acc) ((L.getD gs.length []).map (bv env G.nodes))) := by
  obtain ⟨ho, hor⟩ := hL.all _ (getD_mem (d := []) (show gs.length < L.length by omega))
  obtain ⟨hv, hl⟩ := pickF_vals (s := (G, 0)) (L := L) (o := L.getD gs.length []) rfl hG ho hor hL.all (bwd gs) (fun p hp => by
    have h0 : p.1 < gs.length ∧ p.2 ∈ gs := by
      unfold bwd at hp
      obtain ⟨i, hi, rfl⟩ := List.mem_map.1 hp
      have h2 : i < gs.length := by simpa using hi
      exact ⟨h2, getD_mem h2⟩
    exact ⟨by omega, hgr _ h0.2⟩) (by rw [bwd_len]; exact hr)
  rw [bwd_len] at hv
  obtain ⟨e, hv'⟩ := hv.res G
  refine ⟨_, _, ?_, hl, hv'⟩
  unfold pickG
  rw [List.length_map, natInts_len, array_of (by omega) h256, if_neg (by simp), if_neg (by omega), show ([] : List Int) = natInts [] from rfl, chk26_zero hL (by simp) hgr, if_neg (by simp), map_nats, nats_natInts']
  exact e
end
/-- a new input -/
theorem bv_gIn (most : Nat) (env : Nat → Bool) : ∀ (n i : Nat), i < n → bv env (gIn most n).nodes (2 * (i + 1)) = env i
  | n + 1, i, h => by
    have e : (gIn most (n + 1)).nodes = (gIn most n).nodes ++ [⟨2, 0, 0, 0⟩] := by
      unfold gIn
      show _ :: List.replicate (n + 1) _ = (_ :: List.replicate n _) ++ _
      rw [List.replicate_succ', List.cons_append]
    have hl : (gIn most n).nodes.length = n + 1 := by simp [gIn]
    rw [e]
    by_cases hi : i < n
    · rw [bv_ext env _ _ (by rw [hl]; omega)]
      exact bv_gIn most env n i hi
    · have hin : i = n := by omega
      subst hin
      unfold bv
      rw [nv_snoc]
      unfold nvStep rv
      have h1 := nv_len env (gIn most i).nodes
      have h2 : (nv env (gIn most i).nodes).2 = i := by
        rw [nv_count]
        show (inputsFrom (⟨1, 0, 0, 0⟩ :: List.replicate i ⟨2, 0, 0, 0⟩) 0).length = i
        have : ∀ (k m : Nat), (inputsFrom (List.replicate k (⟨2, 0, 0, 0⟩ : Nd)) m).length = k := by
          intro k
          induction k with
          | zero => intro m; rfl
          | succ k ih => intro m; rw [List.replicate_succ]; unfold inputsFrom; rw [if_pos rfl, List.length_cons, ih]
        unfold inputsFrom
        rw [if_neg (by decide)]
        exact this i 1
      have hg : (2 * (i + 1)) / 2 = (nv env (gIn most i).nodes).1.length := by rw [h1, hl]; omega
      rw [hg]
      simp [h2]
theorem rIn_bv (most : Nat) (env : Nat → Bool) {n s k : Nat} (h : s + k ≤ n) : (rIn s k).map (bv env (gIn most n).nodes) = (List.range k).map fun i => env (s + i) := by
  unfold rIn
  rw [List.map_map]
  refine List.map_congr_left fun i hi => ?_
  have := List.mem_range.1 hi
  exact bv_gIn most env n (s + i) (by omega)
theorem rIn_lt2 {most n s k : Nat} (h : s + k ≤ n) : ∀ r ∈ rIn s k, r < 2 * (gIn most n).nodes.length := fun r hr => by
  unfold rIn at hr
  obtain ⟨i, hi, rfl⟩ := List.mem_map.1 hr
  have := List.mem_range.1 hi
  simp [gIn]; omega
end Go.Aig
namespace Go.Proofs.YtdmmanfjafempaaGreat
open Go.RowKit Go.Mem Go.Aig
section
variable {w0 : Base} {w : World} {g : Nat} {G : Gra} {F : List Nat} {L : List (Value × List Int)}
theorem Hold.wa (h : Hold w0 w g G F L) {b n : Nat} {Ls : List WV} (hb : (b, Ls.map WV.val) ∈ w0.K) (hL : ∀ x ∈ Ls, (x.val, x.l) ∈ L) (hn : Ls.length = n) : WA w F (some ⟨b, 0, none⟩) n Ls := by
  obtain ⟨k1, k2, k3⟩ := h.kept _ hb
  exact ⟨hn, fun _ => ⟨b, rfl, hn, fun i x hx => k1.cell (by rw [List.getElem?_map, hx]; rfl), fun x hx => by
    have := h.at (hL x hx) rfl
    exact this, k3, k1.lt⟩⟩
theorem mChoose_h (h : Hold w0 w g G F L) (c : Int) (hc : I64' c) {xa ya : Option Addr} {xl yl : List Int} {n m xc yc : Nat} (hx : (.slice xa n xc, xl) ∈ L) (hxn : xl.length = n) (hy : (.slice ya m yc, yl) ∈ L) (hym : yl.length = m) {G' : Gra} {l : List Nat} {e k : Nat} (hR : chooseG G c xl yl = (G', l, e)) (hk : l.length = k) (hb : ∀ r ∈ l, r ≤ 1000000) (hl : k ≤ 1000000) :
    Calls Tryz.prog 30 #[.pointer (some ⟨g, 0, none⟩), .int .i64 c, .slice xa n xc, .slice ya m yc] w fun en w' => ∃ a c F', en = .returned (.tuple #[.slice a k c, .int .i64 e]) ∧ Hold w0 w' g G' F' ((.slice a k c, natInts l) :: L) := by
  have hcc := mChoose_is h.own.gin c hc (h.at hx hxn) (h.at hy hym)
  simp only [WV.val, hxn, hym] at hcc
  exact Calls.word h hcc hR hk hb hl
theorem mRead_h [Nonempty Unit] (h : Hold w0 w g G F L) {la : Option Addr} {nl lc : Nat} {Ls : List WV} (hA : WA w F la nl Ls) {ya : Option Addr} {yl : List Int} {m yc : Nat} (hy : (.slice ya m yc, yl) ∈ L) (hym : yl.length = m) {G' : Gra} {l : List Nat} {e k : Nat} (hR : readG G (Ls.map WV.l) yl = (G', l, e)) (hk : l.length = k) (hb : ∀ r ∈ l, r ≤ 1000000) (hl : k ≤ 1000000) :
    Calls Tryz.prog 28 #[.pointer (some ⟨g, 0, none⟩), .slice la nl lc, .slice ya m yc] w fun en w' => ∃ a c F', en = .returned (.tuple #[.slice a k c, .int .i64 e]) ∧ Hold w0 w' g G' F' ((.slice a k c, natInts l) :: L) := by
  have hcc := mRead_is h.own.gin (lc := lc) hA (h.at hy hym) (by have := (h.held _ hy).cap; rw [hym]; exact this)
  simp only [WV.val, hym] at hcc
  exact Calls.word h hcc hR hk hb hl
theorem mPick_h (h : Hold w0 w g G F L) {la : Option Addr} {nl lc : Nat} {Ls : List WV} (hA : WA w F la nl Ls) {y : WV} (hy : WVin w F y) (hyc : y.l.length ≤ y.c) {G' : Gra} {l : List Nat} {e k : Nat} (hR : pickG G y.l (Ls.map WV.l) = (G', l, e)) (hk : l.length = k) (hb : ∀ r ∈ l, r ≤ 1000000) (hl : k ≤ 1000000) :
    Calls Tryz.prog 16 #[.pointer (some ⟨g, 0, none⟩), y.val, .slice la nl lc] w fun en w' => ∃ a c F', en = .returned (.tuple #[.slice a k c, .int .i64 e]) ∧ Hold w0 w' g G' F' ((.slice a k c, natInts l) :: L) := by
  exact Calls.word h (mPick_is h.own.gin (lc := lc) hA hy hyc) hR hk hb hl
theorem mEqual_h (h : Hold w0 w g G F L) {la lb : Option Addr} {nl ac n2 bc : Nat} {As Bs : List WV} (hA : WA w F la nl As) (hB : WA w F lb n2 Bs) (hn2 : n2 ≤ 1000000) {G' : Gra} {r e : Nat} (hR : equalG G (As.map WV.l) (Bs.map WV.l) = (G', r, e)) :
    Calls Tryz.prog 19 #[.pointer (some ⟨g, 0, none⟩), .slice la nl ac, .slice lb n2 bc] w fun en w' => ∃ F', en = .returned (.tuple #[.int .i64 r, .int .i64 e]) ∧ Hold w0 w' g G' F' L :=
  Calls.ref h (mEqual_is h.own.gin hA hB hn2) hR
theorem harr_ws {Pr : Value → List Int → Prop} : ∀ {vs : List Value} {ls : List (List Nat)}, vs.length = ls.length → (∀ (i : Nat) (u : Value), vs[i]? = some u → ∃ l, ls[i]? = some l ∧ Pr u (natInts l) ∧ ∃ ua uc, u = .slice ua l.length uc) → ∃ ws : List WV, ws.map WV.val = vs ∧ ws.map WV.l = ls.map natInts ∧ ∀ x ∈ ws, Pr x.val x.l
  | [], [], _, _ => ⟨[], rfl, rfl, by simp⟩
  | [], _ :: _, h, _ => by simp at h
  | _ :: _, [], h, _ => by simp at h
  | v :: vs, l :: ls, h, hf => by
    obtain ⟨ws, h1, h2, h3⟩ := harr_ws (vs := vs) (ls := ls) (by simpa using h) (fun i u hu => hf (i + 1) u hu)
    obtain ⟨l', e, hp, ua, uc, rfl⟩ := hf 0 v rfl
    cases e
    refine ⟨⟨ua, natInts l, uc⟩ :: ws, by rw [List.map_cons, h1]; simp [WV.val], by rw [List.map_cons, List.map_cons, h2], fun x hx => ?_⟩
    rcases List.mem_cons.1 hx with rfl | hx
    · simpa [WV.val] using hp
    · exact h3 x hx
theorem mWrite_h [Nonempty Unit] (h : Hold w0 w g G F L) {la : Option Addr} {nl lc : Nat} {Ls : List WV} (hA : WA w F la nl Ls) (c : Int) (hc : I64' c) {xa ya : Option Addr} {xl yl : List Int} {n m xc yc : Nat} (hy : (.slice ya m yc, yl) ∈ L) (hym : yl.length = m) (hx : (.slice xa n xc, xl) ∈ L) (hxn : xl.length = n) {G' : Gra} {ls : List (List Nat)} {e k : Nat} (hR : writeG G (Ls.map WV.l) c yl xl = (G', ls, e)) (hk : ls.length = k) (hk0 : 0 < k) (hl : ∀ l ∈ ls, l.length ≤ 1000000) :
    Calls Tryz.prog 29 #[.pointer (some ⟨g, 0, none⟩), .slice la nl lc, .int .i64 c, .slice ya m yc, .slice xa n xc] w fun en w' => ∃ (b c : Nat) (F' : List Nat) (cs : List Value) (ws : List WV), en = .returned (.tuple #[.slice (some ⟨b, 0, none⟩) k c, .int .i64 e]) ∧ Hold (w0.add b cs) w' g G' F' ((ws.map fun x => (WV.val x, WV.l x)) ++ L) ∧ (∀ (i : Nat) (x : WV), ws[i]? = some x → cs[i]? = some x.val) ∧ ws.map WV.l = ls.map natInts := by
  have hcc := mWrite_is h.own.gin (lc := lc) hA c hc (h.at hy hym) (by have := (h.held _ hy).cap; rw [hym]; exact this) (h.at hx hxn)
  simp only [WV.val, hxn, hym, hR] at hcc
  subst hk
  refine hcc.mono ?_
  rintro en w' ⟨v, rfl, F', k1, k2, k3, k4, vs, k5, k6, k7⟩
  obtain ⟨b, c, rfl⟩ := k5.parts hk0
  have hsm := k1.ok.small
  have hz := h.own.ch.size
  obtain ⟨ws, q1, q2, q3⟩ := harr_ws (vs := vs) (ls := ls) (Pr := fun u l => Held w0.w w' F' u l) (by have h9 : vs.length = ls.length * 1 := k5.1; omega) (fun i u hu => by
    obtain ⟨l, r1, r2, r3, r4⟩ := k7 i u hu
    obtain ⟨ua, uc, rfl⟩ := row.shape r3
    refine ⟨l, r1, ⟨by rw [natInts_len, ← refs_natInts]; exact r3, by rw [natInts_len]; exact hl l (List.mem_of_getElem? r1), fun r hr => ?_, fun k hk => ⟨Nat.le_trans hz (r4 k hk).1, (r4 k hk).2.1⟩⟩, ua, uc, rfl⟩
    obtain ⟨z, hzz, rfl⟩ := List.mem_map.1 hr
    have := r2 z hzz
    omega)
  have k5' := k5
  rcases k5'.2 with ⟨e, _⟩ | ⟨b', cap, cur, e, _, hb, _, _, _, ht⟩
  · cases e
  · cases e
    have hown := k6 b rfl
    have hH : Hold w0 w' g G' F' ((ws.map fun x => (WV.val x, WV.l x)) ++ L) := ⟨⟨k1, fun k hk => (k3 k hk).elim (h.own.own k) (fun e => Nat.le_trans hz e), h.own.ch.trans k2 (fun k hk => .inr (h.own.own k hk))⟩, fun p hp => by
      rcases List.mem_append.1 hp with hp | hp
      · obtain ⟨x, hx, rfl⟩ := List.mem_map.1 hp
        exact q3 x hx
      · exact (h.held p hp).keep k2 k3, h.keptTo k2 k3⟩
    refine ⟨b, c, F', cur.toList, ws, rfl, hH.keepB (b := b) (xs := cur.toList) ?_ (Nat.le_trans hz hown.1) hown.2, fun i x hx => ?_, q2⟩
    · exact ⟨_, by rw [Array.toArray_toList]; exact hb⟩
    · have h1 : vs[i]? = some x.val := by rw [← q1, List.getElem?_map, hx]; rfl
      rw [← ht] at h1
      have h2 := (List.getElem?_eq_some_iff.1 h1).1
      rw [List.length_take] at h2
      rw [List.getElem?_take_of_lt (by omega)] at h1
      exact h1
end
/-- an array of words that can be read -/
structure AR (w : World) (a : Option Addr) (L : List WV) : Prop where
  cells : ∀ (i : Nat) (x : WV), L[i]? = some x → ∃ b, a = some ⟨b, 0, none⟩ ∧ w.cell? ⟨b, i, none⟩ = some x.val ∧ WVok w x
theorem Hold.ar {w0 : Base} {w : World} {g : Nat} {G : Gra} {F : List Nat} {L : List (Value × List Int)} (h : Hold w0 w g G F L) {b : Nat} {cs : List Value} {ws : List WV} (hb : (b, cs) ∈ w0.K) (hc : ∀ (i : Nat) (x : WV), ws[i]? = some x → cs[i]? = some x.val) (hL : ∀ x ∈ ws, (x.val, x.l) ∈ L) : AR w (some ⟨b, 0, none⟩) ws :=
  ⟨fun i x hx => ⟨b, rfl, (h.kept _ hb).1.cell (hc i x hx), (h.at (hL x (List.mem_of_getElem? hx)) rfl).ok⟩⟩
theorem AR.ch {w w' : World} {a : Option Addr} {L : List WV} (h : AR w a L) (hc : Ch [] w w') : AR w' a L :=
  ⟨fun i x hx => by
    obtain ⟨b, e, h1, h2⟩ := h.cells i x hx
    exact ⟨b, e, (hc.cell (cell_lt h1) (by simp)).trans h1, h2.ch hc (by simp)⟩⟩
theorem fnvEqref : Fnv 40 := fnv_of Tryz.func40 (by simp [Tryz.f40]) (by simp [Tryz.f40])
set_option maxRecDepth 100000 in
set_option maxHeartbeats 2000000 in
theorem EFlst_yes {w : World} {a b : Option Addr} {As Bs : List WV} (n ca cb : Nat) (hn : n ≤ 1000000) (hA : AR w a As) (hB : AR w b Bs) (ha : As.length = n) (hb : Bs.length = n) (heq : ∀ (i : Nat) (x y : WV), As[i]? = some x → Bs[i]? = some y → x.l = y.l) :
    Calls Tryz.prog 41 #[.slice a n ca, .slice b n cb, .func (.func 40) #[] #[]] w fun e w' => e = .returned (.bool true) ∧ Ch [] w w' := by
  have hcf : ∀ args w, (callFunc 40 args).run Tryz.prog w = .ok (.enter 40 args) w := fnvEqref
  have HA := Lib.hid hA; clear hA
  have HB := Lib.hid hB; clear hB
  have HEQ := Lib.hid heq; clear heq
  go_enter Tryz.func41, Tryz.ntmps41
  go_wp2_with fail
  go_loopw [17] (fun i wr => ∃ k : Nat, k ≤ n ∧ i = .int .i64 k ∧ Ch [] w wr) (fun i _ => n - (intOf i).toNat)
  case atStart => exact ⟨0, Nat.zero_le _, rfl, Ch.refl _ _⟩
  case round =>
    obtain ⟨k, hk, rfl, hc⟩ := hrel
    by_cases hlt : k < n
    · obtain ⟨x, hx⟩ : ∃ x, As[k]? = some x := ⟨_, List.getElem?_eq_getElem (by omega)⟩
      obtain ⟨y, hy⟩ : ∃ y, Bs[k]? = some y := ⟨_, List.getElem?_eq_getElem (by omega)⟩
      have he := HEQ.out k x y hx hy
      obtain ⟨ab, rfl, c0, hxo⟩ := (HA.out.ch hc).cells k x hx
      obtain ⟨bb, rfl, c1, hyo⟩ := (HB.out.ch hc).cells k y hy
      have hE := Eqref_is (w := wr) x.c y.c hxo.sl hyo.sl
      rw [decide_eq_true he] at hE
      unfold WV.val at c0 c1
      obtain ⟨xa, xl, xc⟩ := x
      obtain ⟨ya, yl, yc⟩ := y
      simp only at c0 c1 hE
      have HE := Lib.hid hE; clear hE
      have HC := Lib.hid hc; clear hc
      clear hx hy he hxo hyo
      go_wp2_with fail
      refine HE.out.mono ?_
      rintro e w1 ⟨rfl, hc1⟩
      have HC1 := Lib.hid hc1; clear hc1 HE
      go_wp2_with fail
      go_roundw
      case rel => exact ⟨k + 1, by omega, by go_num, HC.out.trans HC1.out (by simp)⟩
      case measure => simp [intOf]; omega
    · have HC := Lib.hid hc; clear hc
      go_wp2_with fail
      go_ret
      exact ⟨rfl, HC.out⟩
end Go.Proofs.YtdmmanfjafempaaGreat
namespace Go.Proofs.YtdmmanfjafempaaGreat
open Go.RowKit Go.Mem Go.Aig
theorem fnvbegin261 : Fnv 72 := fnv_of Tryz.func72 (by simp [Tryz.f72]) (by simp [Tryz.f72])
section
variable {w : World} {g : Nat} {F : List Nat}
set_option maxRecDepth 100000 in
set_option maxHeartbeats 2000000 in
theorem begin261_is {s k b8 b9 : Nat} (h : GIn w g (gIn 8000 s) F) (hk : 1 ≤ k) (hk3 : k ≤ 3) (hs : s + k < 8000) (c8 : w.cell? ⟨b8, 0, none⟩ = some (.pointer (some ⟨g, 0, none⟩))) :
    Calls Tryz.prog 72 (#[.int .i64 k] ++ #[.pointer (some ⟨b8, 0, none⟩), .pointer (some ⟨b9, 0, none⟩)]) w fun e w' => ∃ v, e = .returned v ∧ GVo w g (gIn 8000 (s + k)) [] F v (rIn s k) w' := by
  show Calls Tryz.prog 72 #[.int .i64 k, .pointer (some ⟨b8, 0, none⟩), .pointer (some ⟨b9, 0, none⟩)] w _
  have hI := sInput_is h k
  rw [inG_gIn hk (by omega) hs] at hI
  have hl : (rIn s k).length = k := by simp [rIn]
  have HL := Lib.hid hl; clear hl
  clear h
  go_enter Tryz.func72, Tryz.ntmps72
  go_wp2_with fail
  refine hI.mono ?_
  rintro e w1 ⟨v, rfl, hg⟩
  obtain ⟨F', k1, k2, k3, k4, k5, k6⟩ := hg
  rw [HL.out] at k5
  obtain ⟨a, c, rfl⟩ := row.shape k5
  have HG := Lib.hid (show GVo w g (gIn 8000 (s + k)) [] F (.slice a k c) (rIn s k) w1 from ⟨F', k1, k2, k3, k4, by rw [HL.out]; exact k5, k6⟩)
  clear k1 k2 k3 k4 k5 k6
  go_wp2_with fail
  go_ret
  exact ⟨_, rfl, HG.out⟩
end
/-- what is known while the array of inputs is made -/
structure XB (w : World) (g s : Nat) (F : List Nat) (b8 b9 bx W : Nat) (wr : World) (v : Value) (k : Nat) (vs xs : List Value) : Prop where
  gin : GIn wr g (gIn 8000 s) F
  own : ∀ q ∈ F, w.heap.size ≤ q
  ch : Ch [] w wr
  k8 : blk wr b8 [.pointer (some ⟨g, 0, none⟩)]
  k9 : blk wr b9 [.int .i64 0]
  kx : blk wr bx xs
  nF : b8 ∉ F ∧ b9 ∉ F ∧ bx ∉ F
  arr : row wr 40 1 v k vs
  ownv : ∀ q, v.ownBlock = some q → w.heap.size ≤ q ∧ q ∉ F ∧ q ≠ b8 ∧ q ≠ b9 ∧ q ≠ bx
  words : ∀ (i : Nat) (u : Value), vs[i]? = some u → row wr 41 1 u W (refsCells (rIn (i * W) W)) ∧ ∀ q, u.ownBlock = some q → w.heap.size ≤ q ∧ q ∉ F ∧ q ≠ b8 ∧ q ≠ b9 ∧ q ≠ bx ∧ v.ownBlock ≠ some q
theorem XB.ch0 {w : World} {g s : Nat} {F : List Nat} {b8 b9 bx W : Nat} {wr wr' : World} {v : Value} {k : Nat} {vs xs : List Value} (h : XB w g s F b8 b9 bx W wr v k vs xs) (hc : Ch [] wr wr') : XB w g s F b8 b9 bx W wr' v k vs xs :=
  ⟨h.gin.same hc (by simp), h.own, h.ch.trans hc (by simp), h.k8.ch hc (by simp), h.k9.ch hc (by simp), h.kx.ch hc (by simp), h.nF, h.arr.ch hc (by simp), h.ownv, fun i u hu => ⟨(h.words i u hu).1.ch hc (by simp), (h.words i u hu).2⟩⟩
/-- inputs are made -/
theorem XB.to {w : World} {g s s' : Nat} {F F' : List Nat} {b8 b9 bx W : Nat} {wr wr' : World} {v : Value} {k : Nat} {vs xs : List Value} (h : XB w g s F b8 b9 bx W wr v k vs xs) (hg : GIn wr' g (gIn 8000 s') F') (hc : Ch F wr wr') (hF : ∀ q ∈ F', q ∈ F ∨ wr.heap.size ≤ q) : XB w g s' F' b8 b9 bx W wr' v k vs xs := by
  have l8 := h.k8.lt
  have l9 := h.k9.lt
  have lx := h.kx.lt
  have hz := h.ch.size
  obtain ⟨n8, n9, nx⟩ := h.nF
  have hn : ∀ b, b < wr.heap.size → b ∉ F → b ∉ F' := fun b hb hn hin => (hF b hin).elim hn (fun e => by omega)
  refine ⟨hg, fun q hq => (hF q hq).elim (h.own q) (fun e => by omega), h.ch.trans hc (fun q hq => .inr (h.own q hq)), h.k8.ch hc n8, h.k9.ch hc n9, h.kx.ch hc nx, ⟨hn _ l8 n8, hn _ l9 n9, hn _ lx nx⟩, h.arr.ch hc (fun q hq => (h.ownv q hq).2.1), fun q hq => ?_, fun i u hu => ?_⟩
  · obtain ⟨f1, f2, f3⟩ := h.ownv q hq
    exact ⟨f1, hn q (h.arr.lt q hq).2 f2, f3⟩
  · obtain ⟨k1, k2⟩ := h.words i u hu
    refine ⟨k1.ch hc (fun q hq => (k2 q hq).2.1), fun q hq => ?_⟩
    obtain ⟨f1, f2, f3⟩ := k2 q hq
    exact ⟨f1, hn q (k1.lt q hq).2 f2, f3⟩
/-- a word is appended, and the array's field is set -/
theorem XB.snoc {w : World} {g s : Nat} {F : List Nat} {b8 b9 bx W : Nat} {wr w2 : World} {v : Value} {k : Nat} {vs xs : List Value} (h : XB w g s F b8 b9 bx W wr v k vs xs) (hne : b8 ≠ bx ∧ b9 ≠ bx) (hbx : w.heap.size ≤ bx) {u v' : Value}
    (hu : row wr 41 1 u W (refsCells (rIn (k * W) W))) (hown : ∀ q, u.ownBlock = some q → w.heap.size ≤ q ∧ q ∉ F ∧ q ≠ b8 ∧ q ≠ b9 ∧ q ≠ bx ∧ v.ownBlock ≠ some q) (h4 : row w2 40 1 v' (k + 1) (vs ++ [u])) (hC : Ch v.ownBlock.toList wr w2) (hf : ∀ q, v'.ownBlock = some q → v.ownBlock = some q ∨ wr.heap.size ≤ q) :
    XB w g s F b8 b9 bx W (w2.setCell ⟨bx, 1, none⟩ v') v' (k + 1) (vs ++ [u]) (xs.set 1 v') := by
  have hcs : Ch [bx] w2 (w2.setCell ⟨bx, 1, none⟩ v') := (Ch.refl _ _).setCell (by simp) _
  have l8 := h.k8.lt
  have l9 := h.k9.lt
  have lx := h.kx.lt
  have hz := h.ch.size
  obtain ⟨n8, n9, nx⟩ := h.nF
  have hFl := h.gin.lt
  have hvk : vs.length = k := by have := h.arr.1; omega
  have hcv : ∀ q ∈ v.ownBlock.toList, w.heap.size ≤ q ∧ q ∉ F ∧ q ≠ b8 ∧ q ≠ b9 ∧ q ≠ bx := fun q hq => h.ownv q (by simpa using hq)
  have hown' : ∀ q, v'.ownBlock = some q → w.heap.size ≤ q ∧ q ∉ F ∧ q ≠ b8 ∧ q ≠ b9 ∧ q ≠ bx := fun q hq => by
    rcases hf q hq with e | e
    · exact h.ownv q e
    · exact ⟨by omega, fun hin => by have := hFl q hin; omega, by omega, by omega, by omega⟩
  refine ⟨(h.gin.same hC (fun q hq hin => (hcv q hin).2.1 hq)).same hcs (fun q hq hin => nx (by rw [List.mem_singleton.1 hin] at hq; exact hq)), h.own, (h.ch.trans hC (fun q hq => .inr (hcv q hq).1)).trans hcs (by simp; omega), (h.k8.ch hC (fun hin => (hcv _ hin).2.2.1 rfl)).ch hcs (by simpa using hne.1), (h.k9.ch hC (fun hin => (hcv _ hin).2.2.2.1 rfl)).ch hcs (by simpa using hne.2), ?_, h.nF, h4.ch hcs (fun q hq => by have := (hown' q hq).2.2.2.2; simpa using this), hown', fun i z hz' => ?_⟩
  · have := (h.kx.ch hC (fun hin => (hcv _ hin).2.2.2.2 rfl)).set (i := 1) v'
    exact this
  · by_cases hi : i < k
    · rw [List.getElem?_append_left (by omega)] at hz'
      obtain ⟨k2, k3⟩ := h.words i z hz'
      refine ⟨(k2.ch hC (fun q hq hin => (k3 q hq).2.2.2.2.2 (by simpa using hin))).ch hcs (fun q hq => by have := (k3 q hq).2.2.2.2.1; simpa using this), fun q hq => ?_⟩
      obtain ⟨f1, f2, f3, f4, f5, f6⟩ := k3 q hq
      refine ⟨f1, f2, f3, f4, f5, fun e => ?_⟩
      rcases hf q e with e2 | e2
      · exact f6 e2
      · have := (k2.lt q hq).2; omega
    · have hik : i = k := by
        have := (List.getElem?_eq_some_iff.1 hz').1
        rw [List.length_append] at this
        simp at this; omega
      subst hik
      rw [List.getElem?_append_right (by omega), hvk, Nat.sub_self] at hz'
      cases hz'
      refine ⟨(hu.ch hC (fun q hq hin => (hown q hq).2.2.2.2.2 (by simpa using hin))).ch hcs (fun q hq => by have := (hown q hq).2.2.2.2.1; simpa using this), fun q hq => ?_⟩
      obtain ⟨f1, f2, f3, f4, f5, f6⟩ := hown q hq
      refine ⟨f1, f2, f3, f4, f5, fun e => ?_⟩
      rcases hf q e with e2 | e2
      · exact f6 e2
      · have := (hu.lt q hq).2; omega
/-- a field of the world is set -/
theorem XB.setx {w : World} {g s : Nat} {F : List Nat} {b8 b9 bx W : Nat} {wr : World} {v : Value} {k : Nat} {vs xs : List Value} (h : XB w g s F b8 b9 bx W wr v k vs xs) (hne : b8 ≠ bx ∧ b9 ≠ bx) (hbx : w.heap.size ≤ bx) (i : Nat) (u : Value) : XB w g s F b8 b9 bx W (wr.setCell ⟨bx, i, none⟩ u) v k vs (xs.set i u) := by
  have hcs : Ch [bx] wr (wr.setCell ⟨bx, i, none⟩ u) := (Ch.refl _ _).setCell (by simp) _
  obtain ⟨n8, n9, nx⟩ := h.nF
  exact ⟨h.gin.same hcs (fun q hq hin => nx (by rw [List.mem_singleton.1 hin] at hq; exact hq)), h.own, h.ch.trans hcs (by simp; omega), h.k8.ch hcs (by simpa using hne.1), h.k9.ch hcs (by simpa using hne.2), h.kx.set (i := i) u, h.nF, h.arr.ch hcs (fun q hq => by have := (h.ownv q hq).2.2.2.2; simpa using this), h.ownv, fun i u hu => ⟨(h.words i u hu).1.ch hcs (fun q hq => by have := ((h.words i u hu).2 q hq).2.2.2.2.1; simpa using this), (h.words i u hu).2⟩⟩
/-- a world of chapter 26's laws: array, word and index are new inputs -/
def BG (w w' : World) (g N W V : Nat) (F : List Nat) (ab : Nat) (cs : List Value) (ws : List WV) (wa ia : Option Addr) (wc ic : Nat) : Prop :=
  Hold ((w : Base).add ab cs) w' g (gIn 8000 (N * W + W + V + 1)) F ((ws.map fun x => (WV.val x, WV.l x)) ++ [(.slice wa W wc, natInts (rIn (N * W) W)), (.slice ia V ic, natInts (rIn (N * W + W) V))]) ∧
    (∀ (i : Nat) (x : WV), ws[i]? = some x → cs[i]? = some x.val) ∧ ws.map WV.l = (List.range N).map fun i => natInts (rIn (i * W) W)
theorem rIn_held {s k : Nat} (hs : s + k ≤ 1000) : (natInts (rIn s k)).length ≤ 1000000 ∧ ∀ r ∈ natInts (rIn s k), -9223372036854775808 ≤ r ∧ r ≤ 9223372036854775807 := by
  refine ⟨by rw [natInts_len, rIn_len]; omega, fun r hr => ?_⟩
  obtain ⟨z, hz, rfl⟩ := List.mem_map.1 hr
  have := rIn_le hz
  omega
theorem XB.world {w : World} {g N W V : Nat} {F : List Nat} {b8 b9 bx : Nat} {wr : World} {v : Value} {vs xs : List Value} (h : XB w g (N * W + W + V + 1) F b8 b9 bx W wr v N vs xs) (hN : 1 ≤ N ∧ N ≤ 4) (hW : W ≤ 3) (_hV : V ≤ 3) {wa ia : Option Addr} {wc ic : Nat}
    (h1 : Held w wr F (.slice wa W wc) (natInts (rIn (N * W) W))) (h2 : Held w wr F (.slice ia V ic) (natInts (rIn (N * W + W) V))) :
    ∃ ab ac cs ws, v = .slice (some ⟨ab, 0, none⟩) N ac ∧ BG w wr g N W V F ab cs ws wa ia wc ic := by
  have hNW : N * W ≤ 12 := Nat.mul_le_mul hN.2 hW
  obtain ⟨ab, ac, rfl⟩ := h.arr.parts (by omega)
  have hlen : vs.length = N := by have := h.arr.1; omega
  obtain ⟨ws, q1, q2, q3⟩ := harr_ws (vs := vs) (ls := (List.range N).map fun i => rIn (i * W) W) (Pr := fun u l => Held w wr F u l) (by rw [hlen]; simp) (fun i u hu => by
    obtain ⟨k1, k2⟩ := h.words i u hu
    have hi : i < N := by have := (List.getElem?_eq_some_iff.1 hu).1; omega
    have hiW : i * W ≤ 12 := Nat.le_trans (Nat.mul_le_mul_right W (by omega : i ≤ N)) hNW
    obtain ⟨ua, uc, rfl⟩ := row.shape k1
    obtain ⟨b1, b2⟩ := rIn_held (s := i * W) (k := W) (by omega)
    refine ⟨rIn (i * W) W, by rw [List.getElem?_map, List.getElem?_range hi]; rfl, ⟨by rw [natInts_len, rIn_len, ← refs_natInts]; exact k1, b1, b2, fun k hk => ⟨(k2 k hk).1, (k2 k hk).2.1⟩⟩, ua, uc, by rw [rIn_len]⟩)
  have harr := h.arr
  rcases harr.2 with ⟨e, _⟩ | ⟨b', cap, cur, e, _, hb, _, _, _, ht⟩
  · cases e
  · cases e
    have hown := h.ownv ab rfl
    have hH : Hold (w : Base) wr g (gIn 8000 (N * W + W + V + 1)) F ((ws.map fun x => (WV.val x, WV.l x)) ++ [(.slice wa W wc, natInts (rIn (N * W) W)), (.slice ia V ic, natInts (rIn (N * W + W) V))]) := ⟨⟨h.gin, h.own, h.ch⟩, fun p hp => by
      rcases List.mem_append.1 hp with hp | hp
      · obtain ⟨x, hx, rfl⟩ := List.mem_map.1 hp
        exact q3 x hx
      · simp only [List.mem_cons, List.not_mem_nil, or_false] at hp
        rcases hp with rfl | rfl
        · exact h1
        · exact h2, fun p hp => by cases hp⟩
    refine ⟨ab, ac, cur.toList, ws, rfl, hH.keepB (b := ab) (xs := cur.toList) ?_ hown.1 hown.2.1, fun i x hx => ?_, by rw [q2, List.map_map]; rfl⟩
    · exact ⟨_, by rw [Array.toArray_toList]; exact hb⟩
    · have h1 : vs[i]? = some x.val := by rw [← q1, List.getElem?_map, hx]; rfl
      rw [← ht] at h1
      have h2 := (List.getElem?_eq_some_iff.1 h1).1
      rw [List.length_take] at h2
      rw [List.getElem?_take_of_lt (by omega)] at h1
      exact h1
/-- the result's cells are set -/
theorem BG.fin {w W1 wp w' : World} {g N W V : Nat} {F : List Nat} {ab : Nat} {cs : List Value} {ws : List WV} {wa ia : Option Addr} {wc ic b6 : Nat} (h : BG W1 wp g N W V F ab cs ws wa ia wc ic) (hc1 : Ch [] w W1) (hb1 : w.heap.size ≤ b6) (hb2 : b6 < W1.heap.size) (hc : Ch [b6] wp w') : BG w w' g N W V F ab cs ws wa ia wc ic := by
  obtain ⟨hH, h2, h3⟩ := h
  have hz := hc1.size
  have hown := hH.own.own
  refine ⟨⟨⟨hH.own.gin.same hc (fun q hq hin => ?_), fun q hq => Nat.le_trans hz (hown q hq), (hc1.trans hH.own.ch (by simp)).trans hc (fun q hq => .inr (by rw [List.mem_singleton.1 hq]; exact hb1))⟩, fun p hp => ?_, fun p hp => ?_⟩, h2, h3⟩
  · have := hown q hq
    rw [List.mem_singleton.1 hin] at this
    exact absurd this (by show ¬ W1.heap.size ≤ b6; omega)
  · have h9 := hH.held p hp
    exact ⟨h9.row.ch hc (fun q hq hin => by
      have := (h9.own q hq).1
      rw [List.mem_singleton.1 hin] at this
      exact absurd this (by show ¬ W1.heap.size ≤ b6; omega)), h9.len, h9.bd, fun q hq => ⟨Nat.le_trans hz (h9.own q hq).1, (h9.own q hq).2⟩⟩
  · have h9 := hH.kept p hp
    exact ⟨h9.1.ch hc (fun hin => by
      have := h9.2.1
      rw [List.mem_singleton.1 hin] at this
      exact absurd this (by show ¬ W1.heap.size ≤ b6; omega)), Nat.le_trans hz h9.2.1, h9.2.2⟩
end Go.Proofs.YtdmmanfjafempaaGreat
namespace Go.Proofs.YtdmmanfjafempaaGreat
open Go.RowKit Go.Mem Go.Aig
attribute [local go_sem] Oper.semAt_some
section
set_option maxRecDepth 100000 in
set_option maxHeartbeats 4000000 in
theorem begin26_is (w : World) (n wd v N W V : Nat) (hN : n % 4 + 1 = N) (hW : wd % 3 + 1 = W) (hV : v % 3 + 1 = V) :
    Calls Tryz.prog 14 #[.int .u8 n, .int .u8 wd, .int .u8 v] w fun e w' => ∃ g F ab ac cs ws wa wc ia ic, e = .returned (.tuple #[.agg #[.pointer (some ⟨g, 0, none⟩), .slice (some ⟨ab, 0, none⟩) N ac, .slice wa W wc, .slice ia V ic, .int .i64 (2 * (N * W + W + V + 1) : Nat)], .bool true]) ∧ BG w w' g N W V F ab cs ws wa ia wc ic := by
  have hN4 : 1 ≤ N ∧ N ≤ 4 := by omega
  have hW3 : 1 ≤ W ∧ W ≤ 3 := by omega
  have hV3 : 1 ≤ V ∧ V ≤ 3 := by omega
  have qN : 1 + (n : Int) % 4 = (N : Int) := by omega
  have qW : 1 + (wd : Int) % 3 = (W : Int) := by omega
  have qV : 1 + (v : Int) % 3 = (V : Int) := by omega
  have hcf : ∀ args w, (callFunc 72 args).run Tryz.prog w = .ok (.enter 72 args) w := fnvbegin261
  have hNew := fun W => New_yes (w := W) 8000 (by decide) (by decide)
  have HNEW := Lib.hid hNew; clear hNew
  have QN := Lib.hid qN; clear qN
  have QW := Lib.hid qW; clear qW
  have QV := Lib.hid qV; clear qV
  clear hN hW hV
  go_enter Tryz.func14, Tryz.ntmps14
  go_wp2_with fail
  refine calls_named fun W1 hW1 => ?_
  have hc1 := alw_ch hW1
  have hb6 := alw_blk (xs := [.pointer none, .slice none 0 0, .slice none 0 0, .slice none 0 0, .int .i64 0]) hW1
  clear hW1
  have h6W := hb6.lt
  refine (HNEW.out W1).mono ?_
  rintro e w2 ⟨g, F1, rfl, hg1, hF1, hc2⟩
  have hb6 := hb6.ch hc2 (by simp)
  have hg0 : GIn w2 g (gIn 8000 0) F1 := hg1
  have hz1 := hc1.size
  have HB6 := Lib.hid hb6; clear hb6
  have HG := Lib.hid hg0; clear hg0 hg1
  have HF1 := Lib.hid (fun k (hk : k ∈ F1) => hF1 k hk); clear hF1
  have H6W := Lib.hid h6W; clear h6W
  have HC01 := Lib.hid hc1
  have HC2 := Lib.hid hc2; clear hc1 hc2
  go_upto_region 6 with fail
  refine wp_named fun W3 hW3' => ?_
  have hc3 : Ch [] w2 W3 := by rw [hW3']; exact (((Ch.refl _ _).alloc _).alloc _).alloc _
  have k8 : blk W3 w2.heap.size [.pointer (some ⟨g, 0, none⟩)] := by rw [hW3']; exact ((blk.new' _ _ (by simp)).alloc _).alloc _
  have k9 : blk W3 (w2.heap.size + 1) [.int .i64 0] := by rw [hW3']; exact (blk.new' _ _ (by simp)).alloc _
  have kx : blk W3 (w2.heap.size + 1 + 1) [.pointer (some ⟨g, 0, none⟩), .slice none 0 0, .slice none 0 0, .slice none 0 0, .int .i64 0] := by rw [hW3']; exact blk.new' _ _ (by simp)
  clear hW3'
  have hFl := HG.out.lt
  have hzw := HC2.out.size
  have h6l := HB6.out.lt
  have hxb : XB W1 g 0 F1 w2.heap.size (w2.heap.size + 1) (w2.heap.size + 1 + 1) W W3 (.slice none 0 0) 0 [] [.pointer (some ⟨g, 0, none⟩), .slice none 0 0, .slice none 0 0, .slice none 0 0, .int .i64 0] :=
    ⟨HG.out.same hc3 (by simp), fun q hq => HF1.out q hq, HC2.out.trans hc3 (by simp), k8, k9, kx, ⟨fun hin => by have := hFl _ hin; omega, fun hin => by have := hFl _ hin; omega, fun hin => by have := hFl _ hin; omega⟩, ⟨rfl, .inl ⟨rfl, rfl⟩⟩, by simp [Value.ownBlock], by simp⟩
  have hne : w2.heap.size ≠ w2.heap.size + 1 + 1 ∧ w2.heap.size + 1 ≠ w2.heap.size + 1 + 1 := ⟨by omega, by omega⟩
  have hlx : W1.heap.size ≤ w2.heap.size + 1 + 1 := by omega
  have h6W := H6W.out
  have h6n : w.heap.size ∉ F1 ∧ w.heap.size ≠ w2.heap.size ∧ w.heap.size ≠ w2.heap.size + 1 ∧ w.heap.size ≠ w2.heap.size + 1 + 1 := ⟨fun hin => by have := HF1.out _ hin; omega, by omega, by omega, by omega⟩
  clear h6W
  have hb6 := HB6.out.ch hc3 (by simp)
  generalize w2.heap.size + 1 + 1 = bx at *
  generalize w2.heap.size + 1 = b9 at *
  generalize w2.heap.size = b8 at *
  clear k8 k9 kx hFl hzw h6l hc3 HG HF1 HC2 HB6
  have HXB := Lib.hid hxb; clear hxb
  have HB6 := Lib.hid hb6; clear hb6
  have HNE := Lib.hid hne; clear hne
  have HLX := Lib.hid hlx; clear hlx
  have H6N := Lib.hid h6n; clear h6n
  go_wp2_with fail
  rw [QN.out]
  go_loopw [30] (fun i wr => ∃ (k : Nat) (F : List Nat) (vv : Value) (vs : List Value), k ≤ N ∧ i = .int .u8 k ∧ XB W1 g (k * W) F b8 b9 bx W wr vv k vs [.pointer (some ⟨g, 0, none⟩), vv, .slice none 0 0, .slice none 0 0, .int .i64 0] ∧ blk wr w.heap.size [.pointer none, .slice none 0 0, .slice none 0 0, .slice none 0 0, .int .i64 0] ∧ w.heap.size ∉ F ∧ vv.ownBlock ≠ some w.heap.size) (fun i _ => N - (intOf i).toNat)
  case atStart => exact ⟨0, F1, _, [], Nat.zero_le _, rfl, by rw [Nat.zero_mul]; exact HXB.out, HB6.out, H6N.out.1, by simp [Value.ownBlock]⟩
  case round =>
    clear HXB HB6
    obtain ⟨k, F, vv, vs, hk, rfl, hxb, hb6, h6F, h6v⟩ := hrel
    obtain ⟨oa, oc, rfl⟩ := row.shape hxb.arr
    by_cases hlt : k < N
    · have hkx := hxb.kx
      have HXB := Lib.hid hxb; clear hxb
      have HB6 := Lib.hid hb6; clear hb6
      have H6F := Lib.hid h6F; clear h6F
      have H6V := Lib.hid h6v; clear h6v
      have hs8 : k * W + W < 8000 := by
        have : k * W ≤ 4 * W := Nat.mul_le_mul_right W (by omega)
        omega
      go_wp2_with fail
      refine Ord.St.door (fun w' => w'.cell? ⟨bx, 1, none⟩ = some (.slice oa k oc)) [.fl, .ho, .fl, .fl, .fl, .fl, .fl, .ef, .ef, .ef, .fl, .ef] [0, 1, 0, 0, 8, 24, 56, 124, 252, 511, 1023, 2047] [0, 1, 2, 3, 4, 5, 6, 7, 8, 9, 10, 11] mixed (by kernel_rfl) rfl ?_
      obtain ⟨Wc, hWc⟩ : ∃ Wc, Wc = wr.drew := ⟨_, rfl⟩
      rw [← hWc]
      have hcur : Ch [] wr Wc := by rw [hWc]; exact (Ch.refl _ _).drew
      clear hWc
      have hxb := HXB.out.ch0 hcur
      replace hkx := hxb.kx
      have hbg := begin261_is (b9 := b9) hxb.gin hW3.1 hW3.2 hs8 (hxb.k8.cell (i := 0) rfl)
      rw [← QW.out] at hbg
      have HBG := Lib.hid hbg; clear hbg
      have hb6c := HB6.out.ch hcur (by simp)
      have HB6c := Lib.hid hb6c; clear hb6c HB6
      have HXBc := Lib.hid hxb; clear hxb HXB hcur
      refine Ord.St.fl2 (T' := ?_) 0 [1, 2, 3, 4, 5, 6, 7, 8, 9, 10, 11] _ _ rfl (by kernel_rfl) rfl rfl rfl rfl (fun K w' hk => ?_) ?_
      rotate_left
      · go_step; exact hk
      refine Ord.St.ho2 (T' := ?_) 1 [2, 3, 4, 5, 6, 7, 8, 9, 10, 11] _ _ rfl (by kernel_rfl) rfl rfl rfl rfl ?_ (fun K w' hw' hk => ?_) ?_
      rotate_left
      · exact hkx.cell (i := 1) rfl
      · have q1 := hw'; go_step; exact hk
      refine Ord.St.fl2 (T' := ?_) 2 [3, 4, 5, 6, 7, 8, 9, 10, 11] _ _ rfl (by kernel_rfl) rfl rfl rfl rfl (fun K w' hk => ?_) ?_
      rotate_left
      · go_step; exact hk
      refine Ord.St.fl2 (T' := ?_) 3 [4, 5, 6, 7, 8, 9, 10, 11] _ _ rfl (by kernel_rfl) rfl rfl rfl rfl (fun K w' hk => ?_) ?_
      rotate_left
      · go_step; exact hk
      refine Ord.St.fl2 (T' := ?_) 4 [5, 6, 7, 8, 9, 10, 11] _ _ rfl (by kernel_rfl) rfl rfl rfl rfl (fun K w' hk => ?_) ?_
      rotate_left
      · go_step; exact hk
      refine Ord.St.fl2 (T' := ?_) 5 [6, 7, 8, 9, 10, 11] _ _ rfl (by kernel_rfl) rfl rfl rfl rfl (fun K w' hk => ?_) ?_
      rotate_left
      · go_step; exact hk
      refine Ord.St.fl2 (T' := ?_) 6 [7, 8, 9, 10, 11] _ _ rfl (by kernel_rfl) rfl rfl rfl rfl (fun K w' hk => ?_) ?_
      rotate_left
      · go_step; exact hk
      refine Ord.St.efC 7 [8, 9, 10, 11] _ rfl (by kernel_rfl) (fun K hK => ?_)
      go_wp2_with fail
      refine HBG.out.mono ?_
      rintro e w1 ⟨u, rfl, F2, g1, g2, g3, g4, g5, g6⟩
      rw [rIn_len] at g5
      obtain ⟨ua, uc, rfl⟩ := row.shape g5
      have g2' : Ch F Wc w1 := by simpa using g2
      have hx1 := HXBc.out.to g1 g2' g3
      have hb61 := HB6c.out.ch g2' H6F.out
      have h6F2 : w.heap.size ∉ F2 := fun hin => (g3 _ hin).elim H6F.out (fun e => by have := HB6c.out.lt; omega)
      have hc8 : Ch [] w1 (w1.alloc (.cells #[.slice ua W uc] 40)) := (Ch.refl _ _).alloc _
      have hx2 := hx1.ch0 hc8
      have hrw2 := g5.ch hc8 (by simp)
      have hnb : blk (w1.alloc (.cells #[.slice ua W uc] 40)) w1.heap.size [.slice ua W uc] := blk.new' _ _ rfl
      have hul : ∀ q, (Value.slice ua W uc).ownBlock = some q → W1.heap.size ≤ q ∧ q ∉ F2 ∧ q ≠ b8 ∧ q ≠ b9 ∧ q ≠ bx ∧ (Value.slice oa k oc).ownBlock ≠ some q := fun q hq => by
        obtain ⟨f1, f2⟩ := g6 q hq
        have := HXBc.out.k8.lt
        have := HXBc.out.k9.lt
        have := HXBc.out.kx.lt
        have := HXBc.out.ch.size
        refine ⟨by omega, f2, by omega, by omega, by omega, fun e => ?_⟩
        have := (HXBc.out.arr.lt q e).2
        omega
      replace hkx := hx1.kx
      have HX2 := Lib.hid hx2; clear hx2 hx1
      have HRW2 := Lib.hid hrw2; clear hrw2
      have HNB := Lib.hid hnb; clear hnb
      have HUL := Lib.hid hul; clear hul
      have HB61 := Lib.hid (hb61.ch hc8 (by simp)); clear hb61
      have H6F2 := Lib.hid h6F2; clear h6F2
      have hz6 := HB6c.out.lt
      have hzz := g2'.size
      clear g1 g2 g2' g3 g4 g5 g6 HBG HXBc HB6c hc8
      go_wp2_with fail
      refine ⟨rfl, hK _ _ ?_ ?_⟩
      · exact hkx.cell (i := 1) rfl
      clear hK K
      refine Ord.St.efC 8 [9, 10, 11] _ rfl (by kernel_rfl) (fun K hK => ?_)
      go_wp2_with fail
      replace hkx := hkx.alloc (.cells #[.slice ua W uc] 40)
      refine ⟨rfl, hK _ _ ?_ ?_⟩
      · exact hkx.cell (i := 1) rfl
      clear hK K
      refine Ord.St.ef 9 [10, 11] _ rfl (by kernel_rfl) (fun K hK => ?_)
      go_wp2_with (at_builtin; go_loud (refine wpList_append_row slRows rfl _ _ rfl (v := .slice oa k oc) (n := k) (xs := vs) rfl HX2.out.arr (ad := ⟨w1.heap.size, 0, none⟩) (m := 1) (c := 1) (news := [.slice ua W uc]) rfl rfl (news_blk HNB.out) (by simp [Value.oneCell']) (by omega) (by omega) ?_; intro v' w4 hown4 hC4 hf4; obtain ⟨gb, gc, rfl⟩ := row.parts hown4 (by omega); have HO4 := Lib.hid hown4; clear hown4; have HC4 := Lib.hid hC4; clear hC4; have HF4 := Lib.hid hf4; clear hf4))
      replace hkx := hkx.ch HC4.out (fun hk => (HX2.out.ownv _ (by simpa using hk)).2.2.2.2 rfl)
      have k1 := hkx.cell (i := 1) rfl
      have k2 := hkx.frozen (i := 1)
      refine ⟨rfl, hK _ _ ?_⟩; clear hK K
      refine Ord.St.fl2 (T' := ?_) 10 [11] _ _ rfl (by kernel_rfl) rfl rfl rfl rfl (fun K w' hk => ?_) ?_
      rotate_left
      · go_step; exact hk
      refine Ord.St.ef 11 [] _ rfl (by kernel_rfl) (fun K hK => ?_)
      go_wp2_with fail
      refine ⟨rfl, hK _ _ ?_⟩; clear hK K
      refine Ord.St.nil ?_
      go_wp2_with fail
      go_roundw
      case rel =>
        have hsn := HX2.out.snoc HNE.out HLX.out HRW2.out HUL.out HO4.out HC4.out HF4.out
        have hcs : Ch [bx] w4 (w4.setCell ⟨bx, 1, none⟩ (.slice (some ⟨gb, 0, none⟩) (k + 1) gc)) := (Ch.refl _ _).setCell (by simp) _
        refine ⟨k + 1, F2, .slice (some ⟨gb, 0, none⟩) (k + 1) gc, vs ++ [.slice ua W uc], by omega, by go_num, ?_, (HB61.out.ch HC4.out (fun hin => H6V.out (by simpa using hin))).ch hcs (by have := H6N.out.2.2.2; simpa using this), H6F2.out, fun e => ?_⟩
        · rw [Nat.succ_mul]; exact hsn
        · rcases HF4.out _ e with e2 | e2
          · exact H6V.out e2
          · simp at e2; omega
      case measure => simp [intOf]; omega
    · have hkN : k = N := by omega
      rw [hkN] at hxb ⊢
      clear hkN hk
      have hNW : N * W ≤ 12 := Nat.mul_le_mul hN4.2 hW3.2
      have hB1 := begin261_is (b9 := b9) hxb.gin hW3.1 hW3.2 (by omega) (hxb.k8.cell (i := 0) rfl)
      rw [← QW.out] at hB1
      have HB1 := Lib.hid hB1; clear hB1
      have HXB := Lib.hid hxb; clear hxb
      have HB6 := Lib.hid hb6; clear hb6
      have H6F := Lib.hid h6F; clear h6F
      clear h6v
      go_wp2_with fail
      refine HB1.out.mono ?_
      rintro e w3 ⟨u1, rfl, F3, g1, g2, g3, g4, g5, g6⟩
      have g2' : Ch F wr w3 := by simpa using g2
      have hx3 := HXB.out.to g1 g2' g3
      have hz3 := HXB.out.ch.size
      have hlx := HXB.out.kx.lt
      rw [rIn_len] at g5
      obtain ⟨wa, wc, rfl⟩ := row.shape g5
      obtain ⟨p1, p2⟩ := rIn_held (s := N * W) (k := W) (by omega)
      have hu1 : Held W1 w3 F3 (.slice wa W wc) (natInts (rIn (N * W) W)) := ⟨by rw [natInts_len, rIn_len, ← refs_natInts]; exact g5, p1, p2, fun q hq => ⟨by have := (g6 q hq).1; omega, (g6 q hq).2⟩⟩
      have hu1x : ∀ q, (Value.slice wa W wc).ownBlock = some q → q ≠ bx := fun q hq => by have := (g6 q hq).1; omega
      have hB2 := begin261_is (b9 := b9) g1 hV3.1 hV3.2 (by omega) (hx3.k8.cell (i := 0) rfl)
      rw [← QV.out] at hB2
      have HB2 := Lib.hid hB2; clear hB2
      have hb63 := HB6.out.ch g2' H6F.out
      have h6F3 : w.heap.size ∉ F3 := fun hin => (g3 _ hin).elim H6F.out (fun e => by have := HB6.out.lt; omega)
      have HX3 := Lib.hid hx3; clear hx3
      have HU1 := Lib.hid hu1; clear hu1
      have HU1X := Lib.hid hu1x; clear hu1x
      have HB63 := Lib.hid hb63; clear hb63
      have H6F3 := Lib.hid h6F3; clear h6F3
      clear g1 g2 g2' g3 g4 g5 g6 p1 p2 HXB HB6 H6F hlx hz3
      go_wp2_with fail
      refine HB2.out.mono ?_
      rintro e w4 ⟨u2, rfl, F4, g1, g2, g3, g4, g5, g6⟩
      have g2' : Ch F3 w3 w4 := by simpa using g2
      have hx4 := HX3.out.to g1 g2' g3
      have hz3 := HX3.out.ch.size
      have hlx := HX3.out.kx.lt
      rw [rIn_len] at g5
      obtain ⟨ia, ic, rfl⟩ := row.shape g5
      obtain ⟨p1, p2⟩ := rIn_held (s := N * W + W) (k := V) (by omega)
      have hu2 : Held W1 w4 F4 (.slice ia V ic) (natInts (rIn (N * W + W) V)) := ⟨by rw [natInts_len, rIn_len, ← refs_natInts]; exact g5, p1, p2, fun q hq => ⟨by have := (g6 q hq).1; omega, (g6 q hq).2⟩⟩
      have hu2x : ∀ q, (Value.slice ia V ic).ownBlock = some q → q ≠ bx := fun q hq => by have := (g6 q hq).1; omega
      have hu1 := HU1.out.keep g2' g3
      have hb64 := HB63.out.ch g2' H6F3.out
      have h6F4 : w.heap.size ∉ F4 := fun hin => (g3 _ hin).elim H6F3.out (fun e => by have := HB63.out.lt; omega)
      have kx := hx4.kx
      have x2 := kx.cell (i := 2) rfl
      have x3 := kx.cell (i := 3) rfl
      have f2 := kx.frozen (i := 2)
      have f3 := kx.frozen (i := 3)
      have HX4 := Lib.hid hx4; clear hx4
      have HU1b := Lib.hid hu1; clear hu1
      have HU2 := Lib.hid hu2; clear hu2
      have HU2X := Lib.hid hu2x; clear hu2x
      have HB64 := Lib.hid hb64; clear hb64
      have H6F4 := Lib.hid h6F4; clear h6F4
      clear g1 g2 g2' g3 g4 g5 g6 p1 p2 HX3 HB63 H6F3 hlx hz3 HU1 kx
      go_upto_region 11 with fail
      refine wp_named fun W5 hW5 => ?_
      have hx5 : XB W1 g (N * W + W + V) F4 b8 b9 bx W W5 (.slice oa N oc) N vs [.pointer (some ⟨g, 0, none⟩), .slice oa N oc, .slice wa W wc, .slice ia V ic, .int .i64 0] := by rw [hW5]; exact (HX4.out.setx HNE.out HLX.out 2 _).setx HNE.out HLX.out 3 _
      have hcs : Ch [bx] w4 W5 := by rw [hW5]; exact ((Ch.refl _ _).setCell (by simp) _).setCell (by simp) _
      clear hW5
      have hh := fun (z : Value) (l : List Int) (h : Held W1 w4 F4 z l) (hz : ∀ q, z.ownBlock = some q → q ≠ bx) => (⟨h.row.ch hcs (fun q hq => by have := hz q hq; simpa using this), h.len, h.bd, h.own⟩ : Held W1 W5 F4 z l)
      have hu1 := hh _ _ HU1b.out HU1X.out
      have hu2 := hh _ _ HU2.out HU2X.out
      have hb65 := HB64.out.ch hcs (by have := H6N.out.2.2.2; simpa using this)
      have hB3 := begin261_is (b9 := b9) (k := 1) hx5.gin (by omega) (by omega) (by omega) (hx5.k8.cell (i := 0) rfl)
      have HB3 := Lib.hid hB3; clear hB3
      have HX5 := Lib.hid hx5; clear hx5
      have HU1c := Lib.hid hu1; clear hu1 HU1b
      have HU2c := Lib.hid hu2; clear hu2 HU2
      have HB65 := Lib.hid hb65; clear hb65 HB64
      clear hcs hh x2 x3 f2 f3 HX4
      go_wp2_with fail
      refine HB3.out.mono ?_
      rintro e w6 ⟨u3, rfl, F6, g1, g2, g3, g4, g5, g6⟩
      have g2' : Ch F4 W5 w6 := by simpa using g2
      have hx6 := HX5.out.to g1 g2' g3
      have hu1 := HU1c.out.keep g2' g3
      have hu2 := HU2c.out.keep g2' g3
      have hb66 := HB65.out.ch g2' H6F4.out
      rw [rIn_len] at g5
      obtain ⟨ub, uc, rfl⟩ := g5.parts (by omega)
      have c_u := row_at2 g5 (k := 0) (v := .int .i64 (2 * (N * W + W + V + 1) : Nat)) rfl
      have c_e := hx6.k9.cell (i := 0) rfl
      have kx := hx6.kx
      have x0 := kx.cell (i := 0) rfl
      have x1 := kx.cell (i := 1) rfl
      have x2 := kx.cell (i := 2) rfl
      have x3 := kx.cell (i := 3) rfl
      have x4 := kx.cell (i := 4) rfl
      have f4 := kx.frozen (i := 4)
      have HX6 := Lib.hid hx6; clear hx6
      have HU1d := Lib.hid hu1; clear hu1 HU1c
      have HU2d := Lib.hid hu2; clear hu2 HU2c
      have HB66 := Lib.hid hb66; clear hb66 HB65
      clear g1 g2 g2' g3 g4 g5 g6 kx HX5
      go_upto_region 15 with fail
      refine wp_named fun W7 hW7 => ?_
      have hx7 : XB W1 g (N * W + W + V + 1) F6 b8 b9 bx W W7 (.slice oa N oc) N vs [.pointer (some ⟨g, 0, none⟩), .slice oa N oc, .slice wa W wc, .slice ia V ic, .int .i64 (2 * ((N : Int) * W + W + V + 1))] := by rw [hW7]; exact HX6.out.setx HNE.out HLX.out 4 _
      have hcs : Ch [bx] w6 W7 := by rw [hW7]; exact (Ch.refl _ _).setCell (by simp) _
      clear hW7
      have hh := fun (z : Value) (l : List Int) (h : Held W1 w6 F6 z l) (hz : ∀ q, z.ownBlock = some q → q ≠ bx) => (⟨h.row.ch hcs (fun q hq => by have := hz q hq; simpa using this), h.len, h.bd, h.own⟩ : Held W1 W7 F6 z l)
      have hu1 := hh _ _ HU1d.out HU1X.out
      have hu2 := hh _ _ HU2d.out HU2X.out
      have hb67 := HB66.out.ch hcs (by have := H6N.out.2.2.2; simpa using this)
      obtain ⟨ab, ac, cs, ws, e1, hbg⟩ := hx7.world hN4 hW3.2 hV3.2 hu1 hu2
      cases e1
      have kx := hx7.kx
      clear x0 x1 x2 x3 x4 f4 c_u c_e hh hcs hu1 hu2
      have x0 := kx.cell (i := 0) rfl
      have x1 := kx.cell (i := 1) rfl
      have x2 := kx.cell (i := 2) rfl
      have x3 := kx.cell (i := 3) rfl
      have x4 := kx.cell (i := 4) rfl
      have z0 := hb67.cell (i := 0) rfl
      have z1 := hb67.cell (i := 1) rfl
      have z2 := hb67.cell (i := 2) rfl
      have z3 := hb67.cell (i := 3) rfl
      have z4 := hb67.cell (i := 4) rfl
      have f0 := hb67.frozen (i := 0)
      have f1 := hb67.frozen (i := 1)
      have f2 := hb67.frozen (i := 2)
      have f3 := hb67.frozen (i := 3)
      have f4 := hb67.frozen (i := 4)
      have HBG := Lib.hid hbg; clear hbg
      clear kx hb67 hx7 HX6 HU1d HU2d HB66
      go_wp2_with fail
      refine bodyPost_ret (v := .tuple #[.agg #[.pointer (some ⟨g, 0, none⟩), .slice (some ⟨ab, 0, none⟩) N oc, .slice wa W wc, .slice ia V ic, .int .i64 (2 * ((N : Int) * W + W + V + 1))], .bool true]) (by simp [results, Tryz.results14, go_sem, z0, z1, z2, z3, z4]) rfl ?_
      have hcs : Ch [w.heap.size] W7 (((((W7.setCell ⟨w.heap.size, 0, none⟩ (.pointer (some ⟨g, 0, none⟩))).setCell ⟨w.heap.size, 1, none⟩ (.slice (some ⟨ab, 0, none⟩) N oc)).setCell ⟨w.heap.size, 2, none⟩ (.slice wa W wc)).setCell ⟨w.heap.size, 3, none⟩ (.slice ia V ic)).setCell ⟨w.heap.size, 4, none⟩ (.int .i64 (2 * ((N : Int) * W + W + V + 1)))) := (((((Ch.refl _ _).setCell (by simp) _).setCell (by simp) _).setCell (by simp) _).setCell (by simp) _).setCell (by simp) _
      refine ⟨g, F6, ab, oc, cs, ws, wa, wc, ia, ic, ?_, BG.fin HBG.out HC01.out (Nat.le_refl _) H6W.out hcs⟩
      rw [show ((2 * (N * W + W + V + 1) : Nat) : Int) = 2 * ((N : Int) * W + W + V + 1) by push_cast; rfl]
end
end Go.Proofs.YtdmmanfjafempaaGreat
namespace Go.Proofs.YtdmmanfjafempaaGreat
open Go.RowKit Go.Mem Go.Aig
theorem fnvmIs1 : Fnv 99 := fnv_of Tryz.func99 (by simp [Tryz.f99]) (by simp [Tryz.f99])
section
variable {w : World} {g m : Nat} {G : Gra} {F : List Nat}
set_option maxRecDepth 100000 in
set_option maxHeartbeats 2000000 in
theorem mIs1_is {by' bn i n yc : Nat} {ya : Option Addr} {r : Nat} {Rs : World → Prop} (hI : Calls Tryz.prog 100 #[.pointer (some ⟨m, 0, none⟩), .slice ya n yc, .int .u32 i] w fun e w' => e = .returned (.int .i64 r) ∧ Rs w')
    (c1 : w.cell? ⟨by', 0, none⟩ = some (.slice ya n yc)) (c2 : w.cell? ⟨bn, 0, none⟩ = some (.int .u32 i)) :
    Calls Tryz.prog 99 (#[.pointer (some ⟨m, 0, none⟩)] ++ #[.pointer (some ⟨by', 0, none⟩), .pointer (some ⟨bn, 0, none⟩)]) w fun e w' => e = .returned (.int .i64 r) ∧ Rs w' := by
  show Calls Tryz.prog 99 #[.pointer (some ⟨m, 0, none⟩), .pointer (some ⟨by', 0, none⟩), .pointer (some ⟨bn, 0, none⟩)] w _
  go_enter Tryz.func99, Tryz.ntmps99
  go_wp2_with fail
  refine hI.mono ?_
  rintro e w1 ⟨rfl, h⟩
  go_wp2_with fail
  go_ret
  exact ⟨rfl, h⟩
set_option maxRecDepth 100000 in
set_option maxHeartbeats 4000000 in
theorem mIs_is (h : GIn w g G F) {y : WV} (hy : WVin w F y) (i : Nat) (hi : i < 4294967296) :
    Calls Tryz.prog 31 #[.pointer (some ⟨g, 0, none⟩), y.val, .int .u32 i] w fun e w' => e = .returned (.tuple #[.int .i64 (isG G y.l i).2.1, .int .i64 (isG G y.l i).2.2]) ∧ GTo w g (isG G y.l i).1 F w' := by
  have hpos := h.ok.wf.pos
  have hroom := h.ok.room
  have hmost := h.ok.most
  have hL := fun (W : World) (hW : Ch [] w W) => Len_g (h.same hW (by simp))
  have hok := chk26_ok (G := G) (idx := []) (refs := []) (ws := [y.l])
  have hlt := chk26_lt G [] [] [y.l]
  unfold isG
  obtain ⟨cc, hcc⟩ : ∃ cc, chk26 G [] [] [y.l] = cc := ⟨_, rfl⟩
  rw [hcc] at hok hlt ⊢
  obtain ⟨S, hS⟩ : ∃ S, isR (G, 0) (nats y.l) y.l.length i = S := ⟨_, rfl⟩
  rw [hS]
  generalize hWW : (if cc ≠ 0 then (G, 0, cc) else rres G S : Res) = WW
  have hylen := hy.ok.len
  have hchk := fun (W : World) (q lb : Nat) (hW : Ch [] w W) (hq : blk W q [.slice (some ⟨lb, 0, none⟩) 1 1]) (hl : blk W lb [y.val]) =>
    mcheck_is (h.same hW (by simp)) (LS.one (c := 1) (hq.cell (i := 0) rfl) rfl (at1 hl (hy.ch hW).ok)) (n := 1) (c := 1) (by omega) (by rw [lsW_one]; simp) (by rw [lsW_one]; simp) (RS.nil W) (RS.nil W) (by omega) (by omega) (by intro z hz; simp at hz)
  simp only [lsW_one, List.map_cons, List.map_nil, hcc] at hchk
  have hbuild : cc = 0 → ∀ (W1 : World), Ch [] w W1 → blk W1 w.heap.size [y.val] → blk W1 (w.heap.size + 1) [.int .u32 i] →
      Calls Tryz.prog 83 #[.pointer (some ⟨g, 0, none⟩), .func (.func 99) #[] #[.pointer (some ⟨w.heap.size, 0, none⟩), .pointer (some ⟨w.heap.size + 1, 0, none⟩)]] W1 fun e w' => ∃ v, e = .returned (.tuple #[v, .int .i64 S.1.2]) ∧ MB W1 g G F S.1 (PostR S.2) mzR v w' := fun h0 W1 hW1 k1 k2 => by
    obtain ⟨o1, o2, o3, _, _⟩ := hok h0
    have hyw := o1 y.l (by simp)
    have hn1 : 1 ≤ y.l.length := o2 (by simp)
    have hn16 : y.l.length ≤ 16 := o3 (by simp)
    refine mbuildR_is (h.same hW1 (by simp)) 99 _ fnvmIs1 S.1 _ (fun W m hm hW hM => ?_)
    have hall := hW1.trans hW (by simp)
    have hyW : WVin W F ⟨y.a, natInts (nats y.l), y.c⟩ := by rw [hyw.cast]; exact hy.ch hall
    have hyr : ∀ r ∈ nats y.l, r < 2 * G.nodes.length := hyw.lt
    have hI := mis_is hM y.l.length y.c i (by rw [nats_len]) hn1 (by omega) hi hyW hyr
    have hfull := eqW_full hM.gin.ok (n := y.l.length) (by rw [nats_len]) (constL_len i _) hn1 (by omega) hyr (fun r hr => by have := constL_le i _ r hr; show r < 2 * G.nodes.length; omega)
    have hst := (Sim.start hM.gin.ok).step hfull (Y := eqW G (nats y.l) (constL i y.l.length)) (fun _ _ => rfl)
    have e0 : rstep (G, 0) (eqW G (nats y.l) (constL i y.l.length)) = S := hS
    rw [e0] at hst
    have c1 := (k1.ch hW (by simp)).cell (i := 0) (v := y.val) rfl
    have c2 := (k2.ch hW (by simp)).cell (i := 0) rfl
    unfold WV.val at c1
    have h1 := mIs1_is hI c1 c2
    refine h1.mono ?_
    rintro e W' ⟨rfl, F', q1, q2, q3, q4⟩
    exact ⟨_, _, F', rfl, hst.1, q1, q2, q3, q4, fun hz => by show _ = _; rw [hst.2.2.2.1 hz]⟩
  obtain ⟨ya, yl, yc⟩ := y
  simp only [WV.val] at *
  clear hok hcc hS hy
  have HL := Lib.hid hL; clear hL
  have HCHK := Lib.hid hchk; clear hchk
  have HBU := Lib.hid hbuild; clear hbuild
  have H := Lib.hid h; clear h
  have HWW := Lib.hid hWW; clear hWW
  have hn0 : ((G.nodes.length : Int) == 0) = false := beqN (by omega)
  go_enter Tryz.func31, Tryz.ntmps31
  go_upto_region 1 with fail
  refine wp_named fun W0 hW0 => ?_
  have hc0 : Ch [] w W0 := by rw [hW0]; exact ((Ch.refl _ _).alloc _).alloc _
  have hb0 : blk W0 w.heap.size [.slice ya yl.length yc] := by rw [hW0]; exact (blk.new' _ _ (by simp)).alloc _
  have hb1 : blk W0 (w.heap.size + 1) [.int .u32 i] := by rw [hW0]; exact blk.new' _ _ (by simp)
  have d0 := hb0.cell (i := 0) rfl
  have l0 := hb0.lt
  have l1 := hb1.lt
  clear hW0
  have hLL := HL.out W0 hc0
  have HC0 := Lib.hid hc0; clear hc0
  have HB0 := Lib.hid hb0; clear hb0
  have HB1 := Lib.hid hb1; clear hb1
  go_wp2_with fail
  refine hLL.mono ?_
  rintro e w' ⟨rfl, rfl⟩
  clear hLL
  go_wp2_with fail
  refine calls_named fun W1 hW1 => ?_
  have hc1 : Ch [] W0 W1 := by rw [hW1]; exact ((Ch.refl _ _).alloc _).alloc _
  have e1 : blk W1 W0.heap.size [.slice ya yl.length yc] := by rw [hW1]; exact (blk.new' _ _ (by simp)).alloc _
  have e2 : blk W1 (W0.heap.size + 1) [.slice (some ⟨W0.heap.size, 0, none⟩) 1 1] := by rw [hW1]; exact blk.new' _ _ (by simp)
  clear hW1
  refine (HCHK.out W1 _ _ (HC0.out.trans hc1 (by simp)) e2 e1).mono ?_
  rintro e w2 ⟨rfl, hc2⟩
  have hc02 := hc1.trans hc2 (by simp)
  have HC2 := Lib.hid (HC0.out.trans hc02 (by simp))
  have HB0' := Lib.hid (HB0.out.ch hc02 (by simp))
  have HB1' := Lib.hid (HB1.out.ch hc02 (by simp))
  clear e1 e2 hc1 hc2 hc02 d0 HB0 HB1 HCHK
  by_cases hz : cc = 0
  · have hBB := HBU.out hz w2 HC2.out HB0'.out HB1'.out
    have hww := HWW.out
    rw [if_neg (by simp [hz])] at hww
    subst hz
    have HBB := Lib.hid hBB; clear hBB HBU
    have HW2 := Lib.hid hww; clear hww
    go_wp2_with fail
    refine HBB.out.mono ?_
    rintro e w3 ⟨v, rfl, hmb⟩
    obtain ⟨rfl, hgt⟩ := MB.gto HC2.out hmb
    rw [HW2.out] at hgt ⊢
    have HGT := Lib.hid hgt; clear hgt hmb
    go_wp2_with fail
    go_ret2
    exact ⟨by rw [← HW2.out, rres_e]; rfl, HGT.out⟩
  · have hq : ((cc : Int) != 0) = true := by simp; omega
    have hww := HWW.out
    rw [if_pos hz] at hww
    have HW2 := Lib.hid hww; clear hww
    have HZ := Lib.hid hz; clear hz
    go_wp2_with fail
    go_ret2
    exact ⟨by rw [← HW2.out]; rfl, by rw [← HW2.out]; exact GTo.same H.out HC2.out⟩
end
section
variable {w0 : Base} {w : World} {g : Nat} {G : Gra} {F : List Nat} {L : List (Value × List Int)}
theorem mIs_h (h : Hold w0 w g G F L) {ya : Option Addr} {yl : List Int} {m yc : Nat} (hy : (.slice ya m yc, yl) ∈ L) (hym : yl.length = m) (i : Nat) (hi : i < 4294967296) {G' : Gra} {r e : Nat} (hR : isG G yl i = (G', r, e)) :
    Calls Tryz.prog 31 #[.pointer (some ⟨g, 0, none⟩), .slice ya m yc, .int .u32 i] w fun en w' => ∃ F', en = .returned (.tuple #[.int .i64 r, .int .i64 e]) ∧ Hold w0 w' g G' F' L := by
  have hc := mIs_is h.own.gin (h.at hy hym) i hi
  simp only [WV.val, hym] at hc
  exact Calls.ref h hc hR
end
end Go.Proofs.YtdmmanfjafempaaGreat
namespace Go.Mem
open Go.MapKept
/-- the map holds just these keys and values -/
def UMap (w : World) (mb : Nat) (L : List (Nat × Value)) : Prop := ∃ es clock, w.heap[mb]? = some (.map es clock) ∧ (es.toList.map fun e => (e.key, e.val)) = L.map fun p => (Value.int .u8 p.1, p.2)
theorem UMap.of_heap {w w' : World} {mb : Nat} {L : List (Nat × Value)} (h : UMap w mb L) (e : w'.heap[mb]? = w.heap[mb]?) : UMap w' mb L := by
  obtain ⟨es, clock, h1, h2⟩ := h
  exact ⟨es, clock, e.trans h1, h2⟩
theorem UMap.lt {w : World} {mb : Nat} {L : List (Nat × Value)} (h : UMap w mb L) : mb < w.heap.size := by
  obtain ⟨es, clock, h1, _⟩ := h
  exact (Array.getElem?_eq_some_iff.1 h1).1
theorem UMap.ch {F : List Nat} {w w' : World} {mb : Nat} {L : List (Nat × Value)} (h : UMap w mb L) (hc : Ch F w w') (hF : mb ∉ F) : UMap w' mb L := h.of_heap (hc.block mb h.lt hF)
section
variable {P : Program} {w : World} {T K E : TypeId} {mb : Nat} {L : List (Nat × Value)}
theorem UMap.find (h : UMap w mb L) (n : Nat) : ∃ es clock, w.heap[mb]? = some (.map es clock) ∧ (es.toList.map fun e => (e.key, e.val)) = (L.map fun p => (Value.int .u8 p.1, p.2)) ∧
    ((Instr.findNow (.int .u8) (.int .u8 n) es.toList 0 = some none ∧ n ∉ L.map Prod.fst) ∨ (∃ j v, Instr.findNow (.int .u8) (.int .u8 n) es.toList 0 = some (some (j, v)) ∧ L[j]? = some (n, v))) := by
  obtain ⟨es, clock, h1, h2⟩ := h
  have hk : IsKey (.int .u8) (.int .u8 (n : Int)) := by simp [IsKey]
  have hat : ∀ (j : Nat) (e : MapEntry), es.toList[j]? = some e → ∃ m v, L[j]? = some (m, v) ∧ e.key = .int .u8 (m : Nat) ∧ e.val = v := fun j e he => by
    have := congrArg (fun l => l[j]?) h2
    simp only [List.getElem?_map, he, Option.map_some] at this
    cases hL : L[j]? with
    | none => rw [hL] at this; cases this
    | some m => rw [hL] at this; simp at this; exact ⟨m.1, m.2, rfl, this.1, this.2⟩
  have hks : ∀ x ∈ es.toList, IsKey (.int .u8) x.key := fun x hx => by
    obtain ⟨j, hj⟩ := List.mem_iff_getElem?.1 hx
    obtain ⟨m, v, _, hm, _⟩ := hat j x hj
    rw [hm]; simp [IsKey]
  refine ⟨es, clock, h1, h2, ?_⟩
  rcases findNow_spec hk es.toList 0 hks with ⟨q1, q2⟩ | ⟨j, e, q1, q2, q3⟩
  · refine .inl ⟨q1, fun hn => ?_⟩
    obtain ⟨⟨n', v⟩, hp, rfl⟩ := List.mem_map.1 hn
    obtain ⟨j, hj⟩ := List.mem_iff_getElem?.1 hp
    have hlt := (List.getElem?_eq_some_iff.1 hj).1
    have hsz : es.toList.length = L.length := by have := congrArg List.length h2; simpa using this
    obtain ⟨m, v', hm, hkm, _⟩ := hat j _ (List.getElem?_eq_getElem (by rw [hsz]; exact hlt))
    rw [hj] at hm; cases hm
    exact q2 _ (List.getElem_mem _) hkm
  · obtain ⟨m, v, hm, hkm, hv⟩ := hat j e q2
    rw [q3] at hkm
    simp at hkm
    obtain rfl : n = m := by omega
    rw [hv, Nat.zero_add] at q1
    exact .inr ⟨j, v, q1, hm⟩
theorem UMap.lookup_yes (hT : P.underlying T = some (.map K E)) (hK : P.underlying K = some (.int .u8)) (h : UMap w mb L) {n : Nat} {v : Value} (hm : (n, v) ∈ L) (hu : ∀ v', (n, v') ∈ L → v' = v) :
    (Instr.lookup T (.map (some mb)) (.int .u8 n) false).run P w = .ok v w ∧ (Instr.lookup T (.map (some mb)) (.int .u8 n) true).run P w = .ok (.tuple #[v, .bool true]) w := by
  have hk : IsKey (.int .u8) (.int .u8 (n : Int)) := by simp [IsKey]
  obtain ⟨es, clock, h1, _, ⟨q, hn⟩ | ⟨j, v', q, hn⟩⟩ := h.find n
  · exact absurd (List.mem_map.2 ⟨_, hm, rfl⟩) hn
  · rw [hu v' (List.mem_of_getElem? hn)] at q
    unfold Instr.lookup
    constructor <;> simp [run_underlying hT, run_getMap h1, run_checkKey hK hk, run_findKey hK q]
theorem UMap.lookup_no (hT : P.underlying T = some (.map K E)) (hK : P.underlying K = some (.int .u8)) {z : Value} (hz : ∀ w, (zeroValue E).run P w = .ok z w) (h : UMap w mb L) {n : Nat} (hm : n ∉ L.map Prod.fst) :
    (Instr.lookup T (.map (some mb)) (.int .u8 n) false).run P w = .ok z w ∧ (Instr.lookup T (.map (some mb)) (.int .u8 n) true).run P w = .ok (.tuple #[z, .bool false]) w := by
  have hk : IsKey (.int .u8) (.int .u8 (n : Int)) := by simp [IsKey]
  obtain ⟨es, clock, h1, _, ⟨q, hn⟩ | ⟨j, v', q, hn⟩⟩ := h.find n
  · unfold Instr.lookup
    constructor <;> simp [run_underlying hT, run_getMap h1, run_checkKey hK hk, run_findKey hK q, hz]
  · exact absurd (List.mem_map.2 ⟨_, List.mem_of_getElem? hn, rfl⟩) hm
theorem UMap.set (hT : P.underlying T = some (.map K E)) (hK : P.underlying K = some (.int .u8)) (h : UMap w mb L) {n : Nat} (hn : n ∉ L.map Prod.fst) (v : Value) :
    ∃ w', (Instr.mapUpdate T (.map (some mb)) (.int .u8 n) v).run P w = .ok () w' ∧ Ch [mb] w w' ∧ UMap w' mb (L ++ [(n, v)]) := by
  have hk : IsKey (.int .u8) (.int .u8 (n : Int)) := by simp [IsKey]
  have hch : ∀ (o : Obj), Ch [mb] w { w with heap := w.heap.setIfInBounds mb o } := fun o => ⟨rfl, rfl, rfl, by simp, fun j _ hj => Array.getElem?_setIfInBounds_ne (by simp at hj; omega)⟩
  obtain ⟨es, clock, h1, h2, ⟨q, _⟩ | ⟨j, v', q, hn2⟩⟩ := h.find n
  · have hlt := (Array.getElem?_eq_some_iff.1 h1).1
    refine ⟨_, by simp [Instr.mapUpdate, run_underlying hT, run_getMap h1, run_checkKey hK hk, run_findKey hK q, run_setMap h1, Result.andThen]; rfl, hch _, ⟨_, _, Array.getElem?_setIfInBounds_self_of_lt hlt, ?_⟩⟩
    rw [Array.toList_push, List.map_append, h2]; simp
  · exact absurd (List.mem_map.2 ⟨_, List.mem_of_getElem? hn2, rfl⟩) hn
end
end Go.Mem
namespace Go.Aig
def rightB (n : Int) : Bool := decide (1 ≤ n) && decide (n ≤ 16)
end Go.Aig
namespace Go.Proofs.YtdmmanfjafempaaGreat
open Go.RowKit Go.Mem Go.Aig
theorem mZ25 (w : World) : (zeroValue 105).run Tryz.prog w = .ok .nilFunc w := by kernel_rfl
section
variable {w : World}
end
end Go.Proofs.YtdmmanfjafempaaGreat
namespace Go.Aig
/-- a word shifted: to the left (1), or to the right -/
def shL (side : Nat) (x : List Int) (n : Nat) : List Int := (List.range x.length).map fun i => if side = 1 then (if n ≤ i then x.getD (i - n) 0 else 0) else x.getD (i + n) 0
@[simp] theorem shL_len (side : Nat) (x : List Int) (n : Nat) : (shL side x n).length = x.length := by simp [shL]
theorem shL_at {side : Nat} {x : List Int} {n i : Nat} (h : i < x.length) : (shL side x n)[i]? = some (if side = 1 then (if n ≤ i then x.getD (i - n) 0 else 0) else x.getD (i + n) 0) := by
  unfold shL
  rw [List.getElem?_map, List.getElem?_range h]
  rfl
theorem shL_bd {side : Nat} {x : List Int} {n : Nat} (h : ∀ r ∈ x, -9223372036854775808 ≤ r ∧ r ≤ 9223372036854775807) : ∀ r ∈ shL side x n, -9223372036854775808 ≤ r ∧ r ≤ 9223372036854775807 := fun r hr => by
  have hd : ∀ j, -9223372036854775808 ≤ x.getD j 0 ∧ x.getD j 0 ≤ 9223372036854775807 := fun j => by
    rw [List.getD_eq_getElem?_getD]
    cases hj : x[j]? with
    | none => simp
    | some r => exact h r (List.mem_of_getElem? hj)
  obtain ⟨i, _, rfl⟩ := List.mem_map.1 hr
  split
  · split
    · exact hd _
    · omega
  · exact hd _
/-- k bits are done -/
def shP (S : List Int) (k : Nat) : List Int := S.take k ++ List.replicate (S.length - k) 0
theorem shP_len {S : List Int} {k : Nat} (h : k ≤ S.length) : (shP S k).length = S.length := by unfold shP; rw [List.length_append, List.length_take, List.length_replicate]; omega
theorem shP_zero (S : List Int) : shP S 0 = List.replicate S.length 0 := by simp [shP]
theorem shP_all (S : List Int) : shP S S.length = S := by simp [shP]
theorem shP_set {S : List Int} {k : Nat} {r : Int} (h : S[k]? = some r) : (shP S k).set k r = shP S (k + 1) := by
  have hlt := (List.getElem?_eq_some_iff.1 h).1
  unfold shP
  rw [List.set_append_right _ _ (by rw [List.length_take]; omega), List.length_take, show k - min k S.length = 0 by omega, show S.length - k = (S.length - (k + 1)) + 1 by omega, List.replicate_succ, List.set_cons_zero, List.take_add_one, h]
  simp
theorem shP_same {S : List Int} {k : Nat} (h : S[k]? = some 0) : shP S k = shP S (k + 1) := by
  have hlt := (List.getElem?_eq_some_iff.1 h).1
  unfold shP
  rw [show S.length - k = (S.length - (k + 1)) + 1 by omega, List.replicate_succ, List.take_add_one, h]
  simp
end Go.Aig
namespace Go.Proofs.YtdmmanfjafempaaGreat
open Go.RowKit Go.Mem Go.Aig
theorem row_fresh {w W : World} {l : List Int} {n : Nat} (hW : W = w.alloc (.cells (intCells l).toArray 41)) (hn : l.length = n) (hl : n ≤ 1000000) : row W 41 1 (.slice (some ⟨w.heap.size, 0, none⟩) n n) n (intCells l) := by
  subst hn hW
  have hx : (w.alloc (.cells (intCells l).toArray 41)).heap[w.heap.size]? = some (.cells (intCells l).toArray 41 (0, 0)) := heap_alloc_new w _
  exact ⟨by simp [intCells], .inr ⟨w.heap.size, l.length, (intCells l).toArray, rfl, by simp, hx, Nat.le_refl _, by unfold maxLen; omega, by simp [intCells], by rw [Nat.mul_one]; exact List.take_of_length_le (by simp [intCells])⟩⟩
theorem intCells_set (l : List Int) (i : Nat) (r : Int) : intCells (l.set i r) = (intCells l).set i (.int .i64 r) := by unfold intCells; rw [List.map_set]
section
variable {w : World}
end
end Go.Proofs.YtdmmanfjafempaaGreat
namespace Go.Aig
/-- how many bits of a word move a word of a width by less than it -/
def stepsN (w bits : Nat) : Nat := (List.range bits).countP fun k => decide (2 ^ k < w)
theorem stepsN_at {w bits k : Nat} (h : ∀ j, j < k → 2 ^ j < w) (hk : k ≤ bits) (he : k = bits ∨ w ≤ 2 ^ k) : stepsN w bits = k := by
  obtain ⟨m, rfl⟩ : ∃ m, bits = k + m := ⟨bits - k, by omega⟩
  unfold stepsN
  rw [List.range_add, List.countP_append]
  have h1 : (List.range k).countP (fun k => decide (2 ^ k < w)) = k := by
    rw [List.countP_eq_length.2 (fun a ha => decide_eq_true (h a (List.mem_range.1 ha))), List.length_range]
  have h2 : ((List.range m).map (k + ·)).countP (fun k => decide (2 ^ k < w)) = 0 := by
    rw [List.countP_eq_zero]
    intro a ha
    obtain ⟨j, hj, rfl⟩ := List.mem_map.1 ha
    rcases he with e | e
    · have := List.mem_range.1 hj; omega
    · have : 2 ^ k ≤ 2 ^ (k + j) := Nat.pow_le_pow_right (by omega) (by omega)
      simp; omega
  rw [h1, h2]
  rfl
/-- the error of Fixed -/
def fixE (side : Nat) (x : List Int) (n : Int) : Nat := if side ≠ 1 ∧ side ≠ 2 then 251 else if rightB x.length = false then 250 else if n < 0 then 2 else 0
/-- a word turned -/
def turnL (x : List Int) (n : Int) : List Int := let k := (n.emod x.length).toNat; x.drop k ++ x.take k
end Go.Aig
namespace Go.Proofs.YtdmmanfjafempaaGreat
open Go.RowKit Go.Mem Go.Aig
theorem WNew.since {w w1 w2 : World} {v : Value} {xs : List Value} (h : WNew w1 v xs w2) (hc : Ch [] w w1) : WNew w v xs w2 := ⟨h.1, fun q hq => Nat.le_trans hc.size (h.2.1 q hq), hc.trans h.2.2 (by simp)⟩
section
variable {w : World}
end
end Go.Proofs.YtdmmanfjafempaaGreat
namespace Go.Proofs.YtdmmanfjafempaaGreat
open Go.RowKit Go.Mem Go.Aig
section
variable {w : World}
theorem run_app_zeros (w : World) (ty : TypeId) (n : Nat) (h0 : 0 < n) (hn : n ≤ 1000000) : ∃ c W, (Builtin.append_ #[40, 3] ty #[.slice none 0 0, .int .i64 n]).run Tryz.prog w = .ok (.slice (some ⟨w.heap.size, 0, none⟩) n c) W ∧ row W 41 1 (.slice (some ⟨w.heap.size, 0, none⟩) 0 c) 0 [] ∧ Ch [] w W ∧ n ≤ c ∧ c ≤ maxLen := by
  obtain ⟨i, hi, hz, hs, hb⟩ := info_parts infoRef
  have hr := Go.Lib.run_append_nil_zeros (P := Tryz.prog) w 40 3 ty 41 i (.int .i64 0) .i64 .i64 Tryz.underlying40 Tryz.underlying3 hi hz n h0 (by rw [hs]; omega) (by omega) (by rw [hb]; omega)
  have h1 := grownCap_ge w n 0 41
  have h2 := grownCap_le_maxLen w n 0 41 (by unfold maxLen; omega)
  refine ⟨_, _, hr, ⟨rfl, .inr ⟨_, _, _, rfl, Nat.zero_le _, heap_alloc_new w.drew _, Nat.zero_le _, h2, ?_, by simp⟩⟩, ((Ch.refl [] w).drew).alloc _, h1, h2⟩
  simp [Value.cells, Builtin.zeroCells]
  omega
set_option maxRecDepth 100000 in
set_option maxHeartbeats 2000000 in
theorem Grow_nil (n : Nat) (h0 : 0 < n) (hn : n ≤ 1000000) : Calls Tryz.prog 160 #[.slice none 0 0, .int .i64 n] w fun e w' => ∃ v, e = .returned v ∧ row w' 41 1 v 0 [] ∧ (∀ q ∈ v.ownBlock.toList, w.heap.size ≤ q) ∧ Ch [] w w' := by
  obtain ⟨c, W, hr, hrow, hch, h1, h2⟩ := run_app_zeros w 40 n h0 hn
  have HROW := Lib.hid hrow; clear hrow
  have HCH := Lib.hid hch; clear hch
  go_enter Tryz.func160, Tryz.ntmps160
  have HR := Lib.hid hr; clear hr
  go_wp2_with (at_builtin; go_loud (refine Go.Lib.wpList_append_run w rfl _ _ _ _ rfl (.slice none 0 0) (.int .i64 n) rfl rfl _ _ HR.out ?_))
  go_ret
  exact ⟨_, rfl, HROW.out, by simp, HCH.out⟩
/-- pieces that lie in memory, side by side as the slice's elements -/
structure Pcs (w : World) (q : Nat) (ps : List (Addr × List Int × Nat)) : Prop where
  hd : ∀ (k : Nat) (p : Addr) (l : List Int) (c : Nat), ps[k]? = some (p, l, c) → w.cell? ⟨q, k, none⟩ = some (.slice (some p) l.length c)
  cl : ∀ (k : Nat) (p : Addr) (l : List Int) (c : Nat), ps[k]? = some (p, l, c) → ∀ j u, (intCells l)[j]? = some u → w.cell? (p.add j) = some u
  cp : ∀ (k : Nat) (p : Addr) (l : List Int) (c : Nat), ps[k]? = some (p, l, c) → l.length ≤ c
  qlt : q < w.heap.size
def pcsL (ps : List (Addr × List Int × Nat)) : List Int := ps.flatMap fun x => x.2.1
theorem pcsL_succ {ps : List (Addr × List Int × Nat)} {k : Nat} {p : Addr} {l : List Int} {c : Nat} (h : ps[k]? = some (p, l, c)) : pcsL (ps.take (k + 1)) = pcsL (ps.take k) ++ l := by
  unfold pcsL
  rw [List.take_add_one, h]
  simp
theorem pcsL_le (ps : List (Addr × List Int × Nat)) (k : Nat) : (pcsL (ps.take k)).length ≤ (pcsL ps).length := by
  have e : pcsL ps = pcsL (ps.take k) ++ pcsL (ps.drop k) := by
    unfold pcsL; rw [← List.flatMap_append, List.take_append_drop]
  rw [e, List.length_append]; omega
theorem Pcs.ch {w W : World} {q : Nat} {ps : List (Addr × List Int × Nat)} (h : Pcs w q ps) (hc : Ch [] w W) : Pcs W q ps :=
  ⟨fun k p l c hk => (hc.cell (p := ⟨q, k, none⟩) h.qlt (by simp)).trans (h.hd k p l c hk), fun k p l c hk j u hu => (hc.cell (cell_lt (h.cl k p l c hk j u hu)) (by simp)).trans (h.cl k p l c hk j u hu), h.cp, Nat.lt_of_lt_of_le h.qlt hc.size⟩
set_option maxRecDepth 100000 in
set_option maxHeartbeats 4000000 in
theorem Ccref_is {q : Nat} {ps : List (Addr × List Int × Nat)} (n c : Nat) (h : Pcs w q ps) (hn : ps.length = n) (hnc : n ≤ 1000) (h1 : 0 < (pcsL ps).length) (h2 : (pcsL ps).length ≤ 1000000) :
    Calls Tryz.prog 124 #[.slice (some ⟨q, 0, none⟩) n c] w fun e w' => ∃ v, e = .returned v ∧ WNew w v (intCells (pcsL ps)) w' := by
  have HN := fun W => Grow_nil (w := W) (pcsL ps).length h1 h2
  have H := Lib.hid h; clear h
  go_enter Tryz.func124, Tryz.ntmps124
  go_wp2_with fail
  go_loopw [3, 11] (fun s i wr => ∃ k : Nat, k ≤ n ∧ i = .int .i64 k ∧ s = .int .i64 (pcsL (ps.take k)).length ∧ wr = w) (fun _ i _ => n - (intOf i).toNat)
  case atStart => exact ⟨0, by omega, rfl, by simp [pcsL], rfl⟩
  case round =>
    obtain ⟨k, hk, rfl, rfl, hww⟩ := hrel
    subst wr
    have hle := pcsL_le ps k
    by_cases hlt : k < n
    · obtain ⟨⟨p, l, lc⟩, hp⟩ : ∃ x, ps[k]? = some x := ⟨_, List.getElem?_eq_getElem (by omega)⟩
      have c0 := H.out.hd k p l lc hp
      have hsu := pcsL_succ hp
      have hle2 := pcsL_le ps (k + 1)
      rw [hsu, List.length_append] at hle2
      have HSU := Lib.hid hsu; clear hsu
      generalize hA : (pcsL (ps.take k)).length = A at *
      have hnn : decide ((A : Int) + l.length < 0) = false := decide_eq_false (by omega)
      go_wp2_with fail
      go_roundw
      case rel => exact ⟨k + 1, by omega, by go_num, by rw [HSU.out, List.length_append, hA]; push_cast; rfl, by trivial⟩
      case measure => simp [intOf]; omega
    · have hkn : k = n := by omega
      have hall : ps.take k = ps := List.take_of_length_le (by omega)
      rw [hall] at hle ⊢
      clear hall hkn
      have HNN := Lib.hid HN; clear HN
      go_wp2_with fail
      refine (HNN.out _).mono ?_
      rintro e w1 ⟨v, rfl, hrow, hlo, hch⟩
      have HROW := Lib.hid hrow; clear hrow
      have HLO := Lib.hid hlo; clear hlo
      have HCH := Lib.hid hch; clear hch hle
      clear hlt
      go_wp2_with fail
      go_loopw [6, 27] (fun o i wr => ∃ k : Nat, k ≤ n ∧ i = .int .i64 k ∧ Ch [] w wr ∧ row wr 41 1 o (pcsL (ps.take k)).length (intCells (pcsL (ps.take k))) ∧ ∀ q ∈ o.ownBlock.toList, w.heap.size ≤ q) (fun _ i _ => n - (intOf i).toNat)
      case atStart => exact ⟨0, by omega, rfl, HCH.out, by simpa [pcsL, intCells] using HROW.out, HLO.out⟩
      case round =>
        obtain ⟨k, hk, rfl, hc, hrow, hlo⟩ := hrel
        obtain ⟨oa, oc, rfl⟩ := row.shape hrow
        by_cases hlt : k < n
        · obtain ⟨⟨p, l, lc⟩, hp⟩ : ∃ x, ps[k]? = some x := ⟨_, List.getElem?_eq_getElem (by omega)⟩
          have hP := H.out.ch hc
          have c0 := hP.hd k p l lc hp
          have hcl := hP.cl k p l lc hp
          have hcp := hP.cp k p l lc hp
          have hsu := pcsL_succ hp
          have hle2 := pcsL_le ps (k + 1)
          rw [hsu, List.length_append] at hle2
          have HSU := Lib.hid hsu; clear hsu
          have h1o : ∀ u ∈ intCells l, u.oneCell' = true := fun u hu => by
            obtain ⟨r, _, rfl⟩ := List.mem_map.1 hu
            rfl
          have HCL := Lib.hid hcl; clear hcl hp hP
          have H1O := Lib.hid h1o; clear h1o
          generalize hA : pcsL (ps.take k) = A at *
          have HA := Lib.hid hA; clear hA
          have HRA := Lib.hid hrow; clear hrow
          have HC := Lib.hid hc; clear hc
          have HLO2 := Lib.hid hlo; clear hlo
          go_wp2_with (at_builtin; go_loud (refine wpList_append_row slRefs rfl _ _ rfl (v := .slice oa A.length oc) (n := A.length) (xs := intCells A) rfl HRA.out (ad := p) (m := l.length) (c := lc) (news := intCells l) rfl (by simp [intCells]) HCL.out H1O.out (by omega) (by omega) ?_; intro v' w4 hown4 hC4 hf4; have HO4 := Lib.hid hown4; clear hown4; have HC4 := Lib.hid hC4; clear hC4; have HF4 := Lib.hid hf4; clear hf4))
          go_roundw
          case rel =>
            obtain ⟨q1, q2⟩ := app_step HC.out (Ch.refl [] wr) HLO2.out HC4.out HF4.out
            refine ⟨k + 1, by omega, by go_num, q1, ?_, q2⟩
            rw [HSU.out, List.length_append]
            have := HO4.out
            simpa [intCells] using this
          case measure => simp [intOf]; omega
        · have hkn : k = n := by omega
          have hall : ps.take k = ps := List.take_of_length_le (by omega)
          rw [hall] at hrow hlo ⊢
          have HRA := Lib.hid hrow; clear hrow hall hkn
          have HC := Lib.hid hc; clear hc
          have HLO2 := Lib.hid hlo; clear hlo
          go_wp2_with fail
          go_ret
          exact ⟨_, rfl, by simpa [intCells] using HRA.out, HLO2.out, HC.out⟩
theorem pcs_two {w : World} {q : Nat} {p1 p2 : Addr} {l1 l2 : List Int} {n1 n2 c1 c2 : Nat} (hb : blk w q [.slice (some p1) n1 c1, .slice (some p2) n2 c2]) (h1 : l1.length = n1) (h2 : l2.length = n2) (k1 : n1 ≤ c1) (k2 : n2 ≤ c2)
    (e1 : ∀ j u, (intCells l1)[j]? = some u → w.cell? (p1.add j) = some u) (e2 : ∀ j u, (intCells l2)[j]? = some u → w.cell? (p2.add j) = some u) : Pcs w q [(p1, l1, c1), (p2, l2, c2)] := by
  subst h1 h2
  refine ⟨fun k p l c hk => ?_, fun k p l c hk => ?_, fun k p l c hk => ?_, hb.lt⟩ <;> rcases k with _ | _ | k
  · cases hk; exact hb.cell rfl
  · cases hk; exact hb.cell rfl
  · simp at hk
  · cases hk; exact e1
  · cases hk; exact e2
  · simp at hk
  · cases hk; exact k1
  · cases hk; exact k2
  · simp at hk
end
end Go.Proofs.YtdmmanfjafempaaGreat
namespace Go.Aig
/-- a choice by a bit that is known: a if it is false, b if it is true -/
def muxOf (c : Nat) (G : Gra) (a b : Nat) : Res := if c < 2 * G.nodes.length then rMux G c b a else (G, 0, 201)
theorem full_mux (c : Nat) : Full2 (muxOf c) := fun G h a b ha hb => by
  unfold muxOf
  split
  · rename_i hc; exact rMux_full h hc hb ha
  · exact ⟨⟨h, .refl _, by have := h.wf.pos; show 0 < 2 * G.nodes.length; omega, .inr rfl⟩, fun _ => rfl⟩
theorem eachF_app (op : Mk → Nat → Nat → Mk × Nat) (s : Mk) (l m : List (Nat × Nat)) : eachF op s (l ++ m) = m.foldl (eachS op) (eachF op s l) := by unfold eachF; rw [List.foldl_append]
theorem eachS_bad (f : Gra → Nat → Nat → Res) : ∀ (m : List (Nat × Nat)) (q : Mk × List Nat), q.1.2 ≠ 0 → (m.foldl (eachS (rop f)) q).1 = q.1
  | [], _, _ => rfl
  | p :: m, q, h => by
    rw [List.foldl_cons]
    have e : (eachS (rop f) q p).1 = q.1 := by unfold eachS rop; rw [rstep_bad h]
    rw [eachS_bad f m _ (by rw [e]; exact h), e]
theorem eachF_bad (f : Gra → Nat → Nat → Res) (s : Mk) (l m : List (Nat × Nat)) (h : (eachF (rop f) s l).1.2 ≠ 0) : (eachF (rop f) s (l ++ m)).1 = (eachF (rop f) s l).1 := by
  rw [eachF_app, eachS_bad f m _ h]
theorem eachF_lenT (op : Mk → Nat → Nat → Mk × Nat) (s : Mk) (l : List (Nat × Nat)) : (eachF op s l).2.length = l.length := by
  have : ∀ (l : List (Nat × Nat)) (q : Mk × List Nat), (l.foldl (eachS op) q).2.length = q.2.length + l.length := by
    intro l
    induction l with
    | nil => intro q; rfl
    | cons p l ih => intro q; rw [List.foldl_cons, ih]; simp [eachS]; omega
  rw [eachF, this]; simp
/-- what is left of a step: the word, or an error and a graph that has grown -/
structure Step5 (G : Gra) (R : Mk × List Nat) (G1 : Gra) (l : List Nat) (e : Nat) : Prop where
  yes : R.1.2 = 0 → G1 = R.1.1 ∧ l = R.2 ∧ e = 0
  no : R.1.2 ≠ 0 → l = [] ∧ e = R.1.2
  err : R.1.2 = 0 ∨ R.1.2 = 201
  ext : Ext G G1
  ok : Ok G1
end Go.Aig
namespace Go.Mem
theorem wpListIn_append_row {F : Fence} {nF : Nat} {P : Program} {w : World} {ops : Array Oper} {rest : List Oper} {o : Oper} {a : Act} {Q : Exit → Act → World → Prop} {t e : TypeId} {size bytes : Nat} {z : Value} (S : SliceTy P t e size bytes z) (hgd : o.guard = none) (s x : Operand)
    (ho : o.op = .call { callee := .builtin .append, args := #[s, x], argTypes := #[t, t] })
    {v : Value} {n : Nat} {xs : List Value} (hs : a.eval s = v) (hown : row w e size v n xs) {ad : Addr} {m c : Nat} {news : List Value} (hx : a.eval x = .slice (some ad) m c) (hl : news.length = m * size) (hnews : ∀ j u, news[j]? = some u → w.cell? (ad.add j) = some u) (h1 : ∀ u ∈ news, u.oneCell' = true)
    (hbytes : (n + m) * bytes ≤ 140737488355328) (h63 : n + m ≤ 9223372036854775807)
    (h : ∀ v' w', row w' e size v' (n + m) (xs ++ news) → Ch v.ownBlock.toList w w' → (∀ k, v'.ownBlock = some k → v.ownBlock = some k ∨ w.heap.size ≤ k) → wpListIn F nF P ops Q rest (a.put o.dst v') w') : wpListIn F nF P ops Q (o :: rest) a w := by
  refine wpListIn_plain hgd fun K hK => ?_
  obtain ⟨v', w', hr, h2, h3, h4⟩ := run_append_row (P := P) w S o.type v n xs hown ad m c news hl hnews h1 hbytes (by unfold maxLen; omega)
  unfold Oper.wpIn
  refine ⟨by simp [Oper.about, ho, resolve, Target.leads, Sem.run_pure], ?_⟩
  rw [Oper.semAt_plain F _ _ (by rw [ho]; intro c hc'; cases hc')]
  simp [execOp, ho, resolve, invoke, builtin, hs, hx, hr, Result.andThen]
  exact hK _ _ (h v' w' h2 h3 h4)
end Go.Mem
namespace Go.Proofs.YtdmmanfjafempaaGreat
open Go.RowKit Go.Mem Go.Aig
attribute [local go_sem] Oper.semAt_some
/-- what is known between two rounds of step -/
structure E5 (w : World) (g : Nat) (F : List Nat) (c : Nat) (W : World) (v : Value) (Gp : Gra) (l : List Nat) (F' : List Nat) : Prop where
  gin : GIn W g Gp F'
  ch : Ch F w W
  own : ∀ k ∈ F', k ∈ F ∨ w.heap.size + 7 + 2 ≤ k
  map : F'[2]? = F[2]?
  b4 : blk W w.heap.size [.pointer (some ⟨g, 0, none⟩)]
  b5 : blk W (w.heap.size + 1) [.int .i64 c]
  b8 : blk W (w.heap.size + 2) [.slice none 0 0]
  b9 : blk W (w.heap.size + 3) [.int .i64 0]
  b10 : blk W (w.heap.size + 4) [v]
  row : Go.Mem.row W 41 1 v l.length (refsCells l)
  fresh : ∀ k, v.ownBlock = some k → w.heap.size + 7 + 2 ≤ k ∧ k ∉ F'
theorem res2 {fn : Func} {t u : Tmp} {et eu : TypeId} (h : fn.results = #[.cell t et, .cell u eu]) {tmps : Array Value} {P : Program} {w : World} {p q : Addr} {a b : Value} (he : ∀ w, (isAgg et).run P w = .ok false w) (hu : ∀ w, (isAgg eu).run P w = .ok false w) (h1 : tmps.getD t undef = .pointer (some p)) (h2 : tmps.getD u undef = .pointer (some q)) (h3 : w.cell? p = some a) (h4 : w.cell? q = some b) :
    (results fn tmps).run P w = .ok (.tuple #[a, b]) w := by
  rw [Array.getD_eq_getD_getElem?] at h1 h2
  simp [results, h, go_sem, h1, h2, h3, h4, he, hu]
structure I5 (w : World) (g : Nat) (G : Gra) (F : List Nat) (c : Nat) (pre : List (Nat × Nat)) (W : World) : Prop where
  ex : ∃ v Gp l F', eachF (rop (muxOf c)) (G, 0) pre = ((Gp, 0), l) ∧ Ok Gp ∧ Ext G Gp ∧ E5 w g F c W v Gp l F'
structure X5 (w : World) (g : Nat) (G : Gra) (F : List Nat) (c : Nat) (all : List (Nat × Nat)) (W : World) : Prop where
  ex : ∃ Gp F', (eachF (rop (muxOf c)) (G, 0) all).1.2 = 201 ∧ Ok Gp ∧ Ext G Gp ∧ GIn W g Gp F' ∧ Ch F w W ∧ (∀ k ∈ F', k ∈ F ∨ w.heap.size + 7 + 2 ≤ k) ∧ F'[2]? = F[2]? ∧ blk W (w.heap.size + 2) [.slice none 0 0] ∧ blk W (w.heap.size + 3) [.int .i64 (201 : Nat)]
section
variable {w A A' : World} {g c : Nat} {G Gp : Gra} {F F' : List Nat} {v : Value} {l : List Nat}
theorem E5.sep (h : E5 w g F c A v Gp l F') (hl : ∀ k ∈ F, k < w.heap.size) : ∀ k ∈ F', k < w.heap.size ∨ w.heap.size + 7 + 2 ≤ k := fun k hk => (h.own k hk).imp (hl k) id
theorem E5.same (h : E5 w g F c A v Gp l F') (hl : ∀ k ∈ F, k < w.heap.size) (hc : Ch [w.heap.size + 7, w.heap.size + 7 + 1] A A') : E5 w g F c A' v Gp l F' := by
  have hs := h.sep hl
  have hn : ∀ k ∈ F', k ∉ [w.heap.size + 7, w.heap.size + 7 + 1] := fun k hk hm => by have := hs k hk; simp at hm; omega
  refine ⟨h.gin.same hc hn, h.ch.trans hc (fun k hk => .inr (by simp at hk; omega)), h.own, h.map, h.b4.ch hc (by simp; omega), h.b5.ch hc (by simp), h.b8.ch hc (by simp), h.b9.ch hc (by simp), h.b10.ch hc (by simp), h.row.ch hc (fun k hk hm => by have := (h.fresh k hk).1; simp at hm; omega), h.fresh⟩
theorem E5.ch0 (h : E5 w g F c A v Gp l F') (hl : ∀ k ∈ F, k < w.heap.size) (hc : Ch [] A A') : E5 w g F c A' v Gp l F' := h.same hl (hc.mono (by simp))
theorem E5.more (h : E5 w g F c A v Gp l F') (hl : ∀ k ∈ F, k < w.heap.size) (hz : w.heap.size + 7 + 2 ≤ A.heap.size) {G' : Gra} (ht : GTo A g G' F' A') :
    (∃ F1, E5 w g F c A' v G' l F1) ∧ Books (w.heap.size + 7) A A' ∧ ∀ K : List Nat, (∀ k ∈ K, k < w.heap.size ∧ k ∉ F ∨ w.heap.size ≤ k ∧ k < w.heap.size + 7) → Kept K A A' := by
  obtain ⟨F1, h1, h2, h3, h4⟩ := ht
  have hs := h.sep hl
  have hm : ∀ q, w.heap.size ≤ q → q < w.heap.size + 7 + 2 → q ∉ F' := fun q h1 h2 hk => by have := hs q hk; omega
  refine ⟨⟨F1, h1, h.ch.trans h2 (fun k hk => (h.own k hk).imp id (by omega)), fun k hk => ?_, h4.trans h.map, h.b4.ch h2 (hm _ (by omega) (by omega)), h.b5.ch h2 (hm _ (by omega) (by omega)), h.b8.ch h2 (hm _ (by omega) (by omega)), h.b9.ch h2 (hm _ (by omega) (by omega)), h.b10.ch h2 (hm _ (by omega) (by omega)), h.row.ch h2 (fun k hk => (h.fresh k hk).2), fun k hk => ⟨(h.fresh k hk).1, fun hm2 => ?_⟩⟩, Books.of_ch h2 hz (fun k hk => ?_), fun K hK => Kept.of_ch h2 (fun k hk => ?_)⟩
  · exact (h3 k hk).elim (h.own k) (fun e => .inr (by omega))
  · exact (h3 k hm2).elim (h.fresh k hk).2 (fun e => by have := (h.row.lt k hk).2; omega)
  · have := hs k hk; omega
  · rcases hK k hk with e | e
    · refine ⟨by omega, fun hm2 => ?_⟩
      exact (h.own k hm2).elim e.2 (by omega)
    · exact ⟨by omega, hm k e.1 (by omega)⟩
theorem E5.app {va : Option Addr} {vc : Nat} (h : E5 w g F c A (.slice va l.length vc) Gp l F') (hl : ∀ k ∈ F, k < w.heap.size) (hz : w.heap.size + 7 + 2 ≤ A.heap.size) {r : Nat} {o : Obj} {w4 : World} {gb gc : Nat}
    (hrow : Go.Mem.row w4 41 1 (.slice (some ⟨gb, 0, none⟩) (l.length + 1) gc) (l.length + 1) (refsCells l ++ [.int .i64 r])) (hc : Ch (Value.slice va l.length vc).ownBlock.toList (A.alloc o) w4)
    (hf : ∀ k, (Value.slice (some ⟨gb, 0, none⟩) (l.length + 1) gc).ownBlock = some k → (Value.slice va l.length vc).ownBlock = some k ∨ (A.alloc o).heap.size ≤ k) :
    E5 w g F c (w4.setCell ⟨w.heap.size + 4, 0, none⟩ (.slice (some ⟨gb, 0, none⟩) (l.length + 1) gc)) (.slice (some ⟨gb, 0, none⟩) (l.length + 1) gc) Gp (l ++ [r]) F' ∧ Books (w.heap.size + 7) A (w4.setCell ⟨w.heap.size + 4, 0, none⟩ (.slice (some ⟨gb, 0, none⟩) (l.length + 1) gc)) ∧
      ∀ K : List Nat, (∀ k ∈ K, k < w.heap.size ∧ k ∉ F ∨ w.heap.size ≤ k ∧ k < w.heap.size + 7 ∧ k ≠ w.heap.size + 4) → Kept K A (w4.setCell ⟨w.heap.size + 4, 0, none⟩ (.slice (some ⟨gb, 0, none⟩) (l.length + 1) gc)) := by
  have hs := h.sep hl
  have hfresh := h.fresh
  have hA : Ch (Value.slice va l.length vc).ownBlock.toList A w4 := ((Ch.refl _ A).alloc o).trans hc (fun k hk => .inl hk)
  have hA5 : Ch ((Value.slice va l.length vc).ownBlock.toList ++ [w.heap.size + 4]) A (w4.setCell ⟨w.heap.size + 4, 0, none⟩ (.slice (some ⟨gb, 0, none⟩) (l.length + 1) gc)) := (hA.mono (fun k hk => .inl (List.mem_append_left _ hk))).setCell (.inl (by simp)) _
  have hL : ∀ k ∈ (Value.slice va l.length vc).ownBlock.toList ++ [w.heap.size + 4], (w.heap.size + 7 + 2 ≤ k ∧ k ∉ F') ∨ k = w.heap.size + 4 := fun k hk => by
    simp only [List.mem_append, Option.mem_toList, List.mem_singleton] at hk
    exact hk.imp (fun e => hfresh k e) id
  have hgb : (w.heap.size + 7 + 2 ≤ gb ∧ gb ∉ F') := by
    rcases hf gb rfl with h1 | h1
    · exact hfresh gb h1
    · rw [World.size_alloc] at h1
      exact ⟨by omega, fun hk => by have := GIn.lt h.gin gb hk; omega⟩
  have hnot : ∀ k ∈ F', k ∉ (Value.slice va l.length vc).ownBlock.toList ++ [w.heap.size + 4] := fun k hk hk2 => by
    rcases hL k hk2 with h2 | h2
    · exact h2.2 hk
    · have := hs k hk; omega
  have hlow : ∀ q, w.heap.size ≤ q → q < w.heap.size + 7 → q ≠ w.heap.size + 4 → q ∉ (Value.slice va l.length vc).ownBlock.toList ++ [w.heap.size + 4] := fun q h1 h2 h3 hk => by
    rcases hL q hk with e | e <;> omega
  have h4 := h.ch.size
  refine ⟨⟨h.gin.same hA5 hnot, h.ch.trans hA5 (fun k hk => ?_), h.own, h.map, h.b4.ch hA5 (hlow _ (by omega) (by omega) (by omega)), h.b5.ch hA5 (hlow _ (by omega) (by omega) (by omega)), h.b8.ch hA5 (hlow _ (by omega) (by omega) (by omega)), h.b9.ch hA5 (hlow _ (by omega) (by omega) (by omega)), ?_, ?_, fun k hk => ?_⟩, Books.of_ch hA5 hz (fun k hk => by have := hL k hk; omega), fun K hK => Kept.of_ch hA5 fun k hk => ?_⟩
  · have := hL k hk; exact .inr (by omega)
  · refine (h.b10.ch hA (fun hk => ?_)).set (i := 0) _
    have := (hfresh _ (by simpa using hk)).1
    omega
  · rw [show refsCells (l ++ [r]) = refsCells l ++ [.int .i64 r] from by simp [refsCells], List.length_append]
    refine hrow.ch (F := [w.heap.size + 4]) ((Ch.refl _ _).setCell (by simp) _) (fun k hk => ?_)
    cases hk
    simp; omega
  · cases hk
    exact hgb
  · rcases hK k hk with ⟨h1, h2⟩ | ⟨h1, h2, h3⟩
    · refine ⟨by omega, fun hk2 => ?_⟩
      have := hL k hk2; omega
    · exact ⟨by omega, hlow k h1 h2 h3⟩
end
end Go.Proofs.YtdmmanfjafempaaGreat
namespace Go.Aig
/-- a word of references shifted -/
def shN (side : Nat) (x : List Nat) (n : Nat) : List Nat := (List.range x.length).map fun i => if side = 1 then (if n ≤ i then x.getD (i - n) 0 else 0) else x.getD (i + n) 0
@[simp] theorem shN_len (side : Nat) (x : List Nat) (n : Nat) : (shN side x n).length = x.length := by simp [shN]
theorem natInts_getD (x : List Nat) (i : Nat) : (natInts x).getD i 0 = ((x.getD i 0 : Nat) : Int) := by
  unfold natInts
  rw [List.getD_eq_getElem?_getD, List.getD_eq_getElem?_getD, List.getElem?_map]
  cases x[i]? <;> rfl
theorem shL_nat (side : Nat) (x : List Nat) (n : Nat) : shL side (natInts x) n = natInts (shN side x n) := by
  unfold shL shN
  simp only [natInts_getD, natInts_len]
  conv => rhs; unfold natInts
  rw [List.map_map]
  refine List.map_congr_left fun i _ => ?_
  simp only [Function.comp]
  split
  · split <;> rfl
  · rfl
theorem shN_lt {side : Nat} {x : List Nat} {n b : Nat} (h : ∀ r ∈ x, r < b) (hb : 0 < b) : ∀ r ∈ shN side x n, r < b := fun r hr => by
  have hd : ∀ j, x.getD j 0 < b := fun j => by
    rw [List.getD_eq_getElem?_getD]
    cases hj : x[j]? with
    | none => exact hb
    | some r => exact h r (List.mem_of_getElem? hj)
  obtain ⟨i, _, rfl⟩ := List.mem_map.1 hr
  split
  · split
    · exact hd _
    · exact hb
  · exact hd _
/-- one step of a shift by a word: by the bit c, that counts 2 ^ i -/
def movS (side : Nat) (q : Mk × List Nat) (p : Nat × Nat) : Mk × List Nat := eachF (rop (muxOf p.1)) q.1 (q.2.zip (shN side q.2 (2 ^ p.2)))
def movF (side : Nat) (s : Mk) (x cs : List Nat) : Mk × List Nat := cs.zipIdx.foldl (movS side) (s, x)
theorem movF_nil (side : Nat) (s : Mk) (x : List Nat) : movF side s x [] = (s, x) := rfl
theorem movF_snoc (side : Nat) (s : Mk) (x cs : List Nat) (c : Nat) : movF side s x (cs ++ [c]) = movS side (movF side s x cs) (c, cs.length) := by
  unfold movF
  rw [List.zipIdx_append, List.foldl_append]
  simp
theorem eachF_bad' (f : Gra → Nat → Nat → Res) {s : Mk} (h : s.2 ≠ 0) (l : List (Nat × Nat)) : (eachF (rop f) s l).1 = s := eachS_bad f l _ h
theorem movS_bad (side : Nat) : ∀ (l : List (Nat × Nat)) (q : Mk × List Nat), q.1.2 ≠ 0 → (l.foldl (movS side) q).1 = q.1
  | [], _, _ => rfl
  | p :: l, q, h => by
    rw [List.foldl_cons]
    have e : (movS side q p).1 = q.1 := eachF_bad' _ h _
    rw [movS_bad side l _ (by rw [e]; exact h), e]
theorem movF_bad (side : Nat) (s : Mk) (x cs ds : List Nat) (h : (movF side s x cs).1.2 ≠ 0) : (movF side s x (cs ++ ds)).1 = (movF side s x cs).1 := by
  unfold movF at h ⊢
  rw [List.zipIdx_append, List.foldl_append, movS_bad _ _ _ h]
/-- a shift by a word -/
def moveF (side : Nat) (s : Mk) (x y : List Nat) : Mk × List Nat :=
  let q := movF side s x (y.take (stepsN x.length y.length))
  if stepsN x.length y.length = y.length then q
  else
    let a := rstep q.1 (rAny q.1.1 (y.drop (stepsN x.length y.length)))
    eachF (rop and) a.1 (q.2.map fun r => (r, neg a.2))
theorem moveF_bad {side : Nat} {s : Mk} {x y : List Nat} (h : (movF side s x (y.take (stepsN x.length y.length))).1.2 ≠ 0) : (moveF side s x y).1 = (movF side s x (y.take (stepsN x.length y.length))).1 := by
  unfold moveF
  dsimp only
  split
  · rfl
  · rw [rstep_bad h, eachF_bad' _ h]
theorem moveF_full {side : Nat} {s : Mk} {x y : List Nat} (h : stepsN x.length y.length = y.length) : moveF side s x y = movF side s x (y.take (stepsN x.length y.length)) := by
  unfold moveF
  dsimp only
  rw [if_pos h]
theorem moveF_high {side : Nat} {s : Mk} {x y : List Nat} (h : stepsN x.length y.length ≠ y.length) {q : Mk × List Nat} (hq : movF side s x (y.take (stepsN x.length y.length)) = q) :
    moveF side s x y = eachF (rop and) (rstep q.1 (rAny q.1.1 (y.drop (stepsN x.length y.length)))).1 (q.2.map fun r => (r, neg (rstep q.1 (rAny q.1.1 (y.drop (stepsN x.length y.length)))).2)) := by
  unfold moveF
  dsimp only
  rw [if_neg h, hq]
theorem stepsN_le (w bits : Nat) : stepsN w bits ≤ bits := by
  unfold stepsN
  exact Nat.le_trans List.countP_le_length (by simp)
theorem zip_sh_lt {side : Nat} {x : List Nat} {n b : Nat} (h : ∀ r ∈ x, r < b) (hb : 0 < b) : ∀ p ∈ x.zip (shN side x n), p.1 < b ∧ p.2 < b := zip_lt h (shN_lt h hb)
theorem full_and2 : Full2 and := fun _ h _ _ ha hb => and_full h ha hb
theorem movS_lok {G : Gra} (hG : Ok G) {side c i : Nat} {x : List Nat} (hx : ∀ r ∈ x, r < 2 * G.nodes.length) : LOk G (movS side ((G, 0), x) (c, i)) :=
  eachF_lok hG (full_mux c) _ (zip_sh_lt hx (by have := hG.wf.pos; omega))
theorem movS_len (side : Nat) (q : Mk × List Nat) (p : Nat × Nat) : (movS side q p).2.length = q.2.length := by
  unfold movS
  rw [eachF_lenT, List.length_zip, shN_len]
  omega
theorem movF_len (side : Nat) (s : Mk) (x cs : List Nat) : (movF side s x cs).2.length = x.length := by
  have : ∀ (l : List (Nat × Nat)) (q : Mk × List Nat), (l.foldl (movS side) q).2.length = q.2.length := by
    intro l
    induction l with
    | nil => intro q; rfl
    | cons p l ih => intro q; rw [List.foldl_cons, ih, movS_len]
  exact this _ _
/-- all of a shift by a word is right -/
theorem movF_lok {G : Gra} (hG : Ok G) {side : Nat} {x cs : List Nat} (hx : ∀ r ∈ x, r < 2 * G.nodes.length) : LOk G (movF side (G, 0) x cs) := by
  have : ∀ (l : List (Nat × Nat)) (q : Mk × List Nat), LOk G q → LOk G (l.foldl (movS side) q) := by
    intro l
    induction l with
    | nil => intro q h; exact h
    | cons p l ih =>
      intro q h
      refine ih _ ?_
      by_cases h0 : q.1.2 = 0
      · obtain ⟨⟨G1, e1⟩, l1⟩ := q
        cases h0
        have h1 := movS_lok h.s.ok (side := side) (c := p.1) (i := p.2) h.lt
        exact ⟨⟨h1.s.ok, h.s.ext.trans h1.s.ext, h1.s.err⟩, h1.lt⟩
      · have e : (movS side q p).1 = q.1 := eachF_bad' _ h0 _
        refine ⟨by rw [e]; exact h.s, fun r hr => ?_⟩
        rw [e]
        have hz : ∀ (l : List (Nat × Nat)) (q : Mk × List Nat), q.1.2 ≠ 0 → (∀ r ∈ q.2, r < 2 * q.1.1.nodes.length) → 0 < q.1.1.nodes.length → ∀ r ∈ (l.foldl (eachS (rop (muxOf p.1))) q).2, r < 2 * q.1.1.nodes.length := by
          intro l
          induction l with
          | nil => intro q _ h2 _; exact h2
          | cons p l ih =>
            intro q h1 h2 h3 r hr
            rw [List.foldl_cons] at hr
            have e2 : ∀ c, (eachS (rop (muxOf c)) q p).1 = q.1 := fun c => by unfold eachS rop; rw [rstep_bad h1]
            have e3 : ∀ c, (eachS (rop (muxOf c)) q p).2 = q.2 ++ [0] := fun c => by unfold eachS rop; rw [rstep_bad h1]
            have := ih _ (by rw [e2]; exact h1) (by rw [e2, e3]; intro r hr; rcases List.mem_append.1 hr with hr | hr; exact h2 r hr; rw [List.mem_singleton.1 hr]; omega) (by rw [e2]; exact h3) r hr
            rw [e2] at this
            exact this
        exact hz _ (q.1, []) h0 (by simp) h.s.ok.wf.pos r hr
  exact this _ _ ⟨.start hG, hx⟩
theorem moveF_lok {G : Gra} (hG : Ok G) {side : Nat} {x y : List Nat} (hx : ∀ r ∈ x, r < 2 * G.nodes.length) (hy : ∀ r ∈ y, r < 2 * G.nodes.length) (h0 : (moveF side (G, 0) x y).1.2 = 0) : LOk G (moveF side (G, 0) x y) := by
  have h1 := movF_lok hG (side := side) (cs := y.take (stepsN x.length y.length)) hx
  by_cases hk : stepsN x.length y.length = y.length
  · rw [moveF_full hk]; exact h1
  · have hb : (movF side (G, 0) x (y.take (stepsN x.length y.length))).1.2 = 0 := by
      by_cases hz : (movF side (G, 0) x (y.take (stepsN x.length y.length))).1.2 = 0
      · exact hz
      · rw [moveF_bad hz] at h0; exact h0
    rw [moveF_high hk rfl] at h0 ⊢
    obtain ⟨a1, a2, a3⟩ := rstep_sok h1.s (Y := rAny (movF side (G, 0) x (y.take (stepsN x.length y.length))).1.1 (y.drop (stepsN x.length y.length))) (fun _ => rAny_full h1.s.ok (fun r hr => h1.s.ext.lt (hy r (List.mem_of_mem_drop hr))))
    generalize rstep (movF side (G, 0) x (y.take (stepsN x.length y.length))).1 (rAny (movF side (G, 0) x (y.take (stepsN x.length y.length))).1.1 (y.drop (stepsN x.length y.length))) = a at *
    obtain ⟨⟨G1, e1⟩, z⟩ := a
    by_cases he : e1 = 0
    · subst he
      have h2 := eachF_lok a1.ok full_and2 ((movF side (G, 0) x (y.take (stepsN x.length y.length))).2.map fun r => (r, neg z)) (fun p hp => by
        obtain ⟨r, hr, rfl⟩ := List.mem_map.1 hp
        exact ⟨a3.lt (h1.lt r hr), neg_lt a2⟩)
      exact ⟨⟨h2.s.ok, a1.ext.trans h2.s.ext, h2.s.err⟩, h2.lt⟩
    · rw [eachF_bad' _ he] at h0
      exact absurd h0 he
/-- what By finds wrong -/
def chkBy (G : Gra) (side : Nat) (x y : List Int) : Nat :=
  if side ≠ 1 ∧ side ≠ 2 then 251 else if rightB x.length = false ∨ rightB y.length = false then 250 else if badIn G x ∨ badIn G y then 200 else 0
/-- By -/
def byG (G : Gra) (side : Nat) (x y : List Int) : Gra × List Nat × Nat := if chkBy G side x y ≠ 0 then (G, [], chkBy G side x y) else wres G (moveF side (G, 0) (nats x) (nats y))
end Go.Aig
namespace Go.Aig
theorem turnL_k {x : List Int} (hx : 0 < x.length) (n : Int) : ∃ k : Nat, k < x.length ∧ (k : Int) = n % x.length ∧ turnL x n = x.drop k ++ x.take k := by
  have h1 := Int.emod_nonneg n (show (x.length : Int) ≠ 0 by omega)
  have h2 := Int.emod_lt_of_pos n (show (0 : Int) < x.length by omega)
  refine ⟨(n % x.length).toNat, by omega, by omega, ?_⟩
  unfold turnL
  rfl
@[simp] theorem turnL_len (x : List Int) (n : Int) : (turnL x n).length = x.length := by
  unfold turnL
  dsimp only
  by_cases hx : 0 < x.length
  · have h1 := Int.emod_nonneg n (show (x.length : Int) ≠ 0 by omega)
    have h2 := Int.emod_lt_of_pos n (show (0 : Int) < x.length by omega)
    have e : n.emod x.length = n % x.length := rfl
    rw [List.length_append, List.length_drop, List.length_take]
    omega
  · have : x = [] := List.eq_nil_of_length_eq_zero (by omega)
    subst this
    simp
theorem turnL_at {x : List Int} {n : Int} {i : Nat} (hi : i < x.length) : (turnL x n)[i]? = x[((i + n) % x.length).toNat]? := by
  obtain ⟨k, hk, he, ht⟩ := turnL_k (Nat.lt_of_le_of_lt (Nat.zero_le _) hi) n
  rw [ht]
  have hx : (0 : Int) < x.length := by omega
  by_cases hik : i < x.length - k
  · rw [List.getElem?_append_left (by rw [List.length_drop]; omega), List.getElem?_drop]
    congr 1
    have : ((i : Int) + n) % x.length = i + k := by
      rw [← Int.add_emod_emod, ← he]
      exact Int.emod_eq_of_lt (by omega) (by omega)
    omega
  · rw [List.getElem?_append_right (by rw [List.length_drop]; omega), List.length_drop, List.getElem?_take_of_lt (by omega)]
    congr 1
    have : ((i : Int) + n) % x.length = i + k - x.length := by
      rw [← Int.add_emod_emod, ← he, ← Int.sub_emod_right]
      exact Int.emod_eq_of_lt (by omega) (by omega)
    omega
theorem turnL_congr {x : List Int} {n m : Int} (h : n % x.length = m % x.length) : turnL x n = turnL x m := by
  have e : ∀ q : Int, q.emod x.length = q % x.length := fun _ => rfl
  unfold turnL
  rw [e, e, h]
theorem turnL_turnL (x : List Int) (n m : Int) : turnL (turnL x n) m = turnL x (n + m) := by
  refine List.ext_getElem? fun i => ?_
  by_cases hi : i < x.length
  · have hx : (0 : Int) < x.length := by omega
    have h1 := Int.emod_nonneg ((i : Int) + m) (show (x.length : Int) ≠ 0 by omega)
    have h2 := Int.emod_lt_of_pos ((i : Int) + m) hx
    rw [turnL_at (by simpa using hi), turnL_at hi]
    simp only [turnL_len]
    rw [turnL_at (by omega)]
    congr 2
    rw [Int.toNat_of_nonneg h1, Int.emod_add_emod]
    congr 1
    omega
  · rw [List.getElem?_eq_none (by simp; omega), List.getElem?_eq_none (by simp; omega)]
theorem turnL_zero (x : List Int) : turnL x 0 = x := by
  unfold turnL
  have e : (0 : Int).emod x.length = 0 := Int.zero_emod _
  dsimp only
  rw [e]
  simp
theorem turnL_perm (x : List Int) (n : Int) : (turnL x n).Perm x := by
  unfold turnL
  dsimp only
  exact (List.perm_append_comm).trans (by rw [List.take_append_drop])
/-! ### shifts by constants -/
instance : DecidableEq Gra := fun a b => decidable_of_iff (a.most = b.most ∧ a.nodes = b.nodes) ⟨fun h => by cases a; cases b; simp_all, fun h => by subst h; exact ⟨rfl, rfl⟩⟩
def fixedB (n k side : Nat) : Bool := decide (byG (gIn 4000 (n + 1)) side (natInts (rIn 0 n)) (natInts (constL k 6)) = (gIn 4000 (n + 1), shN side (rIn 0 n) (min k n), 0))
set_option maxRecDepth 100000 in
theorem fixed_all : (List.range 9).all (fun n => (List.range 21).all fun k => fixedB (n + 1) k 1 && fixedB (n + 1) k 2) = true := by decide +kernel
theorem fixed_facts {n k side : Nat} (h1 : 1 ≤ n) (h9 : n ≤ 9) (hk : k ≤ 20) (hs : side = 1 ∨ side = 2) : byG (gIn 4000 (n + 1)) side (natInts (rIn 0 n)) (natInts (constL k 6)) = (gIn 4000 (n + 1), shN side (rIn 0 n) (min k n), 0) := by
  have h := List.all_eq_true.1 fixed_all (n - 1) (List.mem_range.2 (by omega))
  have h := List.all_eq_true.1 h k (List.mem_range.2 (by omega))
  rw [show n - 1 + 1 = n by omega, Bool.and_eq_true] at h
  rcases hs with rfl | rfl
  · exact of_decide_eq_true h.1
  · exact of_decide_eq_true h.2
/-- shifted twice to one side -/
theorem shL_shL {side : Nat} (x : List Int) (n m : Nat) : shL side (shL side x (min n x.length)) (min m x.length) = shL side x (min (n + m) x.length) := by
  refine List.ext_getElem? fun i => ?_
  by_cases hi : i < x.length
  · have g : ∀ (y : List Int) (j k : Nat), (shL side y k).getD j 0 = if j < y.length then (if side = 1 then (if k ≤ j then y.getD (j - k) 0 else 0) else y.getD (j + k) 0) else 0 := fun y j k => by
      rw [List.getD_eq_getElem?_getD]
      split
      · rename_i h; rw [shL_at h]; rfl
      · rename_i h; rw [List.getElem?_eq_none (by simp; omega)]; rfl
    have z : ∀ j, x.length ≤ j → x.getD j 0 = 0 := fun j hj => by rw [List.getD_eq_getElem?_getD, List.getElem?_eq_none hj]; rfl
    rw [shL_at (by simpa using hi), shL_at hi]
    congr 1
    rw [g, g]
    split
    · by_cases h1 : min (n + m) x.length ≤ i
      · rw [if_pos h1, if_pos (by omega), if_pos (by omega), if_pos (by omega)]
        congr 1; omega
      · rw [if_neg h1]
        split
        · rw [if_pos (by omega), if_neg (by omega)]
        · rfl
    · by_cases h1 : i + (n + m) < x.length
      · rw [if_pos (by omega)]
        congr 1; omega
      · rw [z (i + min (n + m) x.length) (by omega)]
        split
        · exact z _ (by omega)
        · rfl
  · rw [List.getElem?_eq_none (by simp; omega), List.getElem?_eq_none (by simp; omega)]
end Go.Aig
namespace Go.Aig
/-- the words of a world's array -/
def wldL (N W : Nat) : List (List Int) := (List.range N).map fun i => natInts (rIn (i * W) W)
def wldG (N W V : Nat) : Gra := gIn 8000 (N * W + W + V + 1)
theorem consts_facts : ∀ N ∈ [1, 2, 3, 4], ∀ W ∈ [1, 2, 3], ∀ V ∈ [1, 2, 3], ∀ a ∈ List.range (2 ^ V),
    readG (wldG N W V) (wldL N W) (natInts (constL a V)) = (wldG N W V, if a < N then rIn (a * W) W else List.replicate W 0, 0) ∧
    writeG (wldG N W V) (wldL N W) 1 (natInts (constL a V)) (natInts (rIn (N * W) W)) = (wldG N W V, (List.range N).map (fun i => if i = a then rIn (N * W) W else rIn (i * W) W), 0) ∧
    isG (wldG N W V) (natInts (constL a V)) a = (wldG N W V, 1, 0) := by decide +kernel
end Go.Aig
namespace Go.Proofs.YtdmmanfjafempaaGreat
open Go.RowKit Go.Mem Go.Aig
/-- an array that is kept as a block, for a function of muxes -/
theorem Hold.wa2 {w0 : Base} {w : World} {g : Nat} {G : Gra} {F : List Nat} {L : List (Value × List Int)} (h : Hold w0 w g G F L) {b n : Nat} {cs : List Value} {ws : List WV} (hb : (b, cs) ∈ w0.K) (hc : ∀ (i : Nat) (x : WV), ws[i]? = some x → cs[i]? = some x.val) (hL : ∀ x ∈ ws, (x.val, x.l) ∈ L) (hn : ws.length = n) : WA w F (some ⟨b, 0, none⟩) n ws := by
  obtain ⟨k1, k2, k3⟩ := h.kept _ hb
  exact ⟨hn, fun _ => ⟨b, rfl, hn, fun i x hx => k1.cell (hc i x hx), fun x hx => h.at (hL x hx) rfl, k3, k1.lt⟩⟩
theorem wld_len {N W : Nat} {ws : List WV} (h : ws.map WV.l = (List.range N).map fun i => natInts (rIn (i * W) W)) : ws.length = N := by
  have := congrArg List.length h
  simpa using this
theorem wld_eq {N W : Nat} {ws : List WV} (h : ws.map WV.l = (List.range N).map fun i => natInts (rIn (i * W) W)) : ws.map WV.l = wldL N W := h
end Go.Proofs.YtdmmanfjafempaaGreat
namespace Go.Aig
/-- the number that some bits are -/
def nbE (env : Nat → Bool) (s k : Nat) : Nat := bitsVal ((List.range k).map fun i => env (s + i))
theorem nbE_lt (env : Nat → Bool) (s k : Nat) : nbE env s k < 2 ^ k := by
  have := bitsVal_lt ((List.range k).map fun i => env (s + i))
  simpa [nbE] using this
def arrL (N W : Nat) : List (List Nat) := (List.range N).map fun i => rIn (i * W) W
theorem wldL_arr (N W : Nat) : wldL N W = (arrL N W).map natInts := by unfold wldL arrL; rw [List.map_map]; rfl
theorem arrL_len (N W : Nat) : (arrL N W).length = N := by simp [arrL]
theorem arrL_at {N W i : Nat} (h : i < N) : (arrL N W).getD i [] = rIn (i * W) W := by
  unfold arrL
  rw [List.getD_eq_getElem?_getD, List.getElem?_map, List.getElem?_range h]
  rfl
theorem arrL_get {N W i : Nat} (h : i < N) : (arrL N W)[i]? = some (rIn (i * W) W) := by
  unfold arrL
  rw [List.getElem?_map, List.getElem?_range h]
  rfl
theorem row_le {N W i : Nat} (h : i < N) : i * W + W ≤ N * W := by
  have := Nat.mul_le_mul_right W (show i + 1 ≤ N by omega)
  rwa [Nat.succ_mul] at this
theorem arrL_wds {N W T : Nat} (hW1 : 1 ≤ W) (hW : W ≤ 16) (hT : N * W ≤ T) : Wds (gIn 8000 T) W (arrL N W) := by
  refine ⟨fun l hl => ?_, hW1, hW⟩
  unfold arrL at hl
  obtain ⟨i, hi, rfl⟩ := List.mem_map.1 hl
  have := row_le (W := W) (List.mem_range.1 hi)
  exact ⟨by simp [rIn], rIn_lt2 (by omega)⟩
theorem bv_in (env : Nat → Bool) {T s k : Nat} (h : s + k ≤ T) : bitsVal ((rIn s k).map (bv env (gIn 8000 T).nodes)) = nbE env s k := by rw [rIn_bv 8000 env h]; rfl
theorem refs_le {G : Gra} (h : Ok G) {l : List Nat} (hl : ∀ r ∈ l, r < 2 * G.nodes.length) : ∀ r ∈ l, r ≤ 1000000 := fun r hr => by
  have := h.small
  have := hl r hr
  omega
structure IsF26 (N W V T : Nat) (G1 G2 G3 G4 : Gra) (lr : List Nat) (ls : List (List Nat)) (lc : List Nat) (r : Nat) : Prop where
  r1 : readG (gIn 8000 T) (wldL N W) (natInts (rIn (N * W + W) V)) = (G1, lr, 0)
  r2 : writeG G1 (wldL N W) ((2 * T : Nat) : Int) (natInts (rIn (N * W + W) V)) (natInts (rIn (N * W) W)) = (G2, ls, 0)
  r3 : chooseG G2 ((2 * T : Nat) : Int) (natInts (rIn (N * W) W)) (natInts (rIn 0 W)) = (G3, lc, 0)
  r4 : isG G3 (natInts (rIn (N * W + W) V)) 2 = (G4, r, 0)
  n1 : lr.length = W
  n2 : ls.length = N
  n2w : ∀ l ∈ ls, l.length = W
  n3 : lc.length = W
  g1 : ∀ x ∈ lr, x < 2 * G4.nodes.length
  g2 : ∀ l ∈ ls, ∀ x ∈ l, x < 2 * G4.nodes.length
  g3 : ∀ x ∈ lc, x < 2 * G4.nodes.length
  g4 : r < 2 * G4.nodes.length
  ok : Ok G4
  ins : (inputs G4.nodes).length = T
  v1 : ∀ env, bitsVal (lr.map (bv env G4.nodes)) = if nbE env (N * W + W) V < N then nbE env (nbE env (N * W + W) V * W) W else 0
  v2 : ∀ env i l, ls[i]? = some l → bitsVal (l.map (bv env G4.nodes)) = if env (T - 1) = true ∧ nbE env (N * W + W) V = i then nbE env (N * W) W else nbE env (i * W) W
  v3 : ∀ env, bitsVal (lc.map (bv env G4.nodes)) = if env (T - 1) = true then nbE env (N * W) W else nbE env 0 W
  v4 : ∀ env, bv env G4.nodes r = decide (nbE env (N * W + W) V = 2 % 2 ^ V)
theorem gIn_inputs (most n : Nat) : (inputs (gIn most n).nodes).length = n := by
  show (inputsFrom (⟨1, 0, 0, 0⟩ :: List.replicate n ⟨2, 0, 0, 0⟩) 0).length = n
  have : ∀ (k m : Nat), (inputsFrom (List.replicate k (⟨2, 0, 0, 0⟩ : Nd)) m).length = k := by
    intro k
    induction k with
    | zero => intro m; rfl
    | succ k ih => intro m; rw [List.replicate_succ]; unfold inputsFrom; rw [if_pos rfl, List.length_cons, ih]
  unfold inputsFrom
  rw [if_neg (by decide)]
  exact this n 1
theorem bits_zero (W : Nat) : bitsVal (List.replicate W false) = 0 := by
  induction W with
  | zero => rfl
  | succ W ih => rw [List.replicate_succ]; show false.toNat + 2 * bitsVal (List.replicate W false) = 0; rw [ih]; rfl
theorem wld_len2 (N W V : Nat) : (wldG N W V).nodes.length = N * W + W + V + 1 + 1 := by simp [wldG, gIn]
theorem is_facts26 {N W V T : Nat} (hN : 1 ≤ N ∧ N ≤ 4) (hW : 1 ≤ W ∧ W ≤ 3) (hV : 1 ≤ V ∧ V ≤ 3) (hT : T = N * W + W + V + 1) (hG : Ok (gIn 8000 T)) : ∃ G1 G2 G3 G4 lr ls lc r, IsF26 N W V T G1 G2 G3 G4 lr ls lc r := by
  have hNW : N * W ≤ 12 := Nat.mul_le_mul hN.2 hW.2
  have hmr : N * (4 * V + 3 * W) ≤ 84 := Nat.mul_le_mul hN.2 (by omega : 4 * V + 3 * W ≤ 21)
  have hmw : N * (4 * V + 1 + 3 * W) ≤ 88 := Nat.mul_le_mul hN.2 (by omega : 4 * V + 1 + 3 * W ≤ 22)
  have hlen : (gIn 8000 T).nodes.length = T + 1 := by simp [gIn]
  have hmost : (gIn 8000 T).most = 8000 := rfl
  have hW0 : Wds (gIn 8000 T) W (arrL N W) := arrL_wds hW.1 (by omega) (by omega)
  have hL := arrL_len N W
  have hyr : ∀ r ∈ rIn (N * W + W) V, r < 2 * (gIn 8000 T).nodes.length := rIn_lt2 (by omega)
  have hxr : ∀ r ∈ rIn (N * W) W, r < 2 * (gIn 8000 T).nodes.length := rIn_lt2 (by omega)
  have har : ∀ r ∈ rIn 0 W, r < 2 * (gIn 8000 T).nodes.length := rIn_lt2 (by omega)
  have hcr : 2 * T < 2 * (gIn 8000 T).nodes.length := by omega
  obtain ⟨G1, lr, e1, n1, q1⟩ := readG_vals (L := arrL N W) (n := V) (width := W) hG hW0 (by omega) (by omega) (by simp [rIn]) hV.1 (by omega) hyr (by rw [hL, hlen, hmost]; omega)
  rw [hL] at q1
  have x1 := q1.ran.ext
  have z1 := q1.ran.len
  have t1 := x1.most
  simp only at x1 z1 t1
  obtain ⟨G2, ls, e2, n2, n2w, q2⟩ := writeG_vals (G := G1) (L := arrL N W) (n := V) (width := W) (c := 2 * T) (x := rIn (N * W) W) (y := rIn (N * W + W) V) q1.ran.ok (hW0.ext x1) (by omega) (by omega) (by simp [rIn]) hV.1 (by omega) (fun r h => x1.lt (hyr r h)) (x1.lt hcr) (by simp [rIn]) (fun r h => x1.lt (hxr r h)) (by rw [hL]; omega)
  rw [hL] at q2 n2
  have x2 := q2.ran.ext
  have z2 := q2.ran.len
  have t2 := x2.most
  simp only at x2 z2 t2
  have x12 := x1.trans x2
  obtain ⟨G3, lc, e3, n3, q3⟩ := chooseG_vals (G := G2) (n := W) (c := 2 * T) (x := rIn (N * W) W) (y := rIn 0 W) q2.ran.ok hW.1 (by omega) (x12.lt hcr) (by simp [rIn]) (fun r h => x12.lt (hxr r h)) (by simp [rIn]) (fun r h => x12.lt (har r h)) (by omega)
  have x3 := q3.ran.ext
  have z3 := q3.ran.len
  have t3 := x3.most
  simp only at x3 z3 t3
  have x13 := x12.trans x3
  obtain ⟨G4, r, e4, q4⟩ := isG_val (G := G3) (n := V) (y := rIn (N * W + W) V) 2 q3.ran.ok hV.1 (by omega) (by simp [rIn]) (fun r h => x13.lt (hyr r h)) (by omega)
  have x4 := q4.ran.ext
  simp only at x4
  have x34 := x3.trans x4
  have x24 := x2.trans x34
  -- what the words are, in the first graph's values
  have hin : ∀ (env : Nat → Bool) (ns : List Nd), (∀ l : List Nat, (∀ r ∈ l, r < 2 * (gIn 8000 T).nodes.length) → l.map (bv env ns) = l.map (bv env (gIn 8000 T).nodes)) → numW env ns (rIn (N * W + W) V) = nbE env (N * W + W) V := fun env ns h => by
    unfold numW
    rw [h _ hyr]
    exact bv_in env (by omega)
  have hb : ∀ {G : Gra}, Ext (gIn 8000 T) G → ∀ (env : Nat → Bool) (l : List Nat), (∀ r ∈ l, r < 2 * (gIn 8000 T).nodes.length) → l.map (bv env G.nodes) = l.map (bv env (gIn 8000 T).nodes) := fun hx env l hl => List.map_congr_left fun r hr => bv_of env hx (hl r hr)
  have hc : ∀ {G : Gra}, Ext (gIn 8000 T) G → ∀ (env : Nat → Bool), bv env G.nodes (2 * T) = env (T - 1) := fun hx env => by
    rw [bv_of env hx hcr]
    have := bv_gIn 8000 env T (T - 1) (by omega)
    rwa [show T - 1 + 1 = T by omega] at this
  refine ⟨G1, G2, G3, G4, lr, ls, lc, r, ?_, ?_, ?_, e4, n1, n2, n2w, n3, fun x h => x24.lt (q1.lt x h), fun l hl x h => x34.lt (q2.lt l hl x h), fun x h => x4.lt (q3.lt x h), q4.lt, q4.ran.ok, ?_, fun env => ?_, fun env i l hl => ?_, fun env => ?_, fun env => ?_⟩
  · rw [wldL_arr]; exact e1
  · rw [wldL_arr]; exact e2
  · exact e3
  · have h1 := q1.ran.noin.inputs
    have h2 := q2.ran.noin.inputs
    have h3 := q3.ran.noin.inputs
    have h4 := q4.ran.noin.inputs
    simp only at h1 h2 h3 h4
    rw [h4, h3, h2, h1, gIn_inputs]
  · have e : lr.map (bv env G4.nodes) = lr.map (bv env G1.nodes) := List.map_congr_left fun r hr => bv_of env x24 (q1.lt r hr)
    have v := q1.val env
    simp only at v
    rw [e, v, hin env _ (fun l _ => rfl)]
    generalize nbE env (N * W + W) V = a
    split
    · next h =>
      rw [arrL_at h]
      exact bv_in env (by have := row_le (W := W) h; omega)
    · exact bits_zero W
  · have e : l.map (bv env G4.nodes) = l.map (bv env G2.nodes) := List.map_congr_left fun r hr => bv_of env x34 (q2.lt l (List.mem_of_getElem? hl) r hr)
    have hi : i < N := by have := (List.getElem?_eq_some_iff.1 hl).1; omega
    have v := congrArg (fun z => z[i]?) (q2.val env)
    simp only [List.getElem?_map, hl, Option.map_some] at v
    rw [e]
    rw [hin env _ (hb x1 env), hc x1 env, hb x1 env _ hxr] at v
    have ea : ((arrL N W).map fun l => l.map (bv env G1.nodes))[i]? = some ((rIn (i * W) W).map (bv env (gIn 8000 T).nodes)) := by
      rw [List.getElem?_map, arrL_get hi]
      show some _ = some _
      exact congrArg some (hb x1 env _ (rIn_lt2 (by have := row_le (W := W) hi; omega)))
    have va : bitsVal ((rIn (i * W) W).map (bv env (gIn 8000 T).nodes)) = nbE env (i * W) W := bv_in env (by have := row_le (W := W) hi; omega)
    have vx : bitsVal ((rIn (N * W) W).map (bv env (gIn 8000 T).nodes)) = nbE env (N * W) W := bv_in env (by omega)
    generalize nbE env (N * W + W) V = a at *
    by_cases hg : env (T - 1) = true
    · by_cases hai : a = i
      · subst hai
        rw [if_pos ⟨hg, hi⟩, List.getElem?_set, if_pos rfl, if_pos (by simp [hL]; exact hi)] at v
        rw [if_pos ⟨hg, rfl⟩, ← vx]
        exact congrArg bitsVal (Option.some.inj v)
      · rw [if_neg (by simp [hai])]
        split at v
        · rw [List.getElem?_set, if_neg hai, ea] at v
          rw [← va]; exact congrArg bitsVal (Option.some.inj v)
        · rw [ea] at v
          rw [← va]; exact congrArg bitsVal (Option.some.inj v)
    · rw [if_neg (by simp [hg])] at v ⊢
      rw [ea] at v
      rw [← va]; exact congrArg bitsVal (Option.some.inj v)
  · have e : lc.map (bv env G4.nodes) = lc.map (bv env G3.nodes) := List.map_congr_left fun r hr => bv_of env x4 (q3.lt r hr)
    have v := q3.val env
    simp only at v
    rw [e, v, hc x12 env, hb x12 env _ hxr, hb x12 env _ har]
    split
    · exact bv_in env (by omega)
    · exact bv_in env (by omega)
  · have v := q4.val env
    simp only at v
    rw [v, hin env _ (hb x13 env)]
end Go.Aig
namespace Go.Aig
def M64 : Nat := 2 ^ 64 - 1
def lowW : List Nat := [0xaaaaaaaaaaaaaaaa, 0xcccccccccccccccc, 0xf0f0f0f0f0f0f0f0, 0xff00ff00ff00ff00, 0xffff0000ffff0000, 0xffffffff00000000]
/-- the words of n inputs for the assignments from 64 * block on -/
def inW (n block : Nat) : List Nat := (List.range n).map fun i => if i < 6 then lowW.getD i 0 else if block / 2 ^ (i - 6) % 2 = 1 then M64 else 0
def maskW (n : Nat) : Nat := if n < 6 then 2 ^ 2 ^ n - 1 else M64
/-- the table of what is told of the nodes -/
def tabW (ns : List Nd) (f : List Nat → Nat) (n : Nat) : List Nat := (List.range (2 ^ (n - 6))).map fun block => f (wvF M64 (inW n block) ns).1 &&& maskW n
/-- the assignment of a number -/
def asg (n a : Nat) : Nat → Bool := fun i => decide (i < n) && a.testBit i
theorem low_bit : ∀ i, i < 6 → ∀ k, k < 64 → (lowW.getD i 0).testBit k = k.testBit i := by decide +kernel
theorem inW_len (n block : Nat) : (inW n block).length = n := by simp [inW]
theorem inW_bit (n block k : Nat) (hk : k < 64) : (fun i => ((inW n block).getD i 0).testBit k) = asg n (64 * block + k) := by
  funext i
  unfold inW asg
  rw [List.getD_eq_getElem?_getD, List.getElem?_map]
  by_cases hi : i < n
  · rw [List.getElem?_range hi, decide_eq_true hi, Bool.true_and]
    show (if i < 6 then lowW.getD i 0 else if block / 2 ^ (i - 6) % 2 = 1 then M64 else 0).testBit k = _
    rw [show 64 * block + k = 2 ^ 6 * block + k from rfl, Nat.testBit_two_pow_mul_add _ (show k < 2 ^ 6 from hk)]
    by_cases h6 : i < 6
    · rw [if_pos h6, if_pos h6]
      exact low_bit i h6 k hk
    · have hb : block.testBit (i - 6) = decide (block / 2 ^ (i - 6) % 2 = 1) := Nat.testBit_eq_decide_div_mod_eq
      rw [if_neg h6, if_neg h6, hb]
      split
      · rename_i h
        rw [decide_eq_true h]
        unfold M64
        rw [Nat.testBit_two_pow_sub_one, decide_eq_true hk]
      · rename_i h
        rw [decide_eq_false h, Nat.zero_testBit]
  · rw [List.getElem?_eq_none (by simp; omega), decide_eq_false hi, Bool.false_and]
    simp
theorem mask_bit {n block k : Nat} (hb : block < 2 ^ (n - 6)) (hk : k < 64) : (maskW n).testBit k = decide (64 * block + k < 2 ^ n) := by
  unfold maskW
  split
  · rename_i h
    rw [show n - 6 = 0 by omega] at hb
    rw [Nat.testBit_two_pow_sub_one, show block = 0 by omega, Nat.mul_zero, Nat.zero_add]
  · rename_i h
    unfold M64
    rw [Nat.testBit_two_pow_sub_one, decide_eq_true hk]
    have h2 : 2 ^ n = 2 ^ (n - 6) * 2 ^ 6 := by rw [← Nat.pow_add]; congr 1; omega
    exact (decide_eq_true (by omega)).symm
/-- bit k of the table's word is what is told of the assignment 64 * block + k -/
theorem tab_at (ns : List Nd) (f : List Nat → Nat) (n : Nat) {block : Nat} (hb : block < 2 ^ (n - 6)) : (tabW ns f n)[block]? = some (f (wvF M64 (inW n block) ns).1 &&& maskW n) := by
  unfold tabW
  rw [List.getElem?_map, List.getElem?_range hb]
  rfl
theorem tab_len (ns : List Nd) (f : List Nat → Nat) (n : Nat) : (tabW ns f n).length = 2 ^ (n - 6) := by simp [tabW]
theorem tab_bit (ns : List Nd) (r n : Nat) {block k : Nat} (hb : block < 2 ^ (n - 6)) (hk : k < 64) :
    ((tabW ns (fun vs => wref M64 vs r) n).getD block 0).testBit k = (decide (64 * block + k < 2 ^ n) && bv (asg n (64 * block + k)) ns r) := by
  rw [List.getD_eq_getElem?_getD, tab_at ns _ n hb]
  show (wref M64 (wvF M64 (inW n block) ns).1 r &&& maskW n).testBit k = _
  rw [Nat.testBit_and, mask_bit hb hk, Bool.and_comm]
  congr 1
  unfold M64
  rw [wv_bv hk, inW_bit n block k hk]
theorem tabx_bit (ns : List Nd) (a b n : Nat) {block k : Nat} (hb : block < 2 ^ (n - 6)) (hk : k < 64) :
    ((tabW ns (fun vs => wref M64 vs a ^^^ wref M64 vs b) n).getD block 0).testBit k = (decide (64 * block + k < 2 ^ n) && (bv (asg n (64 * block + k)) ns a ^^ bv (asg n (64 * block + k)) ns b)) := by
  rw [List.getD_eq_getElem?_getD, tab_at ns _ n hb]
  show ((wref M64 (wvF M64 (inW n block) ns).1 a ^^^ wref M64 (wvF M64 (inW n block) ns).1 b) &&& maskW n).testBit k = _
  rw [Nat.testBit_and, mask_bit hb hk, Bool.and_comm, Nat.testBit_xor]
  congr 1
  unfold M64
  rw [wv_bv hk, wv_bv hk, inW_bit n block k hk]
end Go.Aig
namespace Go.Aig
/-- how many bits of a word of 64 are 1 -/
def cnt (w : Nat) : Nat := ((List.range 64).filter fun k => w.testBit k).length
theorem odd_part : ∀ w : Nat, w ≠ 0 → ∃ t q, w = 2 ^ t * (2 * q + 1) := by
  intro w
  induction w using Nat.strongRecOn with
  | ind w ih =>
    intro h
    rcases Nat.mod_two_eq_zero_or_one w with h2 | h2
    · obtain ⟨t, q, e⟩ := ih (w / 2) (by omega) (by omega)
      exact ⟨t + 1, q, by rw [Nat.pow_succ, Nat.mul_assoc, Nat.mul_left_comm, ← e]; omega⟩
    · exact ⟨0, w / 2, by omega⟩
theorem drop_low (w : Nat) (h : w ≠ 0) : ∃ t, w.testBit t = true ∧ ∀ j, (w &&& (w - 1)).testBit j = (w.testBit j && decide (j ≠ t)) := by
  obtain ⟨t, q, e⟩ := odd_part w h
  have hp : 0 < 2 ^ t := Nat.two_pow_pos t
  have e1 : w - 1 = 2 ^ t * (2 * q) + (2 ^ t - 1) := by rw [e, Nat.mul_add]; omega
  have h0 : ∀ m, (2 * q + 1).testBit m = if m = 0 then true else q.testBit (m - 1) := by
    intro m
    cases m with
    | zero => simp
    | succ m => rw [if_neg (by omega), Nat.testBit_succ, show (2 * q + 1) / 2 = q by omega]; rfl
  have h1 : ∀ m, (2 * q).testBit m = if m = 0 then false else q.testBit (m - 1) := by
    intro m
    cases m with
    | zero => simp
    | succ m => rw [if_neg (by omega), Nat.testBit_succ, show (2 * q) / 2 = q by omega]; rfl
  refine ⟨t, ?_, fun j => ?_⟩
  · rw [e, Nat.testBit_two_pow_mul, Nat.sub_self, h0]; simp
  · rw [Nat.testBit_and, e1]
    rw [e, Nat.testBit_two_pow_mul, Nat.testBit_two_pow_mul_add _ (by omega), h0, h1]
    by_cases hj : j < t
    · rw [decide_eq_false (by omega)]; simp
    · rw [if_neg hj, decide_eq_true (by omega), Bool.true_and]
      by_cases ht : j = t
      · subst ht; simp
      · rw [if_neg (by omega), if_neg (by omega), Bool.and_self, decide_eq_true ht, Bool.and_true]
theorem filter_drop (p : Nat → Bool) (t : Nat) (ht : p t = true) : ∀ n, t < n → ((List.range n).filter fun k => p k && decide (k ≠ t)).length + 1 = ((List.range n).filter p).length
  | 0, h => by omega
  | n + 1, h => by
    rw [List.range_succ, List.filter_append, List.filter_append, List.length_append, List.length_append]
    by_cases hn : t = n
    · subst hn
      have : (List.range t).filter (fun k => p k && decide (k ≠ t)) = (List.range t).filter p := by
        apply List.filter_congr
        intro k hk
        have := List.mem_range.1 hk
        rw [decide_eq_true (by omega), Bool.and_true]
      rw [this]
      simp [ht]
    · have ih := filter_drop p t ht n (by omega)
      have : ([n].filter fun k => p k && decide (k ≠ t)) = [n].filter p := by
        apply List.filter_congr
        intro k hk
        rw [List.mem_singleton] at hk
        rw [decide_eq_true (by omega), Bool.and_true]
      rw [this]
      omega
/-- one step of the count -/
theorem cnt_step {w : Nat} (h : w ≠ 0) (hw : w < 2 ^ 64) : cnt (w &&& (w - 1)) + 1 = cnt w := by
  obtain ⟨t, ht, hb⟩ := drop_low w h
  have ht64 : t < 64 := by
    by_cases h6 : t < 64
    · exact h6
    · have := Nat.testBit_lt_two_pow (Nat.lt_of_lt_of_le hw (Nat.pow_le_pow_right (by omega) (show 64 ≤ t by omega)))
      rw [this] at ht; cases ht
  unfold cnt
  rw [show (fun k => (w &&& (w - 1)).testBit k) = fun k => w.testBit k && decide (k ≠ t) from funext hb]
  exact filter_drop _ t ht 64 ht64
theorem cnt_zero : cnt 0 = 0 := by decide +kernel
theorem cnt_le (w : Nat) : cnt w ≤ 64 := by
  unfold cnt
  exact Nat.le_trans (List.length_filter_le _ _) (by simp)
end Go.Aig
namespace Go.Aig
/-- bit a of a table -/
def tbit (t : List Nat) (a : Nat) : Bool := (t.getD (a / 64) 0).testBit (a % 64)
def cntT (t : List Nat) : Nat := (t.map cnt).sum
/-- the first number below m whose bit is 1 -/
def firstT (t : List Nat) (m : Nat) : Option Nat := (List.range m).find? (tbit t)
theorem tbit_at (t : List Nat) (b k : Nat) (hk : k < 64) : tbit t (64 * b + k) = (t.getD b 0).testBit k := by
  unfold tbit
  rw [show (64 * b + k) / 64 = b by omega, show (64 * b + k) % 64 = k by omega]
theorem range_blocks (n : Nat) : List.range (64 * (n + 1)) = List.range (64 * n) ++ (List.range 64).map fun k => 64 * n + k := by
  rw [show 64 * (n + 1) = 64 * n + 64 by omega, List.range_add]
theorem cntT_blocks (t : List Nat) : ∀ n, n ≤ t.length → cntT (t.take n) = ((List.range (64 * n)).filter (tbit t)).length
  | 0, _ => rfl
  | n + 1, h => by
    rw [range_blocks, List.filter_append, List.length_append, ← cntT_blocks t n (by omega)]
    obtain ⟨x, hx⟩ : ∃ x, t[n]? = some x := ⟨_, List.getElem?_eq_getElem (show n < t.length by omega)⟩
    rw [List.take_add_one, hx]
    unfold cntT
    rw [List.map_append, List.sum_append]
    congr 1
    rw [List.filter_map, List.length_map]
    have : ((List.range 64).filter (tbit t ∘ fun k => 64 * n + k)) = (List.range 64).filter fun k => x.testBit k := by
      apply List.filter_congr
      intro k hk
      have hk := List.mem_range.1 hk
      show tbit t (64 * n + k) = _
      rw [tbit_at t n k hk, List.getD_eq_getElem?_getD, hx]
      rfl
    rw [this]
    simp [cnt]
theorem cntT_is (t : List Nat) : cntT t = ((List.range (64 * t.length)).filter (tbit t)).length := by
  have := cntT_blocks t t.length (Nat.le_refl _)
  rwa [List.take_length] at this
theorem firstT_none {t : List Nat} {m : Nat} (h : ∀ a, a < m → tbit t a = false) : firstT t m = none := by
  unfold firstT
  rw [List.find?_eq_none]
  intro a ha
  rw [h a (List.mem_range.1 ha)]
  simp
theorem find_range (p : Nat → Bool) (a : Nat) (hp : p a = true) (h : ∀ b, b < a → p b = false) : ∀ m, a < m → (List.range m).find? p = some a
  | 0, hm => by omega
  | m + 1, hm => by
    rw [List.range_succ, List.find?_append]
    by_cases he : a = m
    · subst he
      have : (List.range a).find? p = none := by
        rw [List.find?_eq_none]
        intro b hb
        rw [h b (List.mem_range.1 hb)]
        simp
      rw [this]
      simp [hp]
    · rw [find_range p a hp h m (by omega)]
      rfl
theorem firstT_some {t : List Nat} {m a : Nat} (hm : a < m) (hp : tbit t a = true) (h : ∀ b, b < a → tbit t b = false) : firstT t m = some a := find_range _ a hp h m hm
/-- a table's bit is what the reference is for the assignment of its number -/
theorem tabW_bit (ns : List Nd) (r n : Nat) {a : Nat} (ha : a < 2 ^ n) : tbit (tabW ns (fun vs => wref M64 vs r) n) a = bv (asg n a) ns r := by
  have hb : a / 64 < 2 ^ (n - 6) := by
    by_cases h6 : n < 6
    · have : 2 ^ n ≤ 2 ^ 5 := Nat.pow_le_pow_right (by omega) (by omega)
      have := Nat.two_pow_pos (n - 6)
      omega
    · have h2 : 2 ^ n = 2 ^ (n - 6) * 2 ^ 6 := by rw [← Nat.pow_add]; congr 1; omega
      omega
  unfold tbit
  rw [tab_bit ns r n hb (Nat.mod_lt _ (by omega)), Nat.div_add_mod, decide_eq_true ha, Bool.true_and]
theorem tabW_out (ns : List Nd) (r n : Nat) {a : Nat} (ha : 2 ^ n ≤ a) (hl : a < 64 * 2 ^ (n - 6)) : tbit (tabW ns (fun vs => wref M64 vs r) n) a = false := by
  unfold tbit
  rw [tab_bit ns r n (by omega) (Nat.mod_lt _ (by omega)), Nat.div_add_mod, decide_eq_false (by omega), Bool.false_and]
end Go.Aig
namespace Go.Aig
/-- what is told of two references -/
theorem tabx_at (ns : List Nd) (a b n : Nat) {k : Nat} (hk : k < 2 ^ n) : tbit (tabW ns (fun vs => wref M64 vs a ^^^ wref M64 vs b) n) k = (bv (asg n k) ns a ^^ bv (asg n k) ns b) := by
  have hb : k / 64 < 2 ^ (n - 6) := by
    by_cases h6 : n < 6
    · have : 2 ^ n ≤ 2 ^ 5 := Nat.pow_le_pow_right (by omega) (by omega)
      have := Nat.two_pow_pos (n - 6)
      omega
    · have h2 : 2 ^ n = 2 ^ (n - 6) * 2 ^ 6 := by rw [← Nat.pow_add]; congr 1; omega
      omega
  unfold tbit
  rw [tabx_bit ns a b n hb (Nat.mod_lt _ (by omega)), Nat.div_add_mod, decide_eq_true hk, Bool.true_and]
theorem tabx_out (ns : List Nd) (a b n : Nat) {k : Nat} (hk : 2 ^ n ≤ k) (hl : k < 64 * 2 ^ (n - 6)) : tbit (tabW ns (fun vs => wref M64 vs a ^^^ wref M64 vs b) n) k = false := by
  unfold tbit
  rw [tabx_bit ns a b n (by omega) (Nat.mod_lt _ (by omega)), Nat.div_add_mod, decide_eq_false (by omega), Bool.false_and]
theorem blocks_le (n : Nat) : 2 ^ n ≤ 64 * 2 ^ (n - 6) := by
  by_cases h6 : n < 6
  · have : 2 ^ n ≤ 2 ^ 5 := Nat.pow_le_pow_right (by omega) (by omega)
    have := Nat.two_pow_pos (n - 6)
    omega
  · have h2 : 2 ^ n = 2 ^ (n - 6) * 2 ^ 6 := by rw [← Nat.pow_add]; congr 1; omega
    omega
/-- a table of n inputs tells p -/
structure TabOf (T : List Nat) (n : Nat) (p : Nat → Bool) : Prop where
  len : T.length = 2 ^ (n - 6)
  at' : ∀ a, a < 2 ^ n → tbit T a = p a
  out : ∀ a, 2 ^ n ≤ a → a < 64 * 2 ^ (n - 6) → tbit T a = false
/-- what a reference is for the assignment of a number -/
def tellR (ns : List Nd) (n r : Nat) : Nat → Bool := fun a => bv (asg n a) ns r
def tellX (ns : List Nd) (n a b : Nat) : Nat → Bool := fun k => bv (asg n k) ns a ^^ bv (asg n k) ns b
theorem tabW_of (ns : List Nd) (r n : Nat) : TabOf (tabW ns (fun vs => wref M64 vs r) n) n (tellR ns n r) := ⟨tab_len _ _ _, fun _ h => tabW_bit ns r n h, fun _ h h2 => tabW_out ns r n h h2⟩
theorem tabx_of (ns : List Nd) (a b n : Nat) : TabOf (tabW ns (fun vs => wref M64 vs a ^^^ wref M64 vs b) n) n (tellX ns n a b) := ⟨tab_len _ _ _, fun _ h => tabx_at ns a b n h, fun _ h h2 => tabx_out ns a b n h h2⟩
/-- for how many assignments, and the first one -/
def countV (n : Nat) (p : Nat → Bool) : Nat := ((List.range (2 ^ n)).filter p).length
def firstV (n : Nat) (p : Nat → Bool) : Option Nat := (List.range (2 ^ n)).find? p
theorem filter_upto (p q : Nat → Bool) (m : Nat) (h : ∀ a, a < m → q a = p a) : ∀ d, (∀ a, m ≤ a → a < m + d → q a = false) → (List.range (m + d)).filter q = (List.range m).filter p
  | 0, _ => List.filter_congr fun a ha => h a (List.mem_range.1 ha)
  | d + 1, hd => by
    rw [← Nat.add_assoc, List.range_succ, List.filter_append, filter_upto p q m h d (fun a h1 h2 => hd a h1 (by omega))]
    simp [hd (m + d) (by omega) (by omega)]
theorem find_upto (p q : Nat → Bool) (m : Nat) (h : ∀ a, a < m → q a = p a) : ∀ d, (∀ a, m ≤ a → a < m + d → q a = false) → (List.range (m + d)).find? q = (List.range m).find? p
  | 0, _ => by
    have : ∀ l : List Nat, (∀ a ∈ l, q a = p a) → l.find? q = l.find? p := by
      intro l
      induction l with
      | nil => intro _; rfl
      | cons a l ih =>
        intro hl
        rw [List.find?_cons, List.find?_cons, hl a (List.mem_cons_self ..), ih (fun b hb => hl b (List.mem_cons_of_mem _ hb))]
    exact this _ fun a ha => h a (List.mem_range.1 ha)
  | d + 1, hd => by
    rw [← Nat.add_assoc, List.range_succ, List.find?_append, find_upto p q m h d (fun a h1 h2 => hd a h1 (by omega))]
    simp [hd (m + d) (by omega) (by omega)]
theorem TabOf.cnt {T : List Nat} {n : Nat} {p : Nat → Bool} (h : TabOf T n p) : cntT T = countV n p := by
  have hle := blocks_le n
  rw [cntT_is, h.len]
  unfold countV
  rw [show 64 * 2 ^ (n - 6) = 2 ^ n + (64 * 2 ^ (n - 6) - 2 ^ n) by omega, filter_upto p (tbit T) (2 ^ n) h.at' _ (fun a h1 h2 => h.out a h1 (by omega))]
theorem TabOf.first {T : List Nat} {n : Nat} {p : Nat → Bool} (h : TabOf T n p) : firstT T (64 * T.length) = firstV n p := by
  have hle := blocks_le n
  unfold firstT firstV
  rw [h.len, show 64 * 2 ^ (n - 6) = 2 ^ n + (64 * 2 ^ (n - 6) - 2 ^ n) by omega, find_upto p (tbit T) (2 ^ n) h.at' _ (fun a h1 h2 => h.out a h1 (by omega))]
/-- two tables of the same are the same -/
theorem TabOf.ext {T U : List Nat} {n : Nat} {p : Nat → Bool} (h : TabOf T n p) (h' : TabOf U n p) (hT : ∀ v ∈ T, v < 2 ^ 64) (hU : ∀ v ∈ U, v < 2 ^ 64) : T = U := by
  apply List.ext_getElem (by rw [h.len, h'.len])
  intro i h1 h2
  apply Nat.eq_of_testBit_eq
  intro k
  by_cases hk : k < 64
  · have e1 : tbit T (64 * i + k) = T[i].testBit k := by rw [tbit_at T i k hk, List.getD_eq_getElem?_getD, List.getElem?_eq_getElem h1]; rfl
    have e2 : tbit U (64 * i + k) = U[i].testBit k := by rw [tbit_at U i k hk, List.getD_eq_getElem?_getD, List.getElem?_eq_getElem h2]; rfl
    rw [← e1, ← e2]
    by_cases hn : 64 * i + k < 2 ^ n
    · rw [h.at' _ hn, h'.at' _ hn]
    · have := h.len
      rw [h.out _ (by omega) (by omega), h'.out _ (by omega) (by omega)]
  · have hp : 2 ^ 64 ≤ 2 ^ k := Nat.pow_le_pow_right (by omega) (by omega)
    rw [Nat.testBit_lt_two_pow (Nat.lt_of_lt_of_le (hT _ (List.getElem_mem h1)) hp), Nat.testBit_lt_two_pow (Nat.lt_of_lt_of_le (hU _ (List.getElem_mem h2)) hp)]
theorem tabW_lt (ns : List Nd) (f : List Nat → Nat) (n : Nat) : ∀ v ∈ tabW ns f n, v < 2 ^ 64 := fun v hv => by
  unfold tabW at hv
  obtain ⟨b, _, rfl⟩ := List.mem_map.1 hv
  refine Nat.lt_of_le_of_lt Nat.and_le_right ?_
  unfold maskW
  split
  · rename_i h
    have h2 : 2 ^ n ≤ 2 ^ 6 := Nat.pow_le_pow_right (by omega) (by omega)
    have h3 : 2 ^ 2 ^ n ≤ 2 ^ 64 := Nat.pow_le_pow_right (by omega) h2
    omega
  · unfold M64; omega
theorem countV_split (n : Nat) (p : Nat → Bool) : countV n p + countV n (fun a => !p a) = 2 ^ n := by
  have : ∀ l : List Nat, (l.filter p).length + (l.filter fun a => !p a).length = l.length := by
    intro l
    induction l with
    | nil => rfl
    | cons a l ih => cases h : p a <;> simp [h] <;> omega
  have h := this (List.range (2 ^ n))
  rwa [List.length_range] at h
theorem countV_pos (n : Nat) (p : Nat → Bool) : 0 < countV n p ↔ ∃ a, a < 2 ^ n ∧ p a = true := by
  unfold countV
  rw [List.length_pos_iff_exists_mem]
  constructor
  · rintro ⟨a, ha⟩
    obtain ⟨h1, h2⟩ := List.mem_filter.1 ha
    exact ⟨a, List.mem_range.1 h1, h2⟩
  · rintro ⟨a, h1, h2⟩
    exact ⟨a, List.mem_filter.2 ⟨List.mem_range.2 h1, h2⟩⟩
theorem firstV_none {n : Nat} {p : Nat → Bool} : firstV n p = none ↔ ∀ a, a < 2 ^ n → p a = false := by
  unfold firstV
  rw [List.find?_eq_none]
  constructor
  · intro h a ha
    have := h a (List.mem_range.2 ha)
    simpa using this
  · intro h a ha
    rw [h a (List.mem_range.1 ha)]
    simp
theorem firstV_some {n : Nat} {p : Nat → Bool} {a : Nat} (h : firstV n p = some a) : a < 2 ^ n ∧ p a = true ∧ ∀ b, b < a → p b = false := by
  unfold firstV at h
  rw [List.find?_range_eq_some] at h
  refine ⟨List.mem_range.1 h.2.1, h.1, fun b hb => ?_⟩
  have := h.2.2 b hb
  simpa using this
/-- the bits of an assignment -/
def asgBits (n a : Nat) : List Bool := (List.range n).map a.testBit
theorem asgBits_len (n a : Nat) : (asgBits n a).length = n := by simp [asgBits]
theorem asgBits_at (n a : Nat) : (fun i => (asgBits n a).getD i false) = asg n a := by
  funext i
  unfold asgBits asg
  rw [List.getD_eq_getElem?_getD, List.getElem?_map]
  by_cases hi : i < n
  · rw [List.getElem?_range hi, decide_eq_true hi, Bool.true_and]; rfl
  · rw [List.getElem?_eq_none (by simp; omega), decide_eq_false hi, Bool.false_and]; rfl
/-- what First and Parts return -/
def firstR (n : Nat) (p : Nat → Bool) : List Bool × Bool := match firstV n p with
  | none => ([], false)
  | some a => (asgBits n a, true)
end Go.Aig
namespace Go.Proofs.YtdmmanfjafempaaGreat
open Go.RowKit Go.Mem Go.Aig
theorem bits_and_i64_nat (a b : Nat) (ha : a < 9223372036854775808) (hb : b < 9223372036854775808) : bits .and .i64 (a : Int) (b : Int) = ((a &&& b : Nat) : Int) := by
  have hx : a &&& b ≤ a := Nat.and_le_left
  have h1 : (BitVec.ofInt 64 (a : Int)).toNat = a := by
    rw [BitVec.ofInt_natCast, BitVec.toNat_ofNat]; exact Nat.mod_eq_of_lt (by omega)
  have h2 : (BitVec.ofInt 64 (b : Int)).toNat = b := by
    rw [BitVec.ofInt_natCast, BitVec.toNat_ofNat]; exact Nat.mod_eq_of_lt (by omega)
  show IntKind.i64.wrap ((BitVec.ofInt 64 (a : Int) &&& BitVec.ofInt 64 (b : Int)).toNat : Int) = _
  rw [BitVec.toNat_and, h1, h2, IntKind.wrap_i64]
  omega
/-- a bit, as the code asks for it -/
theorem bit_i64 (x d : Nat) (hx : x < 9223372036854775808) : (bits .and .i64 ((x : Int) / 2 ^ d) 1 == 1) = decide (x / 2 ^ d % 2 = 1) := by
  have h1 : x / 2 ^ d < 9223372036854775808 := Nat.lt_of_le_of_lt (Nat.div_le_self _ _) hx
  have h2 := bits_and_i64_nat (x / 2 ^ d) 1 h1 (by omega)
  have h3 : ((x / 2 ^ d : Nat) : Int) = (x : Int) / 2 ^ d := by rw [Int.natCast_ediv]; simp
  rw [Nat.and_one_is_mod, h3] at h2
  rw [show (1 : Int) = ((1 : Nat) : Int) from rfl, h2]
  rcases Nat.mod_two_eq_zero_or_one (x / 2 ^ d) with h | h <;> rw [h] <;> rfl
theorem bit_u64 (x d : Nat) (hx : x < 18446744073709551616) : (bits .and .u64 ((x : Int) / 2 ^ d) 1 == 1) = x.testBit d := by
  have h1 : x / 2 ^ d < 18446744073709551616 := Nat.lt_of_le_of_lt (Nat.div_le_self _ _) hx
  have h2 := bits_and_u64_nat (x / 2 ^ d) 1 h1 (by omega)
  have h3 : ((x / 2 ^ d : Nat) : Int) = (x : Int) / 2 ^ d := by rw [Int.natCast_ediv]; simp
  rw [Nat.and_one_is_mod, h3] at h2
  rw [show (1 : Int) = ((1 : Nat) : Int) from rfl, h2, Nat.testBit_eq_decide_div_mod_eq]
  rcases Nat.mod_two_eq_zero_or_one (x / 2 ^ d) with h | h <;> rw [h] <;> rfl
theorem inW_snoc (n block k : Nat) (hk : k < n) : (inW n block).take (k + 1) = (inW n block).take k ++ [if k < 6 then lowW.getD k 0 else if block / 2 ^ (k - 6) % 2 = 1 then M64 else 0] := by
  rw [List.take_add_one]
  congr 1
  unfold inW
  rw [List.getElem?_map, List.getElem?_range hk]
  rfl
theorem u64s_snoc (l : List Nat) (v : Nat) : u64s (l ++ [v]) = u64s l ++ [.int .u64 v] := by simp [u64s]
theorem inW_lt (n block : Nat) : ∀ v ∈ inW n block, v < 2 ^ 64 := fun v hv => by
  unfold inW at hv
  obtain ⟨i, _, rfl⟩ := List.mem_map.1 hv
  split
  · rename_i h
    have : ∀ i, i < 6 → lowW.getD i 0 < 2 ^ 64 := by decide +kernel
    exact this i h
  · split
    · unfold M64; omega
    · omega
theorem low_get : ∀ i, i < 6 → (u64s lowW)[i]? = some (.int .u64 (lowW.getD i 0 : Nat)) := by
  intro i hi
  apply u64s_get
  rw [List.getD_eq_getElem?_getD]
  have : i < lowW.length := hi
  rw [List.getElem?_eq_getElem this]
  rfl
section
variable {w : World}
end
end Go.Proofs.YtdmmanfjafempaaGreat
namespace Go.Aig
theorem nbE_succ (env : Nat → Bool) (s j : Nat) : nbE env s (j + 1) = nbE env s j + (env (s + j)).toNat * 2 ^ j := by
  unfold nbE
  rw [List.range_succ, List.map_append]
  show bitsVal (_ ++ [env (s + j)]) = _
  rw [bitsVal_snoc]
  simp
theorem nbE_or (env : Nat → Bool) (s j : Nat) (hj : j < 32) (h : env (s + j) = true) : bits .or .u32 (nbE env s j : Int) ((2 ^ j : Nat) : Int) = (nbE env s (j + 1) : Int) := by
  have hl : ((List.range (j + 1)).map fun i => env (s + i))[j]? = some true := by rw [List.getElem?_map, List.getElem?_range (by omega)]; simp [h]
  have h2 := (bitsVal_succ hl hj).1
  have e1 : ((List.range (j + 1)).map fun i => env (s + i)).take j = (List.range j).map fun i => env (s + i) := by rw [← List.map_take, List.take_range]; simp
  have e2 : ((List.range (j + 1)).map fun i => env (s + i)).take (j + 1) = (List.range (j + 1)).map fun i => env (s + i) := by rw [List.take_of_length_le (by simp)]
  rw [e1, e2, show true.toNat * 2 ^ j = 2 ^ j by simp] at h2
  exact h2
theorem pow_u32 {j : Nat} (h : 2 ^ j < 4294967296) : (2 : Int) ^ j % 4294967296 = ((2 ^ j : Nat) : Int) := by
  have e : (2 : Int) ^ j = ((2 ^ j : Nat) : Int) := by simp
  rw [e]
  generalize (2 : Nat) ^ j = D at *
  omega
theorem nbE_no (env : Nat → Bool) (s j : Nat) (h : env (s + j) = false) : nbE env s (j + 1) = nbE env s j := by rw [nbE_succ, h]; simp
/-- the inputs' values, by the bits of a number -/
def insOf (T z : Nat) : List Bool := (List.range T).map z.testBit
theorem insOf_len (T z : Nat) : (insOf T z).length = T := by simp [insOf]
theorem insOf_snoc (T z k : Nat) (hk : k < T) : (insOf T z).take (k + 1) = (insOf T z).take k ++ [z.testBit k] := by
  rw [List.take_add_one]
  congr 1
  unfold insOf
  rw [List.getElem?_map, List.getElem?_range hk]
  rfl
def envB (l : List Bool) : Nat → Bool := fun i => l.getD i false
theorem envB_at {l : List Bool} {i : Nat} {b : Bool} (h : l[i]? = some b) : envB l i = b := by unfold envB; rw [List.getD_eq_getElem?_getD, h]; rfl
theorem envB_no {l : List Bool} {i : Nat} (h : l.length ≤ i) : envB l i = false := by unfold envB; rw [List.getD_eq_getElem?_getD, List.getElem?_eq_none h]; rfl
end Go.Aig
namespace Go.Proofs.YtdmmanfjafempaaGreat
open Go.RowKit Go.Mem Go.Aig
theorem bit_u32 (x d : Nat) (hx : x < 4294967296) : (bits .and .u32 ((x : Int) / 2 ^ d) 1 == 1) = x.testBit d := by
  have h3 : x / 2 ^ d < 4294967296 := Nat.lt_of_le_of_lt (Nat.div_le_self _ _) hx
  have h4 := u32_and_nat (x / 2 ^ d) 1 h3 (by omega)
  rw [Nat.and_one_is_mod] at h4
  have h5 : ((x / 2 ^ d : Nat) : Int) = (x : Int) / 2 ^ d := by rw [Int.natCast_ediv]; simp
  rw [← h5, show (1 : Int) = ((1 : Nat) : Int) from rfl, h4, Nat.testBit_eq_decide_div_mod_eq]
  rcases Nat.mod_two_eq_zero_or_one (x / 2 ^ d) with h | h <;> rw [h] <;> rfl
section
variable {w : World}
set_option maxRecDepth 100000 in
set_option maxHeartbeats 2000000 in
theorem numbers261_is {bt b3 s n : Nat} {xa : Option Addr} {xc : Nat} {ins : List Bool} (k : Nat) (hk : k ≤ 31) (hs : s + k ≤ 1000) (hn : ins.length = n) (hn1 : n ≤ 1000) (hS : Sb w xa ins) (ht : blk w bt [.int .i64 s]) (h3 : w.cell? ⟨b3, 0, none⟩ = some (.slice xa n xc)) :
    Calls Tryz.prog 89 (#[.int .i64 k] ++ #[.pointer (some ⟨bt, 0, none⟩), .pointer (some ⟨b3, 0, none⟩)]) w fun e w' => e = .returned (.int .u32 (nbE (envB ins) s k : Nat)) ∧ w' = w.setCell ⟨bt, 0, none⟩ (.int .i64 ((s + k : Nat) : Int)) := by
  show Calls Tryz.prog 89 #[.int .i64 k, .pointer (some ⟨bt, 0, none⟩), .pointer (some ⟨b3, 0, none⟩)] w _
  have c1 := ht.cell (i := 0) rfl
  have f1 := ht.frozen (i := 0)
  clear ht
  have HS := Lib.hid hS; clear hS
  have HN := Lib.hid hn; clear hn
  go_enter Tryz.func89, Tryz.ntmps89
  go_wp2_with fail
  go_loopw [5, 8] (fun v i wr => ∃ j : Nat, j ≤ k ∧ i = .int .i64 j ∧ v = .int .u32 (nbE (envB ins) s j : Nat) ∧ w = wr) (fun _ i _ => k - (intOf i).toNat)
  case atStart => exact ⟨0, Nat.zero_le _, rfl, rfl, rfl⟩
  case round =>
    obtain ⟨j, hj, rfl, rfl, rfl⟩ := hrel
    by_cases hlt : j < k
    · by_cases hin : s + j < n
      · obtain ⟨b, hb⟩ : ∃ b, ins[s + j]? = some b := ⟨_, List.getElem?_eq_getElem (by rw [HN.out]; exact hin)⟩
        obtain ⟨ab, ao, rfl, c0⟩ := HS.out.cells (s + j) (.bool b) (by rw [List.getElem?_map, hb]; rfl)
        have he := envB_at hb
        have hp : 2 ^ j < 4294967296 := Nat.lt_of_le_of_lt (Nat.pow_le_pow_right (by omega) (show j ≤ 31 by omega)) (by decide)
        have hv := nbE_lt (envB ins) s j
        clear hb
        cases b
        · have h1 := nbE_no _ _ _ he
          have H1 := Lib.hid h1; clear h1 he
          generalize nbE (envB ins) s j = v at *
          go_wp2_with fail
          go_roundw
          case rel => exact ⟨j + 1, by omega, by go_num, by rw [H1.out], trivial⟩
          case measure => simp [intOf]; omega
        · have h1 := nbE_or _ _ j (by omega) he
          have H1 := Lib.hid h1; clear h1 he
          generalize nbE (envB ins) s j = v at *
          go_wp2_with fail
          go_roundw
          case rel => exact ⟨j + 1, by omega, by go_num, by rw [← H1.out, ← pow_u32 hp], trivial⟩
          case measure => simp [intOf]; omega
      · have he : envB ins (s + j) = false := envB_no (by rw [HN.out]; omega)
        have h1 := nbE_no _ _ _ he
        have H1 := Lib.hid h1; clear h1 he
        generalize nbE (envB ins) s j = v at *
        go_wp2_with fail
        go_roundw
        case rel => exact ⟨j + 1, by omega, by go_num, by rw [H1.out], trivial⟩
        case measure => simp [intOf]; omega
    · have e : j = k := by omega
      subst e
      go_wp2_with fail
      go_ret
      exact ⟨rfl, by rw [Int.natCast_add]⟩
end
theorem infoW32 : (Tryz.prog.info? 28).map (fun i => (i.zero, i.size, i.bytes)) = some (some (.int .u32 0), 1, 4) := by kernel_rfl
theorem slW32 : SliceTy Tryz.prog 57 28 1 4 (.int .u32 0) := ⟨Tryz.underlying57, infoW32, rfl, by decide⟩
def u32s (l : List Nat) : List Value := l.map fun (x : Nat) => .int .u32 x
theorem fnvNumbers261 : Fnv 89 := fnv_of Tryz.func89 (by simp [Tryz.f89]) (by simp [Tryz.f89])
/-- what is known while numbers are read off -/
structure NI (w : World) (b2 b3 bt : Nat) (xs : List Value) (iv : Value) (s : Nat) (wr : World) : Prop where
  ch : Ch [] w wr
  k2 : blk wr b2 xs
  k3 : blk wr b3 [iv]
  kt : blk wr bt [.int .i64 s]
theorem NI.to {w : World} {b2 b3 bt : Nat} {xs : List Value} {iv : Value} {s : Nat} {wr w' : World} {K : List Nat} (h : NI w b2 b3 bt xs iv s wr) (hc : Ch K wr w') (hK : ∀ k ∈ K, w.heap.size ≤ k ∧ k ≠ b2 ∧ k ≠ b3 ∧ k ≠ bt) : NI w b2 b3 bt xs iv s w' :=
  ⟨h.ch.trans hc (fun k hk => .inr (hK k hk).1), h.k2.ch hc (fun hin => (hK _ hin).2.1 rfl), h.k3.ch hc (fun hin => (hK _ hin).2.2.1 rfl), h.kt.ch hc (fun hin => (hK _ hin).2.2.2 rfl)⟩
theorem NI.set {w : World} {b2 b3 bt : Nat} {xs : List Value} {iv : Value} {s : Nat} {wr : World} (h : NI w b2 b3 bt xs iv s wr) (hne : b2 ≠ bt ∧ b3 ≠ bt) (hl : w.heap.size ≤ bt) (s' : Nat) : NI w b2 b3 bt xs iv s' (wr.setCell ⟨bt, 0, none⟩ (.int .i64 s')) := by
  have hc : Ch [bt] wr (wr.setCell ⟨bt, 0, none⟩ (.int .i64 s')) := (Ch.refl _ _).setCell (by simp) _
  exact ⟨h.ch.trans hc (by simp; omega), h.k2.ch hc (by simpa using hne.1), h.k3.ch hc (by simpa using hne.2), h.kt.set (i := 0) _⟩
section
variable {w : World} {g : Nat} {G : Gra} {F : List Nat}
set_option maxRecDepth 100000 in
set_option maxHeartbeats 2000000 in
theorem values26_is (h : GIn w g G F) {T : Nat} (hT : (inputs G.nodes).length = T) (hT1 : T ≤ 31) (la wa ia : Option Addr) (ln lc wn wc vn ic : Nat) (gd : Int) (z : Nat) (hz : z < 4294967296) :
    Calls Tryz.prog 21 #[.agg #[.pointer (some ⟨g, 0, none⟩), .slice la ln lc, .slice wa wn wc, .slice ia vn ic, .int .i64 gd], .int .u32 z] w fun e w' => ∃ v, e = .returned v ∧ row w' 4 1 v T (bools (insOf T z)) ∧ (∀ q ∈ v.ownBlock.toList, w.heap.size ≤ q) ∧ Ch [] w w' := by
  have hcA : Ch [] w (w.alloc (.cells #[.pointer (some ⟨g, 0, none⟩), .slice la ln lc, .slice wa wn wc, .slice ia vn ic, .int .i64 gd] 43)) := (Ch.refl _ _).alloc _
  have HI := Lib.hid (Inputs_g (h.same hcA (by simp)))
  rw [hT] at HI
  have HSN := Lib.hid (insOf_snoc T z)
  have hlen := insOf_len T z
  obtain ⟨GL, hGL⟩ : ∃ GL, GL = insOf T z := ⟨_, rfl⟩
  rw [← hGL] at HSN hlen ⊢
  clear hGL
  have hbz := fun d => bit_u32 z d hz
  have HBZ := Lib.hid hbz; clear hbz
  have HCA := Lib.hid hcA; clear hcA h
  go_enter Tryz.func21, Tryz.ntmps21
  go_wp2_with fail
  refine HI.out.mono ?_
  rintro e w1 ⟨v, rfl, hrow, hown, hc1⟩
  obtain ⟨va, vc, rfl⟩ := row.shape hrow
  have HC1 := Lib.hid (HCA.out.trans hc1 (by simp)); clear hc1 HCA HI hrow hown
  go_wp2_with fail
  go_loopw [5, 11] (fun o i wr => ∃ s : Nat, s ≤ T ∧ i = .int .i64 s ∧ Ch [] w wr ∧ row wr 4 1 o s (bools (GL.take s)) ∧ ∀ q ∈ o.ownBlock.toList, w.heap.size ≤ q) (fun _ i _ => T - (intOf i).toNat)
  case atStart => exact ⟨0, by omega, rfl, HC1.out, ⟨rfl, .inl ⟨rfl, rfl⟩⟩, by simp⟩
  case round =>
    clear HC1
    obtain ⟨s, hs, rfl, hc, hrow, hlo⟩ := hrel
    obtain ⟨oa, oc, rfl⟩ := row.shape hrow
    by_cases hlt : s < T
    · have hsn := HSN.out s hlt
      have hbit := HBZ.out s
      have h1 : decide ((0 : Int) ≤ s) = true := decide_eq_true (by omega)
      have h2 : decide ((s : Int) < 32) = true := decide_eq_true (by omega)
      have HC2 := Lib.hid hc; clear hc
      have HLO := Lib.hid hlo; clear hlo
      generalize z.testBit s = tb' at hsn hbit
      have hcA : Ch [] wr (wr.alloc (.cells #[.bool tb'] 4)) := (Ch.refl _ _).alloc _
      have hrA := hrow.ch hcA (by simp)
      have hbA : blk (wr.alloc (.cells #[.bool tb'] 4)) wr.heap.size [.bool tb'] := blk.new' _ _ rfl
      have HSU := Lib.hid hsn; clear hsn
      have HRA := Lib.hid hrA; clear hrA hrow
      have HBA := Lib.hid hbA; clear hbA
      have HCA := Lib.hid hcA; clear hcA
      go_wp2_with (at_builtin; go_loud (refine wpList_append_row slBools rfl _ _ rfl (v := .slice oa s oc) (n := s) (xs := bools (GL.take s)) rfl HRA.out (ad := ⟨wr.heap.size, 0, none⟩) (m := 1) (c := 1) (news := [.bool tb']) rfl rfl (news_blk HBA.out) (by simp [Value.oneCell']) (by omega) (by omega) ?_; intro v' w5 hown4 hC4 hf4; have HO4 := Lib.hid hown4; clear hown4; have HCC4 := Lib.hid hC4; clear hC4; have HF4 := Lib.hid hf4; clear hf4))
      go_roundw
      case rel =>
        obtain ⟨q1, q2⟩ := app_step HC2.out HCA.out HLO.out HCC4.out HF4.out
        refine ⟨s + 1, by omega, by go_num, q1, ?_, q2⟩
        rw [HSU.out, show bools (GL.take s ++ [tb']) = bools (GL.take s) ++ [.bool tb'] by simp [bools]]
        exact HO4.out
      case measure => simp [intOf]; omega
    · have hsT : s = T := by omega
      subst hsT
      rw [List.take_of_length_le (by omega)] at hrow
      have HR := Lib.hid hrow; clear hrow
      have HC2 := Lib.hid hc; clear hc
      have HLO := Lib.hid hlo; clear hlo
      go_wp2_with fail
      go_ret
      exact ⟨.slice oa s oc, rfl, HR.out, HLO.out, HC2.out⟩
set_option maxRecDepth 100000 in
set_option maxHeartbeats 4000000 in
theorem numbers26_is {ab N W V ac T xc : Nat} {cs : List Value} {ws : List WV} {wa ia xa : Option Addr} {wc ic : Nat} {ins : List Bool} (gp : Option Addr) (gd : Int) (hN : N ≤ 4) (hW : W ≤ 3) (hV : V ≤ 3) (hb : blk w ab cs) (hcs : ∀ (i : Nat) (x : WV), ws[i]? = some x → cs[i]? = some x.val) (hws : ws.map WV.l = wldL N W) (hn : ins.length = T) (hT : T ≤ 60) (hS : Sb w xa ins) :
    Calls Tryz.prog 22 #[.agg #[.pointer gp, .slice (some ⟨ab, 0, none⟩) N ac, .slice wa W wc, .slice ia V ic, .int .i64 gd], .slice xa T xc] w fun e w' => ∃ oa oc, e = .returned (.tuple #[.slice oa N oc, .int .u32 (nbE (envB ins) (N * W) W : Nat), .int .i64 (nbE (envB ins) (N * W + W) V : Nat), .bool (envB ins (N * W + W + V))]) ∧ row w' 28 1 (.slice oa N oc) N (u32s ((List.range N).map fun i => nbE (envB ins) (i * W) W)) ∧ (∀ q ∈ (Value.slice oa N oc).ownBlock.toList, w.heap.size ≤ q) ∧ Ch [] w w' := by
  obtain ⟨xs, hxs⟩ : ∃ xs : List Value, xs = [.pointer gp, .slice (some ⟨ab, 0, none⟩) N ac, .slice wa W wc, .slice ia V ic, .int .i64 gd] := ⟨_, rfl⟩
  have hwl := wld_len hws
  have hNW : N * W ≤ 12 := Nat.mul_le_mul hN hW
  have hwlen : ∀ (i : Nat) (x : WV), ws[i]? = some x → x.l.length = W := fun i x hx => by
    have h1 : (ws.map WV.l)[i]? = some x.l := by rw [List.getElem?_map, hx]; rfl
    rw [hws] at h1
    unfold wldL at h1
    rw [List.getElem?_map] at h1
    rcases hr : (List.range N)[i]? with _ | z
    · rw [hr] at h1; cases h1
    · rw [hr] at h1
      have h2 := Option.some.inj h1
      rw [← h2]
      simp [rIn]
  have hlt := hb.lt
  have hnx := fun (wr : World) (k s : Nat) (hk : k ≤ 31) (hs : s + k ≤ 1000) (hc : Ch [] w wr) (b3 bt : Nat) (ht : blk wr bt [.int .i64 s]) (h3 : blk wr b3 [.slice xa T xc]) => numbers261_is (xc := xc) k hk hs hn (by omega) (hS.ch hc (by simp)) ht (h3.cell (i := 0) rfl)
  have HNX := Lib.hid hnx; clear hnx
  have hv8 := nbE_lt (envB ins) (N * W + W) V
  have hp8 : 2 ^ V ≤ 8 := Nat.pow_le_pow_right (by omega) (by omega : V ≤ 3)
  obtain ⟨n1, hn1e⟩ : ∃ n1, nbE (envB ins) (N * W) W = n1 := ⟨_, rfl⟩
  obtain ⟨n2, hn2e⟩ : ∃ n2, nbE (envB ins) (N * W + W) V = n2 := ⟨_, rfl⟩
  obtain ⟨gb, hgbe⟩ : ∃ gb, envB ins (N * W + W + V) = gb := ⟨_, rfl⟩
  rw [hn2e] at hv8
  rw [hn1e, hn2e, hgbe]
  have hn28 : n2 < 8 := Nat.lt_of_lt_of_le hv8 hp8
  clear hv8 hp8
  have HN1E := Lib.hid hn1e; clear hn1e
  have HN2E := Lib.hid hn2e; clear hn2e
  have HGBE := Lib.hid hgbe; clear hgbe
  have HWL := Lib.hid hwlen; clear hwlen
  have HWS := Lib.hid hwl; clear hwl
  have HB := Lib.hid hb; clear hb
  have HCS := Lib.hid hcs; clear hcs
  clear hS hws hn
  have hcf : ∀ args w, (callFunc 89 args).run Tryz.prog w = .ok (.enter 89 args) w := fnvNumbers261
  go_enter Tryz.func22, Tryz.ntmps22
  go_upto_region 2 with fail
  refine wp_named fun W1 hW1 => ?_
  have hi : NI w w.heap.size (w.heap.size + 1) (w.heap.size + 1 + 1) xs (.slice xa T xc) 0 W1 := by
    rw [hW1, hxs]
    refine ⟨(((Ch.refl _ _).alloc _).alloc _).alloc _, ?_, ?_, ?_⟩
    · exact ((blk.new' _ _ rfl).alloc _).alloc _
    · exact (blk.new' _ _ (by simp)).alloc _
    · exact blk.new' _ _ (by simp)
  have hne : w.heap.size ≠ w.heap.size + 1 + 1 ∧ w.heap.size + 1 ≠ w.heap.size + 1 + 1 := ⟨by omega, by omega⟩
  have hlb : w.heap.size ≤ w.heap.size ∧ w.heap.size ≤ w.heap.size + 1 ∧ w.heap.size ≤ w.heap.size + 1 + 1 := ⟨by omega, by omega, by omega⟩
  clear hW1
  generalize h0 : w.heap.size + 1 + 1 = bt at *
  generalize h1 : w.heap.size + 1 = b3 at *
  clear h0 h1
  obtain ⟨b2, hb2⟩ : ∃ b2, b2 = w.heap.size := ⟨_, rfl⟩
  have hlb : w.heap.size ≤ b2 ∧ w.heap.size ≤ b3 ∧ w.heap.size ≤ bt := ⟨by omega, hlb.2.1, hlb.2.2⟩
  rw [← hb2] at hi hne ⊢
  clear hb2
  have c21 := hi.k2.cell (i := 1) (v := .slice (some ⟨ab, 0, none⟩) N ac) (by rw [hxs]; rfl)
  have HI := Lib.hid hi; clear hi
  have HNE := Lib.hid hne; clear hne
  have HLB := Lib.hid hlb; clear hlb
  have HXS := Lib.hid hxs; clear hxs
  go_wp2_with fail
  clear c21
  go_loopw [10, 19] (fun o i wr => ∃ k : Nat, k ≤ N ∧ i = .int .i64 k ∧ NI w b2 b3 bt xs (.slice xa T xc) (k * W) wr ∧ row wr 28 1 o k (u32s ((List.range k).map fun i => nbE (envB ins) (i * W) W)) ∧ ∀ q ∈ o.ownBlock.toList, w.heap.size ≤ q ∧ q ≠ b2 ∧ q ≠ b3 ∧ q ≠ bt) (fun _ i _ => N - (intOf i).toNat)
  case atStart => exact ⟨0, by omega, rfl, by rw [Nat.zero_mul]; exact HI.out, ⟨rfl, .inl ⟨rfl, rfl⟩⟩, by simp⟩
  case round =>
    clear HI
    obtain ⟨k, hk, rfl, hi, hrow, hown⟩ := hrel
    obtain ⟨oa, oc, rfl⟩ := row.shape hrow
    have hkW : k * W ≤ 12 := Nat.le_trans (Nat.mul_le_mul_right W hk) hNW
    have HROW := Lib.hid hrow; clear hrow
    have HOWN := Lib.hid hown; clear hown
    have HI := Lib.hid hi; clear hi
    by_cases hlt2 : k < N
    · obtain ⟨x, hx⟩ : ∃ x, ws[k]? = some x := ⟨_, List.getElem?_eq_getElem (by rw [HWS.out]; exact hlt2)⟩
      have hxl := HWL.out k x hx
      have d1 := (HB.out.ch HI.out.ch (by simp)).cell (HCS.out k x hx)
      obtain ⟨ya, yl, yc⟩ := x
      simp only [WV.val] at d1 hxl
      rw [hxl] at d1
      have hn := HNX.out wr W (k * W) (by omega) (by omega) HI.out.ch b3 bt HI.out.kt HI.out.k3
      have HN := Lib.hid hn; clear hn hx hxl
      go_wp2_with fail
      refine HN.out.mono ?_
      rintro e w1 ⟨rfl, hw1⟩
      have hi1 := HI.out.set HNE.out HLB.out.2.2 (k * W + W)
      rw [← hw1] at hi1
      have hc1 : Ch [bt] wr w1 := by rw [hw1]; exact (Ch.refl _ _).setCell (by simp) _
      have hr1 := HROW.out.ch hc1 (fun q hq hin => (HOWN.out q (by simpa using hq)).2.2.2 (by simpa using hin))
      clear hw1 HN HI HROW d1
      generalize hbv : nbE (envB ins) (k * W) W = bv at *
      have hcA : Ch [] w1 (w1.alloc (.cells #[.int .u32 bv] 28)) := (Ch.refl _ _).alloc _
      have hrA := hr1.ch hcA (by simp)
      have hbA : blk (w1.alloc (.cells #[.int .u32 bv] 28)) w1.heap.size [.int .u32 bv] := blk.new' _ _ rfl
      have hiA := hi1.to hcA (by simp)
      have hw1s := hi1.ch.size
      have hl2 := hi1.k2.lt
      have hl3 := hi1.k3.lt
      have hlt' := hi1.kt.lt
      have HRA := Lib.hid hrA; clear hrA hr1
      have HBA := Lib.hid hbA; clear hbA
      have HIA := Lib.hid hiA; clear hiA hi1 hcA hc1
      have HBV := Lib.hid hbv; clear hbv
      go_wp2_with (at_builtin; go_loud (refine wpList_append_row slW32 rfl _ _ rfl (v := .slice oa k oc) (n := k) (xs := u32s ((List.range k).map fun i => nbE (envB ins) (i * W) W)) rfl HRA.out (ad := ⟨w1.heap.size, 0, none⟩) (m := 1) (c := 1) (news := [.int .u32 bv]) rfl rfl (news_blk HBA.out) (by simp [Value.oneCell']) (by omega) (by omega) ?_; intro v' w5 hown4 hC4 hf4; have HO4 := Lib.hid hown4; clear hown4; have HCC4 := Lib.hid hC4; clear hC4; have HF4 := Lib.hid hf4; clear hf4))
      go_roundw
      case rel =>
        have hi5 := HIA.out.to HCC4.out (fun q hq => HOWN.out q hq)
        have hr5 := HO4.out
        refine ⟨k + 1, by omega, by go_num, by rw [Nat.succ_mul]; exact hi5, ?_, fun q hq => ?_⟩
        · rw [List.range_succ, List.map_append]
          show row _ _ _ _ _ (u32s (_ ++ [nbE (envB ins) (k * W) W]))
          rw [HBV.out]
          have : ∀ l : List Nat, u32s (l ++ [bv]) = u32s l ++ [.int .u32 bv] := fun l => by simp [u32s]
          rw [this]
          exact hr5
        · rcases HF4.out q (by simpa using hq) with e | e
          · exact HOWN.out q (by simpa using e)
          · simp at e
            omega
      case measure => simp [intOf]; omega
    · have hkN : k = N := by omega
      subst hkN
      have hn1' := fun (wr : World) (hi : NI w b2 b3 bt xs (.slice xa T xc) (k * W) wr) => HNX.out wr W (k * W) (by omega) (by omega) hi.ch b3 bt hi.kt hi.k3
      have hn2' := fun (wr : World) (hi : NI w b2 b3 bt xs (.slice xa T xc) (k * W + W) wr) => HNX.out wr V (k * W + W) (by omega) (by omega) hi.ch b3 bt hi.kt hi.k3
      have hn3' := fun (wr : World) (hi : NI w b2 b3 bt xs (.slice xa T xc) (k * W + W + V) wr) => HNX.out wr 1 (k * W + W + V) (by omega) (by omega) hi.ch b3 bt hi.kt hi.k3
      have e1 : nbE (envB ins) (k * W + W + V) 1 = (envB ins (k * W + W + V)).toNat := by rw [nbE_succ]; simp [nbE, bitsVal]
      simp only [e1, HGBE.out] at hn3'
      simp only [HN1E.out] at hn1'
      simp only [HN2E.out] at hn2'
      have HN1 := Lib.hid hn1'; clear hn1'
      have HN2 := Lib.hid hn2'; clear hn2'
      have HN3 := Lib.hid hn3'; clear hn3'
      clear e1 HNX HWL HWS HB HCS
      clear HN1E HN2E HGBE
      have hkx := HI.out.k2
      rw [HXS.out] at hkx
      go_wp2_with fail
      refine Ord.St.door (fun w' => w'.cell? ⟨b2, 3, none⟩ = some (.slice ia V ic)) [.fl, .fl, .rd, .fl, .ef, .fl, .fl, .ho, .fl, .ef, .fl, .fl] [0, 0, 2, 6, 15, 0, 0, 64, 192, 511, 1023, 2047] [0, 1, 2, 3, 4, 5, 6, 7, 8, 9, 10, 11] mixed (by kernel_rfl) rfl ?_
      obtain ⟨Wc, hWc⟩ : ∃ Wc, Wc = wr.drew := ⟨_, rfl⟩
      rw [← hWc]
      have hic := HI.out.to (show Ch [] wr Wc by rw [hWc]; exact (Ch.refl _ _).drew) (by simp)
      have hrc := HROW.out.ch (show Ch [] wr Wc by rw [hWc]; exact (Ch.refl _ _).drew) (by simp)
      clear hWc
      have HI1 := Lib.hid hic
      have HR1 := Lib.hid hrc; clear hrc
      replace hkx := hic.k2
      clear hic
      rw [HXS.out] at hkx
      have c22 := hkx.cell (i := 2) rfl
      refine Ord.St.fl2 (T' := ?_) 0 [1, 2, 3, 4, 5, 6, 7, 8, 9, 10, 11] _ _ rfl (by kernel_rfl) rfl rfl rfl rfl (fun K w' hk => ?_) ?_
      rotate_left
      · go_step; exact hk
      refine Ord.St.fl2 (T' := ?_) 1 [2, 3, 4, 5, 6, 7, 8, 9, 10, 11] _ _ rfl (by kernel_rfl) rfl rfl rfl rfl (fun K w' hk => ?_) ?_
      rotate_left
      · go_step; exact hk
      refine Ord.St.rd2 (T' := ?_) 2 [3, 4, 5, 6, 7, 8, 9, 10, 11] _ _ rfl (by kernel_rfl) rfl rfl rfl rfl (fun K hk => ?_) ?_
      rotate_left
      · go_step; exact hk
      refine Ord.St.fl2 (T' := ?_) 3 [4, 5, 6, 7, 8, 9, 10, 11] _ _ rfl (by kernel_rfl) rfl rfl rfl rfl (fun K w' hk => ?_) ?_
      rotate_left
      · go_step; exact hk
      refine Ord.St.fl2 (T' := ?_) 5 [4, 6, 7, 8, 9, 10, 11] _ _ rfl (by kernel_rfl) rfl rfl rfl rfl (fun K w' hk => ?_) ?_
      rotate_left
      · go_step; exact hk
      refine Ord.St.fl2 (T' := ?_) 6 [4, 7, 8, 9, 10, 11] _ _ rfl (by kernel_rfl) rfl rfl rfl rfl (fun K w' hk => ?_) ?_
      rotate_left
      · go_step; exact hk
      refine Ord.St.ho2 (T' := ?_) 7 [4, 8, 9, 10, 11] _ _ rfl (by kernel_rfl) rfl rfl rfl rfl ?_ (fun K w' hw' hk => ?_) ?_
      rotate_left
      · exact hkx.cell (i := 3) rfl
      · have q1 := hw'; go_step; exact hk
      refine Ord.St.fl2 (T' := ?_) 8 [4, 9, 10, 11] _ _ rfl (by kernel_rfl) rfl rfl rfl rfl (fun K w' hk => ?_) ?_
      rotate_left
      · go_step; exact hk
      refine Ord.St.efC 4 [9, 10, 11] _ rfl (by kernel_rfl) (fun K hK => ?_)
      have h1 := HN1.out Wc HI1.out
      have H1 := Lib.hid h1; clear h1
      go_wp2_with fail
      refine H1.out.mono ?_
      rintro e w1 ⟨rfl, hw1⟩
      have hi1 := HI1.out.set HNE.out HLB.out.2.2 (k * W + W)
      rw [← hw1] at hi1
      have hr1 := HR1.out.ch (show Ch [bt] Wc w1 by rw [hw1]; exact (Ch.refl _ _).setCell (by simp) _) (fun q hq hin => (HOWN.out q (by simpa using hq)).2.2.2 (by simpa using hin))
      clear hw1 H1
      replace hkx := hi1.k2
      rw [HXS.out] at hkx
      have HI2 := Lib.hid hi1; clear hi1
      have HR2 := Lib.hid hr1; clear hr1
      go_wp2_with fail
      refine ⟨rfl, hK _ _ ?_ ?_⟩
      · exact hkx.cell (i := 3) rfl
      clear hK K
      refine Ord.St.ef 9 [10, 11] _ rfl (by kernel_rfl) (fun K hK => ?_)
      have h1 := HN2.out _ HI2.out
      have H1 := Lib.hid h1; clear h1
      go_wp2_with fail
      refine H1.out.mono ?_
      rintro e w2 ⟨rfl, hw2⟩
      have hi1 := HI2.out.set HNE.out HLB.out.2.2 (k * W + W + V)
      rw [← hw2] at hi1
      have hr1 := HR2.out.ch (show Ch [bt] w1 w2 by rw [hw2]; exact (Ch.refl _ _).setCell (by simp) _) (fun q hq hin => (HOWN.out q (by simpa using hq)).2.2.2 (by simpa using hin))
      clear hw2 H1
      replace hkx := hi1.k2
      rw [HXS.out] at hkx
      have HI3 := Lib.hid hi1; clear hi1
      have HR3 := Lib.hid hr1; clear hr1
      go_wp2_with fail
      refine ⟨rfl, hK _ _ ?_⟩; clear hK K
      refine Ord.St.fl2 (T' := ?_) 10 [11] _ _ rfl (by kernel_rfl) rfl rfl rfl rfl (fun K w' hk => ?_) ?_
      rotate_left
      · go_step; exact hk
      refine Ord.St.fl2 (T' := ?_) 11 [] _ _ rfl (by kernel_rfl) rfl rfl rfl rfl (fun K w' hk => ?_) ?_
      rotate_left
      · go_step; exact hk
      refine Ord.St.nil ?_
      have h1 := HN3.out _ HI3.out
      have H1 := Lib.hid h1; clear h1
      go_wp2_with fail
      refine H1.out.mono ?_
      rintro e w3 ⟨rfl, hw3⟩
      have hi1 := HI3.out.set HNE.out HLB.out.2.2 (k * W + W + V + 1)
      rw [← hw3] at hi1
      have hr1 := HR3.out.ch (show Ch [bt] w2 w3 by rw [hw3]; exact (Ch.refl _ _).setCell (by simp) _) (fun q hq hin => (HOWN.out q (by simpa using hq)).2.2.2 (by simpa using hin))
      clear hw3 H1
      have HI4 := Lib.hid hi1; clear hi1
      have HR4 := Lib.hid hr1; clear hr1
      cases gb
      · go_wp2_with fail
        refine bodyPost_ret (v := .tuple #[.slice oa k oc, .int .u32 n1, .int .i64 n2, .bool false]) (by simp [results, Tryz.results22, go_sem]) rfl ?_
        exact ⟨oa, oc, rfl, HR4.out, fun q hq => (HOWN.out q hq).1, HI4.out.ch⟩
      · go_wp2_with fail
        refine bodyPost_ret (v := .tuple #[.slice oa k oc, .int .u32 n1, .int .i64 n2, .bool true]) (by simp [results, Tryz.results22, go_sem]) rfl ?_
        exact ⟨oa, oc, rfl, HR4.out, fun q hq => (HOWN.out q hq).1, HI4.out.ch⟩
end
end Go.Proofs.YtdmmanfjafempaaGreat
namespace Go.Proofs.YtdmmanfjafempaaGreat
open Go.RowKit Go.Mem Go.Aig
section
variable {w : World} {g : Nat} {G : Gra} {F : List Nat}
set_option maxRecDepth 100000 in
set_option maxHeartbeats 2000000 in
theorem Reads_is (h : GIn w g G F) {a : Option Addr} {l : List Int} {m c : Nat} (hm : l.length = m) (hL : Sl w a l) (hbd : ∀ r ∈ l, -9223372036854775808 ≤ r ∧ r ≤ 9223372036854775807) {xa : Option Addr} {ins : List Bool} {k xc : Nat} (hk : ins.length = k) (hI : Sb w xa ins) (hkl : k ≤ 1000) {B : List Bool} (hR : bitsR G ins l = (B, 0)) (hB : B.length = m) (h1 : 1 ≤ m) (h16 : m ≤ 16) :
    Calls Tryz.prog 23 #[.pointer (some ⟨g, 0, none⟩), .slice a m c, .slice xa k xc] w fun e w' => e = .returned (.tuple #[.int .u32 (bitsVal B), .bool true]) ∧ Ch [] w w' := by
  have HB := simBits_is h (xa := xa) (ins := ins) k xc hk hI (by omega) m c hm hL hbd (by omega)
  rw [hR] at HB
  have HV := fun (W : World) (ba : Option Addr) (bc : Nat) (hS : Sb W ba B) => sValue_is (w := W) (x := ⟨a, l, c⟩) (by show l.length ≤ _; omega) bc (by omega) hS
  simp only [WV.val, hB, hm, h1, h16, and_self, if_true] at HV
  clear hI hL
  go_enter Tryz.func23, Tryz.ntmps23
  go_wp2_with fail
  refine HB.mono ?_
  rintro e w1 ⟨v, rfl, hrow, hown, hch⟩
  obtain ⟨ba, bc, rfl⟩ := hrow.parts (by show 0 < B.length; omega)
  have hS : Sb w1 (some ⟨ba, 0, none⟩) B := row.sv hrow rfl (by show B.length ≤ _; omega)
  simp only [hB]
  go_wp2_with fail
  refine (HV w1 _ bc hS).mono ?_
  rintro e w2 ⟨rfl, rfl⟩
  go_wp2_with fail
  go_ret2
  exact ⟨rfl, hch⟩
end
end Go.Proofs.YtdmmanfjafempaaGreat
namespace Go.Aig
theorem bitsR_ok {G : Gra} {ins : List Bool} {l : List Nat} (hl : ∀ r ∈ l, r < 2 * G.nodes.length) (hi : (inputs G.nodes).length = ins.length) : Go.Proofs.YtdmmanfjafempaaGreat.bitsR G ins (natInts l) = (l.map (bv (envB ins) G.nodes), 0) := by
  unfold Go.Proofs.YtdmmanfjafempaaGreat.bitsR
  rw [right_nats hl, if_neg (by simp), if_neg (by omega), nats_natInts']
  rfl
end Go.Aig
namespace Go.Proofs.YtdmmanfjafempaaGreat
open Go.RowKit Go.Mem Go.Aig
theorem u32s_get {l : List Nat} {i v : Nat} (h : l[i]? = some v) : (u32s l)[i]? = some (.int .u32 v) := by simp [u32s, h]
theorem infoU32 : (Tryz.prog.info? 27).map (fun i => (i.zero, i.size, i.bytes)) = some (some (.int .u32 0), 1, 4) := by kernel_rfl
theorem slU32 : SliceTy Tryz.prog 37 27 1 4 (.int .u32 0) := ⟨Tryz.underlying37, infoU32, rfl, by decide⟩
theorem eqSliceNil32 (w : World) (a : Option Addr) (n c : Nat) : (binOp .eql 37 (.slice a n c) (.slice none 0 0)).run Tryz.prog w = .ok (.bool a.isNone) w := by
  have h : Tryz.prog.underlying 37 = some (.slice 27) := Tryz.underlying37
  simp only [binOp]
  simp [run_equal_slice_nil w _ _ a n c h]
attribute [local go_sem] eqSliceNil32
section
variable {w : World}
set_option maxRecDepth 100000 in
set_option maxHeartbeats 1000000 in
theorem CLu32_is {a : Option Addr} {l : List Nat} (n c : Nat) (hn : l.length = n) (h : Sv w a (u32s l)) (hm : n ≤ 1000000) : Calls Tryz.prog 20 #[.slice a n c] w fun e w' => ∃ v, e = .returned v ∧ row w' 27 1 v n (u32s l) ∧ (∀ q ∈ v.ownBlock.toList, w.heap.size ≤ q) ∧ Ch [] w w' := by
  subst hn
  cases a with
  | none =>
    have hl : l = [] := by
      cases l with
      | nil => rfl
      | cons y l =>
        obtain ⟨b, o, e, _⟩ := h.cells 0 (.int .u32 y) rfl
        cases e
    subst hl
    clear h
    go_enter Tryz.func20, Tryz.ntmps20
    go_wp2_with fail
    go_ret
    exact ⟨_, rfl, ⟨rfl, .inl ⟨rfl, rfl⟩⟩, by simp, Ch.refl _ _⟩
  | some p =>
    have hO : row (w.alloc (.cells #[] 27)) 27 1 (.slice (some ⟨w.heap.size, 0, none⟩) 0 0) 0 [] := ⟨rfl, .inr ⟨w.heap.size, 0, #[], rfl, by omega, heap_alloc_new w _, by omega, by unfold maxLen; omega, rfl, rfl⟩⟩
    have hN : ∀ j u, (u32s l)[j]? = some u → (w.alloc (.cells #[] 27)).cell? (p.add j) = some u := fun j u hu => by
      obtain ⟨b, o, e, hc⟩ := h.cells j u hu
      cases e
      rw [Addr.add_lit]
      exact (((Ch.refl [] w).alloc _).cell (cell_lt hc) (by simp)).trans hc
    have h1 : ∀ u ∈ u32s l, u.oneCell' = true := fun u hu => by
      obtain ⟨r, _, rfl⟩ := List.mem_map.1 hu
      rfl
    have HO := Lib.hid hO; clear hO
    have HN := Lib.hid hN; clear hN h
    have H1 := Lib.hid h1; clear h1
    go_enter Tryz.func20, Tryz.ntmps20
    go_wp2_with (at_builtin; go_loud (refine wpList_append_row slU32 rfl _ _ rfl (v := .slice (some ⟨w.heap.size, 0, none⟩) 0 0) (n := 0) (xs := []) rfl HO.out (ad := p) (m := l.length) (c := c) (news := u32s l) rfl (by simp [u32s]) HN.out H1.out (by omega) (by omega) ?_; intro v' w5 hown hC2 hf2; have HOWN := Lib.hid hown; clear hown; have HC2 := Lib.hid hC2; clear hC2; have HFR := Lib.hid hf2; clear hf2))
    go_ret
    have hown := HOWN.out
    rw [Nat.zero_add, List.nil_append] at hown
    refine ⟨_, rfl, hown, fun k hk => ?_, (((Ch.refl [] w).alloc (.cells #[] 27))).trans HC2.out (by simp)⟩
    rcases HFR.out k (by simpa using hk) with e | e
    · simp at e; omega
    · simp at e; omega
end
theorem rnd_val (k : Nat) : Value.int .i64 ((k : Int) + 1) = .int .i64 ((k + 1 : Nat) : Int) := by rw [Int.natCast_add]; rfl
theorem rnd_meas {N k : Nat} (h : k < N) : N - (intOf (.int .i64 ((k : Int) + 1))).toNat < N - (intOf (.int .i64 (k : Int))).toNat := by simp [intOf]; omega
theorem ws_at2 {ws : List WV} {Ls : List (List Int)} (h : ws.map WV.l = Ls) {k : Nat} {l : List Int} (hl : Ls[k]? = some l) : ∃ xa xc, ws[k]? = some ⟨xa, l, xc⟩ := by
  rw [← h, List.getElem?_map] at hl
  rcases hx : ws[k]? with _ | x
  · rw [hx] at hl; cases hl
  · rw [hx] at hl
    obtain ⟨xa, xl, xc⟩ := x
    cases hl
    exact ⟨xa, xc, rfl⟩
/-- a world of chapter 26's laws, its inputs counted -/
theorem begin26_T (w : World) (n wd v N W V T gd : Nat) (hN : n % 4 + 1 = N) (hW : wd % 3 + 1 = W) (hV : v % 3 + 1 = V) (hT : N * W + W + V + 1 = T) (hgd : 2 * T = gd) :
    Calls Tryz.prog 14 #[.int .u8 n, .int .u8 wd, .int .u8 v] w fun e w' => ∃ (g : Nat) (F : List Nat) (ab ac : Nat) (cs : List Value) (ws : List WV) (wa : Option Addr) (wc : Nat) (ia : Option Addr) (ic : Nat), e = .returned (.tuple #[.agg #[.pointer (some ⟨g, 0, none⟩), .slice (some ⟨ab, 0, none⟩) N ac, .slice wa W wc, .slice ia V ic, .int .i64 (gd : Int)], .bool true]) ∧
      Hold ((w : Base).add ab cs) w' g (gIn 8000 T) F ((ws.map fun x => (WV.val x, WV.l x)) ++ [(.slice wa W wc, natInts (rIn (N * W) W)), (.slice ia V ic, natInts (rIn (N * W + W) V))]) ∧ (∀ (i : Nat) (x : WV), ws[i]? = some x → cs[i]? = some x.val) ∧ ws.map WV.l = wldL N W := by
  refine (begin26_is w n wd v N W V hN hW hV).mono ?_
  rintro e w' ⟨g, F, ab, ac, cs, ws, wa, wc, ia, ic, he, ho, hcs, hws⟩
  refine ⟨g, F, ab, ac, cs, ws, wa, wc, ia, ic, ?_, ?_, hcs, hws⟩
  · rw [he, ← hgd, ← hT]
  · rw [← hT]; exact ho
end Go.Proofs.YtdmmanfjafempaaGreat
namespace Go.Aig
/-- after i swaps -/
def swappedG {α : Type} (l : List α) (i : Nat) (L : List α) : Prop := L.length = l.length ∧ ∀ p, p < l.length → L[p]? = if p < i ∨ l.length - i ≤ p then l[l.length - 1 - p]? else l[p]?
theorem swappedG_zero {α : Type} (l : List α) : swappedG l 0 l := ⟨rfl, fun p hp => by rw [if_neg (by omega)]⟩
theorem swappedG_done {α : Type} {l L : List α} {i : Nat} (h : swappedG l i L) (hi : l.length ≤ 2 * i + 1) : L = l.reverse := by
  apply List.ext_getElem?
  intro p
  by_cases hp : p < l.length
  · rw [h.2 p hp, List.getElem?_reverse hp]
    split
    · rfl
    · have : l.length - 1 - p = p := by omega
      rw [this]
  · rw [List.getElem?_eq_none (by rw [h.1]; omega), List.getElem?_eq_none (by simp; omega)]
theorem swappedG_step {α : Type} {l L : List α} {i : Nat} {x y : α} (h : swappedG l i L) (hi : 2 * i + 1 < l.length) (hx : L[i]? = some x) (hy : L[l.length - 1 - i]? = some y) :
    swappedG l (i + 1) ((L.set i y).set (l.length - 1 - i) x) := by
  refine ⟨by simp [h.1], fun p hp => ?_⟩
  have e1 := h.2 i (by omega)
  rw [if_neg (by omega), hx] at e1
  have e2 := h.2 (l.length - 1 - i) (by omega)
  rw [if_neg (by omega), hy] at e2
  by_cases h1 : p = l.length - 1 - i
  · subst h1
    rw [List.getElem?_set_self (by simp [h.1]; omega), if_pos (by omega)]
    rw [show l.length - 1 - (l.length - 1 - i) = i from by omega]; exact e1
  · rw [List.getElem?_set_ne (by omega)]
    by_cases h2 : p = i
    · subst h2
      rw [List.getElem?_set_self (by rw [h.1]; omega), if_pos (by omega)]; exact e2
    · rw [List.getElem?_set_ne (by omega), h.2 p hp]
      by_cases h3 : p < i ∨ l.length - i ≤ p
      · rw [if_pos h3, if_pos (by omega)]
      · rw [if_neg h3, if_neg (by omega)]
theorem take_eq_succN {xs ys : List Nat} {k x y : Nat} (h : xs.take k = ys.take k) (hx : xs[k]? = some x) (hy : ys[k]? = some y) (e : x = y) : xs.take (k + 1) = ys.take (k + 1) := by
  rw [List.take_add_one, List.take_add_one, h, hx, hy, e]
/-- a slice: its address, length, capacity -/
abbrev SlV := Option Addr × Nat × Nat
def slv (p : SlV) : Value := .slice p.1 p.2.1 p.2.2
def slvs (l : List SlV) : List Value := l.map slv
end Go.Aig
namespace Go.Proofs.YtdmmanfjafempaaGreat
open Go.RowKit Go.Mem Go.Aig
theorem eqSliceNil_CLlst (w : World) (a : Option Addr) (n c : Nat) : (binOp .eql 39 (.slice a n c) (.slice none 0 0)).run Tryz.prog w = .ok (.bool a.isNone) w := by
  have h : Tryz.prog.underlying 39 = some (.slice 40) := Tryz.underlying39
  simp only [binOp]
  simp [run_equal_slice_nil w _ _ a n c h]
section
attribute [local go_sem] eqSliceNil_CLlst
variable {w : World}
set_option maxRecDepth 100000 in
set_option maxHeartbeats 1000000 in
theorem CLlst_is {a : Option Addr} {l : List SlV} (n c : Nat) (hn : l.length = n) (h : Sv w a (slvs l)) (hm : n ≤ 1000000) : Calls Tryz.prog 17 #[.slice a n c] w fun e w' => ∃ v, e = .returned v ∧ row w' 40 1 v n (slvs l) ∧ (∀ q ∈ v.ownBlock.toList, w.heap.size ≤ q) ∧ Ch [] w w' := by
  subst hn
  cases a with
  | none =>
    have hl : l = [] := by
      cases l with
      | nil => rfl
      | cons y l =>
        obtain ⟨b, o, e, _⟩ := h.cells 0 (slv y) rfl
        cases e
    subst hl
    clear h
    go_enter Tryz.func17, Tryz.ntmps17
    go_wp2_with fail
    go_ret
    exact ⟨_, rfl, ⟨rfl, .inl ⟨rfl, rfl⟩⟩, by simp, Ch.refl _ _⟩
  | some p =>
    have hO : row (w.alloc (.cells #[] 40)) 40 1 (.slice (some ⟨w.heap.size, 0, none⟩) 0 0) 0 [] := ⟨rfl, .inr ⟨w.heap.size, 0, #[], rfl, by omega, heap_alloc_new w _, by omega, by unfold maxLen; omega, rfl, rfl⟩⟩
    have hN : ∀ j u, (slvs l)[j]? = some u → (w.alloc (.cells #[] 40)).cell? (p.add j) = some u := fun j u hu => by
      obtain ⟨b, o, e, hc⟩ := h.cells j u hu
      cases e
      rw [Addr.add_lit]
      exact (((Ch.refl [] w).alloc _).cell (cell_lt hc) (by simp)).trans hc
    have h1 : ∀ u ∈ slvs l, u.oneCell' = true := fun u hu => by
      obtain ⟨r, _, rfl⟩ := List.mem_map.1 hu
      rfl
    have HO := Lib.hid hO; clear hO
    have HN := Lib.hid hN; clear hN h
    have H1 := Lib.hid h1; clear h1
    go_enter Tryz.func17, Tryz.ntmps17
    go_wp2_with (at_builtin; go_loud (refine wpList_append_row slRows rfl _ _ rfl (v := .slice (some ⟨w.heap.size, 0, none⟩) 0 0) (n := 0) (xs := []) rfl HO.out (ad := p) (m := l.length) (c := c) (news := slvs l) rfl (by simp [slvs]) HN.out H1.out (by omega) (by omega) ?_; intro v' w5 hown hC2 hf2; have HOWN := Lib.hid hown; clear hown; have HC2 := Lib.hid hC2; clear hC2; have HFR := Lib.hid hf2; clear hf2))
    go_ret
    have hown := HOWN.out
    rw [Nat.zero_add, List.nil_append] at hown
    refine ⟨_, rfl, hown, fun k hk => ?_, (((Ch.refl [] w).alloc (.cells #[] 40))).trans HC2.out (by simp)⟩
    rcases HFR.out k (by simpa using hk) with e | e
    · simp at e; omega
    · simp at e; omega
end
theorem eqSliceNil_CLw32 (w : World) (a : Option Addr) (n c : Nat) : (binOp .eql 57 (.slice a n c) (.slice none 0 0)).run Tryz.prog w = .ok (.bool a.isNone) w := by
  have h : Tryz.prog.underlying 57 = some (.slice 28) := Tryz.underlying57
  simp only [binOp]
  simp [run_equal_slice_nil w _ _ a n c h]
section
attribute [local go_sem] eqSliceNil_CLw32
variable {w : World}
set_option maxRecDepth 100000 in
set_option maxHeartbeats 1000000 in
theorem CLw32_is {a : Option Addr} {l : List Nat} (n c : Nat) (hn : l.length = n) (h : Sv w a (u32s l)) (hm : n ≤ 1000000) : Calls Tryz.prog 25 #[.slice a n c] w fun e w' => ∃ v, e = .returned v ∧ row w' 28 1 v n (u32s l) ∧ (∀ q ∈ v.ownBlock.toList, w.heap.size ≤ q) ∧ Ch [] w w' := by
  subst hn
  cases a with
  | none =>
    have hl : l = [] := by
      cases l with
      | nil => rfl
      | cons y l =>
        obtain ⟨b, o, e, _⟩ := h.cells 0 (.int .u32 y) rfl
        cases e
    subst hl
    clear h
    go_enter Tryz.func25, Tryz.ntmps25
    go_wp2_with fail
    go_ret
    exact ⟨_, rfl, ⟨rfl, .inl ⟨rfl, rfl⟩⟩, by simp, Ch.refl _ _⟩
  | some p =>
    have hO : row (w.alloc (.cells #[] 28)) 28 1 (.slice (some ⟨w.heap.size, 0, none⟩) 0 0) 0 [] := ⟨rfl, .inr ⟨w.heap.size, 0, #[], rfl, by omega, heap_alloc_new w _, by omega, by unfold maxLen; omega, rfl, rfl⟩⟩
    have hN : ∀ j u, (u32s l)[j]? = some u → (w.alloc (.cells #[] 28)).cell? (p.add j) = some u := fun j u hu => by
      obtain ⟨b, o, e, hc⟩ := h.cells j u hu
      cases e
      rw [Addr.add_lit]
      exact (((Ch.refl [] w).alloc _).cell (cell_lt hc) (by simp)).trans hc
    have h1 : ∀ u ∈ u32s l, u.oneCell' = true := fun u hu => by
      obtain ⟨r, _, rfl⟩ := List.mem_map.1 hu
      rfl
    have HO := Lib.hid hO; clear hO
    have HN := Lib.hid hN; clear hN h
    have H1 := Lib.hid h1; clear h1
    go_enter Tryz.func25, Tryz.ntmps25
    go_wp2_with (at_builtin; go_loud (refine wpList_append_row slW32 rfl _ _ rfl (v := .slice (some ⟨w.heap.size, 0, none⟩) 0 0) (n := 0) (xs := []) rfl HO.out (ad := p) (m := l.length) (c := c) (news := u32s l) rfl (by simp [u32s]) HN.out H1.out (by omega) (by omega) ?_; intro v' w5 hown hC2 hf2; have HOWN := Lib.hid hown; clear hown; have HC2 := Lib.hid hC2; clear hC2; have HFR := Lib.hid hf2; clear hf2))
    go_ret
    have hown := HOWN.out
    rw [Nat.zero_add, List.nil_append] at hown
    refine ⟨_, rfl, hown, fun k hk => ?_, (((Ch.refl [] w).alloc (.cells #[] 28))).trans HC2.out (by simp)⟩
    rcases HFR.out k (by simpa using hk) with e | e
    · simp at e; omega
    · simp at e; omega
end
section
variable {w : World}
set_option maxRecDepth 100000 in
set_option maxHeartbeats 1000000 in
theorem Revlst_some {b n cap : Nat} {l : List SlV} (h : row w 40 1 (.slice (some ⟨b, 0, none⟩) n cap) n (slvs l)) (hn : n ≤ 1000000) :
    Calls Tryz.prog 18 #[.slice (some ⟨b, 0, none⟩) n cap] w fun e w' => (∃ v, e = .returned v) ∧ row w' 40 1 (.slice (some ⟨b, 0, none⟩) n cap) n (slvs l.reverse) ∧ Ch [b] w w' := by
  have hl : l.length = n := by have := h.1; simpa [slvs] using this
  have H := Lib.hid h; clear h
  go_enter Tryz.func18, Tryz.ntmps18
  go_wp2_with fail
  go_loopw [2, 3] (fun i j wr => ∃ k : Nat, 2 * k ≤ n + 1 ∧ i = .int .i64 k ∧ j = .int .i64 ((n : Int) - 1 - k) ∧ (∃ L, swappedG l k L ∧ row wr 40 1 (.slice (some ⟨b, 0, none⟩) n cap) n (slvs L)) ∧ Ch [b] w wr) (fun i _ _ => n - (intOf i).toNat)
  case atStart => exact ⟨0, by omega, rfl, by go_num, ⟨l, swappedG_zero l, H.out⟩, Ch.refl _ _⟩
  case round =>
    obtain ⟨k, hk, rfl, rfl, ⟨L, hL, hrow⟩, hc⟩ := hrel
    have HL := Lib.hid hL; clear hL
    have HR := Lib.hid hrow; clear hrow
    have HC := Lib.hid hc; clear hc
    by_cases hlt : 2 * k + 1 < n
    · have ej : (n : Int) - 1 - k = ((n - 1 - k : Nat) : Int) := by omega
      rw [ej]
      have hLl : L.length = n := by rw [HL.out.1, hl]
      have hx : L[k]? = some L[k] := List.getElem?_eq_getElem (by omega)
      have hy : L[n - 1 - k]? = some L[n - 1 - k] := List.getElem?_eq_getElem (by omega)
      generalize L[k] = x at hx
      generalize L[n - 1 - k] = y at hy
      have c1 : wr.cell? ⟨b, k, none⟩ = some (slv x) := by
        have := HR.out.cells (g := b) rfl k (slv x) (by simp [slvs, hx])
        rw [Addr.add_lit] at this; simpa using this
      have c2 : wr.cell? ⟨b, n - 1 - k, none⟩ = some (slv y) := by
        have := HR.out.cells (g := b) rfl (n - 1 - k) (slv y) (by simp [slvs, hy])
        rw [Addr.add_lit] at this; simpa using this
      have f0 : ∀ i, wr.frozen? ⟨b, i, none⟩ = false := fun i => by
        rcases HR.out.2 with ⟨e1, _⟩ | ⟨g, cap', cur, e1, h0, hg, _⟩
        · cases e1
        · cases e1; simp [World.frozen?, hg]
      have f1 := f0 k
      have f2 := f0 (n - 1 - k)
      have hne : ¬ n - 1 - k = k := by omega
      have hne' : ¬ k = n - 1 - k := by omega
      have hd : decide ((k : Int) < ((n - 1 - k : Nat) : Int)) = true := decide_eq_true (by omega)
      have hst := swappedG_step HL.out (by omega) hx (by rw [hl]; exact hy)
      have HST := Lib.hid hst; clear hst
      clear f0
      obtain ⟨xa, xn, xc⟩ := x
      obtain ⟨ya, yn, yc⟩ := y
      simp only [slv] at c1 c2
      go_wp2_with fail
      refine Ord.St.door (fun _ => True) [.fl, .fl, .fl, .fl, .fl, .fl, .fl, .rd, .fl, .fl, .fl, .rd, .fl, .ef, .fl, .ef] [0, 0, 0, 0, 0, 0, 48, 112, 0, 0, 768, 1792, 4083, 8179, 16383, 32767] [0, 1, 2, 3, 4, 5, 6, 7, 8, 9, 10, 11, 12, 13, 14, 15] mixed (by kernel_rfl) rfl ?_
      refine Ord.St.fl2 (T' := ?_) 0 [1, 2, 3, 4, 5, 6, 7, 8, 9, 10, 11, 12, 13, 14, 15] _ _ rfl (by kernel_rfl) rfl rfl rfl rfl (fun K w' hk => ?_) ?_
      rotate_left
      · go_step; exact hk
      refine Ord.St.fl2 (T' := ?_) 1 [2, 3, 4, 5, 6, 7, 8, 9, 10, 11, 12, 13, 14, 15] _ _ rfl (by kernel_rfl) rfl rfl rfl rfl (fun K w' hk => ?_) ?_
      rotate_left
      · go_step; exact hk
      refine Ord.St.fl2 (T' := ?_) 2 [3, 4, 5, 6, 7, 8, 9, 10, 11, 12, 13, 14, 15] _ _ rfl (by kernel_rfl) rfl rfl rfl rfl (fun K w' hk => ?_) ?_
      rotate_left
      · go_step; exact hk
      refine Ord.St.fl2 (T' := ?_) 3 [4, 5, 6, 7, 8, 9, 10, 11, 12, 13, 14, 15] _ _ rfl (by kernel_rfl) rfl rfl rfl rfl (fun K w' hk => ?_) ?_
      rotate_left
      · go_step; exact hk
      refine Ord.St.fl2 (T' := ?_) 4 [5, 6, 7, 8, 9, 10, 11, 12, 13, 14, 15] _ _ rfl (by kernel_rfl) rfl rfl rfl rfl (fun K w' hk => ?_) ?_
      rotate_left
      · go_step; exact hk
      refine Ord.St.fl2 (T' := ?_) 5 [6, 7, 8, 9, 10, 11, 12, 13, 14, 15] _ _ rfl (by kernel_rfl) rfl rfl rfl rfl (fun K w' hk => ?_) ?_
      rotate_left
      · go_step; exact hk
      refine Ord.St.fl2 (T' := ?_) 6 [7, 8, 9, 10, 11, 12, 13, 14, 15] _ _ rfl (by kernel_rfl) rfl rfl rfl rfl (fun K w' hk => ?_) ?_
      rotate_left
      · go_step; exact hk
      refine Ord.St.rd2 (T' := ?_) 7 [8, 9, 10, 11, 12, 13, 14, 15] _ _ rfl (by kernel_rfl) rfl rfl rfl rfl (fun K hk => ?_) ?_
      rotate_left
      · go_step; exact hk
      refine Ord.St.fl2 (T' := ?_) 8 [9, 10, 11, 12, 13, 14, 15] _ _ rfl (by kernel_rfl) rfl rfl rfl rfl (fun K w' hk => ?_) ?_
      rotate_left
      · go_step; exact hk
      refine Ord.St.fl2 (T' := ?_) 9 [10, 11, 12, 13, 14, 15] _ _ rfl (by kernel_rfl) rfl rfl rfl rfl (fun K w' hk => ?_) ?_
      rotate_left
      · go_step; exact hk
      refine Ord.St.fl2 (T' := ?_) 10 [11, 12, 13, 14, 15] _ _ rfl (by kernel_rfl) rfl rfl rfl rfl (fun K w' hk => ?_) ?_
      rotate_left
      · go_step; exact hk
      refine Ord.St.rd2 (T' := ?_) 11 [12, 13, 14, 15] _ _ rfl (by kernel_rfl) rfl rfl rfl rfl (fun K hk => ?_) ?_
      rotate_left
      · go_step; exact hk
      refine Ord.St.fl2 (T' := ?_) 12 [13, 14, 15] _ _ rfl (by kernel_rfl) rfl rfl rfl rfl (fun K w' hk => ?_) ?_
      rotate_left
      · go_step; exact hk
      refine Ord.St.ef 13 [14, 15] _ rfl (by kernel_rfl) (fun K hK => ?_)
      go_wp2_with fail
      refine ⟨rfl, hK _ _ ?_⟩; clear hK K
      refine Ord.St.fl2 (T' := ?_) 14 [15] _ _ rfl (by kernel_rfl) rfl rfl rfl rfl (fun K w' hk => ?_) ?_
      rotate_left
      · go_step; exact hk
      refine Ord.St.ef 15 [] _ rfl (by kernel_rfl) (fun K hK => ?_)
      go_wp2_with fail
      refine ⟨rfl, hK _ _ ?_⟩; clear hK K
      refine Ord.St.nil ?_
      go_wp2_with fail
      go_roundw
      case rel =>
        refine ⟨k + 1, by omega, by go_num, by go_num, ⟨_, HST.out, ?_⟩, ((HC.out.setCell (by simp) _).setCell (by simp) _).drew⟩
        rw [hl]
        have := row.set (i := n - 1 - k) (row.set (i := k) HR.out (slv ⟨ya, yn, yc⟩)) (slv ⟨xa, xn, xc⟩)
        simp only [slvs, List.map_set] at this ⊢
        exact this
      case measure => simp [intOf]; omega
    · have hd : decide ((k : Int) < (n : Int) - 1 - k) = false := decide_eq_false (by omega)
      go_wp2_with fail
      go_end0
      rw [← swappedG_done HL.out (by omega)]
      exact ⟨⟨_, rfl⟩, HR.out, HC.out⟩
set_option maxRecDepth 100000 in
set_option maxHeartbeats 1000000 in
theorem Revw32_some {b n cap : Nat} {l : List Nat} (h : row w 28 1 (.slice (some ⟨b, 0, none⟩) n cap) n (u32s l)) (hn : n ≤ 1000000) :
    Calls Tryz.prog 26 #[.slice (some ⟨b, 0, none⟩) n cap] w fun e w' => (∃ v, e = .returned v) ∧ row w' 28 1 (.slice (some ⟨b, 0, none⟩) n cap) n (u32s l.reverse) ∧ Ch [b] w w' := by
  have hl : l.length = n := by have := h.1; simpa [u32s] using this
  have H := Lib.hid h; clear h
  go_enter Tryz.func26, Tryz.ntmps26
  go_wp2_with fail
  go_loopw [2, 3] (fun i j wr => ∃ k : Nat, 2 * k ≤ n + 1 ∧ i = .int .i64 k ∧ j = .int .i64 ((n : Int) - 1 - k) ∧ (∃ L, swappedG l k L ∧ row wr 28 1 (.slice (some ⟨b, 0, none⟩) n cap) n (u32s L)) ∧ Ch [b] w wr) (fun i _ _ => n - (intOf i).toNat)
  case atStart => exact ⟨0, by omega, rfl, by go_num, ⟨l, swappedG_zero l, H.out⟩, Ch.refl _ _⟩
  case round =>
    obtain ⟨k, hk, rfl, rfl, ⟨L, hL, hrow⟩, hc⟩ := hrel
    have HL := Lib.hid hL; clear hL
    have HR := Lib.hid hrow; clear hrow
    have HC := Lib.hid hc; clear hc
    by_cases hlt : 2 * k + 1 < n
    · have ej : (n : Int) - 1 - k = ((n - 1 - k : Nat) : Int) := by omega
      rw [ej]
      have hLl : L.length = n := by rw [HL.out.1, hl]
      have hx : L[k]? = some L[k] := List.getElem?_eq_getElem (by omega)
      have hy : L[n - 1 - k]? = some L[n - 1 - k] := List.getElem?_eq_getElem (by omega)
      generalize L[k] = x at hx
      generalize L[n - 1 - k] = y at hy
      have c1 : wr.cell? ⟨b, k, none⟩ = some (.int .u32 x) := by
        have := HR.out.cells (g := b) rfl k (.int .u32 x) (by simp [u32s, hx])
        rw [Addr.add_lit] at this; simpa using this
      have c2 : wr.cell? ⟨b, n - 1 - k, none⟩ = some (.int .u32 y) := by
        have := HR.out.cells (g := b) rfl (n - 1 - k) (.int .u32 y) (by simp [u32s, hy])
        rw [Addr.add_lit] at this; simpa using this
      have f0 : ∀ i, wr.frozen? ⟨b, i, none⟩ = false := fun i => by
        rcases HR.out.2 with ⟨e1, _⟩ | ⟨g, cap', cur, e1, h0, hg, _⟩
        · cases e1
        · cases e1; simp [World.frozen?, hg]
      have f1 := f0 k
      have f2 := f0 (n - 1 - k)
      have hne : ¬ n - 1 - k = k := by omega
      have hne' : ¬ k = n - 1 - k := by omega
      have hd : decide ((k : Int) < ((n - 1 - k : Nat) : Int)) = true := decide_eq_true (by omega)
      have hst := swappedG_step HL.out (by omega) hx (by rw [hl]; exact hy)
      have HST := Lib.hid hst; clear hst
      clear f0
      go_wp2_with fail
      refine Ord.St.door (fun _ => True) [.fl, .fl, .fl, .fl, .fl, .fl, .fl, .rd, .fl, .fl, .fl, .rd, .fl, .ef, .fl, .ef] [0, 0, 0, 0, 0, 0, 48, 112, 0, 0, 768, 1792, 4083, 8179, 16383, 32767] [0, 1, 2, 3, 4, 5, 6, 7, 8, 9, 10, 11, 12, 13, 14, 15] mixed (by kernel_rfl) rfl ?_
      refine Ord.St.fl2 (T' := ?_) 0 [1, 2, 3, 4, 5, 6, 7, 8, 9, 10, 11, 12, 13, 14, 15] _ _ rfl (by kernel_rfl) rfl rfl rfl rfl (fun K w' hk => ?_) ?_
      rotate_left
      · go_step; exact hk
      refine Ord.St.fl2 (T' := ?_) 1 [2, 3, 4, 5, 6, 7, 8, 9, 10, 11, 12, 13, 14, 15] _ _ rfl (by kernel_rfl) rfl rfl rfl rfl (fun K w' hk => ?_) ?_
      rotate_left
      · go_step; exact hk
      refine Ord.St.fl2 (T' := ?_) 2 [3, 4, 5, 6, 7, 8, 9, 10, 11, 12, 13, 14, 15] _ _ rfl (by kernel_rfl) rfl rfl rfl rfl (fun K w' hk => ?_) ?_
      rotate_left
      · go_step; exact hk
      refine Ord.St.fl2 (T' := ?_) 3 [4, 5, 6, 7, 8, 9, 10, 11, 12, 13, 14, 15] _ _ rfl (by kernel_rfl) rfl rfl rfl rfl (fun K w' hk => ?_) ?_
      rotate_left
      · go_step; exact hk
      refine Ord.St.fl2 (T' := ?_) 4 [5, 6, 7, 8, 9, 10, 11, 12, 13, 14, 15] _ _ rfl (by kernel_rfl) rfl rfl rfl rfl (fun K w' hk => ?_) ?_
      rotate_left
      · go_step; exact hk
      refine Ord.St.fl2 (T' := ?_) 5 [6, 7, 8, 9, 10, 11, 12, 13, 14, 15] _ _ rfl (by kernel_rfl) rfl rfl rfl rfl (fun K w' hk => ?_) ?_
      rotate_left
      · go_step; exact hk
      refine Ord.St.fl2 (T' := ?_) 6 [7, 8, 9, 10, 11, 12, 13, 14, 15] _ _ rfl (by kernel_rfl) rfl rfl rfl rfl (fun K w' hk => ?_) ?_
      rotate_left
      · go_step; exact hk
      refine Ord.St.rd2 (T' := ?_) 7 [8, 9, 10, 11, 12, 13, 14, 15] _ _ rfl (by kernel_rfl) rfl rfl rfl rfl (fun K hk => ?_) ?_
      rotate_left
      · go_step; exact hk
      refine Ord.St.fl2 (T' := ?_) 8 [9, 10, 11, 12, 13, 14, 15] _ _ rfl (by kernel_rfl) rfl rfl rfl rfl (fun K w' hk => ?_) ?_
      rotate_left
      · go_step; exact hk
      refine Ord.St.fl2 (T' := ?_) 9 [10, 11, 12, 13, 14, 15] _ _ rfl (by kernel_rfl) rfl rfl rfl rfl (fun K w' hk => ?_) ?_
      rotate_left
      · go_step; exact hk
      refine Ord.St.fl2 (T' := ?_) 10 [11, 12, 13, 14, 15] _ _ rfl (by kernel_rfl) rfl rfl rfl rfl (fun K w' hk => ?_) ?_
      rotate_left
      · go_step; exact hk
      refine Ord.St.rd2 (T' := ?_) 11 [12, 13, 14, 15] _ _ rfl (by kernel_rfl) rfl rfl rfl rfl (fun K hk => ?_) ?_
      rotate_left
      · go_step; exact hk
      refine Ord.St.fl2 (T' := ?_) 12 [13, 14, 15] _ _ rfl (by kernel_rfl) rfl rfl rfl rfl (fun K w' hk => ?_) ?_
      rotate_left
      · go_step; exact hk
      refine Ord.St.ef 13 [14, 15] _ rfl (by kernel_rfl) (fun K hK => ?_)
      go_wp2_with fail
      refine ⟨rfl, hK _ _ ?_⟩; clear hK K
      refine Ord.St.fl2 (T' := ?_) 14 [15] _ _ rfl (by kernel_rfl) rfl rfl rfl rfl (fun K w' hk => ?_) ?_
      rotate_left
      · go_step; exact hk
      refine Ord.St.ef 15 [] _ rfl (by kernel_rfl) (fun K hK => ?_)
      go_wp2_with fail
      refine ⟨rfl, hK _ _ ?_⟩; clear hK K
      refine Ord.St.nil ?_
      go_wp2_with fail
      go_roundw
      case rel =>
        refine ⟨k + 1, by omega, by go_num, by go_num, ⟨_, HST.out, ?_⟩, ((HC.out.setCell (by simp) _).setCell (by simp) _).drew⟩
        rw [hl]
        have := row.set (i := n - 1 - k) (row.set (i := k) HR.out (.int .u32 y)) (.int .u32 x)
        simp only [u32s, List.map_set] at this ⊢
        exact this
      case measure => simp [intOf]; omega
    · have hd : decide ((k : Int) < (n : Int) - 1 - k) = false := decide_eq_false (by omega)
      go_wp2_with fail
      go_end0
      rw [← swappedG_done HL.out (by omega)]
      exact ⟨⟨_, rfl⟩, HR.out, HC.out⟩
set_option maxRecDepth 100000 in
set_option maxHeartbeats 1000000 in
theorem Eqw32_is {a b : Option Addr} {xs ys : List Nat} (ca cb : Nat) (hx : Sv w a (u32s xs)) (hy : Sv w b (u32s ys)) :
    Calls Tryz.prog 27 #[.slice a xs.length ca, .slice b ys.length cb] w fun e w' => e = .returned (.bool (decide (xs = ys))) ∧ Ch [] w w' := by
  have hbx : xs.length ≤ 9223372036854775807 := by have := hx.bd; simpa [u32s] using this
  have hby : ys.length ≤ 9223372036854775807 := by have := hy.bd; simpa [u32s] using this
  have HX := Lib.hid hx; clear hx
  have HY := Lib.hid hy; clear hy
  by_cases hl : xs.length = ys.length
  · have hne : ((xs.length : Int) != (ys.length : Int)) = false := by simp [hl]
    generalize hd : decide (xs = ys) = d
    have HD := Lib.hid hd; clear hd
    have HL := Lib.hid hl; clear hl
    go_enter Tryz.func27, Tryz.ntmps27
    go_wp2_with fail
    go_loopw [13] (fun i wr => ∃ k : Nat, k ≤ xs.length ∧ i = .int .i64 k ∧ xs.take k = ys.take k ∧ Ch [] w wr) (fun i _ => xs.length - (intOf i).toNat)
    case atStart => exact ⟨0, Nat.zero_le _, rfl, rfl, Ch.refl _ _⟩
    case round =>
      obtain ⟨k, hk, rfl, ht, hc⟩ := hrel
      have HT := Lib.hid ht; clear ht
      by_cases hlt : k < xs.length
      · have hlt2 : k < ys.length := by have := HL.out; omega
        have hxk : xs[k]? = some xs[k] := List.getElem?_eq_getElem hlt
        have hyk : ys[k]? = some ys[k] := List.getElem?_eq_getElem hlt2
        obtain ⟨b1, o1, rfl, c1⟩ := (HX.out.ch hc (by simp)).cells k _ (u32s_get hxk)
        obtain ⟨b2, o2, rfl, c2⟩ := (HY.out.ch hc (by simp)).cells k _ (u32s_get hyk)
        generalize xs[k] = x at *
        generalize ys[k] = y at *
        have HXK := Lib.hid hxk; clear hxk
        have HYK := Lib.hid hyk; clear hyk
        have HC := Lib.hid hc; clear hc
        by_cases hxy : x = y
        · have hb : ((x : Int) != (y : Int)) = false := by simp [hxy]
          have HE := Lib.hid hxy; clear hxy
          go_wp2_with fail
          refine Ord.St.door (fun _ => True) [.fl, .fl, .fl, .rd, .fl, .fl, .fl, .rd, .fl] [0, 0, 3, 7, 0, 0, 48, 112, 255] [0, 1, 2, 3, 4, 5, 6, 7, 8] mixed (by kernel_rfl) rfl ?_
          refine Ord.St.fl2 (T' := ?_) 0 [1, 2, 3, 4, 5, 6, 7, 8] _ _ rfl (by kernel_rfl) rfl rfl rfl rfl (fun K w' hk => ?_) ?_
          rotate_left
          · go_step; exact hk
          refine Ord.St.fl2 (T' := ?_) 1 [2, 3, 4, 5, 6, 7, 8] _ _ rfl (by kernel_rfl) rfl rfl rfl rfl (fun K w' hk => ?_) ?_
          rotate_left
          · go_step; exact hk
          refine Ord.St.fl2 (T' := ?_) 2 [3, 4, 5, 6, 7, 8] _ _ rfl (by kernel_rfl) rfl rfl rfl rfl (fun K w' hk => ?_) ?_
          rotate_left
          · go_step; exact hk
          refine Ord.St.rd2 (T' := ?_) 3 [4, 5, 6, 7, 8] _ _ rfl (by kernel_rfl) rfl rfl rfl rfl (fun K hk => ?_) ?_
          rotate_left
          · go_step; exact hk
          refine Ord.St.fl2 (T' := ?_) 4 [5, 6, 7, 8] _ _ rfl (by kernel_rfl) rfl rfl rfl rfl (fun K w' hk => ?_) ?_
          rotate_left
          · go_step; exact hk
          refine Ord.St.fl2 (T' := ?_) 5 [6, 7, 8] _ _ rfl (by kernel_rfl) rfl rfl rfl rfl (fun K w' hk => ?_) ?_
          rotate_left
          · go_step; exact hk
          refine Ord.St.fl2 (T' := ?_) 6 [7, 8] _ _ rfl (by kernel_rfl) rfl rfl rfl rfl (fun K w' hk => ?_) ?_
          rotate_left
          · go_step; exact hk
          refine Ord.St.rd2 (T' := ?_) 7 [8] _ _ rfl (by kernel_rfl) rfl rfl rfl rfl (fun K hk => ?_) ?_
          rotate_left
          · go_step; exact hk
          refine Ord.St.fl2 (T' := ?_) 8 [] _ _ rfl (by kernel_rfl) rfl rfl rfl rfl (fun K w' hk => ?_) ?_
          rotate_left
          · go_step; exact hk
          refine Ord.St.nil ?_
          go_wp2_with fail
          go_roundw
          case rel => exact ⟨k + 1, by omega, by go_num, take_eq_succN HT.out HXK.out HYK.out HE.out, HC.out.drew⟩
          case measure => simp [intOf]; omega
        · have hb : ((x : Int) != (y : Int)) = true := by rw [bne_iff_ne]; omega
          have hdf : d = false := by
            rw [← HD.out]
            refine decide_eq_false fun e => hxy ?_
            have h1 := HXK.out
            rw [e, HYK.out] at h1
            cases h1; rfl
          have HDF := Lib.hid hdf; clear hdf
          clear hxy
          go_wp2_with fail
          refine Ord.St.door (fun _ => True) [.fl, .fl, .fl, .rd, .fl, .fl, .fl, .rd, .fl] [0, 0, 3, 7, 0, 0, 48, 112, 255] [0, 1, 2, 3, 4, 5, 6, 7, 8] mixed (by kernel_rfl) rfl ?_
          refine Ord.St.fl2 (T' := ?_) 0 [1, 2, 3, 4, 5, 6, 7, 8] _ _ rfl (by kernel_rfl) rfl rfl rfl rfl (fun K w' hk => ?_) ?_
          rotate_left
          · go_step; exact hk
          refine Ord.St.fl2 (T' := ?_) 1 [2, 3, 4, 5, 6, 7, 8] _ _ rfl (by kernel_rfl) rfl rfl rfl rfl (fun K w' hk => ?_) ?_
          rotate_left
          · go_step; exact hk
          refine Ord.St.fl2 (T' := ?_) 2 [3, 4, 5, 6, 7, 8] _ _ rfl (by kernel_rfl) rfl rfl rfl rfl (fun K w' hk => ?_) ?_
          rotate_left
          · go_step; exact hk
          refine Ord.St.rd2 (T' := ?_) 3 [4, 5, 6, 7, 8] _ _ rfl (by kernel_rfl) rfl rfl rfl rfl (fun K hk => ?_) ?_
          rotate_left
          · go_step; exact hk
          refine Ord.St.fl2 (T' := ?_) 4 [5, 6, 7, 8] _ _ rfl (by kernel_rfl) rfl rfl rfl rfl (fun K w' hk => ?_) ?_
          rotate_left
          · go_step; exact hk
          refine Ord.St.fl2 (T' := ?_) 5 [6, 7, 8] _ _ rfl (by kernel_rfl) rfl rfl rfl rfl (fun K w' hk => ?_) ?_
          rotate_left
          · go_step; exact hk
          refine Ord.St.fl2 (T' := ?_) 6 [7, 8] _ _ rfl (by kernel_rfl) rfl rfl rfl rfl (fun K w' hk => ?_) ?_
          rotate_left
          · go_step; exact hk
          refine Ord.St.rd2 (T' := ?_) 7 [8] _ _ rfl (by kernel_rfl) rfl rfl rfl rfl (fun K hk => ?_) ?_
          rotate_left
          · go_step; exact hk
          refine Ord.St.fl2 (T' := ?_) 8 [] _ _ rfl (by kernel_rfl) rfl rfl rfl rfl (fun K w' hk => ?_) ?_
          rotate_left
          · go_step; exact hk
          refine Ord.St.nil ?_
          go_wp2_with fail
          go_ret
          rw [HDF.out]
          exact ⟨rfl, HC.out.drew⟩
      · have hdt : d = true := by
          rw [← HD.out]
          have h1 := HT.out
          rw [List.take_of_length_le (by omega), List.take_of_length_le (by have := HL.out; omega)] at h1
          exact decide_eq_true h1
        have HDT := Lib.hid hdt; clear hdt
        have HC := Lib.hid hc; clear hc
        go_wp2_with fail
        go_ret
        rw [HDT.out]
        exact ⟨rfl, HC.out⟩
  · have hne : ((xs.length : Int) != (ys.length : Int)) = true := by rw [bne_iff_ne]; omega
    have hd : decide (xs = ys) = false := decide_eq_false fun e => hl (by rw [e])
    rw [hd]
    clear hd
    go_enter Tryz.func27, Tryz.ntmps27
    go_wp2_with fail
    go_ret
    exact ⟨rfl, Ch.refl _ _⟩
end
end Go.Proofs.YtdmmanfjafempaaGreat
namespace Go.Aig
theorem bits_in (env : Nat → Bool) {T s k : Nat} {G : Gra} (hx : Ext (gIn 8000 T) G) (h : s + k ≤ T) : bitsVal ((rIn s k).map (bv env G.nodes)) = nbE env s k := by
  rw [← bv_in env h]
  exact congrArg bitsVal (List.map_congr_left fun r hr => bv_of env hx (rIn_lt2 h r hr))
theorem num_in (env : Nat → Bool) {T s k : Nat} {G : Gra} (hx : Ext (gIn 8000 T) G) (h : s + k ≤ T) : numW env G.nodes (rIn s k) = nbE env s k := bits_in env hx h
theorem bv_gd (env : Nat → Bool) {T i : Nat} {G : Gra} (hx : Ext (gIn 8000 T) G) (h : i < T) : bv env G.nodes (2 * (i + 1)) = env i := by
  rw [bv_of env hx (by simp [gIn]; omega)]
  exact bv_gIn 8000 env T i h
theorem ValsL.wr {G G' : Gra} {k : Nat} {ls L : List (List Nat)} {c : Nat} {y x : List Nat} (q : ValsL (G, 0) k ((G', 0), ls) (fun env => if bv env G.nodes c = true ∧ numW env G.nodes y < L.length then (L.map fun l => l.map (bv env G.nodes)).set (numW env G.nodes y) (x.map (bv env G.nodes)) else L.map fun l => l.map (bv env G.nodes)))
    (hn : ls.length = L.length) (env : Nat → Bool) {i : Nat} {l : List Nat} (hl : ls[i]? = some l) : l.map (bv env G'.nodes) = if bv env G.nodes c = true ∧ numW env G.nodes y = i then x.map (bv env G.nodes) else (L.getD i []).map (bv env G.nodes) := by
  have hi : i < L.length := by have := (List.getElem?_eq_some_iff.1 hl).1; omega
  have v := congrArg (fun z => z[i]?) (q.val env)
  simp only [List.getElem?_map, hl, Option.map_some] at v
  have ea : (L.map fun l => l.map (bv env G.nodes))[i]? = some ((L.getD i []).map (bv env G.nodes)) := by
    rw [List.getElem?_map, List.getD_eq_getElem?_getD, List.getElem?_eq_getElem hi]; rfl
  generalize numW env G.nodes y = a at *
  by_cases hg : bv env G.nodes c = true
  · by_cases hai : a = i
    · subst hai
      rw [if_pos ⟨hg, hi⟩, List.getElem?_set, if_pos rfl, if_pos (by simpa using hi)] at v
      rw [if_pos ⟨hg, rfl⟩]
      exact Option.some.inj v
    · rw [if_neg (by simp [hai])]
      split at v
      · rw [List.getElem?_set, if_neg hai, ea] at v
        exact Option.some.inj v
      · rw [ea] at v
        exact Option.some.inj v
  · rw [if_neg (by simp [hg])] at v ⊢
    rw [ea] at v
    exact Option.some.inj v
structure BackF (N W V T : Nat) (G1 G2 G3 G4 G5 : Gra) (l1 : List (List Nat)) (lb lq : List Nat) (l2 : List (List Nat)) (ll : List Nat) : Prop where
  r1 : writeG (gIn 8000 (T + V + W)) (wldL N W) ((2 * T : Nat) : Int) (natInts (rIn (N * W + W) V)) (natInts (rIn (N * W) W)) = (G1, l1, 0)
  r2 : readG G1 (l1.map natInts) (natInts (rIn T V)) = (G2, lb, 0)
  r3 : readG G2 (wldL N W) (natInts (rIn T V)) = (G3, lq, 0)
  r4 : writeG G3 (l1.map natInts) 1 (natInts (rIn (N * W + W) V)) (natInts (rIn (T + V) W)) = (G4, l2, 0)
  r5 : readG G4 (l2.map natInts) (natInts (rIn (N * W + W) V)) = (G5, ll, 0)
  n1 : l1.length = N
  n1w : ∀ l ∈ l1, l.length = W
  nb : lb.length = W
  nq : lq.length = W
  n2 : l2.length = N
  n2w : ∀ l ∈ l2, l.length = W
  nl : ll.length = W
  g0 : ∀ x, x < 2 * (gIn 8000 (T + V + W)).nodes.length → x < 2 * G5.nodes.length
  gb : ∀ x ∈ lb, x < 2 * G5.nodes.length
  gq : ∀ x ∈ lq, x < 2 * G5.nodes.length
  gl : ∀ x ∈ ll, x < 2 * G5.nodes.length
  ok : Ok G5
  sm1 : ∀ l ∈ l1, ∀ x ∈ l, x ≤ 1000000
  sm2 : ∀ l ∈ l2, ∀ x ∈ l, x ≤ 1000000
  smb : ∀ x ∈ lb, x ≤ 1000000
  smq : ∀ x ∈ lq, x ≤ 1000000
  sml : ∀ x ∈ ll, x ≤ 1000000
  ins : (inputs G5.nodes).length = T + V + W
  va : ∀ env, bitsVal ((rIn T V).map (bv env G5.nodes)) = nbE env T V
  vn : ∀ env, bitsVal ((rIn (T + V) W).map (bv env G5.nodes)) = nbE env (T + V) W
  vb : ∀ env, bitsVal (lb.map (bv env G5.nodes)) = if env (T - 1) = true ∧ nbE env T V = nbE env (N * W + W) V ∧ nbE env (N * W + W) V < N then nbE env (N * W) W else bitsVal (lq.map (bv env G5.nodes))
  vl : ∀ env, bitsVal (ll.map (bv env G5.nodes)) = if nbE env (N * W + W) V < N then nbE env (T + V) W else 0
theorem back_facts {N W V T : Nat} (hN : 1 ≤ N ∧ N ≤ 4) (hW : 1 ≤ W ∧ W ≤ 3) (hV : 1 ≤ V ∧ V ≤ 3) (hT : T = N * W + W + V + 1) (hG : Ok (gIn 8000 (T + V + W))) : ∃ G1 G2 G3 G4 G5 l1 lb lq l2 ll, BackF N W V T G1 G2 G3 G4 G5 l1 lb lq l2 ll := by
  have hNW : N * W ≤ 12 := Nat.mul_le_mul hN.2 hW.2
  have hmr : N * (4 * V + 3 * W) ≤ 84 := Nat.mul_le_mul hN.2 (by omega : 4 * V + 3 * W ≤ 21)
  have hmw : N * (4 * V + 1 + 3 * W) ≤ 88 := Nat.mul_le_mul hN.2 (by omega : 4 * V + 1 + 3 * W ≤ 22)
  obtain ⟨S, hS⟩ : ∃ S, T + V + W = S := ⟨_, rfl⟩
  rw [hS] at hG
  have hlen : (gIn 8000 S).nodes.length = S + 1 := by simp [gIn]
  have hmost : (gIn 8000 S).most = 8000 := rfl
  have hW0 : Wds (gIn 8000 S) W (arrL N W) := arrL_wds hW.1 (by omega) (by omega)
  have hL := arrL_len N W
  have hyr : ∀ r ∈ rIn (N * W + W) V, r < 2 * (gIn 8000 S).nodes.length := rIn_lt2 (by omega)
  have hzr : ∀ r ∈ rIn T V, r < 2 * (gIn 8000 S).nodes.length := rIn_lt2 (by omega)
  have hxr : ∀ r ∈ rIn (N * W) W, r < 2 * (gIn 8000 S).nodes.length := rIn_lt2 (by omega)
  have hvr : ∀ r ∈ rIn (T + V) W, r < 2 * (gIn 8000 S).nodes.length := rIn_lt2 (by omega)
  have hcr : 2 * T < 2 * (gIn 8000 S).nodes.length := by omega
  obtain ⟨G1, l1, e1, n1, n1w, q1⟩ := writeG_vals (G := gIn 8000 S) (L := arrL N W) (n := V) (width := W) (c := 2 * T) (x := rIn (N * W) W) (y := rIn (N * W + W) V) hG hW0 (by omega) (by omega) (by simp [rIn]) hV.1 (by omega) hyr hcr (by simp [rIn]) hxr (by rw [hL]; omega)
  have q1r := q1.ran
  rw [hL] at q1r n1
  have x1 := q1r.ext
  have z1 := q1r.len
  have t1 := x1.most
  simp only at x1 z1 t1
  have hW1 : Wds G1 W l1 := ⟨fun l hl => ⟨n1w l hl, q1.lt l hl⟩, hW.1, by omega⟩
  obtain ⟨G2, lb, e2, nb, q2⟩ := readG_vals (G := G1) (L := l1) (n := V) (width := W) (y := rIn T V) q1.ran.ok hW1 (by omega) (by omega) (by simp [rIn]) hV.1 (by omega) (fun r h => x1.lt (hzr r h)) (by rw [n1]; omega)
  have q2r := q2.ran
  rw [n1] at q2r
  have x2 := q2r.ext
  have z2 := q2r.len
  have t2 := x2.most
  simp only at x2 z2 t2
  have x02 := x1.trans x2
  obtain ⟨G3, lq, e3, nq, q3⟩ := readG_vals (G := G2) (L := arrL N W) (n := V) (width := W) (y := rIn T V) q2.ran.ok (hW0.ext x02) (by omega) (by omega) (by simp [rIn]) hV.1 (by omega) (fun r h => x02.lt (hzr r h)) (by rw [hL]; omega)
  have q3r := q3.ran
  rw [hL] at q3r
  have x3 := q3r.ext
  have z3 := q3r.len
  have t3 := x3.most
  simp only at x3 z3 t3
  have x03 := x02.trans x3
  have x13 := x2.trans x3
  obtain ⟨G4, l2, e4, n2, n2w, q4⟩ := writeG_vals (G := G3) (L := l1) (n := V) (width := W) (c := 1) (x := rIn (T + V) W) (y := rIn (N * W + W) V) q3.ran.ok (hW1.ext x13) (by omega) (by omega) (by simp [rIn]) hV.1 (by omega) (fun r h => x03.lt (hyr r h)) (by have := q3.ran.ok.wf.pos; simp only at this; omega) (by simp [rIn]) (fun r h => x03.lt (hvr r h)) (by rw [n1]; omega)
  have q4r := q4.ran
  rw [n1] at q4r n2
  have x4 := q4r.ext
  have z4 := q4r.len
  have t4 := x4.most
  simp only at x4 z4 t4
  have x04 := x03.trans x4
  have hW2 : Wds G4 W l2 := ⟨fun l hl => ⟨n2w l hl, q4.lt l hl⟩, hW.1, by omega⟩
  obtain ⟨G5, ll, e5, nl, q5⟩ := readG_vals (G := G4) (L := l2) (n := V) (width := W) (y := rIn (N * W + W) V) q4.ran.ok hW2 (by omega) (by omega) (by simp [rIn]) hV.1 (by omega) (fun r h => x04.lt (hyr r h)) (by rw [n2]; omega)
  have x5 := q5.ran.ext
  simp only at x5
  have x05 := x04.trans x5
  have x25 := (x3.trans x4).trans x5
  have x35 := x4.trans x5
  have hv : ∀ {G : Gra}, Ext G G5 → ∀ (env : Nat → Bool) (l : List Nat), (∀ r ∈ l, r < 2 * G.nodes.length) → l.map (bv env G5.nodes) = l.map (bv env G.nodes) := fun hx env l hl => List.map_congr_left fun r hr => bv_of env hx (hl r hr)
  refine ⟨G1, G2, G3, G4, G5, l1, lb, lq, l2, ll, ?_, e2, ?_, ?_, e5, n1, n1w, nb, nq, n2, n2w, nl, fun x hx => x05.lt (by rw [hS] at hx; exact hx), fun x h => x25.lt (q2.lt x h), fun x h => x35.lt (q3.lt x h), q5.lt, q5.ran.ok, fun l hl => refs_le q1.ran.ok (q1.lt l hl), fun l hl => refs_le q4.ran.ok (q4.lt l hl), refs_le q2.ran.ok q2.lt, refs_le q3.ran.ok q3.lt, refs_le q5.ran.ok q5.lt, ?_, fun env => ?_, fun env => ?_, fun env => ?_, fun env => ?_⟩
  · rw [hS, wldL_arr]; exact e1
  · rw [wldL_arr]; exact e3
  · exact e4
  · have h1 := q1.ran.noin.inputs
    have h2 := q2.ran.noin.inputs
    have h3 := q3.ran.noin.inputs
    have h4 := q4.ran.noin.inputs
    have h5 := q5.ran.noin.inputs
    simp only at h1 h2 h3 h4 h5
    rw [h5, h4, h3, h2, h1, gIn_inputs, hS]
  · exact bits_in env x05 (by omega)
  · exact bits_in env x05 (by omega)
  · -- what is read back
    have v2 := q2.val env
    have v3 := q3.val env
    simp only at v2 v3
    rw [hv x25 env lb q2.lt, hv x35 env lq q3.lt, v2, v3, num_in env x1 (by omega), num_in env x02 (by omega), n1, hL]
    have hT1 : T - 1 + 1 = T := by omega
    by_cases ha : nbE env T V < N
    · rw [if_pos ha, if_pos ha, arrL_at ha]
      obtain ⟨l, hl⟩ : ∃ l, l1[nbE env T V]? = some l := ⟨_, List.getElem?_eq_getElem (by omega)⟩
      have w1 := q1.wr (by rw [n1, hL]) env hl
      have hgd : bv env (gIn 8000 S).nodes (2 * T) = env (T - 1) := by
        have := bv_gIn 8000 env S (T - 1) (by omega)
        rwa [hT1] at this
      rw [num_in env (Ext.refl _) (by omega), hgd, arrL_at ha] at w1
      have e0 : l1.getD (nbE env T V) [] = l := by rw [List.getD_eq_getElem?_getD, hl]; rfl
      rw [e0, w1]
      have hrow := row_le (W := W) ha
      rw [show bitsVal ((rIn (nbE env T V * W) W).map (bv env G2.nodes)) = nbE env (nbE env T V * W) W from bits_in env x02 (by omega)]
      by_cases hc : env (T - 1) = true ∧ nbE env (N * W + W) V = nbE env T V
      · rw [if_pos hc, if_pos ⟨hc.1, hc.2.symm, by omega⟩]
        exact bits_in env (Ext.refl _) (by omega)
      · rw [if_neg hc, if_neg (fun h => hc ⟨h.1, h.2.1.symm⟩)]
        exact bits_in env (Ext.refl _) (by omega)
    · rw [if_neg ha, if_neg ha, if_neg (fun h => ha (by omega)), bits_zero]
  · have v5 := q5.val env
    simp only at v5
    rw [v5, num_in env x04 (by omega), n2]
    by_cases ha : nbE env (N * W + W) V < N
    · rw [if_pos ha, if_pos ha]
      obtain ⟨l, hl⟩ : ∃ l, l2[nbE env (N * W + W) V]? = some l := ⟨_, List.getElem?_eq_getElem (by omega)⟩
      have w4 := q4.wr (by rw [n2, n1]) env hl
      rw [num_in env x03 (by omega), if_pos ⟨bv_one env q3.ran.ok.wf, rfl⟩] at w4
      rw [show l2.getD (nbE env (N * W + W) V) [] = l by rw [List.getD_eq_getElem?_getD, hl]; rfl, w4]
      exact bits_in env x03 (by omega)
    · rw [if_neg ha, if_neg ha, bits_zero]
end Go.Aig
namespace Go.Aig
/-- what is picked, behind k guards from the last one on -/
def pickD (N : Nat) (A : Nat → Nat) (e : Nat → Bool) : Nat → Nat
  | 0 => A (N - 1)
  | k + 1 => if e (N - 2 - k) = true then A (N - 2 - k) else pickD N A e k
theorem bwd_fold {α : Type} (gs : List Nat) (f : α → Nat × Nat → α) (D : Nat → α) (hD : ∀ k j r, k + j + 1 = gs.length → gs[j]? = some r → D (k + 1) = f (D k) (j, r)) : (bwd gs).foldl f (D 0) = D gs.length := by
  have h : ∀ k, k ≤ gs.length → ((bwd gs).take k).foldl f (D 0) = D k := by
    intro k
    induction k with
    | zero => intro _; simp
    | succ k ih =>
      intro hk
      obtain ⟨r, hr⟩ : ∃ r, gs[gs.length - 1 - k]? = some r := ⟨_, List.getElem?_eq_getElem (by omega)⟩
      rw [List.take_add_one, bwd_at (k := k) (j := gs.length - 1 - k) (by omega) hr, List.foldl_append, ih (by omega), hD k (gs.length - 1 - k) r (by omega) hr]
      rfl
  have := h gs.length (Nat.le_refl _)
  rwa [List.take_of_length_le (by rw [bwd_len]; omega)] at this
theorem zip_all_eq {α β : Type} [DecidableEq β] (f : α → β) : ∀ (x y : List α), x.length = y.length → ((x.zip y).all fun p => decide (f p.1 = f p.2)) = decide (x.map f = y.map f)
  | [], [], _ => by simp
  | [], _ :: _, h => by simp at h
  | _ :: _, [], h => by simp at h
  | a :: x, b :: y, h => by
    rw [List.zip_cons_cons, List.all_cons, zip_all_eq f x y (by simpa using h)]
    simp only [List.map_cons, List.cons.injEq, Bool.decide_and]
structure PicksF (N W T : Nat) (G1 G2 : Gra) (lp : List Nat) (r : Nat) : Prop where
  r1 : pickG (gIn 8000 (T + (N - 1))) (natInts (rIn T (N - 1))) (wldL N W) = (G1, lp, 0)
  r2 : equalG G1 (wldL N W) (wldL N W).reverse = (G2, r, 0)
  np : lp.length = W
  gp : ∀ x ∈ lp, x < 2 * G2.nodes.length
  gr : r < 2 * G2.nodes.length
  ok : Ok G2
  smp : ∀ x ∈ lp, x ≤ 1000000
  ins : (inputs G2.nodes).length = T + (N - 1)
  vp : ∀ env, bitsVal (lp.map (bv env G2.nodes)) = pickD N (fun i => nbE env (i * W) W) (fun i => env (T + i)) (N - 1)
  vr : ∀ env, bv env G2.nodes r = decide (((List.range N).map fun i => nbE env (i * W) W) = ((List.range N).map fun i => nbE env (i * W) W).reverse)
theorem picks_facts {N W T : Nat} (hN : 1 ≤ N ∧ N ≤ 4) (hW : 1 ≤ W ∧ W ≤ 3) (hT : T = N * W + W + 1 + 1) (hG : Ok (gIn 8000 (T + (N - 1)))) : ∃ G1 G2 lp r, PicksF N W T G1 G2 lp r := by
  have hNW : N * W ≤ 12 := Nat.mul_le_mul hN.2 hW.2
  have hm1 : 3 * W * (N - 1) ≤ 27 := Nat.mul_le_mul (by omega : 3 * W ≤ 9) (by omega : N - 1 ≤ 3)
  have hm2 : (4 * W + 1) * N ≤ 52 := Nat.mul_le_mul (by omega : 4 * W + 1 ≤ 13) hN.2
  obtain ⟨S, hS⟩ : ∃ S, T + (N - 1) = S := ⟨_, rfl⟩
  rw [hS] at hG
  have hlen : (gIn 8000 S).nodes.length = S + 1 := by simp [gIn]
  have hmost : (gIn 8000 S).most = 8000 := rfl
  have hW0 : Wds (gIn 8000 S) W (arrL N W) := arrL_wds hW.1 (by omega) (by omega)
  have hL := arrL_len N W
  have hgl : (rIn T (N - 1)).length = N - 1 := by simp [rIn]
  have hgr : ∀ r ∈ rIn T (N - 1), r < 2 * (gIn 8000 S).nodes.length := rIn_lt2 (by omega)
  obtain ⟨G1, lp, e1, np, q1⟩ := pickG_vals (G := gIn 8000 S) (L := arrL N W) (width := W) (gs := rIn T (N - 1)) hG hW0 (by omega) (by rw [hgl, hL]; omega) hgr (by rw [hgl]; omega)
  have q1r := q1.ran
  rw [hgl] at q1r
  have x1 := q1r.ext
  have z1 := q1r.len
  have t1 := x1.most
  simp only at x1 z1 t1
  have hWr : Wds (gIn 8000 S) W (arrL N W).reverse := ⟨fun l hl => hW0.all l (List.mem_reverse.1 hl), hW0.w1, hW0.w16⟩
  obtain ⟨G2, r, e2, q2⟩ := equalG_val (G := G1) (n := W) (A := arrL N W) (B := (arrL N W).reverse) q1.ran.ok (hW0.ext x1) (hWr.ext x1) (by omega) (by omega) (by simp) (by rw [hL]; omega)
  have x2 := q2.ran.ext
  simp only at x2
  have x02 := x1.trans x2
  refine ⟨G1, G2, lp, r, ?_, ?_, np, fun x h => x2.lt (q1.lt x h), q2.lt, q2.ran.ok, refs_le q1.ran.ok q1.lt, ?_, fun env => ?_, fun env => ?_⟩
  · rw [hS, wldL_arr]; exact e1
  · rw [wldL_arr, ← List.map_reverse]; exact e2
  · have h1 := q1.ran.noin.inputs
    have h2 := q2.ran.noin.inputs
    simp only at h1 h2
    rw [h2, h1, gIn_inputs, hS]
  · have v1 := q1.val env
    simp only at v1
    rw [show lp.map (bv env G2.nodes) = lp.map (bv env G1.nodes) from List.map_congr_left fun r hr => bv_of env x2 (q1.lt r hr), v1]
    have hb : ∀ i, i < N → bitsVal (((arrL N W).getD i []).map (bv env (gIn 8000 S).nodes)) = nbE env (i * W) W := fun i hi => by
      rw [arrL_at hi]
      exact bits_in env (Ext.refl _) (by have := row_le (W := W) hi; omega)
    have key : ∀ (l : List (Nat × Nat)) (acc : List Bool), bitsVal (l.foldl (fun acc p => if bv env (gIn 8000 S).nodes p.2 = true then ((arrL N W).getD p.1 []).map (bv env (gIn 8000 S).nodes) else acc) acc) = l.foldl (fun acc p => if bv env (gIn 8000 S).nodes p.2 = true then bitsVal (((arrL N W).getD p.1 []).map (bv env (gIn 8000 S).nodes)) else acc) (bitsVal acc) := by
      intro l
      induction l with
      | nil => intro acc; rfl
      | cons p l ih =>
        intro acc
        rw [List.foldl_cons, List.foldl_cons, ih]
        split <;> rfl
    rw [key, hgl, hb (N - 1) (by omega)]
    have := bwd_fold (rIn T (N - 1)) (fun acc p => if bv env (gIn 8000 S).nodes p.2 = true then bitsVal (((arrL N W).getD p.1 []).map (bv env (gIn 8000 S).nodes)) else acc) (pickD N (fun i => nbE env (i * W) W) (fun i => env (T + i))) (fun k j r hk hr => by
      rw [hgl] at hk
      have ej : j = N - 2 - k := by omega
      have er : r = 2 * (T + j + 1) := by
        unfold rIn at hr
        rw [List.getElem?_map, List.getElem?_range (by omega)] at hr
        exact (Option.some.inj hr).symm
      show (if env (T + (N - 2 - k)) = true then nbE env ((N - 2 - k) * W) W else pickD N _ _ k) = _
      show _ = if bv env (gIn 8000 S).nodes r = true then bitsVal (((arrL N W).getD j []).map (bv env (gIn 8000 S).nodes)) else _
      rw [er, bv_gIn 8000 env S (T + j) (by omega), hb j (by omega), ← ej])
    rw [hgl] at this
    exact this
  · have v2 := q2.val env
    simp only at v2
    rw [v2]
    have hal : ∀ l ∈ arrL N W, l.length = W := fun l hl => (hW0.all l hl).1
    have e : ((arrL N W).zip (arrL N W).reverse).all (fun p => decide (p.1.map (bv env G1.nodes) = p.2.map (bv env G1.nodes))) = ((arrL N W).zip (arrL N W).reverse).all (fun p => decide (bitsVal (p.1.map (bv env G1.nodes)) = bitsVal (p.2.map (bv env G1.nodes)))) := by
      rw [Bool.eq_iff_iff, List.all_eq_true, List.all_eq_true]
      have hp : ∀ p ∈ (arrL N W).zip (arrL N W).reverse, decide (p.1.map (bv env G1.nodes) = p.2.map (bv env G1.nodes)) = decide (bitsVal (p.1.map (bv env G1.nodes)) = bitsVal (p.2.map (bv env G1.nodes))) := fun p hp => by
        obtain ⟨a, b⟩ := p
        have ha := hal a (List.of_mem_zip hp).1
        have hb := hal b (List.mem_reverse.1 (List.of_mem_zip hp).2)
        rw [decide_eq_decide]
        exact ⟨fun h => by rw [h], fun h => bitsVal_inj (by simp [ha, hb]) h⟩
      exact ⟨fun h p hm => by rw [← hp p hm]; exact h p hm, fun h p hm => by rw [hp p hm]; exact h p hm⟩
    rw [e, zip_all_eq (fun (l : List Nat) => bitsVal (l.map (bv env G1.nodes))) _ _ (by simp), List.map_reverse]
    have ea : (arrL N W).map (fun l => bitsVal (l.map (bv env G1.nodes))) = (List.range N).map fun i => nbE env (i * W) W := by
      unfold arrL
      rw [List.map_map]
      refine List.map_congr_left fun i hi => ?_
      exact bits_in env x1 (by have := row_le (W := W) (List.mem_range.1 hi); omega)
    rw [ea]
end Go.Aig
namespace Go.Proofs.YtdmmanfjafempaaGreat
open Go.RowKit Go.Mem Go.Aig
/-- a new slice of ints -/
def INew (w : World) (v : Value) (l : List Int) (w' : World) : Prop := row w' 3 1 v l.length (intCells l) ∧ (∀ q ∈ v.ownBlock.toList, w.heap.size ≤ q) ∧ Ch [] w w'
theorem INew.since {w w1 w2 : World} {v : Value} {l : List Int} (h : INew w1 v l w2) (hc : Ch [] w w1) : INew w v l w2 := ⟨h.1, fun q hq => Nat.le_trans hc.size (h.2.1 q hq), hc.trans h.2.2 (by simp)⟩
theorem INew.nil {w w' : World} (hc : Ch [] w w') : INew w (.slice none 0 0) [] w' := ⟨⟨rfl, .inl ⟨rfl, rfl⟩⟩, by simp, hc⟩
theorem INew.parts {w w' : World} {v : Value} {l : List Int} {n : Nat} (h : INew w v l w') (hn : l.length = n) : ∃ a c, v = .slice a n c ∧ row w' 3 1 (.slice a n c) n (intCells l) ∧ (∀ q ∈ (Value.slice a n c).ownBlock.toList, w.heap.size ≤ q) ∧ Ch [] w w' := by
  subst hn
  obtain ⟨h1, h2, h3⟩ := h
  obtain ⟨a, c, rfl⟩ := row.shape h1
  exact ⟨a, c, rfl, h1, h2, h3⟩
section
variable {w : World}
set_option maxRecDepth 100000 in
set_option maxHeartbeats 1000000 in
theorem r25Right_is (n : Int) : Calls Tryz.prog 69 #[.int .i64 n] w fun e w' => e = .returned (.bool (rightB n)) ∧ w = w' := by
  have e : rightB n = (decide (0 < n) && decide (n < 17)) := by
    unfold rightB
    rw [show decide (1 ≤ n) = decide (0 < n) from by congr 1, show decide (n ≤ 16) = decide (n < 17) from by congr 1; exact propext ⟨fun h => by omega, fun h => by omega⟩]
  rw [e]
  clear e
  by_cases h : 0 < n
  · have h1 : decide (0 < n) = true := decide_eq_true h
    go_enter Tryz.func69, Tryz.ntmps69
    go_wp2_with fail
    go_ret
    exact ⟨by rw [h1]; rfl, rfl⟩
  · have h1 : decide (0 < n) = false := decide_eq_false h
    go_enter Tryz.func69, Tryz.ntmps69
    go_wp2_with fail
    go_ret
    exact ⟨rfl, rfl⟩
set_option maxRecDepth 100000 in
set_option maxHeartbeats 1000000 in
theorem r25Power_is (n : Nat) (hn : n ≤ 30) : Calls Tryz.prog 121 #[.int .i64 n] w fun e w' => e = .returned (.int .i64 ((2 ^ n : Nat) : Int)) ∧ w = w' := by
  go_enter Tryz.func121, Tryz.ntmps121
  go_wp2_with fail
  go_loopw [3, 4] (fun o i wr => ∃ k : Nat, k ≤ n ∧ i = .int .i64 k ∧ o = .int .i64 ((2 ^ k : Nat) : Int) ∧ wr = w) (fun _ i _ => n - (intOf i).toNat)
  case atStart => exact ⟨0, by omega, rfl, rfl, rfl⟩
  case round =>
    obtain ⟨k, hk, rfl, rfl, hww⟩ := hrel
    subst wr
    have hp : 2 ^ k ≤ 2 ^ 30 := Nat.pow_le_pow_right (by omega) (by omega)
    have hs : 2 ^ (k + 1) = 2 * 2 ^ k := by rw [Nat.pow_succ, Nat.mul_comm]
    by_cases hlt : k < n
    · have HS := Lib.hid hs; clear hs
      generalize hP : 2 ^ k = P at *
      clear hP
      go_wp2_with fail
      go_roundw
      case rel => exact ⟨k + 1, by omega, by go_num, by rw [HS.out]; go_num, by trivial⟩
      case measure => simp [intOf]; omega
    · have hkn : k = n := by omega
      subst hkn
      clear hs hp
      go_wp2_with fail
      go_ret
      exact ⟨rfl, rfl⟩
theorem intCells_snoc {l : List Int} {k : Nat} {x : Int} (h : l[k]? = some x) : intCells (l.take (k + 1)) = intCells (l.take k) ++ [.int .i64 x] := by unfold intCells; rw [List.take_add_one, h]; simp
end
end Go.Proofs.YtdmmanfjafempaaGreat
namespace Go.Proofs.YtdmmanfjafempaaGreat
open Go.RowKit Go.Mem Go.Aig
section
variable {w : World}
set_option maxRecDepth 100000 in
set_option maxHeartbeats 1000000 in
theorem r26Array_is (n : Int) : Calls Tryz.prog 68 #[.int .i64 n] w fun e w' => e = .returned (.bool (array26 n)) ∧ w = w' := by
  unfold array26
  by_cases h : 1 ≤ n
  · have h1 : decide (n > 0) = true := decide_eq_true (by omega)
    have h2 : decide ((1 : Int) ≤ n) = true := decide_eq_true h
    have h3 : decide (n < 257) = decide (n ≤ 256) := decide_eq_decide.2 (by omega)
    go_enter Tryz.func68, Tryz.ntmps68
    go_wp2_with fail
    go_ret
    exact ⟨by first | rfl | (rw [h3]; rfl) | (rw [← h3]; rfl) | (rw [h2, ← h3]; rfl), rfl⟩
  · have h1 : decide (n > 0) = false := decide_eq_false (by omega)
    have h2 : decide ((1 : Int) ≤ n) = false := decide_eq_false h
    go_enter Tryz.func68, Tryz.ntmps68
    go_wp2_with fail
    go_ret
    exact ⟨by first | rfl | (rw [h2]; rfl), rfl⟩
set_option maxRecDepth 100000 in
set_option maxHeartbeats 1000000 in
theorem r26Fits_is [Nonempty Unit] (n bits : Nat) (hb : bits ≤ 16) : Calls Tryz.prog 70 #[.int .i64 n, .int .i64 bits] w fun e w' => e = .returned (.int .i64 (fitN n bits : Nat)) ∧ w = w' := by
  have HP := r25Power_is (w := w) bits (by omega)
  unfold fitN
  generalize 2 ^ bits = D at *
  by_cases h : D < n
  · have h1 : decide (D < n) = true := decide_eq_true h
    rw [Nat.min_eq_right (by omega)]
    clear h
    go_enter Tryz.func70, Tryz.ntmps70
    go_wp2_with fail
    refine HP.mono ?_
    rintro e w' ⟨rfl, rfl⟩
    go_wp2_with fail
    go_ret
    exact ⟨rfl, rfl⟩
  · have h1 : decide (D < n) = false := decide_eq_false h
    rw [Nat.min_eq_left (by omega)]
    clear h
    go_enter Tryz.func70, Tryz.ntmps70
    go_wp2_with fail
    refine HP.mono ?_
    rintro e w' ⟨rfl, rfl⟩
    go_wp2_with fail
    go_ret
    exact ⟨rfl, rfl⟩
theorem rightB_26 (n : Int) : rightB n = right26 n := rfl
set_option maxRecDepth 100000 in
set_option maxHeartbeats 2000000 in
theorem fit26_is [Nonempty Unit] (n bits : Int) : Calls Tryz.prog 13 #[.int .i64 n, .int .i64 bits] w fun e w' => e = .returned (.bool true) ∧ w = w' := by
  have HF := mFit_is (w := w) n bits
  have HA := r26Array_is (w := w) n
  have HR := r25Right_is (w := w) bits
  rw [rightB_26] at HR
  unfold fitG at HF
  cases ha : array26 n
  · rw [ha] at HA
    simp only [ha, if_true] at HF
    clear HR
    go_enter Tryz.func13, Tryz.ntmps13
    go_wp2_with fail
    refine HF.mono ?_
    rintro e w' ⟨rfl, rfl⟩
    go_wp2_with fail
    refine HA.mono ?_
    rintro e w' ⟨rfl, rfl⟩
    go_wp2_with fail
    go_ret
    exact ⟨rfl, rfl⟩
  · rw [ha] at HA
    cases hr : right26 bits
    · rw [hr] at HR
      simp only [ha, hr, Bool.true_eq_false, if_false, if_true] at HF
      go_enter Tryz.func13, Tryz.ntmps13
      go_wp2_with fail
      refine HF.mono ?_
      rintro e w' ⟨rfl, rfl⟩
      go_wp2_with fail
      refine HA.mono ?_
      rintro e w' ⟨rfl, rfl⟩
      go_wp2_with fail
      refine HR.mono ?_
      rintro e w' ⟨rfl, rfl⟩
      go_wp2_with fail
      go_ret
      exact ⟨rfl, rfl⟩
    · rw [hr] at HR
      obtain ⟨n', rfl, hn⟩ : ∃ n' : Nat, n = n' ∧ n' ≤ 256 := by
        unfold array26 at ha; simp at ha; exact ⟨n.toNat, by omega, by omega⟩
      obtain ⟨b', rfl, hb⟩ : ∃ b' : Nat, bits = b' ∧ b' ≤ 16 := by
        unfold right26 at hr; simp at hr; exact ⟨bits.toNat, by omega, by omega⟩
      simp only [ha, hr, Bool.true_eq_false, if_false, Int.toNat_natCast] at HF
      have HFT := r26Fits_is (w := w) n' b' hb
      generalize fitN n' b' = k at *
      clear ha hr
      go_enter Tryz.func13, Tryz.ntmps13
      go_wp2_with fail
      refine HF.mono ?_
      rintro e w' ⟨rfl, rfl⟩
      go_wp2_with fail
      refine HA.mono ?_
      rintro e w' ⟨rfl, rfl⟩
      go_wp2_with fail
      refine HR.mono ?_
      rintro e w' ⟨rfl, rfl⟩
      go_wp2_with fail
      refine HFT.mono ?_
      rintro e w' ⟨rfl, rfl⟩
      go_wp2_with fail
      go_ret
      exact ⟨rfl, rfl⟩
end
end Go.Proofs.YtdmmanfjafempaaGreat
