/-
  Walks over sim: one, table. Conditions: a graph of at most 16 inputs in memory, what tells a word.
  A region in the text's order, in a round of a range over a function, under the widest fence: from the plain walk. Conditions: no defer in it.
  Walks over sim: tabled, Table. Conditions: a graph in memory, any reference.
  Walk over sim: Count. Conditions: a graph in memory, any reference.
  A range over a function whose body may leave it by an exit: the caller's law. Conditions: those of XRng2's law.
  Walk over sim: first. Conditions: a graph of at most 16 inputs in memory, what tells a word.
  Walks over sim: First, Parts. Conditions: a graph in memory, any references.
  The laws' graphs, plainly: what small numbers make. No program in sight.
  Walks over pick. Conditions: slices that are read.
  Walks over step. Conditions: a graph in memory, slices that are read.
  What the makers of ands mean, and how many nodes they make at most: plain. No program in sight. Conditions: a right graph with room.
  What small numbers make, plainly: no error where there is room, and what it means. No program in sight. Conditions: none beyond the hypotheses.
  What the makers of ands make holds no input: plain. No program in sight. Conditions: none beyond the hypotheses.
  The laws' graphs, plainly: built step by step. No program in sight. Conditions: none beyond the hypotheses.
  The words of the nodes, plainly, and their bits. No program in sight. Conditions: none beyond the hypotheses.
  What was made is made again, plainly: over a graph that was cut off the one that came of it. No program in sight. Conditions: none beyond the hypotheses.
  The steps of a built graph, plainly: what lies between them, and that each made again is the same. No program in sight. Conditions: none beyond the hypotheses.
  The cone that AigCone looks through, plainly: in which order, what is marked when, how many. No program in sight. Conditions: none beyond the hypotheses.
  What Sides and Depth say of a node of the cone, plainly. No program in sight. Conditions: a well-formed graph.
  Walks over slices.BinarySearch of ints, sim's Nodes and Support. Conditions: a rising slice; a graph in memory.
  Walks over few, index, ref and made of chapter 21's laws. Conditions: a slice of nodes of any integers.
  From a law's arguments to what the walks say: nodes, slices of words. Conditions: those of the given row.
  From a law's arguments to what the walks say: nodes of chapter 27. Conditions: those of the given row.
  Walk over slices.Equal of words; the functions of sim as steps of a walk that holds slices. Conditions: slices that can be read.
  Walk over the chapter's examples (awake of sim): true. Conditions: none.
  append of a number of zeros to a row of any shape. Conditions: a row, an element type of the table.
  Walk over slices.Clone of words; words fitted to as many as inputs; what the nodes are for words of the inputs, node by node. Conditions: a slice that can be read.
  The support of references, plainly: what does not lie in it does not matter. No program in sight. Conditions: a graph in order.
  Formulas of circuits, plainly: the map of a graph and of roots, its literals, the clauses. No program in sight. Conditions: none beyond the hypotheses.
  Walk over slices.BinarySearch of ints, of any slice: its index too. Conditions: a slice that can be read.
  Walks over lits (Right, Var, Negated, Of) and tseitin (rising, Lit, Ref). Conditions: numbers of 64 bits; a map that can be read.
  A map from numbers to values that are known, one after the other. Conditions: the two facts on the types of map and key.
  Walks over slices.DeleteFunc of ints (nothing, or the first one alone, is deleted), tseitin's mapped and literals. Conditions: a graph in memory, roots that can be read.
-/
import Derived.Test.YtkedpifopclipaaQD
import Derived.Deep.DeepCutAuto
import Derived.Test.YtkedpifopclipaaQC
import Derived.TacticsIn
import Derived.Test.YtkedpifopclipaaQB
import Derived.Test.YtkedpifopclipaaQA
import Derived.Lib.AppendZeros
import Derived.MapKept
namespace Go.Proofs.Ytkedpifopclipaa
open Go.RowKit Go.Mem Go.Aig
theorem _root_.Go.Mem.blk.keep {w W : World} {b : Nat} {xs : List Value} (h : blk w b xs) (hk : W.heap[b]? = w.heap[b]?) : blk W b xs := by
  obtain ⟨T, h⟩ := h
  exact ⟨T, hk.trans h⟩
theorem _root_.Go.Mem.row.keep {w W : World} {e : TypeId} {size : Nat} {v : Value} {n : Nat} {xs : List Value} (h : row w e size v n xs) (hk : ∀ k, v.ownBlock = some k → W.heap[k]? = w.heap[k]?) : row W e size v n xs := by
  refine ⟨h.1, ?_⟩
  rcases h.2 with hn' | ⟨g, cap, cur, rfl, hb, hgg, rest⟩
  · exact .inl hn'
  · exact .inr ⟨g, cap, cur, rfl, hb, (hk g rfl).trans hgg, rest⟩
theorem GIn.keep {w W : World} {g : Nat} {G : Gra} {F : List Nat} (h : GIn w g G F) (hk : ∀ k ∈ F, W.heap[k]? = w.heap[k]?) : GIn W g G F := by
  obtain ⟨nb, ncap, iv, mb, h, rfl⟩ := h
  refine ⟨nb, ncap, iv, mb, ⟨h.st.keep (hk g (by simp [fp])), h.nodes.keep (fun k hk' => hk k (by simp [Value.ownBlock] at hk'; simp [fp, hk'])), ?_, h.ins.keep (fun k hk' => hk k (by simp [fp, hk'])), h.gm, h.gn, h.mn, h.gi, h.ni, h.mi, h.ok⟩, rfl⟩
  obtain ⟨es, clock, hm, ho⟩ := h.mp
  exact ⟨es, clock, (hk mb (by simp [fp])).trans hm, ho⟩
/-- a closure that tells a word, by the words of the nodes -/
structure TellW (w : World) (fid : Nat) (caps : Array Value) (K : List Nat) (n : Nat) (f : List Nat → Nat) : Prop where
  fn : Fnv fid
  lt : ∀ vs : List Nat, (∀ v ∈ vs, v < 2 ^ 64) → vs.length = n → f vs < 2 ^ 64
  ksz : ∀ k ∈ K, k < w.heap.size
  tells : ∀ W, (∀ k ∈ K, W.heap[k]? = w.heap[k]?) → ∀ (bx nb : Nat) (vs : List Nat), vs.length = n → (∀ v ∈ vs, v < 2 ^ 64) → W.cell? ⟨bx, 0, none⟩ = some (.slice (some ⟨nb, 0, none⟩) n n) → blk W nb (u64s vs) →
    Calls Try.prog fid (#[.func (.func 203) #[] #[.pointer (some ⟨bx, 0, none⟩)]] ++ caps) W fun e w' => e = .returned (.int .u64 (f vs)) ∧ Ch [] W w'
theorem fnvsimtable1 : Fnv 213 := fnv_of Try.func213 (by simp [Try.f213]) (by simp [Try.f213])
set_option maxRecDepth 100000 in
set_option maxHeartbeats 1000000 in
theorem simtable_is (w : World) (g fid : Nat) (caps : Array Value) : Calls Try.prog 198 #[.pointer (some ⟨g, 0, none⟩), .func (.func fid) #[] caps] w fun e w' => e = .returned (.func (.func 213) #[] #[.pointer (some ⟨w.heap.size, 0, none⟩), .pointer (some ⟨w.heap.size + 1, 0, none⟩)]) ∧ Ch [] w w' ∧ blk w' w.heap.size [.pointer (some ⟨g, 0, none⟩)] ∧ blk w' (w.heap.size + 1) [.func (.func fid) #[] caps] ∧ w.heap.size + 2 ≤ w'.heap.size := by
  go_enter Try.func198, Try.ntmps198
  go_wp2_with fail
  go_ret
  exact ⟨rfl, ((Ch.refl _ _).alloc _).alloc _, (blk.new' _ _ (by simp)).alloc _, blk.new' _ _ (by simp), by simp⟩
/-- what the table yields: the block's number, and its word -/
def tabL (ns : List Nd) (f : List Nat → Nat) (n : Nat) : List (Nat × Nat) := (List.range (2 ^ (n - 6))).map fun b => (b, f (wvF M64 (inW n b) ns).1 &&& maskW n)
def tabEnc (p : Nat × Nat) : Array Value := #[.int .i64 p.1, .int .u64 p.2]
theorem tabL_snd (ns : List Nd) (f : List Nat → Nat) (n : Nat) : (tabL ns f n).map Prod.snd = tabW ns f n := by
  unfold tabL tabW
  rw [List.map_map]; rfl
theorem tabL_len (ns : List Nd) (f : List Nat → Nat) (n : Nat) : (tabL ns f n).length = 2 ^ (n - 6) := by simp [tabL]
theorem tabL_at (ns : List Nd) (f : List Nat → Nat) (n : Nat) {k : Nat} (hk : k < 2 ^ (n - 6)) : (tabL ns f n)[k]? = some (k, f (wvF M64 (inW n k) ns).1 &&& maskW n) := by
  unfold tabL
  rw [List.getElem?_map, List.getElem?_range hk]; rfl
theorem mask_lt (n : Nat) : maskW n < 18446744073709551616 := by
  unfold maskW
  split
  · rename_i h
    have h2 : 2 ^ n ≤ 2 ^ 5 := Nat.pow_le_pow_right (by omega) (by omega)
    have h3 : 2 ^ 2 ^ n ≤ 2 ^ 2 ^ 5 := Nat.pow_le_pow_right (by omega) h2
    have h4 : (2 : Nat) ^ 2 ^ 5 = 4294967296 := by decide
    omega
  · unfold M64; omega
set_option maxRecDepth 100000 in
set_option maxHeartbeats 8000000 in
theorem simtable_seq {W0 : World} {g : Nat} {G : Gra} {F : List Nat} (h : GIn W0 g G F) {fid : Nat} {caps : Array Value} {Kf : List Nat} {f : List Nat → Nat} {N : Nat} (hT : TellW W0 fid caps Kf N f) (hN : G.nodes.length = N) {n : Nat} (hn : (inputs G.nodes).length = n) (hn16 : n ≤ 16)
    {bg bf : Nat} (hbg : blk W0 bg [.pointer (some ⟨g, 0, none⟩)]) (hbf : blk W0 bf [.func (.func fid) #[] caps]) (m : Nat) (hm : 1 ≤ m) :
    SeqP Fence.wide m Try.prog 213 #[.pointer (some ⟨bg, 0, none⟩), .pointer (some ⟨bf, 0, none⟩)] tabEnc (bg :: bf :: (F ++ Kf)) (tabL G.nodes f n) W0 := by
  intro lp J Jx W hK hJ hJx hY h0
  have hg := h.keep (fun k hk => hK k (by simp [hk]))
  have c_g := (hbg.keep (hK bg (by simp))).cell (i := 0) rfl
  have HIN := Inputs_g hg
  rw [hn] at HIN
  have hmxN : max ((n : Int) - 6) 0 = ((n - 6 : Nat) : Int) := by omega
  have hmx : ∀ ats ty, Builtin.max_ ats ty #[.int .i64 ((n : Int) - 6), .int .i64 0] = pure (.int .i64 ((n - 6 : Nat) : Int)) := fun ats ty => by
    have := max_nat ((n : Int) - 6) 0 (n - 6) (by omega) ats ty
    simpa using this
  show CallsIn Fence.wide m Try.prog 213 #[.func (.yield lp) #[] #[], .pointer (some ⟨bg, 0, none⟩), .pointer (some ⟨bf, 0, none⟩)] W _
  have HY := Lib.hid hY; clear hY
  have HJ := Lib.hid hJ; clear hJ
  have HJX := Lib.hid hJx; clear hJx
  have H0 := Lib.hid h0; clear h0
  have HK := Lib.hid hK; clear hK
  have H := Lib.hid h; clear h
  have HG := Lib.hid hg; clear hg
  have HT := Lib.hid hT; clear hT
  have HBG := Lib.hid hbg; clear hbg
  have HBF := Lib.hid hbf; clear hbf
  have HNI := Lib.hid hn; clear hn
  have HIN := Lib.hid HIN
  have hml := mask_lt n
  have hml2 : n < 6 → maskW n = 2 ^ 2 ^ n - 1 := fun h => by unfold maskW; rw [if_pos h]
  have hml3 : ¬ n < 6 → maskW n = 18446744073709551615 := fun h => by unfold maskW; rw [if_neg h]; rfl
  obtain ⟨M, hM⟩ : ∃ M, M = maskW n := ⟨_, rfl⟩
  rw [← hM] at hml hml2 hml3
  have HM := Lib.hid hM; clear hM
  have HM2 := Lib.hid hml2; clear hml2
  have HM3 := Lib.hid hml3; clear hml3
  refine callsIn_of_wp Try.func213 rfl trivial ?_ rfl
  simp only [Try.ntmps213, List.size_toArray, List.length_cons, List.length_nil, Nat.reduceAdd, Nat.reduceSub, Array.replicate_succ, Array.replicate_zero, List.push_toArray, List.append_toArray, List.nil_append, List.cons_append]
  refine wpIn_wide.2 ?_
  go_wp2_with fail
  refine HIN.out.mono ?_
  rintro e W1 ⟨v, rfl, hrow, _, hc1⟩
  obtain ⟨ia, ic, rfl⟩ := row.shape hrow
  have HC1 := Lib.hid hc1; clear hc1 hrow HIN
  clear c_g
  go_upto_if 11 with fail
  go_cut [5] (fun mk wd => wd = W1 ∧ mk = .int .u64 M)
  case first =>
    by_cases hn6 : n < 6
    · have hm2 := HM2.out hn6
      have h6 : n = 0 ∨ n = 1 ∨ n = 2 ∨ n = 3 ∨ n = 4 ∨ n = 5 := by omega
      rcases h6 with rfl | rfl | rfl | rfl | rfl | rfl
      all_goals
        have HM2' := Lib.hid hm2
        clear hm2
        go_wp2_with fail
        go_meet
        case rel => exact ⟨rfl, by rw [HM2'.out]; rfl⟩
    · have hm3 := Lib.hid (HM3.out hn6)
      go_wp2_with fail
      go_meet
      case rel => exact ⟨rfl, by rw [hm3.out]; rfl⟩
  case rest =>
    obtain ⟨rfl, rfl⟩ := hcut
    go_wp2_with fail
    obtain ⟨C, hC, hC10⟩ : ∃ C, 2 ^ (n - 6) = C ∧ C ≤ 1024 := ⟨2 ^ (n - 6), rfl, by
      have : (2 : Nat) ^ (n - 6) ≤ 2 ^ 10 := Nat.pow_le_pow_right (by omega) (by omega)
      omega⟩
    have hwC : wrap64 ((2 : Int) ^ (n - 6)) = ((C : Nat) : Int) := by
      have : ((2 : Int) ^ (n - 6)) = ((2 ^ (n - 6) : Nat) : Int) := by simp
      rw [this, hC]
      exact IntWalk.wrap64_in _ (by omega)
    rw [hwC]
    have hlen : (tabL G.nodes f n).length = C := by rw [tabL_len]; exact hC
    have hat := fun (k : Nat) (hk : k < C) => tabL_at G.nodes f n (k := k) (by rw [hC]; exact hk)
    obtain ⟨T, hTt⟩ : ∃ T, T = tabL G.nodes f n := ⟨_, rfl⟩
    rw [← hTt] at hlen hat HY
    have HLEN := Lib.hid hlen; clear hlen
    have HAT := Lib.hid hat; clear hat
    have HTT := Lib.hid hTt; clear hTt
    clear hwC hC hmx hmxN
    refine (wpIn_wide (n := m)).1 ?_
    gi_loopw [20] (fun i wr => ∃ k : Nat, k ≤ C ∧ i = .int .i64 k ∧ (∀ q ∈ bg :: bf :: (F ++ Kf), wr.heap[q]? = W0.heap[q]?) ∧ J (T.take k) wr) (fun i _ => C - (intOf i).toNat)
    case atStart =>
      refine ⟨0, Nat.zero_le _, rfl, fun q hq => ?_, HJ.out _ _ _ H0.out HC1.out⟩
      have hlt : q < W.heap.size := by
        have h1 := HK.out q hq
        have h2 : q < W0.heap.size := by
          simp only [List.mem_cons, List.mem_append] at hq
          rcases hq with rfl | rfl | hq | hq
          · exact HBG.out.lt
          · exact HBF.out.lt
          · exact H.out.lt q hq
          · exact HT.out.ksz q hq
        rw [Array.getElem?_eq_getElem h2] at h1
        exact (Array.getElem?_eq_some_iff.1 h1).1
      rw [HC1.out.block q hlt (by simp)]
      exact HK.out q hq
    case round =>
      clear HG HIN
      obtain ⟨k, hk, rfl, hq, hj⟩ := hrel
      by_cases hlt : k < C
      · have hxk := HAT.out k hlt
        have hsu : T.take (k + 1) = T.take k ++ [(k, f (wvF M64 (inW n k) G.nodes).1 &&& maskW n)] := by rw [List.take_add_one, hxk]; rfl
        have hqs : ∀ q ∈ bg :: bf :: (F ++ Kf), q < wr.heap.size := fun q hq' => by
          have h1 := hq q hq'
          have h2 : q < W0.heap.size := by
            simp only [List.mem_cons, List.mem_append] at hq'
            rcases hq' with rfl | rfl | hq' | hq'
            · exact HBG.out.lt
            · exact HBF.out.lt
            · exact H.out.lt q hq'
            · exact HT.out.ksz q hq'
          rw [Array.getElem?_eq_getElem h2] at h1
          exact (Array.getElem?_eq_some_iff.1 h1).1
        have hg := H.out.keep (fun q hq' => hq q (by simp [hq']))
        have hbg := HBG.out.keep (hq bg (by simp))
        have hbf := HBF.out.keep (hq bf (by simp))
        have hvs := wvF_lt (N := 64) (inW_lt n k) G.nodes
        rw [u64_pow] at hvs
        have hvl := wvF_len U64 (inW n k) G.nodes
        rw [hN] at hvl
        have hfl := HT.out.lt _ hvs.1 hvl
        have hHY := HY.out (T.take k) (k, f (wvF M64 (inW n k) G.nodes).1 &&& maskW n)
        rw [← hsu, show M64 = U64 from rfl, ← HM.out] at hHY
        rw [show M64 = U64 from rfl, ← HM.out] at hsu
        have HND := fun (w1 : World) (hc1 : Ch [] wr w1) (xa : Option Addr) (xc : Nat) (hr : row w1 183 1 (.slice xa n xc) n (u64s (inW n k))) => simnodes_is (hg.same hc1 (by simp)) (ins := inW n k) (xa := xa) xc (row.sv hr rfl (by omega)) (by rw [HNI.out, inW_len]) (inW_lt n k) (by rw [inW_len]; exact (row.capLe' hr).1) (row.capLe' hr).2
        simp only [inW_len, hN] at HND
        have hand := bits_and_u64_nat (f (wvF U64 (inW n k) G.nodes).1) M (by omega) hml
        generalize hVS : (wvF U64 (inW n k) G.nodes).1 = VS at *
        generalize hfv : f VS = fv at *
        generalize fv &&& M = x at hand hsu hHY
        have HTL := fun W hW bx nb => HT.out.tells W hW bx nb VS hvl hvs.1
        rw [hfv] at HTL
        have HHY := Lib.hid hHY; clear hHY
        have HSU := Lib.hid hsu; clear hsu
        have HND := Lib.hid HND
        have HTL := Lib.hid HTL
        have HQ := Lib.hid hq; clear hq
        have HJ1 := Lib.hid hj; clear hj
        have HQS := Lib.hid hqs; clear hqs
        clear hxk hg hvs hvl hfl hVS hfv
        gi_wp2
        refine Ord.StI.door (fun w' => w'.cell? ⟨bf, 0, none⟩ = some (.func (.func fid) #[] caps) ∧ w'.cell? ⟨bg, 0, none⟩ = some (.pointer (some ⟨g, 0, none⟩))) [.fl, .fl, .ho, .ho, .fl, .fl, .ef, .ef, .ef, .ef, .fl, .fl, .ef, .fl] [0, 0, 0, 0, 0, 0, 48, 120, 248, 508, 0, 2044, 4095, 8191] [0, 1, 2, 3, 4, 5, 6, 7, 8, 9, 10, 11, 12, 13] mixed (by kernel_rfl) rfl ?_
        obtain ⟨Wc, hWc⟩ : ∃ Wc, Wc = wr.drew := ⟨_, rfl⟩
        rw [← hWc]
        have hcur : Ch [] wr Wc := by rw [hWc]; exact (Ch.refl _ _).drew
        clear hWc
        replace hbg := hbg.ch hcur (by simp)
        replace hbf := hbf.ch hcur (by simp)
        have HCUR := Lib.hid hcur; clear hcur
        refine Ord.StI.fl2 (T' := ?_) 0 [1, 2, 3, 4, 5, 6, 7, 8, 9, 10, 11, 12, 13] _ _ rfl (by kernel_rfl) rfl rfl rfl rfl (fun K w' hk => ?_) ?_
        rotate_left
        · go_step; exact hk
        refine Ord.StI.fl2 (T' := ?_) 1 [2, 3, 4, 5, 6, 7, 8, 9, 10, 11, 12, 13] _ _ rfl (by kernel_rfl) rfl rfl rfl rfl (fun K w' hk => ?_) ?_
        rotate_left
        · go_step; exact hk
        refine Ord.StI.ho2 (T' := ?_) 2 [3, 4, 5, 6, 7, 8, 9, 10, 11, 12, 13] _ _ rfl (by kernel_rfl) rfl rfl rfl rfl ?_ (fun K w' hw' hk => ?_) ?_
        rotate_left
        · exact ⟨hbf.cell rfl, hbg.cell rfl⟩
        · obtain ⟨q1, q2⟩ := hw'; go_step; exact hk
        refine Ord.StI.ho2 (T' := ?_) 3 [4, 5, 6, 7, 8, 9, 10, 11, 12, 13] _ _ rfl (by kernel_rfl) rfl rfl rfl rfl ?_ (fun K w' hw' hk => ?_) ?_
        rotate_left
        · exact ⟨hbf.cell rfl, hbg.cell rfl⟩
        · obtain ⟨q1, q2⟩ := hw'; go_step; exact hk
        refine Ord.StI.fl2 (T' := ?_) 4 [5, 6, 7, 8, 9, 10, 11, 12, 13] _ _ rfl (by kernel_rfl) rfl rfl rfl rfl (fun K w' hk => ?_) ?_
        rotate_left
        · go_step; exact hk
        refine Ord.StI.fl2 (T' := ?_) 5 [6, 7, 8, 9, 10, 11, 12, 13] _ _ rfl (by kernel_rfl) rfl rfl rfl rfl (fun K w' hk => ?_) ?_
        rotate_left
        · go_step; exact hk
        refine Ord.StI.fl2 (T' := ?_) 10 [6, 7, 8, 9, 11, 12, 13] _ _ rfl (by kernel_rfl) rfl rfl rfl rfl (fun K w' hk => ?_) ?_
        rotate_left
        · go_step; exact hk
        refine Ord.StI.efC 6 [7, 8, 9, 11, 12, 13] _ rfl (by kernel_rfl) (fun K hK => ?_)
        go_wp2_with fail
        refine (siminputs_is n k (by omega) (by omega)).mono ?_
        rintro e w1 ⟨v1, rfl, hr1, _, hc1⟩
        obtain ⟨xa, xc, rfl⟩ := row.shape hr1
        replace hbg := hbg.ch hc1 (by simp)
        replace hbf := hbf.ch hc1 (by simp)
        have hc1 := HCUR.out.trans hc1 (by simp)
        have hnd := HND.out w1 hc1 xa xc hr1
        have HN1 := Lib.hid hnd; clear hnd HND hr1
        have HC2 := Lib.hid hc1; clear hc1 HCUR
        go_wp2_with fail
        refine ⟨rfl, hK _ _ ?_ ?_⟩
        · exact ⟨hbf.cell rfl, hbg.cell rfl⟩
        clear hK K
        refine Ord.StI.efC 7 [8, 9, 11, 12, 13] _ rfl (by kernel_rfl) (fun K hK => ?_)
        go_wp2_with fail
        refine HN1.out.mono ?_
        rintro e w2 ⟨rfl, hbn, hc2⟩
        replace hbg := hbg.ch hc2 (by simp)
        replace hbf := hbf.ch hc2 (by simp)
        have HC3 := Lib.hid (HC2.out.trans hc2 (by simp)); clear hc2 HC2 HN1
        generalize w1.heap.size = nb at *
        have HBN := Lib.hid hbn; clear hbn
        go_wp2_with fail
        refine ⟨rfl, hK _ _ ?_ ?_⟩
        · exact ⟨hbf.cell rfl, hbg.cell rfl⟩
        clear hK K
        refine Ord.StI.efC 8 [9, 11, 12, 13] _ rfl (by kernel_rfl) (fun K hK => ?_)
        go_wp2_with fail
        refine (simof_is (w := w2) (some ⟨nb, 0, none⟩) N N).mono ?_
        rintro e w3 ⟨rfl, hw3⟩
        have hbx := alw_blk (xs := [.slice (some ⟨nb, 0, none⟩) N N]) hw3
        replace hbg := hbg.ch (alw_ch hw3) (by simp)
        replace hbf := hbf.ch (alw_ch hw3) (by simp)
        have hbn := HBN.out.ch (alw_ch hw3) (by simp)
        have hc3 := HC3.out.trans (alw_ch hw3) (by simp)
        clear hw3 HC3 HBN
        generalize w2.heap.size = bx at *
        have htl := HTL.out w3 (fun q hq => (hc3.block q (HQS.out q (by simp [hq])) (by simp)).trans (HQ.out q (by simp [hq]))) bx nb (hbx.cell (i := 0) rfl) hbn
        have HT1 := Lib.hid htl; clear htl HTL hbx hbn
        have HC4 := Lib.hid hc3; clear hc3
        go_wp2_with fail
        refine ⟨rfl, hK _ _ ?_ ?_⟩
        · exact ⟨hbf.cell rfl, hbg.cell rfl⟩
        clear hK K
        refine Ord.StI.ef 9 [11, 12, 13] _ rfl (by kernel_rfl) (fun K hK => ?_)
        have hcf : ∀ args w, (callFunc fid args).run Try.prog w = .ok (.enter fid args) w := HT.out.fn
        go_wp2_with fail
        refine HT1.out.mono ?_
        rintro e w4 ⟨rfl, hc5⟩
        have HC5 := Lib.hid (HC4.out.trans hc5 (by simp)); clear hc5 HC4
        clear hcf HT1
        go_wp2_with fail
        refine ⟨rfl, hK _ _ ?_⟩; clear hK K
        refine Ord.StI.fl2 (T' := ?_) 11 [12, 13] _ _ rfl (by kernel_rfl) rfl rfl rfl rfl (fun K w' hk => ?_) ?_
        rotate_left
        · go_step; exact hk
        refine Ord.StI.efY 12 [13] _ rfl (by kernel_rfl) (fun K hK => ?_)
        obtain ⟨fn, tmps, assign, body, hy1, hR⟩ := HHY.out w4 (HJ.out _ _ _ HJ1.out HC5.out) (List.take_prefix _ _)
        simp only [tabEnc] at hy1
        gi_wp2
        refine hR.mono ?_
        intro e W2 hcase
        obtain ⟨b, rfl, hb⟩ : ∃ b, e = .returned (.bool b) ∧ (b = true ∧ J (T.take (k + 1)) W2 ∧ Kept (bg :: bf :: (F ++ Kf)) w4 W2 ∨ b = false ∧ Jx W2) := by rcases hcase with ⟨rfl, h1, h2⟩ | ⟨rfl, h1⟩; exact ⟨true, rfl, .inl ⟨rfl, h1, h2⟩⟩; exact ⟨false, rfl, .inr ⟨rfl, h1⟩⟩
        have HB := Lib.hid hb; clear hb hcase hR hy1
        gi_wp2
        refine ⟨rfl, hK _ _ ?_⟩; clear hK K
        refine Ord.StI.fl2 (T' := ?_) 13 [] _ _ rfl (by kernel_rfl) rfl rfl rfl rfl (fun K w' hk => ?_) ?_
        rotate_left
        · go_step; exact hk
        refine Ord.StI.nil ?_
        have hbb := HB.out
        clear HB
        cases b
        · have hj2 := Lib.hid ((hbb.resolve_left (by simp)).2); clear hbb
          gi_wp2
          refine bodyPost_ret (results_none rfl _ _ _) rfl ?_
          exact ⟨⟨_, rfl⟩, .inr hj2.out⟩
        · have hj2 := Lib.hid ((hbb.resolve_right (by simp)).2); clear hbb
          gi_wp2
          go_roundw
          case rel => exact ⟨k + 1, by omega, by go_num, fun q hq => (hj2.out.2 q hq).trans ((HC5.out.block q (HQS.out q hq) (by simp)).trans (HQ.out q hq)), hj2.out.1⟩
          case measure => simp [intOf]; omega
      · have hkl : T.take k = T := List.take_of_length_le (by have := HLEN.out; omega)
        rw [hkl] at hj
        have HJ1 := Lib.hid hj; clear hj
        clear hkl
        gi_wp2
        go_end0
        exact ⟨⟨_, rfl⟩, .inl (by rw [← HTT.out]; exact HJ1.out)⟩
end Go.Proofs.Ytkedpifopclipaa
namespace Go.Ord
open Go
theorem list_wide {lp n : Nat} {P : Program} {ops : Array Oper} {Q : Exit → Act → World → Prop} (hnl : ¬ LetsOut Q) : ∀ (l : List Oper) (a : Act) (w : World), l.all noDefer = true → wpList P ops Q l a w → wpListIn (Fence.wide.inRound lp) n P ops Q l a w
  | [], _, _, _, h => h
  | o :: rest, a, w, hq, h => by
    rw [List.all_cons, Bool.and_eq_true] at hq
    unfold wpList at h
    unfold wpListIn
    split
    · rename_i hw
      rw [if_pos hw] at h
      exact wide_in hq.1 (Oper.wp_mono (fun a w hh => list_wide hnl rest a w hq.2 hh) (h.resolve_right fun hh => hnl hh.2))
    · rename_i hw
      rw [if_neg hw] at h
      exact ⟨fun _ _ => trivial, list_wide hnl rest _ w hq.2 h⟩
theorem plainR {lp n id : Nat} {P : Program} {l : List Oper} {Q' : Exit → Act → World → Prop} {a : Act} {w : World} (hqq : l.all noDefer = true) (h : wpList P l.toArray (only (Q' .normal)) l a w) :
    (Code.region id l.toArray false).wpIn (Fence.wide.inRound lp) n P Q' a w := by
  refine Go.wpIn_mono (Q := only (Q' .normal)) ?_ (fun e a w ⟨he, hq⟩ => he ▸ hq)
  exact wpIn_region_lit (list_wide (only_lets _) l a w hqq h)
end Go.Ord
namespace Go.Proofs.Ytkedpifopclipaa
open Go.RowKit Go.Mem Go.Aig
attribute [local go_sem] Oper.semAt_some
/-- what tabled tells -/
def tabE (G : Gra) (l : List Int) : Nat := if badIn G l then 200 else if 16 < (inputs G.nodes).length then 211 else 0
theorem tabE_lt (G : Gra) (l : List Int) : tabE G l ≤ 211 := by unfold tabE; (repeat' split) <;> omega
theorem tabE_ok {G : Gra} {l : List Int} (h : tabE G l = 0) : badIn G l = false ∧ (inputs G.nodes).length ≤ 16 := by
  unfold tabE at h
  by_cases h1 : badIn G l = true
  · rw [if_pos h1] at h; cases h
  · rw [if_neg h1] at h
    split at h
    · cases h
    · exact ⟨by simpa using h1, by omega⟩
section
variable {w : World} {g : Nat} {G : Gra} {F : List Nat}
set_option maxRecDepth 100000 in
set_option maxHeartbeats 2000000 in
theorem simtabled_is (h : GIn w g G F) {a : Option Addr} {l : List Int} (n c : Nat) (hn : l.length = n) (hS : Sl w a l) (hbd : ∀ r ∈ l, r ≤ 9223372036854775807) :
    Calls Try.prog 145 #[.pointer (some ⟨g, 0, none⟩), .slice a n c] w fun e w' => e = .returned (.int .i64 (tabE G l)) ∧ Ch [] w w' := by
  have HCK := simcheck_is h n c hn hS hbd
  have HIN := fun (W : World) (hW : Ch [] w W) => Inputs_g (h.same hW (by simp))
  have HIN := Lib.hid HIN
  unfold tabE
  clear h hS
  cases hb : badIn G l
  · rw [hb] at HCK
    simp only [Bool.false_eq_true, if_false] at HCK ⊢
    by_cases h16 : 16 < (inputs G.nodes).length
    · rw [if_pos h16]
      have e1 : decide (((inputs G.nodes).length : Int) > 16) = true := decide_eq_true (by omega)
      have H16 := Lib.hid h16; clear h16
      generalize hni : (inputs G.nodes).length = ni at *
      have HNI := Lib.hid hni; clear hni
      go_enter Try.func145, Try.ntmps145
      go_wp2_with fail
      refine HCK.mono ?_
      rintro e w1 ⟨rfl, hc1⟩
      have hI := HIN.out w1 hc1
      have HI := Lib.hid hI; clear hI HIN
      have HC1 := Lib.hid hc1; clear hc1
      go_wp2_with fail
      refine HI.out.mono ?_
      rintro e w2 ⟨v, rfl, hr, _, hc2⟩
      obtain ⟨ia, ic, rfl⟩ := row.shape hr
      have HC2 := Lib.hid (HC1.out.trans hc2 (by simp)); clear hc2 hr HI HC1
      go_wp2_with fail
      go_ret
      exact ⟨rfl, HC2.out⟩
    · rw [if_neg h16]
      have e1 : decide (((inputs G.nodes).length : Int) > 16) = false := decide_eq_false (by omega)
      have H16 := Lib.hid h16; clear h16
      generalize hni : (inputs G.nodes).length = ni at *
      have HNI := Lib.hid hni; clear hni
      go_enter Try.func145, Try.ntmps145
      go_wp2_with fail
      refine HCK.mono ?_
      rintro e w1 ⟨rfl, hc1⟩
      have hI := HIN.out w1 hc1
      have HI := Lib.hid hI; clear hI HIN
      have HC1 := Lib.hid hc1; clear hc1
      go_wp2_with fail
      refine HI.out.mono ?_
      rintro e w2 ⟨v, rfl, hr, _, hc2⟩
      obtain ⟨ia, ic, rfl⟩ := row.shape hr
      have HC2 := Lib.hid (HC1.out.trans hc2 (by simp)); clear hc2 hr HI HC1
      go_wp2_with fail
      go_ret
      exact ⟨rfl, HC2.out⟩
  · rw [hb] at HCK
    simp only [if_true] at HCK ⊢
    go_enter Try.func145, Try.ntmps145
    go_wp2_with fail
    refine HCK.mono ?_
    rintro e w1 ⟨rfl, hc1⟩
    have HC1 := Lib.hid hc1; clear hc1
    go_wp2_with fail
    go_ret
    exact ⟨rfl, HC1.out⟩
theorem Sl.one {w : World} {b : Nat} {r : Int} (h : blk w b [.int .i64 r]) : Sl w (some ⟨b, 0, none⟩) [r] := ⟨fun i x hx => by
  rcases i with _ | i
  · cases hx; exact ⟨b, 0, rfl, h.cell rfl⟩
  · simp at hx, by simp⟩
/-- the word of a reference, of the words of the nodes -/
def oneF (r : Int) : List Nat → Nat := fun vs => wref M64 vs r.toNat
/-- what Table returns -/
def tableR (G : Gra) (r : Int) : List Nat × Nat := (if tabE G [r] = 0 then tabW G.nodes (oneF r) (inputs G.nodes).length else [], tabE G [r])
end
end Go.Proofs.Ytkedpifopclipaa
namespace Go.Aig
theorem cntT_le (t : List Nat) : cntT t ≤ 64 * t.length := by
  unfold cntT
  induction t with
  | nil => simp
  | cons a t ih => have := cnt_le a; simp only [List.map_cons, List.sum_cons, List.length_cons]; omega
end Go.Aig
namespace Go.Proofs.Ytkedpifopclipaa
open Go.RowKit Go.Mem Go.Aig
attribute [local go_sem] Oper.semAt_some
/-- what Count returns -/
def countR (G : Gra) (r : Int) : Nat × Nat := (if tabE G [r] = 0 then countV (inputs G.nodes).length (tellR G.nodes (inputs G.nodes).length r.toNat) else 0, tabE G [r])
section
variable {w : World} {g : Nat} {G : Gra} {F : List Nat}
end
end Go.Proofs.Ytkedpifopclipaa
namespace Go
open Go.RowKit Go.Mem
section
variable {F : Fence} {n : Nat} {P : Program}
theorem wpIn_rangeFunc_E {α : Type} {g : Operand} {ps : Array Tmp} {assign body : Code} {Q : Exit → Act → World → Prop} {a : Act} {w : World} (id : Nat) (B : Nat) (hB : w.heap.size = B)
    (hro : F.round = none) (h1 : 1 ≤ n) {gf : Nat} {lb : Array Value} (hg : a.eval g = .func (.func gf) #[] lb) (hFg : F.fn gf) (eg : ∀ args w, (callFunc gf args).run P w = .ok (.enter gf args) w)
    {encs : α → Array Value} {K : List Nat} {xs : List α} (hseq : SeqP F (n - 1) P gf lb encs K xs w) (hK : ∀ k ∈ K, k < B) (hps : ∀ x, (encs x).size = ps.size)
    (I : List α → World → Prop) (Ix : World → Prop) (hI : ∀ s A A', I s A → Ch [B, B + 1] A A' → I s A') (hIx : ∀ A A', Ix A → Ch [B, B + 1] A A' → Ix A') (h0 : I [] w) (a₁ : α → Act)
    (hassign : ∀ (l : Nat) (x : α) (W : World) (K : Act → World → Prop), K (a₁ x) W →
      assign.wpIn (F.inRound l) (n - 1 - 1) P (Exit.then K (fun _ _ _ => False)) { tmps := (ps.zip (encs x)).foldl (fun t (p, v) => t.setIfInBounds p v) a.tmps, defers := [] } W)
    (hbody : ∀ (l : Nat) (pre : List α) (x : α) (W : World), I pre W → B + 2 ≤ W.heap.size → (pre ++ [x]) <+: xs → body.wpIn (F.inRound l) (n - 1 - 1) P (fun e _ W' => Books B W W' ∧ ((e = .normal ∧ I (pre ++ [x]) W' ∧ Kept K W W') ∨ (e = .exit id ∧ Ix W'))) (a₁ x) W)
    (hdone : ∀ (W : World), I xs W → W.heap[B]? = some (.deferred (some [])) → B + 2 ≤ W.heap.size → Q .normal { a with defers := { target := .collected B, args := #[] } :: a.defers } W)
    (hstop : ∀ (W : World), Ix W → W.heap[B]? = some (.deferred (some [])) → B + 2 ≤ W.heap.size → (Code.exit id).wpIn F n P Q { a with defers := { target := .collected B, args := #[] } :: a.defers } W) :
    (Code.rangeFunc g ps assign body).wpIn F n P Q a w := by
  subst hB
  refine wpIn_rangeFunc fun fn hfn => ?_
  rw [hro]
  let rec0 : LoopState → Option Code → Loop := fun st pe => { state := st, pending := pe, fn, tmps := a.tmps, params := ps, assign, body, defers := w.heap.size }
  obtain ⟨W1, hW1⟩ : ∃ W1, (w.alloc (.deferred (some []))).alloc (.loop (rec0 .ready none)) = W1 := ⟨_, rfl⟩
  have hz1 : W1.heap.size = w.heap.size + 2 := by rw [← hW1]; simp
  have hL1 : W1.heap[w.heap.size + 1]? = some (.loop (rec0 .ready none)) := by
    rw [← hW1]; have := World.alloc_heap_new (w.alloc (.deferred (some []))) (.loop (rec0 .ready none)); rwa [World.size_alloc] at this
  have hK1 : W1.heap[w.heap.size]? = some (.deferred (some [])) := by
    rw [← hW1]; exact (Below.heap_alloc _ _ _ (by simp)).trans (World.alloc_heap_new w _)
  have hc1 : Ch [] w W1 := by rw [← hW1]; exact ((Ch.refl _ _).alloc _).alloc _
  have hI1 : I [] W1 := hI _ _ _ h0 (hc1.mono (by simp))
  refine ⟨w.heap.size + 1, [{ target := .collected w.heap.size, args := #[] }], W1, { target := .fn (.func gf) lb, args := #[.func (.yield (w.heap.size + 1)) #[] #[]] }, W1, gf,
    #[.func (.yield (w.heap.size + 1)) #[] #[]] ++ lb, W1, ?_, ?_, ?_, ?_, fun _ => h1, ?_⟩
  · rw [← hW1]; exact run_enterLoop_outer _ _ _ _ _
  · simp only [resolve, hg]
    simp [go_sem]
  · intro f' hf'; simp [Target.leads] at hf'; subst hf'; exact hFg
  · simp [invoke, go_sem, eg]
  · have hKne : ∀ k ∈ K, k ≠ w.heap.size + 1 := fun k hk => by have := hK k hk; omega
    refine (hseq (w.heap.size + 1) (fun pre W => I pre W ∧ w.heap.size + 2 ≤ W.heap.size ∧ W.heap[w.heap.size + 1]? = some (.loop (rec0 .ready none)) ∧ W.heap[w.heap.size]? = some (.deferred (some [])))
      (fun W => Ix W ∧ w.heap.size + 2 ≤ W.heap.size ∧ W.heap[w.heap.size + 1]? = some (.loop (rec0 .done (some (.exit id)))) ∧ W.heap[w.heap.size]? = some (.deferred (some []))) W1 (fun k hk => hc1.block k (hK k hk) (by simp))
      (fun s A A' hs hc => ⟨hI s A A' hs.1 (hc.mono (by simp)), Nat.le_trans hs.2.1 hc.size, (hc.block _ (by have := hs.2.1; omega) (by simp)).trans hs.2.2.1, (hc.block _ (by have := hs.2.1; omega) (by simp)).trans hs.2.2.2⟩)
      (fun A A' hs hc => ⟨hIx A A' hs.1 (hc.mono (by simp)), Nat.le_trans hs.2.1 hc.size, (hc.block _ (by have := hs.2.1; omega) (by simp)).trans hs.2.2.1, (hc.block _ (by have := hs.2.1; omega) (by simp)).trans hs.2.2.2⟩)
      ?_ ⟨hI1, by omega, hL1, hK1⟩).mono ?_
    · rintro pre x W ⟨hi, hz, hl, hk⟩ hpre
      have hlt : w.heap.size + 1 < W.heap.size := by omega
      refine ⟨fn, _, assign, body, run_yield (P := P) (args := encs x) hl (hps x), roundIn_of_wpIn hfn (hassign _ x W _ ⟨_, run_beginRound hl rfl, ?_⟩)⟩
      have hl2 : (W.putObj (w.heap.size + 1) (.loop (rec0 .busy none))).heap[w.heap.size + 1]? = some (.loop (rec0 .busy none)) := World.putObj_heap_same hlt
      have hk2 : (W.putObj (w.heap.size + 1) (.loop (rec0 .busy none))).heap[w.heap.size]? = some (.deferred (some [])) := (World.putObj_heap_other (by omega)).trans hk
      have hK2 : ∀ k ∈ K, (W.putObj (w.heap.size + 1) (.loop (rec0 .busy none))).heap[k]? = W.heap[k]? := fun k hk => World.putObj_heap_other (hKne k hk)
      refine wpIn_mono (hbody _ pre x _ (hI _ _ _ hi (ch_put (by simp))) (by simp; omega) hpre) ?_
      rintro e a3 W3 ⟨⟨hb0, hb1⟩, (⟨rfl, hi3, hk3⟩ | ⟨rfl, hi3⟩)⟩
      · have hl3 := hb1.trans hl2
        have hlt3 := (Array.getElem?_eq_some_iff.1 hl3).1
        refine ⟨_, _, run_endRound (P := P) none hl3, .inl ⟨rfl, ⟨hI _ _ _ hi3 (ch_put (by simp)), by simp; omega, World.putObj_heap_same hlt3, (World.putObj_heap_other (by omega)).trans (hb0.trans hk2)⟩, fun k hk => ?_⟩⟩
        exact (World.putObj_heap_other (hKne k hk)).trans ((hk3 k hk).trans (hK2 k hk))
      · have hl3 := hb1.trans hl2
        have hlt3 := (Array.getElem?_eq_some_iff.1 hl3).1
        refine ⟨_, _, run_endRound (P := P) (some (.exit id)) hl3, .inr ⟨rfl, hIx _ _ hi3 (ch_put (by simp)), by simp; omega, World.putObj_heap_same hlt3, (World.putObj_heap_other (by omega)).trans (hb0.trans hk2)⟩⟩
    · rintro e W2 ⟨⟨v, rfl⟩, (⟨hi, hz, hl, hk⟩ | ⟨hi, hz, hl, hk⟩)⟩
      · exact ⟨none, _, run_endLoop (P := P) hl (by simp [rec0]), hdone _ (hI _ _ _ hi (ch_put (by simp))) ((World.putObj_heap_other (by omega)).trans hk) (by simp; omega)⟩
      · exact ⟨some (.exit id), _, run_endLoop (P := P) hl (by simp [rec0]), hstop _ (hIx _ _ hi (ch_put (by simp))) ((World.putObj_heap_other (by omega)).trans hk) (by simp; omega)⟩
end
end Go
namespace Go.Aig
theorem tabL_prefix {ns : List Nd} {f : List Nat → Nat} {n : Nat} {pre : List (Nat × Nat)} {i x : Nat} (h : (pre ++ [(i, x)]) <+: Go.Proofs.Ytkedpifopclipaa.tabL ns f n) : i = pre.length ∧ i < 2 ^ (n - 6) ∧ (tabW ns f n).getD i 0 = x := by
  obtain ⟨t, ht⟩ := h
  have h1 : (Go.Proofs.Ytkedpifopclipaa.tabL ns f n)[pre.length]? = some (i, x) := by rw [← ht]; simp
  have hl := (List.getElem?_eq_some_iff.1 h1).1
  rw [Go.Proofs.Ytkedpifopclipaa.tabL_len] at hl
  rw [Go.Proofs.Ytkedpifopclipaa.tabL_at ns f n hl] at h1
  have h2 := Option.some.inj h1
  have e1 := congrArg Prod.fst h2
  have e2 := congrArg Prod.snd h2
  simp only at e1 e2
  refine ⟨e1.symm, by omega, ?_⟩
  rw [List.getD_eq_getElem?_getD, ← e1, tab_at ns f n hl]
  exact e2
theorem firstR_none {T : List Nat} {n : Nat} {p : Nat → Bool} (h : TabOf T n p) (h0 : ∀ a, a < 64 * 2 ^ (n - 6) → tbit T a = false) : firstR n p = ([], false) := by
  have : firstV n p = none := firstV_none.2 fun a ha => by
    rw [← h.at' a ha]
    exact h0 a (Nat.lt_of_lt_of_le ha (blocks_le n))
  unfold firstR
  rw [this]
theorem firstR_some {T : List Nat} {n : Nat} {p : Nat → Bool} {a : Nat} (h : TabOf T n p) (ha : a < 64 * 2 ^ (n - 6)) (h1 : tbit T a = true) (h0 : ∀ b, b < a → tbit T b = false) : firstR n p = (asgBits n a, true) ∧ a < 2 ^ n := by
  have hn : a < 2 ^ n := by
    by_cases hn : a < 2 ^ n
    · exact hn
    · rw [h.out a (by omega) ha] at h1; cases h1
  have : firstV n p = some a := by
    unfold firstV
    refine find_range p a (by rw [← h.at' a hn]; exact h1) (fun b hb => by rw [← h.at' b (by omega)]; exact h0 b hb) _ hn
  unfold firstR
  rw [this]
  exact ⟨rfl, hn⟩
theorem asgBits_snoc (n a k : Nat) (hk : k < n) : (asgBits n a).take (k + 1) = (asgBits n a).take k ++ [a.testBit k] := by
  rw [List.take_add_one]
  congr 1
  unfold asgBits
  rw [List.getElem?_map, List.getElem?_range hk]
  rfl
end Go.Aig
namespace Go.Proofs.Ytkedpifopclipaa
open Go.RowKit Go.Mem Go.Aig
attribute [local go_sem] Oper.semAt_some
section
variable {w : World} {g : Nat} {G : Gra} {F : List Nat}
set_option maxRecDepth 100000 in
set_option maxHeartbeats 8000000 in
theorem simfirst_is (h : GIn w g G F) {fid : Nat} {caps : Array Value} {Kf : List Nat} {f : List Nat → Nat} (hT : TellW w fid caps Kf G.nodes.length f) {n : Nat} (hn : (inputs G.nodes).length = n) (h16 : n ≤ 16) {p : Nat → Bool} (hp : TabOf (tabW G.nodes f n) n p) :
    Calls Try.prog 146 #[.pointer (some ⟨g, 0, none⟩), .func (.func fid) #[] caps] w fun e w' => ∃ v, e = .returned (.tuple #[v, .bool (firstR n p).2]) ∧ BNew w v (firstR n p).1 w' := by
  have hFl := h.lt
  have hKl := hT.ksz
  have H := Lib.hid h; clear h
  have HT := Lib.hid hT; clear hT
  have HN := Lib.hid hn; clear hn
  have HP := Lib.hid hp; clear hp
  refine callsIn_wide (n := 4) |>.1 ?_
  refine callsIn_of_wp_marks Try.func146 rfl trivial ?_ rfl
  simp only [Try.ntmps146, List.size_toArray, List.length_cons, List.length_nil, Nat.reduceAdd, Nat.reduceSub, Array.replicate_succ, Array.replicate_zero, List.push_toArray, List.append_toArray, List.nil_append, List.cons_append]
  refine wpIn_wide.2 ?_
  go_wp2_with fail
  refine wp_scope_straight ?_
  go_wp2_with fail
  refine wp_label ?_
  go_upto_region 2 with fail
  refine wp_named fun W3 hW3 => ?_
  have hb6 : blk W3 w.heap.size [.int .i64 (-1)] := by rw [hW3]; exact blk.new' _ _ rfl
  have hc3 : Ch [] w W3 := by rw [hW3]; exact (Ch.refl _ _).alloc _
  clear hW3
  have HB6 := Lib.hid hb6; clear hb6
  have HC3 := Lib.hid hc3; clear hc3
  go_wp2_with fail
  refine (simtable_is W3 g fid caps).mono ?_
  rintro e W5 ⟨rfl, hc5, hbg, hbf, hz5⟩
  have hb6 := HB6.out.ch hc5 (by simp)
  have hz6 := HB6.out.lt
  have hc := HC3.out.trans hc5 (by simp)
  clear hc5 HB6 HC3
  generalize hbG : W3.heap.size = bg at *
  obtain ⟨b6, hb6e⟩ : ∃ b6, w.heap.size = b6 := ⟨_, rfl⟩
  rw [hb6e] at hb6 hz6 hFl hKl
  have H6 := Lib.hid hb6; clear hb6
  have HG := Lib.hid hbg; clear hbg
  have HF := Lib.hid hbf; clear hbf
  have HC5 := Lib.hid hc; clear hc
  have HKT : TellW W5 fid caps Kf G.nodes.length f := ⟨HT.out.fn, HT.out.lt, fun k hk => by have := HT.out.ksz k hk; have := HC5.out.size; omega, fun W hW => HT.out.tells W (fun k hk => (hW k hk).trans (HC5.out.block k (HT.out.ksz k hk) (by simp)))⟩
  have hseq := simtable_seq (H.out.same HC5.out (by simp)) HKT rfl HN.out h16 HG.out HF.out 3 (by omega)
  clear HKT
  rw [hb6e]
  go_wp2_with fail
  refine (wpIn_wide (n := 4)).1 ?_
  obtain ⟨B, hB⟩ : ∃ B, W5.heap.size = B := ⟨_, rfl⟩
  have HB6e := Lib.hid hb6e; clear hb6e
  refine wpIn_rangeFunc_E (n := 4) 0 B hB rfl (by omega) rfl trivial (fun args w => fnvsimtable1 args w) hseq ?kb (fun _ => rfl)
    (fun pre W => blk W b6 [.int .i64 (-1)] ∧ Ch [b6, B, B + 1] W5 W ∧ ∀ a, a < 64 * pre.length → tbit (tabW G.nodes f n) a = false)
    (fun W => ∃ a : Nat, a < 64 * 2 ^ (n - 6) ∧ tbit (tabW G.nodes f n) a = true ∧ (∀ b, b < a → tbit (tabW G.nodes f n) b = false) ∧ blk W b6 [.int .i64 a] ∧ Ch [b6, B, B + 1] W5 W) ?hi ?hx ?h0 ?a1 ?assign ?body ?done ?stop
  case assign =>
    intro q x W K hK
    simp only [tabEnc]
    gi_wp2
    exact hK
  case kb =>
    intro k hk
    simp only [List.mem_cons, List.mem_append] at hk
    rcases hk with rfl | rfl | hk | hk
    · omega
    · omega
    · have := hFl k hk; omega
    · have := hKl k hk; omega
  case hi =>
    rintro pre A A' ⟨h2, h3, h4⟩ hc
    exact ⟨h2.ch hc (by simp; omega), h3.trans (hc.mono (F' := [b6, B, B + 1]) (by simp)) (fun q hq => .inl hq), h4⟩
  case hx =>
    rintro A A' ⟨a, h1, h2, h3, h4, h5⟩ hc
    exact ⟨a, h1, h2, h3, h4.ch hc (by simp; omega), h5.trans (hc.mono (F' := [b6, B, B + 1]) (by simp)) (fun q hq => .inl hq)⟩
  case h0 => exact ⟨H6.out, Ch.refl _ _, fun a ha => by simp at ha⟩
  case body =>
    rintro q pre ⟨i, x⟩ W ⟨hb6, hc, hz⟩ hWl hpx
    obtain ⟨hi, hi2, hxg⟩ := tabL_prefix hpx
    have hxm : x ∈ tabW G.nodes f n := by
      have h1 := List.IsPrefix.subset hpx (List.mem_append_right pre (List.mem_singleton.2 rfl))
      rw [← tabL_snd]
      exact List.mem_map.2 ⟨(i, x), h1, rfl⟩
    have hx := tabW_lt _ _ _ x hxm
    have hi10 : i ≤ 1024 := by
      have : (2 : Nat) ^ (n - 6) ≤ 2 ^ 10 := Nat.pow_le_pow_right (by omega) (by omega)
      omega
    rw [← hi] at hz
    have hbt : ∀ k, k < 64 → tbit (tabW G.nodes f n) (64 * i + k) = x.testBit k := fun k hk => by rw [tbit_at _ _ _ hk, hxg]
    have hb6B : b6 < B := by omega
    have hbgB : bg + 2 ≤ B := by omega
    have hlen : (pre ++ [(i, x)]).length = i + 1 := by simp [hi]
    have HLEN := Lib.hid hlen; clear hlen
    have HBT := Lib.hid hbt; clear hbt
    have HZ := Lib.hid hz; clear hz
    have HB := Lib.hid hB
    have HCC := Lib.hid hc; clear hc
    have HB6' := Lib.hid hb6; clear hb6
    have HI0 := Lib.hid hi; clear hi
    clear hpx hseq hB hxm hxg
    gi_wp2
    gi_loopw [17] (fun y wr => ∃ k : Nat, k ≤ 64 ∧ y = .int .i64 k ∧ wr = W ∧ ∀ j, j < k → x.testBit j = false) (fun y _ => 64 - (intOf y).toNat)
    case atStart => exact ⟨0, by omega, rfl, rfl, fun j hj => by omega⟩
    case round =>
      obtain ⟨k, hk, rfl, rfl, hzk⟩ := hrel
      have HZK := Lib.hid hzk; clear hzk
      by_cases hlt : k < 64
      · have hbit := bit_u64 x k (by omega)
        cases hb : x.testBit k
        · rw [hb] at hbit
          have HBK := Lib.hid hb; clear hb
          gi_wp2
          go_roundw
          case rel =>
            refine ⟨k + 1, by omega, by go_num, trivial, fun j hj => ?_⟩
            by_cases hjk : j < k
            · exact HZK.out j hjk
            · rw [show j = k by omega]; exact HBK.out
          case measure => simp [intOf]; omega
        · rw [hb] at hbit
          have HBK := Lib.hid hb; clear hb
          have c6 := HB6'.out.cell (i := 0) rfl
          have f6 := HB6'.out.frozen (i := 0)
          gi_wp2
          have hcS : Ch [b6] wr (wr.setCell ⟨b6, 0, none⟩ (.int .i64 (64 * (i : Int) + k))) := (Ch.refl _ _).setCell (.inl (by simp)) _
          refine ⟨Books.of_ch hcS hWl (by simp; omega), 64 * i + k, by omega, by rw [HBT.out k hlt]; exact HBK.out, fun b hb => ?_, ?_, HCC.out.trans hcS (by simp)⟩
          · by_cases hbi : b < 64 * i
            · exact HZ.out b hbi
            · rw [show b = 64 * i + (b - 64 * i) by omega, HBT.out _ (by omega)]
              exact HZK.out _ (by omega)
          · have := HB6'.out.set (i := 0) (.int .i64 (64 * (i : Int) + k))
            simpa using this
      · have hk6 : k = 64 := by omega
        subst hk6
        gi_wp2
        have hz := HZ.out
        have hbt := HBT.out
        rw [HI0.out] at hz hbt
        refine ⟨⟨rfl, rfl⟩, ⟨HB6'.out, HCC.out, fun a ha => ?_⟩, fun _ _ => rfl⟩
        by_cases hai : a < 64 * pre.length
        · exact hz a hai
        · rw [show a = 64 * pre.length + (a - 64 * pre.length) by omega, hbt _ (by omega)]
          exact HZK.out _ (by omega)
  case done =>
    rintro W ⟨hb6, hc, hz⟩ hK _
    rw [tabL_len] at hz
    have hfr := firstR_none HP.out hz
    have HFR := Lib.hid hfr; clear hfr
    have c6 := hb6.cell (i := 0) rfl
    have HB6 := Lib.hid hb6; clear hb6
    have HCC := Lib.hid hc; clear hc
    have HK := Lib.hid hK; clear hK
    clear hseq hz
    go_wp2
    simp only [Exit.noGoto]
    refine ⟨by simp, .inl ⟨_, _, rfl, run_takeDeferred HK.out, ?_⟩⟩
    refine ⟨_, results_tmp2 rfl _ _ _, .slice none 0 0, by rw [HFR.out]; rfl, ?_⟩
    rw [HFR.out]
    exact ⟨⟨rfl, .inl ⟨rfl, rfl⟩⟩, by simp, HC5.out.trans (HCC.out.trans (ch_put (l := B) (L := [B]) (by simp)) (fun q hq => .inl (by simp at hq; simp [hq]))) (fun q hq => .inr (by have := HC5.out.size; have := HB6e.out; simp only [List.mem_cons, List.not_mem_nil, or_false] at hq; omega))⟩
  case stop =>
    rintro W ⟨a, ha, hta, hza, hb6, hc⟩ hK hzB
    obtain ⟨hfr, han⟩ := firstR_some HP.out ha hta hza
    have HFR := Lib.hid hfr; clear hfr
    have c6 := hb6.cell (i := 0) rfl
    have HB6 := Lib.hid hb6; clear hb6
    have HCC := Lib.hid hc; clear hc
    have HK := Lib.hid hK; clear hK
    have HI := Inputs_g ((H.out.same HC5.out (by simp)).same HCC.out (fun k hk hin => by have := hFl k hk; simp only [List.mem_cons, List.not_mem_nil, or_false] at hin; omega))
    rw [HN.out] at HI
    have HI := Lib.hid HI
    clear hseq hta hza
    have hzB' : B < W.heap.size := by omega
    refine wpIn_exit ?_
    go_wp2_with fail
    refine HI.out.mono ?_
    rintro e W6 ⟨v, rfl, hrI, _, hc6⟩
    obtain ⟨ia, ic, rfl⟩ := row.shape hrI
    have hk6 := (hc6.block B hzB' (by simp)).trans HK.out
    have c6 := (HB6.out.ch hc6 (by simp)).cell (i := 0) rfl
    have hz66 := hc6.size
    have HCC6 := Lib.hid (HCC.out.trans hc6 (by simp)); clear hc6 hrI
    have HC66 := Lib.hid c6
    have HK6 := Lib.hid hk6; clear hk6
    have hlen : (asgBits n a).length = n := asgBits_len n a
    have HSN := Lib.hid (asgBits_snoc n a)
    have hz6 := HCC6.out.size
    have hz7 := HC5.out.size
    have ha63 : a < 9223372036854775808 := by
      have : (2 : Nat) ^ n ≤ 2 ^ 16 := Nat.pow_le_pow_right (by omega) (by omega)
      omega
    clear HI
    go_wp2_with fail
    go_loopw [10, 35] (fun o i wr => ∃ k : Nat, k ≤ n ∧ i = .int .i64 k ∧ Ch [] W6 wr ∧ row wr 4 1 o k (bools ((asgBits n a).take k)) ∧ ∀ q ∈ o.ownBlock.toList, W6.heap.size ≤ q) (fun _ i _ => n - (intOf i).toNat)
    case atStart => exact ⟨0, by omega, rfl, Ch.refl _ _, ⟨rfl, .inl ⟨rfl, rfl⟩⟩, by simp⟩
    case round =>
      clear c6
      obtain ⟨k, hk, rfl, hc, hrow, hlo⟩ := hrel
      obtain ⟨oa, oc, rfl⟩ := row.shape hrow
      have HROW := Lib.hid hrow; clear hrow
      by_cases hlt : k < n
      · have hsn := HSN.out k hlt
        have c6 := (hc.cell (p := ⟨b6, 0, none⟩) (cell_lt HC66.out) (by simp)).trans HC66.out
        have hbit := bit_i64 a k ha63
        rw [← Nat.testBit_eq_decide_div_mod_eq] at hbit
        have HC := Lib.hid hc; clear hc
        have HLO := Lib.hid hlo; clear hlo
        generalize a.testBit k = tb at hsn hbit
        have hcA : Ch [] wr (wr.alloc (.cells #[.bool tb] 4)) := (Ch.refl _ _).alloc _
        have hrA := HROW.out.ch hcA (by simp)
        have hbA : blk (wr.alloc (.cells #[.bool tb] 4)) wr.heap.size [.bool tb] := blk.new' _ _ rfl
        have HSU := Lib.hid hsn; clear hsn
        have HRA := Lib.hid hrA; clear hrA
        have HBA := Lib.hid hbA; clear hbA
        have HCA := Lib.hid hcA; clear hcA
        go_wp2_with (at_builtin; go_loud (refine wpList_append_row slBools rfl _ _ rfl (v := .slice oa k oc) (n := k) (xs := bools ((asgBits n a).take k)) rfl HRA.out (ad := ⟨wr.heap.size, 0, none⟩) (m := 1) (c := 1) (news := [.bool tb]) rfl rfl (news_blk HBA.out) (by simp [Value.oneCell']) (by omega) (by omega) ?_; intro v' w5 hown4 hC4 hf4; have HO4 := Lib.hid hown4; clear hown4; have HCC4 := Lib.hid hC4; clear hC4; have HF4 := Lib.hid hf4; clear hf4))
        go_roundw
        case rel =>
          obtain ⟨q1, q2⟩ := app_step HC.out HCA.out HLO.out HCC4.out HF4.out
          refine ⟨k + 1, by omega, by go_num, q1, ?_, q2⟩
          rw [HSU.out, show bools ((asgBits n a).take k ++ [tb]) = bools ((asgBits n a).take k) ++ [.bool tb] by simp [bools]]
          exact HO4.out
        case measure => simp [intOf]; omega
      · have hkn : k = n := by omega
        have hall : (asgBits n a).take k = asgBits n a := List.take_of_length_le (by omega)
        have hrow := HROW.out
        rw [hall, hkn] at hrow
        clear HROW
        rw [hkn] at hlo ⊢
        have hk7 := (hc.block B (by omega) (by simp)).trans HK6.out
        have HK7 := Lib.hid hk7; clear hk7
        have HROW := Lib.hid hrow; clear hrow
        have HLO := Lib.hid hlo; clear hlo
        have HC := Lib.hid hc; clear hc hall hkn
        go_wp2_with fail
        simp only [Exit.noGoto]
        refine ⟨by simp, .inl ⟨_, _, rfl, run_takeDeferred HK7.out, ?_⟩⟩
        refine ⟨_, results_tmp2 rfl _ _ _, .slice oa n oc, by rw [HFR.out]; rfl, ?_⟩
        rw [HFR.out]
        have hcB := ch_put (l := B) (L := [B]) (o' := .deferred none) (A := wr) (by simp)
        refine ⟨?_, fun q hq => ?_, ?_⟩
        · have h1 := HROW.out.ch hcB (fun q hq hin => by have := HLO.out q (by rw [hq]; simp); simp at hin; omega)
          show row _ _ 1 _ (asgBits n a).length (bools (asgBits n a))
          rw [asgBits_len]
          exact h1
        · have := HLO.out q hq
          omega
        · exact HC5.out.trans ((HCC6.out.trans HC.out (by simp)).trans hcB (fun q hq => .inl (by simp at hq; simp [hq]))) (fun q hq => .inr (by have := HB6e.out; simp only [List.mem_cons, List.not_mem_nil, or_false] at hq; omega))
end
end Go.Proofs.Ytkedpifopclipaa
namespace Go.Proofs.Ytkedpifopclipaa
open Go.RowKit Go.Mem Go.Aig
/-- what First returns, and what Parts does -/
def firstG (G : Gra) (r : Int) : (List Bool × Bool) × Nat := (if tabE G [r] = 0 then firstR (inputs G.nodes).length (tellR G.nodes (inputs G.nodes).length r.toNat) else ([], false), tabE G [r])
def partsG (G : Gra) (a b : Int) : (List Bool × Bool) × Nat := (if tabE G [a, b] = 0 then firstR (inputs G.nodes).length (tellX G.nodes (inputs G.nodes).length a.toNat b.toNat) else ([], false), tabE G [a, b])
theorem fnvsimParts1 : Fnv 147 := fnv_of Try.func147 (by simp [Try.f147]) (by simp [Try.f147])
theorem bits_xor_u64 (a b : Nat) (ha : a < 18446744073709551616) (hb : b < 18446744073709551616) : bits .xor .u64 (a : Int) (b : Int) = ((a ^^^ b : Nat) : Int) := bits_xor_u64_nat a b ha hb
section
variable {w : World} {g : Nat} {G : Gra} {F : List Nat}
theorem Sl.two {w : World} {b : Nat} {r s : Int} (h : blk w b [.int .i64 r, .int .i64 s]) : Sl w (some ⟨b, 0, none⟩) [r, s] := ⟨fun i x hx => by
  rcases i with _ | _ | i
  · cases hx; exact ⟨b, 0, rfl, h.cell rfl⟩
  · cases hx; exact ⟨b, 0, rfl, h.cell rfl⟩
  · simp at hx, by simp⟩
set_option maxRecDepth 100000 in
set_option maxHeartbeats 2000000 in
theorem simParts1_is {w : World} {bx bo bp nb n r s : Nat} {vs : List Nat} (hr : r < 2 * n) (hs : s < 2 * n) (hn6 : n ≤ 65536) (hb : w.cell? ⟨bo, 0, none⟩ = some (.int .i64 r)) (hb2 : w.cell? ⟨bp, 0, none⟩ = some (.int .i64 s)) (hn : vs.length = n) (hlt : ∀ v ∈ vs, v < 2 ^ 64) (hx : w.cell? ⟨bx, 0, none⟩ = some (.slice (some ⟨nb, 0, none⟩) n n)) (hk : blk w nb (u64s vs)) :
    Calls Try.prog 147 (#[.func (.func 203) #[] #[.pointer (some ⟨bx, 0, none⟩)]] ++ #[.pointer (some ⟨bo, 0, none⟩), .pointer (some ⟨bp, 0, none⟩)]) w fun e w' => e = .returned (.int .u64 (wref U64 vs r ^^^ wref U64 vs s : Nat)) ∧ Ch [] w w' := by
  show Calls Try.prog 147 #[.func (.func 203) #[] #[.pointer (some ⟨bx, 0, none⟩)], .pointer (some ⟨bo, 0, none⟩), .pointer (some ⟨bp, 0, none⟩)] w _
  have hcf : ∀ args w, (callFunc 203 args).run Try.prog w = .ok (.enter 203 args) w := fnvsimof1
  have hO1 := fun (W : World) (hW : Ch [] w W) => simof1_is ((hW.cell (cell_lt hx) (by simp)).trans hx) (hk.ch hW (by simp)) hn hlt r hr (by omega)
  have hO2 := fun (W : World) (hW : Ch [] w W) => simof1_is ((hW.cell (cell_lt hx) (by simp)).trans hx) (hk.ch hW (by simp)) hn hlt s hs (by omega)
  have h1 := wref_lt (N := 64) hlt r
  have h2 := wref_lt (N := 64) hlt s
  rw [u64_pow] at h1 h2
  have hxo := bits_xor_u64_nat (wref U64 vs r) (wref U64 vs s) (by omega) (by omega)
  generalize wref U64 vs r = x at *
  generalize wref U64 vs s = y at *
  have HXO := Lib.hid hxo; clear hxo
  have HO1 := Lib.hid hO1; clear hO1
  have HO2 := Lib.hid hO2; clear hO2
  clear hx hk hlt hn
  go_enter Try.func147, Try.ntmps147
  go_wp2_with fail
  refine Ord.St.door (fun w' => Ch [] w w') [.fl, .ho, .ef, .fl, .ho, .ef, .fl, .fl] [0, 0, 3, 0, 0, 31, 63, 127] [0, 1, 2, 3, 4, 5, 6, 7] mixed (by kernel_rfl) rfl ?_
  obtain ⟨Wc, hWc⟩ : ∃ Wc, Wc = w.drew := ⟨_, rfl⟩
  rw [← hWc]
  have hcur : Ch [] w Wc := by rw [hWc]; exact (Ch.refl _ _).drew
  clear hWc
  refine Ord.St.fl2 (T' := ?_) 0 [1, 2, 3, 4, 5, 6, 7] _ _ rfl (by kernel_rfl) rfl rfl rfl rfl (fun K w' hk => ?_) ?_
  rotate_left
  · go_step; exact hk
  refine Ord.St.ho2 (T' := ?_) 1 [2, 3, 4, 5, 6, 7] _ _ rfl (by kernel_rfl) rfl rfl rfl rfl ?_ (fun K w' hw' hk => ?_) ?_
  rotate_left
  · exact hcur
  · have q1 := (hw'.cell (cell_lt hb) (by simp)).trans hb; have q2 := (hw'.cell (cell_lt hb2) (by simp)).trans hb2; go_step; exact hk
  refine Ord.St.fl2 (T' := ?_) 3 [2, 4, 5, 6, 7] _ _ rfl (by kernel_rfl) rfl rfl rfl rfl (fun K w' hk => ?_) ?_
  rotate_left
  · go_step; exact hk
  refine Ord.St.ho2 (T' := ?_) 4 [2, 5, 6, 7] _ _ rfl (by kernel_rfl) rfl rfl rfl rfl ?_ (fun K w' hw' hk => ?_) ?_
  rotate_left
  · exact hcur
  · have q1 := (hw'.cell (cell_lt hb) (by simp)).trans hb; have q2 := (hw'.cell (cell_lt hb2) (by simp)).trans hb2; go_step; exact hk
  refine Ord.St.efC 2 [5, 6, 7] _ rfl (by kernel_rfl) (fun K hK => ?_)
  go_wp2_with fail
  refine (HO1.out _ hcur).mono ?_
  rintro e w' ⟨rfl, rfl⟩
  go_wp2_with fail
  refine ⟨rfl, hK _ _ ?_ ?_⟩
  · exact hcur
  clear hK K
  refine Ord.St.ef 5 [6, 7] _ rfl (by kernel_rfl) (fun K hK => ?_)
  go_wp2_with fail
  refine (HO2.out _ hcur).mono ?_
  rintro e w' ⟨rfl, rfl⟩
  go_wp2_with fail
  refine ⟨rfl, hK _ _ ?_⟩; clear hK K
  refine Ord.St.fl2 (T' := ?_) 6 [7] _ _ rfl (by kernel_rfl) rfl rfl rfl rfl (fun K w' hk => ?_) ?_
  rotate_left
  · go_step; exact hk
  refine Ord.St.fl2 (T' := ?_) 7 [] _ _ rfl (by kernel_rfl) rfl rfl rfl rfl (fun K w' hk => ?_) ?_
  rotate_left
  · go_step; exact hk
  refine Ord.St.nil ?_
  go_wp2_with fail
  go_ret
  exact ⟨ret_int HXO.out, hcur⟩
theorem two_tells {w : World} {bo bp n r s : Nat} (hr : r < 2 * n) (hs : s < 2 * n) (hn6 : n ≤ 65536) (hb : blk w bo [.int .i64 r]) (hb2 : blk w bp [.int .i64 s]) : TellW w 147 #[.pointer (some ⟨bo, 0, none⟩), .pointer (some ⟨bp, 0, none⟩)] [bo, bp] n (fun vs => wref U64 vs r ^^^ wref U64 vs s) :=
  ⟨fnvsimParts1, fun vs h _ => by
    have h1 := wref_lt (N := 64) h r
    have h2 := wref_lt (N := 64) h s
    rw [u64_pow] at h1 h2
    exact Nat.xor_lt_two_pow h1 h2, fun k hk => by
      simp only [List.mem_cons, List.not_mem_nil, or_false] at hk
      rcases hk with rfl | rfl
      · exact hb.lt
      · exact hb2.lt, fun W hW bx nb vs hn hlt hx hk => simParts1_is hr hs hn6 ((hb.keep (hW bo (by simp))).cell (i := 0) rfl) ((hb2.keep (hW bp (by simp))).cell (i := 0) rfl) hn hlt hx hk⟩
set_option maxRecDepth 100000 in
set_option maxHeartbeats 2000000 in
theorem simParts_is (h : GIn w g G F) (r s : Int) (hr : -9223372036854775808 ≤ r ∧ r ≤ 9223372036854775807) (hs : -9223372036854775808 ≤ s ∧ s ≤ 9223372036854775807) :
    Calls Try.prog 71 #[.pointer (some ⟨g, 0, none⟩), .int .i64 r, .int .i64 s] w fun e w' => ∃ v, e = .returned (.tuple #[v, .bool (partsG G r s).1.2, .int .i64 (partsG G r s).2]) ∧ BNew w v (partsG G r s).1.1 w' := by
  have HTD := fun (W : World) (hW : Ch [] w W) (b : Nat) (hb : blk W b [.int .i64 r, .int .i64 s]) => simtabled_is (h.same hW (by simp)) (l := [r, s]) 2 2 rfl (Sl.two hb) (by simp; omega)
  unfold partsG
  have hok := tabE_ok (G := G) (l := [r, s])
  generalize tabE G [r, s] = te at *
  have HTD := Lib.hid HTD
  by_cases h0 : te = 0
  · subst h0
    obtain ⟨hbad, h16⟩ := hok rfl
    have hrr := badIn_no hbad
    obtain ⟨r0, rfl⟩ : ∃ r0 : Nat, r = (r0 : Int) := ⟨r.toNat, by
      have := hrr.1
      simp [nats] at this
      omega⟩
    obtain ⟨s0, rfl⟩ : ∃ s0 : Nat, s = (s0 : Int) := ⟨s.toNat, by
      have := hrr.1
      simp [nats] at this
      omega⟩
    have hrl : r0 < 2 * G.nodes.length := hrr.2 r0 (by simp [nats])
    have hsl : s0 < 2 * G.nodes.length := hrr.2 s0 (by simp [nats])
    have hnl : G.nodes.length ≤ 65536 := by have := h.ok.room; have := h.ok.most; omega
    rw [if_pos rfl]
    have HF := fun (W : World) (hW : Ch [] w W) (bo bp : Nat) (hb : blk W bo [.int .i64 r0]) (hb2 : blk W bp [.int .i64 s0]) => simfirst_is (h.same hW (by simp)) (two_tells hrl hsl hnl hb hb2) rfl h16 (tabx_of G.nodes r0 s0 _)
    rw [show (r0 : Int).toNat = r0 from rfl, show (s0 : Int).toNat = s0 from rfl]
    generalize firstR (inputs G.nodes).length (tellX G.nodes (inputs G.nodes).length r0 s0) = R at *
    obtain ⟨rl, rb⟩ := R
    have HF := Lib.hid HF
    clear hok hbad hrr h h16 hrl hsl
    go_enter Try.func71, Try.ntmps71
    go_wp2_with fail
    refine calls_named fun W1 hW1 => ?_
    have hc1 : Ch [] w W1 := by rw [hW1]; exact (((Ch.refl _ _).alloc _).alloc _).alloc _
    have hb1 : blk W1 w.heap.size [.int .i64 r0] := by rw [hW1]; exact ((blk.new' _ _ (by simp)).alloc _).alloc _
    have hb2 : blk W1 (w.heap.size + 1) [.int .i64 s0] := by rw [hW1]; exact (blk.new' _ _ (by simp)).alloc _
    have hb3 : blk W1 (w.heap.size + 2) [.int .i64 r0, .int .i64 s0] := by rw [hW1]; exact blk.new' _ _ (by simp)
    clear hW1
    refine (HTD.out W1 hc1 _ hb3).mono ?_
    rintro e w2 ⟨rfl, hc2⟩
    have hf := HF.out w2 (hc1.trans hc2 (by simp)) _ _ (hb1.ch hc2 (by simp)) (hb2.ch hc2 (by simp))
    have HC4 := Lib.hid (hc1.trans hc2 (by simp)); clear HTD hb1 hb2 hb3 hc1 hc2
    have HF := Lib.hid hf; clear hf
    go_wp2_with fail
    refine HF.out.mono ?_
    rintro e W5 ⟨v, rfl, hrow, hv, hc5⟩
    obtain ⟨va, vc, rfl⟩ := row.shape hrow
    have HR := Lib.hid hrow; clear hrow
    have HV := Lib.hid hv; clear hv
    have HC5 := Lib.hid hc5; clear hc5
    go_wp2_with fail
    go_ret3
    exact ⟨_, rfl, HR.out, fun q hq => Nat.le_trans HC4.out.size (HV.out q hq), HC4.out.trans HC5.out (by simp)⟩
  · rw [if_neg h0]
    have e1 : ((te : Int) != 0) = true := by simp; omega
    have HH0 := Lib.hid h0; clear h0 hok
    go_enter Try.func71, Try.ntmps71
    go_wp2_with fail
    refine calls_named fun W1 hW1 => ?_
    have hc1 : Ch [] w W1 := by rw [hW1]; exact (((Ch.refl _ _).alloc _).alloc _).alloc _
    have hb3 : blk W1 (w.heap.size + 2) [.int .i64 r, .int .i64 s] := by rw [hW1]; exact blk.new' _ _ (by simp)
    clear hW1
    refine (HTD.out W1 hc1 _ hb3).mono ?_
    rintro e w2 ⟨rfl, hc2⟩
    have HC2 := Lib.hid (hc1.trans hc2 (by simp)); clear hc1 hc2 hb3
    go_wp2_with fail
    go_ret3
    exact ⟨_, rfl, ⟨rfl, .inl ⟨rfl, rfl⟩⟩, by simp, HC2.out⟩
end
end Go.Proofs.Ytkedpifopclipaa
namespace Go.Aig
/-- a small one: kind, and three numbers -/
structure Sm where
  k : Nat
  a : Nat
  b : Nat
  c : Nat
def pickI (len n : Nat) : Nat := len - 1 - n / 2 % len
def pickR (refs : List Nat) (n : Nat) : Nat := if n % 2 = 1 then neg (refs.getD (pickI refs.length n) 0) else refs.getD (pickI refs.length n) 0
def pickW (want : List Nat) (n : Nat) : Nat := if n % 2 = 1 then want.getD (pickI want.length n) 0 ^^^ 65535 else want.getD (pickI want.length n) 0
def stepW (want : List Nat) (x : Sm) : Nat :=
  let u := pickW want x.a; let v := pickW want x.b; let w := pickW want x.c
  if x.k % 6 = 0 then u &&& v else if x.k % 6 = 1 then u ||| v else if x.k % 6 = 2 then u ^^^ v else if x.k % 6 = 3 then (u &&& v) ||| ((u ^^^ 65535) &&& w) else if x.k % 6 = 4 then u &&& v &&& w else u ||| v ||| w
theorem xor_lt {a : Nat} (h : a < 65536) : a ^^^ 65535 < 65536 := Nat.xor_lt_two_pow (n := 16) h (by decide)
theorem pickW_lt {want : List Nat} (h : ∀ x ∈ want, x < 65536) (n : Nat) : pickW want n < 65536 := by
  have hd : ∀ i, want.getD i 0 < 65536 := fun i => by
    rw [List.getD_eq_getElem?_getD]
    cases hi : want[i]? with
    | none => simp
    | some x => exact h x (List.mem_of_getElem? hi)
  unfold pickW; split
  · exact xor_lt (hd _)
  · exact hd _
theorem pickI_lt {len : Nat} (h : 0 < len) (n : Nat) : pickI len n < len := by unfold pickI; omega
theorem pickR_lt {refs : List Nat} {m : Nat} (h : ∀ r ∈ refs, r < 2 * m) (h0 : 0 < refs.length) (n : Nat) : pickR refs n < 2 * m := by
  have hd : refs.getD (pickI refs.length n) 0 < 2 * m := by
    rw [List.getD_eq_getElem?_getD, List.getElem?_eq_getElem (pickI_lt h0 n)]
    exact h _ (List.getElem_mem _)
  unfold pickR; split
  · exact neg_lt hd
  · exact hd
theorem stepW_lt {want : List Nat} (h : ∀ x ∈ want, x < 65536) (x : Sm) : stepW want x < 65536 := by
  have hu := pickW_lt h x.a
  have hv := pickW_lt h x.b
  have hw := pickW_lt h x.c
  have ha : ∀ {a b : Nat}, a < 65536 → b < 65536 → a &&& b < 65536 := fun {a b} h1 h2 => Nat.and_lt_two_pow (n := 16) _ h2
  have ho : ∀ {a b : Nat}, a < 65536 → b < 65536 → a ||| b < 65536 := fun {a b} h1 h2 => Nat.or_lt_two_pow (n := 16) h1 h2
  have hx : ∀ {a b : Nat}, a < 65536 → b < 65536 → a ^^^ b < 65536 := fun {a b} h1 h2 => Nat.xor_lt_two_pow (n := 16) h1 h2
  unfold stepW
  (repeat' split)
  · exact ha hu hv
  · exact ho hu hv
  · exact hx hu hv
  · exact ho (ha hu hv) (ha (xor_lt hu) hw)
  · exact ha (ha hu hv) hw
  · exact ho (ho hu hv) hw
end Go.Aig
namespace Go.Proofs.Ytkedpifopclipaa
open Go.RowKit Go.Mem Go.Aig
section
variable {w : World} {g : Value} {ra wa : Option Addr} {refs want : List Nat}
end
end Go.Proofs.Ytkedpifopclipaa
namespace Go.Proofs.Ytkedpifopclipaa
open Go.RowKit Go.Mem Go.Aig
def stepRes (G : Gra) (refs : List Nat) (x : Sm) : Res :=
  let p := pickR refs x.a; let q := pickR refs x.b; let r := pickR refs x.c
  if x.k % 6 = 0 then doAnd G p q else if x.k % 6 = 1 then doOr G p q else if x.k % 6 = 2 then doXor G p q else if x.k % 6 = 3 then doMux G p q r else if x.k % 6 = 4 then doAll G [p, q, r] else doAny G [p, q, r]
theorem and_words (x y : Nat) (hx : x < 65536) (hy : y < 65536) : bits .and .u64 (x : Int) (y : Int) = ((x &&& y : Nat) : Int) := bits_and_u64_nat x y (by omega) (by omega)
theorem or_words (x y : Nat) (hx : x < 65536) (hy : y < 65536) : bits .or .u64 (x : Int) (y : Int) = ((x ||| y : Nat) : Int) := bits_or_u64_nat x y (by omega) (by omega)
theorem xor_words (x y : Nat) (hx : x < 65536) (hy : y < 65536) : bits .xor .u64 (x : Int) (y : Int) = ((x ^^^ y : Nat) : Int) := bits_xor_u64_nat x y (by omega) (by omega)
theorem ret_iii {k l m : IntKind} {a b c d e f : Int} (h : a = b) (h' : c = d) (h'' : e = f) : Ending.returned (.tuple #[.int k a, .int l c, .int m e]) = .returned (.tuple #[.int k b, .int l d, .int m f]) := by rw [h, h', h'']
theorem and3_lt {a b : Nat} (_h1 : a < 65536) (h2 : b < 65536) : a &&& b < 65536 := Nat.and_lt_two_pow (n := 16) _ h2
theorem or3_lt {a b : Nat} (h1 : a < 65536) (h2 : b < 65536) : a ||| b < 65536 := Nat.or_lt_two_pow (n := 16) h1 h2
theorem mux_words (u v w : Nat) (hu : u < 65536) (hv : v < 65536) (hw : w < 65536) : bits .or .u64 (bits .and .u64 (u : Int) (v : Int)) (bits .and .u64 (bits .and .u64 (bits .xor .u64 IntKind.u64.max (u : Int)) (w : Int)) 65535) = (((u &&& v) ||| ((u ^^^ 65535) &&& w) : Nat) : Int) := by
  have h1 := bits_xor_u64_nat 18446744073709551615 u (by omega) (by omega)
  have h2 : 18446744073709551615 ^^^ u < 2 ^ 64 := Nat.xor_lt_two_pow (by omega) (by omega)
  have h3 := bits_and_u64_nat (18446744073709551615 ^^^ u) w (by omega) (by omega)
  have h4 : (18446744073709551615 ^^^ u) &&& w < 65536 := Nat.and_lt_two_pow (n := 16) _ hw
  have h5 := and_words ((18446744073709551615 ^^^ u) &&& w) 65535 h4 (by omega)
  have h6 : ((18446744073709551615 ^^^ u) &&& w) &&& 65535 < 65536 := Nat.and_lt_two_pow (n := 16) _ (by omega)
  rw [show IntKind.u64.max = ((18446744073709551615 : Nat) : Int) from by decide, h1, h3, show (65535 : Int) = ((65535 : Nat) : Int) from rfl, h5, and_words u v hu hv, or_words _ _ (and3_lt hu hv) h6]
  congr 2
  apply Nat.eq_of_testBit_eq
  intro i
  simp only [Nat.testBit_and, Nat.testBit_xor]
  rw [show (18446744073709551615 : Nat) = 2 ^ 64 - 1 from rfl, show (65535 : Nat) = 2 ^ 16 - 1 from rfl, Nat.testBit_two_pow_sub_one, Nat.testBit_two_pow_sub_one]
  by_cases hi : i < 16
  · have : i < 64 := by omega
    simp [hi, this]
  · have hw' : w.testBit i = false := Nat.testBit_lt_two_pow (Nat.lt_of_lt_of_le hw (by show 2 ^ 16 ≤ 2 ^ i; exact Nat.pow_le_pow_right (by omega) (by omega)))
    simp [hw']
section
variable {w : World} {g : Nat} {G : Gra} {F : List Nat} {ra wa : Option Addr} {refs want : List Nat}
/-- what step is told of the graph, and of the two slices -/
structure Told (w : World) (g : Nat) (G : Gra) (F : List Nat) (ra wa : Option Addr) (len : Nat) (refs want : List Nat) : Prop where
  gin : GIn w g G F
  hr : Sv w ra (refsCells refs)
  hw : Sv w wa (u64s want)
  l1 : refs.length = len
  l2 : want.length = len
  pos : 0 < len
  max : len ≤ 1000000
  ar : ∀ p, ra = some p → p.block < w.heap.size ∧ p.block ∉ F
  aw : ∀ p, wa = some p → p.block < w.heap.size ∧ p.block ∉ F
  words : ∀ x ∈ want, x < 65536
  refs : ∀ r ∈ refs, r < 2 * G.nodes.length
theorem Told.same {w' : World} {len : Nat} (h : Told w g G F ra wa len refs want) (hc : Ch [] w w') : Told w' g G F ra wa len refs want :=
  ⟨h.gin.same hc (by simp), h.hr.ch hc (by simp), h.hw.ch hc (by simp), h.l1, h.l2, h.pos, h.max, fun p hp => ⟨Nat.lt_of_lt_of_le (h.ar p hp).1 hc.size, (h.ar p hp).2⟩, fun p hp => ⟨Nat.lt_of_lt_of_le (h.aw p hp).1 hc.size, (h.aw p hp).2⟩, h.words, h.refs⟩
theorem Sl.new3 (w : World) (p q z : Int) : Sl (w.alloc (.cells #[.int .i64 p, .int .i64 q, .int .i64 z] 45)) (some ⟨w.heap.size, 0, none⟩) [p, q, z] := ⟨fun i y hy => ⟨_, _, rfl, by
  have hb : blk (w.alloc (.cells #[.int .i64 p, .int .i64 q, .int .i64 z] 45)) w.heap.size [.int .i64 p, .int .i64 q, .int .i64 z] := blk.new' _ _ rfl
  have hi : i < 3 := (List.getElem?_eq_some_iff.1 hy).1
  rcases i with _ | _ | _ | i
  all_goals first | omega | (simp at hy; subst hy; exact hb.cell rfl)⟩, by simp⟩
theorem blk3 {w : World} {b : Nat} {x y z : Value} (h : blk w b [x, y, z]) : w.cell? ⟨b, 0, none⟩ = some x ∧ w.cell? ⟨b, 1, none⟩ = some y ∧ w.cell? ⟨b, 2, none⟩ = some z := ⟨h.cell rfl, h.cell rfl, h.cell rfl⟩
theorem blk4 {w : World} {b : Nat} {x y z t : Value} (h : blk w b [x, y, z, t]) : w.cell? ⟨b, 0, none⟩ = some x ∧ w.cell? ⟨b, 1, none⟩ = some y ∧ w.cell? ⟨b, 2, none⟩ = some z ∧ w.cell? ⟨b, 3, none⟩ = some t := ⟨h.cell rfl, h.cell rfl, h.cell rfl, h.cell rfl⟩
end
end Go.Proofs.Ytkedpifopclipaa
namespace Go.Aig
theorem and_room {G : Gra} {a b : Nat} (h : G.nodes.length < G.most) : (Aig.and G a b).2.2 = 0 ∧ (Aig.and G a b).1.nodes.length ≤ G.nodes.length + 1 := by
  unfold Aig.and
  split
  · exact ⟨rfl, by show G.nodes.length ≤ _; omega⟩
  · split
    · exact ⟨rfl, by show G.nodes.length ≤ _; omega⟩
    · unfold put
      rw [if_neg (by omega)]
      exact ⟨rfl, by simp⟩
theorem and_most (G : Gra) (a b : Nat) : (Aig.and G a b).1.most = G.most := by
  unfold Aig.and put; (repeat' split) <;> rfl
theorem mand_room {s : Mk} {a b : Nat} (he : s.2 = 0) (h : s.1.nodes.length < s.1.most) : (mand s a b).1.2 = 0 ∧ (mand s a b).1.1.nodes.length ≤ s.1.nodes.length + 1 ∧ (mand s a b).1.1.most = s.1.most := by
  unfold mand
  rw [if_neg (by omega)]
  obtain ⟨h1, h2⟩ := and_room (a := a) (b := b) h
  exact ⟨h1, h2, and_most _ _ _⟩
theorem mor_room {s : Mk} {a b : Nat} (he : s.2 = 0) (h : s.1.nodes.length < s.1.most) : (mor s a b).1.2 = 0 ∧ (mor s a b).1.1.nodes.length ≤ s.1.nodes.length + 1 ∧ (mor s a b).1.1.most = s.1.most := mand_room (a := neg a) (b := neg b) he h
theorem mmux_room {s : Mk} {c a b : Nat} (he : s.2 = 0) (h : s.1.nodes.length + 3 ≤ s.1.most) : (mmux s c a b).1.2 = 0 ∧ (mmux s c a b).1.1.nodes.length ≤ s.1.nodes.length + 3 ∧ (mmux s c a b).1.1.most = s.1.most := by
  obtain ⟨h1, h2, h3⟩ := mand_room (a := c) (b := a) he (by omega)
  obtain ⟨h4, h5, h6⟩ := mand_room (a := neg c) (b := b) h1 (by omega)
  obtain ⟨h7, h8, h9⟩ := mor_room (a := (mand s c a).2) (b := (mand (mand s c a).1 (neg c) b).2) h4 (by omega)
  exact ⟨h7, by show (mor _ _ _).1.1.nodes.length ≤ _; omega, by show (mor _ _ _).1.1.most = _; omega⟩
theorem mall_room : ∀ (l : List Nat) {s : Mk} {out : Nat}, s.2 = 0 → s.1.nodes.length + l.length ≤ s.1.most → (mall s out l).1.2 = 0 ∧ (mall s out l).1.1.nodes.length ≤ s.1.nodes.length + l.length ∧ (mall s out l).1.1.most = s.1.most
  | [], s, out, he, _ => ⟨he, by simp [mall], rfl⟩
  | r :: l, s, out, he, h => by
    simp only [List.length_cons] at h ⊢
    obtain ⟨h1, h2, h3⟩ := mand_room (a := out) (b := r) he (by omega)
    obtain ⟨h4, h5, h6⟩ := mall_room l (s := (mand s out r).1) (out := (mand s out r).2) h1 (by omega)
    refine ⟨h4, ?_, ?_⟩
    · show (mall (mand s out r).1 (mand s out r).2 l).1.1.nodes.length ≤ _; omega
    · show (mall (mand s out r).1 (mand s out r).2 l).1.1.most = _; omega
/-- what a maker is that keeps all in order -/
structure Good (f : Mk → Mk × Nat) (G : Gra) (k : Nat) (v : (Nat → Bool) → Bool) : Prop where
  ok : MOk (f (G, 0)).1
  ext : Ext G (f (G, 0)).1.1
  lt : (f (G, 0)).2 < 2 * (f (G, 0)).1.1.nodes.length
  sem : ∀ env, (f (G, 0)).1.2 = 0 → bv env (f (G, 0)).1.1.nodes (f (G, 0)).2 = v env
  room : G.nodes.length + k ≤ G.most → (f (G, 0)).1.2 = 0 ∧ (f (G, 0)).1.1.nodes.length ≤ G.nodes.length + k
theorem right_of {ns : List Nd} {r : Nat} (h : r < 2 * ns.length) : right ns (r : Int) = true := by unfold right; simp; omega
theorem whole_good {G : Gra} {l : List Nat} {f : Mk → Mk × Nat} {k : Nat} {v : (Nat → Bool) → Bool} (hl : ∀ r ∈ l, r < 2 * G.nodes.length) (h : Good f G k v) (hok : Ok G) :
    Ok (whole G (l.map fun (r : Nat) => (r : Int)) f).1 ∧ Ext G (whole G (l.map fun (r : Nat) => (r : Int)) f).1 ∧ (whole G (l.map fun (r : Nat) => (r : Int)) f).2.1 < 2 * (whole G (l.map fun (r : Nat) => (r : Int)) f).1.nodes.length ∧
      (∀ env, (whole G (l.map fun (r : Nat) => (r : Int)) f).2.2 = 0 → bv env (whole G (l.map fun (r : Nat) => (r : Int)) f).1.nodes (whole G (l.map fun (r : Nat) => (r : Int)) f).2.1 = v env) ∧
      (G.nodes.length + k ≤ G.most → (whole G (l.map fun (r : Nat) => (r : Int)) f).2.2 = 0 ∧ (whole G (l.map fun (r : Nat) => (r : Int)) f).1.nodes.length ≤ G.nodes.length + k) := by
  have hany : ((l.map fun (r : Nat) => (r : Int)).any fun r => !right G.nodes r) = false := by
    rw [List.any_eq_false]
    intro x hx
    obtain ⟨r, hr, rfl⟩ := List.mem_map.1 hx
    simp [right_of (hl r hr)]
  have hp := hok.wf.pos
  unfold whole
  rw [hany]
  simp only [Bool.false_eq_true, if_false]
  by_cases he : (f (G, 0)).1.2 = 0
  · rw [if_neg (by omega)]
    exact ⟨h.ok.ok, h.ext, h.lt, fun env _ => h.sem env he, fun hk => ⟨rfl, (h.room hk).2⟩⟩
  · rw [if_pos (by omega)]
    exact ⟨hok, Ext.refl _, by show 0 < 2 * G.nodes.length; omega, fun env hz => (he hz).elim, fun hk => (he (h.room hk).1).elim⟩
section
variable {G : Gra} (h : Ok G)
include h
theorem mok0 : MOk (G, 0) := ⟨h, .inl rfl⟩
theorem good_and {a b : Nat} (ha : a < 2 * G.nodes.length) (hb : b < 2 * G.nodes.length) : Good (fun s => mand s a b) G 1 (fun env => bv env G.nodes a && bv env G.nodes b) := by
  obtain ⟨h1, h2, h3⟩ := mand_ok (mok0 h) ha hb
  exact ⟨h1, h2, h3, fun env he => mand_sem env (mok0 h) ha hb he, fun hk => ⟨(mand_room (s := (G, 0)) rfl hk).1, (mand_room (s := (G, 0)) rfl hk).2.1⟩⟩
theorem good_or {a b : Nat} (ha : a < 2 * G.nodes.length) (hb : b < 2 * G.nodes.length) : Good (fun s => mor s a b) G 1 (fun env => bv env G.nodes a || bv env G.nodes b) := by
  obtain ⟨h1, h2, h3⟩ := mor_ok (mok0 h) ha hb
  exact ⟨h1, h2, h3, fun env he => mor_sem env (mok0 h) ha hb he, fun hk => ⟨(mor_room (s := (G, 0)) rfl hk).1, (mor_room (s := (G, 0)) rfl hk).2.1⟩⟩
theorem good_mux {c a b : Nat} (hc : c < 2 * G.nodes.length) (ha : a < 2 * G.nodes.length) (hb : b < 2 * G.nodes.length) : Good (fun s => mmux s c a b) G 3 (fun env => bv env G.nodes c && bv env G.nodes a || !bv env G.nodes c && bv env G.nodes b) := by
  obtain ⟨h1, h2, h3⟩ := mmux_ok (mok0 h) hc ha hb
  exact ⟨h1, h2, h3, fun env he => mmux_sem env (mok0 h) hc ha hb he, fun hk => ⟨(mmux_room (s := (G, 0)) rfl hk).1, (mmux_room (s := (G, 0)) rfl hk).2.1⟩⟩
theorem good_all {l : List Nat} (hl : ∀ r ∈ l, r < 2 * G.nodes.length) : Good (fun s => mall s 1 l) G l.length (fun env => l.all fun r => bv env G.nodes r) := by
  have hp := h.wf.pos
  obtain ⟨h1, h2, h3⟩ := mall_ok l (mok0 h) (show 1 < 2 * G.nodes.length by omega) hl
  refine ⟨h1, h2, h3, fun env he => ?_, fun hk => ⟨(mall_room l (s := (G, 0)) rfl hk).1, (mall_room l (s := (G, 0)) rfl hk).2.1⟩⟩
  have := mall_sem env l (mok0 h) (show 1 < 2 * G.nodes.length by omega) hl he
  rw [this]
  show (bv env G.nodes 1 && _) = _
  rw [bv_one env h.wf, Bool.true_and]
theorem good_any {l : List Nat} (hl : ∀ r ∈ l, r < 2 * G.nodes.length) : Good (fun s => many s l) G l.length (fun env => l.any fun r => bv env G.nodes r) := by
  have hl' : ∀ r ∈ l.map neg, r < 2 * G.nodes.length := fun r hr => by
    obtain ⟨x, hx, rfl⟩ := List.mem_map.1 hr
    exact neg_lt (hl x hx)
  have := good_all h hl'
  refine ⟨this.ok, this.ext, neg_lt this.lt, fun env he => ?_, fun hk => ?_⟩
  rotate_left
  · obtain ⟨h1, h2⟩ := this.room (by simpa using hk)
    exact ⟨h1, by simpa [many] using h2⟩
  have h2 := this.sem env he
  show bv env (mall (G, 0) 1 (l.map neg)).1.1.nodes (neg (mall (G, 0) 1 (l.map neg)).2) = _
  rw [bv_neg, h2]
  simp only [List.all_map, Function.comp_def, bv_neg]
  simp [List.any_eq_not_all_not]
end
end Go.Aig
namespace Go.Proofs.Ytkedpifopclipaa
open Go.Aig
abbrev Good := @Go.Aig.Good
/-- the maker of a small one, the references that it takes, and what it means -/
def stepMk (refs : List Nat) (x : Sm) : Mk → Mk × Nat := fun s =>
  let p := pickR refs x.a; let q := pickR refs x.b; let r := pickR refs x.c
  if x.k % 6 = 0 then mand s p q else if x.k % 6 = 1 then mor s p q else if x.k % 6 = 2 then mmux s p (neg q) q else if x.k % 6 = 3 then mmux s p q r else if x.k % 6 = 4 then mall s 1 [p, q, r] else many s [p, q, r]
def stepArgs (refs : List Nat) (x : Sm) : List Nat := if x.k % 6 < 3 then [pickR refs x.a, pickR refs x.b] else [pickR refs x.a, pickR refs x.b, pickR refs x.c]
def stepV (u v w : Bool) (k : Nat) : Bool :=
  if k % 6 = 0 then u && v else if k % 6 = 1 then u || v else if k % 6 = 2 then Bool.xor u v else if k % 6 = 3 then (u && v || !u && w) else if k % 6 = 4 then u && v && w else u || v || w
theorem stepRes_eq (G : Gra) (refs : List Nat) (x : Sm) : stepRes G refs x = whole G ((stepArgs refs x).map fun (r : Nat) => (r : Int)) (stepMk refs x) := by
  unfold stepRes stepArgs stepMk
  rcases (show x.k % 6 = 0 ∨ x.k % 6 = 1 ∨ x.k % 6 = 2 ∨ x.k % 6 = 3 ∨ x.k % 6 = 4 ∨ x.k % 6 = 5 by omega) with e | e | e | e | e | e <;> simp [e, doAnd, doOr, doXor, doMux, doAll, doAny]
theorem stepMk_good {G : Gra} (h : Ok G) {refs : List Nat} (hr : ∀ r ∈ refs, r < 2 * G.nodes.length) (h0 : 0 < refs.length) (x : Sm) :
    Good (stepMk refs x) G 3 (fun env => stepV (bv env G.nodes (pickR refs x.a)) (bv env G.nodes (pickR refs x.b)) (bv env G.nodes (pickR refs x.c)) x.k) := by
  have hp := pickR_lt hr h0 x.a
  have hq := pickR_lt hr h0 x.b
  have hz := pickR_lt hr h0 x.c
  have hl : ∀ r ∈ [pickR refs x.a, pickR refs x.b, pickR refs x.c], r < 2 * G.nodes.length := fun r hr => by
    simp at hr; rcases hr with rfl | rfl | rfl <;> assumption
  have up : ∀ {f : Mk → Mk × Nat} {v : (Nat → Bool) → Bool}, Good f G 1 v → Good f G 3 v := fun g => ⟨g.ok, g.ext, g.lt, g.sem, fun hk => ⟨(g.room (by omega)).1, by have := (g.room (by omega)).2; omega⟩⟩
  unfold stepMk stepV
  rcases (show x.k % 6 = 0 ∨ x.k % 6 = 1 ∨ x.k % 6 = 2 ∨ x.k % 6 = 3 ∨ x.k % 6 = 4 ∨ x.k % 6 = 5 by omega) with e | e | e | e | e | e <;> simp (decide := true) only [e, if_true, if_false]
  · exact up (good_and h hp hq)
  · exact up (good_or h hp hq)
  · have := good_mux h hp (neg_lt hq) hq
    refine ⟨this.ok, this.ext, this.lt, fun env he => (this.sem env he).trans ?_, this.room⟩
    rw [bv_neg]
    cases bv env G.nodes (pickR refs x.a) <;> cases bv env G.nodes (pickR refs x.b) <;> rfl
  · exact good_mux h hp hq hz
  · have := good_all h hl
    refine ⟨this.ok, this.ext, this.lt, fun env he => (this.sem env he).trans ?_, this.room⟩
    simp [Bool.and_assoc]
  · have := good_any h hl
    refine ⟨this.ok, this.ext, this.lt, fun env he => (this.sem env he).trans ?_, this.room⟩
    simp [Bool.or_assoc]
end Go.Proofs.Ytkedpifopclipaa
namespace Go.Aig
/-- what the ands make holds no input -/
theorem and_noin {G : Gra} {a b : Nat} : ∃ more, (Aig.and G a b).1.nodes = G.nodes ++ more ∧ ∀ x ∈ more, x.k = 3 := by
  unfold Aig.and put
  (repeat' split)
  · exact ⟨[], by simp, by simp⟩
  · exact ⟨[], by simp, by simp⟩
  · exact ⟨[], by simp, by simp⟩
  · exact ⟨_, rfl, fun x hx => by simp at hx; subst hx; rfl⟩
def NoIn (G G' : Gra) : Prop := ∃ more, G'.nodes = G.nodes ++ more ∧ ∀ x ∈ more, x.k = 3
theorem NoIn.refl (G : Gra) : NoIn G G := ⟨[], by simp, by simp⟩
theorem NoIn.trans {a b c : Gra} (h : NoIn a b) (h' : NoIn b c) : NoIn a c := by
  obtain ⟨m, e, h1⟩ := h
  obtain ⟨m', e', h2⟩ := h'
  exact ⟨m ++ m', by rw [e', e, List.append_assoc], fun x hx => (List.mem_append.1 hx).elim (h1 x) (h2 x)⟩
theorem mand_noin (s : Mk) (a b : Nat) : NoIn s.1 (mand s a b).1.1 := by
  unfold mand
  split
  · exact .refl _
  · exact and_noin
theorem mall_noin : ∀ (l : List Nat) (s : Mk) (out : Nat), NoIn s.1 (mall s out l).1.1
  | [], _, _ => .refl _
  | r :: l, s, out => (mand_noin s out r).trans (mall_noin l _ _)
theorem whole_noin {G : Gra} {l : List Int} {f : Mk → Mk × Nat} (h : NoIn G (f (G, 0)).1.1) : NoIn G (whole G l f).1 := by
  unfold whole
  split
  · exact .refl _
  · dsimp only
    split
    · exact .refl _
    · exact h
end Go.Aig
namespace Go.Proofs.Ytkedpifopclipaa
open Go.Aig
structure Bd where
  G : Gra
  refs : List Nat
  want : List Nat
def inNodes (k : Nat) : List Nd := ⟨1, 0, 0, 0⟩ :: List.replicate k ⟨2, 0, 0, 0⟩
def bd0 (most k : Nat) : Bd := ⟨⟨most, inNodes k⟩, 0 :: (List.range k).map (fun i => 2 * (i + 1)), 0 :: inWords.take k⟩
def stepB (b : Bd) (x : Sm) : Bd := ⟨(stepRes b.G b.refs x).1, b.refs ++ [(stepRes b.G b.refs x).2.1], b.want ++ [stepW b.want x]⟩
def builtB (most : Nat) (l : List Sm) : Bd := l.foldl stepB (bd0 most 4)
/-- the bits of the inputs, for the assignment j -/
def envOf (j k : Nat) : Bool := (inWords.getD k 0).testBit j
structure BOk (b : Bd) : Prop where
  ok : Ok b.G
  len : b.refs.length = b.want.length
  pos : 0 < b.refs.length
  refs : ∀ r ∈ b.refs, r < 2 * b.G.nodes.length
  words : ∀ x ∈ b.want, x < 65536
  sem : ∀ j, j < 16 → ∀ (i r x : Nat), b.refs[i]? = some r → b.want[i]? = some x → x.testBit j = bv (envOf j) b.G.nodes r
  ins : ∀ env, (nv env b.G.nodes).2 = 4
theorem inNodes_len (k : Nat) : (inNodes k).length = k + 1 := by simp [inNodes]
theorem doInput_in {most k : Nat} (h : k + 1 < most) : doInput ⟨most, inNodes k⟩ = (⟨most, inNodes (k + 1)⟩, 2 * (k + 1), 0) := by
  unfold doInput put
  rw [if_neg (by simp [inNodes_len]; omega)]
  simp [inNodes, List.replicate_succ']
theorem nv_count (env : Nat → Bool) : ∀ (ms ns : List Nd), (nv env (ns ++ ms)).2 = (nv env ns).2 + (ms.filter fun x => x.k == 2).length
  | [], ns => by simp
  | x :: ms, ns => by
    rw [List.append_cons, nv_count env ms (ns ++ [x]), nv_snoc]
    unfold nvStep
    by_cases h3 : x.k = 3
    · simp [h3]
    · by_cases h2 : x.k = 2
      · simp [h2]; omega
      · simp [h3, h2]
theorem stepMk_noin (refs : List Nat) (x : Sm) (G : Gra) : NoIn G (stepMk refs x (G, 0)).1.1 := by
  unfold stepMk
  (repeat' split)
  · exact mand_noin _ _ _
  · exact mand_noin _ _ _
  · exact ((mand_noin _ _ _).trans (mand_noin _ _ _)).trans (mand_noin _ _ _)
  · exact ((mand_noin _ _ _).trans (mand_noin _ _ _)).trans (mand_noin _ _ _)
  · exact mall_noin _ _ _
  · exact mall_noin _ _ _
theorem stepRes_noin (G : Gra) (refs : List Nat) (x : Sm) : NoIn G (stepRes G refs x).1 := by
  rw [stepRes_eq]
  exact whole_noin (stepMk_noin refs x G)
theorem _root_.Go.Aig.NoIn.count {G G' : Gra} (h : NoIn G G') (env : Nat → Bool) : (nv env G'.nodes).2 = (nv env G.nodes).2 := by
  obtain ⟨more, e, hm⟩ := h
  rw [e, nv_count]
  have : more.filter (fun x => x.k == 2) = [] := by
    rw [List.filter_eq_nil_iff]
    intro x hx
    simp [hm x hx]
  simp [this]
theorem pickR_sem {b : Bd} (h : BOk b) (j : Nat) (hj : j < 16) (n : Nat) : (pickW b.want n).testBit j = bv (envOf j) b.G.nodes (pickR b.refs n) := by
  have hi := pickI_lt h.pos n
  have g1 : b.refs[pickI b.refs.length n]? = some b.refs[pickI b.refs.length n] := List.getElem?_eq_getElem hi
  have hi2 : pickI b.refs.length n < b.want.length := by rw [← h.len]; exact hi
  have g2 : b.want[pickI b.refs.length n]? = some b.want[pickI b.refs.length n] := List.getElem?_eq_getElem hi2
  have hs := h.sem j hj _ _ _ g1 g2
  have e1 : b.refs.getD (pickI b.refs.length n) 0 = b.refs[pickI b.refs.length n] := by rw [List.getD_eq_getElem?_getD, g1]; rfl
  have e2 : b.want.getD (pickI b.want.length n) 0 = b.want[pickI b.refs.length n] := by rw [← h.len, List.getD_eq_getElem?_getD, g2]; rfl
  unfold pickW pickR
  rw [e1, e2]
  split
  · rw [Nat.testBit_xor, hs, bv_neg, show (65535 : Nat) = 2 ^ 16 - 1 from rfl, Nat.testBit_two_pow_sub_one]
    simp [hj]
  · exact hs
theorem stepW_sem {b : Bd} (h : BOk b) (j : Nat) (hj : j < 16) (x : Sm) :
    (stepW b.want x).testBit j = stepV (bv (envOf j) b.G.nodes (pickR b.refs x.a)) (bv (envOf j) b.G.nodes (pickR b.refs x.b)) (bv (envOf j) b.G.nodes (pickR b.refs x.c)) x.k := by
  have hu := pickR_sem h j hj x.a
  have hv := pickR_sem h j hj x.b
  have hw := pickR_sem h j hj x.c
  have hm : Nat.testBit 65535 j = true := by rw [show (65535 : Nat) = 2 ^ 16 - 1 from rfl, Nat.testBit_two_pow_sub_one]; simp [hj]
  unfold stepW stepV
  rcases (show x.k % 6 = 0 ∨ x.k % 6 = 1 ∨ x.k % 6 = 2 ∨ x.k % 6 = 3 ∨ x.k % 6 = 4 ∨ x.k % 6 = 5 by omega) with e | e | e | e | e | e <;> simp (decide := true) only [e, if_true, if_false, Nat.testBit_and, Nat.testBit_or, Nat.testBit_xor, hu, hv, hw, hm, Bool.xor_true]
/-- a step where there is room -/
theorem stepB_ok {b : Bd} (h : BOk b) (x : Sm) (hr : b.G.nodes.length + 3 ≤ b.G.most) :
    (stepRes b.G b.refs x).2.2 = 0 ∧ BOk (stepB b x) ∧ Ext b.G (stepB b x).G ∧ (stepB b x).G.nodes.length ≤ b.G.nodes.length + 3 := by
  have hg := stepMk_good h.ok h.refs h.pos x
  have ha : ∀ r ∈ stepArgs b.refs x, r < 2 * b.G.nodes.length := fun r hr => by
    unfold stepArgs at hr
    split at hr <;> simp at hr
    · rcases hr with rfl | rfl <;> exact pickR_lt h.refs h.pos _
    · rcases hr with rfl | rfl | rfl <;> exact pickR_lt h.refs h.pos _
  obtain ⟨h1, h2, h3, h4, h5⟩ := whole_good ha hg h.ok
  rw [← stepRes_eq] at h1 h2 h3 h4 h5
  obtain ⟨h6, h7⟩ := h5 hr
  refine ⟨h6, ⟨h1, by simp [stepB, h.len], by simp [stepB], fun r hr => ?_, fun y hy => ?_, fun j hj i r y hi hy => ?_, fun env => ?_⟩, h2, h7⟩
  · simp only [stepB, List.mem_append, List.mem_singleton] at hr
    rcases hr with hr | rfl
    · exact h2.lt (h.refs r hr)
    · exact h3
  · simp only [stepB, List.mem_append, List.mem_singleton] at hy
    rcases hy with hy | rfl
    · exact h.words y hy
    · exact stepW_lt h.words x
  · simp only [stepB] at hi hy ⊢
    by_cases hlt : i < b.refs.length
    · rw [List.getElem?_append_left hlt] at hi
      rw [List.getElem?_append_left (by rw [← h.len]; exact hlt)] at hy
      rw [bv_of (envOf j) h2 (h.refs r (List.mem_of_getElem? hi))]
      exact h.sem j hj i r y hi hy
    · have hi' := (List.getElem?_eq_some_iff.1 hi).1
      simp at hi'
      have e : i = b.refs.length := by omega
      subst e
      rw [List.getElem?_append_right (Nat.le_refl _)] at hi
      rw [List.getElem?_append_right (by rw [h.len]; exact Nat.le_refl _)] at hy
      simp [h.len] at hi hy
      subst hi; subst hy
      rw [stepW_sem h j hj x, h4 (envOf j) h6]
  · exact ((stepRes_noin b.G b.refs x).count env).trans (h.ins env)
theorem bd0_ok {most : Nat} (h5 : 5 ≤ most) (hm : most ≤ 65536) : BOk (bd0 most 4) := by
  have hin : (bd0 most 4).G.nodes = [⟨1, 0, 0, 0⟩, ⟨2, 0, 0, 0⟩, ⟨2, 0, 0, 0⟩, ⟨2, 0, 0, 0⟩, ⟨2, 0, 0, 0⟩] := rfl
  have hw : WF (bd0 most 4).G.nodes := by
    have h1 := (newG_ok (n := 1) (by omega) (by omega)).wf
    exact (((h1.input).input).input).input
  refine ⟨⟨hw, by rw [hin]; simpa [bd0] using h5, hm⟩, rfl, by simp [bd0], ?_, ?_, ?_, fun env => rfl⟩
  · rw [hin]; intro r hr; simp [bd0, List.range, List.range.loop] at hr ⊢; omega
  · intro x hx; simp [bd0, inWords] at hx; omega
  · intro j hj i r x hi hx
    rcases i with _ | _ | _ | _ | _ | i <;> simp [bd0, List.range, List.range.loop, inWords] at hi hx
    all_goals subst hi; subst hx; simp [hin, bv, rv, nv, nvStep, envOf, inWords]
theorem run_ok : ∀ (l : List Sm) {b : Bd}, BOk b → b.G.nodes.length + 3 * l.length ≤ b.G.most → BOk (l.foldl stepB b) ∧ Ext b.G (l.foldl stepB b).G ∧ (l.foldl stepB b).G.nodes.length ≤ b.G.nodes.length + 3 * l.length ∧ (l.foldl stepB b).refs.length = b.refs.length + l.length
  | [], b, h, _ => ⟨h, .refl _, by simp, by simp⟩
  | x :: l, b, h, hr => by
    simp only [List.length_cons] at hr ⊢
    obtain ⟨_, h1, h2, h3⟩ := stepB_ok h x (by omega)
    obtain ⟨h4, h5, h6, h7⟩ := run_ok l h1 (by have : (stepB b x).G.most = b.G.most := h2.most; omega)
    refine ⟨h4, h2.trans h5, by simp only [List.foldl_cons]; omega, ?_⟩
    simp only [List.foldl_cons]
    rw [h7]
    simp [stepB]; omega
end Go.Proofs.Ytkedpifopclipaa
namespace Go.Proofs.Ytkedpifopclipaa
open Go.Aig
def wvStep (s : List Nat × Nat) (x : Nd) : List Nat × Nat :=
  if x.k = 3 then (s.1 ++ [wv s.1 x.l &&& wv s.1 x.r], s.2) else if x.k = 2 then (s.1 ++ [inWords.getD s.2 0], s.2 + 1) else (s.1 ++ [0], s.2)
def wvs (ns : List Nd) : List Nat × Nat := ns.foldl wvStep ([], 0)
theorem wvs_snoc (ns : List Nd) (x : Nd) : wvs (ns ++ [x]) = wvStep (wvs ns) x := by unfold wvs; rw [List.foldl_append]; rfl
theorem inWords_lt (k : Nat) : inWords.getD k 0 < 65536 := by
  rcases k with _ | _ | _ | _ | k <;> simp [inWords]
theorem wv_lt {vs : List Nat} (h : ∀ x ∈ vs, x < 65536) (r : Nat) : wv vs r < 65536 := by
  have hd : vs.getD (r / 2) 0 < 65536 := by
    rw [List.getD_eq_getElem?_getD]
    cases hi : vs[r / 2]? with
    | none => simp
    | some x => exact h x (List.mem_of_getElem? hi)
  unfold wv; split
  · exact xor_lt hd
  · exact hd
/-- the words go with the bits -/
structure WB (ns : List Nd) : Prop where
  len : (wvs ns).1.length = ns.length
  cnt : ∀ env, (wvs ns).2 = (nv env ns).2
  lt : ∀ x ∈ (wvs ns).1, x < 65536
  bit : ∀ j, j < 16 → ∀ i, ((wvs ns).1.getD i 0).testBit j = (nv (envOf j) ns).1.getD i false
theorem wv_bit {ns : List Nd} (h : WB ns) {j : Nat} (hj : j < 16) (r : Nat) : (wv (wvs ns).1 r).testBit j = bv (envOf j) ns r := by
  unfold wv bv rv
  split
  · rename_i h1
    rw [Nat.testBit_xor, h.bit j hj, show (65535 : Nat) = 2 ^ 16 - 1 from rfl, Nat.testBit_two_pow_sub_one]
    simp [hj, h1]
  · rename_i h1
    rw [h.bit j hj]
    simp [h1]
theorem getD_snoc {α : Type} (l : List α) (x d : α) (i : Nat) : (l ++ [x]).getD i d = if i < l.length then l.getD i d else if i = l.length then x else d := by
  simp only [List.getD_eq_getElem?_getD]
  by_cases h : i < l.length
  · rw [if_pos h, List.getElem?_append_left h]
  · rw [if_neg h]
    by_cases h2 : i = l.length
    · subst h2; rw [if_pos rfl, List.getElem?_append_right (Nat.le_refl _)]; simp
    · rw [if_neg h2, List.getElem?_eq_none (by simp; omega)]; rfl
theorem wb_nil : WB [] := ⟨rfl, fun _ => rfl, by simp [wvs], by intro j _ i; simp [wvs, nv]⟩
theorem wb_snoc {ns : List Nd} (h : WB ns) (x : Nd) : WB (ns ++ [x]) := by
  have hl : ∀ env, (nv env ns).1.length = (wvs ns).1.length := fun env => by rw [nv_len, h.len]
  refine ⟨?_, fun env => ?_, fun y hy => ?_, fun j hj i => ?_⟩
  · rw [wvs_snoc]; unfold wvStep; (repeat' split) <;> simp [h.len]
  · rw [wvs_snoc, nv_snoc]; unfold wvStep nvStep; (repeat' split) <;> simp [h.cnt env]
  · rw [wvs_snoc] at hy
    unfold wvStep at hy
    (repeat' split at hy) <;> simp at hy <;> rcases hy with hy | rfl
    · exact h.lt y hy
    · exact Nat.and_lt_two_pow (n := 16) _ (wv_lt h.lt _)
    · exact h.lt y hy
    · have := inWords_lt (wvs ns).2; simpa using this
    · exact h.lt y hy
    · omega
  · rw [wvs_snoc, nv_snoc]
    have e := h.cnt (envOf j)
    unfold wvStep nvStep
    split
    · rw [getD_snoc, getD_snoc, hl]
      (repeat' split)
      · exact h.bit j hj i
      · rw [Nat.testBit_and, wv_bit h hj, wv_bit h hj]; rfl
      · simp
    · split
      · rw [getD_snoc, getD_snoc, hl]
        (repeat' split)
        · exact h.bit j hj i
        · rw [e]; rfl
        · simp
      · rw [getD_snoc, getD_snoc, hl]
        (repeat' split)
        · exact h.bit j hj i
        · simp
        · simp
theorem wb_all : ∀ (ms ns : List Nd), WB ns → WB (ns ++ ms)
  | [], ns, h => by simpa using h
  | x :: ms, ns, h => by
    rw [List.append_cons]
    exact wb_all ms (ns ++ [x]) (wb_snoc h x)
theorem wb (ns : List Nd) : WB ns := by simpa using wb_all ns [] wb_nil
theorem cnt_mono (ns : List Nd) (k : Nat) : (wvs (ns.take k)).2 ≤ (wvs ns).2 := by
  rw [(wb _).cnt (fun _ => false), (wb _).cnt (fun _ => false)]
  have := nv_count (fun _ => false) (ns.drop k) (ns.take k)
  rw [List.take_append_drop] at this
  omega
/-- what the laws compare: the words of the references -/
theorem want_is {b : Bd} (h : BOk b) {i r x : Nat} (hr : b.refs[i]? = some r) (hx : b.want[i]? = some x) : wv (wvs b.G.nodes).1 r = x := by
  apply Nat.eq_of_testBit_eq
  intro j
  have hxl := h.words x (List.mem_of_getElem? hx)
  by_cases hj : j < 16
  · rw [wv_bit (wb _) hj, h.sem j hj i r x hr hx]
  · have hp : 2 ^ 16 ≤ 2 ^ j := Nat.pow_le_pow_right (by omega) (by omega)
    rw [Nat.testBit_lt_two_pow (Nat.lt_of_lt_of_le (wv_lt (wb _).lt r) hp), Nat.testBit_lt_two_pow (Nat.lt_of_lt_of_le hxl hp)]
end Go.Proofs.Ytkedpifopclipaa
namespace Go.Proofs.Ytkedpifopclipaa
open Go.Aig
/-- the first p nodes of a graph -/
structure Pre (B : Gra) (p : Nat) (H : Gra) : Prop where
  most : H.most = B.most
  le : p ≤ B.nodes.length
  nodes : H.nodes = B.nodes.take p
theorem Pre.len {B H : Gra} {p : Nat} (h : Pre B p H) : H.nodes.length = p := by rw [h.nodes, List.length_take]; have := h.le; omega
theorem _root_.Go.Aig.Ext.take {G B : Gra} (h : Ext G B) : B.nodes.take G.nodes.length = G.nodes := by
  obtain ⟨_, more, e⟩ := h
  rw [e, List.take_left]
theorem _root_.Go.Aig.Ext.get {G B : Gra} (h : Ext G B) {n : Nat} {x : Nd} (hx : G.nodes[n]? = some x) : B.nodes[n]? = some x := by
  obtain ⟨_, more, e⟩ := h
  rw [e, List.getElem?_append_left (List.getElem?_eq_some_iff.1 hx).1]; exact hx
theorem and_again {B G H : Gra} {p a b : Nat} (hB : Ok B) (hG : Ok G) (hH : Pre B p H) (hp : G.nodes.length ≤ p) (he : (Aig.and G a b).2.2 = 0) (hx : Ext (Aig.and G a b).1 B) (_ha : a < 2 * G.nodes.length) (_hb : b < 2 * G.nodes.length) :
    (Aig.and H a b).2.2 = 0 ∧ (Aig.and H a b).2.1 = (Aig.and G a b).2.1 ∧ Pre B (max p (Aig.and G a b).1.nodes.length) (Aig.and H a b).1 := by
  have hpos := hG.wf.pos
  have hwH : WF H.nodes := by rw [hH.nodes]; exact hB.wf.take (by omega)
  unfold Aig.and at he hx ⊢
  split at he
  · rename_i r hi
    exact ⟨rfl, rfl, by show Pre B (max p G.nodes.length) H; rw [Nat.max_eq_left hp]; exact hH⟩
  · rename_i l r hi
    rw [hi] at hx
    dsimp only at hx
    split at he
    · rename_i n hn
      rw [hn] at hx
      obtain ⟨x, hxn, hk, hl, hr⟩ := findAnd_some hn
      have hxB := hx.get hxn
      have hxH : H.nodes[n]? = some x := by rw [hH.nodes, List.getElem?_take, if_pos (by have := (List.getElem?_eq_some_iff.1 hxn).1; omega)]; exact hxB
      have hf := findAnd_of hwH hxH hk
      rw [hl, hr] at hf
      rw [hf]
      exact ⟨rfl, rfl, by show Pre B (max p G.nodes.length) H; rw [Nat.max_eq_left hp]; exact hH⟩
    · rename_i hn
      rw [hn] at hx
      unfold put at he hx ⊢
      split at he
      · cases he
      · rename_i hm
        rw [if_neg hm] at hx
        rw [if_neg hm]
        dsimp only at hx ⊢
        have hxB : B.nodes[G.nodes.length]? = some ⟨3, l, r, 1 + max (dep G.nodes a) (dep G.nodes b)⟩ := hx.get (by simp)
        have hBl := (List.getElem?_eq_some_iff.1 hxB).1
        have hmB : B.most = G.most := hx.most
        by_cases hlt : G.nodes.length < p
        · have hxH : H.nodes[G.nodes.length]? = some ⟨3, l, r, 1 + max (dep G.nodes a) (dep G.nodes b)⟩ := by rw [hH.nodes, List.getElem?_take, if_pos hlt]; exact hxB
          have hf := findAnd_of hwH hxH rfl
          dsimp only at hf
          rw [hf]
          refine ⟨rfl, rfl, ?_⟩
          show Pre B (max p (G.nodes ++ [_]).length) H
          rw [Nat.max_eq_left (by simp; omega)]
          exact hH
        · have hpe : p = G.nodes.length := by omega
          subst hpe
          have hGB : Ext G B := ⟨hmB, by obtain ⟨_, more, e⟩ := hx; exact ⟨[⟨3, l, r, 1 + max (dep G.nodes a) (dep G.nodes b)⟩] ++ more, by rw [e]; simp⟩⟩
          have hHG : H.nodes = G.nodes := by rw [hH.nodes, hGB.take]
          rw [hHG, hn]
          dsimp only
          rw [if_neg (by rw [hH.most, hmB]; exact hm)]
          refine ⟨rfl, rfl, ⟨hH.most, by simp; omega, ?_⟩⟩
          have := hx.take
          simp only [List.length_append, List.length_singleton] at this
          have hm2 : max G.nodes.length (G.nodes ++ [(⟨3, l, r, 1 + max (dep G.nodes a) (dep G.nodes b)⟩ : Nd)]).length = G.nodes.length + 1 := by simp
          rw [hm2]
          exact this.symm
/-- a maker over a cut graph goes with the one that made it -/
theorem mand_again {B : Gra} {s t : Mk} {p a b : Nat} (hB : Ok B) (hs : MOk s) (ht : t.2 = 0) (hH : Pre B p t.1) (hp : s.1.nodes.length ≤ p) (he : (mand s a b).1.2 = 0) (hx : Ext (mand s a b).1.1 B) (ha : a < 2 * s.1.nodes.length) (hb : b < 2 * s.1.nodes.length) :
    (mand t a b).1.2 = 0 ∧ (mand t a b).2 = (mand s a b).2 ∧ Pre B (max p (mand s a b).1.1.nodes.length) (mand t a b).1.1 := by
  obtain ⟨h0, e, h1⟩ := mand_err0 he
  rw [e] at hx ⊢
  obtain ⟨q1, q2, q3⟩ := and_again hB hs.ok hH hp h1 hx ha hb
  unfold mand
  rw [if_neg (by omega)]
  exact ⟨q1, q2, q3⟩
theorem mor_again {B : Gra} {s t : Mk} {p a b : Nat} (hB : Ok B) (hs : MOk s) (ht : t.2 = 0) (hH : Pre B p t.1) (hp : s.1.nodes.length ≤ p) (he : (mor s a b).1.2 = 0) (hx : Ext (mor s a b).1.1 B) (ha : a < 2 * s.1.nodes.length) (hb : b < 2 * s.1.nodes.length) :
    (mor t a b).1.2 = 0 ∧ (mor t a b).2 = (mor s a b).2 ∧ Pre B (max p (mor s a b).1.1.nodes.length) (mor t a b).1.1 := by
  obtain ⟨q1, q2, q3⟩ := mand_again hB hs ht hH hp (a := neg a) (b := neg b) he hx (neg_lt ha) (neg_lt hb)
  exact ⟨q1, by show neg _ = neg _; rw [q2], q3⟩
theorem mmux_again {B : Gra} {s t : Mk} {p c a b : Nat} (hB : Ok B) (hs : MOk s) (ht : t.2 = 0) (hH : Pre B p t.1) (hp : s.1.nodes.length ≤ p) (he : (mmux s c a b).1.2 = 0) (hx : Ext (mmux s c a b).1.1 B) (hc : c < 2 * s.1.nodes.length) (ha : a < 2 * s.1.nodes.length) (hb : b < 2 * s.1.nodes.length) :
    (mmux t c a b).1.2 = 0 ∧ (mmux t c a b).2 = (mmux s c a b).2 ∧ Pre B (max p (mmux s c a b).1.1.nodes.length) (mmux t c a b).1.1 := by
  obtain ⟨h1, h2, h3⟩ := mand_ok hs hc ha
  obtain ⟨h4, h5, h6⟩ := mand_ok h1 (h2.lt (neg_lt hc)) (h2.lt hb)
  obtain ⟨h7, h8, h9⟩ := mor_ok h4 (h5.lt h3) h6
  have e3 : (mor (mand (mand s c a).1 (neg c) b).1 (mand s c a).2 (mand (mand s c a).1 (neg c) b).2).1.2 = 0 := he
  have e2 := (mand_err0 (show (mand (mand (mand s c a).1 (neg c) b).1 (neg (mand s c a).2) (neg (mand (mand s c a).1 (neg c) b).2)).1.2 = 0 from e3)).1
  have e1 := (mand_err0 e2).1
  have hx3 : Ext (mor (mand (mand s c a).1 (neg c) b).1 (mand s c a).2 (mand (mand s c a).1 (neg c) b).2).1.1 B := hx
  have l1 := h2.len
  have l2 := h5.len
  have l3 := h8.len
  obtain ⟨q1, q2, q3⟩ := mand_again hB hs ht hH hp e1 ((h5.trans h8).trans hx3) hc ha
  obtain ⟨q4, q5, q6⟩ := mand_again hB h1 q1 q3 (by omega) e2 (h8.trans hx3) (h2.lt (neg_lt hc)) (h2.lt hb)
  obtain ⟨q7, q8, q9⟩ := mor_again hB h4 q4 q6 (by omega) e3 hx3 (h5.lt h3) h6
  show (mor (mand (mand t c a).1 (neg c) b).1 (mand t c a).2 (mand (mand t c a).1 (neg c) b).2).1.2 = 0 ∧ (mor (mand (mand t c a).1 (neg c) b).1 (mand t c a).2 (mand (mand t c a).1 (neg c) b).2).2 = (mor (mand (mand s c a).1 (neg c) b).1 (mand s c a).2 (mand (mand s c a).1 (neg c) b).2).2 ∧ Pre B (max p (mor (mand (mand s c a).1 (neg c) b).1 (mand s c a).2 (mand (mand s c a).1 (neg c) b).2).1.1.nodes.length) (mor (mand (mand t c a).1 (neg c) b).1 (mand t c a).2 (mand (mand t c a).1 (neg c) b).2).1.1
  rw [q2, q5]
  refine ⟨q7, q8, ?_⟩
  have hm : max (max (max p (mand s c a).1.1.nodes.length) (mand (mand s c a).1 (neg c) b).1.1.nodes.length) (mor (mand (mand s c a).1 (neg c) b).1 (mand s c a).2 (mand (mand s c a).1 (neg c) b).2).1.1.nodes.length = max p (mor (mand (mand s c a).1 (neg c) b).1 (mand s c a).2 (mand (mand s c a).1 (neg c) b).2).1.1.nodes.length := by omega
  rw [← hm]
  exact q9
theorem mall_again {B : Gra} (hB : Ok B) : ∀ (l : List Nat) {s t : Mk} {p out : Nat}, MOk s → t.2 = 0 → Pre B p t.1 → s.1.nodes.length ≤ p → (mall s out l).1.2 = 0 → Ext (mall s out l).1.1 B → out < 2 * s.1.nodes.length → (∀ r ∈ l, r < 2 * s.1.nodes.length) →
    (mall t out l).1.2 = 0 ∧ (mall t out l).2 = (mall s out l).2 ∧ Pre B (max p (mall s out l).1.1.nodes.length) (mall t out l).1.1
  | [], s, t, p, out, _, ht, hH, hp, _, _, _, _ => ⟨ht, rfl, by show Pre B (max p s.1.nodes.length) t.1; rw [Nat.max_eq_left hp]; exact hH⟩
  | r :: l, s, t, p, out, hs, ht, hH, hp, he, hx, ho, hl => by
    obtain ⟨h1, h2, h3⟩ := mand_ok hs ho (hl r (by simp))
    have hr : ∀ x ∈ l, x < 2 * (mand s out r).1.1.nodes.length := fun x hx => h2.lt (hl x (by simp [hx]))
    obtain ⟨h4, h5, h6⟩ := mall_ok l h1 h3 hr
    have e1 : (mand s out r).1.2 = 0 := mall_err0 l he
    have hx1 : Ext (mall (mand s out r).1 (mand s out r).2 l).1.1 B := hx
    obtain ⟨q1, q2, q3⟩ := mand_again hB hs ht hH hp e1 (h5.trans hx1) ho (hl r (by simp))
    have l1 := h2.len
    have l2 := h5.len
    obtain ⟨q4, q5, q6⟩ := mall_again hB l h1 q1 q3 (by omega) he hx1 h3 hr
    show (mall (mand t out r).1 (mand t out r).2 l).1.2 = 0 ∧ (mall (mand t out r).1 (mand t out r).2 l).2 = (mall (mand s out r).1 (mand s out r).2 l).2 ∧ Pre B (max p (mall (mand s out r).1 (mand s out r).2 l).1.1.nodes.length) (mall (mand t out r).1 (mand t out r).2 l).1.1
    rw [q2]
    refine ⟨q4, q5, ?_⟩
    have hm : max (max p (mand s out r).1.1.nodes.length) (mall (mand s out r).1 (mand s out r).2 l).1.1.nodes.length = max p (mall (mand s out r).1 (mand s out r).2 l).1.1.nodes.length := by omega
    rw [← hm]
    exact q6
theorem stepMk_again {B G H : Gra} {p : Nat} {refs : List Nat} (hB : Ok B) (hG : Ok G) (hH : Pre B p H) (hp : G.nodes.length ≤ p) (hr : ∀ r ∈ refs, r < 2 * G.nodes.length) (h0 : 0 < refs.length) (x : Sm) (he : (stepMk refs x (G, 0)).1.2 = 0) (hx : Ext (stepMk refs x (G, 0)).1.1 B) :
    (stepMk refs x (H, 0)).1.2 = 0 ∧ (stepMk refs x (H, 0)).2 = (stepMk refs x (G, 0)).2 ∧ Pre B (max p (stepMk refs x (G, 0)).1.1.nodes.length) (stepMk refs x (H, 0)).1.1 := by
  have hpa := pickR_lt hr h0 x.a
  have hqa := pickR_lt hr h0 x.b
  have hza := pickR_lt hr h0 x.c
  have hpos := hG.wf.pos
  have hl : ∀ r ∈ [pickR refs x.a, pickR refs x.b, pickR refs x.c], r < 2 * G.nodes.length := fun r hr => by
    simp at hr; rcases hr with rfl | rfl | rfl <;> assumption
  have hln : ∀ r ∈ [pickR refs x.a, pickR refs x.b, pickR refs x.c].map neg, r < 2 * G.nodes.length := fun r hr => by
    obtain ⟨y, hy, rfl⟩ := List.mem_map.1 hr
    exact neg_lt (hl y hy)
  unfold stepMk at he hx ⊢
  rcases (show x.k % 6 = 0 ∨ x.k % 6 = 1 ∨ x.k % 6 = 2 ∨ x.k % 6 = 3 ∨ x.k % 6 = 4 ∨ x.k % 6 = 5 by omega) with e | e | e | e | e | e <;> simp (decide := true) only [e, if_true, if_false] at he hx ⊢
  · exact mand_again (s := (G, 0)) (t := (H, 0)) hB ⟨hG, .inl rfl⟩ rfl hH hp he hx hpa hqa
  · exact mor_again (s := (G, 0)) (t := (H, 0)) hB ⟨hG, .inl rfl⟩ rfl hH hp he hx hpa hqa
  · exact mmux_again (s := (G, 0)) (t := (H, 0)) hB ⟨hG, .inl rfl⟩ rfl hH hp he hx hpa (neg_lt hqa) hqa
  · exact mmux_again (s := (G, 0)) (t := (H, 0)) hB ⟨hG, .inl rfl⟩ rfl hH hp he hx hpa hqa hza
  · exact mall_again hB _ (s := (G, 0)) (t := (H, 0)) ⟨hG, .inl rfl⟩ rfl hH hp he hx (by show 1 < 2 * G.nodes.length; omega) hl
  · obtain ⟨q1, q2, q3⟩ := mall_again hB _ (s := (G, 0)) (t := (H, 0)) ⟨hG, .inl rfl⟩ rfl hH hp he hx (by show 1 < 2 * G.nodes.length; omega) hln
    exact ⟨q1, by show neg _ = neg _; rw [q2], q3⟩
theorem whole_yes {G : Gra} {l : List Nat} {f : Mk → Mk × Nat} (hl : ∀ r ∈ l, r < 2 * G.nodes.length) (he : (f (G, 0)).1.2 = 0) : whole G (l.map fun (r : Nat) => (r : Int)) f = ((f (G, 0)).1.1, (f (G, 0)).2, 0) := by
  have hany : ((l.map fun (r : Nat) => (r : Int)).any fun r => !right G.nodes r) = false := by
    rw [List.any_eq_false]
    intro x hx
    obtain ⟨r, hr, rfl⟩ := List.mem_map.1 hx
    simp [right_of (hl r hr)]
  unfold whole
  rw [hany]
  simp only [Bool.false_eq_true, if_false]
  rw [if_neg (by omega)]
theorem stepArgs_lt {refs : List Nat} {m : Nat} (hr : ∀ r ∈ refs, r < 2 * m) (h0 : 0 < refs.length) (x : Sm) : ∀ r ∈ stepArgs refs x, r < 2 * m := fun r h => by
  unfold stepArgs at h
  split at h <;> simp at h
  · rcases h with rfl | rfl <;> exact pickR_lt hr h0 _
  · rcases h with rfl | rfl | rfl <;> exact pickR_lt hr h0 _
/-- a step made again -/
theorem stepRes_again {B H : Gra} {b : Bd} {p : Nat} (hB : Ok B) (h : BOk b) (hH : Pre B p H) (hp : b.G.nodes.length ≤ p) (x : Sm) (hroom : b.G.nodes.length + 3 ≤ b.G.most) (hx : Ext (stepB b x).G B) :
    stepRes H b.refs x = ((stepRes H b.refs x).1, (stepRes b.G b.refs x).2.1, 0) ∧ Pre B (max p (stepB b x).G.nodes.length) (stepRes H b.refs x).1 := by
  have hg := stepMk_good h.ok h.refs h.pos x
  have he := (hg.room hroom).1
  have ha := stepArgs_lt h.refs h.pos x
  have hw : stepRes b.G b.refs x = ((stepMk b.refs x (b.G, 0)).1.1, (stepMk b.refs x (b.G, 0)).2, 0) := by rw [stepRes_eq]; exact whole_yes ha he
  have hx2 : Ext (stepMk b.refs x (b.G, 0)).1.1 B := by unfold stepB at hx; rw [hw] at hx; exact hx
  obtain ⟨q1, q2, q3⟩ := stepMk_again hB h.ok hH hp h.refs h.pos x he hx2
  have hHl := hH.len
  have hwH : stepRes H b.refs x = ((stepMk b.refs x (H, 0)).1.1, (stepMk b.refs x (H, 0)).2, 0) := by rw [stepRes_eq]; exact whole_yes (fun r hr => by have := ha r hr; omega) q1
  refine ⟨by rw [hwH, hw, q2], ?_⟩
  rw [hwH]
  unfold stepB
  rw [hw]
  exact q3
end Go.Proofs.Ytkedpifopclipaa
namespace Go.Proofs.Ytkedpifopclipaa
open Go.Aig
theorem run_prefix : ∀ (l : List Sm) (b : Bd), (∃ m, (l.foldl stepB b).refs = b.refs ++ m) ∧ ∃ m, (l.foldl stepB b).want = b.want ++ m
  | [], b => ⟨⟨[], by simp⟩, ⟨[], by simp⟩⟩
  | x :: l, b => by
    obtain ⟨⟨m, h⟩, ⟨m', h'⟩⟩ := run_prefix l (stepB b x)
    exact ⟨⟨_, by rw [List.foldl_cons, h]; unfold stepB; rw [List.append_assoc]⟩, ⟨_, by rw [List.foldl_cons, h']; unfold stepB; rw [List.append_assoc]⟩⟩
/-- the graph behind i steps -/
def runTo (l : List Sm) (i : Nat) : Bd := ((l.take 60).take i).foldl stepB (bd0 4000 4)
structure AtStep (l : List Sm) (B : Bd) (i : Nat) (x : Sm) : Prop where
  ok : BOk (runTo l i)
  len : (runTo l i).G.nodes.length + 3 ≤ (runTo l i).G.most
  refs : (runTo l i).refs = B.refs.take (5 + i)
  want : (runTo l i).want = B.want.take (5 + i)
  next : runTo l (i + 1) = stepB (runTo l i) x
  ext : Ext (stepB (runTo l i) x).G B.G
  got : B.refs[5 + i]? = some (stepRes (runTo l i).G (runTo l i).refs x).2.1
  le : (runTo l i).G.nodes.length ≤ B.G.nodes.length
theorem runTo_all (l : List Sm) : runTo l (l.take 60).length = builtB 4000 (l.take 60) := by unfold runTo builtB; rw [List.take_length]
theorem runTo_zero (l : List Sm) : runTo l 0 = bd0 4000 4 := by unfold runTo; simp
theorem at_step {l : List Sm} {i : Nat} {x : Sm} (hx : (l.take 60)[i]? = some x) : AtStep l (builtB 4000 (l.take 60)) i x := by
  have hi := (List.getElem?_eq_some_iff.1 hx).1
  have hm : (l.take 60).length ≤ 60 := by rw [List.length_take]; omega
  have hn0 : (bd0 4000 4).G.nodes.length = 5 := rfl
  have hr0 : (bd0 4000 4).refs.length = 5 := rfl
  have hli : ((l.take 60).take i).length = i := by rw [List.length_take]; omega
  have hrun := run_ok ((l.take 60).take i) (bd0_ok (most := 4000) (by omega) (by omega)) (by rw [hli, hn0]; show 5 + 3 * i ≤ 4000; omega)
  rw [show ((l.take 60).take i).foldl stepB (bd0 4000 4) = runTo l i from rfl] at hrun
  obtain ⟨r1, r2, r3, r4⟩ := hrun
  rw [hli] at r3 r4
  rw [hn0] at r3
  rw [hr0] at r4
  have hmost : (runTo l i).G.most = 4000 := r2.most
  have hsplit : builtB 4000 (l.take 60) = ((l.take 60).drop i).foldl stepB (runTo l i) := by
    unfold builtB runTo
    rw [← List.foldl_append, List.take_append_drop]
  have hd : (l.take 60).drop i = x :: (l.take 60).drop (i + 1) := by
    rw [List.drop_eq_getElem_cons hi]
    rw [List.getElem?_eq_getElem hi] at hx
    cases hx; rfl
  obtain ⟨s1, s2, s3, s4⟩ := stepB_ok r1 x (by show (runTo l i).G.nodes.length + 3 ≤ (runTo l i).G.most; rw [hmost]; have : (runTo l i).G.nodes.length ≤ 5 + 3 * i := r3; omega)
  have hsplit2 : builtB 4000 (l.take 60) = ((l.take 60).drop (i + 1)).foldl stepB (stepB (runTo l i) x) := by rw [hsplit, hd]; rfl
  have hdl : ((l.take 60).drop (i + 1)).length ≤ 60 - (i + 1) := by rw [List.length_drop]; omega
  have hnl : (runTo l i).G.nodes.length ≤ 5 + 3 * i := r3
  have hsm : (stepB (runTo l i) x).G.most = 4000 := s3.most.trans hmost
  have hs4 : (stepB (runTo l i) x).G.nodes.length ≤ (runTo l i).G.nodes.length + 3 := s4
  obtain ⟨t1, t2, t3, t4⟩ := run_ok ((l.take 60).drop (i + 1)) s2 (by show (stepB (runTo l i) x).G.nodes.length + _ ≤ (stepB (runTo l i) x).G.most; omega)
  rw [← hsplit2] at t2
  obtain ⟨⟨m1, p1⟩, ⟨m2, p2⟩⟩ := run_prefix ((l.take 60).drop i) (runTo l i)
  rw [← hsplit] at p1 p2
  have hrl : (runTo l i).refs.length = 5 + i := r4
  have hwl : (runTo l i).want.length = 5 + i := by have := r1.len; show (runTo l i).want.length = _; have h2 : (runTo l i).refs.length = (runTo l i).want.length := this; omega
  obtain ⟨⟨m3, p3⟩, _⟩ := run_prefix ((l.take 60).drop (i + 1)) (stepB (runTo l i) x)
  rw [← hsplit2] at p3
  refine ⟨r1, by omega, by rw [p1, ← hrl, List.take_left], by rw [p2, ← hwl, List.take_left], ?_, t2, ?_, ?_⟩
  · unfold runTo
    rw [List.take_add_one, hx, List.foldl_append]; rfl
  · rw [p3]
    unfold stepB
    dsimp only
    rw [List.append_assoc, List.getElem?_append_right (by omega), hrl]
    simp
  · have := s3.len
    have h2 := t2.len
    have h3 : (runTo l i).G.nodes.length ≤ (stepB (runTo l i) x).G.nodes.length := this
    omega
/-- the and of a node's sides is that node -/
theorem doAnd_node {G : Gra} (h : Ok G) {i : Nat} {x : Nd} (hx : G.nodes[i]? = some x) (hk : x.k = 3) : doAnd G x.l x.r = (G, 2 * i, 0) ∧ doAnd G x.r x.l = (G, 2 * i, 0) := by
  obtain ⟨s1, s2, s3, s4, s5⟩ := h.wf.sides hx hk
  have hi := (List.getElem?_eq_some_iff.1 hx).1
  have hf := findAnd_of h.wf hx hk
  have hn : ∀ a b, (a = x.l ∧ b = x.r ∨ a = x.r ∧ b = x.l) → andIs a b = .node x.l x.r := by
    intro a b hab
    unfold andIs
    have e1 : min a b = x.l := by omega
    have e2 : max a b = x.r := by omega
    rw [e1, e2, if_neg, if_neg]
    · omega
    · intro hc
      rcases hc with hc | hc
      · omega
      · unfold neg at hc
        split at hc <;> omega
  have go : ∀ a b : Nat, (a = x.l ∧ b = x.r ∨ a = x.r ∧ b = x.l) → doAnd G a b = (G, 2 * i, 0) := by
    intro a b hab
    have hand : Aig.and G a b = (G, 2 * i, 0) := by unfold Aig.and; rw [hn a b hab]; dsimp only; rw [hf]
    have hm : mand (G, 0) a b = ((G, 0), 2 * i) := by unfold mand; rw [if_neg (by simp), hand]
    have := whole_yes (G := G) (l := [a, b]) (f := fun s => mand s a b) (fun r hr => by simp at hr; omega) (by rw [hm])
    unfold doAnd
    simp only [List.map_cons, List.map_nil, hm] at this
    simpa using this
  exact ⟨go _ _ (.inl ⟨rfl, rfl⟩), go _ _ (.inr ⟨rfl, rfl⟩)⟩
end Go.Proofs.Ytkedpifopclipaa
namespace Go.Proofs.Ytkedpifopclipaa
open Go.Aig
theorem coneFrom_cons {ns : List Nd} : ∀ {n : Nat} {met : List Bool} {d : Nat} {rest : List Nat}, coneFrom ns n met = d :: rest → d < n ∧ met.getD d false = true ∧ (∀ m, d < m → m < n → met.getD m false = false) ∧ rest = coneFrom ns d (stepMet ns met d)
  | 0, met, d, rest, h => by cases h
  | n + 1, met, d, rest, h => by
    unfold coneFrom at h
    split at h
    · rename_i hm
      obtain ⟨rfl, rfl⟩ := List.cons.inj h
      exact ⟨by omega, hm, fun m h1 h2 => by omega, rfl⟩
    · rename_i hm
      obtain ⟨h1, h2, h3, h4⟩ := coneFrom_cons h
      refine ⟨by omega, h2, fun m q1 q2 => ?_, h4⟩
      by_cases e : m = n
      · subst e; simpa using hm
      · exact h3 m q1 (by omega)
theorem coneFrom_nil {ns : List Nd} : ∀ {n : Nat} {met : List Bool}, coneFrom ns n met = [] → ∀ m, m < n → met.getD m false = false
  | 0, _, _, m, hm => by omega
  | n + 1, met, h, m, hm => by
    unfold coneFrom at h
    split at h
    · cases h
    · rename_i hn
      by_cases e : m = n
      · subst e; simpa using hn
      · exact coneFrom_nil h m (by omega)
theorem getD_set {l : List Bool} {i j : Nat} : (l.set i true).getD j false = true ↔ (l.getD j false = true ∨ (j = i ∧ i < l.length)) := by
  rw [List.getD_eq_getElem?_getD, List.getD_eq_getElem?_getD, List.getElem?_set]
  by_cases e : i = j
  · subst e
    by_cases h : i < l.length
    · simp [h]
    · simp [h]
  · simp [e, Ne.symm e]
/-- one node of the cone after the other -/
structure ConeAt (ns : List Nd) (D : List Nat) (k n : Nat) (met : List Bool) : Prop where
  len : met.length = ns.length
  rest : D.drop k = coneFrom ns n met
  done : ∀ m, (met.getD m false = true ∧ n ≤ m) ↔ m ∈ D.take k
theorem ConeAt.start (ns : List Nd) (l : List Nat) : ConeAt ns (coneDown ns l) 0 ns.length (met0 ns.length l) := by
  refine ⟨met0_len _ _, by simp [coneDown], fun m => ⟨fun ⟨h1, h2⟩ => ?_, fun h => by simp at h⟩⟩
  rw [List.getD_eq_getElem?_getD, List.getElem?_eq_none (by rw [met0_len]; exact h2)] at h1
  cases h1
theorem stepMet_getD {ns : List Nd} {met : List Bool} (hw : WF ns) {d : Nat} (hl : met.length = ns.length) (m : Nat) : (stepMet ns met d).getD m false = true ↔ (met.getD m false = true ∨ ∃ x, ns[d]? = some x ∧ x.k = 3 ∧ (m = x.l / 2 ∨ m = x.r / 2)) := by
  unfold stepMet
  split
  · rename_i x hx
    have hd := (List.getElem?_eq_some_iff.1 hx).1
    by_cases h3 : x.k = 3
    · obtain ⟨s1, s2, s3, s4, s5⟩ := hw.sides hx h3
      rw [if_pos h3]
      unfold setMark
      rw [getD_set, getD_set]
      simp only [List.length_set]
      constructor
      · rintro ((h | ⟨rfl, _⟩) | ⟨rfl, _⟩)
        · exact .inl h
        · exact .inr ⟨x, hx, h3, .inl rfl⟩
        · exact .inr ⟨x, hx, h3, .inr rfl⟩
      · rintro (h | ⟨y, hy, _, hm⟩)
        · exact .inl (.inl h)
        · rw [hx] at hy; cases hy
          rcases hm with rfl | rfl
          · exact .inl (.inr ⟨rfl, by omega⟩)
          · exact .inr ⟨rfl, by omega⟩
    · rw [if_neg h3]
      constructor
      · exact .inl
      · rintro (h | ⟨y, hy, hk, _⟩)
        · exact h
        · rw [hx] at hy; cases hy; exact absurd hk h3
  · rename_i hx
    constructor
    · exact .inl
    · rintro (h | ⟨y, hy, _⟩)
      · exact h
      · rw [hx] at hy; cases hy
theorem ConeAt.next {ns : List Nd} {D : List Nat} {k n : Nat} {met : List Bool} (h : ConeAt ns D k n met) (hw : WF ns) {d : Nat} (hd : D[k]? = some d) : d < n ∧ met.getD d false = true ∧ ConeAt ns D (k + 1) d (stepMet ns met d) := by
  have hdrop : D.drop k = d :: D.drop (k + 1) := by
    have hlt := (List.getElem?_eq_some_iff.1 hd).1
    rw [List.drop_eq_getElem_cons hlt]
    rw [List.getElem?_eq_getElem hlt] at hd
    cases hd; rfl
  have hr := h.rest
  rw [hdrop] at hr
  obtain ⟨h1, h2, h3, h4⟩ := coneFrom_cons hr.symm
  refine ⟨h1, h2, by rw [stepMet_len, h.len], h4, fun m => ?_⟩
  rw [List.take_add_one, hd, stepMet_getD hw h.len m]
  simp only [Option.toList_some, List.mem_append, List.mem_singleton]
  rw [← h.done m]
  constructor
  · rintro ⟨hm | ⟨x, hx, h3', hm⟩, hle⟩
    · by_cases e : m = d
      · exact .inr e
      · exact .inl ⟨hm, by
          rcases Nat.lt_or_ge m n with q | q
          · have := h3 m (by omega) q; rw [this] at hm; cases hm
          · exact q⟩
    · obtain ⟨s1, s2, s3, s4, s5⟩ := hw.sides hx h3'
      omega
  · rintro (⟨hm, hle⟩ | rfl)
    · exact ⟨.inl hm, by omega⟩
    · exact ⟨.inl h2, Nat.le_refl _⟩
/-- at the end just the cone is marked -/
theorem ConeAt.all {ns : List Nd} {D : List Nat} {k n : Nat} {met : List Bool} (h : ConeAt ns D k n met) (hk : D.length ≤ k) (m : Nat) : met.getD m false = true ↔ m ∈ D := by
  have hr := h.rest
  rw [List.drop_eq_nil_of_le hk] at hr
  have hd := h.done m
  rw [List.take_of_length_le hk] at hd
  rw [← hd]
  constructor
  · intro hm
    refine ⟨hm, ?_⟩
    rcases Nat.lt_or_ge m n with q | q
    · have := coneFrom_nil hr.symm m q; rw [this] at hm; cases hm
    · exact q
  · exact fun h => h.1
theorem coneFrom_desc {ns : List Nd} : ∀ (n : Nat) (met : List Bool), (coneFrom ns n met).Pairwise (fun a b => b < a)
  | 0, _ => List.Pairwise.nil
  | n + 1, met => by
    unfold coneFrom
    split
    · exact List.Pairwise.cons (fun r hr => coneFrom_lt ns n _ r hr) (coneFrom_desc n _)
    · exact coneFrom_desc n met
theorem cone_asc (ns : List Nd) (l : List Nat) : (cone ns l).Pairwise (fun a b => a < b) := by
  unfold cone
  rw [List.pairwise_reverse]
  exact coneFrom_desc _ _
/-- it grows with what is marked -/
theorem coneFrom_mono {ns : List Nd} (hw : WF ns) : ∀ (n : Nat) (met met' : List Bool), met.length = ns.length → met'.length = ns.length → (∀ m, met.getD m false = true → met'.getD m false = true) → ∀ x ∈ coneFrom ns n met, x ∈ coneFrom ns n met'
  | 0, _, _, _, _, _, x, hx => by cases hx
  | n + 1, met, met', hl, hl', hle, x, hx => by
    unfold coneFrom at hx ⊢
    have hle2 : ∀ m, (stepMet ns met n).getD m false = true → (stepMet ns met' n).getD m false = true := fun m hm => by
      rw [stepMet_getD hw hl] at hm
      rw [stepMet_getD hw hl']
      exact hm.imp (hle m) id
    have hle3 : ∀ m, met.getD m false = true → (stepMet ns met' n).getD m false = true := fun m hm => by
      rw [stepMet_getD hw hl']
      exact .inl (hle m hm)
    split at hx
    · rename_i h1
      rw [if_pos (hle n h1)]
      rcases List.mem_cons.1 hx with rfl | hx
      · exact List.mem_cons_self ..
      · exact List.mem_cons_of_mem _ (coneFrom_mono hw n _ _ (by rw [stepMet_len, hl]) (by rw [stepMet_len, hl']) hle2 x hx)
    · split
      · exact List.mem_cons_of_mem _ (coneFrom_mono hw n _ _ hl (by rw [stepMet_len, hl']) hle3 x hx)
      · exact coneFrom_mono hw n _ _ hl hl' hle x hx
theorem foldl_mark_mono : ∀ (l : List Nat) (met : List Bool) (m : Nat), met.getD m false = true → (l.foldl setMark met).getD m false = true
  | [], _, _, h => h
  | r :: l, met, m, h => foldl_mark_mono l _ m (by unfold setMark; rw [getD_set]; exact .inl h)
/-- the cone of some of the references is in that of all -/
theorem cone_take {ns : List Nd} (hw : WF ns) (l : List Nat) (i : Nat) : ∀ x ∈ cone ns (l.take i), x ∈ cone ns l := by
  intro x hx
  unfold cone coneDown at hx ⊢
  rw [List.mem_reverse] at hx ⊢
  refine coneFrom_mono hw _ _ _ (met0_len _ _) (met0_len _ _) (fun m hm => ?_) x hx
  unfold met0 at hm ⊢
  conv => lhs; arg 1; rw [← List.take_append_drop i l, List.foldl_append]
  exact foldl_mark_mono _ _ _ hm
end Go.Proofs.Ytkedpifopclipaa
namespace Go.Proofs.Ytkedpifopclipaa
open Go.Mem Go.Aig
theorem nodeAt_even {ns : List Nd} {d : Nat} {x : Nd} (hx : ns[d]? = some x) : nodeAt ns (2 * (d : Int)) = some x := by
  unfold nodeAt
  rw [if_pos (by omega), show ((2 * (d : Int)).toNat / 2) = d from by omega, hx]
theorem nodeAt_odd {ns : List Nd} {d : Nat} {x : Nd} (hx : ns[d]? = some x) : nodeAt ns (2 * (d : Int) + 1) = some x := by
  unfold nodeAt
  rw [if_pos (by omega), show ((2 * (d : Int) + 1).toNat / 2) = d from by omega, hx]
structure NodeIs (ns : List Nd) (d : Nat) (x : Nd) : Prop where
  l : lOf ns (2 * (d : Int)) = if x.k = 3 then x.l else 0
  r : rOf ns (2 * (d : Int)) = if x.k = 3 then x.r else 0
  is : isAndAt ns (2 * (d : Int)) = (x.k == 3)
  dep : depthOf ns (2 * (d : Int) + 1) = x.d
  err : depthErr ns (2 * (d : Int) + 1) = 0
theorem node_is {ns : List Nd} {d : Nat} {x : Nd} (hx : ns[d]? = some x) : NodeIs ns d x := by
  refine ⟨?_, ?_, ?_, ?_, ?_⟩
  · unfold lOf; rw [nodeAt_even hx]
  · unfold rOf; rw [nodeAt_even hx]
  · unfold isAndAt kindOf; rw [nodeAt_even hx]
  · unfold depthOf; rw [nodeAt_odd hx]
  · unfold depthErr; rw [nodeAt_odd hx]
theorem dep_is {ns : List Nd} {r : Nat} (hr : r < 2 * ns.length) : depthOf ns (r : Int) = dep ns r ∧ depthErr ns (r : Int) = 0 := by
  have hx : ns[r / 2]? = some ns[r / 2] := List.getElem?_eq_getElem (by omega)
  have hn : nodeAt ns (r : Int) = some ns[r / 2] := by
    unfold nodeAt
    rw [if_pos (by omega), show ((r : Int).toNat / 2) = r / 2 from by omega, hx]
  unfold depthOf depthErr dep
  rw [hn, hx]
  exact ⟨rfl, rfl⟩
theorem leaf_d {ns : List Nd} (hw : WF ns) {d : Nat} {x : Nd} (hx : ns[d]? = some x) (hk : ¬ x.k = 3) : x.d = 0 := by
  rcases Nat.eq_zero_or_pos d with h0 | h0
  · subst h0
    rw [hw.const] at hx; cases hx; rfl
  · rcases hw.other d x hx h0 with h | h
    · rw [h]
    · exact absurd h.1 hk
theorem cone_at {ns : List Nd} {l : List Nat} {j d : Nat} (h : (cone ns l)[j]? = some d) : (coneDown ns l)[(cone ns l).length - (j + 1)]? = some d := by
  have hlt := (List.getElem?_eq_some_iff.1 h).1
  unfold cone at h hlt ⊢
  rw [List.length_reverse] at hlt ⊢
  rw [List.getElem?_reverse hlt] at h
  rw [← h]; congr 1; omega
theorem cone_lt' {ns : List Nd} {l : List Nat} {j p q : Nat} (h1 : (cone ns l)[j]? = some p) (h2 : (cone ns l)[j + 1]? = some q) : p < q := by
  obtain ⟨l1, e1⟩ := List.getElem?_eq_some_iff.1 h1
  obtain ⟨l2, e2⟩ := List.getElem?_eq_some_iff.1 h2
  have := List.pairwise_iff_getElem.1 (cone_asc ns l) j (j + 1) l1 l2 (by omega)
  rw [e1, e2] at this
  exact this
theorem nodup_le : ∀ (l m : List Nat), l.Nodup → (∀ x ∈ l, x ∈ m) → l.length ≤ m.length
  | [], _, _, _ => by simp
  | a :: l, m, h, hs => by
    have ha := hs a (List.mem_cons_self ..)
    obtain ⟨h1, h2⟩ := List.nodup_cons.1 h
    have := nodup_le l (m.erase a) h2 fun x hx => (List.mem_erase_of_ne (show x ≠ a from fun e => h1 (by rw [← e]; exact hx))).2 (hs x (List.mem_cons_of_mem _ hx))
    rw [List.length_erase_of_mem ha] at this
    have := List.length_pos_of_mem ha
    simp only [List.length_cons]
    omega
theorem cone_len_of {ns : List Nd} {l L : List Nat} {k n : Nat} {met : List Bool} (h : ConeAt ns (coneDown ns l) k n met) (hk : (coneDown ns l).length ≤ k) (hL : L.Nodup) (hm : ∀ q, q ∈ L ↔ met.getD q false = true) : L.length = (cone ns l).length := by
  have h2 : (coneDown ns l).Nodup := (coneFrom_desc _ _).imp fun h => by omega
  have h3 : ∀ q, q ∈ L ↔ q ∈ coneDown ns l := fun q => (hm q).trans (h.all hk q)
  have h4 : L.length ≤ (coneDown ns l).length := nodup_le _ _ hL fun q hq => (h3 q).1 hq
  have h5 : (coneDown ns l).length ≤ L.length := nodup_le _ _ h2 fun q hq => (h3 q).2 hq
  unfold cone
  rw [List.length_reverse]
  omega
end Go.Proofs.Ytkedpifopclipaa
namespace Go.Proofs.Ytkedpifopclipaa
open Go.RowKit Go.Mem Go.Aig
set_option maxRecDepth 100000 in
theorem cmpIsNaN_is (w : World) (x : Int) : Calls Try.prog 202 #[.int .i64 x] w fun e w' => e = .returned (.bool false) ∧ w = w' := by
  go_enter Try.func202, Try.ntmps202
  go_wp2_with fail
  go_ret
  exact ⟨ret_bool (by simp), rfl⟩
set_option maxRecDepth 100000 in
theorem slIsNaN_is (w : World) (x : Int) : Calls Try.prog 166 #[.int .i64 x] w fun e w' => e = .returned (.bool false) ∧ w = w' := by
  go_enter Try.func166, Try.ntmps166
  go_wp2_with fail
  go_ret
  exact ⟨ret_bool (by simp), rfl⟩
set_option maxRecDepth 100000 in
set_option maxHeartbeats 1000000 in
theorem cmpLess_is (w : World) (x y : Int) : Calls Try.prog 165 #[.int .i64 x, .int .i64 y] w fun e w' => e = .returned (.bool (decide (x < y))) ∧ w = w' := by
  go_enter Try.func165, Try.ntmps165
  go_wp2_with fail
  refine (cmpIsNaN_is w x).mono ?_
  rintro e w' ⟨rfl, rfl⟩
  go_wp2_with fail
  go_ret
  exact ⟨rfl, rfl⟩
theorem rising_lt {l : List Nat} (h : l.Pairwise (· < ·)) {i j a b : Nat} (hi : l[i]? = some a) (hj : l[j]? = some b) (hij : i < j) : a < b := by
  obtain ⟨h1, h2⟩ := List.getElem?_eq_some_iff.1 hi
  obtain ⟨h3, h4⟩ := List.getElem?_eq_some_iff.1 hj
  rw [← h2, ← h4]
  exact List.pairwise_iff_getElem.1 h i j h1 h3 hij
set_option maxRecDepth 100000 in
set_option maxHeartbeats 4000000 in
theorem BSint_is {w : World} {a : Option Addr} {l : List Nat} (hP : l.Pairwise (· < ·)) (n c : Nat) (hn : l.length = n) (hnl : n ≤ 1000000) (hS : Sl w a (l.map fun (r : Nat) => (r : Int))) (x : Nat) :
    Calls Try.prog 111 #[.slice a n c, .int .i64 x] w fun e w' => ∃ i : Nat, e = .returned (.tuple #[.int .i64 i, .bool (decide (x ∈ l))]) ∧ w = w' := by
  have HS := Lib.hid hS; clear hS
  have HP := Lib.hid hP; clear hP
  have HN := Lib.hid hn; clear hn
  go_enter Try.func111, Try.ntmps111
  go_wp2_with fail
  go_loopw [7, 8] (fun s t wr => ∃ i j : Nat, s = .int .i64 i ∧ t = .int .i64 j ∧ i ≤ j ∧ j ≤ n ∧ wr = w ∧ (∀ k y : Nat, k < i → l[k]? = some y → y < x) ∧ (∀ k y : Nat, j ≤ k → l[k]? = some y → x ≤ y)) (fun s t _ => (intOf t).toNat - (intOf s).toNat)
  case atStart => exact ⟨0, n, rfl, rfl, by omega, by omega, rfl, fun k y hk => by omega, fun k y hk hy => by have := (List.getElem?_eq_some_iff.1 hy).1; have := HN.out; omega⟩
  case round =>
    obtain ⟨i, j, rfl, rfl, hij, hjn, rfl, h1, h2⟩ := hrel
    have H1 := Lib.hid h1; clear h1
    have H2 := Lib.hid h2; clear h2
    by_cases hlt : i < j
    · obtain ⟨m, hm⟩ : ∃ m, (i + j) / 2 = m := ⟨_, rfl⟩
      have hmi : i ≤ m ∧ m < j := by omega
      obtain ⟨y, hy⟩ : ∃ y, l[m]? = some y := ⟨_, List.getElem?_eq_getElem (by have := HN.out; omega)⟩
      obtain ⟨xb, xo, rfl, hcl⟩ := HS.out.cells m (y : Int) (by simp [hy])
      have em : ((i : Int) + (j : Int)) / 2 = m := by omega
      have HL := Lib.hid (cmpLess_is wr y x)
      have HY := Lib.hid hy; clear hy
      have HM := Lib.hid hm; clear hm
      by_cases hyx : y < x
      · have e1 : decide ((y : Int) < x) = true := decide_eq_true (by omega)
        rw [e1] at HL
        have HYX := Lib.hid hyx; clear hyx e1
        go_wp2_with fail
        refine HL.out.mono ?_
        rintro e w' ⟨rfl, rfl⟩
        go_wp2_with fail
        go_roundw
        case rel =>
          refine ⟨m + 1, j, by go_num, rfl, by omega, hjn, trivial, fun k z hk hz => ?_, H2.out⟩
          by_cases hkm : k = m
          · subst hkm
            have := HY.out.symm.trans hz
            cases this
            exact HYX.out
          · exact Nat.lt_trans (rising_lt HP.out hz HY.out (by omega)) HYX.out
        case measure => simp [intOf]; omega
      · have e1 : decide ((y : Int) < x) = false := decide_eq_false (by omega)
        rw [e1] at HL
        have HYX := Lib.hid hyx; clear hyx e1
        go_wp2_with fail
        refine HL.out.mono ?_
        rintro e w' ⟨rfl, rfl⟩
        go_wp2_with fail
        go_roundw
        case rel =>
          refine ⟨i, m, rfl, by go_num, by omega, by omega, trivial, H1.out, fun k z hk hz => ?_⟩
          have h3 := HYX.out
          by_cases hkm : k = m
          · subst hkm
            have := HY.out.symm.trans hz
            cases this
            omega
          · have := rising_lt HP.out HY.out hz (by omega)
            omega
        case measure => simp [intOf]; omega
    · have hij2 : j = i := by omega
      subst hij2
      by_cases hin : j < n
      · obtain ⟨y, hy⟩ : ∃ y, l[j]? = some y := ⟨_, List.getElem?_eq_getElem (by have := HN.out; omega)⟩
        obtain ⟨xb, xo, rfl, hcl⟩ := HS.out.cells j (y : Int) (by simp [hy])
        have HNA := Lib.hid (slIsNaN_is wr y)
        have hmem : decide (x ∈ l) = ((y : Int) == (x : Int)) := by
          have h3 := H2.out j y (Nat.le_refl _) hy
          by_cases hyx : y = x
          · subst hyx
            rw [decide_eq_true (List.mem_of_getElem? hy)]
            simp
          · have hne : x ∉ l := fun hmem => by
              obtain ⟨k, hk⟩ := List.mem_iff_getElem?.1 hmem
              by_cases hkj : k < j
              · have := H1.out k x hkj hk; omega
              · by_cases hkj2 : k = j
                · subst hkj2; rw [hy] at hk; cases hk; exact hyx rfl
                · have := rising_lt HP.out hy hk (by omega); omega
            rw [decide_eq_false hne]
            symm
            rw [beq_eq_false_iff_ne]
            omega
        have HMEM := Lib.hid hmem; clear hmem
        have HY := Lib.hid hy; clear hy
        cases hb : ((y : Int) == (x : Int))
        · go_wp2_with fail
          refine HNA.out.mono ?_
          rintro e w' ⟨rfl, rfl⟩
          go_wp2_with fail
          go_ret2
          exact ⟨j, by rw [HMEM.out, hb]; rfl, rfl⟩
        · go_wp2_with fail
          go_ret2
          exact ⟨j, by rw [HMEM.out, hb]; rfl, rfl⟩
      · have hjn2 : j = n := by omega
        have hne : decide (x ∈ l) = false := decide_eq_false fun hmem => by
          obtain ⟨k, hk⟩ := List.mem_iff_getElem?.1 hmem
          have h4 := (List.getElem?_eq_some_iff.1 hk).1
          have := H1.out k x (by have := HN.out; omega) hk
          omega
        have HNE := Lib.hid hne; clear hne
        have e1 : decide ((j : Int) < n) = false := decide_eq_false (by omega)
        clear hjn2
        go_wp2_with fail
        go_ret2
        exact ⟨j, by rw [HNE.out]; rfl, rfl⟩
/-- what Nodes returns -/
def nodesR (G : Gra) (ins : List Nat) : List Nat × Nat := if ins.length ≠ (inputs G.nodes).length then ([], 210) else ((wvF U64 ins G.nodes).1, 0)
section
variable {w : World} {g : Nat} {G : Gra} {F : List Nat}
/-- the inputs in the cone -/
def suppL (ns : List Nd) (l : List Nat) (k : Nat) : List Nat := (List.range k).filter fun i => decide ((inputs ns).getD i 0 / 2 ∈ cone ns l)
def suppR (G : Gra) (l : List Int) : List Nat × Nat := if badIn G l then ([], 200) else (suppL G.nodes (nats l) (inputs G.nodes).length, 0)
theorem suppL_succ (ns : List Nd) (l : List Nat) (k : Nat) : suppL ns l (k + 1) = suppL ns l k ++ (if (inputs ns).getD k 0 / 2 ∈ cone ns l then [k] else []) := by
  unfold suppL
  rw [List.range_succ, List.filter_append]
  congr 1
  by_cases h : (inputs ns).getD k 0 / 2 ∈ cone ns l
  · rw [if_pos h, List.filter_cons, if_pos (by simpa using h)]; rfl
  · rw [if_neg h, List.filter_cons, if_neg (by simpa using h)]; rfl
theorem suppL_len (ns : List Nd) (l : List Nat) (k : Nat) : (suppL ns l k).length ≤ k := by
  unfold suppL
  exact Nat.le_trans (List.length_filter_le _ _) (by simp)
/-- a new slice of ints -/
def INew (w : World) (v : Value) (l : List Nat) (w' : World) : Prop := row w' 3 1 v l.length (refsCells l) ∧ (∀ q ∈ v.ownBlock.toList, w.heap.size ≤ q) ∧ Ch [] w w'
set_option maxRecDepth 100000 in
set_option maxHeartbeats 1000000 in
theorem simSupport_is (h : GIn w g G F) {a : Option Addr} {l : List Int} (n c : Nat) (hn : l.length = n) (hL : Sl w a l) (hlow : ∀ q, a = some q → q.block < w.heap.size) (hbd : ∀ r ∈ l, -9223372036854775808 ≤ r ∧ r ≤ 9223372036854775807) :
    Calls Try.prog 44 #[.pointer (some ⟨g, 0, none⟩), .slice a n c] w fun e w' => ∃ v, e = .returned (.tuple #[v, .int .i64 (suppR G l).2]) ∧ INew w v (suppR G l).1 w' := by
  subst hn
  have HCK := simcheck_is h l.length c rfl hL (fun r hr => (hbd r hr).2)
  unfold suppR
  cases hb : badIn G l
  · rw [hb] at HCK
    simp only [Bool.false_eq_true, if_false] at HCK ⊢
    obtain ⟨hnat, hnl⟩ := badIn_no hb
    have HCN := fun (W : World) (hW : Ch [] w W) => Cone_g (h.same hW (by simp)) (l := nats l) l.length c (by rw [← hnat]; simp [nats]) (by rw [hnat]; exact hL.ch hW (by simp)) (fun p hp => Nat.lt_of_lt_of_le (hlow p hp) hW.size) hnl
    have HCN := Lib.hid HCN
    have HIN := fun (W : World) (hW : Ch [] w W) => Inputs_g (h.same hW (by simp))
    have HIN := Lib.hid HIN
    have hca := cone_asc G.nodes (nats l)
    have hcl : (cone G.nodes (nats l)).length ≤ 65536 := by
      have h1 : (cone G.nodes (nats l)).length ≤ G.nodes.length := by
        unfold cone coneDown
        rw [List.length_reverse]
        exact coneFrom_len _ _ _
      have := h.ok.room
      have := h.ok.most
      omega
    have HSU := Lib.hid (suppL_succ G.nodes (nats l))
    have HSL := Lib.hid (suppL_len G.nodes (nats l))
    obtain ⟨IN, hIN⟩ : ∃ IN, IN = inputs G.nodes := ⟨_, rfl⟩
    rw [← hIN] at HIN HSU ⊢
    have hil : IN.length ≤ 65536 := by
      rw [hIN]
      have := inputs_le G.nodes
      have := h.ok.room
      have := h.ok.most
      omega
    have hibd : ∀ r ∈ IN, r ≤ 1000000 := fun r hr => by
      rw [hIN] at hr
      have := (inputsFrom_ge _ _ _ hr).2.2
      have := h.ok.room
      have := h.ok.most
      omega
    have HIB := Lib.hid hibd; clear hibd
    clear hIN
    generalize hCC : cone G.nodes (nats l) = CC at *
    generalize hSS : suppL G.nodes (nats l) = SS at *
    have hSS0 : SS 0 = [] := by rw [← hSS]; rfl
    have HSS0 := Lib.hid hSS0; clear hSS0
    have HCA := Lib.hid hca; clear hca
    clear h hL hlow hbd hb hnat hnl hCC hSS
    go_enter Try.func44, Try.ntmps44
    go_wp2_with fail
    refine HCK.mono ?_
    rintro e w1 ⟨rfl, hc1⟩
    have hC := HCN.out w1 hc1
    have HCo := Lib.hid hC; clear hC HCN
    have HC1 := Lib.hid hc1; clear hc1 HCK
    go_wp2_with fail
    refine HCo.out.mono ?_
    rintro e w2 ⟨v, rfl, hro, _, hc2⟩
    obtain ⟨ca, cc, rfl⟩ := row.shape hro
    have hsc := Sl.of_row' hro rfl (by omega)
    have hc12 := HC1.out.trans hc2 (by simp)
    have hI := HIN.out w2 hc12
    have HI := Lib.hid hI; clear hI HIN hro hc2 HCo
    have HC2 := Lib.hid hc12; clear hc12 HC1
    have HSC := Lib.hid hsc; clear hsc
    go_wp2_with fail
    refine HI.out.mono ?_
    rintro e w3 ⟨v, rfl, hri, _, hc3⟩
    obtain ⟨ia, ic, rfl⟩ := row.shape hri
    have hsi := Sl.of_row' hri rfl (by omega)
    have hsc := HSC.out.ch hc3 (by simp)
    have hc23 := HC2.out.trans hc3 (by simp)
    clear hri hc3 HI HSC
    have HC3 := Lib.hid hc23; clear hc23 HC2
    have HSC := Lib.hid hsc; clear hsc
    have HSI := Lib.hid hsi; clear hsi
    go_wp2_with fail
    go_loopw [9, 29] (fun o i wr => ∃ k : Nat, k ≤ IN.length ∧ i = .int .i64 k ∧ Ch [] w3 wr ∧ row wr 3 1 o (SS k).length (refsCells (SS k)) ∧ ∀ q ∈ o.ownBlock.toList, w3.heap.size ≤ q) (fun _ i _ => IN.length - (intOf i).toNat)
    case atStart => exact ⟨0, by omega, rfl, Ch.refl _ _, by rw [HSS0.out]; exact ⟨rfl, .inl ⟨rfl, rfl⟩⟩, by simp⟩
    case round =>
      obtain ⟨k, hk, rfl, hc, hrow, hlo⟩ := hrel
      obtain ⟨oa, oc, rfl⟩ := row.shape hrow
      have HROW := Lib.hid hrow; clear hrow
      by_cases hlt : k < IN.length
      · obtain ⟨x, hx⟩ : ∃ x, IN[k]? = some x := ⟨_, List.getElem?_eq_getElem hlt⟩
        have hxb := HIB.out x (List.mem_of_getElem? hx)
        have hsn := HSU.out k
        rw [show IN.getD k 0 = x by rw [List.getD_eq_getElem?_getD, hx]; rfl] at hsn
        have hsl := HSL.out k
        have hsl2 := HSL.out (k + 1)
        obtain ⟨xb, xo, rfl, hcl'⟩ := HSI.out.cells k (x : Int) (by simp [hx])
        have c0 := (hc.cell (cell_lt hcl') (by simp)).trans hcl'
        have ex : (x : Int) / 2 = ((x / 2 : Nat) : Int) := by omega
        have hBS := BSint_is HCA.out CC.length cc rfl (by omega) (HSC.out.ch hc (by simp)) (x / 2)
        rw [← ex] at hBS
        have HC := Lib.hid hc; clear hc
        have HLO := Lib.hid hlo; clear hlo
        have HBS := Lib.hid hBS; clear hBS ex hcl' hx
        by_cases hm : x / 2 ∈ CC
        · rw [if_pos hm] at hsn
          rw [decide_eq_true hm] at HBS
          have HM := Lib.hid hm; clear hm
          have hcA : Ch [] wr (wr.alloc (.cells #[.int .i64 k] 3)) := (Ch.refl _ _).alloc _
          have hrA := HROW.out.ch hcA (by simp)
          have hbA : blk (wr.alloc (.cells #[.int .i64 k] 3)) wr.heap.size [.int .i64 k] := blk.new' _ _ rfl
          have HSN := Lib.hid hsn; clear hsn
          have HRA := Lib.hid hrA; clear hrA
          have HBA := Lib.hid hbA; clear hbA
          have HCA' := Lib.hid hcA; clear hcA
          go_wp2_with fail
          refine HBS.out.mono ?_
          rintro e w' ⟨i0, rfl, rfl⟩
          go_wp2_with (at_builtin; go_loud (refine wpList_append_row slInts rfl _ _ rfl (v := .slice oa (SS k).length oc) (n := (SS k).length) (xs := refsCells (SS k)) rfl HRA.out (ad := ⟨wr.heap.size, 0, none⟩) (m := 1) (c := 1) (news := [.int .i64 k]) rfl rfl (news_blk HBA.out) (by simp [Value.oneCell']) (by omega) (by omega) ?_; intro v' w5 hown4 hC4 hf4; have HO4 := Lib.hid hown4; clear hown4; have HCC4 := Lib.hid hC4; clear hC4; have HF4 := Lib.hid hf4; clear hf4))
          go_roundw
          case rel =>
            obtain ⟨q1, q2⟩ := app_step HC.out HCA'.out HLO.out HCC4.out HF4.out
            refine ⟨k + 1, by omega, by go_num, q1, ?_, q2⟩
            rw [HSN.out, List.length_append, show refsCells (SS k ++ [k]) = refsCells (SS k) ++ [.int .i64 k] by simp [refsCells]]
            exact HO4.out
          case measure => simp [intOf]; omega
        · rw [if_neg hm] at hsn
          rw [decide_eq_false hm] at HBS
          have HM := Lib.hid hm; clear hm
          have HSN := Lib.hid hsn; clear hsn
          go_wp2_with fail
          refine HBS.out.mono ?_
          rintro e w' ⟨i0, rfl, rfl⟩
          go_wp2_with fail
          go_roundw
          case rel => exact ⟨k + 1, by omega, by go_num, HC.out, by rw [HSN.out, List.append_nil]; exact HROW.out, HLO.out⟩
          case measure => simp [intOf]; omega
      · have hkn : k = IN.length := by omega
        subst hkn
        have HLO := Lib.hid hlo; clear hlo
        have HC := Lib.hid hc; clear hc
        go_wp2_with fail
        go_ret2
        exact ⟨_, rfl, HROW.out, fun q hq => Nat.le_trans HC3.out.size (HLO.out q hq), HC3.out.trans HC.out (by simp)⟩
  · rw [hb] at HCK
    simp only [if_true] at HCK ⊢
    go_enter Try.func44, Try.ntmps44
    go_wp2_with fail
    refine HCK.mono ?_
    rintro e w1 ⟨rfl, hc1⟩
    have HC1 := Lib.hid hc1; clear hc1
    go_wp2_with fail
    go_ret2
    exact ⟨_, rfl, ⟨rfl, .inl ⟨rfl, rfl⟩⟩, by simp, HC1.out⟩
end
end Go.Proofs.Ytkedpifopclipaa
namespace Go.Aig
/-- a node that is wanted -/
structure N21 where
  inp : Bool
  l : Int
  r : Int
deriving Inhabited
def fewS (q : List N21 × Nat) (x : N21) : List N21 × Nat := (if q.2 + x.inp.toNat ≤ 8 ∨ x.inp = false then q.1 ++ [x] else q.1, q.2 + x.inp.toNat)
def fewL (l : List N21) : List N21 := ((l.take 40).foldl fewS ([], 0)).1
def cntI (l : List N21) : Nat := (l.filter fun x => x.inp).length
theorem cntI_snoc (l : List N21) (x : N21) : cntI (l ++ [x]) = cntI l + x.inp.toNat := by
  unfold cntI
  rw [List.filter_append, List.length_append]
  cases h : x.inp <;> simp [h]
theorem few_inv : ∀ l : List N21, (l.foldl fewS ([], 0)).1.length ≤ l.length ∧ cntI (l.foldl fewS ([], 0)).1 ≤ 8 ∧ cntI (l.foldl fewS ([], 0)).1 ≤ (l.foldl fewS ([], 0)).2 ∧ (l.foldl fewS ([], 0)).2 ≤ l.length := by
  intro l
  induction l using List.snocRec with
  | nil => exact ⟨Nat.le_refl _, by simp [cntI], by simp [cntI], Nat.le_refl _⟩
  | snoc l x ih =>
    obtain ⟨h1, h2, h3, h4⟩ := ih
    rw [List.foldl_append]
    generalize l.foldl fewS ([], 0) = q at *
    have hx : x.inp.toNat ≤ 1 := by cases x.inp <;> simp
    show (fewS q x).1.length ≤ _ ∧ cntI (fewS q x).1 ≤ 8 ∧ cntI (fewS q x).1 ≤ (fewS q x).2 ∧ (fewS q x).2 ≤ _
    unfold fewS
    simp only
    split
    · rename_i h
      rw [List.length_append, List.length_append, cntI_snoc]
      refine ⟨by simp; omega, ?_, by omega, by simp; omega⟩
      rcases h with h | h
      · omega
      · rw [h]; simpa using h2
    · rw [List.length_append]
      exact ⟨by omega, h2, by omega, by simp; omega⟩
theorem fewS_sub : ∀ (l : List N21) (q : List N21 × Nat), ∀ x ∈ (l.foldl fewS q).1, x ∈ q.1 ∨ x ∈ l := by
  intro l
  induction l with
  | nil => intro q x hx; exact .inl hx
  | cons y l ih =>
    intro q x hx
    rcases ih _ x hx with h | h
    · unfold fewS at h
      simp only at h
      split at h
      · rcases List.mem_append.1 h with h | h
        · exact .inl h
        · rw [List.mem_singleton.1 h]; exact .inr (List.mem_cons_self ..)
      · exact .inl h
    · exact .inr (List.mem_cons_of_mem _ h)
theorem fewL_sub {l : List N21} {x : N21} (h : x ∈ fewL l) : x ∈ l := by
  rcases fewS_sub (l.take 40) ([], 0) x h with h | h
  · simp at h
  · exact List.mem_of_mem_take h
theorem fewL_len (l : List N21) : (fewL l).length ≤ 40 ∧ cntI (fewL l) ≤ 8 := by
  have := few_inv (l.take 40)
  unfold fewL
  rw [List.length_take] at this
  omega
end Go.Aig
namespace Go.Proofs.Ytkedpifopclipaa
open Go.RowKit Go.Mem Go.Aig
theorem and_room21 {G : Gra} (a b : Nat) (h : G.nodes.length < G.most) : (Aig.and G a b).2.2 = 0 ∧ (Aig.and G a b).1.most = G.most ∧ (Aig.and G a b).1.nodes.length ≤ G.nodes.length + 1 ∧ inputs (Aig.and G a b).1.nodes = inputs G.nodes := by
  unfold Aig.and
  split
  · exact ⟨rfl, rfl, by simp, rfl⟩
  · split
    · exact ⟨rfl, rfl, by simp, rfl⟩
    · unfold put
      rw [if_neg (by omega)]
      refine ⟨rfl, rfl, by simp, ?_⟩
      exact inputs_append (by simp)
theorem input_room {G : Gra} (h : G.nodes.length < G.most) : (doInput G).2.2 = 0 ∧ (doInput G).1.most = G.most ∧ (doInput G).1.nodes.length = G.nodes.length + 1 ∧ (inputs (doInput G).1.nodes).length = (inputs G.nodes).length + 1 := by
  unfold doInput put
  rw [if_neg (by omega)]
  refine ⟨rfl, rfl, by simp, ?_⟩
  show (inputs (G.nodes ++ [_])).length = _
  rw [inputs_input rfl]
  simp
/-- a slice of nodes -/
structure NodeS (w : World) (a : Option Addr) (n cap : Nat) (l : List N21) : Prop where
  len : l.length = n
  le : n ≤ cap
  max : cap ≤ 9223372036854775807
  cells : ∀ (i : Nat) (x : N21), l[i]? = some x → ∃ b o, a = some ⟨b, o, none⟩ ∧ w.cell? ⟨b, o + i * 3, none⟩ = some (.bool x.inp) ∧ w.cell? ⟨b, o + i * 3 + 1, none⟩ = some (.int .i64 x.l) ∧ w.cell? ⟨b, o + i * 3 + 2, none⟩ = some (.int .i64 x.r)
  bd : ∀ x ∈ l, (-9223372036854775808 ≤ x.l ∧ x.l ≤ 9223372036854775807) ∧ (-9223372036854775808 ≤ x.r ∧ x.r ≤ 9223372036854775807)
theorem NodeS.ch {w w' : World} {a : Option Addr} {n cap : Nat} {l : List N21} (h : NodeS w a n cap l) (hc : Ch [] w w') : NodeS w' a n cap l :=
  ⟨h.len, h.le, h.max, fun i x hx => by
    obtain ⟨b, o, e, h1, h2, h3⟩ := h.cells i x hx
    exact ⟨b, o, e, (hc.cell (cell_lt h1) (by simp)).trans h1, (hc.cell (cell_lt h2) (by simp)).trans h2, (hc.cell (cell_lt h3) (by simp)).trans h3⟩, h.bd⟩
def n21Cells (l : List N21) : List Value := l.flatMap fun x => [.bool x.inp, .int .i64 x.l, .int .i64 x.r]
theorem n21Cells_snoc (l : List N21) (x : N21) : n21Cells (l ++ [x]) = n21Cells l ++ [.bool x.inp, .int .i64 x.l, .int .i64 x.r] := by simp [n21Cells]
theorem n21_at : ∀ {L : List N21} {k : Nat} {x : N21}, L[k]? = some x → (n21Cells L)[k * 3]? = some (.bool x.inp) ∧ (n21Cells L)[k * 3 + 1]? = some (.int .i64 x.l) ∧ (n21Cells L)[k * 3 + 2]? = some (.int .i64 x.r)
  | [], k, x, h => by simp at h
  | y :: L, 0, x, h => by
    have e : y = x := by simpa using h
    subst e
    exact ⟨rfl, rfl, rfl⟩
  | y :: L, k + 1, x, h => by
    have ih := n21_at (L := L) (k := k) (x := x) (by simpa using h)
    have e : n21Cells (y :: L) = [.bool y.inp, .int .i64 y.l, .int .i64 y.r] ++ n21Cells L := by simp [n21Cells]
    rw [e, show (k + 1) * 3 = k * 3 + 3 by omega]
    refine ⟨?_, ?_, ?_⟩
    · rw [List.getElem?_append_right (by simp)]; simpa using ih.1
    · rw [List.getElem?_append_right (by simp)]; simpa using ih.2.1
    · rw [List.getElem?_append_right (by simp)]; simpa using ih.2.2
theorem row_cell {w : World} {e : TypeId} {size b n c m : Nat} {vs : List Value} (h : row w e size (.slice (some ⟨b, 0, none⟩) n c) m vs) {k : Nat} {v : Value} (hk : vs[k]? = some v) : w.cell? ⟨b, k, none⟩ = some v := by
  have := h.cells (g := b) rfl k v hk
  rw [Addr.add_lit] at this
  simpa using this
end Go.Proofs.Ytkedpifopclipaa
namespace Go.Proofs.Ytkedpifopclipaa
open Go.ChangeShapes Go.WideShapes Go.ChangeAt Go.RowKit Go.Mem Go.Aig Go.Deep
theorem wf_u64 {n : Int} (h : (Lit.int .u64 n).wf = true) : ∃ m : Nat, n = m ∧ m < 2 ^ 64 := by
  have : 0 ≤ n ∧ n ≤ 18446744073709551615 := by simpa [Lit.wf, IntKind.min, IntKind.max, IntKind.signed, IntKind.bits] using h
  exact ⟨n.toNat, by omega, by omega⟩
theorem wf_u16 {n : Int} (h : (Lit.int .u16 n).wf = true) : ∃ m : Nat, n = m ∧ m < 2 ^ 16 := by
  have : 0 ≤ n ∧ n ≤ 65535 := by simpa [Lit.wf, IntKind.min, IntKind.max, IntKind.signed, IntKind.bits] using h
  exact ⟨n.toNat, by omega, by omega⟩
theorem wf_u8' {n : Int} (h : (Lit.int .u8 n).wf = true) : ∃ m : Nat, n = m ∧ m < 2 ^ 8 := by
  have : 0 ≤ n ∧ n ≤ 255 := by simpa [Lit.wf, IntKind.min, IntKind.max, IntKind.signed, IntKind.bits] using h
  exact ⟨n.toNat, by omega, by omega⟩
/-- a slice of numbers of one kind that came in -/
structure NumS (k : IntKind) (bits : Nat) (w : World) (a : Option Addr) (n cap : Nat) (l : List Nat) : Prop where
  sv : Sv w a (l.map fun (x : Nat) => .int k x)
  len : l.length = n
  bd : ∀ x ∈ l, x < 2 ^ bits
  le : n ≤ cap
  max : cap ≤ 9223372036854775807
section
variable {H : Type} {enc : TypeId × Value → H} {W : World}
set_option maxRecDepth 100000 in
theorem u64s_open6 {a : Option Addr} {len cap : Nat} {d : DataW H} {p : List MemPlace} (h : DataW.Trod enc Try.prog W 0 (fun _ => true) true 182 (.slice a len cap) d p) : ∃ l, NumS .u64 64 W a len cap l := by
  obtain ⟨fuel, hf⟩ := h
  rcases open_slice Try.underlying182 hf with ⟨hcs, _⟩ | ⟨y, l, cp, m, n, D, Pl, hcs, _, hl, hm, hmm, _, hi⟩
  · simp [Value.cells] at hcs
    obtain ⟨rfl, rfl, rfl⟩ := hcs
    exact ⟨[], ⟨by simp, by simp⟩, rfl, by simp, by omega, by omega⟩
  · simp [Value.cells] at hcs
    obtain ⟨rfl, rfl, rfl⟩ := hcs
    have hm' : cap ≤ 9223372036854775807 := by unfold maxLen at hm; exact hm
    have hC : Try.prog.cellsOf 183 = 1 := by kernel_rfl
    have hspot : 0 < len → y.spot = none := fun h0 => by
      obtain ⟨cs', hc, _⟩ := hi 0 (by rw [hmm]; simp; omega)
      rw [hC] at hc
      obtain ⟨_, hcl, hat⟩ := World.cells?_some hc
      have e0 := hat 0 (by omega)
      rw [List.getElem?_eq_getElem (by omega)] at e0
      simpa [Addr.add] using World.cell?_spot e0
    have key : ∀ i, i < len → ∃ z : Nat, (∃ b o, (some y : Option Addr) = some ⟨b, o, none⟩ ∧ W.cell? ⟨b, o + i, none⟩ = some (.int .u64 z)) ∧ z < 2 ^ 64 := by
      intro i hlt
      obtain ⟨cs', hc, ht⟩ := hi i (by rw [hmm]; simp; omega)
      rw [hC] at hc
      obtain ⟨_, hcl, hat⟩ := World.cells?_some hc
      match cs', hcl with
      | [c0], _ =>
        obtain ⟨z, hz, _, hw⟩ := DataW.trod_int Try.underlying183 ht
        obtain ⟨m, rfl, hb⟩ := wf_u64 hw
        simp at hz
        subst hz
        have e0 := hat 0 (by omega)
        simp at e0
        obtain ⟨b, o, spot⟩ := y
        have hsp : spot = none := hspot (by omega)
        subst hsp
        simp only [Addr.add_lit] at e0
        exact ⟨m, ⟨b, o, rfl, by simpa using e0⟩, hb⟩
    obtain ⟨ll, hll, hp⟩ := list_of _ len key
    refine ⟨ll, ⟨fun i s hs => ?_, by rw [List.length_map]; omega⟩, hll, fun s hs => ?_, hl, hm'⟩
    · rw [List.getElem?_map, Option.map_eq_some_iff] at hs
      obtain ⟨q, hq, rfl⟩ := hs
      exact (hp i q hq).1
    · obtain ⟨i, hi2⟩ := List.mem_iff_getElem?.1 hs
      exact (hp i s hi2).2
set_option maxRecDepth 100000 in
theorem u8s_open6 {a : Option Addr} {len cap : Nat} {d : DataW H} {p : List MemPlace} (h : DataW.Trod enc Try.prog W 0 (fun _ => true) true 26 (.slice a len cap) d p) : ∃ l, NumS .u8 8 W a len cap l := by
  obtain ⟨fuel, hf⟩ := h
  rcases open_slice Try.underlying26 hf with ⟨hcs, _⟩ | ⟨y, l, cp, m, n, D, Pl, hcs, _, hl, hm, hmm, _, hi⟩
  · simp [Value.cells] at hcs
    obtain ⟨rfl, rfl, rfl⟩ := hcs
    exact ⟨[], ⟨by simp, by simp⟩, rfl, by simp, by omega, by omega⟩
  · simp [Value.cells] at hcs
    obtain ⟨rfl, rfl, rfl⟩ := hcs
    have hm' : cap ≤ 9223372036854775807 := by unfold maxLen at hm; exact hm
    have hC : Try.prog.cellsOf 5 = 1 := by kernel_rfl
    have hspot : 0 < len → y.spot = none := fun h0 => by
      obtain ⟨cs', hc, _⟩ := hi 0 (by rw [hmm]; simp; omega)
      rw [hC] at hc
      obtain ⟨_, hcl, hat⟩ := World.cells?_some hc
      have e0 := hat 0 (by omega)
      rw [List.getElem?_eq_getElem (by omega)] at e0
      simpa [Addr.add] using World.cell?_spot e0
    have key : ∀ i, i < len → ∃ z : Nat, (∃ b o, (some y : Option Addr) = some ⟨b, o, none⟩ ∧ W.cell? ⟨b, o + i, none⟩ = some (.int .u8 z)) ∧ z < 2 ^ 8 := by
      intro i hlt
      obtain ⟨cs', hc, ht⟩ := hi i (by rw [hmm]; simp; omega)
      rw [hC] at hc
      obtain ⟨_, hcl, hat⟩ := World.cells?_some hc
      match cs', hcl with
      | [c0], _ =>
        obtain ⟨z, hz, _, hw⟩ := DataW.trod_int Try.underlying5 ht
        obtain ⟨m, rfl, hb⟩ := wf_u8' hw
        simp at hz
        subst hz
        have e0 := hat 0 (by omega)
        simp at e0
        obtain ⟨b, o, spot⟩ := y
        have hsp : spot = none := hspot (by omega)
        subst hsp
        simp only [Addr.add_lit] at e0
        exact ⟨m, ⟨b, o, rfl, by simpa using e0⟩, hb⟩
    obtain ⟨ll, hll, hp⟩ := list_of _ len key
    refine ⟨ll, ⟨fun i s hs => ?_, by rw [List.length_map]; omega⟩, hll, fun s hs => ?_, hl, hm'⟩
    · rw [List.getElem?_map, Option.map_eq_some_iff] at hs
      obtain ⟨q, hq, rfl⟩ := hs
      exact (hp i q hq).1
    · obtain ⟨i, hi2⟩ := List.mem_iff_getElem?.1 hs
      exact (hp i s hi2).2
end
end Go.Proofs.Ytkedpifopclipaa
namespace Go.Proofs.Ytkedpifopclipaa
open Go.ChangeShapes Go.WideShapes Go.ChangeAt Go.RowKit Go.Mem Go.Aig Go.Deep
section
variable {H : Type} {enc : TypeId × Value → H} {W : World}
set_option maxRecDepth 100000 in
theorem nodes27_open {a : Option Addr} {len cap : Nat} {d : DataW H} {p : List MemPlace} (h : DataW.Trod enc Try.prog W 0 (fun _ => true) true 22 (.slice a len cap) d p) : ∃ l, NodeS W a len cap l := by
  obtain ⟨fuel, hf⟩ := h
  rcases open_slice Try.underlying22 hf with ⟨hcs, _⟩ | ⟨x, l, c, m, n, D, Pl, hcs, _, hl, hm, hmm, _, hi⟩
  · simp [Value.cells] at hcs
    obtain ⟨rfl, rfl, rfl⟩ := hcs
    exact ⟨[], rfl, by omega, by omega, by simp, by simp⟩
  · simp [Value.cells] at hcs
    obtain ⟨rfl, rfl, rfl⟩ := hcs
    have hC : Try.prog.cellsOf 139 = 3 := by kernel_rfl
    have hspot : 0 < len → x.spot = none := fun h0 => by
      obtain ⟨cs', hc, _⟩ := hi 0 (by rw [hmm]; simp; omega)
      rw [hC] at hc
      obtain ⟨_, hcl, hat⟩ := World.cells?_some hc
      have e0 := hat 0 (by omega)
      rw [List.getElem?_eq_getElem (by omega)] at e0
      simpa [Addr.add] using World.cell?_spot e0
    have key : ∀ i, i < len → ∃ s : N21, (∃ b o, (some x : Option Addr) = some ⟨b, o, none⟩ ∧ W.cell? ⟨b, o + i * 3, none⟩ = some (.bool s.inp) ∧ W.cell? ⟨b, o + i * 3 + 1, none⟩ = some (.int .i64 s.l) ∧ W.cell? ⟨b, o + i * 3 + 2, none⟩ = some (.int .i64 s.r)) ∧
        (-9223372036854775808 ≤ s.l ∧ s.l ≤ 9223372036854775807) ∧ (-9223372036854775808 ≤ s.r ∧ s.r ≤ 9223372036854775807) := by
      intro i hlt
      obtain ⟨cs', hc, ht⟩ := hi i (by rw [hmm]; simp; omega)
      rw [hC] at hc
      obtain ⟨ys, n', _, _, hlen, _, hfd⟩ := DataW.trod_struct Try.underlying139 ht
      obtain ⟨_, hcl, hat⟩ := World.cells?_some hc
      match cs', hcl with
      | [c0, c1, c2], _ =>
        have f0 := hfd 0 _ rfl
        have f1 := hfd 1 _ rfl
        have f2 := hfd 2 _ rfl
        have hu : Try.prog.cellsOf 4 = 1 := by kernel_rfl
        have hi9 : Try.prog.cellsOf 3 = 1 := by kernel_rfl
        simp only [List.getElem_toArray, List.getElem_cons_zero, List.getElem_cons_succ, hu, hi9, List.drop_zero, List.drop_succ_cons, List.take_succ_cons, List.take_zero] at f0 f1 f2
        have hys : ys.length = 3 := by have := ‹ys.length = _›; simpa using this
        rw [List.getElem?_eq_getElem (by omega)] at f0 f1 f2
        obtain ⟨z0, hz0, _⟩ := DataW.trod_bool Try.underlying4 f0
        obtain ⟨z1, hz1, _, hw1⟩ := DataW.trod_int Try.underlying3 f1
        obtain ⟨z2, hz2, _, hw2⟩ := DataW.trod_int Try.underlying3 f2
        have b1 := wf_i64 hw1
        have b2 := wf_i64 hw2
        simp at hz0 hz1 hz2
        subst hz0 hz1 hz2
        have e0 := hat 0 (by omega)
        have e1 := hat 1 (by omega)
        have e2 := hat 2 (by omega)
        simp at e0 e1 e2
        obtain ⟨b, o, spot⟩ := x
        have hsp : spot = none := hspot (by omega)
        subst hsp
        simp only [Addr.add_lit] at e0 e1 e2
        exact ⟨⟨z0, z1, z2⟩, ⟨b, o, rfl, by simpa using e0, by simpa using e1, by simpa using e2⟩, b1, b2⟩
    obtain ⟨ll, hll, hp⟩ := list_of _ len key
    have idx : ∀ s ∈ ll, ∃ i : Nat, ll[i]? = some s := fun s hs => List.mem_iff_getElem?.1 hs
    exact ⟨ll, hll, hl, by unfold maxLen at hm; exact hm, fun i s hs => (hp i s hs).1, fun s hs => by obtain ⟨i, hi2⟩ := idx s hs; exact (hp i s hi2).2⟩
end
end Go.Proofs.Ytkedpifopclipaa
namespace Go.Proofs.Ytkedpifopclipaa
open Go.RowKit Go.Mem Go.Aig
theorem takeN_succ {xs ys : List Nat} {k : Nat} {x y : Nat} (h : xs.take k = ys.take k) (hx : xs[k]? = some x) (hy : ys[k]? = some y) (e : x = y) : xs.take (k + 1) = ys.take (k + 1) := by
  rw [List.take_add_one, List.take_add_one, h, hx, hy, e]
section
variable {w : World}
end
/-- what is known along a walk that changes no graph: the graph, and slices that are held -/
structure HS (w0 w : World) (g : Nat) (G : Gra) (F : List Nat) (L : List (Option Addr × List Value)) : Prop where
  own : Own w0 w g G F
  held : ∀ p ∈ L, Sv w p.1 p.2
section
variable {w0 w : World} {g : Nat} {G : Gra} {F : List Nat} {L : List (Option Addr × List Value)}
theorem HS.same {w' : World} (h : HS w0 w g G F L) (hc : Ch [] w w') : HS w0 w' g G F L := ⟨h.own.same hc, fun p hp => (h.held p hp).ch hc (by simp)⟩
theorem HS.add {a : Option Addr} {xs : List Value} (h : HS w0 w g G F L) (hs : Sv w a xs) : HS w0 w g G F ((a, xs) :: L) := ⟨h.own, fun p hp => by
  rcases List.mem_cons.1 hp with rfl | hp
  · exact hs
  · exact h.held p hp⟩
theorem HS.drop {p : Option Addr × List Value} (h : HS w0 w g G F (p :: L)) : HS w0 w g G F L := ⟨h.own, fun q hq => h.held q (List.mem_cons_of_mem _ hq)⟩
theorem HS.blk {b : Nat} {xs : List Value} (h : HS w0 w g G F L) (hb : blk w b xs) (hl : xs.length ≤ 9223372036854775807) : HS w0 w g G F ((some ⟨b, 0, none⟩, xs) :: L) := h.add ⟨fun i x hx => ⟨b, 0, rfl, by
  rw [Nat.zero_add]
  exact hb.cell hx⟩, hl⟩
theorem simParts_h (h : HS w0 w g G F L) (r s : Int) (hr : -9223372036854775808 ≤ r ∧ r ≤ 9223372036854775807) (hs : -9223372036854775808 ≤ s ∧ s ≤ 9223372036854775807) {B : List Bool} {b : Bool} {e k : Nat} (hR : partsG G r s = ((B, b), e)) (hk : B.length = k) (hkl : k ≤ 1000000) :
    Calls Try.prog 71 #[.pointer (some ⟨g, 0, none⟩), .int .i64 r, .int .i64 s] w fun en w' => ∃ a c, en = .returned (.tuple #[.slice a k c, .bool b, .int .i64 e]) ∧ HS w0 w' g G F ((a, bools B) :: L) := by
  have H := simParts_is h.own.gin r s hr hs
  rw [hR] at H
  refine H.mono ?_
  rintro en w' ⟨v, rfl, hrow, _, hc⟩
  obtain ⟨a, c, rfl⟩ := row.shape hrow
  simp only [hk] at hrow
  exact ⟨a, c, by simp only [hk], (h.same hc).add (row.sv hrow rfl hkl)⟩
theorem simWords_h (h : HS w0 w g G F L) {xa : Option Addr} {ins : List Nat} {m xc : Nat} (hx : (xa, u64s ins) ∈ L) (hm : ins.length = m) (hlt : ∀ v ∈ ins, v < 2 ^ 64) (hcap : m ≤ xc) (hxc : xc ≤ 9223372036854775807) {a : Option Addr} {l : List Int} {n c : Nat} (hn : l.length = n) (hL : Sl w a l) (hbd : ∀ r ∈ l, -9223372036854775808 ≤ r ∧ r ≤ 9223372036854775807) (hll : n ≤ 100000) {ws : List Nat} {e k : Nat} (hR : wordsR G ins l = (ws, e)) (hk : ws.length = k) (hkl : k ≤ 1000000) :
    Calls Try.prog 109 #[.pointer (some ⟨g, 0, none⟩), .slice xa m xc, .slice a n c] w fun en w' => ∃ ya yc, en = .returned (.tuple #[.slice ya k yc, .int .i64 e]) ∧ HS w0 w' g G F ((ya, u64s ws) :: L) := by
  subst hm hn
  have H := simWords_is h.own.gin (xa := xa) (ins := ins) xc (h.held _ hx) hlt hcap hxc c hL hbd hll
  rw [hR] at H
  refine H.mono ?_
  rintro en w' ⟨v, rfl, hrow, _, hc⟩
  obtain ⟨ya, yc, rfl⟩ := row.shape hrow
  simp only [hk] at hrow
  exact ⟨ya, yc, by simp only [hk], (h.same hc).add (row.sv hrow rfl hkl)⟩
theorem simBits_h (h : HS w0 w g G F L) {xa : Option Addr} {ins : List Bool} {m xc : Nat} (hx : (xa, bools ins) ∈ L) (hm : ins.length = m) (hml : m ≤ 100000) {a : Option Addr} {l : List Int} {n c : Nat} (hn : l.length = n) (hL : Sl w a l) (hbd : ∀ r ∈ l, -9223372036854775808 ≤ r ∧ r ≤ 9223372036854775807) (hll : n ≤ 100000) {bs : List Bool} {e k : Nat} (hR : bitsR G ins l = (bs, e)) (hk : bs.length = k) (hkl : k ≤ 1000000) :
    Calls Try.prog 43 #[.pointer (some ⟨g, 0, none⟩), .slice xa m xc, .slice a n c] w fun en w' => ∃ ya yc, en = .returned (.tuple #[.slice ya k yc, .int .i64 e]) ∧ HS w0 w' g G F ((ya, bools bs) :: L) := by
  have H := simBits_is h.own.gin (xa := xa) (ins := ins) m xc hm (h.held _ hx) hml n c hn hL hbd hll
  rw [hR] at H
  refine H.mono ?_
  rintro en w' ⟨v, rfl, hrow, _, hc⟩
  obtain ⟨ya, yc, rfl⟩ := row.shape hrow
  simp only [hk] at hrow
  exact ⟨ya, yc, by simp only [hk], (h.same hc).add (row.sv hrow rfl hkl)⟩
theorem simSupport_h (h : HS w0 w g G F L) {a : Option Addr} {l : List Int} {n c : Nat} (hn : l.length = n) (hL : Sl w a l) (hlow : ∀ q, a = some q → q.block < w.heap.size) (hbd : ∀ r ∈ l, -9223372036854775808 ≤ r ∧ r ≤ 9223372036854775807) {s : List Nat} {e k : Nat} (hR : suppR G l = (s, e)) (hk : s.length = k) (hkl : k ≤ 1000000) :
    Calls Try.prog 44 #[.pointer (some ⟨g, 0, none⟩), .slice a n c] w fun en w' => ∃ ya yc, en = .returned (.tuple #[.slice ya k yc, .int .i64 e]) ∧ HS w0 w' g G F ((ya, refsCells s) :: L) := by
  have H := simSupport_is h.own.gin (a := a) (l := l) n c hn hL hlow hbd
  rw [hR] at H
  refine H.mono ?_
  rintro en w' ⟨v, rfl, hrow, _, hc⟩
  obtain ⟨ya, yc, rfl⟩ := row.shape hrow
  simp only [hk] at hrow
  exact ⟨ya, yc, by simp only [hk], (h.same hc).add (row.sv hrow rfl hkl)⟩
theorem Eqbool_h (h : HS w0 w g G F L) {a b : Option Addr} {xs ys : List Bool} {n m ca cb : Nat} (hx : (a, bools xs) ∈ L) (hy : Sv w b (bools ys)) (hn : xs.length = n) (hm : ys.length = m) {q : Bool} (hq : decide (xs = ys) = q) :
    Calls Try.prog 47 #[.slice a n ca, .slice b m cb] w fun e w' => e = .returned (.bool q) ∧ HS w0 w' g G F L := by
  subst hn hm hq
  exact (Eqbool_is ca cb (h.held _ hx) hy).mono fun e w' ⟨he, hc⟩ => ⟨he, h.same hc⟩
theorem Eqint_h (h : HS w0 w g G F L) {a b : Option Addr} {xs ys : List Int} {n m ca cb : Nat} (hx : Sl w a xs) (hy : Sl w b ys) (hn : xs.length = n) (hm : ys.length = m) {q : Bool} (hq : decide (xs = ys) = q) :
    Calls Try.prog 101 #[.slice a n ca, .slice b m cb] w fun e w' => e = .returned (.bool q) ∧ HS w0 w' g G F L := by
  subst hn hm hq
  exact (Eqint_is ca cb hx hy).mono fun e w' ⟨he, hc⟩ => ⟨he, h.same hc⟩
end
end Go.Proofs.Ytkedpifopclipaa
namespace Go.Proofs.Ytkedpifopclipaa
open Go.RowKit Go.Mem Go.Aig
def sb1 : Gra := ⟨20, [⟨1, 0, 0, 0⟩, ⟨2, 0, 0, 0⟩]⟩
def sb2 : Gra := ⟨20, [⟨1, 0, 0, 0⟩, ⟨2, 0, 0, 0⟩, ⟨2, 0, 0, 0⟩]⟩
def sb3 : Gra := ⟨20, [⟨1, 0, 0, 0⟩, ⟨2, 0, 0, 0⟩, ⟨2, 0, 0, 0⟩, ⟨3, 2, 5, 1⟩, ⟨3, 3, 4, 1⟩, ⟨3, 7, 9, 2⟩]⟩
def sb4 : Gra := ⟨20, [⟨1, 0, 0, 0⟩, ⟨2, 0, 0, 0⟩, ⟨2, 0, 0, 0⟩, ⟨3, 2, 5, 1⟩, ⟨3, 3, 4, 1⟩, ⟨3, 7, 9, 2⟩, ⟨3, 3, 5, 1⟩]⟩
theorem blkSv {w : World} {b : Nat} {xs : List Value} (hb : blk w b xs) (hl : xs.length ≤ 9223372036854775807) : Sv w (some ⟨b, 0, none⟩) xs := ⟨fun i x hx => ⟨b, 0, rfl, by
  rw [Nat.zero_add]
  exact hb.cell hx⟩, hl⟩
theorem blkSl {w : World} {b : Nat} {l : List Int} {xs : List Value} (hb : blk w b xs) (hx : xs = l.map fun z => .int .i64 z) (hl : l.length ≤ 9223372036854775807) : Sl w (some ⟨b, 0, none⟩) l := ⟨fun i x hi => ⟨b, 0, rfl, by
  rw [Nat.zero_add]
  refine hb.cell ?_
  rw [hx, List.getElem?_map, hi]
  rfl⟩, hl⟩
theorem svSl {w : World} {a : Option Addr} {l : List Nat} (h : Sv w a (refsCells l)) : Sl w a (l.map fun (r : Nat) => (r : Int)) := ⟨fun i x hx => by
  rw [List.getElem?_map] at hx
  cases hl : l[i]? with
  | none => rw [hl] at hx; cases hx
  | some r =>
    rw [hl] at hx
    cases hx
    exact h.cells i _ (by simp [refsCells, hl]), by have := h.bd; simpa [refsCells] using this⟩
section
variable {w0 w : World} {g : Nat} {G : Gra} {F : List Nat}
theorem New_s (n : Nat) (h1 : 1 ≤ n) (h2 : n ≤ 65536) : Calls Try.prog 54 #[.int .i64 n] w fun e w' => ∃ g F, e = .returned (.tuple #[.pointer (some ⟨g, 0, none⟩), .int .i64 0]) ∧ HS w w' g (newG n) F [] :=
  (New_yes n h1 h2).mono fun e w' ⟨g, F, he, hg, hF, hc⟩ => ⟨g, F, he, ⟨hg, hF, hc⟩, by simp⟩
theorem Input_s (h : HS w0 w g G F []) {G' : Gra} {r e : Nat} (hR : doInput G = (G', r, e)) : Calls Try.prog 78 #[.pointer (some ⟨g, 0, none⟩)] w fun en w' => ∃ F', en = .returned (.tuple #[.int .i64 r, .int .i64 e]) ∧ HS w0 w' g G' F' [] := by
  have H := Input_g h.own.gin
  rw [hR] at H
  refine H.mono ?_
  rintro en w' ⟨rfl, hto⟩
  obtain ⟨F', ho⟩ := h.own.to hto
  exact ⟨F', rfl, ho, by simp⟩
theorem And_s (h : HS w0 w g G F []) (a b : Int) (ba : a ≤ 9223372036854775807) (bb : b ≤ 9223372036854775807) {G' : Gra} {r e : Nat} (hR : doAnd G a b = (G', r, e)) : Calls Try.prog 69 #[.pointer (some ⟨g, 0, none⟩), .int .i64 a, .int .i64 b] w fun en w' => ∃ F', en = .returned (.tuple #[.int .i64 r, .int .i64 e]) ∧ HS w0 w' g G' F' [] := by
  have H := And_g h.own.gin a b ba bb
  rw [hR] at H
  refine H.mono ?_
  rintro en w' ⟨rfl, hto⟩
  obtain ⟨F', ho⟩ := h.own.to hto
  exact ⟨F', rfl, ho, by simp⟩
theorem Or_s (h : HS w0 w g G F []) (a b : Int) (ba : a ≤ 9223372036854775807) (bb : b ≤ 9223372036854775807) {G' : Gra} {r e : Nat} (hR : doOr G a b = (G', r, e)) : Calls Try.prog 70 #[.pointer (some ⟨g, 0, none⟩), .int .i64 a, .int .i64 b] w fun en w' => ∃ F', en = .returned (.tuple #[.int .i64 r, .int .i64 e]) ∧ HS w0 w' g G' F' [] := by
  have H := Or_g h.own.gin a b ba bb
  rw [hR] at H
  refine H.mono ?_
  rintro en w' ⟨rfl, hto⟩
  obtain ⟨F', ho⟩ := h.own.to hto
  exact ⟨F', rfl, ho, by simp⟩
theorem Xor_s (h : HS w0 w g G F []) (a b : Int) (ba : a ≤ 9223372036854775807) (bb : b ≤ 9223372036854775807) {G' : Gra} {r e : Nat} (hR : doXor G a b = (G', r, e)) : Calls Try.prog 194 #[.pointer (some ⟨g, 0, none⟩), .int .i64 a, .int .i64 b] w fun en w' => ∃ F', en = .returned (.tuple #[.int .i64 r, .int .i64 e]) ∧ HS w0 w' g G' F' [] := by
  have H := Xor_g h.own.gin a b ba bb
  rw [hR] at H
  refine H.mono ?_
  rintro en w' ⟨rfl, hto⟩
  obtain ⟨F', ho⟩ := h.own.to hto
  exact ⟨F', rfl, ho, by simp⟩
end
end Go.Proofs.Ytkedpifopclipaa
namespace Go
open Go.RowKit Go.Mem
section
variable {P : Program} (w : World)
theorem run_append_zeros_room (t tn ty e : TypeId) (i : TypeInfo) (z : Value) (kn : IntKind) (ht : P.underlying t = some (.slice e)) (htn : P.underlying tn = some (.int kn)) (hi : P.info? e = some i) (hz : i.zero = some z) (hs : 0 < i.size)
    (g sLen sCap : Nat) (cur : Array Value) (hg : w.heap[g]? = some (.cells cur e (0, 0))) (m : Nat) (hl : (Builtin.zeroCells z.cells m).toList.length = m * i.size) (h1 : ∀ u ∈ (Builtin.zeroCells z.cells m).toList, u.oneCell' = true)
    (hm63 : m ≤ 1000000) (hmb : m * i.bytes ≤ 281474976710656) (hroom : sLen + m ≤ sCap) (hfit : sLen * i.size + m * i.size ≤ cur.size) :
    (Builtin.append_ #[t, tn] ty #[.slice (some ⟨g, 0, none⟩) sLen sCap, .int .i64 m]).run P w =
      .ok (.slice (some ⟨g, 0, none⟩) (sLen + m) sCap) (w.setRow g (cur.toList.take (sLen * i.size) ++ (Builtin.zeroCells z.cells m).toList ++ cur.toList.drop (sLen * i.size + m * i.size)).toArray) := by
  have hst := run_storeCells_at P g (sLen * i.size) e (Builtin.zeroCells z.cells m).toList 0 cur w hg (by rw [hl]; simpa using hfit) h1
  simp only [Nat.add_zero] at hst
  have hw : IntKind.i64.wrap (m : Int) = m := by rw [IntKind.wrap_i64]; omega
  have hneg : ¬ ((m : Int) < 0) := by omega
  have h48i : ¬ (281474976710656 < (m : Int) * (i.bytes : Int)) := by
    rw [← Int.natCast_mul]
    omega
  rw [hl] at hst
  by_cases hm : m = 0
  · subst hm
    have hz0 : (Builtin.zeroCells z.cells 0).toList = [] := by simp [Builtin.zeroCells]
    rw [hz0] at hst ⊢
    have hw0 : IntKind.i64.wrap 0 = 0 := by rw [IntKind.wrap_i64]; rfl
    simp at hst hroom ⊢
    simp [Builtin.append_, run_underlying ht, run_underlying htn, sizeOf, typeInfo, hi, asInt, asIntOf, hw0, hroom, Addr.add_lit, hst]
  · have hns : ¬ (m * i.size = 0) := Nat.mul_ne_zero hm (by omega)
    simp [Builtin.append_, run_underlying ht, run_underlying htn, sizeOf, typeInfo, zeroValue, hi, hz, asInt, asIntOf, hw, hneg, h48i, hns, hroom, Addr.add_lit, hst]
theorem run_append_zeros_grow (t tn ty e : TypeId) (i : TypeInfo) (z : Value) (kn : IntKind) (ht : P.underlying t = some (.slice e)) (htn : P.underlying tn = some (.int kn)) (hi : P.info? e = some i) (hz : i.zero = some z) (hs : 0 < i.size)
    (b : Addr) (sLen sCap : Nat) (olds : List Value) (hlo : olds.length = sLen * i.size) (holds : ∀ j v, olds[j]? = some v → w.cell? (b.add j) = some v) (m : Nat) (hm : m ≠ 0) (hm63 : m ≤ 1000000) (hmb : m * i.bytes ≤ 281474976710656)
    (hg : sCap < sLen + m) (h63 : ((sLen + m : Nat) : Int) ≤ 9223372036854775807) (hfit : Builtin.nextslicecap (sLen + m) sCap * i.bytes ≤ 281474976710656) :
    (Builtin.append_ #[t, tn] ty #[.slice (some b) sLen sCap, .int .i64 m]).run P w =
      .ok (.slice (some ⟨w.heap.size, 0, none⟩) (sLen + m) (grownCap w (sLen + m) sCap e))
        (w.drew.alloc (.cells (olds.toArray ++ Builtin.zeroCells z.cells m ++ Builtin.zeroCells z.cells (grownCap w (sLen + m) sCap e - (sLen + m))) e)) := by
  have hn : ¬ (sLen + m ≤ sCap) := by omega
  have h63' : ¬ (9223372036854775807 < ((sLen : Int) + (m : Int))) := by omega
  have h48' : ¬ (281474976710656 < Builtin.nextslicecap (sLen + m) sCap * i.bytes) := by omega
  have hfo := run_firstCells_some (P := P) w.drew i.size sLen b sLen sCap olds hlo (by simpa using holds)
  have hw : IntKind.i64.wrap (m : Int) = m := by rw [IntKind.wrap_i64]; omega
  have hneg : ¬ ((m : Int) < 0) := by omega
  have h48i : ¬ (281474976710656 < (m : Int) * (i.bytes : Int)) := by
    rw [← Int.natCast_mul]
    omega
  have hns : ¬ (m * i.size = 0) := Nat.mul_ne_zero hm (by omega)
  simp [Builtin.append_, run_underlying ht, run_underlying htn, sizeOf, typeInfo, zeroValue, hi, hz, asInt, asIntOf, hw, hneg, h48i, hns, hn, h63', h48', Question.forced, hfo, newRow, grownCap]
end
theorem run_append_zeros {P : Program} (w : World) {t tn e : TypeId} {size bytes : Nat} {z : Value} (S : SliceTy P t e size bytes z) (ty : TypeId) {kn : IntKind} (htn : P.underlying tn = some (.int kn))
    (v : Value) (n : Nat) (xs : List Value) (hown : row w e size v n xs) (m : Nat) (zs : List Value) (hzs : (Builtin.zeroCells z.cells m).toList = zs) (h1 : ∀ u ∈ zs, u.oneCell' = true)
    (hm63 : m ≤ 1000000) (hbytes : (n + m) * bytes ≤ 140737488355328) (h63 : n + m ≤ maxLen) :
    ∃ v' w', (Builtin.append_ #[t, tn] ty #[v, .int .i64 m]).run P w = .ok v' w' ∧ row w' e size v' (n + m) (xs ++ zs) ∧ Ch v.ownBlock.toList w w' ∧ (∀ k, v'.ownBlock = some k → v.ownBlock = some k ∨ w.heap.size ≤ k) := by
  obtain ⟨i, hi, hz, hsize, hby⟩ := info_parts S.info
  subst hsize hby hzs
  have hl : (Builtin.zeroCells z.cells m).toList.length = m * i.size := by rw [Array.length_toList, size_zeroCells, S.zs]
  have hsmall : n + m ≤ 9223372036854775807 := by simp only [maxLen] at h63; omega
  have hmb : m * i.bytes ≤ 281474976710656 := by
    have := Nat.mul_le_mul_right i.bytes (show m ≤ n + m by omega)
    omega
  have hlen : (xs ++ (Builtin.zeroCells z.cells m).toList).length = (n + m) * i.size := by rw [List.length_append, hown.1, hl, Nat.add_mul]
  have grown : ∀ (old : Nat), old < n + m → row (w.drew.alloc (.cells (xs.toArray ++ Builtin.zeroCells z.cells m ++ Builtin.zeroCells z.cells (grownCap w (n + m) old e - (n + m))) e)) e i.size
        (.slice (some ⟨w.heap.size, 0, none⟩) (n + m) (grownCap w (n + m) old e)) (n + m) (xs ++ (Builtin.zeroCells z.cells m).toList) ∧
      Ch [] w (w.drew.alloc (.cells (xs.toArray ++ Builtin.zeroCells z.cells m ++ Builtin.zeroCells z.cells (grownCap w (n + m) old e - (n + m))) e)) := by
    intro old ho
    have hge := grownCap_ge w (n + m) old e
    have hcm : grownCap w (n + m) old e ≤ maxLen := grownCap_le_maxLen w (n + m) old e h63
    refine ⟨⟨hlen, .inr ⟨w.heap.size, _, _, rfl, Nat.zero_le _, heap_alloc_new w.drew _, hge, hcm, ?_, ?_⟩⟩, (Ch.refl _ _).drew.alloc _⟩
    · simp only [Array.size_append, List.size_toArray, size_zeroCells, S.zs, hown.1, ← Nat.add_mul]
      congr 1
      omega
    · simp only [Array.toList_append, List.append_assoc]
      rw [← List.append_assoc, ← hlen]
      exact List.take_left
  rcases hown.2 with ⟨rfl, rfl⟩ | ⟨g, cap, cur, rfl, hbg, hg, hnc, hcm, hcs, htake⟩
  · have hx : xs = [] := List.eq_nil_of_length_eq_zero (by simpa using hown.1)
    subst hx
    by_cases hm : m = 0
    · subst hm
      have hz0 : (Builtin.zeroCells z.cells 0).toList = [] := by simp [Builtin.zeroCells]
      rw [hz0]
      refine ⟨.slice none 0 0, w, ?_, ⟨by simp, .inl ⟨rfl, rfl⟩⟩, Ch.refl _ _, by simp [Value.ownBlock]⟩
      have hw0 : IntKind.i64.wrap 0 = 0 := by rw [IntKind.wrap_i64]; rfl
      simp [Builtin.append_, run_underlying S.under, run_underlying htn, sizeOf, typeInfo, hi, asInt, asIntOf, hw0]
    · have hr := Lib.run_append_nil_zeros (P := P) w t tn ty e i z .i64 kn S.under htn hi hz m (by omega) S.pos (by omega) hmb
      have hgr := grown 0 (by omega)
      simp only [Nat.zero_add, List.nil_append, Array.empty_append] at hgr ⊢
      refine ⟨_, _, hr, ?_, ?_, fun k hk => .inr ?_⟩
      · have := hgr.1
        simpa using this
      · have := hgr.2
        exact (by simpa using this : Ch [] w _).mono (by simp)
      · simp [Value.ownBlock] at hk; omega
  · by_cases hroom : n + m ≤ cap
    · have hfit : n * i.size + m * i.size ≤ cur.size := by rw [hcs, ← Nat.add_mul]; exact Nat.mul_le_mul_right _ hroom
      have hr := run_append_zeros_room (P := P) w t tn ty e i z kn S.under htn hi hz S.pos g n cap cur hg m hl h1 hm63 hmb hroom hfit
      refine ⟨_, _, hr, ⟨hlen, .inr ⟨g, cap, _, rfl, hbg, setRow_heap w g cur _ e _ hg, hroom, hcm, ?_, ?_⟩⟩, ?_, fun k hk => .inl hk⟩
      · simp only [List.size_toArray, List.length_append, List.length_take, List.length_drop, Array.length_toList, hl]
        rw [Array.length_toList] at hl
        omega
      · rw [htake, ← hlen]
        exact List.take_left
      · exact ⟨rfl, rfl, rfl, by simp, fun k _ hk => setRow_other w g k _ (fun e => hk (by simp [Value.ownBlock, e]))⟩
    · have hm : m ≠ 0 := by omega
      have holds : ∀ j u, xs[j]? = some u → w.cell? ((⟨g, 0, none⟩ : Addr).add j) = some u := hown.cells (g := g) rfl
      have hr := run_append_zeros_grow (P := P) w t tn ty e i z kn S.under htn hi hz S.pos ⟨g, 0, none⟩ n cap xs hown.1 holds m hm hm63 hmb (by omega) (by omega) (growslice_fits (by omega) hbytes)
      have hgr := grown cap (by omega)
      exact ⟨_, _, hr, hgr.1, hgr.2.mono (by simp), fun k hk => .inr (by simp [Value.ownBlock] at hk; omega)⟩
/-- the operation, for the walk -/
theorem wpList_append_zeros {P : Program} {w : World} {ops : Array Oper} {rest : List Oper} {o : Oper} {a : Act} {Q : Exit → Act → World → Prop} {t tn e : TypeId} {size bytes : Nat} {z : Value} (S : SliceTy P t e size bytes z) {kn : IntKind} (htn : P.underlying tn = some (.int kn)) (hgd : o.guard = none) (s x : Operand)
    (ho : o.op = .call { callee := .builtin .append, args := #[s, x], argTypes := #[t, tn] }) {v : Value} {n : Nat} {xs : List Value} (hs : a.eval s = v) (hown : row w e size v n xs) {m : Nat} (hx : a.eval x = .int .i64 m) (zs : List Value) (hzs : (Builtin.zeroCells z.cells m).toList = zs) (h1 : ∀ u ∈ zs, u.oneCell' = true)
    (hm63 : m ≤ 1000000) (hbytes : (n + m) * bytes ≤ 140737488355328) (h63 : n + m ≤ maxLen)
    (h : ∀ v' w', row w' e size v' (n + m) (xs ++ zs) → Ch v.ownBlock.toList w w' → (∀ k, v'.ownBlock = some k → v.ownBlock = some k ∨ w.heap.size ≤ k) → wpList P ops Q rest (a.put o.dst v') w') : wpList P ops Q (o :: rest) a w := by
  obtain ⟨v', w', hr, h2, h3, h4⟩ := run_append_zeros w S o.type htn v n xs hown m zs hzs h1 hm63 hbytes h63
  exact Lib.wpList_append_run w hgd s x t tn ho v (.int .i64 m) hs hx v' w' hr (h v' w' h2 h3 h4)
end Go
namespace Go.Aig
theorem wvF_app (M : Nat) (ins : List Nat) (a b : List Nd) : ∃ t, (wvF M ins (a ++ b)).1 = (wvF M ins a).1 ++ t := by
  induction b using List.snocRec with
  | nil => exact ⟨[], by simp⟩
  | snoc b x ih =>
    obtain ⟨t, ht⟩ := ih
    obtain ⟨v, hv⟩ := wvF_ext M ins (a ++ b) x
    rw [← List.append_assoc]
    exact ⟨t ++ [v], by rw [hv, ht, List.append_assoc]⟩
/-- what a node is, by its kind -/
theorem wv_node {ns : List Nd} (hw : WF ns) (M : Nat) (ins : List Nat) {n : Nat} {x : Nd} (hx : ns[n]? = some x) :
    (wvF M ins ns).1[n]? = some (if x.k = 3 then wref M (wvF M ins ns).1 x.l &&& wref M (wvF M ins ns).1 x.r else if x.k = 2 then ins.getD (inputs (ns.take n)).length 0 else 0) := by
  have hn := (List.getElem?_eq_some_iff.1 hx).1
  obtain ⟨t, ht⟩ := wvF_app M ins (ns.take (n + 1)) (ns.drop (n + 1))
  rw [List.take_append_drop] at ht
  have h1 : wvF M ins (ns.take (n + 1)) = wvStep M (wvF M ins (ns.take n)) x := by rw [List.take_add_one, hx]; exact wvF_snoc M ins (ns.take n) x
  have hl : (wvF M ins (ns.take n)).1.length = n := by rw [wvF_len, List.length_take]; omega
  have hr : ∀ r, r < 2 * n → wref M (wvF M ins ns).1 r = wref M (wvF M ins (ns.take n)).1 r := fun r hr => by
    obtain ⟨t2, ht2⟩ := wvF_app M ins (ns.take n) (ns.drop n)
    rw [List.take_append_drop] at ht2
    rw [ht2, wref_ext (by omega)]
  have h2 : (wvF M ins (ns.take n)).2 = ins.drop (inputs (ns.take n)).length := by
    have : ∀ ms : List Nd, (wvF M ins ms).2 = ins.drop (inputs ms).length := by
      intro ms
      induction ms using List.snocRec with
      | nil => rfl
      | snoc ms y ih =>
        rw [wvF_snoc]
        unfold wvStep
        split
        · rename_i h; rw [Go.Proofs.Ytkedpifopclipaa.inputs_append (by omega)]; exact ih
        · split
          · rename_i h; rw [Go.Proofs.Ytkedpifopclipaa.inputs_input h, List.length_append]; simp only [ih, List.tail_drop, List.length_cons, List.length_nil]
          · rename_i h; rw [Go.Proofs.Ytkedpifopclipaa.inputs_append h]; exact ih
    exact this _
  have key : (wvF M ins ns).1[n]? = (wvStep M (wvF M ins (ns.take n)) x).1[n]? := by rw [ht, List.getElem?_append_left (by rw [wvF_len, List.length_take]; omega), h1]
  rw [key]
  unfold wvStep
  split
  · rename_i h3
    have hs := hw.sides hx h3
    simp only
    rw [List.getElem?_append_right (by omega), hl, Nat.sub_self, hr x.l (by omega), hr x.r (by omega)]
    rfl
  · split
    · simp only
      rw [List.getElem?_append_right (by omega), hl, Nat.sub_self, h2]
      simp [List.headD_eq_head?_getD, List.head?_drop, List.getD_eq_getElem?_getD]
    · simp only
      rw [List.getElem?_append_right (by omega), hl, Nat.sub_self]
      rfl
/-- words for just as many inputs as there are -/
def fitI (ins : List Nat) (k : Nat) : List Nat := ins.take (min ins.length k) ++ List.replicate (k - ins.length) 0
theorem fitI_len (ins : List Nat) (k : Nat) : (fitI ins k).length = k := by
  unfold fitI
  rw [List.length_append, List.length_take, List.length_replicate]
  omega
theorem fitI_lt {ins : List Nat} (h : ∀ v ∈ ins, v < 2 ^ 64) (k : Nat) : ∀ v ∈ fitI ins k, v < 2 ^ 64 := fun v hv => by
  unfold fitI at hv
  rcases List.mem_append.1 hv with hv | hv
  · exact h v (List.mem_of_mem_take hv)
  · rw [(List.mem_replicate.1 hv).2]; omega
end Go.Aig
namespace Go.Proofs.Ytkedpifopclipaa
open Go.RowKit Go.Mem Go.Aig
theorem zeros_u64 (m : Nat) : (Builtin.zeroCells (Value.int .u64 0).cells m).toList = u64s (List.replicate m 0) := by
  unfold Builtin.zeroCells u64s
  rw [show (Value.int .u64 0).cells = #[.int .u64 0] from rfl]
  apply List.ext_getElem
  · simp
  · intro i h1 h2
    simp [Nat.mod_one]
theorem eqSliceNilW (w : World) (a : Option Addr) (n c : Nat) : (binOp .eql 182 (.slice a n c) (.slice none 0 0)).run Try.prog w = .ok (.bool a.isNone) w := by
  have h : Try.prog.underlying 182 = some (.slice 183) := Try.underlying182
  simp only [binOp]
  simp [run_equal_slice_nil w _ _ a n c h]
attribute [local go_sem] eqSliceNilW
section
variable {w : World}
end
end Go.Proofs.Ytkedpifopclipaa
namespace Go.Aig
open Go.Proofs.Ytkedpifopclipaa
theorem metDown_mono {ns : List Nd} (hw : WF ns) : ∀ (n : Nat) (met : List Bool), met.length = ns.length → ∀ m, met.getD m false = true → (metDown ns n met).getD m false = true
  | 0, _, _, _, h => h
  | n + 1, met, hl, m, h => by
    unfold metDown
    split
    · exact metDown_mono hw n _ (by rw [stepMet_len, hl]) m ((stepMet_getD hw hl m).2 (.inl h))
    · exact metDown_mono hw n _ hl m h
theorem metDown_closed {ns : List Nd} (hw : WF ns) : ∀ (n : Nat) (met : List Bool), met.length = ns.length → ∀ d, d < n → (metDown ns n met).getD d false = true → ∀ x, ns[d]? = some x → x.k = 3 → (metDown ns n met).getD (x.l / 2) false = true ∧ (metDown ns n met).getD (x.r / 2) false = true
  | 0, _, _, d, hd, _, _, _, _ => by omega
  | n + 1, met, hl, d, hd, h, x, hx, h3 => by
    unfold metDown at h ⊢
    by_cases hdn : d < n
    · split at h
      · rename_i hm
        rw [if_pos hm]
        exact metDown_closed hw n _ (by rw [stepMet_len, hl]) d hdn h x hx h3
      · rename_i hm
        rw [if_neg hm]
        exact metDown_closed hw n _ hl d hdn h x hx h3
    · have e : d = n := by omega
      subst e
      split at h
      · rename_i hm
        rw [if_pos hm]
        have h1 := (stepMet_getD hw hl (d := d) (x.l / 2)).2 (.inr ⟨x, hx, h3, .inl rfl⟩)
        have h2 := (stepMet_getD hw hl (d := d) (x.r / 2)).2 (.inr ⟨x, hx, h3, .inr rfl⟩)
        exact ⟨metDown_mono hw d _ (by rw [stepMet_len, hl]) _ h1, metDown_mono hw d _ (by rw [stepMet_len, hl]) _ h2⟩
      · rename_i hm
        rw [metDown_far hw d met d (Nat.le_refl _)] at h
        exact absurd h hm
theorem mem_cone {ns : List Nd} (hw : WF ns) (l : List Nat) (d : Nat) : d ∈ cone ns l ↔ d < ns.length ∧ (metDown ns ns.length (met0 ns.length l)).getD d false = true := by
  rw [cone_filter hw, List.mem_filter, List.mem_range]
theorem cone_closed {ns : List Nd} (hw : WF ns) {l : List Nat} {d : Nat} {x : Nd} (h : d ∈ cone ns l) (hx : ns[d]? = some x) (h3 : x.k = 3) : x.l / 2 ∈ cone ns l ∧ x.r / 2 ∈ cone ns l := by
  obtain ⟨h1, h2⟩ := (mem_cone hw l d).1 h
  have hs := hw.sides hx h3
  obtain ⟨a, b⟩ := metDown_closed hw ns.length _ (met0_len _ _) d h1 h2 x hx h3
  exact ⟨(mem_cone hw l _).2 ⟨by omega, a⟩, (mem_cone hw l _).2 ⟨by omega, b⟩⟩
theorem marked : ∀ (l : List Nat) (met : List Bool) (r : Nat), r ∈ l → r / 2 < met.length → (l.foldl setMark met).getD (r / 2) false = true
  | [], _, _, h, _ => by cases h
  | q :: l, met, r, h, hr => by
    rw [List.foldl_cons]
    rcases List.mem_cons.1 h with rfl | h
    · refine foldl_mark_mono l _ _ ?_
      unfold setMark
      exact getD_set.2 (.inr ⟨rfl, hr⟩)
    · exact marked l _ r h (by rw [setMark_len]; exact hr)
theorem mem_marked : ∀ (l : List Nat) (met : List Bool) (m : Nat), (l.foldl setMark met).getD m false = true → met.getD m false = true ∨ ∃ r ∈ l, m = r / 2
  | [], _, _, h => .inl h
  | q :: l, met, m, h => by
    rw [List.foldl_cons] at h
    rcases mem_marked l _ m h with h | ⟨r, hr, e⟩
    · unfold setMark at h
      rcases getD_set.1 h with h | ⟨h, _⟩
      · exact .inl h
      · exact .inr ⟨q, List.mem_cons_self .., h⟩
    · exact .inr ⟨r, List.mem_cons_of_mem _ hr, e⟩
theorem cone_has {ns : List Nd} (hw : WF ns) {l : List Nat} {r : Nat} (h : r ∈ l) (hr : r < 2 * ns.length) : r / 2 ∈ cone ns l :=
  (mem_cone hw l _).2 ⟨by omega, metDown_mono hw _ _ (met0_len _ _) _ (by unfold met0; exact marked l _ r h (by simp; omega))⟩
/-- the cone of references whose nodes are among those of others -/
theorem cone_sub {ns : List Nd} (hw : WF ns) {l l' : List Nat} (h : ∀ r ∈ l, r < 2 * ns.length ∧ ∃ q ∈ l', r / 2 = q / 2) : ∀ d ∈ cone ns l, d ∈ cone ns l' := fun d hd => by
  unfold cone coneDown at hd ⊢
  rw [List.mem_reverse] at hd ⊢
  refine coneFrom_mono hw ns.length _ _ (met0_len _ _) (met0_len _ _) (fun m hm => ?_) d hd
  unfold met0 at hm ⊢
  rcases mem_marked l _ m hm with h1 | ⟨r, hr, rfl⟩
  · rw [List.getD_eq_getElem?_getD, List.getElem?_replicate] at h1
    split at h1 <;> simp at h1
  · obtain ⟨h2, q, hq, e⟩ := h r hr
    rw [e]
    exact marked l' _ q hq (by simp; omega)
theorem inputsFrom_app : ∀ (a b : List Nd) (n : Nat), inputsFrom (a ++ b) n = inputsFrom a n ++ inputsFrom b (n + a.length)
  | [], b, n => rfl
  | x :: a, b, n => by
    show (if x.k = 2 then 2 * n :: inputsFrom (a ++ b) (n + 1) else inputsFrom (a ++ b) (n + 1)) = (if x.k = 2 then 2 * n :: inputsFrom a (n + 1) else inputsFrom a (n + 1)) ++ inputsFrom b (n + (a.length + 1))
    rw [inputsFrom_app a b (n + 1), show n + 1 + a.length = n + (a.length + 1) by omega]
    split <;> rfl
/-- which input a node is -/
theorem input_at {ns : List Nd} {n : Nat} {x : Nd} (hx : ns[n]? = some x) (h2 : x.k = 2) : (inputs (ns.take n)).length < (inputs ns).length ∧ (inputs ns).getD (inputs (ns.take n)).length 0 = 2 * n := by
  have hn := (List.getElem?_eq_some_iff.1 hx).1
  have e : ns = ns.take n ++ x :: ns.drop (n + 1) := by
    have h1 := List.take_append_drop n ns
    rw [List.drop_eq_getElem_cons hn, (List.getElem?_eq_some_iff.1 hx).2] at h1
    exact h1.symm
  have h3 : inputs ns = inputs (ns.take n) ++ 2 * n :: inputsFrom (ns.drop (n + 1)) (n + 1) := by
    conv => lhs; rw [e]
    unfold inputs
    rw [inputsFrom_app, Nat.zero_add, List.length_take, Nat.min_eq_left (by omega)]
    congr 1
    show (if x.k = 2 then _ else _) = _
    rw [if_pos h2]
  constructor
  · rw [h3]; simp
  · rw [h3, List.getD_eq_getElem?_getD, List.getElem?_append_right (Nat.le_refl _), Nat.sub_self]
    rfl
/-- two assignments that are the same in the support make the same of what lies in the cone -/
theorem cone_same {ns : List Nd} (hw : WF ns) (M : Nat) {l : List Nat} {I J : List Nat} (h : ∀ i ∈ Go.Proofs.Ytkedpifopclipaa.suppL ns l (inputs ns).length, I.getD i 0 = J.getD i 0) :
    ∀ n, n ∈ cone ns l → (wvF M I ns).1.getD n 0 = (wvF M J ns).1.getD n 0 := by
  intro n
  induction n using Nat.strongRecOn with
  | _ n ih =>
    intro hn
    obtain ⟨h1, _⟩ := (mem_cone hw l n).1 hn
    obtain ⟨x, hx⟩ : ∃ x, ns[n]? = some x := ⟨_, List.getElem?_eq_getElem h1⟩
    rw [List.getD_eq_getElem?_getD, List.getD_eq_getElem?_getD, wv_node hw M I hx, wv_node hw M J hx]
    show (if x.k = 3 then _ else _) = (if x.k = 3 then _ else _)
    by_cases h3 : x.k = 3
    · rw [if_pos h3, if_pos h3]
      have hs := hw.sides hx h3
      obtain ⟨c1, c2⟩ := cone_closed hw hn hx h3
      have e1 := ih (x.l / 2) (by omega) c1
      have e2 := ih (x.r / 2) (by omega) c2
      unfold wref
      rw [e1, e2]
    · rw [if_neg h3, if_neg h3]
      by_cases h2 : x.k = 2
      · rw [if_pos h2, if_pos h2]
        obtain ⟨q1, q2⟩ := input_at hx h2
        refine h _ ?_
        unfold Go.Proofs.Ytkedpifopclipaa.suppL
        refine List.mem_filter.2 ⟨List.mem_range.2 q1, decide_eq_true ?_⟩
        rw [q2, show 2 * n / 2 = n by omega]
        exact hn
      · rw [if_neg h2, if_neg h2]
theorem words_same {G : Gra} (hw : WF G.nodes) {l : List Nat} (hl : ∀ r ∈ l, r < 2 * G.nodes.length) {I J : List Nat} (h : ∀ i ∈ Go.Proofs.Ytkedpifopclipaa.suppL G.nodes l (inputs G.nodes).length, I.getD i 0 = J.getD i 0) : wsOf I G.nodes l = wsOf J G.nodes l := by
  unfold wsOf
  refine List.map_congr_left fun r hr => ?_
  have e := cone_same hw 18446744073709551615 h (r / 2) (cone_has hw hr (hl r hr))
  unfold wref
  rw [e]
/-- the support of fewer references is in that of more -/
theorem supp_sub {ns : List Nd} (hw : WF ns) {l l' : List Nat} (h : ∀ r ∈ l, r < 2 * ns.length ∧ ∃ q ∈ l', r / 2 = q / 2) (k : Nat) : ∀ i ∈ Go.Proofs.Ytkedpifopclipaa.suppL ns l k, i ∈ Go.Proofs.Ytkedpifopclipaa.suppL ns l' k := fun i hi => by
  unfold Go.Proofs.Ytkedpifopclipaa.suppL at hi ⊢
  obtain ⟨h1, h2⟩ := List.mem_filter.1 hi
  exact List.mem_filter.2 ⟨h1, decide_eq_true (cone_sub hw h _ (of_decide_eq_true h2))⟩
theorem supp_asc (ns : List Nd) (l : List Nat) (k : Nat) : (Go.Proofs.Ytkedpifopclipaa.suppL ns l k).Pairwise (fun a b => a < b) := by
  unfold Go.Proofs.Ytkedpifopclipaa.suppL
  exact List.Pairwise.filter _ (List.pairwise_lt_range)
theorem supp_lt (ns : List Nd) (l : List Nat) (k : Nat) : ∀ i ∈ Go.Proofs.Ytkedpifopclipaa.suppL ns l k, i < k := fun _ hi => List.mem_range.1 (List.mem_filter.1 hi).1
end Go.Aig
namespace Go.Aig
/-- the nodes of the variables of a graph and of roots -/
def mapN (ns : List Nd) (l : List Nat) : List Nat := (cone ns l).filter fun n => n != 0
theorem mem_mapN {ns : List Nd} {l : List Nat} {n : Nat} : n ∈ mapN ns l ↔ n ∈ cone ns l ∧ n ≠ 0 := by simp [mapN]
theorem cone_asc {ns : List Nd} (hw : WF ns) (l : List Nat) : (cone ns l).Pairwise (fun a b => a < b) := by
  rw [cone_filter hw]
  exact List.Pairwise.filter _ List.pairwise_lt_range
theorem mapN_asc {ns : List Nd} (hw : WF ns) (l : List Nat) : (mapN ns l).Pairwise (fun a b => a < b) := (cone_asc hw l).filter _
theorem mapN_lt {ns : List Nd} (hw : WF ns) {l : List Nat} {n : Nat} (h : n ∈ mapN ns l) : 0 < n ∧ n < ns.length := by
  obtain ⟨h1, h2⟩ := mem_mapN.1 h
  exact ⟨by omega, ((mem_cone hw l n).1 h1).1⟩
/-- whether numbers are in increasing order, of nodes that there may be -/
def risingF : Int → List Int → Bool
  | _, [] => true
  | last, n :: m => decide (last < n) && decide (n < 65536) && risingF n m
def rising (m : List Int) : Bool := risingF 0 m
theorem risingF_iff : ∀ (m : List Int) (last : Int), risingF last m = true ↔ (∀ n ∈ m, last < n ∧ n < 65536) ∧ m.Pairwise (fun a b => a < b)
  | [], last => by simp [risingF]
  | n :: m, last => by
    unfold risingF
    simp only [Bool.and_eq_true, decide_eq_true_eq, List.pairwise_cons, List.mem_cons, forall_eq_or_imp]
    rw [risingF_iff m n]
    constructor
    · rintro ⟨⟨h1, h2⟩, h3, h4⟩
      exact ⟨⟨⟨h1, h2⟩, fun k hk => ⟨by have := (h3 k hk).1; omega, (h3 k hk).2⟩⟩, fun k hk => (h3 k hk).1, h4⟩
    · rintro ⟨⟨⟨h1, h2⟩, h3⟩, h4, h5⟩
      exact ⟨⟨h1, h2⟩, fun k hk => ⟨h4 k hk, (h3 k hk).2⟩, h5⟩
theorem rising_iff (m : List Int) : rising m = true ↔ (∀ n ∈ m, 0 < n ∧ n < 65536) ∧ m.Pairwise (fun a b => a < b) := risingF_iff m 0
theorem asc_len : ∀ (m : List Int) (last : Int), risingF last m = true → last < 65536 → last + m.length < 65536
  | [], last, _, h => by simpa using h
  | n :: m, last, h, _ => by
    unfold risingF at h
    simp only [Bool.and_eq_true, decide_eq_true_eq] at h
    have := asc_len m n h.2 h.1.2
    simp only [List.length_cons]
    omega
theorem rising_len {m : List Int} (h : rising m = true) : m.length < 65536 := by
  have := asc_len m 0 h (by decide)
  omega
theorem mapN_rising {ns : List Nd} (hw : WF ns) (hn : ns.length ≤ 65536) (l : List Nat) : rising (natInts (mapN ns l)) = true := by
  rw [rising_iff]
  unfold natInts
  refine ⟨fun n hn2 => ?_, ?_⟩
  · obtain ⟨k, hk, rfl⟩ := List.mem_map.1 hn2
    have := mapN_lt hw hk
    omega
  · rw [List.pairwise_map]
    exact (mapN_asc hw l).imp (by intro a b h; omega)
/-- the variable of a node; 0 if it has none -/
def varFrom : Nat → List Int → Int → Nat
  | _, [], _ => 0
  | i, x :: m, n => if x = n then i + 1 else varFrom (i + 1) m n
def varOf (m : List Int) (n : Int) : Nat := varFrom 0 m n
theorem varFrom_none : ∀ (m : List Int) (i : Nat) {n : Int}, n ∉ m → varFrom i m n = 0
  | [], _, _, _ => rfl
  | x :: m, i, n, h => by
    unfold varFrom
    rw [if_neg (fun e => h (by rw [e]; exact List.mem_cons_self ..))]
    exact varFrom_none m _ (fun h2 => h (List.mem_cons_of_mem _ h2))
theorem varFrom_at : ∀ (m : List Int) (i : Nat) {k : Nat} {n : Int}, m.Pairwise (fun a b => a < b) → m[k]? = some n → varFrom i m n = i + k + 1
  | [], _, _, _, _, h => by simp at h
  | x :: m, i, 0, n, _, h => by
    unfold varFrom
    rw [if_pos (by simpa using h)]
  | x :: m, i, k + 1, n, hp, h => by
    unfold varFrom
    rw [List.getElem?_cons_succ] at h
    rw [List.pairwise_cons] at hp
    rw [if_neg (by have := hp.1 n (List.mem_of_getElem? h); omega), varFrom_at m _ hp.2 h]
    omega
theorem varOf_none {m : List Int} {n : Int} (h : n ∉ m) : varOf m n = 0 := varFrom_none m 0 h
theorem varOf_at {m : List Int} (hp : m.Pairwise (fun a b => a < b)) {k : Nat} {n : Int} (h : m[k]? = some n) : varOf m n = k + 1 := by
  unfold varOf
  rw [varFrom_at m 0 hp h, Nat.zero_add]
theorem varOf_zero {m : List Int} (hp : m.Pairwise (fun a b => a < b)) (n : Int) : varOf m n = 0 ↔ n ∉ m := by
  constructor
  · intro h hm
    obtain ⟨k, hk⟩ := List.getElem?_of_mem hm
    rw [varOf_at hp hk] at h
    omega
  · exact varOf_none
theorem varOf_le {m : List Int} (hp : m.Pairwise (fun a b => a < b)) (n : Int) : varOf m n ≤ m.length := by
  by_cases h : n ∈ m
  · obtain ⟨k, hk⟩ := List.getElem?_of_mem h
    rw [varOf_at hp hk]
    exact (List.getElem?_eq_some_iff.1 hk).1
  · rw [varOf_none h]; omega
/-- the literal of a reference -/
def litOf (m : List Int) (r : Int) : Int := if r % 2 = 1 then -(varOf m (r / 2) : Int) else varOf m (r / 2)
theorem litOf_zero (m : List Int) (r : Int) : litOf m r = 0 ↔ varOf m (r / 2) = 0 := by unfold litOf; split <;> omega
/-- the literal of any number, by any map -/
def litF (m : List Int) (r : Int) : Int := if rising m = true ∧ 0 ≤ r then litOf m r else 0
/-- the reference of any number, by any map; -1 if there is none -/
def refF (m : List Int) (l : Int) : Int := if rising m = true ∧ 1 ≤ l.natAbs ∧ l.natAbs ≤ m.length ∧ l.natAbs ≤ 1048576 then 2 * m.getD (l.natAbs - 1) 0 + (if l < 0 then 1 else 0) else -1
theorem refF_nonneg {m : List Int} {l : Int} : 0 ≤ refF m l ↔ rising m = true ∧ 1 ≤ l.natAbs ∧ l.natAbs ≤ m.length ∧ l.natAbs ≤ 1048576 := by
  unfold refF
  split
  · rename_i h
    refine ⟨fun _ => h, fun _ => ?_⟩
    have h1 := ((rising_iff m).1 h.1).1 (m.getD (l.natAbs - 1) 0) (by
      rw [List.getD_eq_getElem?_getD, List.getElem?_eq_getElem (by omega)]
      exact List.getElem_mem _)
    split <;> omega
  · rename_i h
    exact ⟨fun h2 => by omega, fun h2 => absurd h2 h⟩
/-- whether a map is right for nodes -/
def rightM (ns : List Nd) (m : List Int) : Bool := rising m && m.all fun n => decide (n < (ns.length : Int)) && (!isAndAt ns (2 * n) || litF m (lOf ns (2 * n)) != 0 && litF m (rOf ns (2 * n)) != 0)
/-- the clauses of an and -/
def andCls (v a b : Int) : List (List Int) := [[-v, a], [-v, b], [v, -a, -b]]
def nodeCls (ns : List Nd) (m : List Int) (i : Nat) (n : Int) : List (List Int) := if isAndAt ns (2 * n) then andCls (i + 1) (litOf m (lOf ns (2 * n))) (litOf m (rOf ns (2 * n))) else []
def rootCls (m : List Int) (r : Int) : List (List Int) := if r = 1 then [] else if r = 0 then [[]] else [[litOf m r]]
def nodesCls (ns : List Nd) (m : List Int) (k : Nat) : List (List Int) := (List.range k).flatMap fun i => nodeCls ns m i (m.getD i 0)
def rootsCls (m : List Int) (l : List Int) : List (List Int) := l.flatMap (rootCls m)
def clsOf (ns : List Nd) (m : List Int) (l : List Int) : List (List Int) := nodesCls ns m m.length ++ rootsCls m l
theorem nodesCls_succ (ns : List Nd) (m : List Int) (k : Nat) : nodesCls ns m (k + 1) = nodesCls ns m k ++ nodeCls ns m k (m.getD k 0) := by
  unfold nodesCls
  rw [List.range_succ, List.flatMap_append]
  simp
theorem rootsCls_snoc (m l : List Int) (r : Int) : rootsCls m (l ++ [r]) = rootsCls m l ++ rootCls m r := by
  unfold rootsCls
  rw [List.flatMap_append]
  simp
theorem nodeCls_len (ns : List Nd) (m : List Int) (i : Nat) (n : Int) : (nodeCls ns m i n).length ≤ 3 := by
  unfold nodeCls andCls
  split <;> simp
theorem nodesCls_len (ns : List Nd) (m : List Int) : ∀ k, (nodesCls ns m k).length ≤ 3 * k
  | 0 => by simp [nodesCls]
  | k + 1 => by
    rw [nodesCls_succ, List.length_append]
    have := nodesCls_len ns m k
    have := nodeCls_len ns m k (m.getD k 0)
    omega
theorem rootCls_len (m : List Int) (r : Int) : (rootCls m r).length ≤ 1 := by
  unfold rootCls
  (repeat' split) <;> simp
theorem rootsCls_len (m : List Int) : ∀ l : List Int, (rootsCls m l).length ≤ l.length
  | [] => by simp [rootsCls]
  | r :: l => by
    have h1 := rootsCls_len m l
    have h2 := rootCls_len m r
    unfold rootsCls at h1 ⊢
    rw [List.flatMap_cons, List.length_append, List.length_cons]
    omega
theorem clsOf_len (ns : List Nd) (m l : List Int) : (clsOf ns m l).length ≤ 3 * m.length + l.length := by
  unfold clsOf
  rw [List.length_append]
  have := nodesCls_len ns m m.length
  have := rootsCls_len m l
  omega
/-- what Encode returns: variables, clauses, the map, and the number of the error -/
def encR (G : Gra) (l : List Int) (most : Int) : Nat × List (List Int) × List Int × Nat :=
  if badIn G l then (0, [], [], 200) else if most < 0 ∨ 1048576 < most then (0, [], [], 2)
  else if most < (mapN G.nodes (nats l)).length then (0, [], [], 270)
  else ((mapN G.nodes (nats l)).length, clsOf G.nodes (natInts (mapN G.nodes (nats l))) l, natInts (mapN G.nodes (nats l)), 0)
/-- what Size returns -/
def sizeR (G : Gra) (l : List Int) : Nat × Nat × Nat :=
  if badIn G l then (0, 0, 200) else ((mapN G.nodes (nats l)).length, (clsOf G.nodes (natInts (mapN G.nodes (nats l))) l).length, 0)
/-- what Model returns -/
def modelR (G : Gra) (m : List Int) (ins : List Bool) : List Bool × Nat :=
  if rightM G.nodes m = false then ([], 271) else if ins.length ≠ (inputs G.nodes).length then ([], 272) else (m.map fun n => bv (fun i => ins.getD i false) G.nodes (2 * n.toNat), 0)
/-- what Inputs returns -/
def insV (ns : List Nd) (m : List Int) (mv : List Bool) : List Bool := (inputs ns).map fun (r : Nat) => litF m r != 0 && mv.getD ((litF m r).natAbs - 1) false
def insR (G : Gra) (m : List Int) (mv : List Bool) : List Bool × Nat :=
  if rightM G.nodes m = false then ([], 271) else if mv.length ≠ m.length then ([], 272) else (insV G.nodes m mv, 0)
end Go.Aig
namespace Go.Proofs.Ytkedpifopclipaa
open Go.RowKit Go.Mem Go.Aig
theorem rising_ltZ {l : List Int} (h : l.Pairwise (fun a b => a < b)) {i j : Nat} {a b : Int} (hi : l[i]? = some a) (hj : l[j]? = some b) (hij : i < j) : a < b := by
  obtain ⟨h1, h2⟩ := List.getElem?_eq_some_iff.1 hi
  obtain ⟨h3, h4⟩ := List.getElem?_eq_some_iff.1 hj
  rw [← h2, ← h4]
  exact List.pairwise_iff_getElem.1 h i j h1 h3 hij
set_option maxRecDepth 100000 in
set_option maxHeartbeats 4000000 in
theorem BSany_is {w : World} {a : Option Addr} {l : List Int} (n c : Nat) (hn : l.length = n) (hnl : n ≤ 1000000) (hS : Sl w a l) (x : Int) :
    Calls Try.prog 111 #[.slice a n c, .int .i64 x] w fun e w' => ∃ (i : Nat) (b : Bool), e = .returned (.tuple #[.int .i64 i, .bool b]) ∧ w = w' ∧ i ≤ n ∧ (l.Pairwise (fun a b => a < b) → b = decide (x ∈ l) ∧ (b = true → l[i]? = some x)) := by
  have HS := Lib.hid hS; clear hS
  have HN := Lib.hid hn; clear hn
  go_enter Try.func111, Try.ntmps111
  go_wp2_with fail
  go_loopw [7, 8] (fun s t wr => ∃ i j : Nat, s = .int .i64 i ∧ t = .int .i64 j ∧ i ≤ j ∧ j ≤ n ∧ wr = w ∧ (l.Pairwise (fun a b => a < b) → (∀ (k : Nat) (y : Int), k < i → l[k]? = some y → y < x) ∧ (∀ (k : Nat) (y : Int), j ≤ k → l[k]? = some y → x ≤ y))) (fun s t _ => (intOf t).toNat - (intOf s).toNat)
  case atStart => exact ⟨0, n, rfl, rfl, by omega, by omega, rfl, fun _ => ⟨fun k y hk => by omega, fun k y hk hy => by have := (List.getElem?_eq_some_iff.1 hy).1; have := HN.out; omega⟩⟩
  case round =>
    obtain ⟨i, j, rfl, rfl, hij, hjn, rfl, h1⟩ := hrel
    have H1 := Lib.hid h1; clear h1
    by_cases hlt : i < j
    · obtain ⟨m, hm⟩ : ∃ m, (i + j) / 2 = m := ⟨_, rfl⟩
      have hmi : i ≤ m ∧ m < j := by omega
      obtain ⟨y, hy⟩ : ∃ y, l[m]? = some y := ⟨_, List.getElem?_eq_getElem (by have := HN.out; omega)⟩
      obtain ⟨xb, xo, rfl, hcl⟩ := HS.out.cells m y hy
      have em : ((i : Int) + (j : Int)) / 2 = m := by omega
      have HL := Lib.hid (cmpLess_is wr y x)
      have HY := Lib.hid hy; clear hy
      have HM := Lib.hid hm; clear hm
      by_cases hyx : y < x
      · have e1 : decide (y < x) = true := decide_eq_true (by omega)
        rw [e1] at HL
        have HYX := Lib.hid hyx; clear hyx e1
        go_wp2_with fail
        refine HL.out.mono ?_
        rintro e w' ⟨rfl, rfl⟩
        go_wp2_with fail
        go_roundw
        case rel =>
          refine ⟨m + 1, j, by go_num, rfl, by omega, hjn, trivial, fun hP => ⟨fun k z hk hz => ?_, (H1.out hP).2⟩⟩
          by_cases hkm : k = m
          · subst hkm
            have := HY.out.symm.trans hz
            cases this
            exact HYX.out
          · exact Int.lt_trans (rising_ltZ hP hz HY.out (by omega)) HYX.out
        case measure => simp [intOf]; omega
      · have e1 : decide (y < x) = false := decide_eq_false (by omega)
        rw [e1] at HL
        have HYX := Lib.hid hyx; clear hyx e1
        go_wp2_with fail
        refine HL.out.mono ?_
        rintro e w' ⟨rfl, rfl⟩
        go_wp2_with fail
        go_roundw
        case rel =>
          refine ⟨i, m, rfl, by go_num, by omega, by omega, trivial, fun hP => ⟨(H1.out hP).1, fun k z hk hz => ?_⟩⟩
          have h3 := HYX.out
          by_cases hkm : k = m
          · subst hkm
            have := HY.out.symm.trans hz
            cases this
            omega
          · have := rising_ltZ hP HY.out hz (by omega)
            omega
        case measure => simp [intOf]; omega
    · have hij2 : j = i := by omega
      subst hij2
      by_cases hin : j < n
      · obtain ⟨y, hy⟩ : ∃ y, l[j]? = some y := ⟨_, List.getElem?_eq_getElem (by have := HN.out; omega)⟩
        obtain ⟨xb, xo, rfl, hcl⟩ := HS.out.cells j y hy
        have HNA := Lib.hid (slIsNaN_is wr y)
        have hmem : l.Pairwise (fun a b => a < b) → (y == x) = decide (x ∈ l) ∧ ((y == x) = true → l[j]? = some x) := fun hP => by
          have h3 := (H1.out hP).2 j y (Nat.le_refl _) hy
          by_cases hyx : y = x
          · subst hyx
            rw [decide_eq_true (List.mem_of_getElem? hy)]
            exact ⟨by simp, fun _ => hy⟩
          · have hne : x ∉ l := fun hmem => by
              obtain ⟨k, hk⟩ := List.mem_iff_getElem?.1 hmem
              by_cases hkj : k < j
              · have := (H1.out hP).1 k x hkj hk; omega
              · by_cases hkj2 : k = j
                · subst hkj2; rw [hy] at hk; cases hk; exact hyx rfl
                · have := rising_ltZ hP hy hk (by omega); omega
            rw [decide_eq_false hne]
            exact ⟨by simpa using hyx, fun e => absurd (eq_of_beq e) hyx⟩
        have HMEM := Lib.hid hmem; clear hmem
        have HY := Lib.hid hy; clear hy
        cases hb : (y == x)
        · go_wp2_with fail
          refine HNA.out.mono ?_
          rintro e w' ⟨rfl, rfl⟩
          go_wp2_with fail
          go_ret2
          exact ⟨j, false, rfl, rfl, hjn, fun hP => by have := HMEM.out hP; rwa [hb] at this⟩
        · go_wp2_with fail
          go_ret2
          exact ⟨j, true, rfl, rfl, hjn, fun hP => by have := HMEM.out hP; rwa [hb] at this⟩
      · have hjn2 : j = n := by omega
        have hne : l.Pairwise (fun a b => a < b) → false = decide (x ∈ l) := fun hP => (decide_eq_false fun hmem => by
          obtain ⟨k, hk⟩ := List.mem_iff_getElem?.1 hmem
          have h4 := (List.getElem?_eq_some_iff.1 hk).1
          have := (H1.out hP).1 k x (by have := HN.out; omega) hk
          omega).symm
        have HNE := Lib.hid hne; clear hne
        have e1 : decide ((j : Int) < n) = false := decide_eq_false (by omega)
        clear hjn2
        go_wp2_with fail
        go_ret2
        exact ⟨j, false, rfl, rfl, hjn, fun hP => ⟨HNE.out hP, by simp⟩⟩
set_option maxRecDepth 100000 in
set_option maxHeartbeats 4000000 in
theorem BSmap_is {w : World} {a : Option Addr} {l : List Int} (n c : Nat) (hn : l.length = n) (hnl : n ≤ 1000000) (hS : Sl w a l) (x : Int) :
    Calls Try.prog 90 #[.slice a n c, .int .i64 x] w fun e w' => ∃ (i : Nat) (b : Bool), e = .returned (.tuple #[.int .i64 i, .bool b]) ∧ w = w' ∧ i ≤ n ∧ (l.Pairwise (fun a b => a < b) → b = decide (x ∈ l) ∧ (b = true → l[i]? = some x)) := by
  have HS := Lib.hid hS; clear hS
  have HN := Lib.hid hn; clear hn
  go_enter Try.func90, Try.ntmps90
  go_wp2_with fail
  go_loopw [7, 8] (fun s t wr => ∃ i j : Nat, s = .int .i64 i ∧ t = .int .i64 j ∧ i ≤ j ∧ j ≤ n ∧ wr = w ∧ (l.Pairwise (fun a b => a < b) → (∀ (k : Nat) (y : Int), k < i → l[k]? = some y → y < x) ∧ (∀ (k : Nat) (y : Int), j ≤ k → l[k]? = some y → x ≤ y))) (fun s t _ => (intOf t).toNat - (intOf s).toNat)
  case atStart => exact ⟨0, n, rfl, rfl, by omega, by omega, rfl, fun _ => ⟨fun k y hk => by omega, fun k y hk hy => by have := (List.getElem?_eq_some_iff.1 hy).1; have := HN.out; omega⟩⟩
  case round =>
    obtain ⟨i, j, rfl, rfl, hij, hjn, rfl, h1⟩ := hrel
    have H1 := Lib.hid h1; clear h1
    by_cases hlt : i < j
    · obtain ⟨m, hm⟩ : ∃ m, (i + j) / 2 = m := ⟨_, rfl⟩
      have hmi : i ≤ m ∧ m < j := by omega
      obtain ⟨y, hy⟩ : ∃ y, l[m]? = some y := ⟨_, List.getElem?_eq_getElem (by have := HN.out; omega)⟩
      obtain ⟨xb, xo, rfl, hcl⟩ := HS.out.cells m y hy
      have em : ((i : Int) + (j : Int)) / 2 = m := by omega
      have HL := Lib.hid (cmpLess_is wr y x)
      have HY := Lib.hid hy; clear hy
      have HM := Lib.hid hm; clear hm
      by_cases hyx : y < x
      · have e1 : decide (y < x) = true := decide_eq_true (by omega)
        rw [e1] at HL
        have HYX := Lib.hid hyx; clear hyx e1
        go_wp2_with fail
        refine HL.out.mono ?_
        rintro e w' ⟨rfl, rfl⟩
        go_wp2_with fail
        go_roundw
        case rel =>
          refine ⟨m + 1, j, by go_num, rfl, by omega, hjn, trivial, fun hP => ⟨fun k z hk hz => ?_, (H1.out hP).2⟩⟩
          by_cases hkm : k = m
          · subst hkm
            have := HY.out.symm.trans hz
            cases this
            exact HYX.out
          · exact Int.lt_trans (rising_ltZ hP hz HY.out (by omega)) HYX.out
        case measure => simp [intOf]; omega
      · have e1 : decide (y < x) = false := decide_eq_false (by omega)
        rw [e1] at HL
        have HYX := Lib.hid hyx; clear hyx e1
        go_wp2_with fail
        refine HL.out.mono ?_
        rintro e w' ⟨rfl, rfl⟩
        go_wp2_with fail
        go_roundw
        case rel =>
          refine ⟨i, m, rfl, by go_num, by omega, by omega, trivial, fun hP => ⟨(H1.out hP).1, fun k z hk hz => ?_⟩⟩
          have h3 := HYX.out
          by_cases hkm : k = m
          · subst hkm
            have := HY.out.symm.trans hz
            cases this
            omega
          · have := rising_ltZ hP HY.out hz (by omega)
            omega
        case measure => simp [intOf]; omega
    · have hij2 : j = i := by omega
      subst hij2
      by_cases hin : j < n
      · obtain ⟨y, hy⟩ : ∃ y, l[j]? = some y := ⟨_, List.getElem?_eq_getElem (by have := HN.out; omega)⟩
        obtain ⟨xb, xo, rfl, hcl⟩ := HS.out.cells j y hy
        have HNA := Lib.hid (slIsNaN_is wr y)
        have hmem : l.Pairwise (fun a b => a < b) → (y == x) = decide (x ∈ l) ∧ ((y == x) = true → l[j]? = some x) := fun hP => by
          have h3 := (H1.out hP).2 j y (Nat.le_refl _) hy
          by_cases hyx : y = x
          · subst hyx
            rw [decide_eq_true (List.mem_of_getElem? hy)]
            exact ⟨by simp, fun _ => hy⟩
          · have hne : x ∉ l := fun hmem => by
              obtain ⟨k, hk⟩ := List.mem_iff_getElem?.1 hmem
              by_cases hkj : k < j
              · have := (H1.out hP).1 k x hkj hk; omega
              · by_cases hkj2 : k = j
                · subst hkj2; rw [hy] at hk; cases hk; exact hyx rfl
                · have := rising_ltZ hP hy hk (by omega); omega
            rw [decide_eq_false hne]
            exact ⟨by simpa using hyx, fun e => absurd (eq_of_beq e) hyx⟩
        have HMEM := Lib.hid hmem; clear hmem
        have HY := Lib.hid hy; clear hy
        cases hb : (y == x)
        · go_wp2_with fail
          refine HNA.out.mono ?_
          rintro e w' ⟨rfl, rfl⟩
          go_wp2_with fail
          go_ret2
          exact ⟨j, false, rfl, rfl, hjn, fun hP => by have := HMEM.out hP; rwa [hb] at this⟩
        · go_wp2_with fail
          go_ret2
          exact ⟨j, true, rfl, rfl, hjn, fun hP => by have := HMEM.out hP; rwa [hb] at this⟩
      · have hjn2 : j = n := by omega
        have hne : l.Pairwise (fun a b => a < b) → false = decide (x ∈ l) := fun hP => (decide_eq_false fun hmem => by
          obtain ⟨k, hk⟩ := List.mem_iff_getElem?.1 hmem
          have h4 := (List.getElem?_eq_some_iff.1 hk).1
          have := (H1.out hP).1 k x (by have := HN.out; omega) hk
          omega).symm
        have HNE := Lib.hid hne; clear hne
        have e1 : decide ((j : Int) < n) = false := decide_eq_false (by omega)
        clear hjn2
        go_wp2_with fail
        go_ret2
        exact ⟨j, false, rfl, rfl, hjn, fun hP => ⟨HNE.out hP, by simp⟩⟩
end Go.Proofs.Ytkedpifopclipaa
namespace Go.Aig
def rightLit (a : Int) : Bool := decide (a ≠ 0) && decide (-1048576 ≤ a) && decide (a ≤ 1048576)
def varL (a : Int) : Nat := if rightLit a then a.natAbs else 0
def negL (a : Int) : Bool := rightLit a && decide (a < 0)
theorem rightLit_iff (a : Int) : rightLit a = true ↔ 1 ≤ a.natAbs ∧ a.natAbs ≤ 1048576 := by unfold rightLit; simp; omega
theorem drop_cons' {α : Type} {l : List α} {k : Nat} {x : α} (h : l[k]? = some x) : l.drop k = x :: l.drop (k + 1) := by
  obtain ⟨h1, h2⟩ := List.getElem?_eq_some_iff.1 h
  rw [List.drop_eq_getElem_cons h1, h2]
end Go.Aig
namespace Go.Proofs.Ytkedpifopclipaa
open Go.RowKit Go.Mem Go.Aig
section
set_option maxRecDepth 100000 in
set_option maxHeartbeats 1000000 in
theorem litsRight_is (w : World) (a : Int) : Calls Try.prog 93 #[.int .i64 a] w fun e w' => e = .returned (.bool (rightLit a)) ∧ w = w' := by
  by_cases h0 : a = 0
  · subst h0
    go_enter Try.func93, Try.ntmps93
    go_wp2_with fail
    go_ret
    exact ⟨rfl, rfl⟩
  · have d0 : (a != 0) = true := by simpa using h0
    by_cases h1 : -1048576 ≤ a
    · have d1 : decide (-1048576 ≤ a) = true := decide_eq_true h1
      have e : rightLit a = decide (a ≤ 1048576) := by unfold rightLit; simp [h0, h1]
      rw [e]
      clear e
      go_enter Try.func93, Try.ntmps93
      go_wp2_with fail
      go_ret
      exact ⟨rfl, rfl⟩
    · have d1 : decide (-1048576 ≤ a) = false := decide_eq_false h1
      have e : rightLit a = false := by unfold rightLit; simp [h1]
      rw [e]
      clear e
      go_enter Try.func93, Try.ntmps93
      go_wp2_with fail
      go_ret
      exact ⟨rfl, rfl⟩
set_option maxRecDepth 100000 in
set_option maxHeartbeats 1000000 in
theorem litsVar_is (w : World) (a : Int) (ha : -9223372036854775808 ≤ a ∧ a ≤ 9223372036854775807) : Calls Try.prog 24 #[.int .i64 a] w fun e w' => e = .returned (.int .i64 (varL a)) ∧ w = w' := by
  have hR := litsRight_is w a
  unfold varL
  cases hr : rightLit a
  · rw [hr] at hR
    clear hr
    go_enter Try.func24, Try.ntmps24
    go_wp2_with fail
    refine hR.mono ?_
    rintro e w' ⟨rfl, rfl⟩
    go_wp2_with fail
    go_ret
    exact ⟨rfl, rfl⟩
  · rw [hr] at hR
    have hb := (rightLit_iff a).1 hr
    have hmx : ∀ ats ty, Builtin.max_ ats ty #[.int .i64 a, .int .i64 (-a)] = pure (.int .i64 (a.natAbs : Int)) := fun ats ty => by
      have e9 : (if a < -a then -a else a) = (a.natAbs : Int) := by split <;> omega
      rw [← e9]
      simp [Builtin.max_, Builtin.max2]
    have hab : -1048576 ≤ a ∧ a ≤ 1048576 := by omega
    clear hr hb ha
    go_enter Try.func24, Try.ntmps24
    go_wp2_with fail
    refine hR.mono ?_
    rintro e w' ⟨rfl, rfl⟩
    go_wp2_with fail
    go_ret
    exact ⟨rfl, rfl⟩
set_option maxRecDepth 100000 in
set_option maxHeartbeats 1000000 in
theorem litsNegated_is (w : World) (a : Int) : Calls Try.prog 25 #[.int .i64 a] w fun e w' => e = .returned (.bool (negL a)) ∧ w = w' := by
  have hR := litsRight_is w a
  unfold negL
  cases hr : rightLit a
  all_goals
    rw [hr] at hR
    clear hr
    go_enter Try.func25, Try.ntmps25
    go_wp2_with fail
    refine hR.mono ?_
    rintro e w' ⟨rfl, rfl⟩
    go_wp2_with fail
    go_ret
    exact ⟨rfl, rfl⟩
set_option maxRecDepth 100000 in
set_option maxHeartbeats 1000000 in
theorem litsOf_is (w : World) (v : Nat) (hv : 1 ≤ v ∧ v ≤ 1048576) (b : Bool) : Calls Try.prog 92 #[.int .i64 v, .bool b] w fun e w' => e = .returned (.tuple #[.int .i64 (if b then -(v : Int) else v), .int .i64 0]) ∧ w = w' := by
  have d1 : decide ((v : Int) < 1) = false := decide_eq_false (by omega)
  have d2 : decide ((1048576 : Int) < v) = false := decide_eq_false (by omega)
  cases b
  all_goals
    go_enter Try.func92, Try.ntmps92
    go_wp2_with fail
    go_ret2
    exact ⟨rfl, rfl⟩
set_option maxRecDepth 100000 in
set_option maxHeartbeats 2000000 in
theorem tsrising_is {w : World} {a : Option Addr} {m : List Int} (n c : Nat) (hn : m.length = n) (hnl : n ≤ 1000000) (hS : Sl w a m) : Calls Try.prog 91 #[.slice a n c] w fun e w' => e = .returned (.bool (rising m)) ∧ w = w' := by
  have HS := Lib.hid hS; clear hS
  have HN := Lib.hid hn; clear hn
  go_enter Try.func91, Try.ntmps91
  go_wp2_with fail
  go_loopw [3, 8] (fun l i wr => ∃ (k : Nat) (last : Int), k ≤ n ∧ i = .int .i64 k ∧ l = .int .i64 last ∧ wr = w ∧ risingF last (m.drop k) = rising m) (fun _ i _ => n - (intOf i).toNat)
  case atStart => exact ⟨0, 0, by omega, rfl, rfl, rfl, rfl⟩
  case round =>
    obtain ⟨k, last, hk, rfl, rfl, rfl, hr⟩ := hrel
    by_cases hlt : k < n
    · obtain ⟨x, hx⟩ : ∃ x, m[k]? = some x := ⟨_, List.getElem?_eq_getElem (by have := HN.out; omega)⟩
      obtain ⟨xb, xo, rfl, hcl⟩ := HS.out.cells k x hx
      rw [drop_cons' hx] at hr
      unfold risingF at hr
      have HX := Lib.hid hx; clear hx
      by_cases h1 : x ≤ last
      · have d1 : decide (x ≤ last) = true := decide_eq_true h1
        rw [decide_eq_false (by omega : ¬ last < x)] at hr
        have HR := Lib.hid hr; clear hr
        go_wp2_with fail
        go_ret
        exact ⟨by rw [← HR.out]; rfl, rfl⟩
      · have d1 : decide (x ≤ last) = false := decide_eq_false h1
        by_cases h2 : 65536 ≤ x
        · have d2 : decide (65536 ≤ x) = true := decide_eq_true h2
          rw [decide_eq_false (by omega : ¬ x < 65536)] at hr
          have HR := Lib.hid hr; clear hr
          go_wp2_with fail
          go_ret
          exact ⟨by rw [← HR.out]; simp, rfl⟩
        · have d2 : decide (65536 ≤ x) = false := decide_eq_false h2
          rw [decide_eq_true (by omega : last < x), decide_eq_true (by omega : x < 65536)] at hr
          have HR := Lib.hid hr; clear hr h1 h2
          go_wp2_with fail
          go_roundw
          case rel => exact ⟨k + 1, x, by omega, by go_num, rfl, trivial, by simpa using HR.out⟩
          case measure => simp [intOf]; omega
    · have hkn : k = n := by omega
      subst hkn
      rw [List.drop_of_length_le (by have := HN.out; omega)] at hr
      have HR := Lib.hid hr; clear hr
      go_wp2_with fail
      go_ret
      exact ⟨by rw [← HR.out]; rfl, rfl⟩
set_option maxRecDepth 100000 in
set_option maxHeartbeats 2000000 in
theorem tsLit_is {w : World} {a : Option Addr} {m : List Int} (n c : Nat) (hn : m.length = n) (hnl : n ≤ 1000000) (hS : Sl w a m) (r : Int) (hr : -9223372036854775808 ≤ r ∧ r ≤ 9223372036854775807) :
    Calls Try.prog 22 #[.slice a n c, .int .i64 r] w fun e w' => e = .returned (.tuple #[.int .i64 (litF m r), .bool (litF m r != 0)]) ∧ w = w' := by
  have hBS := BSmap_is n c hn hnl hS
  have hRI := tsrising_is n c hn hnl hS
  have hrl : rising m = true → n < 65536 := fun h => by rw [← hn]; exact rising_len h
  cases hri : rising m
  · have e : litF m r = 0 := by unfold litF; rw [if_neg (by simp [hri])]
    rw [e]
    rw [hri] at hRI
    clear e hrl hri hn hS
    have HB := Lib.hid hBS; clear hBS
    go_enter Try.func22, Try.ntmps22
    go_wp2_with fail
    refine (HB.out _).mono ?_
    rintro e w' ⟨i, b, rfl, rfl, _, _⟩
    go_wp2_with fail
    refine hRI.mono ?_
    rintro e w' ⟨rfl, rfl⟩
    go_wp2_with fail
    go_ret2
    exact ⟨rfl, rfl⟩
  · rw [hri] at hRI
    have hn6 := hrl hri
    have hpw := ((rising_iff m).1 hri).2
    by_cases h0 : r < 0
    · have e : litF m r = 0 := by unfold litF; rw [if_neg (by simp [hri]; omega)]
      rw [e]
      have d0 : decide (r < 0) = true := decide_eq_true h0
      clear e hrl hri hn hS hpw
      have HB := Lib.hid hBS; clear hBS
      go_enter Try.func22, Try.ntmps22
      go_wp2_with fail
      refine (HB.out _).mono ?_
      rintro e w' ⟨i, b, rfl, rfl, _, _⟩
      go_wp2_with fail
      refine hRI.mono ?_
      rintro e w' ⟨rfl, rfl⟩
      go_wp2_with fail
      go_ret2
      exact ⟨rfl, rfl⟩
    · have e : litF m r = litOf m r := by unfold litF; rw [if_pos ⟨hri, by omega⟩]
      rw [e]
      have d0 : decide (r < 0) = false := decide_eq_false h0
      have hB := hBS (r / 2)
      clear hrl hri hS hBS
      have HB := Lib.hid hB; clear hB
      have HP := Lib.hid hpw; clear hpw
      have HN := Lib.hid hn; clear hn
      go_enter Try.func22, Try.ntmps22
      go_wp2_with fail
      refine HB.out.mono ?_
      rintro e w' ⟨i, b, rfl, rfl, hi, hib⟩
      have hib := hib HP.out
      cases b
      · have hm : r / 2 ∉ m := of_decide_eq_false hib.1.symm
        have hl : litOf m r = 0 := by rw [litOf_zero, varOf_none hm]
        have HLL := Lib.hid hl
        clear hib hm hl
        go_wp2_with fail
        refine hRI.mono ?_
        rintro e w' ⟨rfl, rfl⟩
        go_wp2_with fail
        go_ret2
        exact ⟨by rw [HLL.out]; rfl, rfl⟩
      · have hat := hib.2 rfl
        have hlt : i < n := by have := (List.getElem?_eq_some_iff.1 hat).1; have := HN.out; omega
        have hv := varOf_at HP.out hat
        have hl : litOf m r = if (r % 2 == 1) = true then -((i : Int) + 1) else (i : Int) + 1 := by
          unfold litOf
          rw [hv]
          by_cases h : r % 2 = 1
          · rw [if_pos h, if_pos (by simpa using h)]; omega
          · rw [if_neg h, if_neg (by simpa using h)]; omega
        have hne : (litOf m r != 0) = true := by
          rw [bne_iff_ne, hl]
          split <;> omega
        have HNE := Lib.hid hne; clear hne
        have hOF := litsOf_is w (i + 1) (by omega) (r % 2 == 1)
        rw [show ((i + 1 : Nat) : Int) = (i : Int) + 1 by omega] at hOF
        rw [← hl] at hOF
        have HLL := Lib.hid hl; clear hl
        have HOF := Lib.hid hOF; clear hOF hib hat hv
        generalize hq : (r % 2 == 1) = q at *
        obtain ⟨V, hVV⟩ : ∃ V, litOf m r = V := ⟨_, rfl⟩
        rw [hVV] at HOF HNE
        have HVV := Lib.hid hVV; clear hVV
        go_wp2_with fail
        refine hRI.mono ?_
        rintro e w' ⟨rfl, rfl⟩
        go_wp2_with fail
        refine HOF.out.mono ?_
        rintro e w' ⟨rfl, rfl⟩
        go_wp2_with fail
        go_ret2
        exact ⟨by rw [HVV.out, HNE.out]; rfl, rfl⟩
set_option maxRecDepth 100000 in
set_option maxHeartbeats 2000000 in
theorem tsRef_is {w : World} {a : Option Addr} {m : List Int} (n c : Nat) (hn : m.length = n) (hnl : n ≤ 1000000) (hS : Sl w a m) (l : Int) (hl : -9223372036854775808 ≤ l ∧ l ≤ 9223372036854775807) :
    Calls Try.prog 23 #[.slice a n c, .int .i64 l] w fun e w' => e = .returned (.tuple #[.int .i64 (if 0 ≤ refF m l then refF m l else 0), .bool (decide (0 ≤ refF m l))]) ∧ w = w' := by
  have hRI := tsrising_is n c hn hnl hS
  have hV := litsVar_is w l hl
  have hNG := litsNegated_is w l
  have hv : (rising m = true ∧ 1 ≤ varL l ∧ varL l ≤ n) ↔ 0 ≤ refF m l := by
    rw [refF_nonneg, hn]
    unfold varL
    have := rightLit_iff l
    cases hq : rightLit l
    · rw [hq] at this
      rw [if_neg (by simp)]
      constructor
      · rintro ⟨_, h2, _⟩
        omega
      · rintro ⟨_, h2, _, h4⟩
        exact absurd (this.2 ⟨h2, h4⟩) (by simp)
    · rw [hq] at this
      rw [if_pos rfl]
      have h4 := this.1 rfl
      constructor
      · rintro ⟨h1, h2, h3⟩
        exact ⟨h1, h2, h3, h4.2⟩
      · rintro ⟨h1, h2, h3, _⟩
        exact ⟨h1, h2, h3⟩
  by_cases h0 : 0 ≤ refF m l
  · obtain ⟨h1, h2, h3⟩ := hv.2 h0
    have hr := (rising_iff m).1 h1
    rw [h1] at hRI
    obtain ⟨x, hx⟩ : ∃ x, m[varL l - 1]? = some x := ⟨_, List.getElem?_eq_getElem (by omega)⟩
    have hxb := hr.1 x (List.mem_of_getElem? hx)
    have he : refF m l = 2 * x + if negL l then 1 else 0 := by
      have h4 := refF_nonneg.1 h0
      have hrl := (rightLit_iff l).2 ⟨h4.2.1, h4.2.2.2⟩
      unfold refF
      rw [if_pos h4]
      unfold varL at hx
      rw [hrl, if_pos rfl] at hx
      rw [List.getD_eq_getElem?_getD, hx]
      unfold negL
      rw [hrl]
      by_cases hlt : l < 0
      · simp [hlt]
      · simp [hlt]
    rw [if_pos h0, decide_eq_true h0, he]
    obtain ⟨xb, xo, rfl, hcl⟩ := hS.cells _ x hx
    have d1 : decide ((varL l : Int) < 1) = false := decide_eq_false (by omega)
    have d2 : decide ((n : Int) < varL l) = false := decide_eq_false (by omega)
    obtain ⟨V, hV1⟩ : ∃ V, varL l = V + 1 := ⟨varL l - 1, by omega⟩
    rw [hV1] at hV hcl d1 d2 h3
    rw [Nat.add_sub_cancel] at hcl
    rw [show ((V + 1 : Nat) : Int) = (V : Int) + 1 by omega] at hV d1 d2
    generalize negL l = q at *
    clear hv h0 h1 h2 hr hx he hS hV1 hn
    cases q
    all_goals
      go_enter Try.func23, Try.ntmps23
      go_wp2_with fail
      refine hV.mono ?_
      rintro e w' ⟨rfl, rfl⟩
      go_wp2_with fail
      refine hRI.mono ?_
      rintro e w' ⟨rfl, rfl⟩
      go_wp2_with fail
      refine hNG.mono ?_
      rintro e w' ⟨rfl, rfl⟩
      go_wp2_with fail
      go_ret2
      exact ⟨by simp, rfl⟩
  · rw [if_neg h0, decide_eq_false h0]
    have hv2 : ¬ (rising m = true ∧ 1 ≤ varL l ∧ varL l ≤ n) := fun h => h0 (hv.1 h)
    clear hv h0 hS hn
    generalize varL l = V at *
    cases hri : rising m
    · rw [hri] at hRI
      clear hri hv2
      go_enter Try.func23, Try.ntmps23
      go_wp2_with fail
      refine hV.mono ?_
      rintro e w' ⟨rfl, rfl⟩
      go_wp2_with fail
      refine hRI.mono ?_
      rintro e w' ⟨rfl, rfl⟩
      go_wp2_with fail
      go_ret2
      exact ⟨rfl, rfl⟩
    · rw [hri] at hRI hv2
      by_cases hV1 : V < 1
      · have d1 : decide ((V : Int) < 1) = true := decide_eq_true (by omega)
        clear hri hv2
        go_enter Try.func23, Try.ntmps23
        go_wp2_with fail
        refine hV.mono ?_
        rintro e w' ⟨rfl, rfl⟩
        go_wp2_with fail
        refine hRI.mono ?_
        rintro e w' ⟨rfl, rfl⟩
        go_wp2_with fail
        go_ret2
        exact ⟨rfl, rfl⟩
      · have d1 : decide ((V : Int) < 1) = false := decide_eq_false (by omega)
        have hgt : n < V := by
          rcases Nat.lt_or_ge n V with h | h
          · exact h
          · exact absurd ⟨rfl, by omega, h⟩ hv2
        have d2 : decide ((n : Int) < V) = true := decide_eq_true (by omega)
        clear hri hv2
        go_enter Try.func23, Try.ntmps23
        go_wp2_with fail
        refine hV.mono ?_
        rintro e w' ⟨rfl, rfl⟩
        go_wp2_with fail
        refine hRI.mono ?_
        rintro e w' ⟨rfl, rfl⟩
        go_wp2_with fail
        go_ret2
        exact ⟨rfl, rfl⟩
end
end Go.Proofs.Ytkedpifopclipaa
namespace Go.Mem
open Go.MapKept
/-- the map holds just these keys and values -/
def NMap (w : World) (mb : Nat) (L : List (Nat × Value)) : Prop := ∃ es clock, w.heap[mb]? = some (.map es clock) ∧ (es.toList.map fun e => (e.key, e.val)) = L.map fun p => (Value.int .i64 p.1, p.2)
theorem NMap.of_heap {w w' : World} {mb : Nat} {L : List (Nat × Value)} (h : NMap w mb L) (e : w'.heap[mb]? = w.heap[mb]?) : NMap w' mb L := by
  obtain ⟨es, clock, h1, h2⟩ := h
  exact ⟨es, clock, e.trans h1, h2⟩
theorem NMap.lt {w : World} {mb : Nat} {L : List (Nat × Value)} (h : NMap w mb L) : mb < w.heap.size := by
  obtain ⟨es, clock, h1, _⟩ := h
  exact (Array.getElem?_eq_some_iff.1 h1).1
theorem NMap.ch {F : List Nat} {w w' : World} {mb : Nat} {L : List (Nat × Value)} (h : NMap w mb L) (hc : Ch F w w') (hF : mb ∉ F) : NMap w' mb L := h.of_heap (hc.block mb h.lt hF)
section
variable {P : Program} {w : World} {T K E : TypeId} {mb : Nat} {L : List (Nat × Value)}
theorem NMap.find (h : NMap w mb L) (n : Nat) : ∃ es clock, w.heap[mb]? = some (.map es clock) ∧ (es.toList.map fun e => (e.key, e.val)) = (L.map fun p => (Value.int .i64 p.1, p.2)) ∧
    ((Instr.findNow (.int .i64) (.int .i64 n) es.toList 0 = some none ∧ n ∉ L.map Prod.fst) ∨ (∃ j v, Instr.findNow (.int .i64) (.int .i64 n) es.toList 0 = some (some (j, v)) ∧ L[j]? = some (n, v))) := by
  obtain ⟨es, clock, h1, h2⟩ := h
  have hk : IsKey (.int .i64) (.int .i64 (n : Int)) := by simp [IsKey]
  have hat : ∀ (j : Nat) (e : MapEntry), es.toList[j]? = some e → ∃ m v, L[j]? = some (m, v) ∧ e.key = .int .i64 (m : Nat) ∧ e.val = v := fun j e he => by
    have := congrArg (fun l => l[j]?) h2
    simp only [List.getElem?_map, he, Option.map_some] at this
    cases hL : L[j]? with
    | none => rw [hL] at this; cases this
    | some m => rw [hL] at this; simp at this; exact ⟨m.1, m.2, rfl, this.1, this.2⟩
  have hks : ∀ x ∈ es.toList, IsKey (.int .i64) x.key := fun x hx => by
    obtain ⟨j, hj⟩ := List.mem_iff_getElem?.1 hx
    obtain ⟨m, v, _, hm, _⟩ := hat j x hj
    rw [hm]; simp [IsKey]
  refine ⟨es, clock, h1, h2, ?_⟩
  rcases findNow_spec hk es.toList 0 hks with ⟨q1, q2⟩ | ⟨j, e, q1, q2, q3⟩
  · refine .inl ⟨q1, fun hn => ?_⟩
    obtain ⟨⟨n', v⟩, hp, rfl⟩ := List.mem_map.1 hn
    obtain ⟨j, hj⟩ := List.mem_iff_getElem?.1 hp
    have hlt := (List.getElem?_eq_some_iff.1 hj).1
    have hsz : es.toList.length = L.length := by have := congrArg List.length h2; simpa using this
    obtain ⟨m, v', hm, hkm, _⟩ := hat j _ (List.getElem?_eq_getElem (by rw [hsz]; exact hlt))
    rw [hj] at hm; cases hm
    exact q2 _ (List.getElem_mem _) hkm
  · obtain ⟨m, v, hm, hkm, hv⟩ := hat j e q2
    rw [q3] at hkm
    simp at hkm
    obtain rfl : n = m := by omega
    rw [hv, Nat.zero_add] at q1
    exact .inr ⟨j, v, q1, hm⟩
theorem NMap.lookup_yes (hT : P.underlying T = some (.map K E)) (hK : P.underlying K = some (.int .i64)) (h : NMap w mb L) {n : Nat} {v : Value} (hm : (n, v) ∈ L) (hu : ∀ v', (n, v') ∈ L → v' = v) :
    (Instr.lookup T (.map (some mb)) (.int .i64 n) false).run P w = .ok v w ∧ (Instr.lookup T (.map (some mb)) (.int .i64 n) true).run P w = .ok (.tuple #[v, .bool true]) w := by
  have hk : IsKey (.int .i64) (.int .i64 (n : Int)) := by simp [IsKey]
  obtain ⟨es, clock, h1, _, ⟨q, hn⟩ | ⟨j, v', q, hn⟩⟩ := h.find n
  · exact absurd (List.mem_map.2 ⟨_, hm, rfl⟩) hn
  · rw [hu v' (List.mem_of_getElem? hn)] at q
    unfold Instr.lookup
    constructor <;> simp [run_underlying hT, run_getMap h1, run_checkKey hK hk, run_findKey hK q]
theorem NMap.lookup_no (hT : P.underlying T = some (.map K E)) (hK : P.underlying K = some (.int .i64)) {z : Value} (hz : ∀ w, (zeroValue E).run P w = .ok z w) (h : NMap w mb L) {n : Nat} (hm : n ∉ L.map Prod.fst) :
    (Instr.lookup T (.map (some mb)) (.int .i64 n) false).run P w = .ok z w ∧ (Instr.lookup T (.map (some mb)) (.int .i64 n) true).run P w = .ok (.tuple #[z, .bool false]) w := by
  have hk : IsKey (.int .i64) (.int .i64 (n : Int)) := by simp [IsKey]
  obtain ⟨es, clock, h1, _, ⟨q, hn⟩ | ⟨j, v', q, hn⟩⟩ := h.find n
  · unfold Instr.lookup
    constructor <;> simp [run_underlying hT, run_getMap h1, run_checkKey hK hk, run_findKey hK q, hz]
  · exact absurd (List.mem_map.2 ⟨_, List.mem_of_getElem? hn, rfl⟩) hm
theorem NMap.set (hT : P.underlying T = some (.map K E)) (hK : P.underlying K = some (.int .i64)) (h : NMap w mb L) {n : Nat} (hn : n ∉ L.map Prod.fst) (v : Value) :
    ∃ w', (Instr.mapUpdate T (.map (some mb)) (.int .i64 n) v).run P w = .ok () w' ∧ Ch [mb] w w' ∧ NMap w' mb (L ++ [(n, v)]) := by
  have hk : IsKey (.int .i64) (.int .i64 (n : Int)) := by simp [IsKey]
  have hch : ∀ (o : Obj), Ch [mb] w { w with heap := w.heap.setIfInBounds mb o } := fun o => ⟨rfl, rfl, rfl, by simp, fun j _ hj => Array.getElem?_setIfInBounds_ne (by simp at hj; omega)⟩
  obtain ⟨es, clock, h1, h2, ⟨q, _⟩ | ⟨j, v', q, hn2⟩⟩ := h.find n
  · have hlt := (Array.getElem?_eq_some_iff.1 h1).1
    refine ⟨_, by simp [Instr.mapUpdate, run_underlying hT, run_getMap h1, run_checkKey hK hk, run_findKey hK q, run_setMap h1, Result.andThen]; rfl, hch _, ⟨_, _, Array.getElem?_setIfInBounds_self_of_lt hlt, ?_⟩⟩
    rw [Array.toList_push, List.map_append, h2]; simp
  · exact absurd (List.mem_map.2 ⟨_, List.mem_of_getElem? hn2, rfl⟩) hn
end
end Go.Mem
namespace Go.Proofs.Ytkedpifopclipaa
open Go.RowKit Go.Mem Go.Aig
theorem clear_rowI {w : World} {b cap n i : Nat} {xs : List Int} (h : row w 3 1 (.slice (some ⟨b, 0, none⟩) n cap) n (intCells xs)) (hi : i < n) :
    ∃ w2, (∀ (ty c : Nat), (Builtin.clear_ #[23] ty #[.slice (some ⟨b, i, none⟩) (n - i) c]).run Try.prog w = .ok (.tuple #[]) w2) ∧ row w2 3 1 (.slice (some ⟨b, 0, none⟩) i cap) i (intCells (xs.take i)) ∧ Ch [b] w w2 := by
  have hl := h.1
  rcases h.2 with ⟨e, _⟩ | ⟨g, cap', cur, e, hb, hg, hle, hm, hs, ht⟩
  · cases e
  · cases e
    simp only [Nat.mul_one] at hs ht
    have hc : ∀ j, j < n - i → (w.cell? ⟨b, i + j, none⟩).isSome = true := fun j hj => by
      have hlt : i + j < cur.size := by omega
      simp [World.cell?, hg, hlt]
    have hf : ∀ j, j < n - i → w.frozen? ⟨b, i + j, none⟩ = false := fun j hj => by simp [World.frozen?, hg]
    have hz : ∀ w, (zeroValue 3).run Try.prog w = .ok (.int .i64 0) w := fun w => by kernel_rfl
    refine ⟨_, fun ty c => Lib.run_clear_slice w 23 3 ty (.int .i64 0) Try.underlying23 hz rfl rfl b i (n - i) c (by omega) hc hf, ?_, setCells_ch _ _ (Ch.refl _ _)⟩
    obtain ⟨cur', h2, h3, h4⟩ := setCells_blk (e := 3) (List.replicate (n - i) (.int .i64 0)) i hg
    refine ⟨?_, .inr ⟨b, cap, cur', rfl, Nat.zero_le _, h2, by omega, hm, by omega, ?_⟩⟩
    · have : xs.length = n := by simpa [intCells] using hl
      simp [intCells, this]; omega
    · rw [Nat.mul_one, h4]
      have : (cur.toList.take n).take i = (intCells xs).take i := by rw [ht]
      rw [List.take_take, Nat.min_eq_left (by omega)] at this
      rw [this]
      simp [intCells, List.map_take]
section
set_option maxRecDepth 100000 in
set_option maxHeartbeats 1000000 in
theorem DFint_none {w : World} {a : Option Addr} {xs : List Int} (n cap fid : Nat) (caps : Array Value) (p : Int → Bool) (hn : xs.length = n) (h : Sl w a xs) (hf : ∀ x ∈ xs, Calls Try.prog fid (#[.int .i64 x] ++ caps) w fun e w' => e = .returned (.bool (p x)) ∧ w = w')
    (hfn : Fnv fid) (hno : ∀ x ∈ xs, p x = false) :
    Calls Try.prog 20 #[.slice a n cap, .func (.func fid) #[] caps] w fun e w' => e = .returned (.slice a n cap) ∧ w = w' := by
  subst hn
  have HI := IFint_is cap fid caps p h hf hfn
  have hi : idxOf p xs = -1 := by
    unfold idxOf
    rw [List.findIdx?_eq_none_iff.2 hno]
  rw [hi] at HI
  clear hf h hfn hno hi
  have HH := Lib.hid HI; clear HI
  go_enter Try.func20, Try.ntmps20
  go_wp2_with fail
  refine HH.out.mono ?_
  rintro e w' ⟨rfl, rfl⟩
  go_wp2_with fail
  go_ret
  exact ⟨rfl, rfl⟩
theorem del_at {x0 : Int} {xs : List Int} {k : Nat} (h1 : 1 ≤ k) {y : Int} (hy : (x0 :: xs)[k]? = some y) : (xs.take (k - 1) ++ (x0 :: xs).drop (k - 1))[k]? = some y := by
  have hlt := (List.getElem?_eq_some_iff.1 hy).1
  simp only [List.length_cons] at hlt
  rw [List.getElem?_append_right (by rw [List.length_take]; omega), List.getElem?_drop, List.length_take, show k - 1 + (k - min (k - 1) xs.length) = k by omega]
  exact hy
theorem del_set {x0 : Int} {xs : List Int} {k : Nat} (h1 : 1 ≤ k) {y : Int} (hy : (x0 :: xs)[k]? = some y) : (xs.take (k - 1) ++ (x0 :: xs).drop (k - 1)).set (k - 1) y = xs.take k ++ (x0 :: xs).drop k := by
  have hlt := (List.getElem?_eq_some_iff.1 hy).1
  simp only [List.length_cons] at hlt
  obtain ⟨j, rfl⟩ : ∃ j, k = j + 1 := ⟨k - 1, by omega⟩
  rw [List.getElem?_cons_succ] at hy
  have hl : (xs.take j).length = j := by rw [List.length_take]; omega
  rw [Nat.add_sub_cancel, List.set_append_right _ _ (by omega), hl, Nat.sub_self]
  have hd : (x0 :: xs).drop j = (x0 :: xs)[j]'(by simp; omega) :: (x0 :: xs).drop (j + 1) := List.drop_eq_getElem_cons (by simp; omega)
  rw [hd, List.set_cons_zero, List.take_add_one, hy]
  simp
set_option maxRecDepth 100000 in
set_option maxHeartbeats 2000000 in
theorem DFint_head {w : World} {b cap n : Nat} {x0 : Int} {xs : List Int} (fid : Nat) (caps : Array Value) (p : Int → Bool) (h : row w 3 1 (.slice (some ⟨b, 0, none⟩) (n + 1) cap) (n + 1) (intCells (x0 :: xs))) (hn : xs.length = n) (hnl : n + 1 ≤ 1000000)
    (hf : ∀ W, Ch [b] w W → ∀ x, Calls Try.prog fid (#[.int .i64 x] ++ caps) W fun e w' => e = .returned (.bool (p x)) ∧ W = w') (hfn : Fnv fid) (h0 : p x0 = true) (hno : ∀ x ∈ xs, p x = false) :
    Calls Try.prog 20 #[.slice (some ⟨b, 0, none⟩) (n + 1) cap, .func (.func fid) #[] caps] w fun e w' => e = .returned (.slice (some ⟨b, 0, none⟩) n cap) ∧ row w' 3 1 (.slice (some ⟨b, 0, none⟩) n cap) n (intCells xs) ∧ Ch [b] w w' := by
  have hs : Sl w (some ⟨b, 0, none⟩) (x0 :: xs) := Sl.of_ints (n := n + 1) (cap := cap) h (by omega)
  have HI := IFint_is cap fid caps p hs (fun x _ => hf w (Ch.refl _ _) x) hfn
  have hi : idxOf p (x0 :: xs) = 0 := by
    unfold idxOf
    rw [List.findIdx?_cons, h0]
    rfl
  rw [hi, List.length_cons, hn] at HI
  have hcap : n + 1 ≤ cap ∧ cap ≤ 9223372036854775807 := row.capLe' h
  have hcf : ∀ (args : Array Value) (w : World), (callFunc fid args).run Try.prog w = .ok (.enter fid args) w := hfn
  have HF := Lib.hid hf; clear hf
  have HNO := Lib.hid hno; clear hno
  have HH := Lib.hid HI; clear HI
  have HR := Lib.hid h; clear h
  have HN := Lib.hid hn; clear hn
  clear hs hi
  go_enter Try.func20, Try.ntmps20
  go_wp2_with fail
  refine HH.out.mono ?_
  rintro e w' ⟨rfl, rfl⟩
  go_wp2_with fail
  go_loopw [5, 6] (fun i5 i6 wr => ∃ k : Nat, 1 ≤ k ∧ k ≤ n + 1 ∧ i5 = .int .i64 (k - 1 : Nat) ∧ i6 = .int .i64 k ∧ row wr 3 1 (.slice (some ⟨b, 0, none⟩) (n + 1) cap) (n + 1) (intCells (xs.take (k - 1) ++ (x0 :: xs).drop (k - 1))) ∧ Ch [b] w wr) (fun _ i6 _ => n + 1 - (intOf i6).toNat)
  case atStart => exact ⟨1, by omega, by omega, rfl, by go_num, HR.out, Ch.refl _ _⟩
  case round =>
    obtain ⟨k, hk1, hk, rfl, rfl, hrow, hc⟩ := hrel
    by_cases hlt : k < n + 1
    · obtain ⟨y, hy⟩ : ∃ y, (x0 :: xs)[k]? = some y := ⟨_, List.getElem?_eq_getElem (by simp only [List.length_cons]; have := HN.out; omega)⟩
      have hyx : y ∈ xs := by
        obtain ⟨j, rfl⟩ : ∃ j, k = j + 1 := ⟨k - 1, by omega⟩
        rw [List.getElem?_cons_succ] at hy
        exact List.mem_of_getElem? hy
      have hp := HNO.out y hyx
      have hcall := HF.out wr hc y
      rw [hp] at hcall
      have c1 : wr.cell? ⟨b, k, none⟩ = some (.int .i64 y) := row_cell hrow (by unfold intCells; rw [List.getElem?_map, del_at hk1 hy]; rfl)
      obtain ⟨z, c2⟩ : ∃ z, wr.cell? ⟨b, k - 1, none⟩ = some z := by
        obtain ⟨v, hv⟩ : ∃ v, (intCells (xs.take (k - 1) ++ (x0 :: xs).drop (k - 1)))[k - 1]? = some v := ⟨_, List.getElem?_eq_getElem (by
          have := hrow.1
          rw [this]; omega)⟩
        exact ⟨v, row_cell hrow hv⟩
      have f0 : wr.frozen? ⟨b, k - 1, none⟩ = false := by
        rcases hrow.2 with ⟨e1, _⟩ | ⟨g, cap', cur, e1, h0, hg, _⟩
        · cases e1
        · cases e1; simp [World.frozen?, hg]
      have hset := row.set (i := k - 1) hrow (.int .i64 y)
      have e1 : (intCells (xs.take (k - 1) ++ (x0 :: xs).drop (k - 1))).set (k - 1) (.int .i64 y) = intCells (xs.take k ++ (x0 :: xs).drop k) := by
        rw [← del_set hk1 hy]
        unfold intCells
        rw [List.map_set]
      rw [e1] at hset
      have HSET := Lib.hid hset; clear hset e1
      have HC := Lib.hid hc; clear hc hrow hy hyx hp
      have HCALL := Lib.hid hcall; clear hcall
      obtain ⟨j, hj⟩ : ∃ j, k - 1 = j := ⟨_, rfl⟩
      rw [hj] at c2 f0 HSET ⊢
      have hjk : k = j + 1 := by omega
      clear hj
      subst hjk
      rw [show ((j + 1 : Nat) : Int) = (j : Int) + 1 by omega]
      go_wp2_with fail
      refine HCALL.out.mono ?_
      rintro e w' ⟨rfl, rfl⟩
      go_wp2_with fail
      go_roundw
      case rel => exact ⟨j + 2, by omega, by omega, by go_num, by go_num, HSET.out, HC.out.setCell (by simp) _⟩
      case measure => simp [intOf]; omega
    · have hkn : k = n + 1 := by omega
      subst hkn
      have e2 : xs.take (n + 1 - 1) ++ (x0 :: xs).drop (n + 1 - 1) = xs ++ (x0 :: xs).drop n := by
        rw [Nat.add_sub_cancel, List.take_of_length_le (by have := HN.out; omega)]
      rw [e2] at hrow
      obtain ⟨w2, hclr, hrow2, hch⟩ := clear_rowI (i := n) hrow (by omega)
      have e3 : (xs ++ (x0 :: xs).drop n).take n = xs := by rw [List.take_append_of_le_length (by have := HN.out; omega), List.take_of_length_le (by have := HN.out; omega)]
      rw [e3] at hrow2
      have HR2 := Lib.hid hrow2; clear hrow2 e2 e3 hrow
      have HC2 := Lib.hid (hc.trans hch (fun q hq => .inl hq)); clear hc hch
      rw [Nat.add_sub_cancel]
      rw [show n + 1 - n = 1 by omega] at hclr
      go_wp2_with fail
      go_ret
      exact ⟨rfl, HR2.out, HC2.out⟩
end
end Go.Proofs.Ytkedpifopclipaa
