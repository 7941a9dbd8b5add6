/-
  Plain facts of TseitinWrong: maps that are not of a graph; Clone of maps and of clauses, make of truths. Conditions: slices that can be read.
  Words and bits of all references, plainly. Conditions: none beyond the hypotheses.
  What tables, counts and first assignments are, plainly, for the laws of chapter 21. Conditions: none beyond the hypotheses.
  What parts two references, plainly; Contains of truths. Conditions: none beyond the hypotheses.
  Walk over TseitinWrong: true, whatever comes in. Conditions: a slice of nodes of any integers, a slice of bytes, any int.
-/
import Derived.Test.YtkedpifopclipaaQF
import Derived.Test.YtkedpifopclipaaQC
import Derived.Test.YtkedpifopclipaaQD
import Derived.Test.YtkedpifopclipaaQB
import Derived.Test.YtkedpifopclipaaQE
namespace Go.Aig
theorem mapN_right {ns : List Nd} (hw : WF ns) (hn : ns.length ≤ 65536) (l : List Nat) : rightM ns (natInts (mapN ns l)) = true := by
  have hm := mapN_ok hw l
  have hr := mapN_rising hw hn l
  rw [rightM_eq, hr, Bool.true_and, List.all_eq_true]
  intro x hx
  unfold natInts at hx
  obtain ⟨n, hnm, rfl⟩ := List.mem_map.1 hx
  have hlt := hm.lt n hnm
  have hxn := List.getElem?_eq_getElem hlt.2
  obtain ⟨s1, s2⟩ := side_of hw hxn
  unfold rightAt
  rw [decide_eq_true (by omega), Bool.true_and, s1]
  by_cases h3 : (ns[n]).k = 3
  · obtain ⟨e1, e2, _⟩ := s2 h3
    obtain ⟨c1, c2⟩ := hm.cl n hnm _ hxn h3
    rw [e1, e2]
    have hf : ∀ r : Nat, r / 2 ∈ mapN ns l → (litF (natInts (mapN ns l)) r != 0) = true := fun r hrm => by
      rw [bne_iff_ne]
      unfold litF
      rw [if_pos ⟨hr, by omega⟩]
      exact lit_ne hm.asc hrm
    rw [hf _ c1, hf _ c2]
    simp
  · simp [h3]
theorem rightM_big {ns : List Nd} {m : List Int} {x : Int} (h : (ns.length : Int) ≤ x) : rightM ns (m ++ [x]) = false := by
  rw [← Bool.not_eq_true]
  intro h2
  have := (rightM_all h2).1 x (by simp)
  omega
theorem rightM_low {ns : List Nd} {m : List Int} {x : Int} (h : x ≤ 0) : rightM ns ([x] ++ m) = false := by
  rw [← Bool.not_eq_true]
  intro h2
  have := (rightM_all h2).1 x (by simp)
  omega
theorem rightM_twice {ns : List Nd} {m : List Int} {x : Int} : rightM ns (m ++ [x, x]) = false := by
  rw [← Bool.not_eq_true]
  intro h2
  have := ((rising_iff _).1 (rightM_all h2).2).2
  rw [List.pairwise_append] at this
  have h3 := this.2.1
  simp at h3
theorem insV_none (ns : List Nd) (m : List Int) (k : Nat) : insV ns m (List.replicate k false) = List.replicate (inputs ns).length false := by
  unfold insV
  apply List.eq_replicate_iff.2
  refine ⟨by simp, fun b hb => ?_⟩
  obtain ⟨r, _, rfl⟩ := List.mem_map.1 hb
  have : (List.replicate k false).getD ((litF m r).natAbs - 1) false = false := by
    rw [List.getD_eq_getElem?_getD, List.getElem?_replicate]
    split <;> rfl
  rw [this, Bool.and_false]
theorem bad_snoc {G : Gra} {l : List Int} {r : Int} (h : r < 0 ∨ 2 * (G.nodes.length : Int) ≤ r) : badIn G (l ++ [r]) = true := by
  unfold badIn
  rw [List.any_append, Bool.or_eq_true]
  refine .inr ?_
  have : right G.nodes r = false := by unfold right; simp; omega
  simp [this]
end Go.Aig
namespace Go.Proofs.Ytkedpifopclipaa
open Go.RowKit Go.Mem Go.Aig
theorem row.alt {w : World} {e : TypeId} {size n c : Nat} {a : Option Addr} {xs : List Value} (h : Mem.row w e size (.slice a n c) n xs) : ∀ p, a = some p → p.block < w.heap.size := fun p hp => by
  subst hp
  exact (h.lt p.block (by rcases h.2 with ⟨e, _⟩ | ⟨b, _, _, e, _⟩; cases e; cases e; rfl)).2
theorem Sl.news {w : World} {a : Option Addr} {l : List Int} (h : Sl w a l) : ∀ j u, (intCells l)[j]? = some u → ∃ p, a = some p ∧ w.cell? (p.add j) = some u := fun j u hu => by
  unfold intCells at hu
  rw [List.getElem?_map, Option.map_eq_some_iff] at hu
  obtain ⟨x, hx, rfl⟩ := hu
  obtain ⟨b, o, e, hc⟩ := h.cells j x hx
  refine ⟨_, e, ?_⟩
  rw [Addr.add_lit]
  exact hc
theorem cells_one (l : List Int) : ∀ u ∈ intCells l, u.oneCell' = true := fun u hu => by
  obtain ⟨r, _, rfl⟩ := List.mem_map.1 hu
  rfl
theorem lit1_row (w : World) (T : TypeId) (x : Value) : Mem.row (w.alloc (.cells #[x] T)) T 1 (.slice (some ⟨w.heap.size, 0, none⟩) 1 1) 1 [x] :=
  ⟨rfl, .inr ⟨w.heap.size, 1, #[x], rfl, by omega, heap_alloc_new w _, by omega, by unfold maxLen; omega, rfl, rfl⟩⟩
theorem run_append_nil27 {P : Program} (w : World) (t ty e : TypeId) (i : TypeInfo) (ht : P.underlying t = some (.slice e)) (hi : P.info? e = some i) (base : Option Addr) (n cap c : Nat) (h : n ≤ cap) : (Builtin.append_ #[t, t] ty #[.slice base n cap, .slice none 0 c]).run P w = .ok (.slice base n cap) w := by
  cases base <;> simp [Builtin.append_, run_underlying ht, sizeOf, typeInfo, hi, Builtin.lenOf, h, Builtin.firstCells, storeCells]
theorem wpList_append_any {P : Program} {w : World} {ops : Array Oper} {rest : List Oper} {o : Oper} {a : Act} {Q : Exit → Act → World → Prop} {t e : TypeId} {size bytes : Nat} {z : Value} (S : SliceTy P t e size bytes z) (hgd : o.guard = none) (s x : Operand)
    (ho : o.op = .call { callee := .builtin .append, args := #[s, x], argTypes := #[t, t] })
    {v : Value} {n : Nat} {xs : List Value} (hs : a.eval s = v) (hown : Mem.row w e size v n xs) {ad : Option Addr} {m c : Nat} {news : List Value} (hx : a.eval x = .slice ad m c) (hl : news.length = m * size)
    (hnews : ∀ j u, news[j]? = some u → ∃ p, ad = some p ∧ w.cell? (p.add j) = some u) (h1 : ∀ u ∈ news, u.oneCell' = true)
    (hbytes : (n + m) * bytes ≤ 140737488355328) (h63 : n + m ≤ 9223372036854775807)
    (h : ∀ v' w', Mem.row w' e size v' (n + m) (xs ++ news) → Ch v.ownBlock.toList w w' → (∀ k, v'.ownBlock = some k → v.ownBlock = some k ∨ w.heap.size ≤ k) → wpList P ops Q rest (a.put o.dst v') w') : wpList P ops Q (o :: rest) a w := by
  cases ad with
  | some p =>
    exact wpList_append_row S hgd s x ho hs hown hx hl (fun j u hu => by
      obtain ⟨q, e, h⟩ := hnews j u hu
      cases e
      exact h) h1 hbytes h63 h
  | none =>
    have hn0 : news = [] := by
      cases news with
      | nil => rfl
      | cons y l =>
        obtain ⟨q, e, _⟩ := hnews 0 y rfl
        cases e
    subst hn0
    have hsz := S.pos
    have hm : m = 0 := by
      rcases Nat.mul_eq_zero.1 (by simpa using hl.symm : m * size = 0) with h | h
      · exact h
      · omega
    subst hm
    obtain ⟨va, vc, rfl⟩ := row.shape hown
    obtain ⟨i, hi, _⟩ := Option.map_eq_some_iff.1 S.info
    have hcap : n ≤ vc := by
      rcases hown.2 with ⟨e, _⟩ | ⟨g, cap, cur, e, _, _, h1, _⟩
      · cases e; exact Nat.le_refl _
      · cases e; exact h1
    have hr := run_append_nil27 w t o.type e i S.under hi va n vc c hcap
    refine wpList_plain hgd fun K hK => ?_
    unfold Oper.wp execOp
    simp only [ho, resolve, invoke, builtin, Sem.run_bind, Sem.run_pure, Result.andThen_ok, List.map_toArray, List.map_cons, List.map_nil, hs, hx, hr]
    exact hK _ _ (h _ _ (by simpa using hown) (Ch.refl _ _) (fun k hk => .inl hk))
theorem infoInt27 : (Try.prog.info? 3).map (fun i => (i.zero, i.size, i.bytes)) = some (some (.int .i64 0), 1, 8) := by kernel_rfl
theorem slMap : SliceTy Try.prog 37 3 1 8 (.int .i64 0) := ⟨Try.underlying37, infoInt27, rfl, by decide⟩
theorem eqSliceNil_CLmap (w : World) (a : Option Addr) (n c : Nat) : (binOp .eql 37 (.slice a n c) (.slice none 0 0)).run Try.prog w = .ok (.bool a.isNone) w := by
  have h : Try.prog.underlying 37 = some (.slice 3) := Try.underlying37
  simp only [binOp]
  simp [run_equal_slice_nil w _ _ a n c h]
theorem eqSliceNil_CLcls (w : World) (a : Option Addr) (n c : Nat) : (binOp .eql 137 (.slice a n c) (.slice none 0 0)).run Try.prog w = .ok (.bool a.isNone) w := by
  have h : Try.prog.underlying 137 = some (.slice 46) := Try.underlying137
  simp only [binOp]
  simp [run_equal_slice_nil w _ _ a n c h]
section
attribute [local go_sem] eqSliceNil_CLmap eqSliceNil_CLcls
variable {w : World}
set_option maxRecDepth 100000 in
set_option maxHeartbeats 1000000 in
theorem CLmap_is {a : Option Addr} {l : List Int} (n c : Nat) (hn : l.length = n) (h : Sl w a l) (hm : n ≤ 1000000) : Calls Try.prog 31 #[.slice a n c] w fun e w' => ∃ v, e = .returned v ∧ row w' 3 1 v n (intCells l) ∧ (∀ q ∈ v.ownBlock.toList, w.heap.size ≤ q) ∧ Ch [] w w' := by
  subst hn
  cases a with
  | none =>
    have hl : l = [] := by
      cases l with
      | nil => rfl
      | cons y l =>
        obtain ⟨b, o, e, _⟩ := h.cells 0 y rfl
        cases e
    subst hl
    clear h
    go_enter Try.func31, Try.ntmps31
    go_wp2_with fail
    go_ret
    exact ⟨_, rfl, ⟨rfl, .inl ⟨rfl, rfl⟩⟩, by simp, Ch.refl _ _⟩
  | some p =>
    have hO : row (w.alloc (.cells #[] 3)) 3 1 (.slice (some ⟨w.heap.size, 0, none⟩) 0 0) 0 [] := empty_row w _
    have hN : ∀ j u, (intCells l)[j]? = some u → (w.alloc (.cells #[] 3)).cell? (p.add j) = some u := fun j u hu => by
      unfold intCells at hu
      rw [List.getElem?_map, Option.map_eq_some_iff] at hu
      obtain ⟨x, hx, rfl⟩ := hu
      obtain ⟨b, o, e, hc⟩ := h.cells j x hx
      cases e
      rw [Addr.add_lit]
      exact (((Ch.refl [] w).alloc _).cell (cell_lt hc) (by simp)).trans hc
    have h1 : ∀ u ∈ intCells l, u.oneCell' = true := fun u hu => by
      obtain ⟨r, _, rfl⟩ := List.mem_map.1 hu
      rfl
    have HO := Lib.hid hO; clear hO
    have HN := Lib.hid hN; clear hN h
    have H1 := Lib.hid h1; clear h1
    go_enter Try.func31, Try.ntmps31
    go_wp2_with (at_builtin; go_loud (refine wpList_append_row slMap rfl _ _ rfl (v := .slice (some ⟨w.heap.size, 0, none⟩) 0 0) (n := 0) (xs := []) rfl HO.out (ad := p) (m := l.length) (c := c) (news := intCells l) rfl (by simp [intCells]) HN.out H1.out (by omega) (by omega) ?_; intro v' w2 hown hC2 hfresh; have HOWN := Lib.hid hown; clear hown; have HC2 := Lib.hid hC2; clear hC2; have HFR := Lib.hid hfresh; clear hfresh))
    go_ret
    have hown := HOWN.out
    rw [Nat.zero_add, List.nil_append] at hown
    refine ⟨_, rfl, hown, fun k hk => ?_, (((Ch.refl [] w).alloc (.cells #[] 3))).trans HC2.out (by simp [Value.ownBlock])⟩
    rcases HFR.out k (by simpa using hk) with e | e
    · simp [Value.ownBlock] at e; omega
    · simp at e; omega
set_option maxRecDepth 100000 in
set_option maxHeartbeats 1000000 in
theorem CLcls_is {a : Option Addr} {l : List Int} (n c : Nat) (hn : l.length = n) (h : Sl w a l) (hm : n ≤ 1000000) : Calls Try.prog 176 #[.slice a n c] w fun e w' => ∃ v, e = .returned v ∧ row w' 46 1 v n (intCells l) ∧ (∀ q ∈ v.ownBlock.toList, w.heap.size ≤ q) ∧ Ch [] w w' := by
  subst hn
  cases a with
  | none =>
    have hl : l = [] := by
      cases l with
      | nil => rfl
      | cons y l =>
        obtain ⟨b, o, e, _⟩ := h.cells 0 y rfl
        cases e
    subst hl
    clear h
    go_enter Try.func176, Try.ntmps176
    go_wp2_with fail
    go_ret
    exact ⟨_, rfl, ⟨rfl, .inl ⟨rfl, rfl⟩⟩, by simp, Ch.refl _ _⟩
  | some p =>
    have hO : row (w.alloc (.cells #[] 46)) 46 1 (.slice (some ⟨w.heap.size, 0, none⟩) 0 0) 0 [] := empty_row w _
    have hN : ∀ j u, (intCells l)[j]? = some u → (w.alloc (.cells #[] 46)).cell? (p.add j) = some u := fun j u hu => by
      unfold intCells at hu
      rw [List.getElem?_map, Option.map_eq_some_iff] at hu
      obtain ⟨x, hx, rfl⟩ := hu
      obtain ⟨b, o, e, hc⟩ := h.cells j x hx
      cases e
      rw [Addr.add_lit]
      exact (((Ch.refl [] w).alloc _).cell (cell_lt hc) (by simp)).trans hc
    have h1 : ∀ u ∈ intCells l, u.oneCell' = true := fun u hu => by
      obtain ⟨r, _, rfl⟩ := List.mem_map.1 hu
      rfl
    have HO := Lib.hid hO; clear hO
    have HN := Lib.hid hN; clear hN h
    have H1 := Lib.hid h1; clear h1
    go_enter Try.func176, Try.ntmps176
    go_wp2_with (at_builtin; go_loud (refine wpList_append_row slLits rfl _ _ rfl (v := .slice (some ⟨w.heap.size, 0, none⟩) 0 0) (n := 0) (xs := []) rfl HO.out (ad := p) (m := l.length) (c := c) (news := intCells l) rfl (by simp [intCells]) HN.out H1.out (by omega) (by omega) ?_; intro v' w2 hown hC2 hfresh; have HOWN := Lib.hid hown; clear hown; have HC2 := Lib.hid hC2; clear hC2; have HFR := Lib.hid hfresh; clear hfresh))
    go_ret
    have hown := HOWN.out
    rw [Nat.zero_add, List.nil_append] at hown
    refine ⟨_, rfl, hown, fun k hk => ?_, (((Ch.refl [] w).alloc (.cells #[] 46))).trans HC2.out (by simp [Value.ownBlock])⟩
    rcases HFR.out k (by simpa using hk) with e | e
    · simp [Value.ownBlock] at e; omega
    · simp at e; omega
end
end Go.Proofs.Ytkedpifopclipaa
namespace Go.Proofs.Ytkedpifopclipaa
open Go.RowKit Go.Mem Go.Aig
theorem badIn_range {G : Gra} {m : Nat} (h : m ≤ 2 * G.nodes.length) : badIn G (natInts (List.range m)) = false := by
  unfold badIn natInts
  rw [List.any_map, List.any_eq_false]
  intro r hr
  have := List.mem_range.1 hr
  simp [right]
  omega
theorem nats_natInts (l : List Nat) : nats (natInts l) = l := toNats l
/-- the words of the first references -/
def allW (V : List Nat) (m : Nat) : List Nat := (List.range m).map (wref U64 V)
theorem allW_len (V : List Nat) (m : Nat) : (allW V m).length = m := by simp [allW]
theorem allW_at (V : List Nat) {m r : Nat} (h : r < m) : (allW V m)[r]? = some (wref U64 V r) := by
  unfold allW
  rw [List.getElem?_map, List.getElem?_range h]
  rfl
theorem range_snoc2 (k : Nat) : List.range (2 * (k + 1)) = List.range (2 * k) ++ [2 * k, 2 * k + 1] := by
  rw [show 2 * (k + 1) = 2 * k + 1 + 1 by omega, List.range_succ, List.range_succ, List.append_assoc]
  rfl
theorem words_all {G : Gra} {I : List Nat} (hI : I.length = (inputs G.nodes).length) {m : Nat} (h : m ≤ 2 * G.nodes.length) : wordsR G I (natInts (List.range m)) = (allW (wvF U64 I G.nodes).1 m, 0) := by
  unfold wordsR
  rw [badIn_range h, if_neg (by simp), if_neg (by simpa using hI), nats_natInts]
  rfl
theorem bits_words {G : Gra} {I : List Nat} (hI : I.length = (inputs G.nodes).length) {l : List Int} (hb : badIn G l = false) {kk : Nat} (hk : kk < 64) : bitsR G (I.map fun v => v.testBit kk) l = ((wsOf I G.nodes (nats l)).map fun v => v.testBit kk, 0) := by
  unfold bitsR
  rw [hb, if_neg (by simp), if_neg (by simpa using hI)]
  congr 1
  unfold bsOf wsOf
  rw [List.map_map]
  apply List.map_congr_left
  intro r _
  have := wv_bv (N := 64) hk I G.nodes r
  rw [u64_pow] at this
  show _ = (wref 18446744073709551615 (wvF 18446744073709551615 I G.nodes).1 r).testBit kk
  rw [this]
  congr 1
  funext i
  rw [List.getD_eq_getElem?_getD, List.getD_eq_getElem?_getD, List.getElem?_map]
  cases I[i]? <;> simp
end Go.Proofs.Ytkedpifopclipaa
namespace Go.Aig
theorem tabE_zero {G : Gra} {l : List Nat} (hr : ∀ r ∈ l, r < 2 * G.nodes.length) (hk : (inputs G.nodes).length ≤ 16) : Go.Proofs.Ytkedpifopclipaa.tabE G (natInts l) = 0 := by
  have hb : badIn G (natInts l) = false := by
    unfold badIn natInts
    rw [List.any_map, List.any_eq_false]
    intro r h
    have := hr r h
    simp [right]
    omega
  unfold Go.Proofs.Ytkedpifopclipaa.tabE
  rw [hb, if_neg (by simp), if_neg (by omega)]
theorem table_ok {G : Gra} {r k : Nat} (hr : r < 2 * G.nodes.length) (hk : (inputs G.nodes).length = k) (h16 : k ≤ 16) : Go.Proofs.Ytkedpifopclipaa.tableR G (r : Int) = (tabW G.nodes (Go.Proofs.Ytkedpifopclipaa.oneF r) k, 0) := by
  have h := tabE_zero (G := G) (l := [r]) (by simpa using hr) (by omega)
  unfold Go.Proofs.Ytkedpifopclipaa.tableR
  rw [show [(r : Int)] = natInts [r] from rfl, h, if_pos rfl, hk]
theorem count_ok {G : Gra} {r k : Nat} (hr : r < 2 * G.nodes.length) (hk : (inputs G.nodes).length = k) (h16 : k ≤ 16) : Go.Proofs.Ytkedpifopclipaa.countR G (r : Int) = (countV k (tellR G.nodes k r), 0) := by
  have h := tabE_zero (G := G) (l := [r]) (by simpa using hr) (by omega)
  unfold Go.Proofs.Ytkedpifopclipaa.countR
  rw [show [(r : Int)] = natInts [r] from rfl, h, if_pos rfl, hk]
  rfl
theorem first_ok {G : Gra} {r k : Nat} (hr : r < 2 * G.nodes.length) (hk : (inputs G.nodes).length = k) (h16 : k ≤ 16) : Go.Proofs.Ytkedpifopclipaa.firstG G (r : Int) = (firstR k (tellR G.nodes k r), 0) := by
  have h := tabE_zero (G := G) (l := [r]) (by simpa using hr) (by omega)
  unfold Go.Proofs.Ytkedpifopclipaa.firstG
  rw [show [(r : Int)] = natInts [r] from rfl, h, if_pos rfl, hk]
  rfl
theorem parts_ok {G : Gra} {r s k : Nat} (hr : r < 2 * G.nodes.length) (hs : s < 2 * G.nodes.length) (hk : (inputs G.nodes).length = k) (h16 : k ≤ 16) : Go.Proofs.Ytkedpifopclipaa.partsG G (r : Int) (s : Int) = (firstR k (tellX G.nodes k r s), 0) := by
  have h := tabE_zero (G := G) (l := [r, s]) (by intro x hx; simp only [List.mem_cons, List.not_mem_nil, or_false] at hx; rcases hx with rfl | rfl <;> assumption) (by omega)
  unfold Go.Proofs.Ytkedpifopclipaa.partsG
  rw [show [(r : Int), (s : Int)] = natInts [r, s] from rfl, h, if_pos rfl, hk]
  rfl
theorem tellR_neg (ns : List Nd) (k r : Nat) : tellR ns k (neg r) = fun a => !tellR ns k r a := by
  funext a
  unfold tellR
  rw [bv_neg]
theorem firstR_len (k : Nat) (p : Nat → Bool) : (firstR k p).1.length = if (firstR k p).2 then k else 0 := by
  unfold firstR
  cases firstV k p with
  | none => rfl
  | some a => simp [asgBits_len]
theorem firstR_is (k : Nat) (p : Nat → Bool) : (firstR k p).2 = decide (0 < countV k p) := by
  cases h : firstV k p with
  | none =>
    have h2 := firstV_none.1 h
    have : ¬ 0 < countV k p := fun h0 => by
      obtain ⟨a, h1, h3⟩ := (countV_pos k p).1 h0
      rw [h2 a h1] at h3; cases h3
    unfold firstR
    rw [h, decide_eq_false this]
  | some a =>
    obtain ⟨h1, h2, _⟩ := firstV_some h
    have : 0 < countV k p := (countV_pos k p).2 ⟨a, h1, h2⟩
    unfold firstR
    rw [h, decide_eq_true this]
/-- the first number below a of which p is true; -1 if there is none -/
def fstI (p : Nat → Bool) (a : Nat) : Int := match (List.range a).find? p with
  | none => -1
  | some x => x
theorem fstI_succ (p : Nat → Bool) (a : Nat) : fstI p (a + 1) = if fstI p a < 0 ∧ p a = true then (a : Int) else fstI p a := by
  unfold fstI
  rw [List.range_succ, List.find?_append]
  cases h : (List.range a).find? p with
  | none =>
    cases hp : p a with
    | false => simp [hp]
    | true => simp [hp]
  | some x => simp; omega
theorem fstI_lt (p : Nat → Bool) (a : Nat) : fstI p a < a ∧ -1 ≤ fstI p a := by
  unfold fstI
  cases h : (List.range a).find? p with
  | none => simp; omega
  | some x =>
    have := List.mem_of_find?_eq_some h
    have := List.mem_range.1 this
    simp; omega
theorem fstI_neg {p : Nat → Bool} {a : Nat} (h : fstI p a < 0) : ∀ b, b < a → p b = false := by
  unfold fstI at h
  cases hf : (List.range a).find? p with
  | none =>
    intro b hb
    have := List.find?_eq_none.1 hf b (List.mem_range.2 hb)
    simpa using this
  | some x => rw [hf] at h; simp at h; omega
theorem cnt_succ (p : Nat → Bool) (a : Nat) : ((List.range (a + 1)).filter p).length = ((List.range a).filter p).length + (p a).toNat := by
  rw [List.range_succ, List.filter_append, List.length_append]
  cases h : p a <;> simp [h]
end Go.Aig
namespace Go.Proofs.Ytkedpifopclipaa
open Go.RowKit Go.Mem Go.Aig
theorem tab_bit64 {T : List Nat} {n : Nat} {p : Nat → Bool} (h : TabOf T n p) (hT : ∀ v ∈ T, v < 2 ^ 64) {a : Nat} (ha : a < 2 ^ n) : ∃ x, T[a / 64]? = some x ∧ (bits .and .u64 ((x : Int) / 2 ^ (a % 64)) 1 == 1) = p a := by
  have hle := blocks_le n
  have hl : a / 64 < T.length := by rw [h.len]; omega
  refine ⟨T[a / 64], List.getElem?_eq_getElem hl, ?_⟩
  rw [bit_u64 _ _ (hT _ (List.getElem_mem hl)), ← h.at' a ha]
  unfold tbit
  rw [List.getD_eq_getElem?_getD, List.getElem?_eq_getElem hl]
  rfl
theorem bits_one {G : Gra} {k a r : Nat} (hk : (inputs G.nodes).length = k) (hr : r < 2 * G.nodes.length) : bitsR G (asgBits k a) [(r : Int)] = ([tellR G.nodes k r a], 0) := by
  have hb : badIn G (natInts [r]) = false := by
    unfold badIn natInts
    simp [right]
    omega
  unfold bitsR
  rw [show [(r : Int)] = natInts [r] from rfl, hb, if_neg (by simp), if_neg (by rw [asgBits_len, hk]; simp), nats_natInts]
  unfold bsOf tellR
  rw [asgBits_at]
  rfl
theorem Eqbool_c {w : World} {a b : Option Addr} {xs ys : List Bool} {n m ca cb : Nat} (hx : Sb w a xs) (hy : Sb w b ys) (hn : xs.length = n) (hm : ys.length = m) {q : Bool} (hq : decide (xs = ys) = q) :
    Calls Try.prog 47 #[.slice a n ca, .slice b m cb] w fun e w' => e = .returned (.bool q) ∧ Ch [] w w' := by
  subst hn hm hq
  exact Eqbool_is ca cb hx hy
end Go.Proofs.Ytkedpifopclipaa
namespace Go.Aig
theorem tellX_comm (ns : List Nd) (n a b : Nat) : tellX ns n b a = tellX ns n a b := by
  funext k
  unfold tellX
  rw [Bool.xor_comm]
theorem tellX_self (ns : List Nd) (n a : Nat) : tellX ns n a a = fun _ => false := by
  funext k
  unfold tellX
  rw [Bool.xor_self]
theorem tellX_neg (ns : List Nd) (n a : Nat) : tellX ns n a (neg a) = fun _ => true := by
  funext k
  unfold tellX
  rw [bv_neg]
  cases bv (asg n k) ns a <;> rfl
theorem firstR_never (n : Nat) : firstR n (fun _ => false) = ([], false) := by
  have : firstV n (fun _ => false) = none := firstV_none.2 fun _ _ => rfl
  unfold firstR
  rw [this]
theorem firstR_always (n : Nat) : firstR n (fun _ => true) = (List.replicate n false, true) := by
  have : firstV n (fun _ => true) = some 0 := by
    unfold firstV
    exact find_range _ 0 rfl (fun b hb => by omega) _ (Nat.two_pow_pos n)
  have h : asgBits n 0 = List.replicate n false := by
    unfold asgBits
    apply List.ext_getElem
    · simp
    · intro i h1 h2
      simp
  unfold firstR
  rw [this]
  show (asgBits n 0, true) = _
  rw [h]
/-- nothing parts two if their tables are the same -/
theorem parts_eq {ns : List Nd} {n a b : Nat} {T U : List Nat} (hT : TabOf T n (tellR ns n a)) (hU : TabOf U n (tellR ns n b)) (hTb : ∀ v ∈ T, v < 2 ^ 64) (hUb : ∀ v ∈ U, v < 2 ^ 64) : (firstR n (tellX ns n a b)).2 = !decide (T = U) := by
  cases h : firstV n (tellX ns n a b) with
  | none =>
    have h2 := firstV_none.1 h
    have hp : ∀ x, x < 2 ^ n → tellR ns n a x = tellR ns n b x := fun x hx => by
      have := h2 x hx
      unfold tellX at this
      unfold tellR
      cases h3 : bv (asg n x) ns a <;> cases h4 : bv (asg n x) ns b <;> rw [h3, h4] at this <;> first | rfl | cases this
    have hU' : TabOf U n (tellR ns n a) := ⟨hU.len, fun x hx => by rw [hU.at' x hx, hp x hx], hU.out⟩
    have e := hT.ext hU' hTb hUb
    unfold firstR
    rw [h, decide_eq_true e]
    rfl
  | some x =>
    obtain ⟨h1, h2, _⟩ := firstV_some h
    have hne : T ≠ U := fun e => by
      have h3 := hT.at' x h1
      rw [e, hU.at' x h1] at h3
      unfold tellX at h2
      unfold tellR at h3
      rw [h3, Bool.xor_self] at h2
      cases h2
    unfold firstR
    rw [h, decide_eq_false hne]
    rfl
theorem count_same {ns : List Nd} {n a b : Nat} (h : (firstR n (tellX ns n a b)).2 = false) : countV n (tellR ns n a) = countV n (tellR ns n b) := by
  have h1 : firstV n (tellX ns n a b) = none := by
    unfold firstR at h
    cases h2 : firstV n (tellX ns n a b) with
    | none => rfl
    | some x => rw [h2] at h; cases h
  have h2 := firstV_none.1 h1
  unfold countV
  congr 1
  apply List.filter_congr
  intro x hx
  have := h2 x (List.mem_range.1 hx)
  unfold tellX at this
  unfold tellR
  cases h3 : bv (asg n x) ns a <;> cases h4 : bv (asg n x) ns b <;> rw [h3, h4] at this <;> first | rfl | cases this
/-- the first assignment that parts two: what is known of it -/
theorem parts_some {ns : List Nd} {n a b : Nat} (h : (firstR n (tellX ns n a b)).2 = true) : ∃ x, (firstR n (tellX ns n a b)).1 = asgBits n x ∧ x < 2 ^ n ∧ (tellR ns n a x = !tellR ns n b x) ∧ ∀ y, y < x → tellR ns n a y = tellR ns n b y := by
  cases h2 : firstV n (tellX ns n a b) with
  | none => unfold firstR at h; rw [h2] at h; cases h
  | some x =>
    obtain ⟨h3, h4, h5⟩ := firstV_some h2
    refine ⟨x, by unfold firstR; rw [h2], h3, ?_, fun y hy => ?_⟩
    · unfold tellX at h4
      unfold tellR
      cases h6 : bv (asg n x) ns a <;> cases h7 : bv (asg n x) ns b <;> rw [h6, h7] at h4 <;> first | rfl | cases h4
    · have := h5 y hy
      unfold tellX at this
      unfold tellR
      cases h6 : bv (asg n y) ns a <;> cases h7 : bv (asg n y) ns b <;> rw [h6, h7] at this <;> first | rfl | cases this
end Go.Aig
namespace Go.Proofs.Ytkedpifopclipaa
open Go.RowKit Go.Mem Go.Aig
set_option maxRecDepth 100000 in
set_option maxHeartbeats 1000000 in
theorem IXbool_no {w : World} {a : Option Addr} {l : List Bool} (n c : Nat) (hn : l.length = n) (hm : n ≤ 1000000) (hS : Sb w a l) (v : Bool) (hl : ∀ x ∈ l, x = !v) :
    Calls Try.prog 103 #[.slice a n c, .bool v] w fun e w' => e = .returned (.int .i64 (-1)) ∧ w = w' := by
  subst hn
  have HS := Lib.hid hS; clear hS
  have HL := Lib.hid hl; clear hl
  go_enter Try.func103, Try.ntmps103
  go_wp2_with fail
  go_loopw [8] (fun i wr => ∃ k : Nat, k ≤ l.length ∧ i = .int .i64 k ∧ w = wr) (fun i _ => l.length - (intOf i).toNat)
  case atStart => exact ⟨0, by omega, rfl, rfl⟩
  case round =>
    obtain ⟨k, hk, rfl, rfl⟩ := hrel
    by_cases hlt : k < l.length
    · obtain ⟨x, hx⟩ : ∃ x, l[k]? = some x := ⟨_, List.getElem?_eq_getElem hlt⟩
      have hxv := HL.out x (List.mem_of_getElem? hx)
      obtain ⟨b, o, rfl, c0⟩ := HS.out.cells k (.bool x) (by simp [hx])
      subst hxv
      have e1 : (v == !v) = false := by cases v <;> rfl
      clear hx
      go_wp2_with fail
      go_roundw
      case rel => exact ⟨k + 1, by omega, by go_num, trivial⟩
      case measure => simp [intOf]; omega
    · go_wp2_with fail
      go_ret
      exact ⟨rfl, rfl⟩
set_option maxRecDepth 100000 in
theorem CObool_no {w : World} {a : Option Addr} {l : List Bool} (n c : Nat) (hn : l.length = n) (hm : n ≤ 1000000) (hS : Sb w a l) (v : Bool) (hl : ∀ x ∈ l, x = !v) :
    Calls Try.prog 35 #[.slice a n c, .bool v] w fun e w' => e = .returned (.bool false) ∧ w = w' := by
  have HI := IXbool_no n c hn hm hS v hl
  clear hS hl
  go_enter Try.func35, Try.ntmps35
  go_wp2_with fail
  refine HI.mono ?_
  rintro e w' ⟨rfl, rfl⟩
  go_wp2_with fail
  go_ret
  exact ⟨rfl, rfl⟩
theorem bits_or_i64_nat (a b : Nat) (ha : a < 9223372036854775808) (hb : b < 9223372036854775808) : bits .or .i64 (a : Int) (b : Int) = ((a ||| b : Nat) : Int) := by
  have hx : a ||| b < 2 ^ 63 := Nat.or_lt_two_pow (by omega) (by omega)
  have h1 : (BitVec.ofInt 64 (a : Int)).toNat = a := by
    rw [BitVec.ofInt_natCast, BitVec.toNat_ofNat]; exact Nat.mod_eq_of_lt (by omega)
  have h2 : (BitVec.ofInt 64 (b : Int)).toNat = b := by
    rw [BitVec.ofInt_natCast, BitVec.toNat_ofNat]; exact Nat.mod_eq_of_lt (by omega)
  show IntKind.i64.wrap ((BitVec.ofInt 64 (a : Int) ||| BitVec.ofInt 64 (b : Int)).toNat : Int) = _
  rw [BitVec.toNat_or, h1, h2, IntKind.wrap_i64]
  omega
/-- the lower bits of a number, one by one -/
theorem mod_step (a j : Nat) : a % 2 ^ (j + 1) = if a.testBit j then (a % 2 ^ j) ||| 2 ^ j else a % 2 ^ j := by
  have h1 : a % 2 ^ (j + 1) = a % 2 ^ j + 2 ^ j * (a / 2 ^ j % 2) := by rw [Nat.pow_succ]; exact Nat.mod_mul
  have h2 : a % 2 ^ j < 2 ^ j := Nat.mod_lt _ (Nat.two_pow_pos j)
  rw [Nat.testBit_eq_decide_div_mod_eq, h1]
  rcases Nat.mod_two_eq_zero_or_one (a / 2 ^ j) with h | h
  · rw [h]; simp
  · rw [h]
    simp only [decide_true, if_true, Nat.mul_one]
    have := Nat.two_pow_add_eq_or_of_lt h2 1
    rw [Nat.mul_one] at this
    rw [Nat.add_comm, this, Nat.or_comm]
theorem bits_two {G : Gra} {k a r s : Nat} (hk : (inputs G.nodes).length = k) (hr : r < 2 * G.nodes.length) (hs : s < 2 * G.nodes.length) : bitsR G (asgBits k a) [(r : Int), (s : Int)] = ([tellR G.nodes k r a, tellR G.nodes k s a], 0) := by
  have hb : badIn G (natInts [r, s]) = false := by
    unfold badIn natInts
    simp [right]
    omega
  unfold bitsR
  rw [show [(r : Int), (s : Int)] = natInts [r, s] from rfl, hb, if_neg (by simp), if_neg (by rw [asgBits_len, hk]; simp), nats_natInts]
  unfold bsOf tellR
  rw [asgBits_at]
  rfl
theorem tab_val64 {T : List Nat} {n : Nat} {p : Nat → Bool} (h : TabOf T n p) (hT : ∀ v ∈ T, v < 2 ^ 64) {a : Nat} (ha : a < 2 ^ n) : ∃ x, T[a / 64]? = some x ∧ bits .and .u64 ((x : Int) / 2 ^ (a % 64)) 1 = (((p a).toNat : Nat) : Int) := by
  have hle := blocks_le n
  have hl : a / 64 < T.length := by rw [h.len]; omega
  refine ⟨T[a / 64], List.getElem?_eq_getElem hl, ?_⟩
  have hx := hT _ (List.getElem_mem hl)
  have h1 : T[a / 64] / 2 ^ (a % 64) < 18446744073709551616 := Nat.lt_of_le_of_lt (Nat.div_le_self _ _) hx
  have h2 := bits_and_u64_nat (T[a / 64] / 2 ^ (a % 64)) 1 h1 (by omega)
  have h3 : ((T[a / 64] / 2 ^ (a % 64) : Nat) : Int) = (T[a / 64] : Int) / 2 ^ (a % 64) := by rw [Int.natCast_ediv]; simp
  rw [Nat.and_one_is_mod, h3] at h2
  rw [show (1 : Int) = ((1 : Nat) : Int) from rfl, h2, ← h.at' a ha]
  unfold tbit
  rw [List.getD_eq_getElem?_getD, List.getElem?_eq_getElem hl]
  show ((T[a / 64] / 2 ^ (a % 64) % 2 : Nat) : Int) = (((T[a / 64]).testBit (a % 64)).toNat : Nat)
  rw [Nat.testBit_eq_decide_div_mod_eq]
  rcases Nat.mod_two_eq_zero_or_one (T[a / 64] / 2 ^ (a % 64)) with h | h <;> rw [h] <;> rfl
end Go.Proofs.Ytkedpifopclipaa
namespace Go.Proofs.Ytkedpifopclipaa
open Go.RowKit Go.Mem Go.Aig
section
set_option maxRecDepth 100000 in
set_option maxHeartbeats 8000000 in
theorem TseitinWrong_core {w : World} {a : Option Addr} {n cap : Nat} {l : List N21} (hS : NodeS w a n cap l) {xa : Option Addr} {xn xc : Nat} {ys : List Nat} (hU : NumS .u8 8 w xa xn xc ys) (o : Int) (ho0 : -9223372036854775808 ≤ o ∧ o ≤ 9223372036854775807) :
    Calls Try.prog 6 #[.slice a n cap, .slice xa xn xc, .int .i64 o] w fun e w' => e = .returned (.bool true) ∧ Ch [] w w' := by
  have HS := Lib.hid hS; clear hS
  have HU := Lib.hid hU; clear hU
  go_enter Try.func6, Try.ntmps6
  go_wp2_with fail
  refine (awake27_is w).mono ?_
  rintro e w1 ⟨rfl, hc1⟩
  have HC1 := Lib.hid hc1; clear hc1
  go_wp2_with fail
  refine (made27_is (HS.out.ch HC1.out) (HU.out.ch HC1.out)).mono ?_
  rintro e w2 ⟨g, G, F, v, R, rfl, ho, hm, hN31, hi6, hR4, hRl, hrow, hv⟩
  obtain ⟨ra, rc, rfl⟩ := row.shape hrow
  have hlt := row.alt hrow
  have hok := ho.gin.ok
  have hmk := mapN_ok hok.wf R
  have hris := mapN_rising hok.wf (by omega) R
  have hrgt := mapN_right hok.wf (by omega) R
  have hml : (mapN G.nodes R).length ≤ 31 := by
    have h1 := mapN_len hok R
    have h2 := rising_len hris
    have h3 : (mapN G.nodes R).length ≤ (List.range G.nodes.length).length := sub_len (by
      refine (Go.Aig.mapN_asc hok.wf R).imp ?_
      intro a b h
      omega) (fun x hx => List.mem_range.2 (mapN_lt hok.wf hx).2)
    rw [List.length_range] at h3
    omega
  have hcl := clsOf_len G.nodes (natInts (mapN G.nodes R)) (natInts R)
  rw [natInts_len, natInts_len] at hcl
  have hsl : Sl w2 ra (natInts R) := Sl.of_ints hrow (by omega)
  have HC := Lib.hid (Ch.refl [] w2)
  have HC12 := Lib.hid ho.ch
  have hRb : ∀ r ∈ natInts R, 0 ≤ r ∧ r ≤ 62 := fun r hr => by
    obtain ⟨z, hz, rfl⟩ := List.mem_map.1 hr
    have := hRl z hz
    omega
  obtain ⟨N, hNl⟩ : ∃ N, G.nodes.length = N := ⟨_, rfl⟩
  obtain ⟨k, hkl⟩ : ∃ k, R.length = k := ⟨_, rfl⟩
  obtain ⟨q, hqi⟩ : ∃ q, (inputs G.nodes).length = q := ⟨_, rfl⟩
  have hCl := fun (W : World) (hc : Ch [] w2 W) => Clref_w (w := W) (x := ⟨ra, natInts R, rc⟩) ⟨hsl.ch hc (by simp), fun r hr => by have := hRb r hr; omega, by simp only [natInts_len]; omega⟩ k (by simpa using hkl)
  have hEr := fun (W : World) (va : Option Addr) (vc : Nat) (z : Int) (hc : Ch [] w2 W) (hz : z < 0 ∨ 2 * (N : Int) ≤ z) (hzb : z ≤ 9223372036854775807) (hr : row W 45 1 (.slice va (k + 1) vc) (k + 1) (intCells (natInts R ++ [z]))) =>
    tsEncode_ref (ho.gin.same hc (by simp)) (l := natInts R ++ [z]) (k + 1) vc (by simpa using hkl) (Sl.of_ints hr (by omega)) (fun x hx => by
      rcases List.mem_append.1 hx with h | h
      · have := hRb x h; omega
      · simp at h; omega) (row.alt hr) (bad_snoc (by rw [hNl]; exact hz)) (-1)
  have hSn := fun (W : World) (va : Option Addr) (vc : Nat) (z : Int) (hc : Ch [] w2 W) (hz : z < 0 ∨ 2 * (N : Int) ≤ z) (hzb : z ≤ 9223372036854775807) (hr : row W 45 1 (.slice va (k + 1) vc) (k + 1) (intCells (natInts R ++ [z]))) =>
    tsSize_no (ho.gin.same hc (by simp)) (l := natInts R ++ [z]) (k + 1) vc (by simpa using hkl) (Sl.of_ints hr (by omega)) (fun x hx => by
      rcases List.mem_append.1 hx with h | h
      · have := hRb x h; omega
      · simp at h; omega) (row.alt hr) (bad_snoc (by rw [hNl]; exact hz))
  have hEm := fun (W : World) (z : Int) (hc : Ch [] w2 W) (hz : z < 0 ∨ 1048576 < z) => tsEncode_most (ho.gin.same hc (by simp)) R.length rc rfl (hsl.ch hc (by simp)) (fun p hp => Nat.lt_of_lt_of_le (hlt p hp) hc.size) hRl z (e := 2) (.inl ⟨hz, rfl⟩)
  have hEn := fun (W : World) (hc : Ch [] w2 W) => tsEncode_yes (ho.gin.same hc (by simp)) R.length rc rfl (by omega) (hsl.ch hc (by simp)) (fun p hp => Nat.lt_of_lt_of_le (hlt p hp) hc.size) hRl 1048576 (by omega) (by omega) (by omega)
  have hLn := fun (W : World) (hc : Ch [] w2 W) => Len_g (ho.gin.same hc (by simp))
  have hIp := fun (W : World) (hc : Ch [] w2 W) => Inputs_g (ho.gin.same hc (by simp))
  have hMo := fun (W : World) (b : Option Addr) (s c : Nat) (mp : List Int) (hc : Ch [] w2 W) (hr : row W 3 1 (.slice b s c) s (intCells mp)) (hs : s ≤ 100) (hz : rightM G.nodes mp = false) (xa : Option Addr) (xl : List Bool) (xk xc : Nat) (hk : xl.length = xk) (hB : Sb W xa xl) (hx : xk ≤ 100000) => by
    have h9 := tsModel_is (ho.gin.same hc (by simp)) s c (by have := hr.1; simpa [intCells] using this) (by omega) (Sl.of_ints hr (by omega)) xk xc hk hB hx
    rw [show modelR G mp xl = ([], 271) by unfold modelR; rw [if_pos hz]] at h9
    exact h9
  have hIs := fun (W : World) (b : Option Addr) (s c : Nat) (mp : List Int) (hc : Ch [] w2 W) (hr : row W 3 1 (.slice b s c) s (intCells mp)) (hs : s ≤ 100) (hz : rightM G.nodes mp = false) (xa : Option Addr) (xl : List Bool) (xk xc : Nat) (hk : xl.length = xk) (hB : Sb W xa xl) (hx : xk ≤ 100000) => by
    have h9 := tsInputs_is (ho.gin.same hc (by simp)) s c (by have := hr.1; simpa [intCells] using this) (by omega) (Sl.of_ints hr (by omega)) xk xc hk hB hx
    rw [show insR G mp xl = ([], 271) by unfold insR; rw [if_pos hz]] at h9
    exact h9
  have hRg := fun (W : World) (b : Option Addr) (s c : Nat) (mp : List Int) (hc : Ch [] w2 W) (hr : row W 3 1 (.slice b s c) s (intCells mp)) (hs : s ≤ 100) (hz : rightM G.nodes mp = false) => by
    have h9 := tsRight_is (ho.gin.same hc (by simp)) s c (by have := hr.1; simpa [intCells] using this) (by omega) (Sl.of_ints hr (by omega))
    rw [hz] at h9
    exact h9
  obtain ⟨ms, hms⟩ : ∃ ms, mapN G.nodes R = ms := ⟨_, rfl⟩
  rw [hms] at hml hcl hris hmk hrgt
  simp only [hms] at hEm hEn
  have hb1 := fun (x : Int) (hx : (N : Int) ≤ x) => rightM_big (ns := G.nodes) (m := natInts ms) (x := x) (by rw [hNl]; exact hx)
  have hb2 := fun (x : Int) (hx : x ≤ 0) => rightM_low (ns := G.nodes) (m := natInts ms) hx
  have hb3 := rightM_twice (ns := G.nodes) (m := natInts ms) (x := 1)
  obtain ⟨m, hml2⟩ : ∃ m, ms.length = m := ⟨_, rfl⟩
  have hM2 := fun (W : World) (b : Option Addr) (c : Nat) (hc : Ch [] w2 W) (hr : row W 3 1 (.slice b m c) m (intCells (natInts ms))) (xa : Option Addr) (xc : Nat) (hB : Sb W xa (List.replicate (q + 1) false)) => by
    have h9 := tsModel_is (ho.gin.same hc (by simp)) (m := natInts ms) m c (by rw [natInts_len]; exact hml2) (by omega) (Sl.of_ints hr (by omega)) (q + 1) xc (by simp) hB (by omega)
    rw [show modelR G (natInts ms) (List.replicate (q + 1) false) = ([], 272) by unfold modelR; rw [if_neg (by rw [hrgt]; simp), if_pos (by rw [List.length_replicate, hqi]; omega)]] at h9
    exact h9
  have hI2 := fun (W : World) (b : Option Addr) (c : Nat) (hc : Ch [] w2 W) (hr : row W 3 1 (.slice b m c) m (intCells (natInts ms))) (xa : Option Addr) (xc : Nat) (hB : Sb W xa (List.replicate (m + 1) false)) => by
    have h9 := tsInputs_is (ho.gin.same hc (by simp)) (m := natInts ms) m c (by rw [natInts_len]; exact hml2) (by omega) (Sl.of_ints hr (by omega)) (m + 1) xc (by simp) hB (by omega)
    rw [show insR G (natInts ms) (List.replicate (m + 1) false) = ([], 272) by unfold insR; rw [if_neg (by rw [hrgt]; simp), if_pos (by rw [List.length_replicate, natInts_len, hml2]; omega)]] at h9
    exact h9
  have hI3 := fun (W : World) (b : Option Addr) (c : Nat) (hc : Ch [] w2 W) (hr : row W 3 1 (.slice b m c) m (intCells (natInts ms))) (xa : Option Addr) (xc : Nat) (hB : Sb W xa (List.replicate m false)) => by
    have h9 := tsInputs_is (ho.gin.same hc (by simp)) (m := natInts ms) m c (by rw [natInts_len]; exact hml2) (by omega) (Sl.of_ints hr (by omega)) m xc (by simp) hB (by omega)
    rw [show insR G (natInts ms) (List.replicate m false) = (List.replicate q false, 0) by unfold insR; rw [if_neg (by rw [hrgt]; simp), if_neg (by rw [List.length_replicate, natInts_len, hml2]; simp), insV_none, hqi]] at h9
    exact h9
  obtain ⟨cls, hcls⟩ : ∃ cls, clsOf G.nodes (natInts ms) (natInts R) = cls := ⟨_, rfl⟩
  simp only [hcls] at hEn
  simp only [hml2, hkl, hNl, hqi] at hEm hEn hLn hIp
  rw [hml2] at hml
  rw [hkl] at hR4
  rw [hNl] at hN31
  rw [hqi] at hi6
  obtain ⟨less, hless, hle1, hle2⟩ : ∃ less : Int, (if (-1 : Int) < o then -1 else o) = less ∧ less < 0 ∧ -9223372036854775808 ≤ less := ⟨_, rfl, by split <;> omega, by split <;> omega⟩
  obtain ⟨bad, hbad, hba1, hba2⟩ : ∃ bad : Int, (if o < 2 * (N : Int) then 2 * (N : Int) else o) = bad ∧ 2 * (N : Int) ≤ bad ∧ bad ≤ 9223372036854775807 := ⟨_, rfl, by split <;> omega, by split <;> omega⟩
  obtain ⟨big, hbig, hbi1, hbi2⟩ : ∃ big : Int, (if o < 1048577 then 1048577 else o) = big ∧ 1048576 < big ∧ big ≤ 9223372036854775807 := ⟨_, rfl, by split <;> omega, by split <;> omega⟩
  obtain ⟨x1, hx1, hxa1, hxa2⟩ : ∃ x1 : Int, (if o < (N : Int) then (N : Int) else o) = x1 ∧ (N : Int) ≤ x1 ∧ x1 ≤ 9223372036854775807 := ⟨_, rfl, by split <;> omega, by split <;> omega⟩
  obtain ⟨x2, hx2, hxb1, hxb2⟩ : ∃ x2 : Int, (if (0 : Int) < o then 0 else o) = x2 ∧ x2 ≤ 0 ∧ -9223372036854775808 ≤ x2 := ⟨_, rfl, by split <;> omega, by split <;> omega⟩
  have hminl : ∀ ats ty, Builtin.min_ ats ty #[.int .i64 o, .int .i64 (-1)] = pure (.int .i64 less) := fun ats ty => by
    rw [← hless]
    simp [Builtin.min_, Builtin.min2]
  have hmaxb : ∀ ats ty, Builtin.max_ ats ty #[.int .i64 o, .int .i64 (2 * (N : Int))] = pure (.int .i64 bad) := fun ats ty => by
    rw [← hbad]
    simp [Builtin.max_, Builtin.max2]
  have hmaxg : ∀ ats ty, Builtin.max_ ats ty #[.int .i64 o, .int .i64 1048577] = pure (.int .i64 big) := fun ats ty => by
    rw [← hbig]
    simp [Builtin.max_, Builtin.max2]
  have hmaxn : ∀ ats ty, Builtin.max_ ats ty #[.int .i64 o, .int .i64 (N : Int)] = pure (.int .i64 x1) := fun ats ty => by
    rw [← hx1]
    simp [Builtin.max_, Builtin.max2]
  have hmin0 : ∀ ats ty, Builtin.min_ ats ty #[.int .i64 o, .int .i64 0] = pure (.int .i64 x2) := fun ats ty => by
    rw [← hx2]
    simp [Builtin.min_, Builtin.min2]
  have HB1 := Lib.hid (hb1 x1 hxa1); clear hb1
  have HB2 := Lib.hid (hb2 x2 hxb1); clear hb2
  have HB3 := Lib.hid hb3; clear hb3
  have HCL := Lib.hid hCl; clear hCl
  have HER := Lib.hid hEr; clear hEr
  have HSN := Lib.hid hSn; clear hSn
  have HEM := Lib.hid hEm; clear hEm
  have HEN := Lib.hid hEn; clear hEn
  have HLN := Lib.hid hLn; clear hLn
  have HIP := Lib.hid hIp; clear hIp
  have HMO := Lib.hid hMo; clear hMo
  have HIS := Lib.hid hIs; clear hIs
  have HRG := Lib.hid hRg; clear hRg
  have HM2 := Lib.hid hM2; clear hM2
  have HI2 := Lib.hid hI2; clear hI2
  have HI3 := Lib.hid hI3; clear hI3
  have HML := Lib.hid hml2; clear hml2
  have HKL := Lib.hid hkl
  have HMINL2 := Lib.hid hminl
  have HMINL := Lib.hid hminl; clear hminl
  have HMAXB := Lib.hid hmaxb; clear hmaxb
  have HMAXG := Lib.hid hmaxg; clear hmaxg
  have HMAXN := Lib.hid hmaxn; clear hmaxn
  have HMIN0 := Lib.hid hmin0; clear hmin0
  rw [hkl]
  clear ho hm hRl hrow hv hok hmk hsl hms hcls hkl hNl hqi HS HU hlt hRb hris hrgt hless hbad hbig hx1 hx2
  have hln := HLN.out w2 HC.out
  have hminl := HMINL.out
  have hmaxb := HMAXB.out
  go_wp2_with fail
  refine hln.mono ?_
  rintro e w' ⟨rfl, rfl⟩
  clear hln
  go_wp2_with fail
  clear hminl hmaxb HMINL
  refine wp_named fun W3 hW3 => ?_
  have hb3 := alw_blk (xs := [.int .i64 less, .int .i64 bad]) hW3
  have hc3 := HC.out.trans (alw_ch hW3) (by simp)
  clear hW3 HC
  generalize w2.heap.size = b3 at *
  have HB := Lib.hid hb3; clear hb3
  have HC := Lib.hid hc3; clear hc3
  go_loopw [60] (fun i wr => ∃ z : Nat, z ≤ 2 ∧ i = .int .i64 z ∧ Ch [] w2 wr ∧ blk wr b3 [.int .i64 less, .int .i64 bad]) (fun i _ => 2 - (intOf i).toNat)
  case atStart => exact ⟨0, by omega, rfl, HC.out, HB.out⟩
  case round =>
    clear HB HC
    obtain ⟨z, hz, rfl, hc, hb⟩ := hrel
    rcases (by omega : z = 0 ∨ z = 1 ∨ z = 2) with rfl | rfl | rfl
    · have q0 := hb.cell (i := 0) rfl
      have hcl := HCL.out wr hc
      have HX := Lib.hid hcl; clear hcl
      have HC := Lib.hid hc; clear hc
      have HB := Lib.hid hb; clear hb
      go_wp2_with fail
      refine HX.out.mono ?_
      rintro e w3 ⟨v, rfl, hrv, hvo, hcs⟩
      rw [show (intCells (natInts R)).length = k by simp [intCells]; exact HKL.out] at hrv
      obtain ⟨va, vc, rfl⟩ := row.shape hrv
      have hcA : Ch [] w3 (w3.alloc (.cells #[.int .i64 less] 45)) := (Ch.refl _ _).alloc _
      have hrA := hrv.ch hcA (by simp)
      have hbA : blk (w3.alloc (.cells #[.int .i64 less] 45)) w3.heap.size [.int .i64 less] := blk.new' _ _ rfl
      have HRA := Lib.hid hrA; clear hrA hrv
      have HBA := Lib.hid hbA; clear hbA
      have HVO := Lib.hid hvo; clear hvo
      have HCA := Lib.hid (hcs.trans hcA (by simp)); clear hcA hcs q0
      go_wp2_with (at_builtin; go_loud (refine wpList_append_row slRefs rfl _ _ rfl (v := .slice va k vc) (n := k) (xs := intCells (natInts R)) rfl HRA.out (ad := ⟨w3.heap.size, 0, none⟩) (m := 1) (c := 1) (news := [.int .i64 less]) rfl rfl (news_blk HBA.out) (by simp [Value.oneCell']) (by omega) (by omega) ?_; intro v' w5 hown4 hC4 hf4; obtain ⟨va5, vc5, rfl⟩ := row.shape hown4; have HO4 := Lib.hid hown4; clear hown4; have HC4 := Lib.hid hC4; clear hC4; clear hf4))
      have hown := HO4.out
      rw [show intCells (natInts R) ++ [.int .i64 less] = intCells (natInts R ++ [less]) by simp [intCells]] at hown
      have hc5 := HCA.out.trans HC4.out (fun q hq => .inr (HVO.out q hq))
      have hb5 := HB.out.ch hc5 (by simp)
      have hc6 := HC.out.trans hc5 (by simp)
      clear HC4 HCA HBA HRA HVO HX hc5 HC HB
      have HC := Lib.hid hc6; clear hc6
      have HB := Lib.hid hb5; clear hb5
      have HO5 := Lib.hid hown; clear hown HO4
      have her := HER.out w5 va5 vc5 less HC.out (.inl hle1) (by omega) HO5.out
      unfold EncNo at her
      have HX := Lib.hid her; clear her
      try go_wp2_with fail
      refine HX.out.mono ?_
      rintro e w6 ⟨rfl, hcs⟩
      clear HX
      have ho6 := HO5.out.ch hcs (by simp)
      have hb6 := HB.out.ch hcs (by simp)
      have hc6 := HC.out.trans hcs (by simp)
      clear HO5 HB HC hcs
      have HO6 := Lib.hid ho6; clear ho6
      have HB := Lib.hid hb6; clear hb6
      have HC := Lib.hid hc6; clear hc6
      go_upto_region 11 with fail
      refine wp_alw ?_
      intro w7 hW7
      have hcd := alw_ch hW7
      have ho7 := HO6.out.ch hcd (by simp)
      have hb7 := HB.out.ch hcd (by simp)
      have hc7 := HC.out.trans hcd (by simp)
      clear hW7 HO6 HB HC hcd
      have hsn := HSN.out w7 va5 vc5 less hc7 (.inl hle1) (by omega) ho7
      have HX := Lib.hid hsn; clear hsn ho7
      have HB := Lib.hid hb7; clear hb7
      have HC := Lib.hid hc7; clear hc7
      go_wp2_with fail
      refine HX.out.mono ?_
      rintro e w8 ⟨rfl, hcs⟩
      clear HX
      have hb8 := HB.out.ch hcs (by simp)
      have hc8 := HC.out.trans hcs (by simp)
      clear HB HC hcs
      have HB := Lib.hid hb8; clear hb8
      have HC := Lib.hid hc8; clear hc8
      go_wp2_with fail
      go_roundw
      case rel => exact ⟨1, by omega, by go_num, HC.out, HB.out⟩
      case measure => simp [intOf]
    · have q0 := hb.cell (i := 1) rfl
      have hcl := HCL.out wr hc
      have HX := Lib.hid hcl; clear hcl
      have HC := Lib.hid hc; clear hc
      have HB := Lib.hid hb; clear hb
      go_wp2_with fail
      refine HX.out.mono ?_
      rintro e w3 ⟨v, rfl, hrv, hvo, hcs⟩
      rw [show (intCells (natInts R)).length = k by simp [intCells]; exact HKL.out] at hrv
      obtain ⟨va, vc, rfl⟩ := row.shape hrv
      have hcA : Ch [] w3 (w3.alloc (.cells #[.int .i64 bad] 45)) := (Ch.refl _ _).alloc _
      have hrA := hrv.ch hcA (by simp)
      have hbA : blk (w3.alloc (.cells #[.int .i64 bad] 45)) w3.heap.size [.int .i64 bad] := blk.new' _ _ rfl
      have HRA := Lib.hid hrA; clear hrA hrv
      have HBA := Lib.hid hbA; clear hbA
      have HVO := Lib.hid hvo; clear hvo
      have HCA := Lib.hid (hcs.trans hcA (by simp)); clear hcA hcs q0
      go_wp2_with (at_builtin; go_loud (refine wpList_append_row slRefs rfl _ _ rfl (v := .slice va k vc) (n := k) (xs := intCells (natInts R)) rfl HRA.out (ad := ⟨w3.heap.size, 0, none⟩) (m := 1) (c := 1) (news := [.int .i64 bad]) rfl rfl (news_blk HBA.out) (by simp [Value.oneCell']) (by omega) (by omega) ?_; intro v' w5 hown4 hC4 hf4; obtain ⟨va5, vc5, rfl⟩ := row.shape hown4; have HO4 := Lib.hid hown4; clear hown4; have HC4 := Lib.hid hC4; clear hC4; clear hf4))
      have hown := HO4.out
      rw [show intCells (natInts R) ++ [.int .i64 bad] = intCells (natInts R ++ [bad]) by simp [intCells]] at hown
      have hc5 := HCA.out.trans HC4.out (fun q hq => .inr (HVO.out q hq))
      have hb5 := HB.out.ch hc5 (by simp)
      have hc6 := HC.out.trans hc5 (by simp)
      clear HC4 HCA HBA HRA HVO HX hc5 HC HB
      have HC := Lib.hid hc6; clear hc6
      have HB := Lib.hid hb5; clear hb5
      have HO5 := Lib.hid hown; clear hown HO4
      have her := HER.out w5 va5 vc5 bad HC.out (.inr hba1) (by omega) HO5.out
      unfold EncNo at her
      have HX := Lib.hid her; clear her
      try go_wp2_with fail
      refine HX.out.mono ?_
      rintro e w6 ⟨rfl, hcs⟩
      clear HX
      have ho6 := HO5.out.ch hcs (by simp)
      have hb6 := HB.out.ch hcs (by simp)
      have hc6 := HC.out.trans hcs (by simp)
      clear HO5 HB HC hcs
      have HO6 := Lib.hid ho6; clear ho6
      have HB := Lib.hid hb6; clear hb6
      have HC := Lib.hid hc6; clear hc6
      go_upto_region 11 with fail
      refine wp_alw ?_
      intro w7 hW7
      have hcd := alw_ch hW7
      have ho7 := HO6.out.ch hcd (by simp)
      have hb7 := HB.out.ch hcd (by simp)
      have hc7 := HC.out.trans hcd (by simp)
      clear hW7 HO6 HB HC hcd
      have hsn := HSN.out w7 va5 vc5 bad hc7 (.inr hba1) (by omega) ho7
      have HX := Lib.hid hsn; clear hsn ho7
      have HB := Lib.hid hb7; clear hb7
      have HC := Lib.hid hc7; clear hc7
      go_wp2_with fail
      refine HX.out.mono ?_
      rintro e w8 ⟨rfl, hcs⟩
      clear HX
      have hb8 := HB.out.ch hcs (by simp)
      have hc8 := HC.out.trans hcs (by simp)
      clear HB HC hcs
      have HB := Lib.hid hb8; clear hb8
      have HC := Lib.hid hc8; clear hc8
      go_wp2_with fail
      go_roundw
      case rel => exact ⟨2, by omega, by go_num, HC.out, HB.out⟩
      case measure => simp [intOf]
    · rw [show ((2 : Nat) : Int) = 2 from rfl]
      have HC := Lib.hid hc; clear hc hb
      clear HCL HER HSN
      have hminl := HMINL2.out
      have hmaxg := HMAXG.out
      go_wp2_with fail
      clear hminl hmaxg HMINL2 HMAXG
      refine wp_named fun W3 hW3 => ?_
      have hb3 := alw_blk (xs := [.int .i64 less, .int .i64 big]) hW3
      have hc3 := HC.out.trans (alw_ch hW3) (by simp)
      clear hW3 HC
      generalize wr.heap.size = b4 at *
      have HB := Lib.hid hb3; clear hb3
      have HC := Lib.hid hc3; clear hc3
      go_loopw [96] (fun i wr => ∃ z : Nat, z ≤ 2 ∧ i = .int .i64 z ∧ Ch [] w2 wr ∧ blk wr b4 [.int .i64 less, .int .i64 big]) (fun i _ => 2 - (intOf i).toNat)
      case atStart => exact ⟨0, by omega, rfl, HC.out, HB.out⟩
      case round =>
        clear HB HC
        obtain ⟨z, hz, rfl, hc, hb⟩ := hrel
        rcases (by omega : z = 0 ∨ z = 1 ∨ z = 2) with rfl | rfl | rfl
        · have q0 := hb.cell (i := 0) rfl
          have hem := HEM.out wr less hc (.inl hle1)
          unfold EncNo at hem
          have HX := Lib.hid hem; clear hem
          have HC := Lib.hid hc; clear hc
          have HB := Lib.hid hb; clear hb
          go_wp2_with fail
          refine HX.out.mono ?_
          rintro e w6 ⟨rfl, hcs⟩
          have hcd := hcs.alloc (.cells #[.int .i64 0, .slice none 0 0] 36)
          have hb6 := HB.out.ch hcd (by simp)
          have hc6 := HC.out.trans hcd (by simp)
          clear HX HB HC hcs hcd
          have HB := Lib.hid hb6; clear hb6
          have HC := Lib.hid hc6; clear hc6
          go_wp2_with fail
          go_roundw
          case rel => exact ⟨1, by omega, by go_num, HC.out, HB.out⟩
          case measure => simp [intOf]
        · have q0 := hb.cell (i := 1) rfl
          have hem := HEM.out wr big hc (.inr hbi1)
          unfold EncNo at hem
          have HX := Lib.hid hem; clear hem
          have HC := Lib.hid hc; clear hc
          have HB := Lib.hid hb; clear hb
          go_wp2_with fail
          refine HX.out.mono ?_
          rintro e w6 ⟨rfl, hcs⟩
          have hcd := hcs.alloc (.cells #[.int .i64 0, .slice none 0 0] 36)
          have hb6 := HB.out.ch hcd (by simp)
          have hc6 := HC.out.trans hcd (by simp)
          clear HX HB HC hcs hcd
          have HB := Lib.hid hb6; clear hb6
          have HC := Lib.hid hc6; clear hc6
          go_wp2_with fail
          go_roundw
          case rel => exact ⟨2, by omega, by go_num, HC.out, HB.out⟩
          case measure => simp [intOf]
        · rw [show ((2 : Nat) : Int) = 2 from rfl]
          have HC := Lib.hid hc; clear hc hb
          clear HEM
          have hen := HEN.out wr HC.out
          have HX := Lib.hid hen; clear hen HEN
          go_wp2_with fail
          refine HX.out.mono ?_
          rintro e w4 ⟨cv, mv, rfl, hfor, hrm, _, hcs⟩
          obtain ⟨es, hes1, hes2⟩ := hfor.ex
          obtain ⟨ca, cc, rfl⟩ := row.shape hes1
          obtain ⟨ma, mc, rfl⟩ := row.shape hrm
          have hc4 := HC.out.trans hcs (by simp)
          clear hcs HX hfor hes1 hes2 HC
          have HM := Lib.hid hrm; clear hrm
          have HC := Lib.hid hc4; clear hc4
          go_upto_region 25 with fail
          refine wp_alw ?_
          intro w5 hW5
          have hcd := alw_ch hW5
          have hm5 := HM.out.ch hcd (by simp)
          have hc5 := HC.out.trans hcd (by simp)
          clear hW5 hcd HM HC
          have HM := Lib.hid hm5; clear hm5
          have HC := Lib.hid hc5; clear hc5
          have hip := HIP.out w5 HC.out
          have HX := Lib.hid hip; clear hip HIP
          go_wp2_with fail
          refine HX.out.mono ?_
          rintro e w6 ⟨v, rfl, hri, _, hcs⟩
          obtain ⟨ia, ic, rfl⟩ := row.shape hri
          have hm6 := HM.out.ch hcs (by simp)
          have hc6 := HC.out.trans hcs (by simp)
          clear hcs HX HM HC hri
          have HM := Lib.hid hm6; clear hm6
          have HC := Lib.hid hc6; clear hc6
          have hcm := CLmap_is (w := w6) m mc (by rw [natInts_len]; exact HML.out) (Sl.of_ints HM.out (by omega)) (by omega)
          have HX := Lib.hid hcm; clear hcm
          go_wp2_with fail
          refine HX.out.mono ?_
          rintro e w7 ⟨v, rfl, hr1, ho1, hcs⟩
          obtain ⟨a1, c1, rfl⟩ := row.shape hr1
          have hsz := HC.out.size
          have HSZ := Lib.hid hsz; clear hsz
          have HC67 := Lib.hid hcs
          have hm6 : ∀ z, (Value.slice ma m mc).ownBlock = some z → z < w6.heap.size := fun z hz => (HM.out.lt z hz).2
          have HM6 := Lib.hid hm6; clear hm6
          have hm7 := HM.out.ch hcs (by simp)
          have hc7 := HC.out.trans hcs (by simp)
          clear hcs HX HM HC
          have HM := Lib.hid hm7; clear hm7
          have HC := Lib.hid hc7; clear hc7
          have HR1 := Lib.hid hr1; clear hr1
          have HO1 := Lib.hid ho1; clear ho1
          have hln := HLN.out w7 HC.out
          have HX := Lib.hid hln; clear hln HLN
          go_wp2_with fail
          refine HX.out.mono ?_
          rintro e w' ⟨rfl, rfl⟩
          clear HX
          have hmaxn := HMAXN.out
          have hmin0 := HMIN0.out
          clear HMAXN HMIN0
          have hcA : Ch [] w7 (w7.alloc (.cells #[.int .i64 x1] 3)) := (Ch.refl _ _).alloc _
          have hrA := HR1.out.ch hcA (by simp)
          have hbA : blk (w7.alloc (.cells #[.int .i64 x1] 3)) w7.heap.size [.int .i64 x1] := blk.new' _ _ rfl
          have hmA := HM.out.ch hcA (by simp)
          have HRA := Lib.hid hrA; clear hrA HR1
          have HBA := Lib.hid hbA; clear hbA
          have HMA := Lib.hid hmA; clear hmA
          have HCA := Lib.hid hcA; clear hcA
          have hmo : ∀ p, ma = some p → p.block < w7.heap.size := row.alt HM.out
          have HMO7 := Lib.hid hmo; clear hmo
          have HT1 := Lib.hid True.intro
          have HT2 := Lib.hid True.intro
          go_wp2_with (at_builtin; first | (have ht := HT1.out; clear HT1 ht; go_loud (refine wpList_append_row slMap rfl _ _ rfl (v := .slice a1 m c1) (n := m) (xs := intCells (natInts ms)) rfl HRA.out (ad := ⟨w7.heap.size, 0, none⟩) (m := 1) (c := 1) (news := [.int .i64 x1]) rfl rfl (news_blk HBA.out) (by simp [Value.oneCell']) (by omega) (by omega) ?_; intro v1 w8 hown hC hf; obtain ⟨a8, c8, rfl⟩ := row.shape hown; have HR1 := Lib.hid hown; clear hown; have HC8 := Lib.hid hC; clear hC; have HF8 := Lib.hid hf; clear hf)) | (have ht := HT2.out; clear HT2 ht; go_loud (have hmB := (HMA.out.ch HC8.out (fun z hz hin => by have h1 := HM6.out z hz; have h2 := HO1.out z hin; omega)).ch ((Ch.refl [] w8).alloc (.cells #[.int .i64 x2] 3)) (by simp)); go_loud (refine wpList_append_any slMap rfl _ _ rfl (v := .slice (some ⟨w8.heap.size, 0, none⟩) 1 1) (n := 1) (xs := [.int .i64 x2]) rfl (lit1_row w8 _ _) (ad := ma) (m := m) (c := mc) (news := intCells (natInts ms)) rfl (by simp [intCells]; exact HML.out) (Sl.of_ints hmB (by omega)).news (cells_one _) (by omega) (by omega) ?_; intro v2 w9 hown hC hf; have HMB := Lib.hid hmB; clear hmB HMA; obtain ⟨a9, c9, rfl⟩ := row.shape hown; have HR2 := Lib.hid hown; clear hown; have HC9 := Lib.hid hC; clear hC; clear hf)))
          have hcB : Ch [] w8 (w8.alloc (.cells #[.int .i64 x2] 3)) := (Ch.refl _ _).alloc _
          have e9 : (Value.slice (some ⟨w8.heap.size, 0, none⟩) 1 1).ownBlock.toList = [w8.heap.size] := rfl
          have hc9 := HC9.out
          rw [e9] at hc9
          have hl1 : ∀ z, (Value.slice a8 (m + 1) c8).ownBlock = some z → z < w8.heap.size := fun z hz => (HR1.out.lt z hz).2
          have hc2 := HC.out.trans HCA.out (by simp)
          have hc3 := hc2.trans HC8.out (fun z hz => .inr (Nat.le_trans HSZ.out (HO1.out z hz)))
          have hz8 := hc3.size
          have hc4 := (hc3.trans hcB (by simp)).trans hc9 (fun z hz => .inr (by simp at hz; omega))
          have hr1 := (HR1.out.ch hcB (by simp)).ch hc9 (fun z hz => by have := hl1 z hz; simp; omega)
          have hs67 := HC67.out.size
          have hs78 := HC8.out.size
          have hm9 := HMB.out.ch hc9 (fun z hz => by have := HM6.out z hz; have h2 := HCA.out.size; simp; omega)
          have hr2 := HR2.out
          rw [show [Value.int .i64 x2] ++ intCells (natInts ms) = intCells ([x2] ++ natInts ms) by simp [intCells]] at hr2
          rw [show intCells (natInts ms) ++ [Value.int .i64 x1] = intCells (natInts ms ++ [x1]) by simp [intCells]] at hr1
          clear HC HCA HC8 HC9 HR1 HR2 HMB hcB e9 hc9 hl1 hc2 hc3 hz8 HRA HBA HO1 HMO7 HF8 HSZ HC67 hs67 hs78
          have HC := Lib.hid hc4; clear hc4
          have HR1 := Lib.hid hr1; clear hr1
          have HR2 := Lib.hid hr2; clear hr2
          have HM := Lib.hid hm9; clear hm9
          have hcm := CLmap_is (w := w9) m mc (by rw [natInts_len]; exact HML.out) (Sl.of_ints HM.out (by omega)) (by omega)
          have HX := Lib.hid hcm; clear hcm
          go_wp2_with fail
          refine HX.out.mono ?_
          rintro e w10 ⟨v, rfl, hr3, ho3, hcs⟩
          obtain ⟨a3, c3, rfl⟩ := row.shape hr3
          have hcA := hcs.alloc (.cells #[.int .i64 1, .int .i64 1] 3)
          have hrA := hr3.ch ((Ch.refl [] w10).alloc (.cells #[.int .i64 1, .int .i64 1] 3)) (by simp)
          have hbA : blk (w10.alloc (.cells #[.int .i64 1, .int .i64 1] 3)) w10.heap.size [.int .i64 1, .int .i64 1] := blk.new' _ _ rfl
          have hl1 : ∀ z, (Value.slice a8 (m + 1) c8).ownBlock = some z → z < w9.heap.size := fun z hz => (HR1.out.lt z hz).2
          have hl2 : ∀ z, (Value.slice a9 (1 + m) c9).ownBlock = some z → z < w9.heap.size := fun z hz => (HR2.out.lt z hz).2
          have hl3 : ∀ z, (Value.slice ma m mc).ownBlock = some z → z < w9.heap.size := fun z hz => (HM.out.lt z hz).2
          have HL := Lib.hid (And.intro hl1 (And.intro hl2 hl3)); clear hl1 hl2 hl3 HX
          have HCA := Lib.hid hcA; clear hcA hcs
          have HRA := Lib.hid hrA; clear hrA hr3
          have HBA := Lib.hid hbA; clear hbA
          have HO3 := Lib.hid ho3; clear ho3
          go_wp2_with (at_builtin; go_loud (refine wpList_append_row slMap rfl _ _ rfl (v := .slice a3 m c3) (n := m) (xs := intCells (natInts ms)) rfl HRA.out (ad := ⟨w10.heap.size, 0, none⟩) (m := 2) (c := 2) (news := [.int .i64 1, .int .i64 1]) rfl rfl (news_blk HBA.out) (by simp [Value.oneCell']) (by omega) (by omega) ?_; intro v1 w11 hown hC hf; obtain ⟨a11, c11, rfl⟩ := row.shape hown; have HR3 := Lib.hid hown; clear hown; have HC11 := Lib.hid hC; clear hC; clear hf))
          refine wp_named fun W3 hW3 => ?_
          have hb3 := alw_blk (xs := [.slice a8 (m + 1) c8, .slice a9 (1 + m) c9, .slice a11 (m + 2) c11]) hW3
          obtain ⟨hl1, hl2, hl3⟩ := HL.out
          have hc2 := HCA.out.trans HC11.out (fun z hz => .inr (HO3.out z hz))
          have hcw := alw_ch hW3
          have hr1 := (HR1.out.ch hc2 (by simp)).ch hcw (by simp)
          have hr2 := (HR2.out.ch hc2 (by simp)).ch hcw (by simp)
          have hmm := (HM.out.ch hc2 (by simp)).ch hcw (by simp)
          have hr3 := HR3.out
          rw [show intCells (natInts ms) ++ [Value.int .i64 1, Value.int .i64 1] = intCells (natInts ms ++ [1, 1]) by simp [intCells]] at hr3
          have hr4 := hr3.ch hcw (by simp)
          have hc4 := (HC.out.trans hc2 (by simp)).trans hcw (by simp)
          clear hW3 HL HCA HC11 HR1 HR2 HR3 HM HRA HBA HO3 HC hl1 hl2 hl3 hc2 hcw hr3
          generalize w11.heap.size = b5 at *
          have HB := Lib.hid hb3; clear hb3
          have HC := Lib.hid hc4; clear hc4
          have HR1 := Lib.hid hr1; clear hr1
          have HR2 := Lib.hid hr2; clear hr2
          have HR3 := Lib.hid hr4; clear hr4
          have HM := Lib.hid hmm; clear hmm
          go_loopw [142] (fun i wr => ∃ z : Nat, z ≤ 3 ∧ i = .int .i64 z ∧ Ch [] W3 wr) (fun i _ => 3 - (intOf i).toNat)
          case atStart => exact ⟨0, by omega, rfl, Ch.refl _ _⟩
          case round =>
            obtain ⟨z, hz, rfl, hc⟩ := hrel
            rcases (by omega : z = 0 ∨ z = 1 ∨ z = 2 ∨ z = 3) with rfl | rfl | rfl | rfl
            · have q0 := (HB.out.ch hc (by simp)).cell (i := 0) rfl
              have hmk1 := fun W => run_make_bools W q (by omega)
              have hmk2 : ∀ W : World, (Instr.makeSlice 56 (.int .i64 ((m : Int) + 1)) (.int .i64 ((m : Int) + 1))).run Try.prog W = .ok (.slice (some ⟨W.heap.size, 0, none⟩) (m + 1) (m + 1)) (W.alloc (.cells (bools (List.replicate (m + 1) false)).toArray 4)) := fun W => by
                have h := run_make_bools W (m + 1) (by omega)
                rwa [show (((m + 1) : Nat) : Int) = (m : Int) + 1 by omega] at h
              have HCZ := Lib.hid hc; clear hc
              go_wp2_with fail
              refine calls_named fun W4 hW4 => ?_
              have hb4 := alw_blk (xs := bools (List.replicate q false)) hW4
              have hc4 := HCZ.out.trans (alw_ch hW4) (by simp)
              clear hW4 HCZ
              have HX := Lib.hid (HMO.out W4 a8 (m + 1) c8 (natInts ms ++ [x1]) (HC.out.trans hc4 (by simp)) (HR1.out.ch hc4 (by simp)) (by omega) HB1.out (some ⟨wr.heap.size, 0, none⟩) (List.replicate q false) q q (by simp) (Sv.of_blk hb4 (by simp; omega)) (by omega))
              have HCZ := Lib.hid hc4; clear hc4 hb4
              try go_wp2_with fail
              refine HX.out.mono ?_
              rintro e w12 ⟨v, rfl, hbn⟩
              have hc5 := HCZ.out.trans hbn.2.2 (by simp)
              clear HX HCZ hbn
              have HCZ := Lib.hid hc5; clear hc5
              go_wp2_with fail
              refine calls_named fun W4 hW4 => ?_
              have hb4 := alw_blk (xs := bools (List.replicate (m + 1) false)) hW4
              have hc4 := HCZ.out.trans (alw_ch hW4) (by simp)
              clear hW4 HCZ
              have HX := Lib.hid (HIS.out W4 a8 (m + 1) c8 (natInts ms ++ [x1]) (HC.out.trans hc4 (by simp)) (HR1.out.ch hc4 (by simp)) (by omega) HB1.out (some ⟨w12.heap.size, 0, none⟩) (List.replicate (m + 1) false) (m + 1) (m + 1) (by simp) (Sv.of_blk hb4 (by simp; omega)) (by omega))
              have HCZ := Lib.hid hc4; clear hc4 hb4
              try go_wp2_with fail
              refine HX.out.mono ?_
              rintro e w13 ⟨v3, rfl, hbn⟩
              have hc5 := HCZ.out.trans hbn.2.2 (by simp)
              clear HX HCZ hbn
              have HX := Lib.hid (HRG.out w13 a8 (m + 1) c8 (natInts ms ++ [x1]) (HC.out.trans hc5 (by simp)) (HR1.out.ch hc5 (by simp)) (by omega) HB1.out)
              have HCZ := Lib.hid hc5; clear hc5
              go_wp2_with fail
              refine HX.out.mono ?_
              rintro e w14 ⟨rfl, hcs⟩
              have hc5 := HCZ.out.trans hcs (by simp)
              clear HX HCZ hcs
              have HCZ := Lib.hid hc5; clear hc5
              go_wp2_with fail
              go_roundw
              case rel => exact ⟨1, by omega, by go_num, HCZ.out⟩
              case measure => simp [intOf]
            · have q0 := (HB.out.ch hc (by simp)).cell (i := 1) rfl
              have hmk1 := fun W => run_make_bools W q (by omega)
              have hmk2 : ∀ W : World, (Instr.makeSlice 56 (.int .i64 (1 + (m : Int))) (.int .i64 (1 + (m : Int)))).run Try.prog W = .ok (.slice (some ⟨W.heap.size, 0, none⟩) (1 + m) (1 + m)) (W.alloc (.cells (bools (List.replicate (1 + m) false)).toArray 4)) := fun W => by
                have h := run_make_bools W (1 + m) (by omega)
                rwa [show (((1 + m) : Nat) : Int) = 1 + (m : Int) by omega] at h
              have HCZ := Lib.hid hc; clear hc
              go_wp2_with fail
              refine calls_named fun W4 hW4 => ?_
              have hb4 := alw_blk (xs := bools (List.replicate q false)) hW4
              have hc4 := HCZ.out.trans (alw_ch hW4) (by simp)
              clear hW4 HCZ
              have HX := Lib.hid (HMO.out W4 a9 (1 + m) c9 ([x2] ++ natInts ms) (HC.out.trans hc4 (by simp)) (HR2.out.ch hc4 (by simp)) (by omega) HB2.out (some ⟨wr.heap.size, 0, none⟩) (List.replicate q false) q q (by simp) (Sv.of_blk hb4 (by simp; omega)) (by omega))
              have HCZ := Lib.hid hc4; clear hc4 hb4
              try go_wp2_with fail
              refine HX.out.mono ?_
              rintro e w12 ⟨v, rfl, hbn⟩
              have hc5 := HCZ.out.trans hbn.2.2 (by simp)
              clear HX HCZ hbn
              have HCZ := Lib.hid hc5; clear hc5
              go_wp2_with fail
              refine calls_named fun W4 hW4 => ?_
              have hb4 := alw_blk (xs := bools (List.replicate (1 + m) false)) hW4
              have hc4 := HCZ.out.trans (alw_ch hW4) (by simp)
              clear hW4 HCZ
              have HX := Lib.hid (HIS.out W4 a9 (1 + m) c9 ([x2] ++ natInts ms) (HC.out.trans hc4 (by simp)) (HR2.out.ch hc4 (by simp)) (by omega) HB2.out (some ⟨w12.heap.size, 0, none⟩) (List.replicate (1 + m) false) (1 + m) (1 + m) (by simp) (Sv.of_blk hb4 (by simp; omega)) (by omega))
              have HCZ := Lib.hid hc4; clear hc4 hb4
              try go_wp2_with fail
              refine HX.out.mono ?_
              rintro e w13 ⟨v3, rfl, hbn⟩
              have hc5 := HCZ.out.trans hbn.2.2 (by simp)
              clear HX HCZ hbn
              have HX := Lib.hid (HRG.out w13 a9 (1 + m) c9 ([x2] ++ natInts ms) (HC.out.trans hc5 (by simp)) (HR2.out.ch hc5 (by simp)) (by omega) HB2.out)
              have HCZ := Lib.hid hc5; clear hc5
              go_wp2_with fail
              refine HX.out.mono ?_
              rintro e w14 ⟨rfl, hcs⟩
              have hc5 := HCZ.out.trans hcs (by simp)
              clear HX HCZ hcs
              have HCZ := Lib.hid hc5; clear hc5
              go_wp2_with fail
              go_roundw
              case rel => exact ⟨2, by omega, by go_num, HCZ.out⟩
              case measure => simp [intOf]
            · have q0 := (HB.out.ch hc (by simp)).cell (i := 2) rfl
              have hmk1 := fun W => run_make_bools W q (by omega)
              have hmk2 : ∀ W : World, (Instr.makeSlice 56 (.int .i64 ((m : Int) + 2)) (.int .i64 ((m : Int) + 2))).run Try.prog W = .ok (.slice (some ⟨W.heap.size, 0, none⟩) (m + 2) (m + 2)) (W.alloc (.cells (bools (List.replicate (m + 2) false)).toArray 4)) := fun W => by
                have h := run_make_bools W (m + 2) (by omega)
                rwa [show (((m + 2) : Nat) : Int) = (m : Int) + 2 by omega] at h
              have HCZ := Lib.hid hc; clear hc
              go_wp2_with fail
              refine calls_named fun W4 hW4 => ?_
              have hb4 := alw_blk (xs := bools (List.replicate q false)) hW4
              have hc4 := HCZ.out.trans (alw_ch hW4) (by simp)
              clear hW4 HCZ
              have HX := Lib.hid (HMO.out W4 a11 (m + 2) c11 (natInts ms ++ [1, 1]) (HC.out.trans hc4 (by simp)) (HR3.out.ch hc4 (by simp)) (by omega) HB3.out (some ⟨wr.heap.size, 0, none⟩) (List.replicate q false) q q (by simp) (Sv.of_blk hb4 (by simp; omega)) (by omega))
              have HCZ := Lib.hid hc4; clear hc4 hb4
              try go_wp2_with fail
              refine HX.out.mono ?_
              rintro e w12 ⟨v, rfl, hbn⟩
              have hc5 := HCZ.out.trans hbn.2.2 (by simp)
              clear HX HCZ hbn
              have HCZ := Lib.hid hc5; clear hc5
              go_wp2_with fail
              refine calls_named fun W4 hW4 => ?_
              have hb4 := alw_blk (xs := bools (List.replicate (m + 2) false)) hW4
              have hc4 := HCZ.out.trans (alw_ch hW4) (by simp)
              clear hW4 HCZ
              have HX := Lib.hid (HIS.out W4 a11 (m + 2) c11 (natInts ms ++ [1, 1]) (HC.out.trans hc4 (by simp)) (HR3.out.ch hc4 (by simp)) (by omega) HB3.out (some ⟨w12.heap.size, 0, none⟩) (List.replicate (m + 2) false) (m + 2) (m + 2) (by simp) (Sv.of_blk hb4 (by simp; omega)) (by omega))
              have HCZ := Lib.hid hc4; clear hc4 hb4
              try go_wp2_with fail
              refine HX.out.mono ?_
              rintro e w13 ⟨v3, rfl, hbn⟩
              have hc5 := HCZ.out.trans hbn.2.2 (by simp)
              clear HX HCZ hbn
              have HX := Lib.hid (HRG.out w13 a11 (m + 2) c11 (natInts ms ++ [1, 1]) (HC.out.trans hc5 (by simp)) (HR3.out.ch hc5 (by simp)) (by omega) HB3.out)
              have HCZ := Lib.hid hc5; clear hc5
              go_wp2_with fail
              refine HX.out.mono ?_
              rintro e w14 ⟨rfl, hcs⟩
              have hc5 := HCZ.out.trans hcs (by simp)
              clear HX HCZ hcs
              have HCZ := Lib.hid hc5; clear hc5
              go_wp2_with fail
              go_roundw
              case rel => exact ⟨3, by omega, by go_num, HCZ.out⟩
              case measure => simp [intOf]
            · rw [show ((3 : Nat) : Int) = 3 from rfl]
              have hm14 := HM.out.ch hc (by simp)
              have hc14 := HC.out.trans hc (by simp)
              clear hc HB HR1 HR2 HR3 HB1 HB2 HB3 HMO HIS HRG HC HM
              have HM := Lib.hid hm14; clear hm14
              have HC := Lib.hid hc14; clear hc14
              have hmk : ∀ W : World, (Instr.makeSlice 56 (.int .i64 ((q : Int) + 1)) (.int .i64 ((q : Int) + 1))).run Try.prog W = .ok (.slice (some ⟨W.heap.size, 0, none⟩) (q + 1) (q + 1)) (W.alloc (.cells (bools (List.replicate (q + 1) false)).toArray 4)) := fun W => by
                have h := run_make_bools W (q + 1) (by omega)
                rwa [show (((q + 1) : Nat) : Int) = (q : Int) + 1 by omega] at h
              go_wp2_with fail
              refine calls_named fun W4 hW4 => ?_
              have hb4 := alw_blk (xs := bools (List.replicate (q + 1) false)) hW4
              have hc4 := HC.out.trans (alw_ch hW4) (by simp)
              have hm4 := HM.out.ch (alw_ch hW4) (by simp)
              clear hW4 HC HM hmk
              have HX := Lib.hid (HM2.out W4 ma mc hc4 hm4 (some ⟨wr.heap.size, 0, none⟩) (q + 1) (Sv.of_blk hb4 (by simp; omega)))
              have HM := Lib.hid hm4; clear hm4
              have HC := Lib.hid hc4; clear hc4 hb4
              try go_wp2_with fail
              refine HX.out.mono ?_
              rintro e w15 ⟨v1, rfl, hbn⟩
              have hm4 := HM.out.ch hbn.2.2 (by simp)
              have hc4 := HC.out.trans hbn.2.2 (by simp)
              clear HX HM HC
              have HM := Lib.hid hm4; clear hm4
              have HC := Lib.hid hc4; clear hc4
              clear hbn
              have hmk : ∀ W : World, (Instr.makeSlice 56 (.int .i64 ((m : Int) + 1)) (.int .i64 ((m : Int) + 1))).run Try.prog W = .ok (.slice (some ⟨W.heap.size, 0, none⟩) (m + 1) (m + 1)) (W.alloc (.cells (bools (List.replicate (m + 1) false)).toArray 4)) := fun W => by
                have h := run_make_bools W (m + 1) (by omega)
                rwa [show (((m + 1) : Nat) : Int) = (m : Int) + 1 by omega] at h
              go_wp2_with fail
              refine calls_named fun W4 hW4 => ?_
              have hb4 := alw_blk (xs := bools (List.replicate (m + 1) false)) hW4
              have hc4 := HC.out.trans (alw_ch hW4) (by simp)
              have hm4 := HM.out.ch (alw_ch hW4) (by simp)
              clear hW4 HC HM hmk
              have HX := Lib.hid (HI2.out W4 ma mc hc4 hm4 (some ⟨w15.heap.size, 0, none⟩) (m + 1) (Sv.of_blk hb4 (by simp; omega)))
              have HM := Lib.hid hm4; clear hm4
              have HC := Lib.hid hc4; clear hc4 hb4
              try go_wp2_with fail
              refine HX.out.mono ?_
              rintro e w16 ⟨v2, rfl, hbn⟩
              have hm4 := HM.out.ch hbn.2.2 (by simp)
              have hc4 := HC.out.trans hbn.2.2 (by simp)
              clear HX HM HC
              have HM := Lib.hid hm4; clear hm4
              have HC := Lib.hid hc4; clear hc4
              clear hbn
              have hmk : ∀ W : World, (Instr.makeSlice 56 (.int .i64 ((m : Int))) (.int .i64 ((m : Int)))).run Try.prog W = .ok (.slice (some ⟨W.heap.size, 0, none⟩) (m) (m)) (W.alloc (.cells (bools (List.replicate (m) false)).toArray 4)) := fun W => by
                have h := run_make_bools W (m) (by omega)
                rwa [show (((m) : Nat) : Int) = (m : Int) by omega] at h
              go_wp2_with fail
              refine calls_named fun W4 hW4 => ?_
              have hb4 := alw_blk (xs := bools (List.replicate (m) false)) hW4
              have hc4 := HC.out.trans (alw_ch hW4) (by simp)
              have hm4 := HM.out.ch (alw_ch hW4) (by simp)
              clear hW4 HC HM hmk
              have HX := Lib.hid (HI3.out W4 ma mc hc4 hm4 (some ⟨w16.heap.size, 0, none⟩) (m) (Sv.of_blk hb4 (by simp; omega)))
              have HM := Lib.hid hm4; clear hm4
              have HC := Lib.hid hc4; clear hc4 hb4
              try go_wp2_with fail
              refine HX.out.mono ?_
              rintro e w17 ⟨v3, rfl, hbn⟩
              have hm4 := HM.out.ch hbn.2.2 (by simp)
              have hc4 := HC.out.trans hbn.2.2 (by simp)
              clear HX HM HC
              have HM := Lib.hid hm4; clear hm4
              have HC := Lib.hid hc4; clear hc4
              obtain ⟨va, vc, rfl⟩ := row.shape hbn.1
              have hrb := hbn.1
              rw [List.length_replicate] at hrb
              rw [List.length_replicate]
              have hco := CObool_no (w := w17) (a := va) (l := List.replicate q false) q vc (by simp) (by omega) (row.sv hrb rfl (by omega)) true (fun x hx => by rw [(List.mem_replicate.1 hx).2]; rfl)
              clear hbn hrb
              have HX := Lib.hid hco; clear hco
              go_wp2_with fail
              refine HX.out.mono ?_
              rintro e w18 ⟨rfl, rfl⟩
              go_wp2_with fail
              go_ret
              exact ⟨by simp, (HC1.out.trans HC12.out (by simp)).trans HC.out (by simp)⟩
theorem TseitinWrong_walk {w : World} {a : Option Addr} {n cap : Nat} {l : List N21} (hS : NodeS w a n cap l) {xa : Option Addr} {xn xc : Nat} {ys : List Nat} (hU : NumS .u8 8 w xa xn xc ys) (o : Int) (h : (Lit.int .i64 o).wf) :
    Calls Try.prog 6 #[.slice a n cap, .slice xa xn xc, .int .i64 o] w fun e w' => e = .returned (.bool true) ∧ Ch [] w w' :=
  TseitinWrong_core hS hU o (by simpa [Lit.wf, IntKind.min, IntKind.max, IntKind.signed, IntKind.bits] using h)
end
end Go.Proofs.Ytkedpifopclipaa
