/-
  Walks over the reference's Depths, All, Any, and over the law's refs. Conditions: a graph that can be read; a slice that can be read.
-/
import Derived.Test.YtnajonchjlplmaaQR5
namespace Go.Aig
def rAllFrom (G0 : Gra) : Gra → Nat → List Nat → Res
  | now, out, [] => (now, out, 0)
  | now, out, r :: l => if (and now out r).2.2 ≠ 0 then (G0, 0, (and now out r).2.2) else rAllFrom G0 (and now out r).1 (and now out r).2.1 l
def rAll (G : Gra) (l : List Nat) : Res := rAllFrom G G 1 l
def rAny (G : Gra) (l : List Nat) : Res := if (rAll G (l.map neg)).2.2 ≠ 0 then (G, 0, (rAll G (l.map neg)).2.2) else ((rAll G (l.map neg)).1, neg (rAll G (l.map neg)).2.1, 0)
theorem rAllFrom_rok {G0 : Gra} (h0 : Ok G0) : ∀ (l : List Nat) {G : Gra} {out : Nat}, Ok G → Ext G0 G → out < 2 * G.nodes.length → (∀ r ∈ l, r < 2 * G.nodes.length) → ROk G0 (rAllFrom G0 G out l)
  | [], G, out, h, he, ho, _ => ⟨h, he, ho, .inl rfl⟩
  | r :: l, G, out, h, he, ho, hl => by
    have h1 := and_rok h ho (hl r (by simp))
    have := h0.wf.pos
    unfold rAllFrom
    split
    · exact ⟨h0, .refl _, by show 0 < 2 * G0.nodes.length; omega, h1.err⟩
    · exact rAllFrom_rok h0 l h1.ok (he.trans h1.ext) h1.lt (fun x hx => h1.ext.lt (hl x (by simp [hx])))
theorem rAll_rok {G : Gra} (h : Ok G) {l : List Nat} (hl : ∀ r ∈ l, r < 2 * G.nodes.length) : ROk G (rAll G l) := rAllFrom_rok h l h (.refl _) (by have := h.wf.pos; omega) hl
theorem negs_lt {n : Nat} {l : List Nat} (hl : ∀ r ∈ l, r < 2 * n) : ∀ r ∈ l.map neg, r < 2 * n := fun r hr => by
  obtain ⟨q, hq, rfl⟩ := List.mem_map.1 hr
  exact neg_lt (hl q hq)
theorem rAny_rok {G : Gra} (h : Ok G) {l : List Nat} (hl : ∀ r ∈ l, r < 2 * G.nodes.length) : ROk G (rAny G l) := by
  have h1 := rAll_rok h (negs_lt hl)
  have := h.wf.pos
  unfold rAny
  split
  · exact ⟨h, .refl _, by show 0 < 2 * G.nodes.length; omega, h1.err⟩
  · exact ⟨h1.ok, h1.ext, neg_lt h1.lt, .inl rfl⟩
/-- of several, one after the other -/
theorem rAllFrom_step {G0 now : Gra} {out r : Nat} {l : List Nat} : rAllFrom G0 now out (r :: l) = if (and now out r).2.2 ≠ 0 then (G0, 0, (and now out r).2.2) else rAllFrom G0 (and now out r).1 (and now out r).2.1 l := rfl
end Go.Aig
namespace Go.Proofs.Ytnajonchjlplmaa
open Go.RowKit Go.Mem Go.Aig
def intCells (l : List Int) : List Value := l.map fun z => .int .i64 z
theorem intCells_nat (l : List Nat) : intCells (l.map fun (r : Nat) => (r : Int)) = refsCells l := by unfold intCells refsCells; rw [List.map_map]; rfl
section
set_option maxRecDepth 100000 in
set_option maxHeartbeats 2000000 in
theorem refs20_is {w : World} {a : Option Addr} {l : List Int} (n cap : Nat) (hn : l.length = n) (h : Sl w a l) (hm : n ≤ 1000000) : Calls Try.prog 74 #[.slice a n cap] w fun e w' => ∃ v, e = .returned v ∧ row w' 33 1 v n (intCells l) ∧ (∀ q ∈ v.ownBlock.toList, w.heap.size ≤ q) ∧ Ch [] w w' := by
  subst hn
  have H := Lib.hid h; clear h
  go_enter Try.func74, Try.ntmps74
  go_wp2_with fail
  go_loopw [3, 8] (fun o i wr => ∃ k : Nat, k ≤ l.length ∧ i = .int .i64 k ∧ Ch [] w wr ∧ row wr 33 1 o k (intCells (l.take k)) ∧ ∀ q ∈ o.ownBlock.toList, w.heap.size ≤ q) (fun _ i _ => l.length - (intOf i).toNat)
  case atStart => exact ⟨0, by omega, rfl, Ch.refl _ _, ⟨rfl, .inl ⟨rfl, rfl⟩⟩, by simp⟩
  case round =>
    obtain ⟨k, hk, rfl, hc, hrow, hlo⟩ := hrel
    obtain ⟨oa, oc, rfl⟩ := row.shape hrow
    by_cases hlt : k < l.length
    · obtain ⟨x, hx⟩ : ∃ x, l[k]? = some x := ⟨_, List.getElem?_eq_getElem hlt⟩
      have hsu : intCells (l.take (k + 1)) = intCells (l.take k) ++ [.int .i64 x] := by unfold intCells; rw [List.take_add_one, hx]; simp
      obtain ⟨xb, xo, rfl, hcl⟩ := H.out.cells k x hx
      have c0 := (hc.cell (cell_lt hcl) (by simp)).trans hcl
      have HSU := Lib.hid hsu; clear hsu hx hcl
      have hcA : Ch [] wr (wr.alloc (.cells #[.int .i64 x] 33)) := (Ch.refl _ _).alloc _
      have hrA := hrow.ch hcA (by simp)
      have hbA : blk (wr.alloc (.cells #[.int .i64 x] 33)) wr.heap.size [.int .i64 x] := blk.new' _ _ rfl
      have HRA := Lib.hid hrA; clear hrA hrow
      have HBA := Lib.hid hbA; clear hbA
      have HCA := Lib.hid hcA; clear hcA
      have HC := Lib.hid hc; clear hc
      have HLO := Lib.hid hlo; clear hlo
      go_wp2_with (at_builtin; go_loud (refine wpList_append_row slRefs rfl _ _ rfl (v := .slice oa k oc) (n := k) (xs := intCells (l.take k)) rfl HRA.out (ad := ⟨wr.heap.size, 0, none⟩) (m := 1) (c := 1) (news := [.int .i64 x]) rfl rfl (news_blk HBA.out) (by simp [Value.oneCell']) (by omega) (by omega) ?_; intro v' w4 hown4 hC4 hf4; have HO4 := Lib.hid hown4; clear hown4; have HC4 := Lib.hid hC4; clear hC4; have HF4 := Lib.hid hf4; clear hf4))
      go_roundw
      case rel =>
        obtain ⟨q1, q2⟩ := app_step HC.out HCA.out HLO.out HC4.out HF4.out
        refine ⟨k + 1, by omega, by go_num, q1, ?_, q2⟩
        rw [HSU.out]; exact HO4.out
      case measure => simp [intOf]; omega
    · have hkn : k = l.length := by omega
      rw [hkn, List.take_of_length_le (Nat.le_refl _)] at hrow
      rw [hkn] at hlo
      rw [hkn]
      have HROW := Lib.hid hrow; clear hrow
      have HLO := Lib.hid hlo; clear hlo
      have HC := Lib.hid hc; clear hc hkn
      go_wp2_with fail
      go_ret
      exact ⟨.slice oa l.length oc, rfl, HROW.out, HLO.out, HC.out⟩
set_option maxRecDepth 100000 in
set_option maxHeartbeats 2000000 in
theorem rDepths_is {w : World} {rb cap : Nat} {G : Gra} (h : RG w rb cap G) : Calls Try.prog 85 #[.agg #[.int .i64 G.most, .slice (some ⟨rb, 0, none⟩) G.nodes.length cap]] w fun e w' => ∃ v, e = .returned v ∧ row w' 3 1 v G.nodes.length (refsCells (G.nodes.map Nd.d)) ∧ (∀ q ∈ v.ownBlock.toList, w.heap.size ≤ q) ∧ Ch [] w w' := by
  obtain ⟨hl, hp, hmo⟩ := h.len
  have hle := h.le
  have hmx := h.mx
  have H := Lib.hid h; clear h
  go_enter Try.func85, Try.ntmps85
  go_wp2_with fail
  refine wp_alw ?_
  intro W0 hW0
  have hc0 : Ch [] w W0 := by rw [hW0]; exact (Ch.refl _ _).alloc _
  have b2 : blk W0 w.heap.size [.int .i64 G.most, .slice (some ⟨rb, 0, none⟩) G.nodes.length cap] := by rw [hW0]; exact blk.new' (w := w) [.int .i64 G.most, .slice (some ⟨rb, 0, none⟩) G.nodes.length cap] 105 rfl
  clear hW0
  have hr0 := H.out.ch hc0 (by simp)
  have B2 := Lib.hid b2; clear b2
  have HC0 := Lib.hid hc0; clear hc0
  have HR0 := Lib.hid hr0; clear hr0
  go_loopw [3, 4] (fun o i wr => ∃ k : Nat, k ≤ G.nodes.length ∧ i = .int .i64 k ∧ Ch [] W0 wr ∧ row wr 3 1 o k (refsCells ((G.nodes.take k).map Nd.d)) ∧ ∀ q ∈ o.ownBlock.toList, W0.heap.size ≤ q) (fun _ i _ => G.nodes.length - (intOf i).toNat)
  case atStart => exact ⟨0, by omega, rfl, Ch.refl _ _, ⟨rfl, .inl ⟨rfl, rfl⟩⟩, by simp⟩
  case round =>
    obtain ⟨k, hk, rfl, hc, hrow, hlo⟩ := hrel
    obtain ⟨oa, oc, rfl⟩ := row.shape hrow
    have y1 := (B2.out.ch hc (by simp)).cell (i := 1) rfl
    by_cases hlt : k < G.nodes.length
    · obtain ⟨x, hx⟩ : ∃ x, G.nodes[k]? = some x := ⟨_, List.getElem?_eq_getElem hlt⟩
      obtain ⟨c0, c1, c2⟩ := (HR0.out.ch hc (by simp)).node hx
      have hsu : refsCells ((G.nodes.take (k + 1)).map Nd.d) = refsCells ((G.nodes.take k).map Nd.d) ++ [.int .i64 x.d] := by unfold refsCells; rw [List.take_add_one, hx]; simp
      have HSU := Lib.hid hsu; clear hsu
      have HLO := Lib.hid hlo; clear hlo
      have HC := Lib.hid hc; clear hc
      have hcA : Ch [] wr (wr.alloc (.cells #[.int .i64 x.k, .int .i64 x.l, .int .i64 x.r] 122)) := (Ch.refl _ _).alloc _
      have HCA := Lib.hid hcA; clear hcA
      by_cases h3 : x.k = 3
      · obtain ⟨s1, s2, s3, s4, s5⟩ := HR0.out.ok.wf.sides hx h3
        have q : ((x.k : Int) == 3) = true := by simp [h3]
        clear HCA h3
        go_wp2_with fail
        refine wp_alw ?_
        intro W1 hW1
        have hc1 : Ch [] wr W1 := by rw [hW1]; exact (Ch.refl _ _).alloc _
        have b6 : blk W1 wr.heap.size [.int .i64 x.k, .int .i64 x.l, .int .i64 x.r] := by rw [hW1]; exact blk.new' [.int .i64 x.k, .int .i64 x.l, .int .i64 x.r] 122 rfl
        clear hW1
        have hsl := Sl.of_row' (hrow.ch hc1 (by simp)) (by rw [List.length_map, List.length_take]; omega) (by omega)
        have hget : ∀ r, r < 2 * k → ((G.nodes.take k).map Nd.d)[r / 2]? = some (dep G.nodes r) := fun r hr => by
          rw [List.getElem?_map, List.getElem?_take, if_pos (by omega)]
          unfold dep
          rw [List.getElem?_eq_getElem (by omega)]
          rfl
        obtain ⟨lb, lo, rfl, e1⟩ := hsl.cells (x.l / 2) (dep G.nodes x.l) (by rw [List.getElem?_map, hget x.l (by omega)]; rfl)
        obtain ⟨_, _, he2, e2⟩ := hsl.cells (x.r / 2) (dep G.nodes x.r) (by rw [List.getElem?_map, hget x.r (by omega)]; rfl)
        cases he2
        have n0 := b6.cell (i := 0) rfl
        have n1 := b6.cell (i := 1) rfl
        have n2 := b6.cell (i := 2) rfl
        have hdb1 : dep G.nodes x.l < G.nodes.length := HR0.out.ok.wf.dep_le (by omega)
        have hdb2 : dep G.nodes x.r < G.nodes.length := HR0.out.ok.wf.dep_le (by omega)
        clear hget hsl hx b6
        have HS5 := Lib.hid s5; clear s5
        generalize dep G.nodes x.l = dl at *
        generalize dep G.nodes x.r = dr at *
        obtain ⟨M, hM⟩ : ∃ M, max dl dr = M := ⟨_, rfl⟩
        have hmxx : ∀ (ats : Array TypeId) (ty : TypeId), Builtin.max_ ats ty #[.int .i64 (dl : Int), .int .i64 (dr : Int)] = pure (.int .i64 (M : Nat)) := fun ats ty => max_nat' dl dr M hM ats ty
        have hMb : M < 65536 := by omega
        have hxd : x.d = 1 + M := by rw [HS5.out, hM]
        have hsu := HSU.out
        rw [hxd] at hsu
        have HSU2 := Lib.hid hsu; clear hsu HSU
        clear hxd HS5 hM hdb1 hdb2
        have j1 : (x.l : Int) / 2 < (k : Int) := by omega
        have j2 : (x.r : Int) / 2 < (k : Int) := by omega
        have hrow1 := hrow.ch hc1 (by simp)
        have HROW := Lib.hid hrow1; clear hrow1 hrow
        have HC1 := Lib.hid hc1; clear hc1
        refine Ord.St.door (fun _ => True) [.fl, .fl, .rd, .fl, .fl, .rd, .fl, .fl, .rd, .fl, .fl, .rd, .fl, .fl, .fl] [0, 0, 2, 6, 15, 31, 0, 0, 128, 384, 960, 1984, 4095, 8191, 16383] [0, 1, 2, 3, 4, 5, 6, 7, 8, 9, 10, 11, 12, 13, 14] mixed (by kernel_rfl) rfl ?_
        refine Ord.St.fl2 (T' := ?_) 0 [1, 2, 3, 4, 5, 6, 7, 8, 9, 10, 11, 12, 13, 14] _ _ rfl (by kernel_rfl) rfl rfl rfl rfl (fun K w' hk => ?_) ?_
        rotate_left
        · go_step; exact hk
        refine Ord.St.fl2 (T' := ?_) 1 [2, 3, 4, 5, 6, 7, 8, 9, 10, 11, 12, 13, 14] _ _ rfl (by kernel_rfl) rfl rfl rfl rfl (fun K w' hk => ?_) ?_
        rotate_left
        · go_step; exact hk
        refine Ord.St.rd2 (T' := ?_) 2 [3, 4, 5, 6, 7, 8, 9, 10, 11, 12, 13, 14] _ _ rfl (by kernel_rfl) rfl rfl rfl rfl (fun K hk => ?_) ?_
        rotate_left
        · go_step; exact hk
        refine Ord.St.fl2 (T' := ?_) 3 [4, 5, 6, 7, 8, 9, 10, 11, 12, 13, 14] _ _ rfl (by kernel_rfl) rfl rfl rfl rfl (fun K w' hk => ?_) ?_
        rotate_left
        · go_step; exact hk
        refine Ord.St.fl2 (T' := ?_) 4 [5, 6, 7, 8, 9, 10, 11, 12, 13, 14] _ _ rfl (by kernel_rfl) rfl rfl rfl rfl (fun K w' hk => ?_) ?_
        rotate_left
        · go_step; exact hk
        refine Ord.St.rd2 (T' := ?_) 5 [6, 7, 8, 9, 10, 11, 12, 13, 14] _ _ rfl (by kernel_rfl) rfl rfl rfl rfl (fun K hk => ?_) ?_
        rotate_left
        · go_step; exact hk
        refine Ord.St.fl2 (T' := ?_) 6 [7, 8, 9, 10, 11, 12, 13, 14] _ _ rfl (by kernel_rfl) rfl rfl rfl rfl (fun K w' hk => ?_) ?_
        rotate_left
        · go_step; exact hk
        refine Ord.St.fl2 (T' := ?_) 7 [8, 9, 10, 11, 12, 13, 14] _ _ rfl (by kernel_rfl) rfl rfl rfl rfl (fun K w' hk => ?_) ?_
        rotate_left
        · go_step; exact hk
        refine Ord.St.rd2 (T' := ?_) 8 [9, 10, 11, 12, 13, 14] _ _ rfl (by kernel_rfl) rfl rfl rfl rfl (fun K hk => ?_) ?_
        rotate_left
        · go_step; exact hk
        refine Ord.St.fl2 (T' := ?_) 9 [10, 11, 12, 13, 14] _ _ rfl (by kernel_rfl) rfl rfl rfl rfl (fun K w' hk => ?_) ?_
        rotate_left
        · go_step; exact hk
        refine Ord.St.fl2 (T' := ?_) 10 [11, 12, 13, 14] _ _ rfl (by kernel_rfl) rfl rfl rfl rfl (fun K w' hk => ?_) ?_
        rotate_left
        · go_step; exact hk
        refine Ord.St.rd2 (T' := ?_) 11 [12, 13, 14] _ _ rfl (by kernel_rfl) rfl rfl rfl rfl (fun K hk => ?_) ?_
        rotate_left
        · go_step; exact hk
        refine Ord.St.fl2 (T' := ?_) 12 [13, 14] _ _ rfl (by kernel_rfl) rfl rfl rfl rfl (fun K w' hk => ?_) ?_
        rotate_left
        · go_step; exact hk
        refine Ord.St.fl2 (T' := ?_) 13 [14] _ _ rfl (by kernel_rfl) rfl rfl rfl rfl (fun K w' hk => ?_) ?_
        rotate_left
        · go_step; exact hk
        refine Ord.St.fl2 (T' := ?_) 14 [] _ _ rfl (by kernel_rfl) rfl rfl rfl rfl (fun K w' hk => ?_) ?_
        rotate_left
        · go_step; exact hk
        refine Ord.St.nil ?_
        have hcA : Ch [] W1 ((W1.alloc (.cells #[.int .i64 (1 + (M : Int))] 3)).drew) := ((Ch.refl _ _).alloc _).drew
        have hrA := HROW.out.ch hcA (by simp)
        have hbA : blk ((W1.alloc (.cells #[.int .i64 (1 + (M : Int))] 3)).drew) W1.heap.size [.int .i64 (1 + (M : Int))] := (blk.new' _ _ rfl).drew
        have HRA := Lib.hid hrA; clear hrA HROW
        have HBA := Lib.hid hbA; clear hbA
        have HCA := Lib.hid hcA; clear hcA
        go_wp2_with (at_builtin; go_loud (refine wpList_append_row slInts rfl _ _ rfl (v := .slice (some ⟨lb, lo, none⟩) k oc) (n := k) (xs := refsCells ((G.nodes.take k).map Nd.d)) rfl HRA.out (ad := ⟨W1.heap.size, 0, none⟩) (m := 1) (c := 1) (news := [.int .i64 (1 + (M : Int))]) rfl rfl (news_blk HBA.out) (by simp [Value.oneCell']) (by omega) (by omega) ?_; intro v' w4 hown4 hC4 hf4; have HO4 := Lib.hid hown4; clear hown4; have HC4 := Lib.hid hC4; clear hC4; have HF4 := Lib.hid hf4; clear hf4))
        go_roundw
        case rel =>
          obtain ⟨q1, q2⟩ := app_step HC.out (HC1.out.trans HCA.out (by simp)) HLO.out HC4.out HF4.out
          refine ⟨k + 1, by omega, by go_num, q1, ?_, q2⟩
          rw [HSU2.out]; simpa using HO4.out
        case measure => simp [intOf]; omega
      · have q : ((x.k : Int) == 3) = false := by simp; omega
        have hd0 := leaf_d HR0.out.ok.wf hx h3
        have hsu := HSU.out
        rw [hd0] at hsu
        have HSU2 := Lib.hid hsu; clear hsu HSU hd0 hx h3
        have hc2 : Ch [] wr ((wr.alloc (.cells #[.int .i64 x.k, .int .i64 x.l, .int .i64 x.r] 122)).alloc (.cells #[.int .i64 0] 3)) := ((Ch.refl _ _).alloc _).alloc _
        have hrA := hrow.ch hc2 (by simp)
        have hbA : blk ((wr.alloc (.cells #[.int .i64 x.k, .int .i64 x.l, .int .i64 x.r] 122)).alloc (.cells #[.int .i64 0] 3)) (wr.heap.size + 1) [.int .i64 0] := blk.new' _ _ (by simp)
        have HRA := Lib.hid hrA; clear hrA hrow
        have HBA := Lib.hid hbA; clear hbA
        have HC2 := Lib.hid hc2; clear hc2
        go_wp2_with (at_builtin; go_loud (refine wpList_append_row slInts rfl _ _ rfl (v := .slice oa k oc) (n := k) (xs := refsCells ((G.nodes.take k).map Nd.d)) rfl HRA.out (ad := ⟨wr.heap.size + 1, 0, none⟩) (m := 1) (c := 1) (news := [.int .i64 0]) rfl rfl (news_blk HBA.out) (by simp [Value.oneCell']) (by omega) (by omega) ?_; intro v' w4 hown4 hC4 hf4; have HO4 := Lib.hid hown4; clear hown4; have HC4 := Lib.hid hC4; clear hC4; have HF4 := Lib.hid hf4; clear hf4))
        go_roundw
        case rel =>
          obtain ⟨q1, q2⟩ := app_step HC.out HC2.out HLO.out HC4.out HF4.out
          refine ⟨k + 1, by omega, by go_num, q1, ?_, q2⟩
          rw [HSU2.out]; exact HO4.out
        case measure => simp [intOf]; omega
    · have hkn : k = G.nodes.length := by omega
      rw [hkn, List.take_length] at hrow
      rw [hkn] at hlo
      rw [hkn]
      have HROW := Lib.hid hrow; clear hrow
      have HLO := Lib.hid hlo; clear hlo
      have HC := Lib.hid hc; clear hc hkn
      go_wp2_with fail
      go_ret
      exact ⟨.slice oa G.nodes.length oc, rfl, HROW.out, fun q hq => by have := HLO.out q hq; have := HC0.out.size; omega, HC0.out.trans HC.out (by simp)⟩
end
end Go.Proofs.Ytnajonchjlplmaa
