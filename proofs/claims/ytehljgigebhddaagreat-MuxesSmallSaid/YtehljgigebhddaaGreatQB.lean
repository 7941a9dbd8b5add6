/-
  Contracts of functions that MuxesSmall reaches, and plain facts (part B). Conditions: the hypotheses of each theorem.
-/
import Derived.Test.YtehljgigebhddaaGreatQA
import Derived.Laws.Cover3
import Derived.RangeFuncNested
import Derived.RangeFuncBound
import Derived.RangeFuncCalls
import Derived.RangeFuncLeaves
import Derived.Shelf.Abstract
import Derived.Shelf.RegionOpen
import Derived.WalkKit
import Derived.OwnWalkIn
import Derived.TacticsInMore
import Derived.LoopNIn
import Derived.LoopIn
import Derived.Laws.ResultCell
import Derived.Deep.Cut
import Derived.RangeFuncFrom
set_option maxRecDepth 100000
set_option maxHeartbeats 16000000
namespace Go.Proofs.YtehljgigebhddaaGreat
open Go.RowKit Go.Mem Go.Aig

theorem inputsFrom_input (x : Nd) (hk : x.k = 2) : ∀ (ns : List Nd) (n : Nat), inputsFrom (ns ++ [x]) n = inputsFrom ns n ++ [2 * (n + ns.length)]
 | [], n => by simp [inputsFrom, hk]
 | y :: ns, n => by
  have e : 2 * (n + 1 + ns.length) = 2 * (n + (ns.length + 1)) := by omega
  simp only [List.cons_append, inputsFrom, inputsFrom_input x hk ns, List.length_cons, e]
  split <;> simp
theorem inputs_input {ns : List Nd} {x : Nd} (hk : x.k = 2) : inputs (ns ++ [x]) = inputs ns ++ [2 * ns.length] := by
 have := inputsFrom_input x hk ns 0
 simpa [inputs] using this
def doInput (G : Gra) : Res := put G ⟨2, 0, 0, 0⟩
theorem inputsFrom_le : ∀ (ns : List Nd) (n : Nat), (inputsFrom ns n).length ≤ ns.length
 | [], n => by simp [inputsFrom]
 | x :: ns, n => by
  have := inputsFrom_le ns (n + 1)
  unfold inputsFrom
  split <;> simp <;> omega
theorem inputs_le (ns : List Nd) : (inputs ns).length ≤ ns.length := inputsFrom_le ns 0
section
variable {w : World} {g : Nat} {G : Gra} {nb ncap : Nat} {iv : Value} {mb : Nat}

theorem Input_is (h : GM w g G nb ncap iv mb) :
  Calls Tryz.prog 113 #[.pointer (some ⟨g, 0, none⟩)] w fun e w' => e = .returned (.tuple #[.int .i64 (doInput G).2.1, .int .i64 (doInput G).2.2]) ∧ GTo w g (doInput G).1 (fp g nb mb iv) w' := by
 have HN := none_no h
 have hil := inputs_le G.nodes
 unfold doInput put
 by_cases hf : G.most ≤ G.nodes.length
 ·rw [if_pos hf]
  have HP := put_no_of h 2 0 0 0 ⟨2, 0, 0, 0⟩ rfl rfl rfl rfl hf
  have H := Hi9 h; clear h
  clear hf hil
  go_enter Tryz.func113, Tryz.ntmps113
  go_wp2_with fail
  refine HN.mono ?_
  rintro e w' ⟨rfl, rfl⟩
  go_wp2_with fail
  refine HP.mono ?_
  rintro e w1 ⟨rfl, hc⟩
  have HC := Hi9 hc; clear hc
  go_wp2_with fail
  go_ret2
  exact ⟨rfl, GTo.same ⟨_, _, _, _, H.out, rfl⟩ HC.out⟩
 ·rw [if_neg hf]
  have HP := put_yes_of h 2 0 0 0 ⟨2, 0, 0, 0⟩ rfl rfl rfl rfl (by omega)
  have hm := h.ok.most
  have H := Hi9 h; clear h
  have hlb : G.nodes.length < 65536 := by omega
  have HF := Hi9 hf; clear hf
  go_enter Tryz.func113, Tryz.ntmps113
  go_wp2_with fail
  refine HN.mono ?_
  rintro e w' ⟨rfl, rfl⟩
  go_wp2_with fail
  refine HP.mono ?_
  rintro e w1 ⟨rfl, nb', ncap', hs⟩
  have s3 : w1.cell? ⟨g, 3, none⟩ = some iv := hs.st.cell rfl
  have f3 : w1.frozen? ⟨g, 3, none⟩ = false := hs.st.frozen
  have hg1 : g < w1.heap.size := hs.st.lt
  have hch1 : Ch [g, nb] w w1 := hs.ch
  have hsz1 := hch1.size
  have hl0 := H.out.lt
  have hWA : Ch [] w1 (w1.alloc (.cells #[.int .i64 (2 * (G.nodes.length : Int))] 52)) := (Ch.refl _ _).alloc _
  have hI : row (w1.alloc (.cells #[.int .i64 (2 * (G.nodes.length : Int))] 52)) 52 1 iv (inputs G.nodes).length (refsCells (inputs G.nodes)) := by
   refine (H.out.ins.ch hch1 (fun k hk => ?_)).ch hWA (by simp)
   have h1 := H.out.gi; have h2 := H.out.ni
   simp only [List.mem_cons, List.not_mem_nil, or_false, not_or]
   exact ⟨by rintro rfl; exact h1 hk, by rintro rfl; exact h2 hk⟩
  have hB : blk (w1.alloc (.cells #[.int .i64 (2 * (G.nodes.length : Int))] 52)) w1.heap.size [.int .i64 (2 * (G.nodes.length : Int))] := blk.new _ _ _
  have HI := Hi9 hI; clear hI
  have HB := Hi9 hB; clear hB
  have HS := Hi9 hs; clear hs
  have HWA := Hi9 hWA; clear hWA
  have HC1 := Hi9 hch1; clear hch1
  go_wp2_with (at_builtin; go_loud (refine wpList_append_row slRefs rfl _ _ rfl (v := iv) (n := (inputs G.nodes).length) (xs := refsCells (inputs G.nodes)) rfl HI.out (ad := ⟨w1.heap.size, 0, none⟩) (m := 1) (c := 1) (news := [.int .i64 (2 * (G.nodes.length : Int))]) rfl rfl (news_blk HB.out) (by simp [Value.oneCell']) (by omega) (by omega) ?_; intro v' w2 hown hC2 hfresh; obtain ⟨ib, icap, hv⟩ := row.parts hown (by omega); have k3 : w2.cell? ⟨g, 3, none⟩ = some iv := (hC2.cell (p := ⟨g, 3, none⟩) (by simp; omega) (by have := H.out.gi; simpa [eq_comm] using this)).trans (by go_simp); have k3f : w2.frozen? ⟨g, 3, none⟩ = false := (hC2.frozen (p := ⟨g, 3, none⟩) (by simp; omega) (by have := H.out.gi; simpa [eq_comm] using this)).trans (by go_simp); have HOWN := Hi9 hown; clear hown; have HC2 := Hi9 hC2; clear hC2; have HFR := Hi9 hfresh; clear hfresh; have HV := Hi9 hv; rw [hv]; clear hv))
  go_ret2
  have hz2 := HC2.out.size
  simp at hz2
  have hown := HOWN.out
  rw [HV.out] at hown
  have hfr : ib < w1.heap.size → iv.ownBlock = some ib := fun hlt => by
   rcases HFR.out ib (by rw [HV.out]; rfl) with e | e
   ·exact e
   ·simp at e; omega
  have hgi := H.out.gi
  have hni := H.out.ni
  have hmi := H.out.mi
  have hivl := H.out.lt.2.2.2
  have hm1 : mb < w1.heap.size := by omega
  have hnb' : nb' < w1.heap.size := (HS.out.nodes.lt nb' rfl).2
  have e1 : ib ≠ g := fun e => by subst e; exact hgi (hfr hg1)
  have e2 : ib ≠ mb := fun e => by subst e; exact hmi (hfr hm1)
  have e3 : ib ≠ nb' := fun e => by
   subst e
   have := hfr hnb'
   rcases HS.out.fresh with e | e
   ·exact hni (e ▸ this)
   ·have := hivl _ this; omega
  have hgn : g ≠ nb' := by
   rcases HS.out.fresh with e | e
   ·rw [e]; exact H.out.gn
   ·omega
  have hmn : mb ≠ nb' := by
   rcases HS.out.fresh with e | e
   ·rw [e]; exact H.out.mn
   ·omega
  have hgiv : g ∉ iv.ownBlock.toList := by simpa [eq_comm] using hgi
  have hmiv : mb ∉ iv.ownBlock.toList := by simpa [eq_comm] using hmi
  have hniv : nb' ∉ iv.ownBlock.toList := by
   simp only [Option.mem_toList]
   intro hk
   rcases HS.out.fresh with e | e
   ·exact hni (e ▸ hk)
   ·have := hivl _ hk; omega
  have hCall : Ch iv.ownBlock.toList w1 w2 := (HWA.out.mono (by simp)).trans HC2.out (fun k hk => .inl hk)
  have hIS := inputs_input (ns := G.nodes) (x := ⟨2, 0, 0, 0⟩) rfl
  have hset : Ch [g] w2 (w2.setCell ⟨g, 3, none⟩ (.slice (some ⟨ib, 0, none⟩) ((inputs G.nodes).length + 1) icap)) := (Ch.refl _ _).setCell (by simp) _
  refine ⟨ret_ii (by simp) rfl, GTo.of (nb' := nb') (ncap' := ncap') (iv' := .slice (some ⟨ib, 0, none⟩) ((inputs G.nodes).length + 1) icap) ?_ ?_ HS.out.fresh ?_⟩
  ·refine ⟨?_, ?_, ?_, ?_, H.out.gm, hgn, hmn, ?_, ?_, ?_, ?_⟩
   ·have := (HS.out.st.ch hCall hgiv).set (i := 3) (.slice (some ⟨ib, 0, none⟩) ((inputs G.nodes).length + 1) icap)
    simpa using this
   ·have := (HS.out.nodes.ch hCall (fun k hk => by cases hk; exact hniv)).ch hset (fun k hk => by cases hk; simp [hgn.symm])
    simpa using this
   ·obtain ⟨es, clock, h1, h2⟩ := H.out.mp
    refine ⟨es, clock, ?_, h2.other (by simp)⟩
    have g1 := HC1.out.block mb (by omega) (by simp [H.out.gm.symm, H.out.mn])
    have g2 := hCall.block mb hm1 hmiv
    have g3 := hset.block mb (by omega) (by simp [H.out.gm.symm])
    exact g3.trans (g2.trans (g1.trans h1))
   ·show row _ _ 1 _ (inputs (G.nodes ++ [⟨2, 0, 0, 0⟩])).length (refsCells (inputs (G.nodes ++ [⟨2, 0, 0, 0⟩])))
    rw [hIS]
    have := hown.ch hset (fun k hk => by cases hk; simp [e1])
    simpa [refsCells] using this
   ·simp [Value.ownBlock, e1]
   ·simp [Value.ownBlock, e3]
   ·simp [Value.ownBlock, e2]
   ·exact ⟨H.out.ok.wf.input, by have := HF.out; simp; omega, H.out.ok.most⟩
  ·refine ((HC1.out.mono (F' := fp g nb mb iv) ?_).trans ((hCall.mono (F' := g :: iv.ownBlock.toList) (fun k hk => .inl (by simp at hk ⊢; simp [hk]))).trans hset (fun k hk => .inl (by simp at hk ⊢; simp [hk]))) ?_)
   ·intro k hk; left; simp [fp] at hk ⊢; rcases hk with e | e <;> simp [e]
   ·intro k hk; left; simp [fp] at hk ⊢; rcases hk with e | e <;> simp [e]
  ·intro k hk
   simp only [Value.ownBlock, Option.some.injEq] at hk
   subst hk
   rcases HFR.out ib (by rw [HV.out]; rfl) with e | e
   ·exact .inl e
   ·simp at e; exact .inr (by omega)
end

def newG (n : Nat) : Gra := ⟨n, [⟨1, 0, 0, 0⟩]⟩
theorem newG_ok {n : Nat} (h1 : 1 ≤ n) (h2 : n ≤ 65536) : Ok (newG n) := by
 refine ⟨?_, by simpa [newG] using h1, h2⟩
 have key : ∀ (m : Nat) (x : Nd), (newG n).nodes[m]? = some x → m = 0 ∧ x = ⟨1, 0, 0, 0⟩ := fun m x h => by
  have := (List.getElem?_eq_some_iff.1 h).1
  have h0 : m = 0 := by simp [newG] at this; omega
  subst h0
  simp [newG] at h
  exact ⟨rfl, h.symm⟩
 refine ⟨rfl, fun m x h hm => ?_, fun m k x y hx hy _ _ _ _ => ?_, fun m x h => ?_⟩
 ·have := key m x h; omega
 ·rw [(key m x hx).1, (key k y hy).1]
 ·obtain ⟨rfl, rfl⟩ := key m x h; exact Nat.le_refl _
section
variable {w : World}
theorem New_no (n : Int) (h : n < 1 ∨ 65536 < n) :
  Calls Tryz.prog 112 #[.int .i64 n] w fun e w' => e = .returned (.tuple #[.pointer none, .int .i64 2]) ∧ w = w' := by
 rcases h with h | h
 ·have h1 : decide (n < 1) = true := decide_eq_true h
  go_enter Tryz.func112, Tryz.ntmps112
  go_wp2_with fail
  go_ret2
  exact ⟨rfl, rfl⟩
 ·have h1 : decide (n < 1) = false := decide_eq_false (by omega)
  have h2 : decide (65536 < n) = true := decide_eq_true h
  go_enter Tryz.func112, Tryz.ntmps112
  go_wp2_with fail
  go_ret2
  exact ⟨rfl, rfl⟩

theorem New_yes (n : Nat) (h1 : 1 ≤ n) (h2 : n ≤ 65536) :
  Calls Tryz.prog 112 #[.int .i64 n] w fun e w' => ∃ g F, e = .returned (.tuple #[.pointer (some ⟨g, 0, none⟩), .int .i64 0]) ∧ GIn w' g (newG n) F ∧ (∀ k ∈ F, w.heap.size ≤ k) ∧ Ch [] w w' := by
 have d1 : decide ((n : Int) < 1) = false := decide_eq_false (by omega)
 have d2 : decide ((65536 : Int) < n) = false := decide_eq_false (by omega)
 have hmm := @run_makeMap Tryz.prog
 go_enter Tryz.func112, Tryz.ntmps112
 go_wp2_with fail
 go_ret2

 have c1 : Ch [] w (w.alloc (.cells #[.int .u8 1, .int .i64 0, .int .i64 0, .int .i64 0] 282)) := (Ch.refl _ _).alloc _
 have c2 := c1.alloc (.map #[] 0)
 have c3 := c2.alloc (.cells #[.int .i64 n, .slice (some ⟨w.heap.size, 0, none⟩) 1 1, .map (some (w.heap.size + 1)), .slice none 0 0] 47)
 have k2 : Ch [] (w.alloc (.cells #[.int .u8 1, .int .i64 0, .int .i64 0, .int .i64 0] 282)) _ := ((Ch.refl [] _).alloc (.map #[] 0)).alloc (.cells #[.int .i64 n, .slice (some ⟨w.heap.size, 0, none⟩) 1 1, .map (some (w.heap.size + 1)), .slice none 0 0] 47)
 refine ⟨w.heap.size + 2, fp (w.heap.size + 2) w.heap.size (w.heap.size + 1) (.slice none 0 0), rfl, ⟨w.heap.size, 1, .slice none 0 0, w.heap.size + 1, ?_, rfl⟩, by simp [fp], c3⟩
 refine ⟨blk.new' _ _ (by simp), ⟨rfl, .inr ⟨w.heap.size, 1, _, rfl, by omega, (k2.block _ (by simp) (by simp)).trans (heap_alloc_new w _), by simp [newG], by unfold maxLen; omega, rfl, rfl⟩⟩, ⟨#[], 0, (((Ch.refl [] _).alloc _).block _ (by simp) (by simp)).trans (by have := heap_alloc_new (w.alloc (.cells #[.int .u8 1, .int .i64 0, .int .i64 0, .int .i64 0] 282)) (.map #[] 0); simpa using this), ?_⟩, ⟨rfl, .inl ⟨rfl, rfl⟩⟩, by omega, by omega, by omega, by simp, by simp, by simp, newG_ok h1 h2⟩
 refine ⟨by simp, fun m x hx hk => ?_, by simp⟩
 have h1 := (List.getElem?_eq_some_iff.1 hx).1
 have h0 : m = 0 := by simp [newG] at h1; omega
 subst h0
 simp [newG] at hx
 subst hx
 simp at hk
end
theorem eqSliceNil (w : World) (a : Option Addr) (n c : Nat) : (binOp .eql 45 (.slice a n c) (.slice none 0 0)).run Tryz.prog w = .ok (.bool a.isNone) w := by
 have h : Tryz.prog.underlying 45 = some (.slice 52) := Tryz.underlying45
 simp only [binOp]
 simp [run_equal_slice_nil w _ _ a n c h]
attribute [go_sem] eqSliceNil
section
variable {w : World}
variable {g : Nat} {G : Gra} {nb ncap : Nat} {iv : Value} {mb : Nat}
end
open Go.Shelf
attribute [local go_sem] Oper.semAt_some

section
variable {w : World} {g : Nat} {G : Gra} {nb ncap : Nat} {iv : Value} {mb : Nat}
end
section
variable {w : World}
theorem row.set {e : TypeId} {b n cap i : Nat} {xs : List Value} (h : row w e 1 (.slice (some ⟨b, 0, none⟩) n cap) n xs) (v : Value) : row (w.setCell ⟨b, i, none⟩ v) e 1 (.slice (some ⟨b, 0, none⟩) n cap) n (xs.set i v) := by
 refine ⟨by rw [List.length_set]; exact h.1, ?_⟩
 rcases h.2 with ⟨e1, _⟩ | ⟨g, cap', cur, e1, h0, hg, hle, hm, hs, ht⟩
 ·cases e1
 ·cases e1
  refine .inr ⟨b, cap, cur.setIfInBounds i v, rfl, h0, ?_, hle, hm, by simpa using hs, ?_⟩
  ·simp only [World.setCell, Array.getElem?_modify]
   rw [if_pos trivial, hg]
   simp
  ·rw [Array.toList_setIfInBounds, List.take_set, ht]
end
attribute [local go_sem] Oper.semAt_some
theorem infoInt : (Tryz.prog.info? 3).map (fun i => (i.zero, i.size, i.bytes)) = some (some (.int .i64 0), 1, 8) := by kernel_rfl
section
variable {w : World} {g : Nat} {G : Gra} {nb ncap : Nat} {iv : Value} {mb : Nat}
end
theorem cell_lt {w : World} {p : Addr} {v : Value} (h : w.cell? p = some v) : p.block < w.heap.size := by
 rcases Nat.lt_or_ge p.block w.heap.size with h1 | h1
 ·exact h1
 ·simp [World.cell?, Array.getElem?_eq_none h1] at h
theorem Sl.ch {F : List Nat} {w w' : World} {a : Option Addr} {xs : List Int} (h : Sl w a xs) (hc : Ch F w w') (hF : ∀ p, a = some p → p.block ∉ F) : Sl w' a xs :=
 ⟨fun i x hx => by
  obtain ⟨b, o, rfl, hcell⟩ := h.cells i x hx
  exact ⟨b, o, rfl, (hc.cell (p := ⟨b, o + i, none⟩) (cell_lt hcell) (hF ⟨b, o, none⟩ rfl)).trans hcell⟩, h.bd⟩
theorem take_eq_succ {xs ys : List Int} {k : Nat} {x y : Int} (h : xs.take k = ys.take k) (hx : xs[k]? = some x) (hy : ys[k]? = some y) (e : x = y) : xs.take (k + 1) = ys.take (k + 1) := by
 rw [List.take_add_one, List.take_add_one, h, hx, hy, e]
section
variable {w : World}
theorem Eqint_is {a b : Option Addr} {xs ys : List Int} (ca cb : Nat) (hx : Sl w a xs) (hy : Sl w b ys) :
  Calls Tryz.prog 220 #[.slice a xs.length ca, .slice b ys.length cb] w fun e w' => e = .returned (.bool (decide (xs = ys))) ∧ Ch [] w w' := by
 have hbx := hx.bd
 have hby := hy.bd
 have HX := Hi9 hx; clear hx
 have HY := Hi9 hy; clear hy
 by_cases hl : xs.length = ys.length
 ·have hne : ((xs.length : Int) != (ys.length : Int)) = false := by simp [hl]
  generalize hd : decide (xs = ys) = d
  have HD := Hi9 hd; clear hd
  have HL := Hi9 hl; clear hl
  go_enter Tryz.func220, Tryz.ntmps220
  go_wp2_with fail
  go_loopw [13] (fun i wr => ∃ k : Nat, k ≤ xs.length ∧ i = .int .i64 k ∧ xs.take k = ys.take k ∧ Ch [] w wr) (fun i _ => xs.length - (intOf i).toNat)
  case atStart => exact ⟨0, Nat.zero_le _, rfl, rfl, Ch.refl _ _⟩
  case round =>
   obtain ⟨k, hk, rfl, ht, hc⟩ := hrel
   have HT := Hi9 ht; clear ht
   by_cases hlt : k < xs.length
   ·have hlt2 : k < ys.length := by have := HL.out; omega
    have hxk : xs[k]? = some xs[k] := List.getElem?_eq_getElem hlt
    have hyk : ys[k]? = some ys[k] := List.getElem?_eq_getElem hlt2
    obtain ⟨b1, o1, rfl, c1⟩ := (HX.out.ch hc (by simp)).cells k _ hxk
    obtain ⟨b2, o2, rfl, c2⟩ := (HY.out.ch hc (by simp)).cells k _ hyk
    generalize xs[k] = x at *
    generalize ys[k] = y at *
    have HXK := Hi9 hxk; clear hxk
    have HYK := Hi9 hyk; clear hyk
    have HC := Hi9 hc; clear hc
    by_cases hxy : x = y
    ·have hb : (x != y) = false := by simp [hxy]
     have HE := Hi9 hxy; clear hxy
     go_wp2_with fail
     refine Ord.St.door (fun _ => True) [.fl, .fl, .fl, .rd, .fl, .fl, .fl, .rd, .fl] [0, 0, 3, 7, 0, 0, 48, 112, 255] [0, 1, 2, 3, 4, 5, 6, 7, 8] mixed (by kernel_rfl) rfl ?_
     iterate 3 (refine Ord.F9 ?_ (fun K w' hk => ?_) ?_; rotate_left; focus (go_step; exact hk))
     (refine Ord.Q9 ?_ (fun K hk => ?_) ?_; rotate_left; focus (go_step; exact hk))
     iterate 3 (refine Ord.F9 ?_ (fun K w' hk => ?_) ?_; rotate_left; focus (go_step; exact hk))
     (refine Ord.Q9 ?_ (fun K hk => ?_) ?_; rotate_left; focus (go_step; exact hk))
     (refine Ord.F9 ?_ (fun K w' hk => ?_) ?_; rotate_left; focus (go_step; exact hk))
     refine Ord.St.nil ?_
     go_wp2_with fail
     go_roundw
     case rel => exact ⟨k + 1, by omega, by go_num, take_eq_succ HT.out HXK.out HYK.out HE.out, HC.out.drew⟩
     case measure => simp [intOf]; omega
    ·have hb : (x != y) = true := by simp [hxy]
     have hdf : d = false := by
      rw [← HD.out]
      refine decide_eq_false fun e => hxy ?_
      have h1 := HXK.out
      rw [e, HYK.out] at h1
      cases h1; rfl
     have HDF := Hi9 hdf; clear hdf
     clear hxy
     go_wp2_with fail
     refine Ord.St.door (fun _ => True) [.fl, .fl, .fl, .rd, .fl, .fl, .fl, .rd, .fl] [0, 0, 3, 7, 0, 0, 48, 112, 255] [0, 1, 2, 3, 4, 5, 6, 7, 8] mixed (by kernel_rfl) rfl ?_
     iterate 3 (refine Ord.F9 ?_ (fun K w' hk => ?_) ?_; rotate_left; focus (go_step; exact hk))
     (refine Ord.Q9 ?_ (fun K hk => ?_) ?_; rotate_left; focus (go_step; exact hk))
     iterate 3 (refine Ord.F9 ?_ (fun K w' hk => ?_) ?_; rotate_left; focus (go_step; exact hk))
     (refine Ord.Q9 ?_ (fun K hk => ?_) ?_; rotate_left; focus (go_step; exact hk))
     (refine Ord.F9 ?_ (fun K w' hk => ?_) ?_; rotate_left; focus (go_step; exact hk))
     refine Ord.St.nil ?_
     go_wp2_with fail
     go_ret
     rw [HDF.out]
     exact ⟨rfl, HC.out.drew⟩
   ·have hdt : d = true := by
     rw [← HD.out]
     have h1 := HT.out
     rw [List.take_of_length_le (by omega), List.take_of_length_le (by have := HL.out; omega)] at h1
     exact decide_eq_true h1
    have HDT := Hi9 hdt; clear hdt
    have HC := Hi9 hc; clear hc
    go_wp2_with fail
    go_ret
    rw [HDT.out]
    exact ⟨rfl, HC.out⟩
 ·have hne : ((xs.length : Int) != (ys.length : Int)) = true := by rw [bne_iff_ne]; omega
  have hd : decide (xs = ys) = false := decide_eq_false fun e => hl (by rw [e])
  rw [hd]
  clear hd
  go_enter Tryz.func220, Tryz.ntmps220
  go_wp2_with fail
  go_ret
  exact ⟨rfl, Ch.refl _ _⟩
theorem Eqref_is {a b : Option Addr} {xs ys : List Int} (ca cb : Nat) (hx : Sl w a xs) (hy : Sl w b ys) :
  Calls Tryz.prog 56 #[.slice a xs.length ca, .slice b ys.length cb] w fun e w' => e = .returned (.bool (decide (xs = ys))) ∧ Ch [] w w' := by
 have hbx := hx.bd
 have hby := hy.bd
 have HX := Hi9 hx; clear hx
 have HY := Hi9 hy; clear hy
 by_cases hl : xs.length = ys.length
 ·have hne : ((xs.length : Int) != (ys.length : Int)) = false := by simp [hl]
  generalize hd : decide (xs = ys) = d
  have HD := Hi9 hd; clear hd
  have HL := Hi9 hl; clear hl
  go_enter Tryz.func56, Tryz.ntmps56
  go_wp2_with fail
  go_loopw [13] (fun i wr => ∃ k : Nat, k ≤ xs.length ∧ i = .int .i64 k ∧ xs.take k = ys.take k ∧ Ch [] w wr) (fun i _ => xs.length - (intOf i).toNat)
  case atStart => exact ⟨0, Nat.zero_le _, rfl, rfl, Ch.refl _ _⟩
  case round =>
   obtain ⟨k, hk, rfl, ht, hc⟩ := hrel
   have HT := Hi9 ht; clear ht
   by_cases hlt : k < xs.length
   ·have hlt2 : k < ys.length := by have := HL.out; omega
    have hxk : xs[k]? = some xs[k] := List.getElem?_eq_getElem hlt
    have hyk : ys[k]? = some ys[k] := List.getElem?_eq_getElem hlt2
    obtain ⟨b1, o1, rfl, c1⟩ := (HX.out.ch hc (by simp)).cells k _ hxk
    obtain ⟨b2, o2, rfl, c2⟩ := (HY.out.ch hc (by simp)).cells k _ hyk
    generalize xs[k] = x at *
    generalize ys[k] = y at *
    have HXK := Hi9 hxk; clear hxk
    have HYK := Hi9 hyk; clear hyk
    have HC := Hi9 hc; clear hc
    by_cases hxy : x = y
    ·have hb : (x != y) = false := by simp [hxy]
     have HE := Hi9 hxy; clear hxy
     go_wp2_with fail
     refine Ord.St.door (fun _ => True) [.fl, .fl, .fl, .rd, .fl, .fl, .fl, .rd, .fl] [0, 0, 3, 7, 0, 0, 48, 112, 255] [0, 1, 2, 3, 4, 5, 6, 7, 8] mixed (by kernel_rfl) rfl ?_
     iterate 3 (refine Ord.F9 ?_ (fun K w' hk => ?_) ?_; rotate_left; focus (go_step; exact hk))
     (refine Ord.Q9 ?_ (fun K hk => ?_) ?_; rotate_left; focus (go_step; exact hk))
     iterate 3 (refine Ord.F9 ?_ (fun K w' hk => ?_) ?_; rotate_left; focus (go_step; exact hk))
     (refine Ord.Q9 ?_ (fun K hk => ?_) ?_; rotate_left; focus (go_step; exact hk))
     (refine Ord.F9 ?_ (fun K w' hk => ?_) ?_; rotate_left; focus (go_step; exact hk))
     refine Ord.St.nil ?_
     go_wp2_with fail
     go_roundw
     case rel => exact ⟨k + 1, by omega, by go_num, take_eq_succ HT.out HXK.out HYK.out HE.out, HC.out.drew⟩
     case measure => simp [intOf]; omega
    ·have hb : (x != y) = true := by simp [hxy]
     have hdf : d = false := by
      rw [← HD.out]
      refine decide_eq_false fun e => hxy ?_
      have h1 := HXK.out
      rw [e, HYK.out] at h1
      cases h1; rfl
     have HDF := Hi9 hdf; clear hdf
     clear hxy
     go_wp2_with fail
     refine Ord.St.door (fun _ => True) [.fl, .fl, .fl, .rd, .fl, .fl, .fl, .rd, .fl] [0, 0, 3, 7, 0, 0, 48, 112, 255] [0, 1, 2, 3, 4, 5, 6, 7, 8] mixed (by kernel_rfl) rfl ?_
     iterate 3 (refine Ord.F9 ?_ (fun K w' hk => ?_) ?_; rotate_left; focus (go_step; exact hk))
     (refine Ord.Q9 ?_ (fun K hk => ?_) ?_; rotate_left; focus (go_step; exact hk))
     iterate 3 (refine Ord.F9 ?_ (fun K w' hk => ?_) ?_; rotate_left; focus (go_step; exact hk))
     (refine Ord.Q9 ?_ (fun K hk => ?_) ?_; rotate_left; focus (go_step; exact hk))
     (refine Ord.F9 ?_ (fun K w' hk => ?_) ?_; rotate_left; focus (go_step; exact hk))
     refine Ord.St.nil ?_
     go_wp2_with fail
     go_ret
     rw [HDF.out]
     exact ⟨rfl, HC.out.drew⟩
   ·have hdt : d = true := by
     rw [← HD.out]
     have h1 := HT.out
     rw [List.take_of_length_le (by omega), List.take_of_length_le (by have := HL.out; omega)] at h1
     exact decide_eq_true h1
    have HDT := Hi9 hdt; clear hdt
    have HC := Hi9 hc; clear hc
    go_wp2_with fail
    go_ret
    rw [HDT.out]
    exact ⟨rfl, HC.out⟩
 ·have hne : ((xs.length : Int) != (ys.length : Int)) = true := by rw [bne_iff_ne]; omega
  have hd : decide (xs = ys) = false := decide_eq_false fun e => hl (by rw [e])
  rw [hd]
  clear hd
  go_enter Tryz.func56, Tryz.ntmps56
  go_wp2_with fail
  go_ret
  exact ⟨rfl, Ch.refl _ _⟩
end
end Go.Proofs.YtehljgigebhddaaGreat
namespace Go.Aig
def nodeAt (ns : List Nd) (r : Int) : Option Nd := if 0 ≤ r then ns[r.toNat / 2]? else none
def kindOf (ns : List Nd) (r : Int) : Nat := match nodeAt ns r with | some x => x.k | none => 0
def isAndAt (ns : List Nd) (r : Int) : Bool := kindOf ns r == 3
def lOf (ns : List Nd) (r : Int) : Nat := match nodeAt ns r with | some x => if x.k = 3 then x.l else 0 | none => 0
def rOf (ns : List Nd) (r : Int) : Nat := match nodeAt ns r with | some x => if x.k = 3 then x.r else 0 | none => 0
theorem nodeAt_none {ns : List Nd} {r : Int} (h : nodeAt ns r = none) : right ns r = false := by
 unfold nodeAt at h
 unfold right
 refine decide_eq_false ?_
 rintro ⟨h0, h1⟩
 rw [if_pos h0, List.getElem?_eq_none_iff] at h
 omega
theorem nodeAt_some {ns : List Nd} {r : Int} {x : Nd} (h : nodeAt ns r = some x) : 0 ≤ r ∧ ns[r.toNat / 2]? = some x := by
 unfold nodeAt at h
 split at h
 ·exact ⟨by assumption, h⟩
 ·cases h
def doCut (G : Gra) (n : Int) : Gra × Nat := if n < 1 ∨ (G.nodes.length : Int) < n then (G, 2) else ({ G with nodes := G.nodes.take n.toNat }, 0)
end Go.Aig
namespace Go.Proofs.YtehljgigebhddaaGreat
open Go.RowKit Go.Mem Go.Aig
theorem GTo.gin {w w' : World} {g : Nat} {G : Gra} {F : List Nat} (h : GTo w g G F w') : ∃ F', GIn w' g G F' ∧ Ch F w w' ∧ (∀ k ∈ F', k ∈ F ∨ w.heap.size ≤ k) ∧ F'[2]? = F[2]? := h
theorem Ch.drewN {F : List Nat} {w : World} (n : Nat) : Ch F w (w.drewN n) := ⟨rfl, rfl, rfl, Nat.le_refl _, fun _ _ _ => rfl⟩
section
variable {w : World} {g : Nat} {G : Gra} {F : List Nat}
theorem Len_g (h : GIn w g G F) : Calls Tryz.prog 49 #[.pointer (some ⟨g, 0, none⟩)] w fun e w' => e = .returned (.int .i64 G.nodes.length) ∧ w = w' := by
 obtain ⟨_, _, _, _, h, rfl⟩ := h; exact Len_is h
theorem Room_g (h : GIn w g G F) : Calls Tryz.prog 202 #[.pointer (some ⟨g, 0, none⟩)] w fun e w' => e = .returned (.int .i64 (G.most - G.nodes.length : Nat)) ∧ Ch [] w w' := by
 obtain ⟨_, _, _, _, h, rfl⟩ := h
 refine (Room_is h).mono ?_
 rintro e w' ⟨rfl, n, rfl⟩
 exact ⟨rfl, Ch.drewN n⟩
theorem Right_g (h : GIn w g G F) (r : Int) (hr : r ≤ 9223372036854775807) : Calls Tryz.prog 241 #[.pointer (some ⟨g, 0, none⟩), .int .i64 r] w fun e w' => e = .returned (.bool (right G.nodes r)) ∧ w = w' := by
 obtain ⟨_, _, _, _, h, rfl⟩ := h; exact Right_is h r hr
theorem Kind_g (h : GIn w g G F) (r : Int) (hr : r ≤ 9223372036854775807) : Calls Tryz.prog 204 #[.pointer (some ⟨g, 0, none⟩), .int .i64 r] w fun e w' => e = .returned (.int .u8 (kindOf G.nodes r)) ∧ w = w' := by
 obtain ⟨_, _, _, _, h, rfl⟩ := h
 unfold kindOf
 cases hn : nodeAt G.nodes r with
 | none => exact Kind_no h r hr (nodeAt_none hn)
 | some x =>
  obtain ⟨h0, h1⟩ := nodeAt_some hn
  obtain ⟨n, rfl⟩ := Int.eq_ofNat_of_zero_le h0
  exact Kind_is h h1
theorem Sides_off {nb ncap mb : Nat} {iv : Value} (h : GM w g G nb ncap iv mb) (r : Int) (hr : r ≤ 9223372036854775807) (hn : right G.nodes r = false) :
  Calls Tryz.prog 203 #[.pointer (some ⟨g, 0, none⟩), .int .i64 r] w fun e w' => e = .returned (.tuple #[.int .i64 0, .int .i64 0, .bool false]) ∧ Ch [] w w' := by
 have HK := Kind_no h r hr hn
 clear h
 go_enter Tryz.func203, Tryz.ntmps203
 go_wp2_with fail
 refine HK.mono ?_
 rintro e w' ⟨rfl, rfl⟩
 go_wp2_with fail
 go_ret3
 exact ⟨rfl, Ch.refl _ _⟩
theorem Sides_g (h : GIn w g G F) (r : Int) (hr : r ≤ 9223372036854775807) : Calls Tryz.prog 203 #[.pointer (some ⟨g, 0, none⟩), .int .i64 r] w fun e w' => e = .returned (.tuple #[.int .i64 (lOf G.nodes r), .int .i64 (rOf G.nodes r), .bool (isAndAt G.nodes r)]) ∧ Ch [] w w' := by
 obtain ⟨_, _, _, _, h, rfl⟩ := h
 unfold lOf rOf isAndAt kindOf
 cases hn : nodeAt G.nodes r with
 | none => exact Sides_off h r hr (nodeAt_none hn)
 | some x =>
  obtain ⟨h0, h1⟩ := nodeAt_some hn
  obtain ⟨n, rfl⟩ := Int.eq_ofNat_of_zero_le h0
  by_cases hk : x.k = 3
  ·simp only [hk, if_true]
   exact Sides_is h h1 hk
  ·have e : (x.k == 3) = false := by simp [hk]
   simp only [hk, if_false, e]
   exact Sides_no h h1 hk
theorem Input_g (h : GIn w g G F) : Calls Tryz.prog 113 #[.pointer (some ⟨g, 0, none⟩)] w fun e w' => e = .returned (.tuple #[.int .i64 (doInput G).2.1, .int .i64 (doInput G).2.2]) ∧ GTo w g (doInput G).1 F w' := by
 obtain ⟨_, _, _, _, h, rfl⟩ := h; exact Input_is h
theorem And_g (h : GIn w g G F) (a b : Int) (ba : a ≤ 9223372036854775807) (bb : b ≤ 9223372036854775807) : Calls Tryz.prog 103 #[.pointer (some ⟨g, 0, none⟩), .int .i64 a, .int .i64 b] w fun e w' => e = .returned (.tuple #[.int .i64 (doAnd G a b).2.1, .int .i64 (doAnd G a b).2.2]) ∧ GTo w g (doAnd G a b).1 F w' := by
 obtain ⟨_, _, _, _, h, rfl⟩ := h; exact And_is h a b ba bb
theorem Xor_g (h : GIn w g G F) (a b : Int) (ba : a ≤ 9223372036854775807) (bb : b ≤ 9223372036854775807) : Calls Tryz.prog 342 #[.pointer (some ⟨g, 0, none⟩), .int .i64 a, .int .i64 b] w fun e w' => e = .returned (.tuple #[.int .i64 (doXor G a b).2.1, .int .i64 (doXor G a b).2.2]) ∧ GTo w g (doXor G a b).1 F w' := by
 obtain ⟨_, _, _, _, h, rfl⟩ := h; exact Xor_is h a b ba bb
theorem Mux_g (h : GIn w g G F) (c a b : Int) (bc : c ≤ 9223372036854775807) (ba : a ≤ 9223372036854775807) (bb : b ≤ 9223372036854775807) : Calls Tryz.prog 115 #[.pointer (some ⟨g, 0, none⟩), .int .i64 c, .int .i64 a, .int .i64 b] w fun e w' => e = .returned (.tuple #[.int .i64 (doMux G c a b).2.1, .int .i64 (doMux G c a b).2.2]) ∧ GTo w g (doMux G c a b).1 F w' := by
 obtain ⟨_, _, _, _, h, rfl⟩ := h; exact Mux_is h c a b bc ba bb
theorem All_g (h : GIn w g G F) {a : Option Addr} {l : List Int} (n cap : Nat) (hn : l.length = n) (hS : Sl w a l) (hb : ∀ x ∈ l, x ≤ 9223372036854775807) (hap : ∀ p, a = some p → p.block < w.heap.size ∧ p.block ∉ F) : Calls Tryz.prog 192 #[.pointer (some ⟨g, 0, none⟩), .slice a n cap] w fun e w' => e = .returned (.tuple #[.int .i64 (doAll G l).2.1, .int .i64 (doAll G l).2.2]) ∧ GTo w g (doAll G l).1 F w' := by
 subst hn
 obtain ⟨_, _, _, _, h, rfl⟩ := h; exact All_is h cap hS hb hap
theorem Any_g (h : GIn w g G F) {a : Option Addr} {l : List Int} (n cap : Nat) (hn : l.length = n) (hS : Sl w a l) (hb : ∀ x ∈ l, x ≤ 9223372036854775807) (hap : ∀ p, a = some p → p.block < w.heap.size ∧ p.block ∉ F) : Calls Tryz.prog 232 #[.pointer (some ⟨g, 0, none⟩), .slice a n cap] w fun e w' => e = .returned (.tuple #[.int .i64 (doAny G l).2.1, .int .i64 (doAny G l).2.2]) ∧ GTo w g (doAny G l).1 F w' := by
 subst hn
 obtain ⟨_, _, _, _, h, rfl⟩ := h; exact Any_is h cap hS hb hap
theorem Cut_g (h : GIn w g G F) (n : Int) (h1 : n ≤ 9223372036854775807) (h0 : -9223372036854775808 ≤ n) : Calls Tryz.prog 230 #[.pointer (some ⟨g, 0, none⟩), .int .i64 n] w fun e w' => e = .returned (.int .i64 (doCut G n).2) ∧ GTo w g (doCut G n).1 F w' := by
 obtain ⟨nb, ncap, iv, mb, h, rfl⟩ := h
 unfold doCut
 by_cases hn : n < 1 ∨ (G.nodes.length : Int) < n
 ·rw [if_pos hn]
  refine (Cut_arg h n hn h1 h0).mono ?_
  rintro e w' ⟨rfl, hc⟩
  exact ⟨rfl, GTo.same ⟨_, _, _, _, h, rfl⟩ hc⟩
 ·rw [if_neg hn]
  obtain ⟨m, rfl⟩ := Int.eq_ofNat_of_zero_le (show 0 ≤ n by omega)
  refine (Cut_is h m (by omega) (by omega)).mono ?_
  rintro e w' ⟨rfl, iv', hg, hb, hc⟩
  exact ⟨rfl, GTo.of hg hc (.inl rfl) (fun k hk => .inl (by rw [← hb]; exact hk))⟩
end
structure Own (w0 w : World) (g : Nat) (G : Gra) (F : List Nat) : Prop where
 gin : GIn w g G F
 own : ∀ k ∈ F, w0.heap.size ≤ k
 ch : Ch [] w0 w
theorem Own.same {w0 w w' : World} {g : Nat} {G : Gra} {F : List Nat} (h : Own w0 w g G F) (hc : Ch [] w w') : Own w0 w' g G F :=
 ⟨h.gin.same hc (by simp), h.own, h.ch.trans hc (by simp)⟩
end Go.Proofs.YtehljgigebhddaaGreat
namespace Go.Ord
section
variable {P : Program} {l : List Oper} {ks : List Kd} {A : List Nat} {C : World → Prop} {Q : Act → World → Prop}
def chkB (ops : Array Oper) (ks : List Kd) (R R' : List Nat) (i : Nat) : Bool := R.contains i && readyIn ops R i && decide (R.erase i = R') && decide (kd ks i = .ef)
theorem chkB_spec {ops : Array Oper} {R R' : List Nat} {i : Nat} (h : chkB ops ks R R' i = true) : i ∈ R ∧ readyIn ops R i = true ∧ R.erase i = R' ∧ kd ks i = .ef := by
 simp only [chkB, Bool.and_eq_true, decide_eq_true_eq] at h
 exact ⟨by simpa using h.1.1.1, h.1.1.2, h.1.2, h.2⟩
theorem ef_op {R R' : List Nat} {a : Act} {w : World} (i : Nat) (o : Oper) (hil : l[i]? = some o) (hchk : chkB l.toArray ks R R' i = true)
  (h : ∀ K : Act → World → Prop, (∀ a w, C w → St P l ks A C Q R' a w → K a w) → wpList P l.toArray (only K) [o] a w) (hn : R.Nodup) (hu : Up l.toArray R) (hlt : ∀ k ∈ R, k < l.toArray.size) (hs : Stat l.toArray ks A) :
  wpOp P l.toArray (only Q) i (fun a' w' => post ks A l.toArray.size C i w w' ∧ allOrd l.toArray (wpOp P l.toArray (only Q)) ks A C Q (R.length - 1) (R.erase i) a' w') a w := by
 have hi : l.toArray[i]? = some o := by simpa using hil
 have ⟨hm, hri, hR, hk⟩ := chkB_spec hchk
 have h1 := h (fun a w => C w ∧ St P l ks A C Q R' a w) (fun _ _ hc hh => ⟨hc, hh⟩)
 unfold wpOp
 simp only [hi]
 unfold wpList at h1
 have key : ∀ a' w', (wpList P l.toArray (only (fun a w => C w ∧ St P l ks A C Q R' a w)) [] a' w') → post ks A l.toArray.size C i w w' ∧ allOrd l.toArray (wpOp P l.toArray (only Q)) ks A C Q (R.length - 1) (R.erase i) a' w' := by
  intro a' w' hh
  refine ⟨?_, ?_⟩
  ·unfold post; rw [if_pos hk]; intro _; exact hh.2.1
  subst hR
  have := hh.2.2 (hn.erase _) (hu.erase hn hri) (fun k hk => hlt k (List.mem_of_mem_erase hk)) hs
  rwa [List.length_erase_of_mem hm] at this
 split
 ·rename_i hw
  rw [if_pos hw] at h1
  have h1 := h1.resolve_right fun hh => only_lets _ hh.2
  left
  have h2 := Oper.wp_mono (K' := fun a' w' => post ks A l.toArray.size C i w w' ∧ allOrd l.toArray (wpOp P l.toArray (only Q)) ks A C Q (R.length - 1) (R.erase i) a' w') key h1
  unfold Oper.wp at h2 ⊢
  generalize (execOp a.eval o).run P w = r at h2 ⊢
  cases r with
  | ok n w' =>
   cases n <;> simp only [Oper.upon] at h2 ⊢
   case value u => exact h2
   case skip => exact h2
   case defer d => exact h2
   case enter f args =>
    refine Calls.mono h2 fun e w'' he => ?_
    cases e with
    | returned u => exact he
    | panicked c => cases he.1
    | outgrown => exact (only_lets _ he).elim
   case row row args => exact h2
  | halt x w' =>
   cases x <;> simp only [Oper.upon] at h2 ⊢
   case panic u => cases h2.1
 ·rename_i hw
  rw [if_neg hw] at h1
  exact key _ _ h1
def chkR (ops : Array Oper) (R rs : List Nat) : Bool := decide (R.filter (readyIn ops R) = rs)
theorem St.two {R : List Nat} {a : Act} {w : World} (i j : Nat) (Ri Rj : List Nat) (oi oj : Oper) (hir : chkR l.toArray R [i, j] = true) (hil : l[i]? = some oi) (hjl : l[j]? = some oj) (hci : chkB l.toArray ks R Ri i = true) (hcj : chkB l.toArray ks R Rj j = true)
  (h1 : ∀ K : Act → World → Prop, (∀ a w, C w → St P l ks A C Q Ri a w → K a w) → wpList P l.toArray (only K) [oi] a w)
  (h2 : ∀ K : Act → World → Prop, (∀ a w, C w → St P l ks A C Q Rj a w → K a w) → wpList P l.toArray (only K) [oj] a w) : St P l ks A C Q R a w := by
 intro hn hu hlt hs
 have hm : i ∈ R := (chkB_spec hci).1
 have hlen : R.length = R.length - 1 + 1 := by have := List.length_pos_of_mem hm; omega
 rw [hlen]
 refine branch (rs := [i, j]) (by unfold chkR at hir; simpa using hir) fun k hk => ?_
 simp only [List.mem_cons, List.not_mem_nil, or_false] at hk
 rcases hk with rfl | rfl
 ·exact ef_op _ oi hil hci h1 hn hu hlt hs
 ·exact ef_op _ oj hjl hcj h2 hn hu hlt hs
theorem St.alw {R : List Nat} {a : Act} {w : World} {o : Obj} (h : ∀ W, W = w.alloc o → St P l ks A C Q R a W) : St P l ks A C Q R a (w.alloc o) := h _ rfl
end
end Go.Ord
namespace Go.Proofs.YtehljgigebhddaaGreat
open Go.RowKit Go.Mem Go.Aig
structure Sv (w : World) (a : Option Addr) (xs : List Value) : Prop where
 cells : ∀ (i : Nat) (v : Value), xs[i]? = some v → ∃ b o, a = some ⟨b, o, none⟩ ∧ w.cell? ⟨b, o + i, none⟩ = some v
 bd : xs.length ≤ 9223372036854775807
theorem row.sv {w : World} {e : TypeId} {v : Value} {n : Nat} {xs : List Value} {a : Option Addr} {m c : Nat} (h : row w e 1 v n xs) (hv : v = .slice a m c) (hn : n ≤ 1000000) : Sv w a xs := by
 subst hv
 have h1 := h.1
 refine ⟨fun i x hx => ?_, by omega⟩
 rcases h.2 with ⟨e1, e2⟩ | ⟨b, cap, cur, e1, _⟩
 ·have := (List.getElem?_eq_some_iff.1 hx).1
  omega
 ·cases e1
  refine ⟨b, 0, rfl, ?_⟩
  have := h.cells (g := b) rfl i x hx
  rw [Addr.add_lit] at this
  simpa using this
theorem min_nat (n k m : Nat) (h : min n k = m) (ats : Array TypeId) (ty : TypeId) : Builtin.min_ ats ty #[.int .i64 (n : Int), .int .i64 (k : Int)] = pure (.int .i64 (m : Int)) := by
 have e : (if (k : Int) < n then (k : Int) else n) = m := by split <;> omega
 rw [← e]
 simp [Builtin.min_, Builtin.min2]
theorem alw_ch {W w : World} {o : Obj} (h : W = w.alloc o) : Ch [] w W := h ▸ (Ch.refl _ _).alloc _
theorem alw_blk {W w : World} {xs : List Value} {T : TypeId} (h : W = w.alloc (.cells xs.toArray T)) : blk W w.heap.size xs := h ▸ blk.new' _ _ rfl
end Go.Proofs.YtehljgigebhddaaGreat
namespace Go.Mem
theorem Ch.al9 {F : List Nat} {a w W : World} {o : Obj} (h : Ch F a w) (hW : W = w.alloc o) : Ch F a W := hW ▸ h.alloc o
end Go.Mem
namespace Go.Proofs.YtehljgigebhddaaGreat
open Go.RowKit Go.Mem Go.Aig
def rnCells (x : Nd) : List Value := [.int .i64 x.k, .int .i64 x.l, .int .i64 x.r]
def rCells : List Nd → List Value
 | [] => []
 | x :: ns => rnCells x ++ rCells ns
theorem rCells_length : ∀ ns : List Nd, (rCells ns).length = ns.length * 3
 | [] => rfl
 | x :: ns => by simp [rCells, rCells_length ns, rnCells]; omega
theorem rCells_append : ∀ (ns ms : List Nd), rCells (ns ++ ms) = rCells ns ++ rCells ms
 | [], _ => rfl
 | x :: ns, ms => by simp [rCells, rCells_append ns ms]
theorem rCells_get : ∀ {ns : List Nd} {n : Nat} {x : Nd} {j : Nat} {v : Value}, ns[n]? = some x → (rnCells x)[j]? = some v → (rCells ns)[n * 3 + j]? = some v
 | [], n, x, j, v, h, _ => by simp at h
 | y :: ns, 0, x, j, v, h, hv => by
  simp at h; subst h
  have : j < 3 := by have := (List.getElem?_eq_some_iff.1 hv).1; simpa [rnCells] using this
  simp only [rCells]
  rw [List.getElem?_append_left (by simp [rnCells]; omega)]
  simpa using hv
 | y :: ns, n + 1, x, j, v, h, hv => by
  simp only [rCells]
  rw [List.getElem?_append_right (by simp [rnCells]; omega)]
  have := rCells_get (ns := ns) (n := n) (x := x) (by simpa using h) hv
  rw [← this]
  congr 1
  simp [rnCells]
  omega
theorem rCells_one : ∀ (ns : List Nd) (u : Value), u ∈ rCells ns → u.oneCell' = true
 | [], u, h => by cases h
 | x :: ns, u, h => by
  rcases List.mem_append.1 h with h | h
  ·simp [rnCells] at h
   rcases h with rfl | rfl | rfl <;> rfl
  ·exact rCells_one ns u h
structure RG (w : World) (rb cap : Nat) (G : Gra) : Prop where
 cells : ∀ j u, (rCells G.nodes)[j]? = some u → w.cell? ⟨rb, j, none⟩ = some u
 lt : rb < w.heap.size
 le : G.nodes.length ≤ cap
 mx : cap ≤ 9223372036854775807
 ok : Ok G
theorem RG.ch {F : List Nat} {a w : World} {rb cap : Nat} {G : Gra} (h : RG a rb cap G) (hc : Ch F a w) (hF : rb ∉ F) : RG w rb cap G :=
 ⟨fun j u hu => (hc.cell (p := ⟨rb, j, none⟩) h.lt hF).trans (h.cells j u hu), Nat.lt_of_lt_of_le h.lt hc.size, h.le, h.mx, h.ok⟩
theorem RG.node {w : World} {rb cap : Nat} {G : Gra} (h : RG w rb cap G) {n : Nat} {x : Nd} (hx : G.nodes[n]? = some x) :
  w.cell? ⟨rb, n * 3, none⟩ = some (.int .i64 x.k) ∧ w.cell? ⟨rb, n * 3 + 1, none⟩ = some (.int .i64 x.l) ∧ w.cell? ⟨rb, n * 3 + 2, none⟩ = some (.int .i64 x.r) :=
 ⟨h.cells (n * 3 + 0) _ (rCells_get hx (j := 0) rfl), h.cells _ _ (rCells_get hx (j := 1) rfl), h.cells _ _ (rCells_get hx (j := 2) rfl)⟩
theorem RG.len {w : World} {rb cap : Nat} {G : Gra} (h : RG w rb cap G) : G.nodes.length ≤ 65536 ∧ 0 < G.nodes.length ∧ G.most ≤ 65536 := by
 have := h.ok.room; have := h.ok.most; have := h.ok.wf.pos; omega
def RTo (w : World) (rb : Nat) (R : Res) (e : Ending) (w' : World) : Prop := ∃ rb' cap', e = .returned (.tuple #[.agg #[.int .i64 R.1.most, .slice (some ⟨rb', 0, none⟩) R.1.nodes.length cap'], .int .i64 R.2.1, .int .i64 R.2.2]) ∧ RG w' rb' cap' R.1 ∧ Ch [] w w' ∧ (rb' = rb ∨ w.heap.size ≤ rb')
theorem infoRNode : (Tryz.prog.info? 247).map (fun i => (i.zero, i.size, i.bytes)) = some (some (.agg #[.int .i64 0, .int .i64 0, .int .i64 0]), 3, 24) := by kernel_rfl
theorem slRNodes : SliceTy Tryz.prog 121 247 3 24 (.agg #[.int .i64 0, .int .i64 0, .int .i64 0]) := ⟨Tryz.underlying121, infoRNode, rfl, by decide⟩
section
theorem rNot_is (w : World) (r : Nat) (hr : r ≤ 9223372036854775806) : Calls Tryz.prog 274 #[.int .i64 r] w fun e w' => e = .returned (.int .i64 (neg r : Nat)) ∧ w = w' := by
 by_cases h : r % 2 = 0
 ·have e : neg r = r + 1 := by unfold neg; rw [if_pos h]
  have q : ((r : Int) % 2 == 0) = true := by simp; omega
  rw [e]
  clear e h
  go_enter Tryz.func274, Tryz.ntmps274
  go_wp2_with fail
  go_ret
  exact ⟨ret_int (by omega), rfl⟩
 ·have e : neg r = r - 1 := by unfold neg; rw [if_neg h]
  have q : ((r : Int) % 2 == 0) = false := by simp; omega
  have h1 : 1 ≤ r := by omega
  rw [e]
  clear e h
  go_enter Tryz.func274, Tryz.ntmps274
  go_wp2_with fail
  go_ret
  exact ⟨ret_int (by omega), rfl⟩
theorem rRight_is {w : World} {rb cap : Nat} {G : Gra} (h : RG w rb cap G) (r : Int) : Calls Tryz.prog 195 #[.agg #[.int .i64 G.most, .slice (some ⟨rb, 0, none⟩) G.nodes.length cap], .int .i64 r] w fun e w' => e = .returned (.bool (right G.nodes r)) ∧ Ch [] w w' := by
 obtain ⟨hl, hp, hm⟩ := h.len
 have hle := h.le
 have hmx := h.mx
 clear h
 unfold right
 by_cases h0 : 0 ≤ r
 ·by_cases h1 : r < 2 * G.nodes.length
  ·have e : decide (0 ≤ r ∧ r < 2 * (G.nodes.length : Int)) = true := decide_eq_true ⟨h0, h1⟩
   rw [e]
   generalize G.nodes.length = n at *
   clear e
   go_enter Tryz.func195, Tryz.ntmps195
   go_wp2_with fail
   go_ret
   exact ⟨by simp [*], (Ch.refl _ _).alloc _⟩
  ·have e : decide (0 ≤ r ∧ r < 2 * (G.nodes.length : Int)) = false := decide_eq_false (fun h => h1 h.2)
   rw [e]
   generalize G.nodes.length = n at *
   clear e
   go_enter Tryz.func195, Tryz.ntmps195
   go_wp2_with fail
   go_ret
   exact ⟨by simp [*], (Ch.refl _ _).alloc _⟩
 ·have e : decide (0 ≤ r ∧ r < 2 * (G.nodes.length : Int)) = false := decide_eq_false (fun h => h0 h.1)
  rw [e]
  generalize G.nodes.length = n at *
  clear e
  go_enter Tryz.func195, Tryz.ntmps195
  go_wp2_with fail
  go_ret
  exact ⟨by simp [*], (Ch.refl _ _).alloc _⟩
theorem rNew_no (w : World) (most : Int) (h : most < 1 ∨ 65536 < most) : Calls Tryz.prog 193 #[.int .i64 most] w fun e w' => e = .returned (.tuple #[.agg #[.int .i64 0, .slice none 0 0], .int .i64 2]) ∧ Ch [] w w' := by
 rcases h with h | h
 ·go_enter Tryz.func193, Tryz.ntmps193
  go_wp2_with fail
  exact bodyPost_ret (v := .tuple #[.agg #[.int .i64 0, .slice none 0 0], .int .i64 2]) (by simp [results, Tryz.results193, go_sem]) rfl ⟨rfl, ((Ch.refl _ _).alloc _)⟩
 ·have h1 : ¬ most < 1 := by omega
  go_enter Tryz.func193, Tryz.ntmps193
  go_wp2_with fail
  exact bodyPost_ret (v := .tuple #[.agg #[.int .i64 0, .slice none 0 0], .int .i64 2]) (by simp [results, Tryz.results193, go_sem]) rfl ⟨rfl, ((Ch.refl _ _).alloc _)⟩
theorem rNew_yes (w : World) (most : Nat) (h1 : 1 ≤ most) (h2 : most ≤ 65536) : Calls Tryz.prog 193 #[.int .i64 most] w fun e w' => ∃ rb cap, e = .returned (.tuple #[.agg #[.int .i64 (newG most).most, .slice (some ⟨rb, 0, none⟩) (newG most).nodes.length cap], .int .i64 0]) ∧ RG w' rb cap (newG most) ∧ Ch [] w w' ∧ w.heap.size ≤ rb := by
 have HO := Hi9 (newG_ok h1 h2)
 go_enter Tryz.func193, Tryz.ntmps193
 go_wp2_with fail
 have hb : blk ((w.alloc (.cells #[.int .i64 most, .slice (some ⟨w.heap.size + 1, 0, none⟩) 1 1] 123)).alloc (.cells #[.int .i64 1, .int .i64 0, .int .i64 0] 247)) (w.heap.size + 1) (rCells (newG most).nodes) := blk.new' (rCells (newG most).nodes) 247 (by simp)
 exact bodyPost_ret (v := .tuple #[.agg #[.int .i64 most, .slice (some ⟨w.heap.size + 1, 0, none⟩) 1 1], .int .i64 0]) (by simp [results, Tryz.results193, go_sem]) rfl ⟨_, 1, rfl, ⟨fun j u hu => hb.cell hu, hb.lt, Nat.le_refl _, by omega, HO.out⟩, ((Ch.refl _ _).alloc _).alloc _, by omega⟩
theorem row_new0 {w W : World} {e : TypeId} {size : Nat} (h : W = w.alloc (.cells #[] e)) : row W e size (.slice (some ⟨w.heap.size, 0, none⟩) 0 0) 0 [] :=
 ⟨by simp, .inr ⟨_, 0, #[], rfl, Nat.zero_le _, by rw [h]; exact heap_alloc_new w _, Nat.le_refl _, by unfold maxLen; omega, by simp, by simp⟩⟩
theorem new_lo {W0 w : World} (h : Ch [] W0 w) : ∀ k ∈ (Value.slice (some ⟨w.heap.size, 0, none⟩) 0 0).ownBlock.toList, W0.heap.size ≤ k := by
 intro k hk
 simp at hk
 subst hk
 exact h.size
theorem new_ne {w : World} {b : Nat} {xs : List Value} (h : blk w b xs) : ∀ k, (Value.slice (some ⟨w.heap.size, 0, none⟩) 0 0).ownBlock = some k → k ≠ b := by
 intro k hk
 simp at hk
 have := h.lt
 omega
theorem row_ne {w : World} {e : TypeId} {size : Nat} {v : Value} {n : Nat} {xs : List Value} (h : row w e size v n xs) : ∀ k, v.ownBlock = some k → k ≠ w.heap.size := fun k hk => by
 have := (h.lt k hk).2
 omega
theorem grow_ne {w : World} {b : Nat} {xs : List Value} {v v' : Value} (h : blk w b xs) (hx : ∀ k, v.ownBlock = some k → k ≠ b) (hf : ∀ k, v'.ownBlock = some k → v.ownBlock = some k ∨ w.heap.size ≤ k) : ∀ k, v'.ownBlock = some k → k ≠ b := fun k hk =>
 (hf k hk).elim (hx k) (fun e => by have := h.lt; omega)
theorem grow_lo {W0 w : World} {v v' : Value} (h : Ch [] W0 w) (hl : ∀ k ∈ v.ownBlock.toList, W0.heap.size ≤ k) (hf : ∀ k, v'.ownBlock = some k → v.ownBlock = some k ∨ w.heap.size ≤ k) : ∀ k ∈ v'.ownBlock.toList, W0.heap.size ≤ k := fun k hk =>
 (hf k (by simpa using hk)).elim (fun e => hl k (by simpa using e)) (fun e => Nat.le_trans h.size e)
theorem not_own {v : Value} {b : Nat} (hx : ∀ k, v.ownBlock = some k → k ≠ b) : b ∉ v.ownBlock.toList := fun hin => hx b (Option.mem_toList.1 hin) rfl
theorem row_cap {w : World} {e : TypeId} {size : Nat} {a : Option Addr} {n c m : Nat} {xs : List Value} (h : row w e size (.slice a n c) m xs) : m ≤ c ∧ c ≤ 9223372036854775807 := by
 rcases h.2 with ⟨e1, h0⟩ | ⟨g', cap', cur, e1, _, _, h1, h2, _⟩
 ·cases e1; omega
 ·cases e1; exact ⟨h1, by unfold maxLen at h2; exact h2⟩
theorem wp_alw {P : Program} {c : Code} {Q : Exit → Act → World → Prop} {a : Act} {w : World} (h : ∀ W, W = w → Code.wp P c Q a W) : Code.wp P c Q a w := h w rfl
theorem rPut_no {w : World} {rb cap : Nat} {G : Gra} (h : RG w rb cap G) (x : Nd) (hm : G.most ≤ G.nodes.length) : Calls Tryz.prog 194 #[.agg #[.int .i64 G.most, .slice (some ⟨rb, 0, none⟩) G.nodes.length cap], .agg #[.int .i64 x.k, .int .i64 x.l, .int .i64 x.r]] w (RTo w rb (put G x)) := by
 have e : put G x = (G, 0, 201) := by unfold put; rw [if_pos hm]
 rw [e]
 have H := Hi9 h; clear h
 have hd : decide (G.most ≤ G.nodes.length) = true := decide_eq_true hm
 clear e
 go_enter Tryz.func194, Tryz.ntmps194
 go_wp2_with fail
 have hc : Ch [] w (((w.alloc (.cells #[.int .i64 G.most, .slice (some ⟨rb, 0, none⟩) G.nodes.length cap] 123)).alloc (.cells #[.int .i64 x.k, .int .i64 x.l, .int .i64 x.r] 247)).alloc (.cells #[.int .i64 G.most, .slice (some ⟨rb, 0, none⟩) G.nodes.length cap] 123)) := (((Ch.refl _ _).alloc _).alloc _).alloc _
 exact bodyPost_ret (v := .tuple #[.agg #[.int .i64 G.most, .slice (some ⟨rb, 0, none⟩) G.nodes.length cap], .int .i64 0, .int .i64 201]) (by simp [results, Tryz.results194, go_sem]) rfl ⟨rb, cap, rfl, H.out.ch hc (by simp), hc, .inl rfl⟩
theorem rPut_yes {w : World} {rb cap : Nat} {G : Gra} (h : RG w rb cap G) (x : Nd) (hm : G.nodes.length < G.most) (ho2 : Ok { G with nodes := G.nodes ++ [x] }) : Calls Tryz.prog 194 #[.agg #[.int .i64 G.most, .slice (some ⟨rb, 0, none⟩) G.nodes.length cap], .agg #[.int .i64 x.k, .int .i64 x.l, .int .i64 x.r]] w (RTo w rb (put G x)) := by
 have e : put G x = ({ G with nodes := G.nodes ++ [x] }, 2 * G.nodes.length, 0) := by unfold put; rw [if_neg (by omega)]
 rw [e]
 have HO2 := Hi9 ho2; clear ho2
 have H := Hi9 h; clear h
 have hd : decide (G.most ≤ G.nodes.length) = false := decide_eq_false (by omega)
 clear e
 go_enter Tryz.func194, Tryz.ntmps194
 go_wp2_with fail
 refine wp_alw ?_
 intro W0 hW0
 have hc0 : Ch [] w W0 := by rw [hW0]; exact (((Ch.refl _ _).alloc _).alloc _).alloc _
 have b2 : blk W0 w.heap.size [.int .i64 G.most, .slice (some ⟨rb, 0, none⟩) G.nodes.length cap] := by rw [hW0]; exact ((blk.new' (w := w) [.int .i64 G.most, .slice (some ⟨rb, 0, none⟩) G.nodes.length cap] 123 rfl).alloc _).alloc _
 have b3 : blk W0 (w.heap.size + 1) [.int .i64 x.k, .int .i64 x.l, .int .i64 x.r] := by rw [hW0]; exact (blk.new' [.int .i64 x.k, .int .i64 x.l, .int .i64 x.r] 247 (by simp)).alloc _
 have b4 : blk W0 (w.heap.size + 1 + 1) [.int .i64 0, .slice none 0 0] := by rw [hW0]; exact blk.new' [.int .i64 0, .slice none 0 0] 123 (by simp)
 clear hW0
 have H0 := H.out.ch hc0 (by simp)
 have hrb := H.out.lt
 obtain ⟨hl, hp, hmo⟩ := H0.len
 have hle := H0.le
 have hmx := H0.mx
 have B2 := Hi9 b2; clear b2
 have B3 := Hi9 b3; clear b3
 have B4 := Hi9 b4; clear b4
 have HC0 := Hi9 hc0; clear hc0
 have HH := Hi9 H0; clear H0 H hd
 obtain ⟨n, hn⟩ : ∃ n, G.nodes.length = n := ⟨_, rfl⟩
 have HN := Hi9 hn
 rw [hn] at hl hp hle hm
 have hs0 := HC0.out.size
 refine Ord.St.door (fun w' => Ch [] W0 w') [.ef, .fl, .ho, .ef, .ho, .ef, .ef, .fl, .ef] [0, 0, 2, 7, 0, 16, 63, 127, 255] [0, 1, 2, 3, 4, 5, 6, 7, 8] mixed (by kernel_rfl) rfl ?_
 obtain ⟨Wc, hWc⟩ : ∃ Wc, Wc = W0.drew := ⟨_, rfl⟩
 rw [← hWc]
 have hcur : Ch [] W0 Wc := by rw [hWc]; exact (Ch.refl _ _).drew
 clear hWc
 refine Ord.G9 ?_ 1 [0, 2, 3, 4, 5, 6, 7, 8] (fun K w' hk => ?_) ?_
 rotate_left
 ·go_step; exact hk
 refine Ord.H9 ?_ 2 [0, 3, 4, 5, 6, 7, 8] ?_ (fun K w' hw' hk => ?_) ?_
 rotate_left
 ·trivial
 ·have y1 := (B2.out.ch hw' (by simp)).cell (i := 1) rfl; have z0 := (B3.out.ch hw' (by simp)).cell (i := 0) rfl; have z1 := (B3.out.ch hw' (by simp)).cell (i := 1) rfl; have z2 := (B3.out.ch hw' (by simp)).cell (i := 2) rfl; go_step; exact hk
 refine Ord.H9 ?_ 4 [0, 3, 5, 6, 7, 8] ?_ (fun K w' hw' hk => ?_) ?_
 rotate_left
 ·trivial
 ·have y1 := (B2.out.ch hw' (by simp)).cell (i := 1) rfl; have z0 := (B3.out.ch hw' (by simp)).cell (i := 0) rfl; have z1 := (B3.out.ch hw' (by simp)).cell (i := 1) rfl; have z2 := (B3.out.ch hw' (by simp)).cell (i := 2) rfl; go_step; exact hk
 refine Ord.St.two 0 5 [3, 5, 6, 7, 8] [0, 3, 6, 7, 8] _ _ (by kernel_rfl) rfl rfl (by kernel_rfl) (by kernel_rfl) (fun K hK => ?_) (fun K hK => ?_)
 ·go_wp2_with fail
  refine ⟨rfl, hK _ _ ?_ ?_⟩
  ·exact hcur.alloc _
  clear hK K
  refine Ord.St.alw ?_; intro Wn hWn
  have hrow := row_new0 (e := 247) (size := 3) hWn
  have hlo := new_lo hcur
  try have hx := new_ne hb5
  try replace hb5 := hb5.ch (alw_ch hWn) (by simp)
  replace hcur := hcur.al9 hWn
  clear hWn
  refine Ord.St.two 3 5 [5, 6, 7, 8] [3, 6, 7, 8] _ _ (by kernel_rfl) rfl rfl (by kernel_rfl) (by kernel_rfl) (fun K hK => ?_) (fun K hK => ?_)
  ·have hnews : ∀ j u, (rCells G.nodes)[j]? = some u → _ := (HH.out.ch hcur (by simp)).cells
   have HNW := Hi9 hnews; clear hnews
   have HROW := Hi9 hrow; clear hrow
   go_wp2_with (at_builtin; go_loud (refine wpList_append_row slRNodes rfl _ _ rfl (v := .slice (some ⟨_, 0, none⟩) 0 0) (n := 0) (xs := []) rfl HROW.out (ad := ⟨rb, 0, none⟩) (m := n) (c := cap) (news := rCells G.nodes) rfl (by rw [rCells_length, HN.out]) (by intro j u hu; rw [Addr.add_lit, Nat.zero_add]; exact HNW.out j u hu) (rCells_one _) (by omega) (by omega) ?_; intro v1 wA hr1 hcA hfA; rw [Nat.zero_add, List.nil_append] at hr1; obtain ⟨ba, rca, rfl⟩ := row.parts hr1 (by omega)))
   refine ⟨rfl, hK _ _ ?_ ?_⟩
   ·exact hcur.trans hcA (fun k hk => .inr (hlo k hk))
   clear hK K
   have hrow := hr1
   try have hx2 := grow_ne hb5 hx hfA
   try replace hb5 := hb5.ch hcA (not_own hx)
   try clear hx
   try have hx := hx2
   have hlo2 := grow_lo hcur hlo hfA
   replace hcur := hcur.trans hcA (fun k hk => .inr (hlo k hk))
   clear hlo
   have hlo := hlo2
   clear hcA hfA hr1 HROW HNW hlo2
   refine Ord.St.efC 5 [6, 7, 8] _ rfl (by kernel_rfl) (fun K hK => ?_)
   go_wp2_with fail
   refine ⟨rfl, hK _ _ ?_ ?_⟩
   ·exact hcur.alloc _
   clear hK K
   refine Ord.St.alw ?_; intro Wn hWn
   have hb5 := alw_blk (xs := [.int .i64 x.k, .int .i64 x.l, .int .i64 x.r]) hWn
   try have hx := row_ne hrow
   try replace hrow := hrow.ch (alw_ch hWn) (by simp)
   replace hcur := hcur.al9 hWn
   clear hWn
   refine Ord.St.ef 6 [7, 8] _ rfl (by kernel_rfl) (fun K hK => ?_)
   have HROW := Hi9 hrow; clear hrow
   have HX := Hi9 hx; clear hx
   have HB5 := Hi9 hb5; clear hb5
   have HLO := Hi9 hlo; clear hlo
   have HCUR := Hi9 hcur; clear hcur
   go_wp2_with (at_builtin; go_loud (refine wpList_append_row slRNodes rfl _ _ rfl (v := .slice (some ⟨ba, 0, none⟩) n rca) (n := n) (xs := rCells G.nodes) rfl HROW.out (ad := ⟨_, 0, none⟩) (m := 1) (c := 1) (news := [.int .i64 x.k, .int .i64 x.l, .int .i64 x.r]) rfl rfl (news_blk HB5.out) (by simp [Value.oneCell']) (by omega) (by omega) ?_; intro v2 wB hr2 hcB hfB; obtain ⟨bb, rcb, rfl⟩ := row.parts hr2 (by omega); have hlo2 := grow_lo HCUR.out HLO.out hfB; have hcur := HCUR.out.trans hcB (fun k hk => .inr (HLO.out k hk))))
   refine ⟨rfl, hK _ _ ?_⟩; clear hK K
   clear hcB hfB
   have b2 := B2.out.ch hcur (by simp)
   have b4 := B4.out.ch hcur (by simp)
   have hne2 : bb ≠ w.heap.size := by have := hlo2 bb (by simp); have := B2.out.lt; omega
   have hne4 : bb ≠ w.heap.size + 1 + 1 := by have := hlo2 bb (by simp); have := B4.out.lt; omega
   have hwb : w.heap.size ≤ bb := by have := hlo2 bb (by simp); omega
   have y1 := b2.cell (i := 1) rfl
   have f1 := b2.frozen (i := 1)
   have BB2 := Hi9 b2; clear b2
   have BB4 := Hi9 b4; clear b4
   have HR2 := Hi9 hr2; clear hr2
   clear hlo2
   (refine Ord.F9 ?_ (fun K w' hk => ?_) ?_; rotate_left; focus (go_step; exact hk))
   refine Ord.St.ef 8 [] _ rfl (by kernel_rfl) (fun K hK => ?_)
   go_wp2_with fail
   refine ⟨rfl, hK _ _ ?_⟩; clear hK K
   refine Ord.St.nil ?_
   go_wp2_with fail
   refine wp_alw ?_
   intro W5 hW5
   have b2 : blk W5 w.heap.size [.int .i64 G.most, .slice (some ⟨bb, 0, none⟩) (n + 1) rcb] := by rw [hW5]; exact BB2.out.set _
   have hc5 : Ch [w.heap.size] wB W5 := by rw [hW5]; exact (Ch.refl _ _).setCell (by simp) _
   have b4 := BB4.out.ch hc5 (by simp; omega)
   have hr5 := HR2.out.ch hc5 (by intro k hk; simp at hk; subst hk; simpa using hne2)
   have hc05 : Ch [] w W5 := (HC0.out.trans hcur (by simp)).trans hc5 (by simp)
   have y0 := b2.cell (i := 0) rfl
   have y1 := b2.cell (i := 1) rfl
   have z0 := b4.cell (i := 0) rfl
   have z1 := b4.cell (i := 1) rfl
   have f0 := b4.frozen (i := 0)
   have f1' := b4.frozen (i := 1)
   have BB2' := Hi9 b2; clear b2
   have BB4' := Hi9 b4; clear b4
   have HR5 := Hi9 hr5; clear hr5
   have HC5 := Hi9 hc05; clear hc05 hc5
   clear hW5 BB2 BB4 HR2 f1
   refine Ord.St.door (fun w' => w'.cell? ⟨w.heap.size, 1, none⟩ = some (.slice (some ⟨bb, 0, none⟩) (n + 1) rcb)) [.rd, .fl, .ho, .fl, .fl, .fl, .ef, .fl, .fl] [0, 0, 2, 6, 14, 30, 1, 127, 255] [0, 1, 2, 3, 4, 5, 6, 7, 8] mixed (by kernel_rfl) rfl ?_
   (refine Ord.Q9 ?_ (fun K hk => ?_) ?_; rotate_left; focus (go_step; exact hk))
   (refine Ord.F9 ?_ (fun K w' hk => ?_) ?_; rotate_left; focus (go_step; exact hk))
   refine Ord.H9 ?_ 2 [3, 4, 5, 6, 7, 8] ?_ (fun K w' hw' hk => ?_) ?_
   rotate_left
   ·trivial
   ·skip; go_step; exact hk
   iterate 3 (refine Ord.F9 ?_ (fun K w' hk => ?_) ?_; rotate_left; focus (go_step; exact hk))
   refine Ord.St.efC 6 [7, 8] _ rfl (by kernel_rfl) (fun K hK => ?_)
   go_wp2_with fail
   refine ⟨rfl, hK _ _ ?_ ?_⟩
   ·go_simp
   clear hK K
   iterate 2 (refine Ord.F9 ?_ (fun K w' hk => ?_) ?_; rotate_left; focus (go_step; exact hk))
   refine Ord.St.nil ?_
   go_wp2_with fail
   have hc9 : Ch [w.heap.size + 1 + 1] W5 ((W5.setCell ⟨w.heap.size + 1 + 1, 0, none⟩ (.int .i64 G.most)).setCell ⟨w.heap.size + 1 + 1, 1, none⟩ (.slice (some ⟨bb, 0, none⟩) (n + 1) rcb)).drew := (((Ch.refl _ _).setCell (by simp) _).setCell (by simp) _).drew
   have hr9 := HR5.out.ch hc9 (by intro k hk; simp at hk; subst hk; simpa using hne4)
   have hcap := row_cap hr9
   refine bodyPost_ret (v := .tuple #[.agg #[.int .i64 G.most, .slice (some ⟨bb, 0, none⟩) (n + 1) rcb], .int .i64 (2 * n), .int .i64 0]) (by simp [results, Tryz.results194, go_sem, z0, z1]) rfl ?_
   refine ⟨bb, rcb, ?_, ⟨fun j u hu => ?_, ?_, ?_, hcap.2, HO2.out⟩, HC5.out.trans hc9 (fun k hk => .inr (by simp at hk; omega)), .inr hwb⟩
   ·simp [HN.out]
   ·rw [rCells_append] at hu; have := hr9.cells (g := bb) rfl j u (by simpa [rCells, rnCells] using hu); rwa [Addr.add_lit, Nat.zero_add] at this
   ·exact (hr9.lt bb rfl).2
   ·simpa [HN.out] using hcap.1
  ·go_wp2_with fail
   refine ⟨rfl, hK _ _ ?_ ?_⟩
   ·exact hcur.alloc _
   clear hK K
   refine Ord.St.alw ?_; intro Wn hWn
   have hb5 := alw_blk (xs := [.int .i64 x.k, .int .i64 x.l, .int .i64 x.r]) hWn
   try have hx := row_ne hrow
   try replace hrow := hrow.ch (alw_ch hWn) (by simp)
   replace hcur := hcur.al9 hWn
   clear hWn
   refine Ord.St.efC 3 [6, 7, 8] _ rfl (by kernel_rfl) (fun K hK => ?_)
   have hnews : ∀ j u, (rCells G.nodes)[j]? = some u → _ := (HH.out.ch hcur (by simp)).cells
   have HNW := Hi9 hnews; clear hnews
   have HROW := Hi9 hrow; clear hrow
   go_wp2_with (at_builtin; go_loud (refine wpList_append_row slRNodes rfl _ _ rfl (v := .slice (some ⟨_, 0, none⟩) 0 0) (n := 0) (xs := []) rfl HROW.out (ad := ⟨rb, 0, none⟩) (m := n) (c := cap) (news := rCells G.nodes) rfl (by rw [rCells_length, HN.out]) (by intro j u hu; rw [Addr.add_lit, Nat.zero_add]; exact HNW.out j u hu) (rCells_one _) (by omega) (by omega) ?_; intro v1 wA hr1 hcA hfA; rw [Nat.zero_add, List.nil_append] at hr1; obtain ⟨ba, rca, rfl⟩ := row.parts hr1 (by omega)))
   refine ⟨rfl, hK _ _ ?_ ?_⟩
   ·exact hcur.trans hcA (fun k hk => .inr (hlo k hk))
   clear hK K
   have hrow := hr1
   try have hx2 := grow_ne hb5 hx hfA
   try replace hb5 := hb5.ch hcA (not_own hx)
   try clear hx
   try have hx := hx2
   have hlo2 := grow_lo hcur hlo hfA
   replace hcur := hcur.trans hcA (fun k hk => .inr (hlo k hk))
   clear hlo
   have hlo := hlo2
   clear hcA hfA hr1 HROW HNW hlo2
   refine Ord.St.ef 6 [7, 8] _ rfl (by kernel_rfl) (fun K hK => ?_)
   have HROW := Hi9 hrow; clear hrow
   have HX := Hi9 hx; clear hx
   have HB5 := Hi9 hb5; clear hb5
   have HLO := Hi9 hlo; clear hlo
   have HCUR := Hi9 hcur; clear hcur
   go_wp2_with (at_builtin; go_loud (refine wpList_append_row slRNodes rfl _ _ rfl (v := .slice (some ⟨ba, 0, none⟩) n rca) (n := n) (xs := rCells G.nodes) rfl HROW.out (ad := ⟨_, 0, none⟩) (m := 1) (c := 1) (news := [.int .i64 x.k, .int .i64 x.l, .int .i64 x.r]) rfl rfl (news_blk HB5.out) (by simp [Value.oneCell']) (by omega) (by omega) ?_; intro v2 wB hr2 hcB hfB; obtain ⟨bb, rcb, rfl⟩ := row.parts hr2 (by omega); have hlo2 := grow_lo HCUR.out HLO.out hfB; have hcur := HCUR.out.trans hcB (fun k hk => .inr (HLO.out k hk))))
   refine ⟨rfl, hK _ _ ?_⟩; clear hK K
   clear hcB hfB
   have b2 := B2.out.ch hcur (by simp)
   have b4 := B4.out.ch hcur (by simp)
   have hne2 : bb ≠ w.heap.size := by have := hlo2 bb (by simp); have := B2.out.lt; omega
   have hne4 : bb ≠ w.heap.size + 1 + 1 := by have := hlo2 bb (by simp); have := B4.out.lt; omega
   have hwb : w.heap.size ≤ bb := by have := hlo2 bb (by simp); omega
   have y1 := b2.cell (i := 1) rfl
   have f1 := b2.frozen (i := 1)
   have BB2 := Hi9 b2; clear b2
   have BB4 := Hi9 b4; clear b4
   have HR2 := Hi9 hr2; clear hr2
   clear hlo2
   (refine Ord.F9 ?_ (fun K w' hk => ?_) ?_; rotate_left; focus (go_step; exact hk))
   refine Ord.St.ef 8 [] _ rfl (by kernel_rfl) (fun K hK => ?_)
   go_wp2_with fail
   refine ⟨rfl, hK _ _ ?_⟩; clear hK K
   refine Ord.St.nil ?_
   go_wp2_with fail
   refine wp_alw ?_
   intro W5 hW5
   have b2 : blk W5 w.heap.size [.int .i64 G.most, .slice (some ⟨bb, 0, none⟩) (n + 1) rcb] := by rw [hW5]; exact BB2.out.set _
   have hc5 : Ch [w.heap.size] wB W5 := by rw [hW5]; exact (Ch.refl _ _).setCell (by simp) _
   have b4 := BB4.out.ch hc5 (by simp; omega)
   have hr5 := HR2.out.ch hc5 (by intro k hk; simp at hk; subst hk; simpa using hne2)
   have hc05 : Ch [] w W5 := (HC0.out.trans hcur (by simp)).trans hc5 (by simp)
   have y0 := b2.cell (i := 0) rfl
   have y1 := b2.cell (i := 1) rfl
   have z0 := b4.cell (i := 0) rfl
   have z1 := b4.cell (i := 1) rfl
   have f0 := b4.frozen (i := 0)
   have f1' := b4.frozen (i := 1)
   have BB2' := Hi9 b2; clear b2
   have BB4' := Hi9 b4; clear b4
   have HR5 := Hi9 hr5; clear hr5
   have HC5 := Hi9 hc05; clear hc05 hc5
   clear hW5 BB2 BB4 HR2 f1
   refine Ord.St.door (fun w' => w'.cell? ⟨w.heap.size, 1, none⟩ = some (.slice (some ⟨bb, 0, none⟩) (n + 1) rcb)) [.rd, .fl, .ho, .fl, .fl, .fl, .ef, .fl, .fl] [0, 0, 2, 6, 14, 30, 1, 127, 255] [0, 1, 2, 3, 4, 5, 6, 7, 8] mixed (by kernel_rfl) rfl ?_
   (refine Ord.Q9 ?_ (fun K hk => ?_) ?_; rotate_left; focus (go_step; exact hk))
   (refine Ord.F9 ?_ (fun K w' hk => ?_) ?_; rotate_left; focus (go_step; exact hk))
   refine Ord.H9 ?_ 2 [3, 4, 5, 6, 7, 8] ?_ (fun K w' hw' hk => ?_) ?_
   rotate_left
   ·trivial
   ·skip; go_step; exact hk
   iterate 3 (refine Ord.F9 ?_ (fun K w' hk => ?_) ?_; rotate_left; focus (go_step; exact hk))
   refine Ord.St.efC 6 [7, 8] _ rfl (by kernel_rfl) (fun K hK => ?_)
   go_wp2_with fail
   refine ⟨rfl, hK _ _ ?_ ?_⟩
   ·go_simp
   clear hK K
   iterate 2 (refine Ord.F9 ?_ (fun K w' hk => ?_) ?_; rotate_left; focus (go_step; exact hk))
   refine Ord.St.nil ?_
   go_wp2_with fail
   have hc9 : Ch [w.heap.size + 1 + 1] W5 ((W5.setCell ⟨w.heap.size + 1 + 1, 0, none⟩ (.int .i64 G.most)).setCell ⟨w.heap.size + 1 + 1, 1, none⟩ (.slice (some ⟨bb, 0, none⟩) (n + 1) rcb)).drew := (((Ch.refl _ _).setCell (by simp) _).setCell (by simp) _).drew
   have hr9 := HR5.out.ch hc9 (by intro k hk; simp at hk; subst hk; simpa using hne4)
   have hcap := row_cap hr9
   refine bodyPost_ret (v := .tuple #[.agg #[.int .i64 G.most, .slice (some ⟨bb, 0, none⟩) (n + 1) rcb], .int .i64 (2 * n), .int .i64 0]) (by simp [results, Tryz.results194, go_sem, z0, z1]) rfl ?_
   refine ⟨bb, rcb, ?_, ⟨fun j u hu => ?_, ?_, ?_, hcap.2, HO2.out⟩, HC5.out.trans hc9 (fun k hk => .inr (by simp at hk; omega)), .inr hwb⟩
   ·simp [HN.out]
   ·rw [rCells_append] at hu; have := hr9.cells (g := bb) rfl j u (by simpa [rCells, rnCells] using hu); rwa [Addr.add_lit, Nat.zero_add] at this
   ·exact (hr9.lt bb rfl).2
   ·simpa [HN.out] using hcap.1
 ·go_wp2_with fail
  refine ⟨rfl, hK _ _ ?_ ?_⟩
  ·exact hcur.alloc _
  clear hK K
  refine Ord.St.alw ?_; intro Wn hWn
  have hb5 := alw_blk (xs := [.int .i64 x.k, .int .i64 x.l, .int .i64 x.r]) hWn
  try have hx := row_ne hrow
  try replace hrow := hrow.ch (alw_ch hWn) (by simp)
  replace hcur := hcur.al9 hWn
  clear hWn
  refine Ord.St.efC 0 [3, 6, 7, 8] _ rfl (by kernel_rfl) (fun K hK => ?_)
  go_wp2_with fail
  refine ⟨rfl, hK _ _ ?_ ?_⟩
  ·exact hcur.alloc _
  clear hK K
  refine Ord.St.alw ?_; intro Wn hWn
  have hrow := row_new0 (e := 247) (size := 3) hWn
  have hlo := new_lo hcur
  try have hx := new_ne hb5
  try replace hb5 := hb5.ch (alw_ch hWn) (by simp)
  replace hcur := hcur.al9 hWn
  clear hWn
  refine Ord.St.efC 3 [6, 7, 8] _ rfl (by kernel_rfl) (fun K hK => ?_)
  have hnews : ∀ j u, (rCells G.nodes)[j]? = some u → _ := (HH.out.ch hcur (by simp)).cells
  have HNW := Hi9 hnews; clear hnews
  have HROW := Hi9 hrow; clear hrow
  go_wp2_with (at_builtin; go_loud (refine wpList_append_row slRNodes rfl _ _ rfl (v := .slice (some ⟨_, 0, none⟩) 0 0) (n := 0) (xs := []) rfl HROW.out (ad := ⟨rb, 0, none⟩) (m := n) (c := cap) (news := rCells G.nodes) rfl (by rw [rCells_length, HN.out]) (by intro j u hu; rw [Addr.add_lit, Nat.zero_add]; exact HNW.out j u hu) (rCells_one _) (by omega) (by omega) ?_; intro v1 wA hr1 hcA hfA; rw [Nat.zero_add, List.nil_append] at hr1; obtain ⟨ba, rca, rfl⟩ := row.parts hr1 (by omega)))
  refine ⟨rfl, hK _ _ ?_ ?_⟩
  ·exact hcur.trans hcA (fun k hk => .inr (hlo k hk))
  clear hK K
  have hrow := hr1
  try have hx2 := grow_ne hb5 hx hfA
  try replace hb5 := hb5.ch hcA (not_own hx)
  try clear hx
  try have hx := hx2
  have hlo2 := grow_lo hcur hlo hfA
  replace hcur := hcur.trans hcA (fun k hk => .inr (hlo k hk))
  clear hlo
  have hlo := hlo2
  clear hcA hfA hr1 HROW HNW hlo2
  refine Ord.St.ef 6 [7, 8] _ rfl (by kernel_rfl) (fun K hK => ?_)
  have HROW := Hi9 hrow; clear hrow
  have HX := Hi9 hx; clear hx
  have HB5 := Hi9 hb5; clear hb5
  have HLO := Hi9 hlo; clear hlo
  have HCUR := Hi9 hcur; clear hcur
  go_wp2_with (at_builtin; go_loud (refine wpList_append_row slRNodes rfl _ _ rfl (v := .slice (some ⟨ba, 0, none⟩) n rca) (n := n) (xs := rCells G.nodes) rfl HROW.out (ad := ⟨_, 0, none⟩) (m := 1) (c := 1) (news := [.int .i64 x.k, .int .i64 x.l, .int .i64 x.r]) rfl rfl (news_blk HB5.out) (by simp [Value.oneCell']) (by omega) (by omega) ?_; intro v2 wB hr2 hcB hfB; obtain ⟨bb, rcb, rfl⟩ := row.parts hr2 (by omega); have hlo2 := grow_lo HCUR.out HLO.out hfB; have hcur := HCUR.out.trans hcB (fun k hk => .inr (HLO.out k hk))))
  refine ⟨rfl, hK _ _ ?_⟩; clear hK K
  clear hcB hfB
  have b2 := B2.out.ch hcur (by simp)
  have b4 := B4.out.ch hcur (by simp)
  have hne2 : bb ≠ w.heap.size := by have := hlo2 bb (by simp); have := B2.out.lt; omega
  have hne4 : bb ≠ w.heap.size + 1 + 1 := by have := hlo2 bb (by simp); have := B4.out.lt; omega
  have hwb : w.heap.size ≤ bb := by have := hlo2 bb (by simp); omega
  have y1 := b2.cell (i := 1) rfl
  have f1 := b2.frozen (i := 1)
  have BB2 := Hi9 b2; clear b2
  have BB4 := Hi9 b4; clear b4
  have HR2 := Hi9 hr2; clear hr2
  clear hlo2
  (refine Ord.F9 ?_ (fun K w' hk => ?_) ?_; rotate_left; focus (go_step; exact hk))
  refine Ord.St.ef 8 [] _ rfl (by kernel_rfl) (fun K hK => ?_)
  go_wp2_with fail
  refine ⟨rfl, hK _ _ ?_⟩; clear hK K
  refine Ord.St.nil ?_
  go_wp2_with fail
  refine wp_alw ?_
  intro W5 hW5
  have b2 : blk W5 w.heap.size [.int .i64 G.most, .slice (some ⟨bb, 0, none⟩) (n + 1) rcb] := by rw [hW5]; exact BB2.out.set _
  have hc5 : Ch [w.heap.size] wB W5 := by rw [hW5]; exact (Ch.refl _ _).setCell (by simp) _
  have b4 := BB4.out.ch hc5 (by simp; omega)
  have hr5 := HR2.out.ch hc5 (by intro k hk; simp at hk; subst hk; simpa using hne2)
  have hc05 : Ch [] w W5 := (HC0.out.trans hcur (by simp)).trans hc5 (by simp)
  have y0 := b2.cell (i := 0) rfl
  have y1 := b2.cell (i := 1) rfl
  have z0 := b4.cell (i := 0) rfl
  have z1 := b4.cell (i := 1) rfl
  have f0 := b4.frozen (i := 0)
  have f1' := b4.frozen (i := 1)
  have BB2' := Hi9 b2; clear b2
  have BB4' := Hi9 b4; clear b4
  have HR5 := Hi9 hr5; clear hr5
  have HC5 := Hi9 hc05; clear hc05 hc5
  clear hW5 BB2 BB4 HR2 f1
  refine Ord.St.door (fun w' => w'.cell? ⟨w.heap.size, 1, none⟩ = some (.slice (some ⟨bb, 0, none⟩) (n + 1) rcb)) [.rd, .fl, .ho, .fl, .fl, .fl, .ef, .fl, .fl] [0, 0, 2, 6, 14, 30, 1, 127, 255] [0, 1, 2, 3, 4, 5, 6, 7, 8] mixed (by kernel_rfl) rfl ?_
  (refine Ord.Q9 ?_ (fun K hk => ?_) ?_; rotate_left; focus (go_step; exact hk))
  (refine Ord.F9 ?_ (fun K w' hk => ?_) ?_; rotate_left; focus (go_step; exact hk))
  refine Ord.H9 ?_ 2 [3, 4, 5, 6, 7, 8] ?_ (fun K w' hw' hk => ?_) ?_
  rotate_left
  ·trivial
  ·skip; go_step; exact hk
  iterate 3 (refine Ord.F9 ?_ (fun K w' hk => ?_) ?_; rotate_left; focus (go_step; exact hk))
  refine Ord.St.efC 6 [7, 8] _ rfl (by kernel_rfl) (fun K hK => ?_)
  go_wp2_with fail
  refine ⟨rfl, hK _ _ ?_ ?_⟩
  ·go_simp
  clear hK K
  iterate 2 (refine Ord.F9 ?_ (fun K w' hk => ?_) ?_; rotate_left; focus (go_step; exact hk))
  refine Ord.St.nil ?_
  go_wp2_with fail
  have hc9 : Ch [w.heap.size + 1 + 1] W5 ((W5.setCell ⟨w.heap.size + 1 + 1, 0, none⟩ (.int .i64 G.most)).setCell ⟨w.heap.size + 1 + 1, 1, none⟩ (.slice (some ⟨bb, 0, none⟩) (n + 1) rcb)).drew := (((Ch.refl _ _).setCell (by simp) _).setCell (by simp) _).drew
  have hr9 := HR5.out.ch hc9 (by intro k hk; simp at hk; subst hk; simpa using hne4)
  have hcap := row_cap hr9
  refine bodyPost_ret (v := .tuple #[.agg #[.int .i64 G.most, .slice (some ⟨bb, 0, none⟩) (n + 1) rcb], .int .i64 (2 * n), .int .i64 0]) (by simp [results, Tryz.results194, go_sem, z0, z1]) rfl ?_
  refine ⟨bb, rcb, ?_, ⟨fun j u hu => ?_, ?_, ?_, hcap.2, HO2.out⟩, HC5.out.trans hc9 (fun k hk => .inr (by simp at hk; omega)), .inr hwb⟩
  ·simp [HN.out]
  ·rw [rCells_append] at hu; have := hr9.cells (g := bb) rfl j u (by simpa [rCells, rnCells] using hu); rwa [Addr.add_lit, Nat.zero_add] at this
  ·exact (hr9.lt bb rfl).2
  ·simpa [HN.out] using hcap.1
 go_wp2_with fail

end
theorem rPut_is {w : World} {rb cap : Nat} {G : Gra} (h : RG w rb cap G) (x : Nd) (ho : G.nodes.length < G.most → Ok { G with nodes := G.nodes ++ [x] }) : Calls Tryz.prog 194 #[.agg #[.int .i64 G.most, .slice (some ⟨rb, 0, none⟩) G.nodes.length cap], .agg #[.int .i64 x.k, .int .i64 x.l, .int .i64 x.r]] w (RTo w rb (put G x)) := by
 rcases Nat.lt_or_ge G.nodes.length G.most with hm | hm
 ·exact rPut_yes h x hm (ho hm)
 ·exact rPut_no h x hm
theorem neg_eq {a b : Nat} : a = neg b ↔ b = neg a := by unfold neg; constructor <;> intro h <;> (repeat' split at h) <;> (repeat' split) <;> omega
theorem and_sort (G : Gra) {a b l r : Nat} (hl : min a b = l) (hr : max a b = r) :
  ((l = 0 ∨ l = neg r) → and G a b = (G, 0, 0)) ∧ (¬ (l = 0 ∨ l = neg r) → (l = 1 ∨ l = r) → and G a b = (G, r, 0)) ∧
  (¬ (l = 0 ∨ l = neg r) → ¬ (l = 1 ∨ l = r) → andIs a b = .node l r ∧ (∀ n, findAnd G.nodes l r = some n → and G a b = (G, 2 * n, 0)) ∧ (findAnd G.nodes l r = none → and G a b = put G ⟨3, l, r, 1 + max (dep G.nodes a) (dep G.nodes b)⟩)) := by
 have e1 : (a = neg b) ↔ (l = neg r) := by
  rcases Nat.le_total a b with h | h
  ·rw [Nat.min_eq_left h] at hl; rw [Nat.max_eq_right h] at hr; subst hl; subst hr; exact Iff.rfl
  ·rw [Nat.min_eq_right h] at hl; rw [Nat.max_eq_left h] at hr; subst hl; subst hr; exact neg_eq
 have e2 : (a = b) ↔ (l = r) := by omega
 have hi : andIs a b = if l = 0 ∨ l = neg r then .known 0 else if l = 1 ∨ l = r then .known r else .node l r := by
  unfold andIs
  rw [hl, hr]
  simp only [e1, e2]
 refine ⟨fun h => ?_, fun h h2 => ?_, fun h h2 => ?_⟩
 ·unfold Aig.and; rw [hi, if_pos h]
 ·unfold Aig.and; rw [hi, if_neg h, if_pos h2]
 ·rw [if_neg h, if_neg h2] at hi
  refine ⟨hi, fun n hn => ?_, fun hn => ?_⟩
  ·unfold Aig.and; rw [hi]; simp only [hn]
  ·unfold Aig.and; rw [hi]; simp only [hn]
theorem findAnd_at {ns : List Nd} {l r k : Nat} {x : Nd} (hx : ns[k]? = some x) (h : isAnd l r x = true) (hno : ∀ (j : Nat) y, j < k → ns[j]? = some y → isAnd l r y = false) : findAnd ns l r = some k := by
 unfold findAnd
 obtain ⟨hlt, e⟩ := List.getElem?_eq_some_iff.1 hx
 rw [List.findIdx?_eq_some_iff_getElem]
 exact ⟨hlt, by rw [e]; exact h, fun j hj => by simp [hno j _ hj (List.getElem?_eq_getElem (by omega))]⟩
theorem findAnd_no {ns : List Nd} {l r : Nat} (hno : ∀ (j : Nat) y, j < ns.length → ns[j]? = some y → isAnd l r y = false) : findAnd ns l r = none := by
 unfold findAnd
 rw [List.findIdx?_eq_none_iff]
 intro y hy
 obtain ⟨j, hj⟩ := List.mem_iff_getElem?.1 hy
 exact hno j y (List.getElem?_eq_some_iff.1 hj).1 hj
theorem RTo.self {w w' : World} {rb cap : Nat} {G : Gra} (h : RG w rb cap G) (hc : Ch [] w w') (r e : Nat) : RTo w rb (G, r, e) (.returned (.tuple #[.agg #[.int .i64 G.most, .slice (some ⟨rb, 0, none⟩) G.nodes.length cap], .int .i64 r, .int .i64 e])) w' :=
 ⟨rb, cap, rfl, h.ch hc (by simp), hc, .inl rfl⟩
section
theorem rAnd_le {w : World} {rb cap : Nat} {G : Gra} (h : RG w rb cap G) {a b : Nat} (ha : a < 2 * G.nodes.length) (hb : b < 2 * G.nodes.length) (hab : decide (b < a) = false) : Calls Tryz.prog 196 #[.agg #[.int .i64 G.most, .slice (some ⟨rb, 0, none⟩) G.nodes.length cap], .int .i64 a, .int .i64 b] w (RTo w rb (and G a b)) := by
 obtain ⟨hl, hp, hmo⟩ := h.len
 have hle := h.le
 have hmx := h.mx
 have hrb := h.lt
 have hs := and_sort G (a := a) (b := b) (l := a) (r := b) (by have := of_decide_eq_false hab; omega) (by have := of_decide_eq_false hab; omega)
 have hlr : a ≤ b := by have := of_decide_eq_false hab; omega
 have hNot := fun (W : World) => rNot_is W b (by omega)
 have HNOT := Hi9 hNot; clear hNot
 have hc2 : Ch [] w ((w.alloc (.cells #[.int .i64 G.most, .slice (some ⟨rb, 0, none⟩) G.nodes.length cap] 123)).alloc (.cells #[.int .i64 G.most, .slice (some ⟨rb, 0, none⟩) G.nodes.length cap] 123)) := ((Ch.refl _ _).alloc _).alloc _
 have HC2 := Hi9 hc2; clear hc2
 have H := Hi9 h; clear h
 by_cases h0 : a = 0
 ·have hq := hs.1 (.inl h0)
  have q0 : ((a : Int) == 0) = true := by simp [h0]
  rw [hq]
  have HF := Hi9 (RTo.self H.out HC2.out 0 0)
  clear hs hq h0
  go_enter Tryz.func196, Tryz.ntmps196
  go_wp2_with fail
  exact bodyPost_ret (v := .tuple #[.agg #[.int .i64 G.most, .slice (some ⟨rb, 0, none⟩) G.nodes.length cap], .int .i64 0, .int .i64 0]) (by simp [results, Tryz.results196, go_sem]) rfl HF.out
 have q0 : ((a : Int) == 0) = false := by simp; omega
 by_cases h1 : a = neg b
 ·have hq := hs.1 (.inr h1)
  have q1 : ((a : Int) == (neg b : Nat)) = true := by rw [← h1]; simp
  rw [hq]
  have HF := Hi9 (RTo.self H.out HC2.out 0 0)
  clear hs hq h0 h1
  go_enter Tryz.func196, Tryz.ntmps196
  go_wp2_with fail
  refine (HNOT.out _).mono ?_
  rintro e w' ⟨rfl, rfl⟩
  generalize neg b = nr at *
  go_wp2_with fail
  exact bodyPost_ret (v := .tuple #[.agg #[.int .i64 G.most, .slice (some ⟨rb, 0, none⟩) G.nodes.length cap], .int .i64 0, .int .i64 0]) (by simp [results, Tryz.results196, go_sem]) rfl HF.out
 have q1 : ((a : Int) == (neg b : Nat)) = false := by simp; omega
 have hno : ¬ (a = 0 ∨ a = neg b) := by simp [h0, h1]
 clear h0 h1
 by_cases h2 : a = 1
 ·have hq := hs.2.1 hno (.inl h2)
  have q2 : ((a : Int) == 1) = true := by simp [h2]
  rw [hq]
  have HF := Hi9 (RTo.self H.out HC2.out b 0)
  clear hs hq h2 hno
  go_enter Tryz.func196, Tryz.ntmps196
  go_wp2_with fail
  refine (HNOT.out _).mono ?_
  rintro e w' ⟨rfl, rfl⟩
  generalize neg b = nr at *
  go_wp2_with fail
  exact bodyPost_ret (v := .tuple #[.agg #[.int .i64 G.most, .slice (some ⟨rb, 0, none⟩) G.nodes.length cap], .int .i64 b, .int .i64 0]) (by simp [results, Tryz.results196, go_sem]) rfl HF.out
 have q2 : ((a : Int) == 1) = false := by simp; omega
 by_cases h3 : a = b
 ·have hq := hs.2.1 hno (.inr h3)
  have q3 : ((a : Int) == (b : Int)) = true := by simp [h3]
  rw [hq]
  have HF := Hi9 (RTo.self H.out HC2.out b 0)
  clear hs hq h2 hno h3
  go_enter Tryz.func196, Tryz.ntmps196
  go_wp2_with fail
  refine (HNOT.out _).mono ?_
  rintro e w' ⟨rfl, rfl⟩
  generalize neg b = nr at *
  go_wp2_with fail
  exact bodyPost_ret (v := .tuple #[.agg #[.int .i64 G.most, .slice (some ⟨rb, 0, none⟩) G.nodes.length cap], .int .i64 b, .int .i64 0]) (by simp [results, Tryz.results196, go_sem]) rfl HF.out
 have q3 : ((a : Int) == (b : Int)) = false := by simp; omega
 obtain ⟨hi, hfs, hfn⟩ := hs.2.2 hno (by simp [h2, h3])
 have hok : findAnd G.nodes a b = none → G.nodes.length < G.most → Ok { G with nodes := G.nodes ++ [⟨3, a, b, 1 + max (dep G.nodes a) (dep G.nodes b)⟩] } := fun hf hm => ⟨H.out.ok.wf.and hi ha hb hf, by simp; omega, H.out.ok.most⟩
 generalize 1 + max (dep G.nodes a) (dep G.nodes b) = dd at *
 have HOK := Hi9 hok; clear hok
 have HFS := Hi9 hfs; clear hfs
 have HFN := Hi9 hfn; clear hfn
 clear hs hno h2 h3 hi
 go_enter Tryz.func196, Tryz.ntmps196
 go_wp2_with fail
 refine (HNOT.out _).mono ?_
 rintro e w' ⟨rfl, rfl⟩
 generalize neg b = nr at *
 go_wp2_with fail
 refine wp_alw ?_
 intro W0 hW0
 have hc0 : Ch [] w W0 := by rw [hW0]; exact ((Ch.refl _ _).alloc _).alloc _
 have b2 : blk W0 w.heap.size [.int .i64 G.most, .slice (some ⟨rb, 0, none⟩) G.nodes.length cap] := by rw [hW0]; exact (blk.new' (w := w) [.int .i64 G.most, .slice (some ⟨rb, 0, none⟩) G.nodes.length cap] 123 rfl).alloc _
 have b4 : blk W0 (w.heap.size + 1) [.int .i64 0, .slice none 0 0] := by rw [hW0]; exact blk.new' [.int .i64 0, .slice none 0 0] 123 (by simp)
 clear hW0 HNOT HC2
 have H0 := H.out.ch hc0 (by simp)
 have y0 := b2.cell (i := 0) rfl
 have y1 := b2.cell (i := 1) rfl
 have z0 := b4.cell (i := 0) rfl
 have z1 := b4.cell (i := 1) rfl
 have f0 := b4.frozen (i := 0)
 have f1 := b4.frozen (i := 1)
 have B2 := Hi9 b2; clear b2
 have B4 := Hi9 b4; clear b4
 have HC0 := Hi9 hc0; clear hc0
 have HH := Hi9 H0; clear H0
 go_loop [9] (fun i => ∃ k : Nat, k ≤ G.nodes.length ∧ i = .int .i64 k ∧ ∀ (j : Nat) (x : Nd), j < k → G.nodes[j]? = some x → isAnd a b x = false) (fun i => G.nodes.length - (intOf i).toNat)
 case atStart => exact ⟨0, Nat.zero_le _, rfl, fun j x hj => by omega⟩
 case round =>
  obtain ⟨k, hk, rfl, hno⟩ := hrel
  have HNO := Hi9 hno; clear hno
  by_cases hlt : k < G.nodes.length
  ·obtain ⟨x, hx⟩ : ∃ x, G.nodes[k]? = some x := ⟨_, List.getElem?_eq_getElem hlt⟩
   obtain ⟨c0, c1, c2⟩ := HH.out.node hx
   have HX := Hi9 hx; clear hx
   have hstep : isAnd a b x = false → ∀ (j : Nat) (y : Nd), j < k + 1 → G.nodes[j]? = some y → isAnd a b y = false := fun hf j y hj hy => by
    by_cases e : j = k
    ·subst e; rw [HX.out] at hy; cases hy; exact hf
    ·exact HNO.out j y (by omega) hy
   have HST := Hi9 hstep; clear hstep
   by_cases hk3 : x.k = 3
   ·have p0 : ((x.k : Int) == 3) = true := by simp [hk3]
    by_cases hxl : x.l = a
    ·have p1 : ((x.l : Int) == (a : Int)) = true := by simp [hxl]
     by_cases hxr : x.r = b
     ·have p2 : ((x.r : Int) == (b : Int)) = true := by simp [hxr]
      have hq := HFS.out k (findAnd_at HX.out (by simp [isAnd, hk3, hxl, hxr]) HNO.out)
      rw [hq]
      have HQ := Hi9 hq
      clear hk3 hxl hxr hq
      go_wp2_with fail
      have hc9 : Ch [w.heap.size + 1] W0 ((W0.setCell ⟨w.heap.size + 1, 0, none⟩ (.int .i64 G.most)).setCell ⟨w.heap.size + 1, 1, none⟩ (.slice (some ⟨rb, 0, none⟩) G.nodes.length cap)) := ((Ch.refl _ _).setCell (by simp) _).setCell (by simp) _
      refine bodyPost_ret (v := .tuple #[.agg #[.int .i64 G.most, .slice (some ⟨rb, 0, none⟩) G.nodes.length cap], .int .i64 (2 * k), .int .i64 0]) (by simp [results, Tryz.results196, go_sem, z0, z1]) rfl ?_
      have := RTo.self H.out (HC0.out.trans hc9 (fun k hk => .inr (by simp at hk; omega))) (2 * k) 0
      simpa using this
     ·have p2 : ((x.r : Int) == (b : Int)) = false := by simp; omega
      have hf := HST.out (by simp [isAnd, hxr])
      have HF := Hi9 hf; clear hf HST
      clear hk3 hxl hxr
      go_wp2_with fail
      go_round
      case rel => exact ⟨k + 1, by omega, by go_num, HF.out⟩
      case measure => simp [intOf]; omega
    ·have p1 : ((x.l : Int) == (a : Int)) = false := by simp; omega
     have hf := HST.out (by simp [isAnd, hxl])
     have HF := Hi9 hf; clear hf HST
     clear hk3 hxl
     go_wp2_with fail
     go_round
     case rel => exact ⟨k + 1, by omega, by go_num, HF.out⟩
     case measure => simp [intOf]; omega
   ·have p0 : ((x.k : Int) == 3) = false := by simp; omega
    have hf := HST.out (by simp [isAnd, hk3])
    have HF := Hi9 hf; clear hf HST
    clear hk3
    go_wp2_with fail
    go_round
    case rel => exact ⟨k + 1, by omega, by go_num, HF.out⟩
    case measure => simp [intOf]; omega
  ·have hkn : k = G.nodes.length := by omega
   have hnone := findAnd_no (ns := G.nodes) (l := a) (r := b) (fun j y hj hy => HNO.out j y (by omega) hy)
   have hq := HFN.out hnone
   have HQ := Hi9 hq
   have hP : Calls Tryz.prog 194 #[.agg #[.int .i64 G.most, .slice (some ⟨rb, 0, none⟩) G.nodes.length cap], .agg #[.int .i64 3, .int .i64 a, .int .i64 b]] W0 (RTo W0 rb (put G ⟨3, a, b, dd⟩)) := rPut_is HH.out ⟨3, a, b, dd⟩ (HOK.out hnone)
   have HP := Hi9 hP; clear hP
   clear hq hnone hkn
   generalize put G ⟨3, a, b, dd⟩ = RR at *
   go_wp2_with fail
   refine HP.out.mono ?_
   rintro e w5 ⟨rb', cap', rfl, hrg, hch, hfr⟩
   have y0 := hch.cell (cell_lt z0) (by simp)
   have y1 := hch.cell (cell_lt z1) (by simp)
   rw [z0] at y0
   rw [z1] at y1
   have g0 := (B4.out.ch hch (by simp)).frozen (i := 0)
   have g1 := (B4.out.ch hch (by simp)).frozen (i := 1)
   have hne : rb' ≠ w.heap.size + 1 := by
    rcases hfr with e | e
    ·omega
    ·have := B4.out.lt; omega
   have HRG := Hi9 hrg; clear hrg
   have HCH := Hi9 hch; clear hch
   clear z0 z1 f0 f1
   go_wp2_with fail
   have hc9 : Ch [w.heap.size + 1] w5 ((w5.setCell ⟨w.heap.size + 1, 0, none⟩ (.int .i64 RR.1.most)).setCell ⟨w.heap.size + 1, 1, none⟩ (.slice (some ⟨rb', 0, none⟩) RR.1.nodes.length cap')) := ((Ch.refl _ _).setCell (by simp) _).setCell (by simp) _
   refine bodyPost_ret (v := .tuple #[.agg #[.int .i64 RR.1.most, .slice (some ⟨rb', 0, none⟩) RR.1.nodes.length cap'], .int .i64 RR.2.1, .int .i64 RR.2.2]) (by simp [results, Tryz.results196, go_sem, y0, y1]) rfl ?_
   have hs0 := HC0.out.size
   rw [HQ.out]
   exact ⟨rb', cap', rfl, HRG.out.ch hc9 (by simpa using hne), (HC0.out.trans HCH.out (by simp)).trans hc9 (fun k hk => .inr (by simp at hk; omega)), hfr.imp id (fun e => by omega)⟩
theorem rAnd_gt {w : World} {rb cap : Nat} {G : Gra} (h : RG w rb cap G) {a b : Nat} (ha : a < 2 * G.nodes.length) (hb : b < 2 * G.nodes.length) (hab : decide (b < a) = true) : Calls Tryz.prog 196 #[.agg #[.int .i64 G.most, .slice (some ⟨rb, 0, none⟩) G.nodes.length cap], .int .i64 a, .int .i64 b] w (RTo w rb (and G a b)) := by
 obtain ⟨hl, hp, hmo⟩ := h.len
 have hle := h.le
 have hmx := h.mx
 have hrb := h.lt
 have hs := and_sort G (a := a) (b := b) (l := b) (r := a) (by have := of_decide_eq_true hab; omega) (by have := of_decide_eq_true hab; omega)
 have hlr : b ≤ a := by have := of_decide_eq_true hab; omega
 have hNot := fun (W : World) => rNot_is W a (by omega)
 have HNOT := Hi9 hNot; clear hNot
 have hc2 : Ch [] w ((w.alloc (.cells #[.int .i64 G.most, .slice (some ⟨rb, 0, none⟩) G.nodes.length cap] 123)).alloc (.cells #[.int .i64 G.most, .slice (some ⟨rb, 0, none⟩) G.nodes.length cap] 123)) := ((Ch.refl _ _).alloc _).alloc _
 have HC2 := Hi9 hc2; clear hc2
 have H := Hi9 h; clear h
 by_cases h0 : b = 0
 ·have hq := hs.1 (.inl h0)
  have q0 : ((b : Int) == 0) = true := by simp [h0]
  rw [hq]
  have HF := Hi9 (RTo.self H.out HC2.out 0 0)
  clear hs hq h0
  go_enter Tryz.func196, Tryz.ntmps196
  go_wp2_with fail
  exact bodyPost_ret (v := .tuple #[.agg #[.int .i64 G.most, .slice (some ⟨rb, 0, none⟩) G.nodes.length cap], .int .i64 0, .int .i64 0]) (by simp [results, Tryz.results196, go_sem]) rfl HF.out
 have q0 : ((b : Int) == 0) = false := by simp; omega
 by_cases h1 : b = neg a
 ·have hq := hs.1 (.inr h1)
  have q1 : ((b : Int) == (neg a : Nat)) = true := by rw [← h1]; simp
  rw [hq]
  have HF := Hi9 (RTo.self H.out HC2.out 0 0)
  clear hs hq h0 h1
  go_enter Tryz.func196, Tryz.ntmps196
  go_wp2_with fail
  refine (HNOT.out _).mono ?_
  rintro e w' ⟨rfl, rfl⟩
  generalize neg a = nr at *
  go_wp2_with fail
  exact bodyPost_ret (v := .tuple #[.agg #[.int .i64 G.most, .slice (some ⟨rb, 0, none⟩) G.nodes.length cap], .int .i64 0, .int .i64 0]) (by simp [results, Tryz.results196, go_sem]) rfl HF.out
 have q1 : ((b : Int) == (neg a : Nat)) = false := by simp; omega
 have hno : ¬ (b = 0 ∨ b = neg a) := by simp [h0, h1]
 clear h0 h1
 by_cases h2 : b = 1
 ·have hq := hs.2.1 hno (.inl h2)
  have q2 : ((b : Int) == 1) = true := by simp [h2]
  rw [hq]
  have HF := Hi9 (RTo.self H.out HC2.out a 0)
  clear hs hq h2 hno
  go_enter Tryz.func196, Tryz.ntmps196
  go_wp2_with fail
  refine (HNOT.out _).mono ?_
  rintro e w' ⟨rfl, rfl⟩
  generalize neg a = nr at *
  go_wp2_with fail
  exact bodyPost_ret (v := .tuple #[.agg #[.int .i64 G.most, .slice (some ⟨rb, 0, none⟩) G.nodes.length cap], .int .i64 a, .int .i64 0]) (by simp [results, Tryz.results196, go_sem]) rfl HF.out
 have q2 : ((b : Int) == 1) = false := by simp; omega
 by_cases h3 : b = a
 ·have hq := hs.2.1 hno (.inr h3)
  have q3 : ((b : Int) == (a : Int)) = true := by simp [h3]
  rw [hq]
  have HF := Hi9 (RTo.self H.out HC2.out a 0)
  clear hs hq h2 hno h3
  go_enter Tryz.func196, Tryz.ntmps196
  go_wp2_with fail
  refine (HNOT.out _).mono ?_
  rintro e w' ⟨rfl, rfl⟩
  generalize neg a = nr at *
  go_wp2_with fail
  exact bodyPost_ret (v := .tuple #[.agg #[.int .i64 G.most, .slice (some ⟨rb, 0, none⟩) G.nodes.length cap], .int .i64 a, .int .i64 0]) (by simp [results, Tryz.results196, go_sem]) rfl HF.out
 have q3 : ((b : Int) == (a : Int)) = false := by simp; omega
 obtain ⟨hi, hfs, hfn⟩ := hs.2.2 hno (by simp [h2, h3])
 have hok : findAnd G.nodes b a = none → G.nodes.length < G.most → Ok { G with nodes := G.nodes ++ [⟨3, b, a, 1 + max (dep G.nodes a) (dep G.nodes b)⟩] } := fun hf hm => ⟨H.out.ok.wf.and hi ha hb hf, by simp; omega, H.out.ok.most⟩
 generalize 1 + max (dep G.nodes a) (dep G.nodes b) = dd at *
 have HOK := Hi9 hok; clear hok
 have HFS := Hi9 hfs; clear hfs
 have HFN := Hi9 hfn; clear hfn
 clear hs hno h2 h3 hi
 go_enter Tryz.func196, Tryz.ntmps196
 go_wp2_with fail
 refine (HNOT.out _).mono ?_
 rintro e w' ⟨rfl, rfl⟩
 generalize neg a = nr at *
 go_wp2_with fail
 refine wp_alw ?_
 intro W0 hW0
 have hc0 : Ch [] w W0 := by rw [hW0]; exact ((Ch.refl _ _).alloc _).alloc _
 have b2 : blk W0 w.heap.size [.int .i64 G.most, .slice (some ⟨rb, 0, none⟩) G.nodes.length cap] := by rw [hW0]; exact (blk.new' (w := w) [.int .i64 G.most, .slice (some ⟨rb, 0, none⟩) G.nodes.length cap] 123 rfl).alloc _
 have b4 : blk W0 (w.heap.size + 1) [.int .i64 0, .slice none 0 0] := by rw [hW0]; exact blk.new' [.int .i64 0, .slice none 0 0] 123 (by simp)
 clear hW0 HNOT HC2
 have H0 := H.out.ch hc0 (by simp)
 have y0 := b2.cell (i := 0) rfl
 have y1 := b2.cell (i := 1) rfl
 have z0 := b4.cell (i := 0) rfl
 have z1 := b4.cell (i := 1) rfl
 have f0 := b4.frozen (i := 0)
 have f1 := b4.frozen (i := 1)
 have B2 := Hi9 b2; clear b2
 have B4 := Hi9 b4; clear b4
 have HC0 := Hi9 hc0; clear hc0
 have HH := Hi9 H0; clear H0
 go_loop [9] (fun i => ∃ k : Nat, k ≤ G.nodes.length ∧ i = .int .i64 k ∧ ∀ (j : Nat) (x : Nd), j < k → G.nodes[j]? = some x → isAnd b a x = false) (fun i => G.nodes.length - (intOf i).toNat)
 case atStart => exact ⟨0, Nat.zero_le _, rfl, fun j x hj => by omega⟩
 case round =>
  obtain ⟨k, hk, rfl, hno⟩ := hrel
  have HNO := Hi9 hno; clear hno
  by_cases hlt : k < G.nodes.length
  ·obtain ⟨x, hx⟩ : ∃ x, G.nodes[k]? = some x := ⟨_, List.getElem?_eq_getElem hlt⟩
   obtain ⟨c0, c1, c2⟩ := HH.out.node hx
   have HX := Hi9 hx; clear hx
   have hstep : isAnd b a x = false → ∀ (j : Nat) (y : Nd), j < k + 1 → G.nodes[j]? = some y → isAnd b a y = false := fun hf j y hj hy => by
    by_cases e : j = k
    ·subst e; rw [HX.out] at hy; cases hy; exact hf
    ·exact HNO.out j y (by omega) hy
   have HST := Hi9 hstep; clear hstep
   by_cases hk3 : x.k = 3
   ·have p0 : ((x.k : Int) == 3) = true := by simp [hk3]
    by_cases hxl : x.l = b
    ·have p1 : ((x.l : Int) == (b : Int)) = true := by simp [hxl]
     by_cases hxr : x.r = a
     ·have p2 : ((x.r : Int) == (a : Int)) = true := by simp [hxr]
      have hq := HFS.out k (findAnd_at HX.out (by simp [isAnd, hk3, hxl, hxr]) HNO.out)
      rw [hq]
      have HQ := Hi9 hq
      clear hk3 hxl hxr hq
      go_wp2_with fail
      have hc9 : Ch [w.heap.size + 1] W0 ((W0.setCell ⟨w.heap.size + 1, 0, none⟩ (.int .i64 G.most)).setCell ⟨w.heap.size + 1, 1, none⟩ (.slice (some ⟨rb, 0, none⟩) G.nodes.length cap)) := ((Ch.refl _ _).setCell (by simp) _).setCell (by simp) _
      refine bodyPost_ret (v := .tuple #[.agg #[.int .i64 G.most, .slice (some ⟨rb, 0, none⟩) G.nodes.length cap], .int .i64 (2 * k), .int .i64 0]) (by simp [results, Tryz.results196, go_sem, z0, z1]) rfl ?_
      have := RTo.self H.out (HC0.out.trans hc9 (fun k hk => .inr (by simp at hk; omega))) (2 * k) 0
      simpa using this
     ·have p2 : ((x.r : Int) == (a : Int)) = false := by simp; omega
      have hf := HST.out (by simp [isAnd, hxr])
      have HF := Hi9 hf; clear hf HST
      clear hk3 hxl hxr
      go_wp2_with fail
      go_round
      case rel => exact ⟨k + 1, by omega, by go_num, HF.out⟩
      case measure => simp [intOf]; omega
    ·have p1 : ((x.l : Int) == (b : Int)) = false := by simp; omega
     have hf := HST.out (by simp [isAnd, hxl])
     have HF := Hi9 hf; clear hf HST
     clear hk3 hxl
     go_wp2_with fail
     go_round
     case rel => exact ⟨k + 1, by omega, by go_num, HF.out⟩
     case measure => simp [intOf]; omega
   ·have p0 : ((x.k : Int) == 3) = false := by simp; omega
    have hf := HST.out (by simp [isAnd, hk3])
    have HF := Hi9 hf; clear hf HST
    clear hk3
    go_wp2_with fail
    go_round
    case rel => exact ⟨k + 1, by omega, by go_num, HF.out⟩
    case measure => simp [intOf]; omega
  ·have hkn : k = G.nodes.length := by omega
   have hnone := findAnd_no (ns := G.nodes) (l := b) (r := a) (fun j y hj hy => HNO.out j y (by omega) hy)
   have hq := HFN.out hnone
   have HQ := Hi9 hq
   have hP : Calls Tryz.prog 194 #[.agg #[.int .i64 G.most, .slice (some ⟨rb, 0, none⟩) G.nodes.length cap], .agg #[.int .i64 3, .int .i64 b, .int .i64 a]] W0 (RTo W0 rb (put G ⟨3, b, a, dd⟩)) := rPut_is HH.out ⟨3, b, a, dd⟩ (HOK.out hnone)
   have HP := Hi9 hP; clear hP
   clear hq hnone hkn
   generalize put G ⟨3, b, a, dd⟩ = RR at *
   go_wp2_with fail
   refine HP.out.mono ?_
   rintro e w5 ⟨rb', cap', rfl, hrg, hch, hfr⟩
   have y0 := hch.cell (cell_lt z0) (by simp)
   have y1 := hch.cell (cell_lt z1) (by simp)
   rw [z0] at y0
   rw [z1] at y1
   have g0 := (B4.out.ch hch (by simp)).frozen (i := 0)
   have g1 := (B4.out.ch hch (by simp)).frozen (i := 1)
   have hne : rb' ≠ w.heap.size + 1 := by
    rcases hfr with e | e
    ·omega
    ·have := B4.out.lt; omega
   have HRG := Hi9 hrg; clear hrg
   have HCH := Hi9 hch; clear hch
   clear z0 z1 f0 f1
   go_wp2_with fail
   have hc9 : Ch [w.heap.size + 1] w5 ((w5.setCell ⟨w.heap.size + 1, 0, none⟩ (.int .i64 RR.1.most)).setCell ⟨w.heap.size + 1, 1, none⟩ (.slice (some ⟨rb', 0, none⟩) RR.1.nodes.length cap')) := ((Ch.refl _ _).setCell (by simp) _).setCell (by simp) _
   refine bodyPost_ret (v := .tuple #[.agg #[.int .i64 RR.1.most, .slice (some ⟨rb', 0, none⟩) RR.1.nodes.length cap'], .int .i64 RR.2.1, .int .i64 RR.2.2]) (by simp [results, Tryz.results196, go_sem, y0, y1]) rfl ?_
   have hs0 := HC0.out.size
   rw [HQ.out]
   exact ⟨rb', cap', rfl, HRG.out.ch hc9 (by simpa using hne), (HC0.out.trans HCH.out (by simp)).trans hc9 (fun k hk => .inr (by simp at hk; omega)), hfr.imp id (fun e => by omega)⟩
theorem rAnd_is {w : World} {rb cap : Nat} {G : Gra} (h : RG w rb cap G) {a b : Nat} (ha : a < 2 * G.nodes.length) (hb : b < 2 * G.nodes.length) : Calls Tryz.prog 196 #[.agg #[.int .i64 G.most, .slice (some ⟨rb, 0, none⟩) G.nodes.length cap], .int .i64 a, .int .i64 b] w (RTo w rb (and G a b)) := by
 cases hd : decide (b < a)
 ·exact rAnd_le h ha hb hd
 ·exact rAnd_gt h ha hb hd
end
end Go.Proofs.YtehljgigebhddaaGreat
namespace Go.Aig
def rOr (G : Gra) (a b : Nat) : Res := if (and G (neg a) (neg b)).2.2 ≠ 0 then (G, 0, (and G (neg a) (neg b)).2.2) else ((and G (neg a) (neg b)).1, neg (and G (neg a) (neg b)).2.1, 0)
theorem rOr_ok {G : Gra} (h : Ok G) {a b : Nat} (ha : a < 2 * G.nodes.length) (hb : b < 2 * G.nodes.length) :
  Ok (rOr G a b).1 ∧ Ext G (rOr G a b).1 ∧ (rOr G a b).2.1 < 2 * (rOr G a b).1.nodes.length ∧ ((rOr G a b).2.2 = 0 ∨ (rOr G a b).2.2 = 201) := by
 obtain ⟨h1, h2, h3, h4⟩ := and_ok h (neg_lt ha) (neg_lt hb)
 have := h.wf.pos
 unfold rOr
 split
 ·exact ⟨h, .refl _, by show 0 < 2 * G.nodes.length; omega, h4⟩
 ·exact ⟨h1, h2, neg_lt h3, .inl rfl⟩
end Go.Aig
namespace Go.Proofs.YtehljgigebhddaaGreat
open Go.RowKit Go.Mem Go.Aig
theorem rto_ne {w : World} {rb rb' b : Nat} {xs : List Value} (h : blk w b xs) (hr : rb ≠ b) (hf : rb' = rb ∨ w.heap.size ≤ rb') : rb' ≠ b := by
 have := h.lt
 rcases hf with e | e <;> omega
theorem set2_ch {w W : World} {b : Nat} {u v : Value} (h : W = (w.setCell ⟨b, 0, none⟩ u).setCell ⟨b, 1, none⟩ v) : Ch [b] w W := by rw [h]; exact ((Ch.refl [b] _).setCell (by simp) _).setCell (by simp) _
theorem rg_ne {w : World} {rb cap : Nat} {G : Gra} (h : RG w rb cap G) : rb ≠ w.heap.size := by have := h.lt; omega
section
theorem rOr_is {w : World} {rb cap : Nat} {G : Gra} (h : RG w rb cap G) {a b : Nat} (ha : a < 2 * G.nodes.length) (hb : b < 2 * G.nodes.length) : Calls Tryz.prog 355 #[.agg #[.int .i64 G.most, .slice (some ⟨rb, 0, none⟩) G.nodes.length cap], .int .i64 a, .int .i64 b] w (RTo w rb (rOr G a b)) := by
 obtain ⟨hl, hp, hmo⟩ := h.len
 have hle := h.le
 have hmx := h.mx
 have hrb := h.lt
 obtain ⟨o1, o2, o3, o4⟩ := and_ok h.ok (neg_lt ha) (neg_lt hb)
 have hNa := fun (W : World) => rNot_is W a (by omega)
 have hNb := fun (W : World) => rNot_is W b (by omega)
 have HNA := Hi9 hNa; clear hNa
 have HNB := Hi9 hNb; clear hNb
 have hAnd := fun (W : World) (hW : Ch [] w W) => rAnd_is (h.ch hW (by simp)) (neg_lt ha) (neg_lt hb)
 have hro : rOr G a b = if (Aig.and G (neg a) (neg b)).2.2 ≠ 0 then (G, 0, (Aig.and G (neg a) (neg b)).2.2) else ((Aig.and G (neg a) (neg b)).1, neg (Aig.and G (neg a) (neg b)).2.1, 0) := rfl
 generalize Aig.and G (neg a) (neg b) = R at *
 generalize neg a = na at *
 generalize neg b = nb at *
 generalize rOr G a b = RO at *
 have hR3 : R.2.1 < 2 * 65536 := by have := o1.room; have := o1.most; omega
 have hNr := fun (W : World) => rNot_is W R.2.1 (by omega)
 have HNR := Hi9 hNr; clear hNr
 have HRO := Hi9 hro; clear hro
 have HAND := Hi9 hAnd; clear hAnd
 have H := Hi9 h; clear h
 have O4 := Hi9 o4; clear o4
 clear o1 o2 o3 ha hb
 go_enter Tryz.func355, Tryz.ntmps355
 go_wp2_with fail
 refine wp_alw ?_
 intro W0 hW0
 have hc0 : Ch [] w W0 := by rw [hW0]; exact ((Ch.refl _ _).alloc _).alloc _
 have b2 : blk W0 w.heap.size [.int .i64 G.most, .slice (some ⟨rb, 0, none⟩) G.nodes.length cap] := by rw [hW0]; exact (blk.new' (w := w) [.int .i64 G.most, .slice (some ⟨rb, 0, none⟩) G.nodes.length cap] 123 rfl).alloc _
 have b4 : blk W0 (w.heap.size + 1) [.int .i64 0, .slice none 0 0] := by rw [hW0]; exact blk.new' [.int .i64 0, .slice none 0 0] 123 (by simp)
 clear hW0
 have B2 := Hi9 b2; clear b2
 have B4 := Hi9 b4; clear b4
 have HC0 := Hi9 hc0; clear hc0
 refine Ord.St.door (fun w' => Ch [] W0 w') [.ho, .fl, .fl, .fl, .fl, .ef, .fl, .fl, .fl, .fl, .ef, .ef, .fl, .fl] [0, 0, 2, 0, 14, 31, 63, 127, 127, 127, 0, 1279, 3583, 8191] [0, 1, 2, 3, 4, 5, 6, 7, 8, 9, 10, 11, 12, 13] mixed (by kernel_rfl) rfl ?_
 obtain ⟨Wc, hWc⟩ : ∃ Wc, Wc = W0.drew := ⟨_, rfl⟩
 rw [← hWc]
 have hcur : Ch [] W0 Wc := by rw [hWc]; exact (Ch.refl _ _).drew
 clear hWc
 refine Ord.H9 ?_ 0 [1, 2, 3, 4, 5, 6, 7, 8, 9, 10, 11, 12, 13] ?_ (fun K w' hw' hk => ?_) ?_
 rotate_left
 ·trivial
 ·have y0 := (B2.out.ch hw' (by simp)).cell (i := 0) rfl; have y1 := (B2.out.ch hw' (by simp)).cell (i := 1) rfl; go_step; exact hk
 (refine Ord.F9 ?_ (fun K w' hk => ?_) ?_; rotate_left; focus (go_step; exact hk))
 refine Ord.G9 ?_ 2 [3, 4, 5, 6, 7, 8, 9, 10, 11, 12, 13] (fun K w' hk => ?_) ?_
 rotate_left
 ·go_step; refine (HNA.out _).mono ?_; rintro e w'' ⟨rfl, rfl⟩; exact hk
 (refine Ord.F9 ?_ (fun K w' hk => ?_) ?_; rotate_left; focus (go_step; exact hk))
 refine Ord.G9 ?_ 4 [5, 6, 7, 8, 9, 10, 11, 12, 13] (fun K w' hk => ?_) ?_
 rotate_left
 ·go_step; refine (HNB.out _).mono ?_; rintro e w'' ⟨rfl, rfl⟩; exact hk
 refine Ord.St.two 5 10 [6, 7, 8, 9, 10, 11, 12, 13] [5, 6, 7, 8, 9, 11, 12, 13] _ _ (by kernel_rfl) rfl rfl (by kernel_rfl) (by kernel_rfl) (fun K hK => ?_) (fun K hK => ?_)
 ·have HA := Hi9 (HAND.out _ (HC0.out.trans hcur (by simp)))
  go_wp2_with fail
  refine HA.out.mono ?_
  rintro e w5 ⟨rb', cap', rfl, hrg, hch, hfr⟩
  go_wp2_with fail
  refine ⟨rfl, hK _ _ ?_ ?_⟩
  ·exact hcur.trans hch (by simp)
  clear hK K
  try have hne := rto_ne hb9 (by have := HC0.out.size; have := hs9; omega) hfr
  try replace hb9 := hb9.ch hch (by simp)
  try have hlo9 := hs9
  have hfr0 : rb' = rb ∨ w.heap.size ≤ rb' := hfr.imp id (fun e => by have := HC0.out.size; have := hcur.size; omega)
  have hfr4 := rto_ne (B4.out.ch hcur (by simp)) (by omega) hfr
  replace hcur := hcur.trans hch (by simp)
  clear hch hfr HA
  iterate 4 (refine Ord.F9 ?_ (fun K w' hk => ?_) ?_; rotate_left; focus (go_step; exact hk))
  refine Ord.St.efC 10 [11, 12, 13] _ rfl (by kernel_rfl) (fun K hK => ?_)
  go_wp2_with fail
  refine ⟨rfl, hK _ _ ?_ ?_⟩
  ·exact hcur.alloc _
  clear hK K
  refine Ord.St.alw ?_; intro Wn hWn
  have hb9 := alw_blk (xs := [.int .i64 0, .slice none 0 0]) hWn
  have hs9 := hcur.size
  try have hne := rg_ne hrg
  try replace hrg := hrg.ch (alw_ch hWn) (by simp)
  replace hcur := hcur.al9 hWn
  clear hWn
  first | (have _t := hrg; clear _t; generalize w5.heap.size = b9 at *) | generalize Wc.heap.size = b9 at *
  refine Ord.St.ef 11 [12, 13] _ rfl (by kernel_rfl) (fun K hK => ?_)
  have z0 := hb9.cell (i := 0) rfl
  have z1 := hb9.cell (i := 1) rfl
  have g0 := hb9.frozen (i := 0)
  have g1 := hb9.frozen (i := 1)
  have HRG := Hi9 hrg; clear hrg
  have HB9 := Hi9 hb9; clear hb9
  go_wp2_with fail
  refine ⟨rfl, hK _ _ ?_⟩; clear hK K
  iterate 2 (refine Ord.F9 ?_ (fun K w' hk => ?_) ?_; rotate_left; focus (go_step; exact hk))
  refine Ord.St.nil ?_
  go_upto_region 2 with fail
  refine wp_alw ?_
  intro W6 hW6
  have hb9 : blk W6 b9 [.int .i64 R.1.most, .slice (some ⟨rb', 0, none⟩) R.1.nodes.length cap'] := by rw [hW6]; exact (HB9.out.set (i := 0) _).set (i := 1) _
  have hc9 := set2_ch hW6
  have hc6 := hcur.trans hc9 (fun k hk => .inr (by simp at hk; omega))
  have hr6 := HRG.out.ch hc9 (by simpa using hne)
  have b2 := B2.out.ch hc6 (by simp)
  have b4 := B4.out.ch hc6 (by simp)
  have c06 := HC0.out.trans hc6 (by simp)
  have x0 := hb9.cell (i := 0) rfl
  have x1 := hb9.cell (i := 1) rfl
  have y0 := b2.cell (i := 0) rfl
  have y1 := b2.cell (i := 1) rfl
  have v0 := b4.cell (i := 0) rfl
  have v1 := b4.cell (i := 1) rfl
  have f0 := b4.frozen (i := 0)
  have f1 := b4.frozen (i := 1)
  have HR6 := Hi9 hr6; clear hr6
  have C06 := Hi9 c06; clear c06
  have FR0 := Hi9 hfr0; clear hfr0
  clear hW6 HRG HB9 hb9 hc9 hc6 z0 z1 g0 g1 b2 b4 hcur
  rcases O4.out with he | he
  ·have q : ((R.2.2 : Int) != 0) = false := by simp [he]
   have hro := HRO.out
   rw [if_neg (by simp [he])] at hro
   have HRO2 := Hi9 hro; clear hro he
   go_wp2_with fail
   refine Ord.St.door (fun _ => True) [.rd, .fl, .fl, .ef, .fl, .fl] [0, 0, 2, 7, 15, 31] [0, 1, 2, 3, 4, 5] mixed (by kernel_rfl) rfl ?_
   (refine Ord.Q9 ?_ (fun K hk => ?_) ?_; rotate_left; focus (go_step; exact hk))
   (refine Ord.F9 ?_ (fun K w' hk => ?_) ?_; rotate_left; focus (go_step; exact hk))
   refine Ord.G9 ?_ 2 [3, 4, 5] (fun K w' hk => ?_) ?_
   rotate_left
   ·go_step; refine (HNR.out _).mono ?_; rintro e w'' ⟨rfl, rfl⟩; exact hk
   refine Ord.St.ef 3 [4, 5] _ rfl (by kernel_rfl) (fun K hK => ?_)
   go_wp2_with fail
   refine ⟨rfl, hK _ _ ?_⟩; clear hK K
   iterate 2 (refine Ord.F9 ?_ (fun K w' hk => ?_) ?_; rotate_left; focus (go_step; exact hk))
   refine Ord.St.nil ?_
   go_wp2_with fail
   have hcc : Ch [w.heap.size + 1] W6 ((W6.setCell ⟨w.heap.size + 1, 0, none⟩ (.int .i64 R.1.most)).setCell ⟨w.heap.size + 1, 1, none⟩ (.slice (some ⟨rb', 0, none⟩) R.1.nodes.length cap')).drew := (((Ch.refl _ _).setCell (by simp) _).setCell (by simp) _).drew
   refine bodyPost_ret (v := .tuple #[.agg #[.int .i64 R.1.most, .slice (some ⟨rb', 0, none⟩) R.1.nodes.length cap'], .int .i64 (neg R.2.1 : Nat), .int .i64 0]) (by simp [results, Tryz.results355, go_sem, v0, v1]) rfl ?_
   rw [HRO2.out]
   exact ⟨rb', cap', rfl, HR6.out.ch hcc (by simpa using hfr4), C06.out.trans hcc (fun k hk => .inr (by simp at hk; omega)), FR0.out⟩
  ·have q : ((R.2.2 : Int) != 0) = true := by simp [he]
   have hro := HRO.out
   rw [if_pos (by simp [he])] at hro
   have HRO2 := Hi9 hro; clear hro he
   go_wp2_with fail
   have hcc : Ch [w.heap.size + 1] W6 ((W6.setCell ⟨w.heap.size + 1, 0, none⟩ (.int .i64 G.most)).setCell ⟨w.heap.size + 1, 1, none⟩ (.slice (some ⟨rb, 0, none⟩) G.nodes.length cap)) := ((Ch.refl _ _).setCell (by simp) _).setCell (by simp) _
   refine bodyPost_ret (v := .tuple #[.agg #[.int .i64 G.most, .slice (some ⟨rb, 0, none⟩) G.nodes.length cap], .int .i64 0, .int .i64 R.2.2]) (by simp [results, Tryz.results355, go_sem, v0, v1]) rfl ?_
   rw [HRO2.out]
   exact RTo.self H.out (C06.out.trans hcc (fun k hk => .inr (by simp at hk; omega))) 0 R.2.2
 ·go_wp2_with fail
  refine ⟨rfl, hK _ _ ?_ ?_⟩
  ·exact hcur.alloc _
  clear hK K
  refine Ord.St.alw ?_; intro Wn hWn
  have hb9 := alw_blk (xs := [.int .i64 0, .slice none 0 0]) hWn
  have hs9 := hcur.size
  try have hne := rg_ne hrg
  try replace hrg := hrg.ch (alw_ch hWn) (by simp)
  replace hcur := hcur.al9 hWn
  clear hWn
  first | (have _t := hrg; clear _t; generalize w5.heap.size = b9 at *) | generalize Wc.heap.size = b9 at *
  refine Ord.St.ef 5 [6, 7, 8, 9, 11, 12, 13] _ rfl (by kernel_rfl) (fun K hK => ?_)
  have HA := Hi9 (HAND.out _ (HC0.out.trans hcur (by simp)))
  go_wp2_with fail
  refine HA.out.mono ?_
  rintro e w5 ⟨rb', cap', rfl, hrg, hch, hfr⟩
  go_wp2_with fail
  refine ⟨rfl, hK _ _ ?_⟩; clear hK K
  try have hne := rto_ne hb9 (by have := HC0.out.size; have := hs9; omega) hfr
  try replace hb9 := hb9.ch hch (by simp)
  try have hlo9 := hs9
  have hfr0 : rb' = rb ∨ w.heap.size ≤ rb' := hfr.imp id (fun e => by have := HC0.out.size; have := hcur.size; omega)
  have hfr4 := rto_ne (B4.out.ch hcur (by simp)) (by omega) hfr
  replace hcur := hcur.trans hch (by simp)
  clear hch hfr HA
  iterate 4 (refine Ord.F9 ?_ (fun K w' hk => ?_) ?_; rotate_left; focus (go_step; exact hk))
  refine Ord.St.ef 11 [12, 13] _ rfl (by kernel_rfl) (fun K hK => ?_)
  have z0 := hb9.cell (i := 0) rfl
  have z1 := hb9.cell (i := 1) rfl
  have g0 := hb9.frozen (i := 0)
  have g1 := hb9.frozen (i := 1)
  have HRG := Hi9 hrg; clear hrg
  have HB9 := Hi9 hb9; clear hb9
  go_wp2_with fail
  refine ⟨rfl, hK _ _ ?_⟩; clear hK K
  iterate 2 (refine Ord.F9 ?_ (fun K w' hk => ?_) ?_; rotate_left; focus (go_step; exact hk))
  refine Ord.St.nil ?_
  go_upto_region 2 with fail
  refine wp_alw ?_
  intro W6 hW6
  have hb9 : blk W6 b9 [.int .i64 R.1.most, .slice (some ⟨rb', 0, none⟩) R.1.nodes.length cap'] := by rw [hW6]; exact (HB9.out.set (i := 0) _).set (i := 1) _
  have hc9 := set2_ch hW6
  have hc6 := hcur.trans hc9 (fun k hk => .inr (by simp at hk; omega))
  have hr6 := HRG.out.ch hc9 (by simpa using hne)
  have b2 := B2.out.ch hc6 (by simp)
  have b4 := B4.out.ch hc6 (by simp)
  have c06 := HC0.out.trans hc6 (by simp)
  have x0 := hb9.cell (i := 0) rfl
  have x1 := hb9.cell (i := 1) rfl
  have y0 := b2.cell (i := 0) rfl
  have y1 := b2.cell (i := 1) rfl
  have v0 := b4.cell (i := 0) rfl
  have v1 := b4.cell (i := 1) rfl
  have f0 := b4.frozen (i := 0)
  have f1 := b4.frozen (i := 1)
  have HR6 := Hi9 hr6; clear hr6
  have C06 := Hi9 c06; clear c06
  have FR0 := Hi9 hfr0; clear hfr0
  clear hW6 HRG HB9 hb9 hc9 hc6 z0 z1 g0 g1 b2 b4 hcur
  rcases O4.out with he | he
  ·have q : ((R.2.2 : Int) != 0) = false := by simp [he]
   have hro := HRO.out
   rw [if_neg (by simp [he])] at hro
   have HRO2 := Hi9 hro; clear hro he
   go_wp2_with fail
   refine Ord.St.door (fun _ => True) [.rd, .fl, .fl, .ef, .fl, .fl] [0, 0, 2, 7, 15, 31] [0, 1, 2, 3, 4, 5] mixed (by kernel_rfl) rfl ?_
   (refine Ord.Q9 ?_ (fun K hk => ?_) ?_; rotate_left; focus (go_step; exact hk))
   (refine Ord.F9 ?_ (fun K w' hk => ?_) ?_; rotate_left; focus (go_step; exact hk))
   refine Ord.G9 ?_ 2 [3, 4, 5] (fun K w' hk => ?_) ?_
   rotate_left
   ·go_step; refine (HNR.out _).mono ?_; rintro e w'' ⟨rfl, rfl⟩; exact hk
   refine Ord.St.ef 3 [4, 5] _ rfl (by kernel_rfl) (fun K hK => ?_)
   go_wp2_with fail
   refine ⟨rfl, hK _ _ ?_⟩; clear hK K
   iterate 2 (refine Ord.F9 ?_ (fun K w' hk => ?_) ?_; rotate_left; focus (go_step; exact hk))
   refine Ord.St.nil ?_
   go_wp2_with fail
   have hcc : Ch [w.heap.size + 1] W6 ((W6.setCell ⟨w.heap.size + 1, 0, none⟩ (.int .i64 R.1.most)).setCell ⟨w.heap.size + 1, 1, none⟩ (.slice (some ⟨rb', 0, none⟩) R.1.nodes.length cap')).drew := (((Ch.refl _ _).setCell (by simp) _).setCell (by simp) _).drew
   refine bodyPost_ret (v := .tuple #[.agg #[.int .i64 R.1.most, .slice (some ⟨rb', 0, none⟩) R.1.nodes.length cap'], .int .i64 (neg R.2.1 : Nat), .int .i64 0]) (by simp [results, Tryz.results355, go_sem, v0, v1]) rfl ?_
   rw [HRO2.out]
   exact ⟨rb', cap', rfl, HR6.out.ch hcc (by simpa using hfr4), C06.out.trans hcc (fun k hk => .inr (by simp at hk; omega)), FR0.out⟩
  ·have q : ((R.2.2 : Int) != 0) = true := by simp [he]
   have hro := HRO.out
   rw [if_pos (by simp [he])] at hro
   have HRO2 := Hi9 hro; clear hro he
   go_wp2_with fail
   have hcc : Ch [w.heap.size + 1] W6 ((W6.setCell ⟨w.heap.size + 1, 0, none⟩ (.int .i64 G.most)).setCell ⟨w.heap.size + 1, 1, none⟩ (.slice (some ⟨rb, 0, none⟩) G.nodes.length cap)) := ((Ch.refl _ _).setCell (by simp) _).setCell (by simp) _
   refine bodyPost_ret (v := .tuple #[.agg #[.int .i64 G.most, .slice (some ⟨rb, 0, none⟩) G.nodes.length cap], .int .i64 0, .int .i64 R.2.2]) (by simp [results, Tryz.results355, go_sem, v0, v1]) rfl ?_
   rw [HRO2.out]
   exact RTo.self H.out (C06.out.trans hcc (fun k hk => .inr (by simp at hk; omega))) 0 R.2.2
end
end Go.Proofs.YtehljgigebhddaaGreat
namespace Go.Aig
def rThen (G : Gra) (X : Res) (Y : Res) : Res := if X.2.2 ≠ 0 then (G, 0, X.2.2) else Y
def rMux (G : Gra) (c a b : Nat) : Res :=
 rThen G (and G c a) (rThen G (and (and G c a).1 (neg c) b) (rThen G (rOr (and (and G c a).1 (neg c) b).1 (and G c a).2.1 (and (and G c a).1 (neg c) b).2.1) ((rOr (and (and G c a).1 (neg c) b).1 (and G c a).2.1 (and (and G c a).1 (neg c) b).2.1).1, (rOr (and (and G c a).1 (neg c) b).1 (and G c a).2.1 (and (and G c a).1 (neg c) b).2.1).2.1, 0)))
def rXor (G : Gra) (a b : Nat) : Res := rMux G a (neg b) b
structure ROk (G : Gra) (R : Res) : Prop where
 ok : Ok R.1
 ext : Ext G R.1
 lt : R.2.1 < 2 * R.1.nodes.length
 err : R.2.2 = 0 ∨ R.2.2 = 201
theorem and_rok {G : Gra} (h : Ok G) {a b : Nat} (ha : a < 2 * G.nodes.length) (hb : b < 2 * G.nodes.length) : ROk G (and G a b) := by
 obtain ⟨h1, h2, h3, h4⟩ := and_ok h ha hb
 exact ⟨h1, h2, h3, h4⟩
theorem rOr_rok {G : Gra} (h : Ok G) {a b : Nat} (ha : a < 2 * G.nodes.length) (hb : b < 2 * G.nodes.length) : ROk G (rOr G a b) := by
 obtain ⟨h1, h2, h3, h4⟩ := rOr_ok h ha hb
 exact ⟨h1, h2, h3, h4⟩
theorem rThen_rok {G : Gra} (h : Ok G) {X Y : Res} (hX : ROk G X) (hY : ROk X.1 Y ∨ ROk G Y) : ROk G (rThen G X Y) := by
 have := h.wf.pos
 unfold rThen
 split
 ·exact ⟨h, .refl _, by show 0 < 2 * G.nodes.length; omega, hX.err⟩
 ·rcases hY with h | h
  ·exact ⟨h.ok, hX.ext.trans h.ext, h.lt, h.err⟩
  ·exact h
theorem ROk.zero {G : Gra} {R : Res} (h : ROk G R) : ROk G (R.1, R.2.1, 0) := ⟨h.ok, h.ext, h.lt, .inl rfl⟩
theorem rMux_rok {G : Gra} (h : Ok G) {c a b : Nat} (hc : c < 2 * G.nodes.length) (ha : a < 2 * G.nodes.length) (hb : b < 2 * G.nodes.length) : ROk G (rMux G c a b) := by
 have h1 := and_rok h hc ha
 have h2 := and_rok h1.ok (h1.ext.lt (neg_lt hc)) (h1.ext.lt hb)
 have h3 := rOr_rok h2.ok (h2.ext.lt h1.lt) h2.lt
 have e12 := h1.ext.trans h2.ext
 unfold rMux
 refine rThen_rok h h1 (.inr ?_)
 refine rThen_rok h ⟨h2.ok, e12, h2.lt, h2.err⟩ (.inr ?_)
 have h4 : ROk G (rOr (and (and G c a).1 (neg c) b).1 (and G c a).2.1 (and (and G c a).1 (neg c) b).2.1) := ⟨h3.ok, e12.trans h3.ext, h3.lt, h3.err⟩
 exact rThen_rok h h4 (.inr h4.zero)
end Go.Aig
namespace Go.Proofs.YtehljgigebhddaaGreat
open Go.RowKit Go.Mem Go.Aig
theorem rThen_bad {G : Gra} {X Y : Res} (h : X.2.2 = 201) : rThen G X Y = (G, 0, X.2.2) := by unfold rThen; rw [if_pos (by rw [h]; simp)]
theorem rThen_good {G : Gra} {X Y : Res} (h : X.2.2 = 0) : rThen G X Y = Y := by unfold rThen; rw [if_neg (by rw [h]; simp)]
section
theorem rMux_is {w : World} {rb cap : Nat} {G : Gra} (h : RG w rb cap G) {c a b : Nat} (hc : c < 2 * G.nodes.length) (ha : a < 2 * G.nodes.length) (hb : b < 2 * G.nodes.length) : Calls Tryz.prog 346 #[.agg #[.int .i64 G.most, .slice (some ⟨rb, 0, none⟩) G.nodes.length cap], .int .i64 c, .int .i64 a, .int .i64 b] w (RTo w rb (rMux G c a b)) := by
 obtain ⟨hl, hp, hmo⟩ := h.len
 have hle := h.le
 have hmx := h.mx
 have hrb := h.lt
 have o1 := and_rok h.ok hc ha
 have o2 := and_rok o1.ok (o1.ext.lt (neg_lt hc)) (o1.ext.lt hb)
 have o3 := rOr_rok o2.ok (o2.ext.lt o1.lt) o2.lt
 have hN := fun (W : World) => rNot_is W c (by omega)
 have HN := Hi9 hN; clear hN
 have hA1 := fun (W : World) (hW : Ch [] w W) => rAnd_is (h.ch hW (by simp)) hc ha
 have hA2 := fun (W : World) (r k : Nat) (hr : RG W r k (Aig.and G c a).1) => rAnd_is hr (o1.ext.lt (neg_lt hc)) (o1.ext.lt hb)
 have hA3 := fun (W : World) (r k : Nat) (hr : RG W r k (Aig.and (Aig.and G c a).1 (neg c) b).1) => rOr_is hr (o2.ext.lt o1.lt) o2.lt
 have hro : rMux G c a b = rThen G (Aig.and G c a) (rThen G (Aig.and (Aig.and G c a).1 (neg c) b) (rThen G (rOr (Aig.and (Aig.and G c a).1 (neg c) b).1 (Aig.and G c a).2.1 (Aig.and (Aig.and G c a).1 (neg c) b).2.1) ((rOr (Aig.and (Aig.and G c a).1 (neg c) b).1 (Aig.and G c a).2.1 (Aig.and (Aig.and G c a).1 (neg c) b).2.1).1, (rOr (Aig.and (Aig.and G c a).1 (neg c) b).1 (Aig.and G c a).2.1 (Aig.and (Aig.and G c a).1 (neg c) b).2.1).2.1, 0))) := rfl
 generalize Aig.and G c a = X at *
 generalize neg c = nc at *
 generalize Aig.and X.1 nc b = Y at *
 generalize rOr Y.1 X.2.1 Y.2.1 = Z at *
 generalize rMux G c a b = RO at *
 have E1 := Hi9 o1.err
 have E2 := Hi9 o2.err
 have E3 := Hi9 o3.err
 clear o1 o2 o3
 have HRO := Hi9 hro; clear hro
 have HA1 := Hi9 hA1; clear hA1
 have HA2 := Hi9 hA2; clear hA2
 have HA3 := Hi9 hA3; clear hA3
 have H := Hi9 h; clear h
 go_enter Tryz.func346, Tryz.ntmps346
 go_wp2_with fail
 have hcx : Ch [] w ((w.alloc (.cells #[.int .i64 G.most, .slice (some ⟨rb, 0, none⟩) G.nodes.length cap] 123)).alloc (.cells #[.int .i64 0, .slice none 0 0] 123)) := ((Ch.refl _ _).alloc _).alloc _
 have hb2 : blk ((w.alloc (.cells #[.int .i64 G.most, .slice (some ⟨rb, 0, none⟩) G.nodes.length cap] 123)).alloc (.cells #[.int .i64 0, .slice none 0 0] 123)) w.heap.size [.int .i64 G.most, .slice (some ⟨rb, 0, none⟩) G.nodes.length cap] := (blk.new' (w := w) [.int .i64 G.most, .slice (some ⟨rb, 0, none⟩) G.nodes.length cap] 123 rfl).alloc _
 have hb4 : blk ((w.alloc (.cells #[.int .i64 G.most, .slice (some ⟨rb, 0, none⟩) G.nodes.length cap] 123)).alloc (.cells #[.int .i64 0, .slice none 0 0] 123)) (w.heap.size + 1) [.int .i64 0, .slice none 0 0] := blk.new' [.int .i64 0, .slice none 0 0] 123 (by simp)
 have HA := Hi9 (HA1.out _ hcx)
 have HCX := Hi9 hcx; clear hcx
 have HB2 := Hi9 hb2; clear hb2
 have HB4 := Hi9 hb4; clear hb4
 refine HA.out.mono ?_
 rintro e w5 ⟨rb1, cap1, rfl, hrg, hch, hfr⟩
 have hr1 : rb1 = rb ∨ w.heap.size + 1 < rb1 := hfr.imp id (fun e => by have := HB4.out.lt; omega)
 have HRG := Hi9 hrg; clear hrg
 have HCH := Hi9 hch; clear hch
 clear HA HA1 hfr
 go_upto_region 2 with fail
 refine wp_alw ?_
 intro W6 hW6
 have hbX := alw_blk (xs := [.int .i64 X.1.most, .slice (some ⟨rb1, 0, none⟩) X.1.nodes.length cap1]) hW6
 have hnX := rg_ne HRG.out
 have hrX := HRG.out.ch (alw_ch hW6) (by simp)
 have hc56 := alw_ch hW6
 have hc6 := (HCX.out.trans HCH.out (by simp)).trans hc56 (by simp)
 have b2 := (HB2.out.ch HCH.out (by simp)).ch hc56 (by simp)
 have b4 := (HB4.out.ch HCH.out (by simp)).ch hc56 (by simp)
 have hlo5 : w.heap.size + 1 < w5.heap.size := (HB4.out.ch HCH.out (by simp)).lt
 clear hW6 hc56 HRG HCH HCX HB2 HB4
 generalize w5.heap.size = b5 at *
 have x0 := hbX.cell (i := 0) rfl
 have x1 := hbX.cell (i := 1) rfl
 have y0 := b2.cell (i := 0) rfl
 have y1 := b2.cell (i := 1) rfl
 have v0 := b4.cell (i := 0) rfl
 have v1 := b4.cell (i := 1) rfl
 have f0 := b4.frozen (i := 0)
 have f1 := b4.frozen (i := 1)
 have BX := Hi9 hbX; clear hbX
 have B2 := Hi9 b2; clear b2
 have B4 := Hi9 b4; clear b4
 have RX := Hi9 hrX; clear hrX
 have HC6 := Hi9 hc6; clear hc6
 rcases E1.out with he | he
 rotate_left
 ·have q : ((X.2.2 : Int) != 0) = true := by simp [he]
  have hro := HRO.out
  rw [rThen_bad he] at hro
  have HRO2 := Hi9 hro; clear hro he HRO
  go_wp2_with fail
  have hcc := set2_ch (w := W6) (b := w.heap.size + 1) (u := .int .i64 G.most) (v := .slice (some ⟨rb, 0, none⟩) G.nodes.length cap) rfl
  refine bodyPost_ret (v := .tuple #[.agg #[.int .i64 G.most, .slice (some ⟨rb, 0, none⟩) G.nodes.length cap], .int .i64 0, .int .i64 X.2.2]) (by simp [results, Tryz.results346, go_sem, v0, v1]) rfl ?_
  rw [HRO2.out]
  exact RTo.self H.out (HC6.out.trans hcc (fun k hk => .inr (by simp at hk; omega))) 0 X.2.2
 ·have q : ((X.2.2 : Int) != 0) = false := by simp [he]
  have hro := HRO.out
  rw [rThen_good he] at hro
  have HRO2 := Hi9 hro; clear hro he HRO
  go_wp2_with fail
  clear x0 x1 y0 y1 v0 v1 f0 f1 q
  refine Ord.St.door (fun w' => Ch [] W6 w') [.ho, .fl, .fl, .fl, .ef, .fl, .fl, .fl, .fl, .ef, .ef, .fl, .fl] [0, 0, 2, 0, 15, 31, 63, 63, 63, 0, 639, 1791, 4095] [0, 1, 2, 3, 4, 5, 6, 7, 8, 9, 10, 11, 12] mixed (by kernel_rfl) rfl ?_
  obtain ⟨Wc, hWc⟩ : ∃ Wc, Wc = W6.drew := ⟨_, rfl⟩
  rw [← hWc]
  have hcur : Ch [] W6 Wc := by rw [hWc]; exact (Ch.refl _ _).drew
  clear hWc
  refine Ord.H9 ?_ 0 [1, 2, 3, 4, 5, 6, 7, 8, 9, 10, 11, 12] ?_ (fun K w' hw' hk => ?_) ?_
  rotate_left
  ·trivial
  ·have y0 := (BX.out.ch hw' (by simp)).cell (i := 0) rfl; have y1 := (BX.out.ch hw' (by simp)).cell (i := 1) rfl; go_step; exact hk
  (refine Ord.F9 ?_ (fun K w' hk => ?_) ?_; rotate_left; focus (go_step; exact hk))
  refine Ord.G9 ?_ 2 [3, 4, 5, 6, 7, 8, 9, 10, 11, 12] (fun K w' hk => ?_) ?_
  rotate_left
  ·go_step; refine (HN.out _).mono ?_; rintro e w'' ⟨rfl, rfl⟩; exact hk
  (refine Ord.F9 ?_ (fun K w' hk => ?_) ?_; rotate_left; focus (go_step; exact hk))
  refine Ord.St.two 4 9 [5, 6, 7, 8, 9, 10, 11, 12] [4, 5, 6, 7, 8, 10, 11, 12] _ _ (by kernel_rfl) rfl rfl (by kernel_rfl) (by kernel_rfl) (fun K hK => ?_) (fun K hK => ?_)
  ·have HA := Hi9 (HA2.out _ _ _ (RX.out.ch hcur (by simp)))
   go_wp2_with fail
   refine HA.out.mono ?_
   rintro e w7 ⟨rb2, cap2, rfl, hrg, hch, hfr⟩
   go_wp2_with fail
   refine ⟨rfl, hK _ _ ?_ ?_⟩
   ·exact hcur.trans hch (by simp)
   clear hK K
   try have hne := rto_ne hb9 (by have := hs9; have := RX.out.lt; omega) hfr
   try replace hb9 := hb9.ch hch (by simp)
   have hfr4 : rb2 ≠ w.heap.size + 1 := by have := B4.out.lt; have := hcur.size; rcases hfr with e | e <;> omega
   have hr2 : rb2 = rb ∨ w.heap.size + 1 < rb2 := by have := B4.out.lt; have := hcur.size; rcases hfr with e | e <;> omega
   replace hcur := hcur.trans hch (by simp)
   clear hch hfr HA
   iterate 4 (refine Ord.F9 ?_ (fun K w' hk => ?_) ?_; rotate_left; focus (go_step; exact hk))
   refine Ord.St.efC 9 [10, 11, 12] _ rfl (by kernel_rfl) (fun K hK => ?_)
   go_wp2_with fail
   refine ⟨rfl, hK _ _ ?_ ?_⟩
   ·exact hcur.alloc _
   clear hK K
   refine Ord.St.alw ?_; intro Wn hWn
   have hb9 := alw_blk (xs := [.int .i64 0, .slice none 0 0]) hWn
   have hs9 := hcur.size
   try have hne := rg_ne hrg
   try replace hrg := hrg.ch (alw_ch hWn) (by simp)
   replace hcur := hcur.al9 hWn
   clear hWn
   first | (have _t := hrg; clear _t; generalize w7.heap.size = b9 at *) | generalize Wc.heap.size = b9 at *
   refine Ord.St.ef 10 [11, 12] _ rfl (by kernel_rfl) (fun K hK => ?_)
   have z0 := hb9.cell (i := 0) rfl
   have z1 := hb9.cell (i := 1) rfl
   have g0 := hb9.frozen (i := 0)
   have g1 := hb9.frozen (i := 1)
   have HRG := Hi9 hrg; clear hrg
   have HB9 := Hi9 hb9; clear hb9
   go_wp2_with fail
   refine ⟨rfl, hK _ _ ?_⟩; clear hK K
   iterate 2 (refine Ord.F9 ?_ (fun K w' hk => ?_) ?_; rotate_left; focus (go_step; exact hk))
   refine Ord.St.nil ?_
   go_upto_region 5 with fail
   refine wp_alw ?_
   intro W8 hW8
   have hbY : blk W8 b9 [.int .i64 Y.1.most, .slice (some ⟨rb2, 0, none⟩) Y.1.nodes.length cap2] := by rw [hW8]; exact (HB9.out.set (i := 0) _).set (i := 1) _
   have hc9 := set2_ch hW8
   have hc68 := hcur.trans hc9 (fun k hk => .inr (by simp at hk; omega))
   have hrY := HRG.out.ch hc9 (by simpa using hne)
   have b2 := B2.out.ch hc68 (by simp)
   have b4 := B4.out.ch hc68 (by simp)
   have hc8 := HC6.out.trans hc68 (by simp)
   have x0 := hbY.cell (i := 0) rfl
   have x1 := hbY.cell (i := 1) rfl
   have y0 := b2.cell (i := 0) rfl
   have y1 := b2.cell (i := 1) rfl
   have v0 := b4.cell (i := 0) rfl
   have v1 := b4.cell (i := 1) rfl
   have f0 := b4.frozen (i := 0)
   have f1 := b4.frozen (i := 1)
   have RY := Hi9 hrY; clear hrY
   have HC8 := Hi9 hc8; clear hc8
   have BB2 := Hi9 b2; clear b2
   have BB4 := Hi9 b4; clear b4
   clear hW8 HRG HB9 hbY hc9 hc68 z0 z1 g0 g1 hcur BX B2 B4 RX
   rcases E2.out with he | he
   rotate_left
   ·have q : ((Y.2.2 : Int) != 0) = true := by simp [he]
    have hro := HRO2.out
    rw [rThen_bad he] at hro
    have HRO3 := Hi9 hro; clear hro he HRO2
    go_wp2_with fail
    have hcc := set2_ch (w := W8) (b := w.heap.size + 1) (u := .int .i64 G.most) (v := .slice (some ⟨rb, 0, none⟩) G.nodes.length cap) rfl
    refine bodyPost_ret (v := .tuple #[.agg #[.int .i64 G.most, .slice (some ⟨rb, 0, none⟩) G.nodes.length cap], .int .i64 0, .int .i64 Y.2.2]) (by simp [results, Tryz.results346, go_sem, v0, v1]) rfl ?_
    rw [HRO3.out]
    exact RTo.self H.out (HC8.out.trans hcc (fun k hk => .inr (by simp at hk; omega))) 0 Y.2.2
   ·have q : ((Y.2.2 : Int) != 0) = false := by simp [he]
    have hro := HRO2.out
    rw [rThen_good he] at hro
    have HRO3 := Hi9 hro; clear hro he HRO2
    have HA := Hi9 (HA3.out _ _ _ RY.out)
    go_wp2_with fail
    refine HA.out.mono ?_
    rintro e w9 ⟨rb3, cap3, rfl, hrg, hch, hfr⟩
    have b2 := BB2.out.ch hch (by simp)
    have b4 := BB4.out.ch hch (by simp)
    have hr3 : rb3 = rb ∨ w.heap.size + 1 < rb3 := by have := BB4.out.lt; rcases hfr with e | e <;> omega
    have hc09 := HC8.out.trans hch (by simp)
    clear x0 x1 y0 y1 v0 v1 f0 f1 q hch hfr HA
    have HC9 := Hi9 hc09; clear hc09
    have HRG := Hi9 hrg; clear hrg
    go_upto_region 8 with fail
    refine wp_alw ?_
    intro Wx hWx
    have hbZ := alw_blk (xs := [.int .i64 Z.1.most, .slice (some ⟨rb3, 0, none⟩) Z.1.nodes.length cap3]) hWx
    have hrZ := HRG.out.ch (alw_ch hWx) (by simp)
    replace b2 := b2.ch (alw_ch hWx) (by simp)
    replace b4 := b4.ch (alw_ch hWx) (by simp)
    have hcx := HC9.out.trans (alw_ch hWx) (by simp)
    clear hWx HC9 HRG
    generalize w9.heap.size = bx at *
    have x0 := hbZ.cell (i := 0) rfl
    have x1 := hbZ.cell (i := 1) rfl
    have y0 := b2.cell (i := 0) rfl
    have y1 := b2.cell (i := 1) rfl
    have v0 := b4.cell (i := 0) rfl
    have v1 := b4.cell (i := 1) rfl
    have f0 := b4.frozen (i := 0)
    have f1 := b4.frozen (i := 1)
    have HCX := Hi9 hcx; clear hcx
    have RZ := Hi9 hrZ; clear hrZ
    clear b2 b4 hbZ
    rcases E3.out with he | he
    ·have q : ((Z.2.2 : Int) != 0) = false := by simp [he]
     have hro := HRO3.out
     rw [rThen_good he] at hro
     have HRO4 := Hi9 hro; clear hro he HRO3
     go_wp2_with fail
     have hcc := set2_ch (w := Wx) (b := w.heap.size + 1) (u := .int .i64 Z.1.most) (v := .slice (some ⟨rb3, 0, none⟩) Z.1.nodes.length cap3) rfl
     refine bodyPost_ret (v := .tuple #[.agg #[.int .i64 Z.1.most, .slice (some ⟨rb3, 0, none⟩) Z.1.nodes.length cap3], .int .i64 Z.2.1, .int .i64 0]) (by simp [results, Tryz.results346, go_sem, v0, v1]) rfl ?_
     rw [HRO4.out]
     exact ⟨rb3, cap3, rfl, RZ.out.ch hcc (by simp; omega), HCX.out.trans hcc (fun k hk => .inr (by simp at hk; omega)), by omega⟩
    ·have q : ((Z.2.2 : Int) != 0) = true := by simp [he]
     have hro := HRO3.out
     rw [rThen_bad he] at hro
     have HRO4 := Hi9 hro; clear hro he HRO3
     go_wp2_with fail
     have hcc := set2_ch (w := Wx) (b := w.heap.size + 1) (u := .int .i64 G.most) (v := .slice (some ⟨rb, 0, none⟩) G.nodes.length cap) rfl
     refine bodyPost_ret (v := .tuple #[.agg #[.int .i64 G.most, .slice (some ⟨rb, 0, none⟩) G.nodes.length cap], .int .i64 0, .int .i64 Z.2.2]) (by simp [results, Tryz.results346, go_sem, v0, v1]) rfl ?_
     rw [HRO4.out]
     exact RTo.self H.out (HCX.out.trans hcc (fun k hk => .inr (by simp at hk; omega))) 0 Z.2.2
  ·go_wp2_with fail
   refine ⟨rfl, hK _ _ ?_ ?_⟩
   ·exact hcur.alloc _
   clear hK K
   refine Ord.St.alw ?_; intro Wn hWn
   have hb9 := alw_blk (xs := [.int .i64 0, .slice none 0 0]) hWn
   have hs9 := hcur.size
   try have hne := rg_ne hrg
   try replace hrg := hrg.ch (alw_ch hWn) (by simp)
   replace hcur := hcur.al9 hWn
   clear hWn
   first | (have _t := hrg; clear _t; generalize w7.heap.size = b9 at *) | generalize Wc.heap.size = b9 at *
   refine Ord.St.ef 4 [5, 6, 7, 8, 10, 11, 12] _ rfl (by kernel_rfl) (fun K hK => ?_)
   have HA := Hi9 (HA2.out _ _ _ (RX.out.ch hcur (by simp)))
   go_wp2_with fail
   refine HA.out.mono ?_
   rintro e w7 ⟨rb2, cap2, rfl, hrg, hch, hfr⟩
   go_wp2_with fail
   refine ⟨rfl, hK _ _ ?_⟩; clear hK K
   try have hne := rto_ne hb9 (by have := hs9; have := RX.out.lt; omega) hfr
   try replace hb9 := hb9.ch hch (by simp)
   have hfr4 : rb2 ≠ w.heap.size + 1 := by have := B4.out.lt; have := hcur.size; rcases hfr with e | e <;> omega
   have hr2 : rb2 = rb ∨ w.heap.size + 1 < rb2 := by have := B4.out.lt; have := hcur.size; rcases hfr with e | e <;> omega
   replace hcur := hcur.trans hch (by simp)
   clear hch hfr HA
   iterate 4 (refine Ord.F9 ?_ (fun K w' hk => ?_) ?_; rotate_left; focus (go_step; exact hk))
   refine Ord.St.ef 10 [11, 12] _ rfl (by kernel_rfl) (fun K hK => ?_)
   have z0 := hb9.cell (i := 0) rfl
   have z1 := hb9.cell (i := 1) rfl
   have g0 := hb9.frozen (i := 0)
   have g1 := hb9.frozen (i := 1)
   have HRG := Hi9 hrg; clear hrg
   have HB9 := Hi9 hb9; clear hb9
   go_wp2_with fail
   refine ⟨rfl, hK _ _ ?_⟩; clear hK K
   iterate 2 (refine Ord.F9 ?_ (fun K w' hk => ?_) ?_; rotate_left; focus (go_step; exact hk))
   refine Ord.St.nil ?_
   go_upto_region 5 with fail
   refine wp_alw ?_
   intro W8 hW8
   have hbY : blk W8 b9 [.int .i64 Y.1.most, .slice (some ⟨rb2, 0, none⟩) Y.1.nodes.length cap2] := by rw [hW8]; exact (HB9.out.set (i := 0) _).set (i := 1) _
   have hc9 := set2_ch hW8
   have hc68 := hcur.trans hc9 (fun k hk => .inr (by simp at hk; omega))
   have hrY := HRG.out.ch hc9 (by simpa using hne)
   have b2 := B2.out.ch hc68 (by simp)
   have b4 := B4.out.ch hc68 (by simp)
   have hc8 := HC6.out.trans hc68 (by simp)
   have x0 := hbY.cell (i := 0) rfl
   have x1 := hbY.cell (i := 1) rfl
   have y0 := b2.cell (i := 0) rfl
   have y1 := b2.cell (i := 1) rfl
   have v0 := b4.cell (i := 0) rfl
   have v1 := b4.cell (i := 1) rfl
   have f0 := b4.frozen (i := 0)
   have f1 := b4.frozen (i := 1)
   have RY := Hi9 hrY; clear hrY
   have HC8 := Hi9 hc8; clear hc8
   have BB2 := Hi9 b2; clear b2
   have BB4 := Hi9 b4; clear b4
   clear hW8 HRG HB9 hbY hc9 hc68 z0 z1 g0 g1 hcur BX B2 B4 RX
   rcases E2.out with he | he
   rotate_left
   ·have q : ((Y.2.2 : Int) != 0) = true := by simp [he]
    have hro := HRO2.out
    rw [rThen_bad he] at hro
    have HRO3 := Hi9 hro; clear hro he HRO2
    go_wp2_with fail
    have hcc := set2_ch (w := W8) (b := w.heap.size + 1) (u := .int .i64 G.most) (v := .slice (some ⟨rb, 0, none⟩) G.nodes.length cap) rfl
    refine bodyPost_ret (v := .tuple #[.agg #[.int .i64 G.most, .slice (some ⟨rb, 0, none⟩) G.nodes.length cap], .int .i64 0, .int .i64 Y.2.2]) (by simp [results, Tryz.results346, go_sem, v0, v1]) rfl ?_
    rw [HRO3.out]
    exact RTo.self H.out (HC8.out.trans hcc (fun k hk => .inr (by simp at hk; omega))) 0 Y.2.2
   ·have q : ((Y.2.2 : Int) != 0) = false := by simp [he]
    have hro := HRO2.out
    rw [rThen_good he] at hro
    have HRO3 := Hi9 hro; clear hro he HRO2
    have HA := Hi9 (HA3.out _ _ _ RY.out)
    go_wp2_with fail
    refine HA.out.mono ?_
    rintro e w9 ⟨rb3, cap3, rfl, hrg, hch, hfr⟩
    have b2 := BB2.out.ch hch (by simp)
    have b4 := BB4.out.ch hch (by simp)
    have hr3 : rb3 = rb ∨ w.heap.size + 1 < rb3 := by have := BB4.out.lt; rcases hfr with e | e <;> omega
    have hc09 := HC8.out.trans hch (by simp)
    clear x0 x1 y0 y1 v0 v1 f0 f1 q hch hfr HA
    have HC9 := Hi9 hc09; clear hc09
    have HRG := Hi9 hrg; clear hrg
    go_upto_region 8 with fail
    refine wp_alw ?_
    intro Wx hWx
    have hbZ := alw_blk (xs := [.int .i64 Z.1.most, .slice (some ⟨rb3, 0, none⟩) Z.1.nodes.length cap3]) hWx
    have hrZ := HRG.out.ch (alw_ch hWx) (by simp)
    replace b2 := b2.ch (alw_ch hWx) (by simp)
    replace b4 := b4.ch (alw_ch hWx) (by simp)
    have hcx := HC9.out.trans (alw_ch hWx) (by simp)
    clear hWx HC9 HRG
    generalize w9.heap.size = bx at *
    have x0 := hbZ.cell (i := 0) rfl
    have x1 := hbZ.cell (i := 1) rfl
    have y0 := b2.cell (i := 0) rfl
    have y1 := b2.cell (i := 1) rfl
    have v0 := b4.cell (i := 0) rfl
    have v1 := b4.cell (i := 1) rfl
    have f0 := b4.frozen (i := 0)
    have f1 := b4.frozen (i := 1)
    have HCX := Hi9 hcx; clear hcx
    have RZ := Hi9 hrZ; clear hrZ
    clear b2 b4 hbZ
    rcases E3.out with he | he
    ·have q : ((Z.2.2 : Int) != 0) = false := by simp [he]
     have hro := HRO3.out
     rw [rThen_good he] at hro
     have HRO4 := Hi9 hro; clear hro he HRO3
     go_wp2_with fail
     have hcc := set2_ch (w := Wx) (b := w.heap.size + 1) (u := .int .i64 Z.1.most) (v := .slice (some ⟨rb3, 0, none⟩) Z.1.nodes.length cap3) rfl
     refine bodyPost_ret (v := .tuple #[.agg #[.int .i64 Z.1.most, .slice (some ⟨rb3, 0, none⟩) Z.1.nodes.length cap3], .int .i64 Z.2.1, .int .i64 0]) (by simp [results, Tryz.results346, go_sem, v0, v1]) rfl ?_
     rw [HRO4.out]
     exact ⟨rb3, cap3, rfl, RZ.out.ch hcc (by simp; omega), HCX.out.trans hcc (fun k hk => .inr (by simp at hk; omega)), by omega⟩
    ·have q : ((Z.2.2 : Int) != 0) = true := by simp [he]
     have hro := HRO3.out
     rw [rThen_bad he] at hro
     have HRO4 := Hi9 hro; clear hro he HRO3
     go_wp2_with fail
     have hcc := set2_ch (w := Wx) (b := w.heap.size + 1) (u := .int .i64 G.most) (v := .slice (some ⟨rb, 0, none⟩) G.nodes.length cap) rfl
     refine bodyPost_ret (v := .tuple #[.agg #[.int .i64 G.most, .slice (some ⟨rb, 0, none⟩) G.nodes.length cap], .int .i64 0, .int .i64 Z.2.2]) (by simp [results, Tryz.results346, go_sem, v0, v1]) rfl ?_
     rw [HRO4.out]
     exact RTo.self H.out (HCX.out.trans hcc (fun k hk => .inr (by simp at hk; omega))) 0 Z.2.2
end
theorem slInts : SliceTy Tryz.prog 26 3 1 8 (.int .i64 0) := ⟨Tryz.underlying26, infoInt, rfl, by decide⟩
theorem app_step {W0 w W W4 : World} {v v' : Value} (h0 : Ch [] W0 w) (h1 : Ch [] w W) (hlo : ∀ q ∈ v.ownBlock.toList, W0.heap.size ≤ q) (hC : Ch v.ownBlock.toList W W4) (hf : ∀ k, v'.ownBlock = some k → v.ownBlock = some k ∨ W.heap.size ≤ k) :
  Ch [] W0 W4 ∧ ∀ q ∈ v'.ownBlock.toList, W0.heap.size ≤ q := by
 refine ⟨(h0.trans h1 (by simp)).trans hC (fun k hk => .inr (hlo k hk)), fun q hq => ?_⟩
 rcases hf q (by simpa using hq) with e | e
 ·exact hlo q (by simpa using e)
 ·have := h0.size; have := h1.size; omega
theorem Sl.of_row' {w : World} {e : TypeId} {a : Option Addr} {n cap : Nat} {l : List Nat} (h : row w e 1 (.slice a n cap) n (refsCells l)) (hl : l.length = n) (hn : n ≤ 1000000) : Sl w a (l.map fun (r : Nat) => (r : Int)) := by
 refine ⟨fun i x hx => ?_, by simp; omega⟩
 rw [List.getElem?_map] at hx
 cases hr : l[i]? with
 | none => rw [hr] at hx; cases hx
 | some r =>
  rw [hr] at hx
  simp at hx
  subst hx
  obtain ⟨gb, go, hge, gc⟩ := (row.sv h rfl hn).cells i (.int .i64 r) (by simp [refsCells, hr])
  exact ⟨gb, go, hge, gc⟩
section
theorem rXor_is {w : World} {rb cap : Nat} {G : Gra} (h : RG w rb cap G) {a b : Nat} (ha : a < 2 * G.nodes.length) (hb : b < 2 * G.nodes.length) : Calls Tryz.prog 352 #[.agg #[.int .i64 G.most, .slice (some ⟨rb, 0, none⟩) G.nodes.length cap], .int .i64 a, .int .i64 b] w (RTo w rb (rXor G a b)) := by
 obtain ⟨hl, hp, hmo⟩ := h.len
 have hle := h.le
 have hmx := h.mx
 have hrb := h.lt
 have hN := fun (W : World) => rNot_is W b (by omega)
 have HN := Hi9 hN; clear hN
 have hA1 := fun (W : World) (hW : Ch [] w W) => rMux_is (h.ch hW (by simp)) ha (neg_lt hb) hb
 have hro : rXor G a b = rMux G a (neg b) b := rfl
 rw [hro]
 clear hro
 generalize rMux G a (neg b) b = X at *
 generalize neg b = nb at *
 have HA1 := Hi9 hA1; clear hA1
 have H := Hi9 h; clear h
 go_enter Tryz.func352, Tryz.ntmps352
 go_wp2_with fail
 refine wp_alw ?_
 intro W0 hW0
 have hc0 : Ch [] w W0 := by rw [hW0]; exact ((Ch.refl _ _).alloc _).alloc _
 have b2 : blk W0 w.heap.size [.int .i64 G.most, .slice (some ⟨rb, 0, none⟩) G.nodes.length cap] := by rw [hW0]; exact (blk.new' (w := w) [.int .i64 G.most, .slice (some ⟨rb, 0, none⟩) G.nodes.length cap] 123 rfl).alloc _
 have b4 : blk W0 (w.heap.size + 1) [.int .i64 0, .slice none 0 0] := by rw [hW0]; exact blk.new' [.int .i64 0, .slice none 0 0] 123 (by simp)
 clear hW0
 have y0 := b2.cell (i := 0) rfl
 have y1 := b2.cell (i := 1) rfl
 have B4 := Hi9 b4; clear b4
 have HC0 := Hi9 hc0; clear hc0 b2
 refine Ord.St.door (fun _ => True) [.rd, .fl, .fl, .fl, .fl, .ef, .fl, .fl, .fl, .ef, .fl, .fl] [0, 0, 0, 4, 0, 31, 63, 63, 63, 511, 1023, 2047] [0, 1, 2, 3, 4, 5, 6, 7, 8, 9, 10, 11] mixed (by kernel_rfl) rfl ?_
 (refine Ord.Q9 ?_ (fun K hk => ?_) ?_; rotate_left; focus (go_step; exact hk))
 iterate 2 (refine Ord.F9 ?_ (fun K w' hk => ?_) ?_; rotate_left; focus (go_step; exact hk))
 refine Ord.G9 ?_ 3 [4, 5, 6, 7, 8, 9, 10, 11] (fun K w' hk => ?_) ?_
 rotate_left
 ·go_step; refine (HN.out _).mono ?_; rintro e w'' ⟨rfl, rfl⟩; exact hk
 (refine Ord.F9 ?_ (fun K w' hk => ?_) ?_; rotate_left; focus (go_step; exact hk))
 refine Ord.St.ef 5 [6, 7, 8, 9, 10, 11] _ rfl (by kernel_rfl) (fun K hK => ?_)
 have HA := Hi9 (HA1.out _ (HC0.out.drew))
 go_wp2_with fail
 refine HA.out.mono ?_
 rintro e w5 ⟨rb1, cap1, rfl, hrg, hch, hfr⟩
 have hr1 : rb1 = rb ∨ w.heap.size + 1 < rb1 := hfr.imp id (fun e => by have := B4.out.lt; simp at e; omega)
 have hc5 := HC0.out.drew.trans hch (by simp)
 have b5 := B4.out.drew.ch hch (by simp)
 have v0 := b5.cell (i := 0) rfl
 have v1 := b5.cell (i := 1) rfl
 have f0 := b5.frozen (i := 0)
 have f1 := b5.frozen (i := 1)
 have HC5 := Hi9 hc5; clear hc5
 have HRG := Hi9 hrg; clear hrg
 clear hch hfr b5 HA y0 y1
 go_wp2_with fail
 refine ⟨rfl, hK _ _ ?_⟩; clear hK K
 iterate 3 (refine Ord.F9 ?_ (fun K w' hk => ?_) ?_; rotate_left; focus (go_step; exact hk))
 refine Ord.St.ef 9 [10, 11] _ rfl (by kernel_rfl) (fun K hK => ?_)
 go_wp2_with fail
 refine ⟨rfl, hK _ _ ?_⟩; clear hK K
 iterate 2 (refine Ord.F9 ?_ (fun K w' hk => ?_) ?_; rotate_left; focus (go_step; exact hk))
 refine Ord.St.nil ?_
 go_wp2_with fail
 have hcc := set2_ch (w := w5) (b := w.heap.size + 1) (u := .int .i64 X.1.most) (v := .slice (some ⟨rb1, 0, none⟩) X.1.nodes.length cap1) rfl
 refine bodyPost_ret (v := .tuple #[.agg #[.int .i64 X.1.most, .slice (some ⟨rb1, 0, none⟩) X.1.nodes.length cap1], .int .i64 X.2.1, .int .i64 X.2.2]) (by simp [results, Tryz.results352, go_sem, v0, v1]) rfl ?_
 exact ⟨rb1, cap1, rfl, HRG.out.ch hcc (by simp; omega), HC5.out.trans hcc (fun k hk => .inr (by simp at hk; omega)), by omega⟩
end
end Go.Proofs.YtehljgigebhddaaGreat
namespace Go.Aig
def rAllFrom (G0 : Gra) : Gra → Nat → List Nat → Res
 | now, out, [] => (now, out, 0)
 | now, out, r :: l => if (and now out r).2.2 ≠ 0 then (G0, 0, (and now out r).2.2) else rAllFrom G0 (and now out r).1 (and now out r).2.1 l
def rAll (G : Gra) (l : List Nat) : Res := rAllFrom G G 1 l
def rAny (G : Gra) (l : List Nat) : Res := if (rAll G (l.map neg)).2.2 ≠ 0 then (G, 0, (rAll G (l.map neg)).2.2) else ((rAll G (l.map neg)).1, neg (rAll G (l.map neg)).2.1, 0)
theorem rAllFrom_rok {G0 : Gra} (h0 : Ok G0) : ∀ (l : List Nat) {G : Gra} {out : Nat}, Ok G → Ext G0 G → out < 2 * G.nodes.length → (∀ r ∈ l, r < 2 * G.nodes.length) → ROk G0 (rAllFrom G0 G out l)
 | [], G, out, h, he, ho, _ => ⟨h, he, ho, .inl rfl⟩
 | r :: l, G, out, h, he, ho, hl => by
  have h1 := and_rok h ho (hl r (by simp))
  have := h0.wf.pos
  unfold rAllFrom
  split
  ·exact ⟨h0, .refl _, by show 0 < 2 * G0.nodes.length; omega, h1.err⟩
  ·exact rAllFrom_rok h0 l h1.ok (he.trans h1.ext) h1.lt (fun x hx => h1.ext.lt (hl x (by simp [hx])))
theorem rAll_rok {G : Gra} (h : Ok G) {l : List Nat} (hl : ∀ r ∈ l, r < 2 * G.nodes.length) : ROk G (rAll G l) := rAllFrom_rok h l h (.refl _) (by have := h.wf.pos; omega) hl
theorem negs_lt {n : Nat} {l : List Nat} (hl : ∀ r ∈ l, r < 2 * n) : ∀ r ∈ l.map neg, r < 2 * n := fun r hr => by
 obtain ⟨q, hq, rfl⟩ := List.mem_map.1 hr
 exact neg_lt (hl q hq)
theorem rAny_rok {G : Gra} (h : Ok G) {l : List Nat} (hl : ∀ r ∈ l, r < 2 * G.nodes.length) : ROk G (rAny G l) := by
 have h1 := rAll_rok h (negs_lt hl)
 have := h.wf.pos
 unfold rAny
 split
 ·exact ⟨h, .refl _, by show 0 < 2 * G.nodes.length; omega, h1.err⟩
 ·exact ⟨h1.ok, h1.ext, neg_lt h1.lt, .inl rfl⟩
theorem rAllFrom_step {G0 now : Gra} {out r : Nat} {l : List Nat} : rAllFrom G0 now out (r :: l) = if (and now out r).2.2 ≠ 0 then (G0, 0, (and now out r).2.2) else rAllFrom G0 (and now out r).1 (and now out r).2.1 l := rfl
end Go.Aig
namespace Go.Proofs.YtehljgigebhddaaGreat
open Go.RowKit Go.Mem Go.Aig
def intCells (l : List Int) : List Value := l.map fun z => .int .i64 z
section
end
section
theorem rAll_is {w : World} {rb cap : Nat} {G : Gra} (h : RG w rb cap G) {a : Option Addr} {l : List Nat} (n acap : Nat) (hn : l.length = n) (hs : Sl w a (l.map fun (r : Nat) => (r : Int))) (hr : ∀ r ∈ l, r < 2 * G.nodes.length) (hm : n ≤ 1000000) :
  Calls Tryz.prog 357 #[.agg #[.int .i64 G.most, .slice (some ⟨rb, 0, none⟩) G.nodes.length cap], .slice a n acap] w (RTo w rb (rAll G l)) := by
 subst hn
 obtain ⟨hl, hp, hmo⟩ := h.len
 have hle := h.le
 have hmx := h.mx
 have hrb := h.lt
 have hgok := Hi9 h.ok
 have hall : rAll G l = rAllFrom G G 1 l := rfl
 generalize rAll G l = RO at *
 have HALL := Hi9 hall; clear hall
 have HS := Hi9 hs; clear hs
 have HR := Hi9 hr; clear hr
 have H := Hi9 h; clear h
 go_enter Tryz.func357, Tryz.ntmps357
 go_wp2_with fail
 refine wp_alw ?_
 intro W0 hW0
 have hc0 : Ch [] w W0 := by rw [hW0]; exact (((Ch.refl _ _).alloc _).alloc _).alloc _
 have b2 : blk W0 w.heap.size [.int .i64 G.most, .slice (some ⟨rb, 0, none⟩) G.nodes.length cap] := by rw [hW0]; exact ((blk.new' (w := w) [.int .i64 G.most, .slice (some ⟨rb, 0, none⟩) G.nodes.length cap] 123 rfl).alloc _).alloc _
 have b4 : blk W0 (w.heap.size + 1) [.int .i64 0, .slice none 0 0] := by rw [hW0]; exact (blk.new' [.int .i64 0, .slice none 0 0] 123 (by simp)).alloc _
 have b7 : blk W0 (w.heap.size + 1 + 1) [.int .i64 G.most, .slice (some ⟨rb, 0, none⟩) G.nodes.length cap] := by rw [hW0]; exact blk.new' [.int .i64 G.most, .slice (some ⟨rb, 0, none⟩) G.nodes.length cap] 123 (by simp)
 clear hW0
 have hr0 := H.out.ch hc0 (by simp)
 have B2 := Hi9 b2; clear b2
 have B4 := Hi9 b4; clear b4
 have B7 := Hi9 b7; clear b7
 have HC0 := Hi9 hc0; clear hc0
 have HR0 := Hi9 hr0; clear hr0
 go_loopw [8, 9] (fun o i wr => ∃ (k : Nat) (now : Gra) (out rbk capk : Nat), k ≤ l.length ∧ i = .int .i64 k ∧ o = .int .i64 out ∧ out < 2 * now.nodes.length ∧ Ext G now ∧ RO = rAllFrom G now out (l.drop k) ∧ Ch [] w wr ∧ RG wr rbk capk now ∧ (rbk = rb ∨ w.heap.size + 1 + 1 < rbk) ∧
  blk wr w.heap.size [.int .i64 G.most, .slice (some ⟨rb, 0, none⟩) G.nodes.length cap] ∧ blk wr (w.heap.size + 1) [.int .i64 0, .slice none 0 0] ∧ blk wr (w.heap.size + 1 + 1) [.int .i64 now.most, .slice (some ⟨rbk, 0, none⟩) now.nodes.length capk]) (fun _ i _ => l.length - (intOf i).toNat)
 case atStart => exact ⟨0, G, 1, rb, cap, by omega, rfl, rfl, by omega, .refl _, HALL.out, HC0.out, HR0.out, .inl rfl, B2.out, B4.out, B7.out⟩
 case round =>
  clear B2 B4 B7 HC0 HR0 HALL
  obtain ⟨k, now, out, rbk, capk, hk, rfl, rfl, hout, hext, hro, hc, hrg, hfr, b2, b4, b7⟩ := hrel
  by_cases hlt : k < l.length
  ·obtain ⟨r, hx⟩ : ∃ r, l[k]? = some r := ⟨_, List.getElem?_eq_getElem hlt⟩
   have hrm := HR.out r (List.mem_of_getElem? hx)
   have hdrop : l.drop k = r :: l.drop (k + 1) := by
    rw [List.drop_eq_getElem_cons hlt]
    rw [List.getElem?_eq_getElem hlt] at hx
    cases hx; rfl
   obtain ⟨xb, xo, rfl, hcl⟩ := HS.out.cells k r (by rw [List.getElem?_map, hx]; rfl)
   have c0 := (hc.cell (cell_lt hcl) (by simp)).trans hcl
   rw [hdrop, rAllFrom_step] at hro
   have o1 := and_rok hrg.ok hout (hext.lt hrm)
   have hA := fun (W : World) (hW : Ch [] wr W) => rAnd_is (hrg.ch hW (by simp)) hout (hext.lt hrm)
   generalize Aig.and now out r = X at *
   have E1 := Hi9 o1.err
   have XO := Hi9 o1; clear o1
   have HRO := Hi9 hro; clear hro hx hdrop hcl
   have HA1 := Hi9 hA; clear hA
   have hrgl := hrg.lt
   have hb7l := b7.lt
   have HRG := Hi9 hrg; clear hrg
   have B2 := Hi9 b2; clear b2
   have B4 := Hi9 b4; clear b4
   have B7 := Hi9 b7; clear b7
   have HC := Hi9 hc; clear hc
   have C0 := Hi9 c0; clear c0
   go_wp2_with fail
   refine Ord.St.door (fun w' => Ch [] wr w') [.ho, .fl, .fl, .fl, .fl, .ho, .ef, .fl, .fl, .fl, .fl, .ef, .ef, .fl, .fl] [0, 0, 0, 0, 12, 28, 63, 127, 255, 255, 255, 0, 2559, 7167, 16383] [0, 1, 2, 3, 4, 5, 6, 7, 8, 9, 10, 11, 12, 13, 14] mixed (by kernel_rfl) rfl ?_
   obtain ⟨Wc, hWc⟩ : ∃ Wc, Wc = wr.drew := ⟨_, rfl⟩
   rw [← hWc]
   have hcur : Ch [] wr Wc := by rw [hWc]; exact (Ch.refl _ _).drew
   clear hWc
   refine Ord.H9 ?_ 0 [1, 2, 3, 4, 5, 6, 7, 8, 9, 10, 11, 12, 13, 14] ?_ (fun K w' hw' hk => ?_) ?_
   rotate_left
   ·trivial
   ·have y0 := (B7.out.ch hw' (by simp)).cell (i := 0) rfl; have y1 := (B7.out.ch hw' (by simp)).cell (i := 1) rfl; have a0 := (hw'.cell (cell_lt C0.out) (by simp)).trans C0.out; go_step; exact hk
   iterate 4 (refine Ord.F9 ?_ (fun K w' hk => ?_) ?_; rotate_left; focus (go_step; exact hk))
   refine Ord.H9 ?_ 5 [6, 7, 8, 9, 10, 11, 12, 13, 14] ?_ (fun K w' hw' hk => ?_) ?_
   rotate_left
   ·trivial
   ·have y0 := (B7.out.ch hw' (by simp)).cell (i := 0) rfl; have y1 := (B7.out.ch hw' (by simp)).cell (i := 1) rfl; have a0 := (hw'.cell (cell_lt C0.out) (by simp)).trans C0.out; go_step; exact hk
   refine Ord.St.two 6 11 [7, 8, 9, 10, 11, 12, 13, 14] [6, 7, 8, 9, 10, 12, 13, 14] _ _ (by kernel_rfl) rfl rfl (by kernel_rfl) (by kernel_rfl) (fun K hK => ?_) (fun K hK => ?_)
   ·have HA := Hi9 (HA1.out _ hcur)
    go_wp2_with fail
    refine HA.out.mono ?_
    rintro e w5 ⟨rb1, cap1, rfl, hrg1, hch, hfr1⟩
    go_wp2_with fail
    refine ⟨rfl, hK _ _ ?_ ?_⟩
    ·exact hcur.trans hch (by simp)
    clear hK K
    try have hne := rto_ne hb9 (by have := hs9; omega) hfr1
    try replace hb9 := hb9.ch hch (by simp)
    have hfr2 : rb1 = rb ∨ w.heap.size + 1 + 1 < rb1 := by have := hcur.size; rcases hfr1 with e | e <;> omega
    replace hcur := hcur.trans hch (by simp)
    clear hch hfr1 HA
    iterate 4 (refine Ord.F9 ?_ (fun K w' hk => ?_) ?_; rotate_left; focus (go_step; exact hk))
    refine Ord.St.efC 11 [12, 13, 14] _ rfl (by kernel_rfl) (fun K hK => ?_)
    go_wp2_with fail
    refine ⟨rfl, hK _ _ ?_ ?_⟩
    ·exact hcur.alloc _
    clear hK K
    refine Ord.St.alw ?_; intro Wn hWn
    have hb9 := alw_blk (xs := [.int .i64 0, .slice none 0 0]) hWn
    have hs9 := hcur.size
    try have hne := rg_ne hrg1
    try replace hrg1 := hrg1.ch (alw_ch hWn) (by simp)
    replace hcur := hcur.al9 hWn
    clear hWn
    first | (have _t := hrg1; clear _t; generalize w5.heap.size = b9 at *) | generalize Wc.heap.size = b9 at *
    refine Ord.St.ef 12 [13, 14] _ rfl (by kernel_rfl) (fun K hK => ?_)
    have z0 := hb9.cell (i := 0) rfl
    have z1 := hb9.cell (i := 1) rfl
    have g0 := hb9.frozen (i := 0)
    have g1 := hb9.frozen (i := 1)
    have HRG1 := Hi9 hrg1; clear hrg1
    have HB9 := Hi9 hb9; clear hb9
    go_wp2_with fail
    refine ⟨rfl, hK _ _ ?_⟩; clear hK K
    iterate 2 (refine Ord.F9 ?_ (fun K w' hk => ?_) ?_; rotate_left; focus (go_step; exact hk))
    refine Ord.St.nil ?_
    go_upto_region 6 with fail
    refine wp_alw ?_
    intro W8 hW8
    have hbY : blk W8 b9 [.int .i64 X.1.most, .slice (some ⟨rb1, 0, none⟩) X.1.nodes.length cap1] := by rw [hW8]; exact (HB9.out.set (i := 0) _).set (i := 1) _
    have hc9 := set2_ch hW8
    have hc68 : Ch [] wr W8 := hcur.trans hc9 (fun k hk => .inr (by simp at hk; omega))
    have hrY := HRG1.out.ch hc9 (by simpa using hne)
    have b2 := B2.out.ch hc68 (by simp)
    have b4 := B4.out.ch hc68 (by simp)
    have b7 := B7.out.ch hc68 (by simp)
    have hc8 := HC.out.trans hc68 (by simp)
    have x0 := hbY.cell (i := 0) rfl
    have x1 := hbY.cell (i := 1) rfl
    have y0 := b2.cell (i := 0) rfl
    have y1 := b2.cell (i := 1) rfl
    have v0 := b4.cell (i := 0) rfl
    have v1 := b4.cell (i := 1) rfl
    have f0 := b4.frozen (i := 0)
    have f1 := b4.frozen (i := 1)
    have u0 := b7.cell (i := 0) rfl
    have u1 := b7.cell (i := 1) rfl
    have p0 := b7.frozen (i := 0)
    have p1 := b7.frozen (i := 1)
    have RY := Hi9 hrY; clear hrY
    have HC8 := Hi9 hc8; clear hc8
    have BB2 := Hi9 b2; clear b2
    have BB4 := Hi9 b4; clear b4
    have BB7 := Hi9 b7; clear b7
    clear hW8 HRG1 HB9 hbY hc9 hc68 z0 z1 g0 g1 hcur B7 B2 B4 HRG
    rcases E1.out with he | he
    ·have q : ((X.2.2 : Int) != 0) = false := by simp [he]
     have hro := HRO.out
     rw [if_neg (by simp [he])] at hro
     have HRO2 := Hi9 hro; clear hro he HRO
     go_wp2_with fail
     have hcc := set2_ch (w := W8) (b := w.heap.size + 1 + 1) (u := .int .i64 X.1.most) (v := .slice (some ⟨rb1, 0, none⟩) X.1.nodes.length cap1) rfl
     have hb7' := (BB7.out.set (i := 0) (.int .i64 X.1.most)).set (i := 1) (.slice (some ⟨rb1, 0, none⟩) X.1.nodes.length cap1)
     go_roundw
     case rel => exact ⟨k + 1, X.1, X.2.1, rb1, cap1, by omega, by go_num, rfl, XO.out.lt, hext.trans XO.out.ext, HRO2.out, HC8.out.trans hcc (fun k hk => .inr (by simp at hk; omega)), RY.out.ch hcc (by simp; omega), hfr2, BB2.out.ch hcc (by simp; omega), BB4.out.ch hcc (by simp), hb7'⟩
     case measure => simp [intOf]; omega
    ·have q : ((X.2.2 : Int) != 0) = true := by simp [he]
     have hro := HRO.out
     rw [if_pos (by simp [he])] at hro
     have HRO2 := Hi9 hro; clear hro he HRO
     go_wp2_with fail
     have hcc := set2_ch (w := W8) (b := w.heap.size + 1) (u := .int .i64 G.most) (v := .slice (some ⟨rb, 0, none⟩) G.nodes.length cap) rfl
     refine bodyPost_ret (v := .tuple #[.agg #[.int .i64 G.most, .slice (some ⟨rb, 0, none⟩) G.nodes.length cap], .int .i64 0, .int .i64 X.2.2]) (by simp [results, Tryz.results357, go_sem, v0, v1]) rfl ?_
     rw [HRO2.out]
     exact RTo.self H.out (HC8.out.trans hcc (fun k hk => .inr (by simp at hk; omega))) 0 X.2.2
   ·go_wp2_with fail
    refine ⟨rfl, hK _ _ ?_ ?_⟩
    ·exact hcur.alloc _
    clear hK K
    refine Ord.St.alw ?_; intro Wn hWn
    have hb9 := alw_blk (xs := [.int .i64 0, .slice none 0 0]) hWn
    have hs9 := hcur.size
    try have hne := rg_ne hrg1
    try replace hrg1 := hrg1.ch (alw_ch hWn) (by simp)
    replace hcur := hcur.al9 hWn
    clear hWn
    first | (have _t := hrg1; clear _t; generalize w5.heap.size = b9 at *) | generalize Wc.heap.size = b9 at *
    refine Ord.St.ef 6 [7, 8, 9, 10, 12, 13, 14] _ rfl (by kernel_rfl) (fun K hK => ?_)
    have HA := Hi9 (HA1.out _ hcur)
    go_wp2_with fail
    refine HA.out.mono ?_
    rintro e w5 ⟨rb1, cap1, rfl, hrg1, hch, hfr1⟩
    go_wp2_with fail
    refine ⟨rfl, hK _ _ ?_⟩; clear hK K
    try have hne := rto_ne hb9 (by have := hs9; omega) hfr1
    try replace hb9 := hb9.ch hch (by simp)
    have hfr2 : rb1 = rb ∨ w.heap.size + 1 + 1 < rb1 := by have := hcur.size; rcases hfr1 with e | e <;> omega
    replace hcur := hcur.trans hch (by simp)
    clear hch hfr1 HA
    iterate 4 (refine Ord.F9 ?_ (fun K w' hk => ?_) ?_; rotate_left; focus (go_step; exact hk))
    refine Ord.St.ef 12 [13, 14] _ rfl (by kernel_rfl) (fun K hK => ?_)
    have z0 := hb9.cell (i := 0) rfl
    have z1 := hb9.cell (i := 1) rfl
    have g0 := hb9.frozen (i := 0)
    have g1 := hb9.frozen (i := 1)
    have HRG1 := Hi9 hrg1; clear hrg1
    have HB9 := Hi9 hb9; clear hb9
    go_wp2_with fail
    refine ⟨rfl, hK _ _ ?_⟩; clear hK K
    iterate 2 (refine Ord.F9 ?_ (fun K w' hk => ?_) ?_; rotate_left; focus (go_step; exact hk))
    refine Ord.St.nil ?_
    go_upto_region 6 with fail
    refine wp_alw ?_
    intro W8 hW8
    have hbY : blk W8 b9 [.int .i64 X.1.most, .slice (some ⟨rb1, 0, none⟩) X.1.nodes.length cap1] := by rw [hW8]; exact (HB9.out.set (i := 0) _).set (i := 1) _
    have hc9 := set2_ch hW8
    have hc68 : Ch [] wr W8 := hcur.trans hc9 (fun k hk => .inr (by simp at hk; omega))
    have hrY := HRG1.out.ch hc9 (by simpa using hne)
    have b2 := B2.out.ch hc68 (by simp)
    have b4 := B4.out.ch hc68 (by simp)
    have b7 := B7.out.ch hc68 (by simp)
    have hc8 := HC.out.trans hc68 (by simp)
    have x0 := hbY.cell (i := 0) rfl
    have x1 := hbY.cell (i := 1) rfl
    have y0 := b2.cell (i := 0) rfl
    have y1 := b2.cell (i := 1) rfl
    have v0 := b4.cell (i := 0) rfl
    have v1 := b4.cell (i := 1) rfl
    have f0 := b4.frozen (i := 0)
    have f1 := b4.frozen (i := 1)
    have u0 := b7.cell (i := 0) rfl
    have u1 := b7.cell (i := 1) rfl
    have p0 := b7.frozen (i := 0)
    have p1 := b7.frozen (i := 1)
    have RY := Hi9 hrY; clear hrY
    have HC8 := Hi9 hc8; clear hc8
    have BB2 := Hi9 b2; clear b2
    have BB4 := Hi9 b4; clear b4
    have BB7 := Hi9 b7; clear b7
    clear hW8 HRG1 HB9 hbY hc9 hc68 z0 z1 g0 g1 hcur B7 B2 B4 HRG
    rcases E1.out with he | he
    ·have q : ((X.2.2 : Int) != 0) = false := by simp [he]
     have hro := HRO.out
     rw [if_neg (by simp [he])] at hro
     have HRO2 := Hi9 hro; clear hro he HRO
     go_wp2_with fail
     have hcc := set2_ch (w := W8) (b := w.heap.size + 1 + 1) (u := .int .i64 X.1.most) (v := .slice (some ⟨rb1, 0, none⟩) X.1.nodes.length cap1) rfl
     have hb7' := (BB7.out.set (i := 0) (.int .i64 X.1.most)).set (i := 1) (.slice (some ⟨rb1, 0, none⟩) X.1.nodes.length cap1)
     go_roundw
     case rel => exact ⟨k + 1, X.1, X.2.1, rb1, cap1, by omega, by go_num, rfl, XO.out.lt, hext.trans XO.out.ext, HRO2.out, HC8.out.trans hcc (fun k hk => .inr (by simp at hk; omega)), RY.out.ch hcc (by simp; omega), hfr2, BB2.out.ch hcc (by simp; omega), BB4.out.ch hcc (by simp), hb7'⟩
     case measure => simp [intOf]; omega
    ·have q : ((X.2.2 : Int) != 0) = true := by simp [he]
     have hro := HRO.out
     rw [if_pos (by simp [he])] at hro
     have HRO2 := Hi9 hro; clear hro he HRO
     go_wp2_with fail
     have hcc := set2_ch (w := W8) (b := w.heap.size + 1) (u := .int .i64 G.most) (v := .slice (some ⟨rb, 0, none⟩) G.nodes.length cap) rfl
     refine bodyPost_ret (v := .tuple #[.agg #[.int .i64 G.most, .slice (some ⟨rb, 0, none⟩) G.nodes.length cap], .int .i64 0, .int .i64 X.2.2]) (by simp [results, Tryz.results357, go_sem, v0, v1]) rfl ?_
     rw [HRO2.out]
     exact RTo.self H.out (HC8.out.trans hcc (fun k hk => .inr (by simp at hk; omega))) 0 X.2.2
  ·have hkn : k = l.length := by omega
   rw [List.drop_eq_nil_of_le (by omega)] at hro
   have x0 := b7.cell (i := 0) rfl
   have x1 := b7.cell (i := 1) rfl
   have v0 := b4.cell (i := 0) rfl
   have v1 := b4.cell (i := 1) rfl
   have f0 := b4.frozen (i := 0)
   have f1 := b4.frozen (i := 1)
   have HRO := Hi9 hro
   have HRG := Hi9 hrg
   have HC := Hi9 hc
   clear hkn hro hrg hc b2 b4 b7
   go_wp2_with fail
   have hcc := set2_ch (w := wr) (b := w.heap.size + 1) (u := .int .i64 now.most) (v := .slice (some ⟨rbk, 0, none⟩) now.nodes.length capk) rfl
   refine bodyPost_ret (v := .tuple #[.agg #[.int .i64 now.most, .slice (some ⟨rbk, 0, none⟩) now.nodes.length capk], .int .i64 out, .int .i64 0]) (by simp [results, Tryz.results357, go_sem, v0, v1]) rfl ?_
   rw [HRO.out]
   exact ⟨rbk, capk, rfl, HRG.out.ch hcc (by simp; omega), HC.out.trans hcc (fun k hk => .inr (by simp at hk; omega)), by omega⟩
end
section
theorem rAny_is {w : World} {rb cap : Nat} {G : Gra} (h : RG w rb cap G) {a : Option Addr} {l : List Nat} (n acap : Nat) (hn : l.length = n) (hs : Sl w a (l.map fun (r : Nat) => (r : Int))) (hr : ∀ r ∈ l, r < 2 * G.nodes.length) (hm : n ≤ 1000000) :
  Calls Tryz.prog 354 #[.agg #[.int .i64 G.most, .slice (some ⟨rb, 0, none⟩) G.nodes.length cap], .slice a n acap] w (RTo w rb (rAny G l)) := by
 subst hn
 obtain ⟨hl, hp, hmo⟩ := h.len
 have hle := h.le
 have hmx := h.mx
 have hrb := h.lt
 have o1 := rAll_rok h.ok (negs_lt hr)
 have hA := fun (W : World) (hW : RG W rb cap G) (a : Option Addr) (c : Nat) (hS : Sl W a ((l.map neg).map fun (r : Nat) => (r : Int))) => rAll_is hW l.length c (by simp) hS (negs_lt hr) hm
 have hro : rAny G l = if (rAll G (l.map neg)).2.2 ≠ 0 then (G, 0, (rAll G (l.map neg)).2.2) else ((rAll G (l.map neg)).1, neg (rAll G (l.map neg)).2.1, 0) := rfl
 generalize rAll G (l.map neg) = X at *
 generalize rAny G l = RO at *
 have hX3 : X.2.1 < 2 * 65536 := by have := o1.ok.room; have := o1.ok.most; have := o1.lt; omega
 have hNr := fun (W : World) => rNot_is W X.2.1 (by omega)
 have HNR := Hi9 hNr; clear hNr
 have E1 := Hi9 o1.err; clear o1
 have HRO := Hi9 hro; clear hro
 have HA1 := Hi9 hA; clear hA
 have HS := Hi9 hs; clear hs
 have HR := Hi9 hr; clear hr
 have H := Hi9 h; clear h
 go_enter Tryz.func354, Tryz.ntmps354
 go_wp2_with fail
 refine wp_alw ?_
 intro W0 hW0
 have hc0 : Ch [] w W0 := by rw [hW0]; exact ((Ch.refl _ _).alloc _).alloc _
 have b2 : blk W0 w.heap.size [.int .i64 G.most, .slice (some ⟨rb, 0, none⟩) G.nodes.length cap] := by rw [hW0]; exact (blk.new' (w := w) [.int .i64 G.most, .slice (some ⟨rb, 0, none⟩) G.nodes.length cap] 123 rfl).alloc _
 have b4 : blk W0 (w.heap.size + 1) [.int .i64 0, .slice none 0 0] := by rw [hW0]; exact blk.new' [.int .i64 0, .slice none 0 0] 123 (by simp)
 clear hW0
 have hr0 := H.out.ch hc0 (by simp)
 have hb4l := b4.lt
 have B2 := Hi9 b2; clear b2
 have B4 := Hi9 b4; clear b4
 have HC0 := Hi9 hc0; clear hc0
 have HR0 := Hi9 hr0; clear hr0
 go_loopw [7, 8] (fun o i wr => ∃ k : Nat, k ≤ l.length ∧ i = .int .i64 k ∧ Ch [] W0 wr ∧ row wr 3 1 o k (refsCells ((l.take k).map neg)) ∧ ∀ q ∈ o.ownBlock.toList, W0.heap.size ≤ q) (fun _ i _ => l.length - (intOf i).toNat)
 case atStart => exact ⟨0, by omega, rfl, Ch.refl _ _, ⟨rfl, .inl ⟨rfl, rfl⟩⟩, by simp⟩
 case round =>
  obtain ⟨k, hk, rfl, hc, hrow, hlo⟩ := hrel
  obtain ⟨oa, oc, rfl⟩ := row.shape hrow
  by_cases hlt : k < l.length
  ·obtain ⟨x, hx⟩ : ∃ x, l[k]? = some x := ⟨_, List.getElem?_eq_getElem hlt⟩
   have hxb := HR.out x (List.mem_of_getElem? hx)
   have hsu : refsCells ((l.take (k + 1)).map neg) = refsCells ((l.take k).map neg) ++ [.int .i64 (neg x : Nat)] := by unfold refsCells; rw [List.take_add_one, hx]; simp
   obtain ⟨xb, xo, rfl, hcl⟩ := HS.out.cells k x (by rw [List.getElem?_map, hx]; rfl)
   have c0 := ((HC0.out.trans hc (by simp)).cell (cell_lt hcl) (by simp)).trans hcl
   have hNx := rNot_is wr x (by omega)
   have HNX := Hi9 hNx; clear hNx
   have HSU := Hi9 hsu; clear hsu hx hcl
   generalize neg x = nx at *
   have hcA : Ch [] wr (wr.alloc (.cells #[.int .i64 nx] 3)) := (Ch.refl _ _).alloc _
   have hrA := hrow.ch hcA (by simp)
   have hbA : blk (wr.alloc (.cells #[.int .i64 nx] 3)) wr.heap.size [.int .i64 nx] := blk.new' _ _ rfl
   have HRA := Hi9 hrA; clear hrA hrow
   have HBA := Hi9 hbA; clear hbA
   have HCA := Hi9 hcA; clear hcA
   have HC := Hi9 hc; clear hc
   have HLO := Hi9 hlo; clear hlo
   go_wp2_with fail
   refine HNX.out.mono ?_
   rintro e w' ⟨rfl, rfl⟩
   go_wp2_with (at_builtin; go_loud (refine wpList_append_row slInts rfl _ _ rfl (v := .slice oa k oc) (n := k) (xs := refsCells ((l.take k).map neg)) rfl HRA.out (ad := ⟨wr.heap.size, 0, none⟩) (m := 1) (c := 1) (news := [.int .i64 nx]) rfl rfl (news_blk HBA.out) (by simp [Value.oneCell']) (by omega) (by omega) ?_; intro v' w4 hown4 hC4 hf4; have HO4 := Hi9 hown4; clear hown4; have HC4 := Hi9 hC4; clear hC4; have HF4 := Hi9 hf4; clear hf4))
   go_roundw
   case rel =>
    obtain ⟨q1, q2⟩ := app_step HC.out HCA.out HLO.out HC4.out HF4.out
    refine ⟨k + 1, by omega, by go_num, q1, ?_, q2⟩
    rw [HSU.out]; exact HO4.out
   case measure => simp [intOf]; omega
  ·have hkn : k = l.length := by omega
   rw [hkn, List.take_of_length_le (Nat.le_refl _)] at hrow
   rw [hkn] at hlo
   rw [hkn]
   have y0 := (B2.out.ch hc (by simp)).cell (i := 0) rfl
   have y1 := (B2.out.ch hc (by simp)).cell (i := 1) rfl
   have hsl := Sl.of_row' hrow (by simp) (by omega)
   have hA := HA1.out wr (HR0.out.ch hc (by simp)) oa oc hsl
   have hlr := hc.size
   have hcw := HC0.out.trans hc (by simp)
   have b4 := B4.out.ch hc (by simp)
   have b2 := B2.out.ch hc (by simp)
   have HA := Hi9 hA; clear hA
   have B44 := Hi9 b4; clear b4
   have B22 := Hi9 b2; clear b2
   have HCW := Hi9 hcw; clear hcw
   clear hkn hrow hlo hc hsl
   go_wp2_with fail
   refine HA.out.mono ?_
   rintro e w5 ⟨rb1, cap1, rfl, hrg, hch, hfr⟩
   have hfr1 : rb1 = rb ∨ w.heap.size + 1 < rb1 := by have := B44.out.lt; rcases hfr with e | e <;> omega
   have hnX := rg_ne hrg
   have hlo5 : w.heap.size + 1 < w5.heap.size := (B44.out.ch hch (by simp)).lt
   have HRG := Hi9 hrg; clear hrg
   have HCH := Hi9 hch; clear hch hfr HA y0 y1
   go_upto_region 7 with fail
   refine wp_alw ?_
   intro W6 hW6
   have hbX := alw_blk (xs := [.int .i64 X.1.most, .slice (some ⟨rb1, 0, none⟩) X.1.nodes.length cap1]) hW6
   have hc56 := alw_ch hW6
   have hrX := HRG.out.ch hc56 (by simp)
   have hc6 := (HCW.out.trans HCH.out (by simp)).trans hc56 (by simp)
   have b2 := (B22.out.ch HCH.out (by simp)).ch hc56 (by simp)
   have b4 := (B44.out.ch HCH.out (by simp)).ch hc56 (by simp)
   clear hW6 hc56 HRG HCH HCW B22 B44
   generalize w5.heap.size = b5 at *
   have x0 := hbX.cell (i := 0) rfl
   have x1 := hbX.cell (i := 1) rfl
   have y0 := b2.cell (i := 0) rfl
   have y1 := b2.cell (i := 1) rfl
   have v0 := b4.cell (i := 0) rfl
   have v1 := b4.cell (i := 1) rfl
   have f0 := b4.frozen (i := 0)
   have f1 := b4.frozen (i := 1)
   have RX := Hi9 hrX; clear hrX
   have HC6 := Hi9 hc6; clear hc6 b2 b4 hbX
   rcases E1.out with he | he
   ·have q : ((X.2.2 : Int) != 0) = false := by simp [he]
    have hro := HRO.out
    rw [if_neg (by simp [he])] at hro
    have HRO2 := Hi9 hro; clear hro he HRO
    go_wp2_with fail
    refine Ord.St.door (fun _ => True) [.rd, .fl, .fl, .ef, .fl, .fl] [0, 0, 2, 7, 15, 31] [0, 1, 2, 3, 4, 5] mixed (by kernel_rfl) rfl ?_
    (refine Ord.Q9 ?_ (fun K hk => ?_) ?_; rotate_left; focus (go_step; exact hk))
    (refine Ord.F9 ?_ (fun K w' hk => ?_) ?_; rotate_left; focus (go_step; exact hk))
    refine Ord.G9 ?_ 2 [3, 4, 5] (fun K w' hk => ?_) ?_
    rotate_left
    ·go_step; refine (HNR.out _).mono ?_; rintro e w'' ⟨rfl, rfl⟩; exact hk
    refine Ord.St.ef 3 [4, 5] _ rfl (by kernel_rfl) (fun K hK => ?_)
    go_wp2_with fail
    refine ⟨rfl, hK _ _ ?_⟩; clear hK K
    iterate 2 (refine Ord.F9 ?_ (fun K w' hk => ?_) ?_; rotate_left; focus (go_step; exact hk))
    refine Ord.St.nil ?_
    go_wp2_with fail
    have hcc : Ch [w.heap.size + 1] W6 ((W6.setCell ⟨w.heap.size + 1, 0, none⟩ (.int .i64 X.1.most)).setCell ⟨w.heap.size + 1, 1, none⟩ (.slice (some ⟨rb1, 0, none⟩) X.1.nodes.length cap1)).drew := (((Ch.refl _ _).setCell (by simp) _).setCell (by simp) _).drew
    refine bodyPost_ret (v := .tuple #[.agg #[.int .i64 X.1.most, .slice (some ⟨rb1, 0, none⟩) X.1.nodes.length cap1], .int .i64 (neg X.2.1 : Nat), .int .i64 0]) (by simp [results, Tryz.results354, go_sem, v0, v1]) rfl ?_
    rw [HRO2.out]
    exact ⟨rb1, cap1, rfl, RX.out.ch hcc (by simp; omega), HC6.out.trans hcc (fun k hk => .inr (by simp at hk; omega)), by omega⟩
   ·have q : ((X.2.2 : Int) != 0) = true := by simp [he]
    have hro := HRO.out
    rw [if_pos (by simp [he])] at hro
    have HRO2 := Hi9 hro; clear hro he HRO
    go_wp2_with fail
    have hcc := set2_ch (w := W6) (b := w.heap.size + 1) (u := .int .i64 G.most) (v := .slice (some ⟨rb, 0, none⟩) G.nodes.length cap) rfl
    refine bodyPost_ret (v := .tuple #[.agg #[.int .i64 G.most, .slice (some ⟨rb, 0, none⟩) G.nodes.length cap], .int .i64 0, .int .i64 X.2.2]) (by simp [results, Tryz.results354, go_sem, v0, v1]) rfl ?_
    rw [HRO2.out]
    exact RTo.self H.out (HC6.out.trans hcc (fun k hk => .inr (by simp at hk; omega))) 0 X.2.2
end
end Go.Proofs.YtehljgigebhddaaGreat
namespace Go.Aig
end Go.Aig
namespace Go.Proofs.YtehljgigebhddaaGreat
open Go.RowKit Go.Mem Go.Aig
def metCells (met : List Bool) : List Value := met.map fun b => .int .i64 (if b then 1 else 0)
theorem run_make_ints (w : World) (n : Nat) (hn : n ≤ 65536) : (Instr.makeSlice 26 (.int .i64 n) (.int .i64 n)).run Tryz.prog w = .ok (.slice (some ⟨w.heap.size, 0, none⟩) n n) (w.alloc (.cells (metCells (List.replicate n false)).toArray 3)) := by
 obtain ⟨i, hi, hz, hs, hb⟩ := info_parts infoInt
 have := run_make (P := Tryz.prog) w 26 3 i (.int .i64 0) Tryz.underlying26 hi hz .i64 .i64 n n (by omega) (by omega) (by rw [hb]; omega) (by omega)
 rw [this, hs]
 have e : madeCells (Value.int .i64 0).cells ((n : Int).toNat * 1) = (metCells (List.replicate n false)).toArray := by
  apply Array.ext'
  have h := toList_madeCells_one (Value.int .i64 0) ((n : Int).toNat * 1)
  simpa [metCells, Value.cells] using h
 rw [e]; simp
section
end
section
end
theorem Sl.of_ints {w : World} {e : TypeId} {a : Option Addr} {n cap : Nat} {l : List Int} (h : row w e 1 (.slice a n cap) n (intCells l)) (hn : n ≤ 1000000) : Sl w a l := by
 have hlen : l.length = n := by have := h.1; simpa [intCells] using this
 refine ⟨fun i x hx => ?_, by omega⟩
 obtain ⟨gb, go, hge, gc⟩ := (row.sv h rfl hn).cells i (.int .i64 x) (by simp [intCells, hx])
 exact ⟨gb, go, hge, gc⟩
theorem Eqref_same {w : World} {a b : Option Addr} {n : Nat} {l : List Int} (ca cb : Nat) (hn : l.length = n) (hx : Sl w a l) (hy : Sl w b l) : Calls Tryz.prog 56 #[.slice a n ca, .slice b n cb] w fun e w' => e = .returned (.bool true) ∧ Ch [] w w' := by
 subst hn
 have := Eqref_is ca cb hx hy
 rw [decide_eq_true rfl] at this
 exact this
theorem Eqint_same {w : World} {a b : Option Addr} {n : Nat} {l : List Int} (ca cb : Nat) (hn : l.length = n) (hx : Sl w a l) (hy : Sl w b l) : Calls Tryz.prog 220 #[.slice a n ca, .slice b n cb] w fun e w' => e = .returned (.bool true) ∧ Ch [] w w' := by
 subst hn
 have := Eqint_is ca cb hx hy
 rw [decide_eq_true rfl] at this
 exact this
end Go.Proofs.YtehljgigebhddaaGreat
namespace Go.Aig
theorem and_err {G : Gra} {a b : Nat} (h : (and G a b).2.2 ≠ 0) : and G a b = (G, 0, (and G a b).2.2) := by
 unfold and at h ⊢
 split
 ·rename_i r hi; rw [hi] at h; exact absurd rfl h
 ·rename_i l r hi
  rw [hi] at h
  dsimp only at h
  cases hf : findAnd G.nodes l r with
  | some n => rw [hf] at h; exact absurd rfl h
  | none =>
   rw [hf] at h
   dsimp only at h ⊢
   unfold put at h ⊢
   split
   ·rfl
   ·rename_i hm; rw [if_neg hm] at h; exact absurd rfl h
theorem any_no {ns : List Nd} {l : List Int} (h : ∀ x ∈ l, right ns x = true) : (l.any fun r => !right ns r) = false := by
 rw [List.any_eq_false]
 intro x hx
 rw [h x hx]; simp
theorem whole_ok {G : Gra} {l : List Int} (h : ∀ x ∈ l, right G.nodes x = true) (f : Mk → Mk × Nat) : whole G l f = if (f (G, 0)).1.2 ≠ 0 then (G, 0, (f (G, 0)).1.2) else ((f (G, 0)).1.1, (f (G, 0)).2, 0) := by
 unfold whole
 rw [any_no h, if_neg (by simp)]
theorem mand_zero (G : Gra) (a b : Nat) : mand (G, 0) a b = (((and G a b).1, (and G a b).2.2), (and G a b).2.1) := by unfold mand; rw [if_neg (by simp)]
theorem mand_bad {s : Mk} (h : s.2 ≠ 0) (a b : Nat) : mand s a b = (s, 0) := by unfold mand; rw [if_pos h]
theorem mand_fine {s : Mk} (h : s.2 = 0) (a b : Nat) : mand s a b = (((and s.1 a b).1, (and s.1 a b).2.2), (and s.1 a b).2.1) := by unfold mand; rw [if_neg (by simp [h])]
theorem whole_and {G : Gra} {l : List Int} (h : ∀ x ∈ l, right G.nodes x = true) (a b : Nat) : whole G l (fun s => mand s a b) = and G a b := by
 rw [whole_ok h, mand_zero]
 dsimp only
 split
 ·rename_i he; exact (and_err he).symm
 ·rename_i he
  simp only [ne_eq, Decidable.not_not] at he
  rw [← he]
theorem mall_bad : ∀ (l : List Nat) {s : Mk} (out : Nat), s.2 ≠ 0 → (mall s out l).1 = s
 | [], _, _, _ => rfl
 | r :: l, s, out, h => by
  unfold mall
  rw [mand_bad h]
  exact mall_bad l 0 h
theorem mall_from (G0 : Gra) : ∀ (l : List Nat) (G : Gra) (out : Nat), (if (mall (G, 0) out l).1.2 ≠ 0 then (G0, 0, (mall (G, 0) out l).1.2) else ((mall (G, 0) out l).1.1, (mall (G, 0) out l).2, 0) : Res) = rAllFrom G0 G out l
 | [], G, out => by simp [mall, rAllFrom]
 | r :: l, G, out => by
  unfold mall rAllFrom
  rw [mand_zero]
  dsimp only
  by_cases he : (and G out r).2.2 ≠ 0
  ·rw [if_pos he]
   rw [mall_bad l _ (s := ((and G out r).1, (and G out r).2.2)) he, if_pos he]
  ·rw [if_neg he]
   have he' : (and G out r).2.2 = 0 := by simpa using he
   rw [he']
   exact mall_from G0 l _ _
theorem whole_all {G : Gra} {l : List Int} (h : ∀ x ∈ l, right G.nodes x = true) (ns : List Nat) : whole G l (fun s => mall s 1 ns) = rAll G ns := by
 rw [whole_ok h]
 exact mall_from G ns G 1
theorem whole_any {G : Gra} {l : List Int} (h : ∀ x ∈ l, right G.nodes x = true) (ns : List Nat) : whole G l (fun s => many s ns) = rAny G ns := by
 rw [whole_ok h]
 unfold many rAny rAll
 rw [← mall_from G (ns.map neg) G 1]
 by_cases he : (mall (G, 0) 1 (ns.map neg)).1.2 ≠ 0
 ·simp only [if_pos he]
 ·simp only [if_neg he]; simp
theorem whole_mux {G : Gra} {l : List Int} (h : ∀ x ∈ l, right G.nodes x = true) (c a b : Nat) : whole G l (fun s => mmux s c a b) = rMux G c a b := by
 rw [whole_ok h]
 unfold mmux rMux mor
 dsimp only
 rw [mand_zero]
 dsimp only
 generalize and G c a = X
 unfold rThen
 by_cases h1 : X.2.2 ≠ 0
 ·rw [if_pos h1]
  simp only [mand_bad (s := (X.1, X.2.2)) h1]
  rw [if_pos h1]
 ·rw [if_neg h1]
  have e1 : X.2.2 = 0 := by simpa using h1
  simp only [mand_fine (s := (X.1, X.2.2)) e1]
  generalize and X.1 (neg c) b = Y
  by_cases h2 : Y.2.2 ≠ 0
  ·rw [if_pos h2]
   simp only [mand_bad (s := (Y.1, Y.2.2)) h2]
   rw [if_pos h2]
  ·rw [if_neg h2]
   have e2 : Y.2.2 = 0 := by simpa using h2
   simp only [mand_fine (s := (Y.1, Y.2.2)) e2]
   unfold rOr
   by_cases h3 : (and Y.1 (neg X.2.1) (neg Y.2.1)).2.2 ≠ 0
   ·simp only [if_pos h3]
   ·simp only [if_neg h3]; simp
end Go.Aig
namespace Go.Proofs.YtehljgigebhddaaGreat
open Go.RowKit Go.Mem Go.Aig
section
end
end Go.Proofs.YtehljgigebhddaaGreat
namespace Go.Aig
def rstep (s : Mk) (R : Res) : Mk × Nat := if s.2 ≠ 0 then (s, 0) else if R.2.2 ≠ 0 then ((s.1, R.2.2), 0) else ((R.1, 0), R.2.1)
def mput (s : Mk) (R : Res) : Mk × Nat := ((R.1, if s.2 = 0 then R.2.2 else s.2), R.2.1)
structure RFull (G : Gra) (R : Res) : Prop where
 ok : ROk G R
 keep : R.2.2 ≠ 0 → R = (G, 0, 201)
theorem and_full {G : Gra} (h : Ok G) {a b : Nat} (ha : a < 2 * G.nodes.length) (hb : b < 2 * G.nodes.length) : RFull G (and G a b) := by
 refine ⟨and_rok h ha hb, fun he => ?_⟩
 have h1 := and_err he
 have h2 := (and_rok h ha hb).err
 rw [h1]
 rcases h2 with e | e
 ·exact absurd e he
 ·rw [e]
theorem rMux_full {G : Gra} (h : Ok G) {c a b : Nat} (hc : c < 2 * G.nodes.length) (ha : a < 2 * G.nodes.length) (hb : b < 2 * G.nodes.length) : RFull G (rMux G c a b) := by
 have h1 := and_rok h hc ha
 have h2 := and_rok h1.ok (h1.ext.lt (neg_lt hc)) (h1.ext.lt hb)
 have h3 := rOr_rok h2.ok (h2.ext.lt h1.lt) h2.lt
 have hk : ∀ X Y : Res, (X.2.2 = 0 ∨ X.2.2 = 201) → (Y.2.2 ≠ 0 → Y = (G, 0, 201)) → (rThen G X Y).2.2 ≠ 0 → rThen G X Y = (G, 0, 201) := fun X Y hX hY he => by
  unfold rThen at he ⊢
  split
  ·rcases hX with e | e
   ·rename_i h3; exact absurd e h3
   ·rw [e]
  ·rename_i h3; rw [if_neg h3] at he; exact hY he
 refine ⟨rMux_rok h hc ha hb, ?_⟩
 unfold rMux
 refine hk _ _ h1.err (hk _ _ h2.err (hk _ _ h3.err ?_))
 intro he; exact absurd rfl he
theorem rXor_full {G : Gra} (h : Ok G) {a b : Nat} (ha : a < 2 * G.nodes.length) (hb : b < 2 * G.nodes.length) : RFull G (rXor G a b) := rMux_full h ha (neg_lt hb) hb
theorem rAllFrom_err (G0 : Gra) (h0 : Ok G0) : ∀ (l : List Nat) {G : Gra} {out : Nat}, Ok G → out < 2 * G.nodes.length → (∀ r ∈ l, r < 2 * G.nodes.length) → (rAllFrom G0 G out l).2.2 ≠ 0 → rAllFrom G0 G out l = (G0, 0, 201)
 | [], G, out, _, _, _, he => absurd rfl he
 | r :: l, G, out, h, ho, hl, he => by
  have h1 := and_rok h ho (hl r (by simp))
  unfold rAllFrom at he ⊢
  split
  ·rcases h1.err with e | e
   ·rename_i h3; exact absurd e h3
   ·rw [e]
  ·rename_i h3
   rw [if_neg h3] at he
   exact rAllFrom_err G0 h0 l h1.ok h1.lt (fun x hx => h1.ext.lt (hl x (by simp [hx]))) he
theorem rAll_full {G : Gra} (h : Ok G) {l : List Nat} (hl : ∀ r ∈ l, r < 2 * G.nodes.length) : RFull G (rAll G l) :=
 ⟨rAll_rok h hl, rAllFrom_err G h l h (by have := h.wf.pos; omega) hl⟩
theorem rAny_full {G : Gra} (h : Ok G) {l : List Nat} (hl : ∀ r ∈ l, r < 2 * G.nodes.length) : RFull G (rAny G l) := by
 refine ⟨rAny_rok h hl, fun he => ?_⟩
 have h2 := (rAll_rok h (negs_lt hl)).err
 unfold rAny at he ⊢
 split
 ·rcases h2 with e | e
  ·rename_i h3; exact absurd e h3
  ·rw [e]
 ·rename_i h3; rw [if_neg h3] at he; exact absurd rfl he
theorem put_full {G : Gra} (h : Ok G) : RFull G (put G ⟨2, 0, 0, 0⟩) := by
 have hp := h.wf.pos
 unfold put
 split
 ·exact ⟨⟨h, .refl _, by show 0 < 2 * G.nodes.length; omega, .inr rfl⟩, fun _ => rfl⟩
 ·rename_i hm
  exact ⟨⟨⟨h.wf.input, by simp; omega, h.most⟩, ⟨rfl, _, rfl⟩, by simp, .inl rfl⟩, fun he => absurd rfl he⟩
structure Sim (G0 : Gra) (P R : Mk) : Prop where
 ok : Ok P.1
 ext : Ext G0 P.1
 rel : (R.2 = 0 ∧ P = R) ∨ (R.2 = 201 ∧ P.2 = 201)
 rok : Ok R.1
 rext : Ext G0 R.1
theorem Sim.start {G : Gra} (h : Ok G) : Sim G (G, 0) (G, 0) := ⟨h, .refl _, .inl ⟨rfl, rfl⟩, h, .refl _⟩
theorem rstep_bad {s : Mk} (h : s.2 ≠ 0) (R : Res) : rstep s R = (s, 0) := by unfold rstep; rw [if_pos h]
theorem rstep_no {s : Mk} (h : s.2 = 0) {R : Res} (hR : R.2.2 ≠ 0) : rstep s R = ((s.1, R.2.2), 0) := by unfold rstep; rw [if_neg (by simp [h]), if_pos hR]
theorem rstep_ok {s : Mk} (h : s.2 = 0) {R : Res} (hR : R.2.2 = 0) : rstep s R = ((R.1, 0), R.2.1) := by unfold rstep; rw [if_neg (by simp [h]), if_neg (by simp [hR])]
theorem mput_bad {s : Mk} (h : s.2 ≠ 0) (R : Res) : mput s R = ((R.1, s.2), R.2.1) := by unfold mput; rw [if_neg h]
theorem mput_ok {s : Mk} (h : s.2 = 0) (R : Res) : mput s R = ((R.1, R.2.2), R.2.1) := by unfold mput; rw [if_pos h]
theorem Sim.step {G0 : Gra} {P R : Mk} (h : Sim G0 P R) {X Y : Res} (hX : RFull P.1 X) (he : R.2 = 0 → P = R → X = Y) :
  Sim G0 (mput P X).1 (rstep R Y).1 ∧ (mput P X).2 < 2 * (mput P X).1.1.nodes.length ∧ (rstep R Y).2 < 2 * (rstep R Y).1.1.nodes.length ∧ ((rstep R Y).1.2 = 0 → (mput P X).2 = (rstep R Y).2) ∧ Ext P.1 (mput P X).1.1 ∧ Ext R.1 (rstep R Y).1.1 ∧ (R.2 ≠ 0 → (rstep R Y).1.2 ≠ 0) := by
 have hrp := h.rok.wf.pos
 rcases h.rel with ⟨e0, e1⟩ | ⟨e0, e1⟩
 ·have e2 := he e0 e1
  subst e2; subst e1
  by_cases hx : X.2.2 = 0
  ·rw [rstep_ok e0 hx, mput_ok e0, hx]
   exact ⟨⟨hX.ok.ok, h.ext.trans hX.ok.ext, .inl ⟨rfl, rfl⟩, hX.ok.ok, h.ext.trans hX.ok.ext⟩, hX.ok.lt, hX.ok.lt, fun _ => rfl, hX.ok.ext, hX.ok.ext, fun hz => absurd e0 hz⟩
  ·rw [rstep_no e0 hx, mput_ok e0, hX.keep hx]
   show Sim G0 (P.1, 201) (P.1, 201) ∧ 0 < 2 * P.1.nodes.length ∧ 0 < 2 * P.1.nodes.length ∧ ((201 : Nat) = 0 → (0 : Nat) = 0) ∧ Ext P.1 P.1 ∧ Ext P.1 P.1 ∧ (P.2 ≠ 0 → (201 : Nat) ≠ 0)
   exact ⟨⟨h.ok, h.ext, .inr ⟨rfl, rfl⟩, h.rok, h.rext⟩, by omega, by omega, fun _ => rfl, .refl _, .refl _, fun _ => by omega⟩
 ·rw [rstep_bad (by omega), mput_bad (by omega)]
  exact ⟨⟨hX.ok.ok, h.ext.trans hX.ok.ext, .inr ⟨e0, e1⟩, h.rok, h.rext⟩, hX.ok.lt, by show 0 < 2 * R.1.nodes.length; omega, fun hz => absurd (show R.2 = 0 from hz) (by omega), hX.ok.ext, .refl _, fun hz => hz⟩
/-! ### the operations of the reference on a state -/
def sAnd (s : Mk) (a b : Nat) : Mk × Nat := rstep s (and s.1 a b)
def sOr (s : Mk) (a b : Nat) : Mk × Nat := rstep s (rOr s.1 a b)
def sXor (s : Mk) (a b : Nat) : Mk × Nat := rstep s (rXor s.1 a b)
def sMux (s : Mk) (c a b : Nat) : Mk × Nat := rstep s (rMux s.1 c a b)
def sAny (s : Mk) (l : List Nat) : Mk × Nat := rstep s (rAny s.1 l)
def sPut (s : Mk) : Mk × Nat := rstep s (put s.1 ⟨2, 0, 0, 0⟩)
def eachS (op : Mk → Nat → Nat → Mk × Nat) (q : Mk × List Nat) (p : Nat × Nat) : Mk × List Nat := ((op q.1 p.1 p.2).1, q.2 ++ [(op q.1 p.1 p.2).2])
def eachF (op : Mk → Nat → Nat → Mk × Nat) (s : Mk) (l : List (Nat × Nat)) : Mk × List Nat := l.foldl (eachS op) (s, [])
def sumS (n : Nat) (q : Mk × List Nat × Nat) (p : Nat × Nat) : Mk × List Nat × Nat :=
 let x := sXor q.1 p.1 p.2
 let r := sXor x.1 x.2 q.2.2
 if q.2.1.length + 1 < n then
  let both := sAnd r.1 p.1 p.2
  let more := sAnd both.1 x.2 q.2.2
  let next := sOr more.1 both.2 more.2
  (next.1, q.2.1 ++ [r.2], next.2)
 else (r.1, q.2.1 ++ [r.2], q.2.2)
def sumF (n : Nat) (s : Mk) (l : List (Nat × Nat)) (c : Nat) : Mk × List Nat × Nat := l.foldl (sumS n) (s, [], c)
def ltS (q : Mk × Nat) (p : Nat × Nat) : Mk × Nat := sMux (sXor q.1 p.1 p.2).1 (sXor q.1 p.1 p.2).2 p.2 q.2
def ltF (s : Mk) (l : List (Nat × Nat)) : Mk × Nat := l.foldl ltS (s, 0)
def inS (q : Mk × List Nat) : Mk × List Nat := ((sPut q.1).1, q.2 ++ [(sPut q.1).2])
def inF (s : Mk) : Nat → Mk × List Nat
 | 0 => (s, [])
 | n + 1 => inS (inF s n)
end Go.Aig
namespace Go.Proofs.YtehljgigebhddaaGreat
open Go.RowKit Go.Mem Go.Aig
theorem doAnd_r {G : Gra} {a b : Nat} (ha : a < 2 * G.nodes.length) (hb : b < 2 * G.nodes.length) : doAnd G a b = and G a b := by
 unfold doAnd
 rw [whole_and (by simp [right]; omega)]; rfl
theorem doXor_r {G : Gra} {a b : Nat} (ha : a < 2 * G.nodes.length) (hb : b < 2 * G.nodes.length) : doXor G a b = rXor G a b := by
 unfold doXor rXor
 rw [whole_mux (by simp [right]; omega)]; rfl
theorem doMux_r {G : Gra} {c a b : Nat} (hc : c < 2 * G.nodes.length) (ha : a < 2 * G.nodes.length) (hb : b < 2 * G.nodes.length) : doMux G c a b = rMux G c a b := by
 unfold doMux
 rw [whole_mux (by simp [right]; omega)]; rfl
theorem toNats (l : List Nat) : (l.map fun (r : Nat) => (r : Int)).map Int.toNat = l := by
 induction l with
 | nil => rfl
 | cons a l ih => simp only [List.map_cons, ih]; rfl
theorem doAny_r {G : Gra} {l : List Nat} (hl : ∀ r ∈ l, r < 2 * G.nodes.length) : doAny G (l.map fun (r : Nat) => (r : Int)) = rAny G l := by
 unfold doAny
 rw [toNats, whole_any (by
  intro x hx
  obtain ⟨r, hr, rfl⟩ := List.mem_map.1 hx
  have := hl r hr
  simp [right]; omega)]
structure MIn (w : World) (g m : Nat) (P : Mk) (F : List Nat) : Prop where
 gin : GIn w g P.1 F
 bk : blk w m [.pointer (some ⟨g, 0, none⟩), .int .i64 P.2]
 apart : m ∉ F
def MTo (w : World) (g m : Nat) (P : Mk) (F : List Nat) (w' : World) : Prop := ∃ F', MIn w' g m P F' ∧ Ch (m :: F) w w' ∧ (∀ k ∈ F', k ∈ F ∨ w.heap.size ≤ k) ∧ F'[2]? = F[2]?
theorem MIn.same {w w' : World} {g m : Nat} {P : Mk} {F F' : List Nat} (h : MIn w g m P F) (hc : Ch F' w w') (hF : ∀ k ∈ m :: F, k ∉ F') : MIn w' g m P F :=
 ⟨h.gin.same hc (fun k hk => hF k (by simp [hk])), h.bk.ch hc (hF m (by simp)), h.apart⟩
theorem MTo.of {w w1 w' : World} {g m : Nat} {P P' : Mk} {F : List Nat} (h : MIn w g m P F) (ht : GTo w g P'.1 F w1) (hb : blk w1 m [.pointer (some ⟨g, 0, none⟩), .int .i64 P.2] → blk w' m [.pointer (some ⟨g, 0, none⟩), .int .i64 P'.2]) (hc : Ch [m] w1 w') : MTo w g m P' F w' := by
 obtain ⟨F', h1, h2, h3, h4⟩ := ht
 have hm := h.bk.lt
 have hmF : m ∉ F' := fun hk => (h3 m hk).elim h.apart (by omega)
 exact ⟨F', ⟨h1.same hc (fun k hk e => hmF (by simp at e; exact e ▸ hk)), hb (h.bk.ch h2 h.apart), hmF⟩, (h2.mono (fun k hk => .inl (by simp [hk]))).trans hc (fun k hk => .inl (by simp at hk; simp [hk])), h3, h4⟩
section
variable {w : World} {g m : Nat}
theorem sput_is {e : Nat} (hb : blk w m [.pointer (some ⟨g, 0, none⟩), .int .i64 e]) (r : Nat) (f : Nat) :
  Calls Tryz.prog 175 #[.pointer (some ⟨m, 0, none⟩), .int .i64 r, .int .i64 f] w fun x w' => x = .returned (.int .i64 r) ∧ blk w' m [.pointer (some ⟨g, 0, none⟩), .int .i64 ((if e = 0 then f else e : Nat) : Int)] ∧ Ch [m] w w' := by
 have m1 := hb.cell (i := 1) rfl
 have m1f := hb.frozen (i := 1)
 have HB := Hi9 hb; clear hb
 by_cases he : e = 0
 ·subst he
  rw [if_pos rfl]
  go_enter Tryz.func175, Tryz.ntmps175
  go_wp2_with fail
  go_ret
  exact ⟨rfl, HB.out.set (i := 1) _, (Ch.refl _ _).setCell (by simp) _⟩
 ·have hq : ((e : Int) == 0) = false := beqN (by omega)
  rw [if_neg he]
  go_enter Tryz.func175, Tryz.ntmps175
  go_wp2_with fail
  go_ret
  exact ⟨rfl, HB.out, Ch.refl _ _⟩
theorem sxor_is {P : Mk} {F : List Nat} (h : MIn w g m P F) {a b : Nat} (ha : a < 2 * P.1.nodes.length) (hb : b < 2 * P.1.nodes.length) :
  Calls Tryz.prog 313 #[.pointer (some ⟨m, 0, none⟩), .int .i64 a, .int .i64 b] w fun e w' => e = .returned (.int .i64 (mput P (rXor P.1 a b)).2) ∧ MTo w g m (mput P (rXor P.1 a b)).1 F w' := by
 have hl := h.gin.ok.room
 have hl2 := h.gin.ok.most
 have HX := Xor_g h.gin a b (by omega) (by omega)
 rw [doXor_r ha hb] at HX
 have m0 := h.bk.cell (i := 0) rfl
 have H := Hi9 h; clear h
 clear hl hl2
 generalize hR : rXor P.1 a b = R at *
 clear hR
 go_enter Tryz.func313, Tryz.ntmps313
 go_wp2_with fail
 refine HX.mono ?_
 rintro e w1 ⟨rfl, ht⟩
 have hb1 := H.out.bk.ch ht.gin.choose_spec.2.1 H.out.apart
 have HP := sput_is hb1 R.2.1 R.2.2
 have HT := Hi9 ht; clear ht
 clear hb1
 go_wp2_with fail
 refine HP.mono ?_
 rintro e w2 ⟨rfl, hb2, hc2⟩
 have HB := Hi9 hb2; clear hb2
 have HC := Hi9 hc2; clear hc2
 go_wp2_with fail
 go_ret
 exact ⟨rfl, MTo.of H.out HT.out (fun _ => HB.out) HC.out⟩
end
end Go.Proofs.YtehljgigebhddaaGreat
namespace Go
open Go.RowKit Go.Mem
section
variable {F : Fence} {n : Nat} {P : Program}
def Kept (K : List Nat) (W W' : World) : Prop := ∀ k ∈ K, W'.heap[k]? = W.heap[k]?
def Books (B : Nat) (W W' : World) : Prop := W'.heap[B]? = W.heap[B]? ∧ W'.heap[B + 1]? = W.heap[B + 1]?
theorem Kept.of_ch {K L : List Nat} {W W' : World} (hc : Ch L W W') (h : ∀ k ∈ K, k < W.heap.size ∧ k ∉ L) : Kept K W W' := fun k hk => hc.block k (h k hk).1 (h k hk).2
theorem Books.of_ch {B : Nat} {L : List Nat} {W W' : World} (hc : Ch L W W') (hB : B + 2 ≤ W.heap.size) (h : ∀ k ∈ L, k ≠ B ∧ k ≠ B + 1) : Books B W W' :=
 ⟨hc.block B (by omega) (fun hk => (h B hk).1 rfl), hc.block (B + 1) (by omega) (fun hk => (h (B + 1) hk).2 rfl)⟩
def SeqP {α : Type} (F : Fence) (n : Nat) (P : Program) (g : Nat) (lb : Array Value) (encs : α → Array Value) (K : List Nat) (xs : List α) (w : World) : Prop :=
 ∀ (l : Nat) (J : List α → World → Prop) (Jx : World → Prop) (W : World), (∀ k ∈ K, W.heap[k]? = w.heap[k]?) → (∀ s A A', J s A → Ch [] A A' → J s A') → (∀ A A', Jx A → Ch [] A A' → Jx A') →
  (∀ pre x W1, J pre W1 → (pre ++ [x]) <+: xs → YieldAt F (n - 1) P l (encs x) W1 fun e W' => (e = .returned (.bool true) ∧ J (pre ++ [x]) W' ∧ Kept K W1 W') ∨ (e = .returned (.bool false) ∧ Jx W')) →
  J [] W →
  CallsIn F n P g (#[.func (.yield l) #[] #[]] ++ lb) W fun e W' => (∃ v, e = .returned v) ∧ (J xs W' ∨ Jx W')

theorem ch_put {A : World} {l : Nat} {o' : Obj} {L : List Nat} (hl : l ∈ L) : Ch L A (A.putObj l o') := ⟨rfl, rfl, rfl, by simp, fun k _ hn => World.putObj_heap_other (fun e => by subst e; exact hn hl)⟩

theorem wpIn_rangeFunc_P {α : Type} {g : Operand} {ps : Array Tmp} {assign body : Code} {Q : Exit → Act → World → Prop} {a : Act} {w : World} (B : Nat) (hB : w.heap.size = B)
  (hro : F.round = none) (h1 : 1 ≤ n) {gf : Nat} {lb : Array Value} (hg : a.eval g = .func (.func gf) #[] lb) (hFg : F.fn gf) (eg : ∀ args w, (callFunc gf args).run P w = .ok (.enter gf args) w)
  {encs : α → Array Value} {K : List Nat} {xs : List α} (hseq : SeqP F (n - 1) P gf lb encs K xs w) (hK : ∀ k ∈ K, k < B) (hps : ∀ x, (encs x).size = ps.size)
  (I : List α → World → Prop) (Ix : World → Prop) (hI : ∀ s A A', I s A → Ch [B, B + 1] A A' → I s A') (hIx : ∀ A A', Ix A → Ch [B, B + 1] A A' → Ix A') (h0 : I [] w) (a₁ : α → Act)
  (hassign : ∀ (l : Nat) (x : α) (W : World) (K : Act → World → Prop), K (a₁ x) W →
   assign.wpIn (F.inRound l) (n - 1 - 1) P (Exit.then K (fun _ _ _ => False)) { tmps := (ps.zip (encs x)).foldl (fun t (p, v) => t.setIfInBounds p v) a.tmps, defers := [] } W)
  (hbody : ∀ (l : Nat) (pre : List α) (x : α) (W : World), I pre W → B + 2 ≤ W.heap.size → (pre ++ [x]) <+: xs → body.wpIn (F.inRound l) (n - 1 - 1) P (fun e _ W' => Books B W W' ∧ ((e = .normal ∧ I (pre ++ [x]) W' ∧ Kept K W W') ∨ (e = .ret ∧ Ix W'))) (a₁ x) W)
  (hdone : ∀ (W : World), I xs W → W.heap[B]? = some (.deferred (some [])) → B + 2 ≤ W.heap.size → Q .normal { a with defers := { target := .collected B, args := #[] } :: a.defers } W)
  (hstop : ∀ (W : World), Ix W → W.heap[B]? = some (.deferred (some [])) → B + 2 ≤ W.heap.size → (Code.ret).wpIn F n P Q { a with defers := { target := .collected B, args := #[] } :: a.defers } W) :
  (Code.rangeFunc g ps assign body).wpIn F n P Q a w := by
 subst hB
 refine wpIn_rangeFunc fun fn hfn => ?_
 rw [hro]
 let rec0 : LoopState → Option Code → Loop := fun st pe => { state := st, pending := pe, fn, tmps := a.tmps, params := ps, assign, body, defers := w.heap.size }
 obtain ⟨W1, hW1⟩ : ∃ W1, (w.alloc (.deferred (some []))).alloc (.loop (rec0 .ready none)) = W1 := ⟨_, rfl⟩
 have hz1 : W1.heap.size = w.heap.size + 2 := by rw [← hW1]; simp
 have hL1 : W1.heap[w.heap.size + 1]? = some (.loop (rec0 .ready none)) := by
  rw [← hW1]; have := World.alloc_heap_new (w.alloc (.deferred (some []))) (.loop (rec0 .ready none)); rwa [World.size_alloc] at this
 have hK1 : W1.heap[w.heap.size]? = some (.deferred (some [])) := by
  rw [← hW1]; exact (Below.heap_alloc _ _ _ (by simp)).trans (World.alloc_heap_new w _)
 have hc1 : Ch [] w W1 := by rw [← hW1]; exact ((Ch.refl _ _).alloc _).alloc _
 have hI1 : I [] W1 := hI _ _ _ h0 (hc1.mono (by simp))
 refine ⟨w.heap.size + 1, [{ target := .collected w.heap.size, args := #[] }], W1, { target := .fn (.func gf) lb, args := #[.func (.yield (w.heap.size + 1)) #[] #[]] }, W1, gf,
  #[.func (.yield (w.heap.size + 1)) #[] #[]] ++ lb, W1, ?_, ?_, ?_, ?_, fun _ => h1, ?_⟩
 ·rw [← hW1]; exact run_enterLoop_outer _ _ _ _ _
 ·simp only [resolve, hg]
  simp [go_sem]
 ·intro f' hf'; simp [Target.leads] at hf'; subst hf'; exact hFg
 ·simp [invoke, go_sem, eg]
 ·have hKne : ∀ k ∈ K, k ≠ w.heap.size + 1 := fun k hk => by have := hK k hk; omega
  refine (hseq (w.heap.size + 1) (fun pre W => I pre W ∧ w.heap.size + 2 ≤ W.heap.size ∧ W.heap[w.heap.size + 1]? = some (.loop (rec0 .ready none)) ∧ W.heap[w.heap.size]? = some (.deferred (some [])))
   (fun W => Ix W ∧ w.heap.size + 2 ≤ W.heap.size ∧ W.heap[w.heap.size + 1]? = some (.loop (rec0 .done (some .ret))) ∧ W.heap[w.heap.size]? = some (.deferred (some []))) W1 (fun k hk => hc1.block k (hK k hk) (by simp))
   (fun s A A' hs hc => ⟨hI s A A' hs.1 (hc.mono (by simp)), Nat.le_trans hs.2.1 hc.size, (hc.block _ (by have := hs.2.1; omega) (by simp)).trans hs.2.2.1, (hc.block _ (by have := hs.2.1; omega) (by simp)).trans hs.2.2.2⟩)
   (fun A A' hs hc => ⟨hIx A A' hs.1 (hc.mono (by simp)), Nat.le_trans hs.2.1 hc.size, (hc.block _ (by have := hs.2.1; omega) (by simp)).trans hs.2.2.1, (hc.block _ (by have := hs.2.1; omega) (by simp)).trans hs.2.2.2⟩)
   ?_ ⟨hI1, by omega, hL1, hK1⟩).mono ?_
  ·rintro pre x W ⟨hi, hz, hl, hk⟩ hpre
   have hlt : w.heap.size + 1 < W.heap.size := by omega
   refine ⟨fn, _, assign, body, run_yield (P := P) (args := encs x) hl (hps x), roundIn_of_wpIn hfn (hassign _ x W _ ⟨_, run_beginRound hl rfl, ?_⟩)⟩
   have hl2 : (W.putObj (w.heap.size + 1) (.loop (rec0 .busy none))).heap[w.heap.size + 1]? = some (.loop (rec0 .busy none)) := World.putObj_heap_same hlt
   have hk2 : (W.putObj (w.heap.size + 1) (.loop (rec0 .busy none))).heap[w.heap.size]? = some (.deferred (some [])) := (World.putObj_heap_other (by omega)).trans hk
   have hK2 : ∀ k ∈ K, (W.putObj (w.heap.size + 1) (.loop (rec0 .busy none))).heap[k]? = W.heap[k]? := fun k hk => World.putObj_heap_other (hKne k hk)
   refine wpIn_mono (hbody _ pre x _ (hI _ _ _ hi (ch_put (by simp))) (by simp; omega) hpre) ?_
   rintro e a3 W3 ⟨⟨hb0, hb1⟩, (⟨rfl, hi3, hk3⟩ | ⟨rfl, hi3⟩)⟩
   ·have hl3 := hb1.trans hl2
    have hlt3 := (Array.getElem?_eq_some_iff.1 hl3).1
    refine ⟨_, _, run_endRound (P := P) none hl3, .inl ⟨rfl, ⟨hI _ _ _ hi3 (ch_put (by simp)), by simp; omega, World.putObj_heap_same hlt3, (World.putObj_heap_other (by omega)).trans (hb0.trans hk2)⟩, fun k hk => ?_⟩⟩
    exact (World.putObj_heap_other (hKne k hk)).trans ((hk3 k hk).trans (hK2 k hk))
   ·have hl3 := hb1.trans hl2
    have hlt3 := (Array.getElem?_eq_some_iff.1 hl3).1
    refine ⟨_, _, run_endRound (P := P) (some .ret) hl3, .inr ⟨rfl, hIx _ _ hi3 (ch_put (by simp)), by simp; omega, World.putObj_heap_same hlt3, (World.putObj_heap_other (by omega)).trans (hb0.trans hk2)⟩⟩
  ·rintro e W2 ⟨⟨v, rfl⟩, (⟨hi, hz, hl, hk⟩ | ⟨hi, hz, hl, hk⟩)⟩
   ·exact ⟨none, _, run_endLoop (P := P) hl (by simp [rec0]), hdone _ (hI _ _ _ hi (ch_put (by simp))) ((World.putObj_heap_other (by omega)).trans hk) (by simp; omega)⟩
   ·exact ⟨some .ret, _, run_endLoop (P := P) hl (by simp [rec0]), hstop _ (hIx _ _ hi (ch_put (by simp))) ((World.putObj_heap_other (by omega)).trans hk) (by simp; omega)⟩
end
end Go
namespace Go.Proofs.YtehljgigebhddaaGreat
open Go.RowKit Go.Mem Go.Aig
def ablk (a : Option Addr) : List Nat := match a with | some p => [p.block] | none => []
theorem ablk_of {a : Option Addr} {p : Addr} (h : a = some p) : p.block ∈ ablk a := by subst h; simp [ablk]
theorem keep_cell {w W : World} {k o : Nat} (h : W.heap[k]? = w.heap[k]?) {v : Value} (hv : w.cell? ⟨k, o, none⟩ = some v) : W.cell? ⟨k, o, none⟩ = some v := (World.cell?_of_block h).trans hv
theorem Sl.keep {w W : World} {a : Option Addr} {l : List Int} (h : Sl w a l) (hk : ∀ k ∈ ablk a, W.heap[k]? = w.heap[k]?) : Sl W a l :=
 ⟨fun i x hx => by
  obtain ⟨b, o, rfl, hc⟩ := h.cells i x hx
  exact ⟨b, o, rfl, keep_cell (hk b (by simp [ablk])) hc⟩, h.bd⟩
def pairEnc (p : Nat × Nat) : Array Value := #[.int .i64 p.1, .int .i64 p.2]
theorem sfnvpairs1 : Fnv 341 := fnv_of Tryz.func341 (by simp [Tryz.f341]) (by simp [Tryz.f341])
theorem spairs_seq (w : World) (F : Fence) (n : Nat) (hf : F.fn 341) (hro : F.round = none) (hn : 1 ≤ n) {bx b2 : Nat} {xa ya : Option Addr} {x y : List Nat} (len xc yc : Nat) (hxl : x.length = len) (hyl : y.length = len) (hbx : w.cell? ⟨bx, 0, none⟩ = some (.slice xa len xc)) (hby : w.cell? ⟨b2, 0, none⟩ = some (.slice ya len yc))
  (hx : Sl w xa (x.map fun (r : Nat) => (r : Int))) (hy : Sl w ya (y.map fun (r : Nat) => (r : Int))) :
  SeqP F n Tryz.prog 341 #[.pointer (some ⟨bx, 0, none⟩), .pointer (some ⟨b2, 0, none⟩)] pairEnc (bx :: b2 :: (ablk xa ++ ablk ya)) (x.zip y) w := by
 subst hxl
 intro lp J Jx W hK hJ hJx hY h0
 have hbd := hx.bd
 rw [List.length_map] at hbd
 show CallsIn F n Tryz.prog 341 #[.func (.yield lp) #[] #[], .pointer (some ⟨bx, 0, none⟩), .pointer (some ⟨b2, 0, none⟩)] W _
 have HY := Hi9 hY; clear hY
 have HJ := Hi9 hJ; clear hJ
 have HJX := Hi9 hJx; clear hJx
 have H0 := Hi9 h0; clear h0
 have HK := Hi9 hK; clear hK
 have HX := Hi9 hx; clear hx
 have HYS := Hi9 hy; clear hy
 have HBX := Hi9 hbx; clear hbx
 have HBY := Hi9 hby; clear hby
 have HYL := Hi9 hyl; clear hyl
 have bx1 := keep_cell (HK.out bx (by simp)) HBX.out
 refine callsIn_of_wp Tryz.func341 rfl hf ?_ hro
 simp only [Tryz.ntmps341, List.size_toArray, List.length_cons, List.length_nil, Nat.reduceAdd, Nat.reduceSub, Array.replicate_succ, Array.replicate_zero, List.push_toArray, List.append_toArray, List.nil_append, List.cons_append]
 gi_wp2
 clear bx1
 gi_loopw [8] (fun i wr => ∃ k : Nat, k ≤ x.length ∧ i = .int .i64 k ∧ (∀ q ∈ bx :: b2 :: (ablk xa ++ ablk ya), wr.heap[q]? = w.heap[q]?) ∧ J ((x.zip y).take k) wr) (fun i _ => x.length - (intOf i).toNat)
 case atStart => exact ⟨0, Nat.zero_le _, rfl, HK.out, H0.out⟩
 case round =>
  obtain ⟨k, hk, rfl, hq, hj⟩ := hrel
  by_cases hlt : k < x.length
  ·have hxk : x[k]? = some x[k] := List.getElem?_eq_getElem hlt
   have hyk : y[k]? = some (y[k]'(by rw [HYL.out]; exact hlt)) := List.getElem?_eq_getElem (by rw [HYL.out]; exact hlt)
   generalize x[k] = r at hxk
   generalize y[k]'(by rw [HYL.out]; exact hlt) = s at hyk
   obtain ⟨xb, xo, rfl, hxc⟩ := HX.out.cells k (r : Int) (by simp [hxk])
   obtain ⟨yb, yo, rfl, hyc⟩ := HYS.out.cells k (s : Int) (by simp [hyk])
   have d0 := keep_cell (hq xb (by simp [ablk])) hxc
   have d1 := keep_cell (hq yb (by simp [ablk])) hyc
   have e0 := keep_cell (hq b2 (by simp)) HBY.out
   have hz : (x.zip y)[k]? = some (r, s) := by rw [List.getElem?_zip_eq_some]; exact ⟨hxk, hyk⟩
   have hsu : (x.zip y).take (k + 1) = (x.zip y).take k ++ [(r, s)] := by rw [List.take_add_one, hz]; rfl
   obtain ⟨fn, tmps, assign, body, hy1, hR⟩ := HY.out _ (r, s) _ hj (by rw [← hsu]; exact List.take_prefix _ _)
   simp only [pairEnc] at hy1
   have HQ := Hi9 hq; clear hq
   have HJ1 := Hi9 hj; clear hj
   have HSU := Hi9 hsu; clear hsu
   clear hxk hyk hxc hyc hz
   gi_wp2
   refine hR.mono ?_
   rintro e W2 (⟨rfl, hJ2, hk2⟩ | ⟨rfl, hJ2⟩)
   ·have HJ2 := Hi9 hJ2; clear hJ2
    have HK2 := Hi9 hk2; clear hk2
    gi_wp2
    go_roundw
    case rel => exact ⟨k + 1, by omega, by go_num, fun q hq => (HK2.out q hq).trans (HQ.out q hq), by rw [HSU.out]; exact HJ2.out⟩
    case measure => simp [intOf]; omega
   ·have HJ2 := Hi9 hJ2; clear hJ2
    gi_wp2
    refine bodyPost_ret (results_none rfl _ _ _) rfl ?_
    exact ⟨⟨_, rfl⟩, .inr HJ2.out⟩
  ·have hkl : (x.zip y).take k = x.zip y := List.take_of_length_le (by rw [List.length_zip, HYL.out]; omega)
   rw [hkl] at hj
   have HJ1 := Hi9 hj; clear hj
   clear hkl
   gi_wp2
   go_end0
   exact ⟨⟨_, rfl⟩, .inl HJ1.out⟩
theorem spairs_is {w : World} (xa ya : Option Addr) (n xc n' yc : Nat) :
  Calls Tryz.prog 312 #[.slice xa n xc, .slice ya n' yc] w fun e w' => e = .returned (.func (.func 341) #[] #[.pointer (some ⟨w.heap.size, 0, none⟩), .pointer (some ⟨w.heap.size + 1, 0, none⟩)]) ∧ w' = (w.alloc (.cells #[.slice xa n xc] 45)).alloc (.cells #[.slice ya n' yc] 45) := by
 go_enter Tryz.func312, Tryz.ntmps312
 go_wp2_with fail
 go_ret
 exact ⟨rfl, rfl⟩
end Go.Proofs.YtehljgigebhddaaGreat
namespace Go.Aig
def wres (G : Gra) (R : Mk × List Nat) : Gra × List Nat × Nat := if R.1.2 ≠ 0 then (G, [], R.1.2) else (R.1.1, R.2, 0)
def rres (G : Gra) (R : Mk × Nat) : Res := if R.1.2 ≠ 0 then (G, 0, R.1.2) else (R.1.1, R.2, 0)
theorem Ext.back {G G' : Gra} (h : Ext G G') : ({ G' with nodes := G'.nodes.take G.nodes.length } : Gra) = G := by
 obtain ⟨e1, more, e2⟩ := h
 show ({ most := G'.most, nodes := G'.nodes.take G.nodes.length } : Gra) = G
 rw [e1, e2, List.take_left]
theorem doCut_back {G G' : Gra} (hG : Ok G) (h : Ext G G') : doCut G' G.nodes.length = (G, 0) := by
 have := h.len
 have := hG.wf.pos
 unfold doCut
 rw [if_neg (by omega)]
 simp only [Int.toNat_natCast]
 rw [h.back]
end Go.Aig
namespace Go.Proofs.YtehljgigebhddaaGreat
open Go.RowKit Go.Mem Go.Aig
def GVo (w : World) (g : Nat) (G : Gra) (X F : List Nat) (v : Value) (l : List Nat) (w' : World) : Prop :=
 ∃ F', GIn w' g G F' ∧ Ch (X ++ F) w w' ∧ (∀ k ∈ F', k ∈ F ∨ w.heap.size ≤ k) ∧ F'[2]? = F[2]? ∧ row w' 52 1 v l.length (refsCells l) ∧ ∀ k, v.ownBlock = some k → w.heap.size ≤ k ∧ k ∉ F'
def MVo (w : World) (g m : Nat) (P : Mk) (X F : List Nat) (v : Value) (l : List Nat) (w' : World) : Prop :=
 ∃ F', MIn w' g m P F' ∧ Ch (m :: (X ++ F)) w w' ∧ (∀ k ∈ F', k ∈ F ∨ w.heap.size ≤ k) ∧ F'[2]? = F[2]? ∧ row w' 52 1 v l.length (refsCells l) ∧ ∀ k, v.ownBlock = some k → w.heap.size ≤ k ∧ k ∉ F' ∧ k ≠ m
theorem GVo.nil {w w' : World} {g : Nat} {G : Gra} {X F F' : List Nat} (h1 : GIn w' g G F') (h2 : Ch (X ++ F) w w') (h3 : ∀ k ∈ F', k ∈ F ∨ w.heap.size ≤ k) (h4 : F'[2]? = F[2]?) : GVo w g G X F (.slice none 0 0) [] w' :=
 ⟨F', h1, h2, h3, h4, ⟨rfl, .inl ⟨rfl, rfl⟩⟩, by simp [Value.ownBlock]⟩
theorem GTo.mk {w w' : World} {g : Nat} {G : Gra} {F F' : List Nat} (h1 : GIn w' g G F') (h2 : Ch F w w') (h3 : ∀ k ∈ F', k ∈ F ∨ w.heap.size ≤ k) (h4 : F'[2]? = F[2]?) : GTo w g G F w' := ⟨F', h1, h2, h3, h4⟩
section
variable {w : World} {g : Nat} {G : Gra} {F : List Nat}
theorem sbuildW_is (h : GIn w g G F) (fid : Nat) (caps : Array Value) (hfn : Fnv fid) (R : Mk × List Nat) (X : List Nat)
  (hf : ∀ W m, w.heap.size ≤ m → Ch [] w W → MIn W g m (G, 0) F → Calls Tryz.prog fid (#[.pointer (some ⟨m, 0, none⟩)] ++ caps) W fun e W' => ∃ v P l, e = .returned v ∧ Sim G P R.1 ∧ (R.1.2 = 0 → l = R.2) ∧ MVo W g m P X F v l W') :
  Calls Tryz.prog 173 #[.pointer (some ⟨g, 0, none⟩), .func (.func fid) #[] caps] w fun e w' => ∃ v, e = .returned (.tuple #[v, .int .i64 (wres G R).2.2]) ∧ GVo w g (wres G R).1 X F v (wres G R).2.1 w' := by
 have HL := Len_g h
 have hg := h.lt
 have hok := h.ok
 have hroom := h.ok.room
 have hmost := h.ok.most
 have hms : MIn (w.alloc (.cells #[.pointer (some ⟨g, 0, none⟩), .int .i64 0] 325)) g w.heap.size (G, 0) F := ⟨h.same ((Ch.refl [] _).alloc _) (by simp), blk.new' _ _ rfl, fun hm => by have := hg _ hm; omega⟩
 have HF := hf _ w.heap.size (Nat.le_refl _) ((Ch.refl _ _).alloc _) hms
 have hcf : ∀ args w, (callFunc fid args).run Tryz.prog w = .ok (.enter fid args) w := hfn
 have H := Hi9 h; clear h
 have HG := Hi9 hg; clear hg
 have HOK := Hi9 hok; clear hok
 clear hf hms
 generalize hWW : wres G R = WW
 have HWW := Hi9 hWW; clear hWW
 go_enter Tryz.func173, Tryz.ntmps173
 go_wp2_with fail
 refine HL.mono ?_
 rintro e w' ⟨rfl, rfl⟩
 go_wp2_with fail
 refine HF.mono ?_
 rintro e w1 ⟨v, P, l, rfl, hsim, hl, F', hm, hc, hF', hF2, hrow, hown⟩
 obtain ⟨va, vc, rfl⟩ := row.shape hrow
 have m1 := hm.bk.cell (i := 1) rfl
 have hc0 : Ch (X ++ F) w w1 := (((Ch.refl (X ++ F) w).alloc (.cells #[.pointer (some ⟨g, 0, none⟩), .int .i64 0] 325))).trans hc (fun k hk => by
  simp only [List.mem_cons] at hk
  rcases hk with rfl | hk
  ·right; omega
  ·exact .inl hk)
 have hz := hc0.size
 have hF0 : ∀ k ∈ F', k ∈ F ∨ w.heap.size ≤ k := fun k hk => (hF' k hk).imp id (fun e => by simp at e; omega)
 have hrel := hsim.rel
 have hext := hsim.ext
 have HROW := Hi9 hrow; clear hrow
 have HC0 := Hi9 hc0; clear hc0
 have HF0 := Hi9 hF0; clear hF0
 have HOWN := Hi9 hown; clear hown
 have HM := Hi9 hm; clear hm
 have HEXT := Hi9 hext; clear hext
 clear hc hF' hsim
 rcases hrel with ⟨he, rfl⟩ | ⟨he, hp⟩
 ·have hw : wres G R = (R.1.1, R.2, 0) := by unfold wres; rw [if_neg (by simp [he])]
  have hww := HWW.out
  rw [hw] at hww
  subst hww
  rw [he] at m1
  have hl := hl he
  subst hl
  clear hw HOK
  have HE := Hi9 he; clear he
  go_wp2_with fail
  go_ret2
  exact ⟨_, rfl, F', HM.out.gin, HC0.out, HF0.out, hF2, HROW.out, fun k hk => ⟨by have := (HOWN.out k hk).1; simp at this; omega, (HOWN.out k hk).2.1⟩⟩
 ·have hw : wres G R = (G, [], 201) := by unfold wres; rw [if_pos (by simp [he]), he]
  have hww := HWW.out
  rw [hw] at hww
  subst hww
  rw [hp] at m1
  have hcut := Cut_g HM.out.gin G.nodes.length (by omega) (by omega)
  rw [doCut_back HOK.out HEXT.out] at hcut
  have hmlt := HM.out.bk.lt
  have hmF := HM.out.apart
  clear hw hl
  have HE := Hi9 he; clear he
  have HP := Hi9 hp; clear hp
  have HMF := Hi9 hmF; clear hmF
  go_wp2_with fail
  refine hcut.mono ?_
  rintro e w4 ⟨rfl, F4, hg4, hc4, hF4, hF42⟩
  have hm4 : w4.cell? ⟨w.heap.size, 1, none⟩ = some (.int .i64 201) := (hc4.cell (p := ⟨w.heap.size, 1, none⟩) hmlt HMF.out).trans m1
  clear m1
  have HG4 := Hi9 hg4; clear hg4
  have HC4 := Hi9 hc4; clear hc4
  have HF4 := Hi9 hF4; clear hF4
  go_wp2_with fail
  refine Ord.St.door (fun _ => True) [.fl, .fl, .fl, .fl, .rd, .fl, .fl] [0, 0, 2, 6, 14, 1, 63] [0, 1, 2, 3, 4, 5, 6] mixed (by kernel_rfl) rfl ?_
  iterate 4 (refine Ord.F9 ?_ (fun K w' hk => ?_) ?_; rotate_left; focus (go_step; exact hk))
  (refine Ord.Q9 ?_ (fun K hk => ?_) ?_; rotate_left; focus (go_step; exact hk))
  iterate 2 (refine Ord.F9 ?_ (fun K w' hk => ?_) ?_; rotate_left; focus (go_step; exact hk))
  refine Ord.St.nil ?_
  go_wp2_with fail
  go_ret2
  refine ⟨_, rfl, GVo.nil (F' := F4) (HG4.out.same (F' := []) (Ch.refl _ _).drew (by simp)) (HC0.out.trans HC4.out.drew (fun k hk => (HF0.out k hk).imp (fun e => List.mem_append_right _ e) id)) (fun k hk => ?_) (hF42.trans hF2)⟩
  rcases HF4.out k hk with e | e
  ·exact HF0.out k e
  ·exact .inr (by omega)
theorem sbuildR_is (h : GIn w g G F) (fid : Nat) (caps : Array Value) (hfn : Fnv fid) (R : Mk × Nat)
  (hf : ∀ W m, w.heap.size ≤ m → Ch [] w W → MIn W g m (G, 0) F → Calls Tryz.prog fid (#[.pointer (some ⟨m, 0, none⟩)] ++ caps) W fun e W' => ∃ (P : Mk) (r : Nat), e = .returned (.int .i64 r) ∧ Sim G P R.1 ∧ (R.1.2 = 0 → r = R.2) ∧ MTo W g m P F W') :
  Calls Tryz.prog 310 #[.pointer (some ⟨g, 0, none⟩), .func (.func fid) #[] caps] w fun e w' => e = .returned (.tuple #[.int .i64 (rres G R).2.1, .int .i64 (rres G R).2.2]) ∧ GTo w g (rres G R).1 F w' := by
 have HL := Len_g h
 have hg := h.lt
 have hok := h.ok
 have hroom := h.ok.room
 have hmost := h.ok.most
 have hms : MIn (w.alloc (.cells #[.pointer (some ⟨g, 0, none⟩), .int .i64 0] 325)) g w.heap.size (G, 0) F := ⟨h.same ((Ch.refl [] _).alloc _) (by simp), blk.new' _ _ rfl, fun hm => by have := hg _ hm; omega⟩
 have HF := hf _ w.heap.size (Nat.le_refl _) ((Ch.refl _ _).alloc _) hms
 have hcf : ∀ args w, (callFunc fid args).run Tryz.prog w = .ok (.enter fid args) w := hfn
 have H := Hi9 h; clear h
 have HG := Hi9 hg; clear hg
 have HOK := Hi9 hok; clear hok
 clear hf hms
 generalize hWW : rres G R = WW
 have HWW := Hi9 hWW; clear hWW
 go_enter Tryz.func310, Tryz.ntmps310
 go_wp2_with fail
 refine HL.mono ?_
 rintro e w' ⟨rfl, rfl⟩
 go_wp2_with fail
 refine HF.mono ?_
 rintro e w1 ⟨P, r, rfl, hsim, hl, F', hm, hc, hF', hF2⟩
 have m1 := hm.bk.cell (i := 1) rfl
 have hc0 : Ch F w w1 := (((Ch.refl F w).alloc (.cells #[.pointer (some ⟨g, 0, none⟩), .int .i64 0] 325))).trans hc (fun k hk => by
  simp only [List.mem_cons] at hk
  rcases hk with rfl | hk
  ·right; omega
  ·exact .inl hk)
 have hz := hc0.size
 have hF0 : ∀ k ∈ F', k ∈ F ∨ w.heap.size ≤ k := fun k hk => (hF' k hk).imp id (fun e => by simp at e; omega)
 have hrel := hsim.rel
 have hext := hsim.ext
 have HC0 := Hi9 hc0; clear hc0
 have HF0 := Hi9 hF0; clear hF0
 have HM := Hi9 hm; clear hm
 have HEXT := Hi9 hext; clear hext
 clear hc hF' hsim
 rcases hrel with ⟨he, rfl⟩ | ⟨he, hp⟩
 ·have hw : rres G R = (R.1.1, R.2, 0) := by unfold rres; rw [if_neg (by simp [he])]
  have hww := HWW.out
  rw [hw] at hww
  subst hww
  rw [he] at m1
  have hl := hl he
  subst hl
  clear hw HOK
  have HE := Hi9 he; clear he
  go_wp2_with fail
  go_ret2
  exact ⟨rfl, F', HM.out.gin, HC0.out, HF0.out, hF2⟩
 ·have hw : rres G R = (G, 0, 201) := by unfold rres; rw [if_pos (by simp [he]), he]
  have hww := HWW.out
  rw [hw] at hww
  subst hww
  rw [hp] at m1
  have hcut := Cut_g HM.out.gin G.nodes.length (by omega) (by omega)
  rw [doCut_back HOK.out HEXT.out] at hcut
  have hmlt := HM.out.bk.lt
  have hmF := HM.out.apart
  clear hw hl
  have HE := Hi9 he; clear he
  have HP := Hi9 hp; clear hp
  have HMF := Hi9 hmF; clear hmF
  go_wp2_with fail
  refine hcut.mono ?_
  rintro e w4 ⟨rfl, F4, hg4, hc4, hF4, hF42⟩
  have hm4 : w4.cell? ⟨w.heap.size, 1, none⟩ = some (.int .i64 201) := (hc4.cell (p := ⟨w.heap.size, 1, none⟩) hmlt HMF.out).trans m1
  clear m1
  have HG4 := Hi9 hg4; clear hg4
  have HC4 := Hi9 hc4; clear hc4
  have HF4 := Hi9 hF4; clear hF4
  go_wp2_with fail
  refine Ord.St.door (fun _ => True) [.fl, .fl, .fl, .fl, .rd, .fl, .fl] [0, 0, 2, 6, 14, 1, 63] [0, 1, 2, 3, 4, 5, 6] mixed (by kernel_rfl) rfl ?_
  iterate 4 (refine Ord.F9 ?_ (fun K w' hk => ?_) ?_; rotate_left; focus (go_step; exact hk))
  (refine Ord.Q9 ?_ (fun K hk => ?_) ?_; rotate_left; focus (go_step; exact hk))
  iterate 2 (refine Ord.F9 ?_ (fun K w' hk => ?_) ?_; rotate_left; focus (go_step; exact hk))
  refine Ord.St.nil ?_
  go_wp2_with fail
  go_ret2
  refine ⟨rfl, GTo.mk (F' := F4) (HG4.out.same (F' := []) (Ch.refl _ _).drew (by simp)) (HC0.out.trans HC4.out.drew HF0.out) (fun k hk => ?_) (hF42.trans hF2)⟩
  rcases HF4.out k hk with e | e
  ·exact HF0.out k e
  ·exact .inr (by omega)
end
end Go.Proofs.YtehljgigebhddaaGreat
namespace Go.Aig
def rightW (n : Int) : Bool := decide (1 ≤ n) && decide (n ≤ 17)
def badIn (G : Gra) (x : List Int) : Bool := x.any fun r => !right G.nodes r
def badAs (n0 : Nat) (x : List Int) : Bool := !rightW x.length || (x.length : Int) != n0
def chk (G : Gra) (ws : List (List Int)) : Nat :=
 if ws.any (badAs (ws.headD []).length) then 230 else if ws.any (badIn G) then 200 else 0
end Go.Aig
namespace Go.Proofs.YtehljgigebhddaaGreat
open Go.RowKit Go.Mem Go.Aig
structure WV where
 a : Option Addr
 l : List Int
 c : Nat
def WV.val (x : WV) : Value := .slice x.a x.l.length x.c
structure WVok (w : World) (x : WV) : Prop where
 sl : Sl w x.a x.l
 bd : ∀ r ∈ x.l, -9223372036854775808 ≤ r ∧ r ≤ 9223372036854775807
 len : x.l.length ≤ 1000000
theorem WVok.ch {F : List Nat} {w w' : World} {x : WV} (h : WVok w x) (hc : Ch F w w') (hF : ∀ p, x.a = some p → p.block ∉ F) : WVok w' x := ⟨h.sl.ch hc hF, h.bd, h.len⟩
section
variable {w : World} {g : Nat} {G : Gra} {F : List Nat}
theorem sright_is (n : Int) : Calls Tryz.prog 171 #[.int .i64 n] w fun e w' => e = .returned (.bool (rightW n)) ∧ w = w' := by
 unfold rightW
 by_cases h : 1 ≤ n
 ·have h1 : decide ((1 : Int) ≤ n) = true := decide_eq_true h
  go_enter Tryz.func171, Tryz.ntmps171
  go_wp2_with fail
  go_ret
  exact ⟨by rw [h1]; rfl, rfl⟩
 ·have h1 : decide ((1 : Int) ≤ n) = false := decide_eq_false h
  go_enter Tryz.func171, Tryz.ntmps171
  go_wp2_with fail
  go_ret
  exact ⟨rfl, rfl⟩
theorem fnvscheck1 : Fnv 340 := fnv_of Tryz.func340 (by simp [Tryz.f340]) (by simp [Tryz.f340])
theorem scheck1_is (h : GIn w g G F) {bx : Nat} (hb : w.cell? ⟨bx, 0, none⟩ = some (.pointer (some ⟨g, 0, none⟩))) (r : Int) (hr : r ≤ 9223372036854775807) :
  Calls Tryz.prog 340 (#[.int .i64 r] ++ #[.pointer (some ⟨bx, 0, none⟩)]) w fun e w' => e = .returned (.bool (!right G.nodes r)) ∧ w = w' := by
 show Calls Tryz.prog 340 #[.int .i64 r, .pointer (some ⟨bx, 0, none⟩)] w _
 have HR := Right_g h r hr
 clear h
 generalize right G.nodes r = q at *
 go_enter Tryz.func340, Tryz.ntmps340
 go_wp2_with fail
 refine HR.mono ?_
 rintro e w' ⟨rfl, rfl⟩
 go_wp2_with fail
 go_ret
 exact ⟨ret_bool rfl, rfl⟩
theorem scheck_is (h : GIn w g G F) {b : Nat} {ws : List WV} (n c : Nat) (hn : ws.length = n) (hn0 : n ≤ 2) (hc : ∀ i x, ws[i]? = some x → w.cell? ⟨b, i, none⟩ = some x.val) (hS : ∀ x ∈ ws, WVok w x) :
  Calls Tryz.prog 309 #[.pointer (some ⟨g, 0, none⟩), .slice (some ⟨b, 0, none⟩) n c] w fun e w' => e = .returned (.int .i64 (chk G (ws.map WV.l))) ∧ Ch [] w w' := by
 subst hn
 have hW1 : Ch [] w (w.alloc (.cells #[.pointer (some ⟨g, 0, none⟩)] 42)) := (Ch.refl _ _).alloc _
 have H1 := h.same hW1 (by simp)
 have HL := Len_g H1
 have b1 : (w.alloc (.cells #[.pointer (some ⟨g, 0, none⟩)] 42)).cell? ⟨w.heap.size, 0, none⟩ = some (.pointer (some ⟨g, 0, none⟩)) := by go_simp
 have hpos := h.ok.wf.pos
 have HCF : ∀ x ∈ ws, Calls Tryz.prog 40 #[.slice x.a x.l.length x.c, .func (.func 340) #[] #[.pointer (some ⟨w.heap.size, 0, none⟩)]] (w.alloc (.cells #[.pointer (some ⟨g, 0, none⟩)] 42)) fun e w' => e = .returned (.bool (badIn G x.l)) ∧ (w.alloc (.cells #[.pointer (some ⟨g, 0, none⟩)] 42)) = w' := fun x hx =>
  CFref_is x.c 340 #[.pointer (some ⟨w.heap.size, 0, none⟩)] (fun r => !right G.nodes r) ((hS x hx).ch hW1 (by simp)).sl (fun r hr => scheck1_is H1 b1 r ((hS x hx).bd r hr).2) fnvscheck1
 have hcc : ∀ i x, ws[i]? = some x → (w.alloc (.cells #[.pointer (some ⟨g, 0, none⟩)] 42)).cell? ⟨b, i, none⟩ = some (.slice x.a x.l.length x.c) := fun i x hx => (hW1.cell (p := ⟨b, i, none⟩) (cell_lt (hc i x hx)) (by simp)).trans (hc i x hx)
 have hlen : ∀ x ∈ ws, x.l.length ≤ 1000000 := fun x hx => (hS x hx).len
 have hroom := h.ok.room
 have hmost := h.ok.most
 have hp0 : ((G.nodes.length : Int) == 0) = false := beqN (by omega)
 have HCC := Hi9 hcc; clear hcc
 have HCF := Hi9 HCF
 clear hc hS h H1 b1
 generalize hWC : chk G (ws.map WV.l) = WC
 have HWC := Hi9 hWC; clear hWC
 have HW1 := Hi9 hW1; clear hW1
 have HLEN := Hi9 hlen; clear hlen
 go_enter Tryz.func309, Tryz.ntmps309
 go_wp2_with fail
 refine wp_scope_straight ?_
 go_wp2_with fail
 refine HL.mono ?_
 rintro e w' ⟨rfl, rfl⟩
 go_wp2_with fail
 refine wp_label ?_
 go_wp2_with fail
 go_loopw [5, 13] (fun e i wr => ∃ k : Nat, k ≤ ws.length ∧ i = .int .i64 k ∧ wr = w.alloc (.cells #[.pointer (some ⟨g, 0, none⟩)] 42) ∧ ((ws.map WV.l).take k).any (badAs ((ws.map WV.l).headD []).length) = false ∧ e = .int .i64 (if ((ws.map WV.l).take k).any (badIn G) then 200 else 0 : Nat)) (fun _ i _ => ws.length - (intOf i).toNat)
 case atStart => exact ⟨0, by omega, rfl, rfl, rfl, rfl⟩
 case round =>
  obtain ⟨k, hk, rfl, rfl, hno, rfl⟩ := hrel
  generalize hE : (if ((ws.map WV.l).take k).any (badIn G) then 200 else 0 : Nat) = E
  have HE := Hi9 hE; clear hE
  by_cases hlt : k < ws.length
  ·obtain ⟨x, hx⟩ : ∃ x, ws[k]? = some x := ⟨_, List.getElem?_eq_getElem hlt⟩
   obtain ⟨x0, hx0⟩ : ∃ x0, ws[0]? = some x0 := ⟨_, List.getElem?_eq_getElem (by omega)⟩
   have c0 := HCC.out 0 x0 hx0
   have c1 := HCC.out k x hx
   have hh0 : ((ws.map WV.l).headD []).length = x0.l.length := by
    cases ws with
    | nil => cases hx0
    | cons y ws => simp at hx0; subst hx0; rfl
   rw [hh0] at hno
   have hxm : (ws.map WV.l)[k]? = some x.l := by simp [hx]
   have hmem : x ∈ ws := List.mem_of_getElem? hx
   have HR := sright_is (w := w.alloc (.cells #[.pointer (some ⟨g, 0, none⟩)] 42)) x.l.length
   have HC := HCF.out x hmem
   have hxl := HLEN.out x hmem
   have hx0l := HLEN.out x0 (List.mem_of_getElem? hx0)
   have HNO := Hi9 hno; clear hno
   have HH0 := Hi9 hh0; clear hh0
   have HXM := Hi9 hxm; clear hxm
   have hchk : badAs x0.l.length x.l = true → chk G (ws.map WV.l) = 230 := fun hb => by
    unfold chk
    rw [HH0.out, if_pos (List.any_eq_true.2 ⟨x.l, List.mem_of_getElem? HXM.out, hb⟩)]
   clear hx hx0 hmem
   by_cases hr : rightW x.l.length = true
   ·rw [hr] at HR
    by_cases hll : x.l.length = x0.l.length
    ·have hq : ((x.l.length : Int) != (x0.l.length : Int)) = false := by rw [hll]; simp
     have hgood : badAs x0.l.length x.l = false := by unfold badAs; rw [hr, hq]; rfl
     have h1 : ((ws.map WV.l).take (k + 1)).any (badAs x0.l.length) = false := by
      rw [List.take_add_one, HXM.out, List.any_append, HNO.out]; simp [hgood]
     have h2 : (if ((ws.map WV.l).take (k + 1)).any (badIn G) then 200 else 0 : Nat) = if badIn G x.l then 200 else E := by
      rw [List.take_add_one, HXM.out, List.any_append, ← HE.out]
      cases hb : badIn G x.l <;> simp [hb]
     have H1 := Hi9 h1; clear h1
     have H2 := Hi9 h2; clear h2
     clear hchk hgood hll hr
     cases hb : badIn G x.l
     ·rw [hb] at HC
      have HB := Hi9 hb; clear hb
      go_wp2_with fail
      refine HR.mono ?_
      rintro e w' ⟨rfl, rfl⟩
      go_wp2_with fail
      refine HC.mono ?_
      rintro e w' ⟨rfl, rfl⟩
      go_wp2_with fail
      go_roundw
      case rel => exact ⟨k + 1, by omega, by go_num, by first | trivial | rfl, by rw [HH0.out]; exact H1.out, by rw [H2.out, HB.out]; rfl⟩
      case measure => simp [intOf]; omega
     ·rw [hb] at HC
      have HB := Hi9 hb; clear hb
      go_wp2_with fail
      refine HR.mono ?_
      rintro e w' ⟨rfl, rfl⟩
      go_wp2_with fail
      refine HC.mono ?_
      rintro e w' ⟨rfl, rfl⟩
      go_wp2_with fail
      go_roundw
      case rel => exact ⟨k + 1, by omega, by go_num, by first | trivial | rfl, by rw [HH0.out]; exact H1.out, by rw [H2.out, HB.out]; rfl⟩
      case measure => simp [intOf]; omega
    ·have hq : ((x.l.length : Int) != (x0.l.length : Int)) = true := by simp; omega
     have hbad := hchk (by unfold badAs; rw [hq]; simp)
     have HBAD := Hi9 hbad; clear hbad hchk hr
     clear HC hll
     go_wp2_with fail
     refine HR.mono ?_
     rintro e w' ⟨rfl, rfl⟩
     go_wp2_with fail
     rw [Exit.noGoto_ret]
     go_ret
     have hwc := HWC.out
     rw [HBAD.out] at hwc
     subst hwc
     exact ⟨rfl, HW1.out⟩
   ·have hr0 : rightW x.l.length = false := by simpa using hr
    have hbad := hchk (by unfold badAs; rw [hr0]; rfl)
    have HBAD := Hi9 hbad; clear hbad hchk hr
    rw [hr0] at HR
    clear HC hr0
    go_wp2_with fail
    refine HR.mono ?_
    rintro e w' ⟨rfl, rfl⟩
    go_wp2_with fail
    rw [Exit.noGoto_ret]
    go_ret
    have hwc := HWC.out
    rw [HBAD.out] at hwc
    subst hwc
    exact ⟨rfl, HW1.out⟩
  ·have hwc := HWC.out
   have he := HE.out
   rw [List.take_of_length_le (by rw [List.length_map]; omega)] at hno he
   unfold chk at hwc
   rw [hno, if_neg (by simp), he] at hwc
   subst hwc
   clear HWC hno he
   go_wp2_with fail
   rw [Exit.noGoto_ret]
   go_ret
   exact ⟨rfl, HW1.out⟩
end
end Go.Proofs.YtehljgigebhddaaGreat
namespace Go.Ord
open Go
def noDefer (o : Oper) : Bool := match o.op with | .defer _ => false | _ => true
theorem noDefer_ne {o : Oper} (h : noDefer o = true) : ∀ c, o.op ≠ .defer c := fun c e => by unfold noDefer at h; rw [e] at h; cases h
theorem wide_in {l n : Nat} {P : Program} {o : Oper} (hq : noDefer o = true) {a : Act} {w : World} {K : Act → World → Prop} {Q : Exit → Act → World → Prop} (h : o.wp P a w K Q) : o.wpIn (Fence.wide.inRound l) n P a w K Q := by
 refine ⟨fun f _ => trivial, ?_⟩
 rw [Oper.semAt_eq _ _ _ (noDefer_ne hq)]
 unfold Oper.wp at h
 cases hr : (execOp a.eval o).run P w with
 | ok x w' =>
  rw [hr] at h
  cases x with
  | enter f args => exact ⟨(fun hd => by cases hd), CallsIn.inRound l ((callsIn_wide (n := n - 1)).2 h)⟩
  | row row args => exact ⟨(fun hd => by cases hd), fun c cs _ => let ⟨v, w1, r, s⟩ := h c cs; ⟨v, w1, r, (stepsIn_wide (P := P)).2 s⟩⟩
  | round => exact h.elim
  | _ => exact h
 | halt x w' =>
  rw [hr] at h
  cases x <;> exact h
theorem any_wide {l n : Nat} {P : Program} {ops : Array Oper} {Q : Exit → Act → World → Prop} {md : Region.Mode} (hnl : ¬ LetsOut Q) (hq : ∀ o ∈ ops.toList, noDefer o = true) : ∀ (m : Nat) (listed : Array Bool) (a : Act) (w : World), wpAny P md ops Q m listed a w → wpAnyIn (Fence.wide.inRound l) n P md ops Q m listed a w := by
 intro m
 induction m with
 | zero => intro listed a w h; exact h
 | succ m ih =>
  intro listed a w h
  refine ⟨h.1, fun i hi => ?_⟩
  have h2 := h.2 i hi
  refine wpOpIn_mono (fun a w => ih _ a w) ?_
  unfold wpOp at h2
  unfold wpOpIn
  cases ho : ops[i]? with
  | none => simpa [ho] using h2
  | some o =>
   have hqo : noDefer o = true := hq o (by
    have := Array.mem_of_getElem? ho
    exact Array.mem_def.1 this)
   simp only [ho] at h2 ⊢
   split
   ·rename_i hw; simp only [hw, if_true] at h2; exact wide_in hqo (h2.resolve_right fun h => hnl h.2)
   ·rename_i hw
    simp only [hw] at h2
    exact ⟨fun f _ => trivial, h2⟩
section
variable {n : Nat} {P : Program} {l : List Oper} {Q' : Exit → Act → World → Prop}
theorem St.doorR {lp id : Nat} {a : Act} {w : World} (C : World → Prop) (ks : List Kd) (A : List Nat) (R : List Nat) (hm : P.follows .mixedOrders = true) (hqq : l.all noDefer = true) (hs : stat l.toArray ks A = true) (hR : List.range l.length = R)
  (h : St P l ks A C (Q' .normal) R a w.drew) : (Code.region id l.toArray true).wpIn (Fence.wide.inRound lp) n P Q' a w := by
 refine wpIn_mono (Q := only (Q' .normal)) ?_ (fun e a w ⟨he, hq⟩ => he ▸ hq)
 refine wpIn_region_any hm ?_
 subst hR
 have h2 := h List.nodup_range (fun k o e hk _ _ _ => List.mem_range.2 (by have := lt_size hk; simpa using this)) (by simp) (stat_spec hs)
 have := wpAny_of_all (P := P) (C := C) (stat_spec hs) (Q' .normal) l.length (List.range l.length) (Array.replicate l.length false) a w.drew List.nodup_range (by simp) (by simp) (by simp)
  (fun k hk => by simp at hk; simp [hk]) (by simpa using h2)
 have h3 := any_wide (l := lp) (n := n) (only_lets _) (fun o ho => List.all_eq_true.1 hqq o (by simpa using ho)) _ _ _ _ this
 simpa using h3
end
end Go.Ord
namespace Go.Aig
def rop (f : Gra → Nat → Nat → Res) (s : Mk) (a b : Nat) : Mk × Nat := rstep s (f s.1 a b)
def Full2 (f : Gra → Nat → Nat → Res) : Prop := ∀ (G : Gra), Ok G → ∀ a b, a < 2 * G.nodes.length → b < 2 * G.nodes.length → RFull G (f G a b)
theorem full_xor : Full2 rXor := fun _ h _ _ ha hb => rXor_full h ha hb
theorem eachF_snoc (op : Mk → Nat → Nat → Mk × Nat) (s : Mk) (l : List (Nat × Nat)) (p : Nat × Nat) : eachF op s (l ++ [p]) = eachS op (eachF op s l) p := by
 unfold eachF; rw [List.foldl_append]; rfl
theorem zip_lt {x y : List Nat} {n : Nat} (hx : ∀ r ∈ x, r < n) (hy : ∀ r ∈ y, r < n) : ∀ p ∈ x.zip y, p.1 < n ∧ p.2 < n := fun p hp => by
 obtain ⟨a, b⟩ := p
 exact ⟨hx _ (List.of_mem_zip hp).1, hy _ (List.of_mem_zip hp).2⟩
end Go.Aig
namespace Go.Proofs.YtehljgigebhddaaGreat
open Go.RowKit Go.Mem Go.Aig
structure EF (w : World) (m : Nat) (X F : List Nat) (B ob mb : Nat) : Prop where
 low : ∀ k ∈ m :: (X ++ F), k < w.heap.size
 ob1 : w.heap.size ≤ ob
 ob2 : ob < B
 mb1 : w.heap.size ≤ mb
 mb2 : mb < B
 ne : ob ≠ mb
 mX : m ∉ X
 XF : ∀ k ∈ X, k ∉ F
structure EI (w : World) (g m : Nat) (G : Gra) (X F : List Nat) (B ob mb n : Nat) (R : Mk) (out : List Nat) (W : World) (v : Value) (P : Mk) (l : List Nat) (F' : List Nat) : Prop where
 sim : Sim G P R
 out : R.2 = 0 → l = out
 len : l.length = n
 all : ∀ r ∈ l, r < 2 * P.1.nodes.length
 mem : MIn W g m P F'
 ch : Ch (m :: (X ++ F)) w W
 own : ∀ k ∈ F', k ∈ F ∨ B + 2 ≤ k
 map : F'[2]? = F[2]?
 ob : blk W ob [v]
 mb : blk W mb [.pointer (some ⟨m, 0, none⟩)]
 row : row W 52 1 v l.length (refsCells l)
 fresh : ∀ k, v.ownBlock = some k → B + 2 ≤ k ∧ k ∉ F'
def Kok (w : World) (m : Nat) (X F : List Nat) (B ob : Nat) (K : List Nat) : Prop := ∀ k ∈ K, (k < w.heap.size ∧ k ∉ m :: (X ++ F)) ∨ (w.heap.size ≤ k ∧ k < B ∧ k ≠ ob)
theorem _root_.Go.Books.trans {B : Nat} {a b c : World} (h : Books B a b) (h' : Books B b c) : Books B a c := ⟨h'.1.trans h.1, h'.2.trans h.2⟩
theorem _root_.Go.Kept.trans {K : List Nat} {a b c : World} (h : Kept K a b) (h' : Kept K b c) : Kept K a c := fun k hk => (h' k hk).trans (h k hk)
theorem Kok.ch0 {w A A' : World} {m : Nat} {X F : List Nat} {B ob : Nat} {K : List Nat} (h : Kok w m X F B ob K) (hw : w.heap.size ≤ B) (hz : B + 2 ≤ A.heap.size) (hc : Ch [] A A') : Kept K A A' :=
 Kept.of_ch hc fun k hk => ⟨by rcases h k hk with e | e <;> omega, by simp⟩
section
variable {w : World} {g m : Nat} {G : Gra} {X F : List Nat} {B ob mb n : Nat} {R : Mk} {out : List Nat} {A A' : World} {v : Value} {P : Mk} {l F' : List Nat}
theorem EI.sep (h : EI w g m G X F B ob mb n R out A v P l F') (e : EF w m X F B ob mb) : ∀ k ∈ m :: (X ++ F'), (k ∈ m :: (X ++ F) ∧ k < w.heap.size) ∨ (k ∈ F' ∧ B + 2 ≤ k) := fun k hk => by
 simp only [List.mem_cons, List.mem_append] at hk
 rcases hk with rfl | hk | hk
 ·exact .inl ⟨by simp, e.low _ (by simp)⟩
 ·exact .inl ⟨by simp [hk], e.low _ (by simp [hk])⟩
 ·rcases h.own k hk with h1 | h1
  ·exact .inl ⟨by simp [h1], e.low _ (by simp [h1])⟩
  ·exact .inr ⟨hk, h1⟩
theorem EI.same (h : EI w g m G X F B ob mb n R out A v P l F') (e : EF w m X F B ob mb) (hc : Ch [B, B + 1] A A') : EI w g m G X F B ob mb n R out A' v P l F' := by
 have ho := e.ob1; have ho2 := e.ob2; have hm1 := e.mb1; have hm2 := e.mb2
 have hs := h.sep e
 refine ⟨h.sim, h.out, h.len, h.all, h.mem.same hc ?_, h.ch.trans hc (by intro k hk; simp at hk; omega), h.own, h.map, h.ob.ch hc (by simp; omega), h.mb.ch hc (by simp; omega), h.row.ch hc ?_, h.fresh⟩
 ·intro k hk
  have := hs k (by simp only [List.mem_cons, List.mem_append] at hk ⊢; rcases hk with e | e <;> simp [e])
  simp; omega
 ·intro k hk
  have := (h.fresh k hk).1
  simp; omega
theorem EI.ch0 (h : EI w g m G X F B ob mb n R out A v P l F') (e : EF w m X F B ob mb) (hc : Ch [] A A') : EI w g m G X F B ob mb n R out A' v P l F' := h.same e (hc.mono (by simp))
theorem EI.more (h : EI w g m G X F B ob mb n R out A v P l F') (e : EF w m X F B ob mb) (hz : B + 2 ≤ A.heap.size) {P' R' : Mk} {F1 : List Nat} (hm : MIn A' g m P' F1) (hc : Ch (m :: (X ++ F')) A A') (hF : ∀ k ∈ F1, k ∈ F' ∨ A.heap.size ≤ k) (hmap : F1[2]? = F'[2]?)
  (hs : Sim G P' R') (hext : Ext P.1 P'.1) (hr : R.2 ≠ 0 → R'.2 ≠ 0) : Books B A A' ∧ EI w g m G X F B ob mb n R' out A' v P' l F1 ∧ ∀ K, Kok w m X F B ob K → Kept K A A' := by
 have ho := e.ob1; have ho2 := e.ob2; have hm1 := e.mb1; have hm2 := e.mb2
 have hsep := h.sep e
 have hown : ∀ k, v.ownBlock = some k → k < A.heap.size := fun k hk => (h.row.lt k hk).2
 have hcz := hc.size
 refine ⟨Books.of_ch hc hz (fun k hk => by have := hsep k hk; omega), ⟨hs, fun hz => h.out ?_, h.len, fun r hr => hext.lt (h.all r hr), hm, h.ch.trans hc (fun k hk => (hsep k hk).imp (fun e => e.1) (fun e => by omega)), fun k hk => ?_, hmap.trans h.map, h.ob.ch hc (fun hk => by have := hsep _ hk; omega), h.mb.ch hc (fun hk => by have := hsep _ hk; omega), h.row.ch hc (fun k hk hk2 => ?_), fun k hk => ⟨(h.fresh k hk).1, fun hk2 => ?_⟩⟩, fun K hK => Kept.of_ch hc (fun k hk => ?_)⟩
 ·by_cases h0 : R.2 = 0
  ·exact h0
  ·exact absurd hz (hr h0)
 ·rcases hF k hk with h1 | h1
  ·exact h.own k h1
  ·exact .inr (by omega)
 ·have h1 := h.fresh k hk
  rcases hsep k hk2 with h2 | h2
  ·omega
  ·exact h1.2 h2.1
 ·rcases hF k hk2 with h1 | h1
  ·exact (h.fresh k hk).2 h1
  ·have := hown k hk; omega
 ·rcases hK k hk with ⟨h1, h2⟩ | ⟨h1, h2, h3⟩
  ·have h4 := h.ch.size
   refine ⟨by omega, fun hk2 => ?_⟩
   rcases hsep k hk2 with h5 | h5
   ·exact h2 h5.1
   ·omega
  ·refine ⟨by omega, fun hk2 => ?_⟩
   have := hsep k hk2; omega
theorem EI.app {va : Option Addr} {vc : Nat} (h : EI w g m G X F B ob mb n R out A (.slice va l.length vc) P l F') (e : EF w m X F B ob mb) (hz : B + 2 ≤ A.heap.size) {r : Nat} {o : Obj} {w4 : World} {gb gc : Nat} (hrow : Go.Mem.row w4 52 1 (.slice (some ⟨gb, 0, none⟩) (l.length + 1) gc) (l.length + 1) (refsCells l ++ [.int .i64 r]))
  (hc4 : Ch (Value.slice va l.length vc).ownBlock.toList (A.alloc o) w4) (hf4 : ∀ k, (Value.slice (some ⟨gb, 0, none⟩) (l.length + 1) gc).ownBlock = some k → (Value.slice va l.length vc).ownBlock = some k ∨ (A.alloc o).heap.size ≤ k) (hr : r < 2 * P.1.nodes.length) {out' : List Nat} (hout : R.2 = 0 → out' = out ++ [r]) :
  Books B A (w4.setCell ⟨ob, 0, none⟩ (.slice (some ⟨gb, 0, none⟩) (l.length + 1) gc)) ∧ EI w g m G X F B ob mb (n + 1) R out' (w4.setCell ⟨ob, 0, none⟩ (.slice (some ⟨gb, 0, none⟩) (l.length + 1) gc)) (.slice (some ⟨gb, 0, none⟩) (l.length + 1) gc) P (l ++ [r]) F' ∧ ∀ K, Kok w m X F B ob K → Kept K A (w4.setCell ⟨ob, 0, none⟩ (.slice (some ⟨gb, 0, none⟩) (l.length + 1) gc)) := by
 have ho := e.ob1; have ho2 := e.ob2; have hm1 := e.mb1; have hm2 := e.mb2
 have hsep := h.sep e
 have hfresh := h.fresh
 have hownlt : ∀ k, (Value.slice va l.length vc).ownBlock = some k → k < A.heap.size := fun k hk => (h.row.lt k hk).2
 have hA : Ch (Value.slice va l.length vc).ownBlock.toList A w4 := ((Ch.refl _ A).alloc o).trans hc4 (fun k hk => .inl hk)
 have hA5 : Ch ((Value.slice va l.length vc).ownBlock.toList ++ [ob]) A (w4.setCell ⟨ob, 0, none⟩ (.slice (some ⟨gb, 0, none⟩) (l.length + 1) gc)) := (hA.mono (fun k hk => .inl (List.mem_append_left _ hk))).setCell (.inl (by simp)) _
 have hL : ∀ k ∈ (Value.slice va l.length vc).ownBlock.toList ++ [ob], (B + 2 ≤ k ∧ k ∉ F') ∨ k = ob := fun k hk => by
  simp only [List.mem_append, Option.mem_toList, List.mem_singleton] at hk
  exact hk.imp (fun e => hfresh k e) id
 have hgb : (B + 2 ≤ gb ∧ gb ∉ F') := by
  rcases hf4 gb rfl with h1 | h1
  ·exact hfresh gb h1
  ·rw [World.size_alloc] at h1
   exact ⟨by omega, fun hk => by have := GIn.lt h.mem.gin gb hk; omega⟩
 have hnot : ∀ k ∈ m :: (X ++ F'), k ∉ (Value.slice va l.length vc).ownBlock.toList ++ [ob] := fun k hk hk2 => by
  have h1 := hsep k hk
  rcases hL k hk2 with h2 | h2
  ·rcases h1 with h1 | h1
   ·omega
   ·exact h2.2 h1.1
  ·omega
 refine ⟨Books.of_ch hA5 hz (fun k hk => by have := hL k hk; omega), ⟨h.sim, fun hz0 => ?_, by simp [h.len], fun q hq => ?_, h.mem.same hA5 (fun k hk => hnot k (by simp only [List.mem_cons, List.mem_append] at hk ⊢; rcases hk with e | e <;> simp [e])), h.ch.trans hA5 (fun k hk => .inr (by have := hL k hk; omega)), h.own, h.map, (h.ob.ch hA (fun hk => by have := (hfresh ob (by simpa using hk)).1; omega)).set (i := 0) _, (h.mb.ch hA (fun hk => by have := (hfresh mb (by simpa using hk)).1; omega)).other (by exact e.ne.symm) _, ?_, fun k hk => ?_⟩, fun K hK => Kept.of_ch hA5 (fun k hk => ?_)⟩
 ·rw [hout hz0, h.out hz0]
 ·simp only [List.mem_append, List.mem_singleton] at hq
  rcases hq with hq | rfl
  ·exact h.all q hq
  ·exact hr
 ·rw [show refsCells (l ++ [r]) = refsCells l ++ [.int .i64 r] from by simp [refsCells], List.length_append]
  refine hrow.ch (F := [ob]) ((Ch.refl _ _).setCell (by simp) _) (fun k hk => ?_)
  cases hk
  simp; omega
 ·cases hk
  exact hgb
 ·have h4 := h.ch.size
  rcases hK k hk with ⟨h1, h2⟩ | ⟨h1, h2, h3⟩
  ·refine ⟨by omega, fun hk2 => ?_⟩
   have := hL k hk2; omega
  ·refine ⟨by omega, fun hk2 => ?_⟩
   have := hL k hk2; omega
theorem EI.done (h : EI w g m G X F B ob mb n R out A v P l F') (e : EF w m X F B ob mb) (o : Obj) : MVo w g m P X F v l (A.putObj B o) := by
 have ho := e.ob1; have ho2 := e.ob2
 have hcD : Ch [B] A (A.putObj B o) := ch_put (by simp)
 have hsep := h.sep e
 refine ⟨F', h.mem.same hcD (fun k hk => ?_), h.ch.trans hcD (fun k hk => by simp at hk; omega), fun k hk => (h.own k hk).imp id (fun e => by omega), h.map, h.row.ch hcD (fun k hk => by have := (h.fresh k hk).1; simp; omega), fun k hk => ?_⟩
 ·have := hsep k (by simp only [List.mem_cons, List.mem_append] at hk ⊢; rcases hk with e | e <;> simp [e])
  simp; omega
 ·obtain ⟨f1, f2⟩ := h.fresh k hk
  have := e.low m (by simp)
  exact ⟨by omega, f2, by omega⟩
end
theorem MVo.to {w w' : World} {g m : Nat} {P : Mk} {F : List Nat} {v : Value} {l : List Nat} (h : MVo w g m P [] F v l w') : MTo w g m P F w' := by
 obtain ⟨F', h1, h2, h3, h4, _⟩ := h
 exact ⟨F', h1, h2, h3, h4⟩
section
variable {w : World} {g m : Nat} {G : Gra} {X F : List Nat} {B ob mb : Nat} {R : Mk} {out : Nat} {A A' : World} {P : Mk} {r : Nat} {F' : List Nat}
end
def EIe (w : World) (g m : Nat) (G : Gra) (X F : List Nat) (B ob mb n : Nat) (R : Mk) (out : List Nat) (W : World) : Prop := ∃ v P l F', EI w g m G X F B ob mb n R out W v P l F'
theorem wp_named {P : Program} {c : Code} {Q : Exit → Act → World → Prop} {a : Act} {w : World} (h : ∀ W, W = w → c.wp P Q a W) : c.wp P Q a w := h w rfl
attribute [local go_sem] Oper.semAt_some
section
variable {w : World} {g m : Nat} {G : Gra} {F : List Nat}
end
end Go.Proofs.YtehljgigebhddaaGreat
namespace Go.Aig
theorem rstep_zero {s : Mk} {R : Res} (h : (rstep s R).1.2 = 0) : s.2 = 0 := by
 by_cases hs : s.2 = 0
 ·exact hs
 ·rw [rstep_bad hs] at h; exact h
end Go.Aig
namespace Go.Proofs.YtehljgigebhddaaGreat
open Go.RowKit Go.Mem Go.Aig
attribute [local go_sem] Oper.semAt_some
section
variable {w : World} {g m : Nat} {G : Gra} {F : List Nat}
theorem And_r {F : List Nat} {G : Gra} (h : GIn w g G F) {a b : Nat} (ha : a < 2 * G.nodes.length) (hb : b < 2 * G.nodes.length) : Calls Tryz.prog 103 #[.pointer (some ⟨g, 0, none⟩), .int .i64 a, .int .i64 b] w fun e w' => e = .returned (.tuple #[.int .i64 (and G a b).2.1, .int .i64 (and G a b).2.2]) ∧ GTo w g (and G a b).1 F w' := by
 have hr := h.ok.room; have hm := h.ok.most
 have := And_g h a b (by omega) (by omega)
 rw [doAnd_r ha hb] at this
 exact this
structure ES (w : World) (g m : Nat) (G : Gra) (bc : Nat) (F : List Nat) (B ob mb n : Nat) (R : Mk × List Nat × Nat) (W : World) (v : Value) (P : Mk) (l F' : List Nat) (c : Nat) : Prop where
 ei : EI w g m G [bc] F B ob mb n R.1 R.2.1 W v P l F'
 cb : blk W bc [.int .i64 c]
 lt : c < 2 * P.1.nodes.length
 cR : R.1.2 = 0 → c = R.2.2
end
end Go.Proofs.YtehljgigebhddaaGreat
namespace Go.Aig
def neF (s : Mk) (l : List (Nat × Nat)) : Mk × Nat := sAny (eachF (rop rXor) s l).1 (eachF (rop rXor) s l).2
end Go.Aig
namespace Go.Proofs.YtehljgigebhddaaGreat
open Go.RowKit Go.Mem Go.Aig
attribute [local go_sem] Oper.semAt_some
theorem fnvsNe1 : Fnv 311 := fnv_of Tryz.func311 (by simp [Tryz.f311]) (by simp [Tryz.f311])
section
variable {w : World} {g m : Nat} {G : Gra} {F : List Nat}
theorem sNe1_is (h : MIn w g m (G, 0) F)
  {x y : List Nat} {xa ya : Option Addr} (len xc yc : Nat) (hxl : x.length = len) (hyl : y.length = len) (hlen : len ≤ 1000) {bx b2 bg : Nat} (hbx : w.cell? ⟨bx, 0, none⟩ = some (.slice xa len xc)) (hby : w.cell? ⟨b2, 0, none⟩ = some (.slice ya len yc)) (hbg : w.cell? ⟨bg, 0, none⟩ = some (.pointer (some ⟨g, 0, none⟩)))
  (hbgF : bg ∉ m :: F) (hx : Sl w xa (x.map fun (r : Nat) => (r : Int))) (hy : Sl w ya (y.map fun (r : Nat) => (r : Int))) (hxa : ∀ k ∈ ablk xa, k ∉ m :: F ∧ k < w.heap.size) (hya : ∀ k ∈ ablk ya, k ∉ m :: F ∧ k < w.heap.size)
  (hxr : ∀ r ∈ x, r < 2 * G.nodes.length) (hyr : ∀ r ∈ y, r < 2 * G.nodes.length) :
  Calls Tryz.prog 311 (#[.pointer (some ⟨m, 0, none⟩)] ++ #[.pointer (some ⟨bx, 0, none⟩), .pointer (some ⟨b2, 0, none⟩), .pointer (some ⟨bg, 0, none⟩)]) w fun e W' => ∃ (P : Mk) (r : Nat), e = .returned (.int .i64 r) ∧ Sim G P (neF (G, 0) (x.zip y)).1 ∧ ((neF (G, 0) (x.zip y)).1.2 = 0 → r = (neF (G, 0) (x.zip y)).2) ∧ MTo w g m P F W' := by
 show Calls Tryz.prog 311 #[.pointer (some ⟨m, 0, none⟩), .pointer (some ⟨bx, 0, none⟩), .pointer (some ⟨b2, 0, none⟩), .pointer (some ⟨bg, 0, none⟩)] w _
 have hml := h.bk.lt
 have hFl := h.gin.lt
 have hok := h.gin.ok
 have hbflt := cell_lt hbg
 have hbxlt := cell_lt hbx
 have hbylt := cell_lt hby
 simp only at hbflt hbxlt hbylt
 have HPAIR := fun W => spairs_is (w := W) xa ya len xc len yc
 have H := Hi9 h; clear h
 have HX := Hi9 hx; clear hx
 have HY := Hi9 hy; clear hy
 refine (callsIn_wide (n := 4)).1 ?_
 refine callsIn_of_wp_marks Tryz.func311 rfl trivial ?_ rfl
 simp only [Tryz.ntmps311, List.size_toArray, List.length_cons, List.length_nil, Nat.reduceAdd, Nat.reduceSub, Array.replicate_succ, Array.replicate_zero, List.push_toArray, List.append_toArray, List.nil_append, List.cons_append]
 refine wpIn_wide.2 ?_
 go_wp2_with fail
 refine (HPAIR _).mono ?_
 rintro e w' ⟨rfl, rfl⟩
 go_wp2_with fail
 refine wp_named fun W0 hW0 => ?_
 have hc0 : Ch [] w W0 := by rw [hW0]; exact ((((Ch.refl _ _).alloc _).alloc _).alloc _).alloc _
 have hz0 : W0.heap.size = w.heap.size + 4 := by rw [hW0]; simp
 have hbm : blk W0 w.heap.size [.pointer (some ⟨m, 0, none⟩)] := by rw [hW0]; exact (((blk.new' _ _ (by simp)).alloc _).alloc _).alloc _
 have hbo : blk W0 (w.heap.size + 1) [.slice none 0 0] := by rw [hW0]; exact ((blk.new' _ _ (by simp)).alloc _).alloc _
 have hb2 : blk W0 (w.heap.size + 2) [.slice xa len xc] := by rw [hW0]; exact (blk.new' _ _ (by simp)).alloc _
 have hb3 : blk W0 (w.heap.size + 3) [.slice ya len yc] := by rw [hW0]; exact blk.new' _ _ (by simp)
 clear hW0
 have hEF : EF w m [] F (w.heap.size + 4) (w.heap.size + 1) w.heap.size := ⟨fun k hk => by
  simp only [List.mem_cons, List.nil_append] at hk
  rcases hk with rfl | hk
  ·exact hml
  ·exact hFl k hk, by omega, by omega, by omega, by omega, by omega, by simp, by simp⟩
 refine (wpIn_wide (n := 4)).1 ?_
 have hseq := spairs_seq W0 Fence.wide 3 trivial rfl (by omega) len xc yc hxl hyl (hb2.cell (i := 0) rfl) (hb3.cell (i := 0) rfl) (HX.out.keep fun k hk => hc0.block k (hxa k hk).2 (by simp)) (HY.out.keep fun k hk => hc0.block k (hya k hk).2 (by simp))
 have hKok : Kok w m [] F (w.heap.size + 4) (w.heap.size + 1) ((w.heap.size + 2) :: (w.heap.size + 3) :: (ablk xa ++ ablk ya)) := fun k hk => by
  simp only [List.mem_cons, List.mem_append] at hk
  rcases hk with rfl | rfl | hk | hk
  ·exact .inr ⟨by omega, by omega, by omega⟩
  ·exact .inr ⟨by omega, by omega, by omega⟩
  ·exact .inl ⟨(hxa k hk).2, (hxa k hk).1⟩
  ·exact .inl ⟨(hya k hk).2, (hya k hk).1⟩
 refine wpIn_rangeFunc_P (n := 4) (w.heap.size + 4) hz0 rfl (by omega) rfl trivial (fun args w => sfnvpairs1 args w) hseq ?kb (fun _ => rfl)
  (fun pre W => EIe w g m G [] F (w.heap.size + 4) (w.heap.size + 1) w.heap.size pre.length (eachF (rop rXor) (G, 0) pre).1 (eachF (rop rXor) (G, 0) pre).2 W)
  (fun _ => False) ?hi (fun _ _ h _ => h) ?h0 ?a1 ?assign ?body ?done (fun _ h _ _ => h.elim)
 case assign =>
  intro q x W K hK
  simp only [pairEnc]
  gi_wp2
  exact hK
 case kb =>
  intro k hk
  simp only [List.mem_cons, List.mem_append] at hk
  rcases hk with rfl | rfl | hk | hk
  ·omega
  ·omega
  ·have := (hxa k hk).2; omega
  ·have := (hya k hk).2; omega
 case hi =>
  rintro pre A A' ⟨v, P, l, F', h⟩ hc
  exact ⟨v, P, l, F', h.same hEF hc⟩
 case h0 =>
  refine ⟨.slice none 0 0, (G, 0), [], F, Sim.start hok, fun _ => rfl, rfl, by simp, H.out.same hc0 (by simp), hc0.mono (by simp), fun k hk => .inl hk, rfl, hbo, hbm, ⟨rfl, .inl ⟨rfl, rfl⟩⟩, by simp [Value.ownBlock]⟩
 case body =>
  rintro q pre ⟨a, b⟩ W ⟨v, P, l, F', hE⟩ hWl hpx
  obtain ⟨va, vc, rfl⟩ := row.shape hE.row
  have hpm := List.IsPrefix.subset hpx (List.mem_append_right pre (List.mem_singleton.2 rfl))
  obtain ⟨ha0, hb0⟩ := zip_lt hxr hyr _ hpm
  have ha := hE.sim.ext.lt ha0
  have hb := hE.sim.ext.lt hb0
  have hst := hE.sim.step (rXor_full hE.mem.gin.ok ha hb) (fun _ e => by rw [e])
  obtain ⟨Q, hQ⟩ : ∃ Q, Q = rXor P.1 a b := ⟨_, rfl⟩
  rw [← hQ] at hst
  have HQ := Hi9 hQ; clear hQ
  have hln : l.length ≤ 1000 := by
   have h1 := hE.len
   have h2 := hpx.length_le
   rw [List.length_append, List.length_zip] at h2
   simp at h2
   omega
  have hbo := hE.ob
  have hbm := hE.mb
  have hbk := hE.mem.bk
  have hsep := hE.sep hEF
  have HE := Hi9 hE; clear hE
  have HPX := Hi9 hpx; clear hpx
  have HST := Hi9 hst; clear hst
  have HSEP := Hi9 hsep; clear hsep
  have HA := Hi9 ha; clear ha
  have HB := Hi9 hb; clear hb
  clear hpm ha0 hb0 hb2 hb3 hseq HPAIR
  gi_wp2
  refine Ord.St.doorR (fun w' => w'.cell? ⟨w.heap.size + 1, 0, none⟩ = some (.slice va l.length vc)) [.ho, .rd, .fl, .fl, .ef, .ef, .ef, .ef] [0, 0, 0, 0, 14, 30, 63, 127] [0, 1, 2, 3, 4, 5, 6, 7] mixed (by kernel_rfl) (by kernel_rfl) rfl ?_
  obtain ⟨Wc, hWc⟩ : ∃ Wc, Wc = W.drew := ⟨_, rfl⟩
  rw [← hWc]
  have hcur : Ch [] W Wc := by rw [hWc]; exact (Ch.refl _ _).drew
  clear hWc
  have hE := HE.out.ch0 hEF hcur
  have hWc : w.heap.size + 4 + 2 ≤ Wc.heap.size := Nat.le_trans hWl hcur.size
  have hbo := hE.ob
  have hbm := hE.mb.cell (i := 0) rfl
  have HFC := sxor_is hE.mem HA.out HB.out
  have HE := Hi9 hE; clear hE
  have HCUR := Hi9 hcur; clear hcur
  rw [← HQ.out] at HFC
  refine Ord.H9 ?_ 0 [1, 2, 3, 4, 5, 6, 7] ?_ (fun K w' hw' hk => ?_) ?_
  rotate_left
  ·exact hbo.cell rfl
  ·have q1 := hw'; go_step; exact hk
  (refine Ord.Q9 ?_ (fun K hk => ?_) ?_; rotate_left; focus (go_step; exact hk))
  iterate 2 (refine Ord.F9 ?_ (fun K w' hk => ?_) ?_; rotate_left; focus (go_step; exact hk))
  refine Ord.St.efC 4 [5, 6, 7] _ rfl (by kernel_rfl) (fun K hK => ?_)
  go_wp2_with fail
  refine HFC.mono ?_
  rintro e w2 ⟨rfl, F1', hmt, hcm, hFm, hmm⟩
  obtain ⟨k1, k2, k3⟩ := HE.out.more hEF hWc hmt hcm hFm hmm HST.out.1 HST.out.2.2.2.2.1 HST.out.2.2.2.2.2.2
  have hz2 : w.heap.size + 4 + 2 ≤ w2.heap.size := Nat.le_trans hWc hcm.size
  have hrow3 := k2.row.ch ((Ch.refl [] w2).alloc (.cells #[.int .i64 (mput P Q).2] 52)) (by simp)
  have hnew3 : blk (w2.alloc (.cells #[.int .i64 (mput P Q).2] 52)) w2.heap.size [.int .i64 (mput P Q).2] := blk.new' _ _ rfl
  replace hbo := k2.ob
  have HROW3 := Hi9 hrow3; clear hrow3
  have HNEW3 := Hi9 hnew3; clear hnew3
  have HE2 := Hi9 k2; clear k2
  have HB2 := Hi9 k1; clear k1
  have HK2 := Hi9 k3; clear k3
  clear HFC hbm hcm hFm hmm hmt
  go_wp2_with fail
  refine ⟨rfl, hK _ _ ?_ ?_⟩
  ·exact hbo.cell rfl
  clear hK K
  refine Ord.St.efC 5 [6, 7] _ rfl (by kernel_rfl) (fun K hK => ?_)
  go_wp2_with fail
  replace hbo := hbo.alloc (.cells #[.int .i64 (mput P Q).2] 52)
  skip
  refine ⟨rfl, hK _ _ ?_ ?_⟩
  ·exact hbo.cell rfl
  clear hK K
  refine Ord.St.ef 6 [7] _ rfl (by kernel_rfl) (fun K hK => ?_)
  go_wp2_with (at_builtin; go_loud (refine wpList_append_row slRefs rfl _ _ rfl (v := .slice va l.length vc) (n := l.length) (xs := refsCells l) rfl HROW3.out (ad := ⟨w2.heap.size, 0, none⟩) (m := 1) (c := 1) (news := [.int .i64 (mput P Q).2]) rfl rfl (news_blk HNEW3.out) (by simp [Value.oneCell']) (by omega) (by omega) ?_; intro v' w4 hown4 hC4 hf4; obtain ⟨gb, gc, rfl⟩ := row.parts hown4 (by omega); have HO4 := Hi9 hown4; clear hown4; have HC4 := Hi9 hC4; clear hC4; have HF4 := Hi9 hf4; clear hf4))
  replace hbo := hbo.ch HC4.out (fun hk => by have := (HE2.out.fresh _ (by simpa using hk)).1; omega)
  have k1 := hbo.cell (i := 0) rfl
  have k2 := hbo.frozen (i := 0)
  refine ⟨rfl, hK _ _ ?_⟩; clear hK K
  refine Ord.St.ef 7 [] _ rfl (by kernel_rfl) (fun K hK => ?_)
  go_wp2_with fail
  refine ⟨rfl, hK _ _ ?_⟩; clear hK K
  refine Ord.St.nil ?_
  gi_wp2
  obtain ⟨p1, p2, p3⟩ := HE2.out.app hEF hz2 HO4.out HC4.out HF4.out (r := (mput P Q).2) HST.out.2.1 (out' := (eachF (rop rXor) (G, 0) pre).2 ++ [(rop rXor (eachF (rop rXor) (G, 0) pre).1 a b).2]) (fun hz0 => by rw [HST.out.2.2.2.1 hz0]; rfl)
  refine ⟨((Books.of_ch HCUR.out hWl (by simp)).trans HB2.out).trans p1, ⟨_, _, _, _, by rw [eachF_snoc]; exact p2⟩, (((hKok.ch0 (by omega) hWl HCUR.out).trans (HK2.out _ hKok)).trans (p3 _ hKok))⟩
 case done =>
  rintro W ⟨v, P, l, F', hE⟩ hK hWl
  obtain ⟨va, vc, rfl⟩ := row.shape hE.row
  have hall := hE.all
  have hln : l.length ≤ 1000 := by have := hE.len; rw [List.length_zip] at this; omega
  have hbg2 : W.cell? ⟨bg, 0, none⟩ = some (.pointer (some ⟨g, 0, none⟩)) := (hE.ch.cell (p := ⟨bg, 0, none⟩) hbflt (by simpa using hbgF)).trans hbg
  have hst := hE.sim.step (rAny_full hE.mem.gin.ok hall) (Y := rAny (eachF (rop rXor) (G, 0) (x.zip y)).1.1 (eachF (rop rXor) (G, 0) (x.zip y)).2) (fun h0 e => by rw [hE.out h0, e])
  obtain ⟨Q, hQ⟩ : ∃ Q, Q = rAny P.1 l := ⟨_, rfl⟩
  rw [← hQ] at hst
  have HQ := Hi9 hQ; clear hQ
  have hbo := hE.ob
  have hbm := hE.mb
  have hbk := hE.mem.bk
  have HALL := Hi9 hall; clear hall
  have HE := Hi9 hE; clear hE
  have HK := Hi9 hK; clear hK
  have HST := Hi9 hst; clear hst
  clear hb2 hb3 hseq
  go_wp2_with fail
  refine Ord.St.door (fun w' => w'.cell? ⟨w.heap.size, 0, none⟩ = some (.pointer (some ⟨m, 0, none⟩))) [.ho, .rd, .rd, .ef, .fl, .fl, .ef, .fl] [0, 0, 0, 6, 14, 14, 63, 127] [0, 1, 2, 3, 4, 5, 6, 7] mixed (by kernel_rfl) rfl ?_
  obtain ⟨Wc, hWc⟩ : ∃ Wc, Wc = W.drew := ⟨_, rfl⟩
  rw [← hWc]
  have hcur : Ch [] W Wc := by rw [hWc]; exact (Ch.refl _ _).drew
  clear hWc
  have hE := HE.out.ch0 hEF hcur
  have hK2 : Wc.heap[w.heap.size + 4]? = some (.deferred (some [])) := (hcur.block _ (Array.getElem?_eq_some_iff.1 HK.out).1 (by simp)).trans HK.out
  have hWl2 : w.heap.size + 4 + 2 ≤ Wc.heap.size := Nat.le_trans hWl hcur.size
  have hbm := hE.mb
  have hbk := hE.mem.bk
  have hbo2 := hE.ob.cell (i := 0) rfl
  have hbg3 := (hcur.cell (cell_lt hbg2) (by simp)).trans hbg2
  have hroom := hE.mem.gin.ok.room
  have hmost := hE.mem.gin.ok.most
  have HANY := Any_g hE.mem.gin (l := l.map fun (r : Nat) => (r : Int)) l.length vc (by simp) (Sl.of_row' hE.row rfl (by omega)) (by intro x hx; obtain ⟨r, hr, rfl⟩ := List.mem_map.1 hx; have := HALL.out r hr; omega) (fun p hp => ⟨(hE.row.lt p.block (by rw [hp]; rfl)).2, (hE.fresh p.block (by rw [hp]; rfl)).2⟩)
  rw [doAny_r HALL.out, ← HQ.out] at HANY
  have hsep := hE.sep hEF
  have HE := Hi9 hE; clear hE
  have HK := Hi9 hK2; clear hK2
  have HSEP := Hi9 hsep; clear hsep
  clear hroom hmost hcur hbg2
  refine Ord.H9 ?_ 0 [1, 2, 3, 4, 5, 6, 7] ?_ (fun K w' hw' hk => ?_) ?_
  rotate_left
  ·exact hbm.cell rfl
  ·have q1 := hw'; go_step; exact hk
  iterate 2 (refine Ord.Q9 ?_ (fun K hk => ?_) ?_; rotate_left; focus (go_step; exact hk))
  refine Ord.St.efC 3 [4, 5, 6, 7] _ rfl (by kernel_rfl) (fun K hK => ?_)
  go_wp2_with fail
  refine HANY.mono ?_
  rintro e w1 ⟨rfl, F1, hg1, hc1, hF1, hm1⟩
  replace hbm := hbm.ch hc1 (fun hk => by have := HSEP.out _ (by simp only [List.mem_cons, List.nil_append]; exact .inr hk); omega)
  replace hbk := hbk.ch hc1 HE.out.mem.apart
  have HPUT := sput_is hbk Q.2.1 Q.2.2
  clear hbg3 HANY
  go_wp2_with fail
  refine ⟨rfl, hK _ _ ?_ ?_⟩
  ·exact hbm.cell rfl
  clear hK K
  iterate 2 (refine Ord.F9 ?_ (fun K w' hk => ?_) ?_; rotate_left; focus (go_step; exact hk))
  refine Ord.St.ef 6 [7] _ rfl (by kernel_rfl) (fun K hK => ?_)
  go_wp2_with fail
  refine HPUT.mono ?_
  rintro e w2 ⟨rfl, hbk2, hc2⟩
  obtain ⟨F1', hmt, hcm, hFm, hmm⟩ := MTo.of (P' := (mput P Q).1) HE.out.mem ⟨F1, hg1, hc1, hF1, hm1⟩ (fun _ => hbk2) hc2
  obtain ⟨k1, k2, k3⟩ := HE.out.more hEF hWl2 hmt hcm hFm hmm HST.out.1 HST.out.2.2.2.2.1 HST.out.2.2.2.2.2.2
  have hK2 := k1.1.trans HK.out
  have HE2 := Hi9 k2; clear k2
  have HK2 := Hi9 hK2; clear hK2
  clear HPUT hbk hbm hg1 hc1 hF1 hm1 hc2 hbk2 hcm hFm hmm hmt k1 k3
  go_wp2_with fail
  refine ⟨rfl, hK _ _ ?_⟩; clear hK K
  (refine Ord.F9 ?_ (fun K w' hk => ?_) ?_; rotate_left; focus (go_step; exact hk))
  refine Ord.St.nil ?_
  go_wp2
  refine ⟨by simp, .inl ⟨_, _, rfl, run_takeDeferred HK2.out, ?_⟩⟩
  refine ⟨_, results_tmp rfl _ _ _, (mput P Q).1, (mput P Q).2, rfl, HST.out.1, fun h0 => HST.out.2.2.2.1 h0, (HE2.out.done hEF _).to⟩
end
end Go.Proofs.YtehljgigebhddaaGreat
namespace Go.Aig
end Go.Aig
namespace Go.Proofs.YtehljgigebhddaaGreat
open Go.RowKit Go.Mem Go.Aig
attribute [local go_sem] Oper.semAt_some
section
variable {w : World} {g m : Nat} {G : Gra} {F : List Nat}
end
end Go.Proofs.YtehljgigebhddaaGreat
