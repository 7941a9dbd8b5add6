/-
  Walk over AigOnce: true. Conditions: a slice of small ones.
-/
import Derived.Test.YtnajonchjlplmaaQW36
namespace Go.Proofs.Ytnajonchjlplmaa
open Go.RowKit Go.Mem Go.Aig
theorem pairArr : PairKey Try.prog 43 where
  check := fun w em a b => by unfold pr; kernel_rfl
  equal := fun w a b c d => arrEq w a b c d
  kind := ⟨_, Try.underlying43, fun v v' => by cases v' <;> rfl⟩
/-- what the map of the ands that were seen holds -/
def SeenOk (es : List MapEntry) (ns : List Nd) (i : Nat) : Prop := ∀ e ∈ es, ∃ (n : Nat) (x : Nd), n < i ∧ ns[n]? = some x ∧ x.k = 3 ∧ e.key = pr x.l x.r
theorem SeenOk.keys {es : List MapEntry} {ns : List Nd} {i : Nat} (h : SeenOk es ns i) : PairKeys es := fun e he => by
  obtain ⟨n, x, _, _, _, hk⟩ := h e he
  exact ⟨_, _, hk⟩
theorem SeenOk.none {es : List MapEntry} {ns : List Nd} {i : Nat} (h : SeenOk es ns i) (hw : WF ns) {x : Nd} (hx : ns[i]? = some x) (hk : x.k = 3) : findP x.l x.r es 0 = none := by
  cases hf : findP x.l x.r es 0 with
  | none => rfl
  | some q =>
    obtain ⟨j, v⟩ := q
    obtain ⟨_, e, he, hek, _⟩ := findP_some hf
    obtain ⟨n, y, hn, hy, hky, hkk⟩ := h e (List.mem_of_getElem? he)
    obtain ⟨e1, e2⟩ := pr_nat (hek.symm.trans hkk)
    have := hw.once i n x y hx hy hk hky e1 e2
    omega
theorem SeenOk.mono {es : List MapEntry} {ns : List Nd} {i : Nat} (h : SeenOk es ns i) : SeenOk es ns (i + 1) := fun e he => by
  obtain ⟨n, x, h1, h2⟩ := h e he
  exact ⟨n, x, by omega, h2⟩
theorem SeenOk.push {es : Array MapEntry} {ns : List Nd} {i : Nat} (h : SeenOk es.toList ns i) {x : Nd} (hx : ns[i]? = some x) (hk : x.k = 3) (v : Value) (c : Nat) : SeenOk (es.push { key := pr x.l x.r, val := v, born := c }).toList ns (i + 1) := fun e he => by
  rw [Array.toList_push, List.mem_append] at he
  rcases he with he | he
  · exact h.mono e he
  · simp at he; subst he; exact ⟨i, x, by omega, hx, hk, rfl⟩
section
variable {w : World}
set_option maxRecDepth 100000 in
set_option maxHeartbeats 16000000 in
theorem AigOnce_walk {a : Option Addr} {n cap : Nat} {l : List Sm} (hS : SmS w a n cap l) :
    Calls Try.prog 4 #[.slice a n cap] w fun e w' => e = .returned (.bool true) ∧ Ch [] w w' := by
  obtain ⟨hok, hnl, hrl, h60, hmo⟩ := built_ok l
  have hB := fun (W : World) (hW : Ch [] w W) => build_is (w := W) 4000 (by omega) (by omega) (hS.ch hW (by simp)) (by omega)
  have hall := runTo_all l
  have hAT := fun (i : Nat) (x : Sm) (hx : (l.take 60)[i]? = some x) => at_step hx
  have hpos := hok.ok.wf.pos
  have hsz : (builtB 4000 (l.take 60)).G.nodes.length ≤ 65536 := by have := hok.ok.room; have := hok.ok.most; omega
  have h5 : 5 ≤ (builtB 4000 (l.take 60)).G.nodes.length := by
    have h := (run_ok (l.take 60) (bd0_ok (most := 4000) (by omega) (by omega)) (by show 5 + 3 * _ ≤ 4000; omega)).2.1.len
    exact h
  clear hnl hmo
  generalize builtB 4000 (l.take 60) = b at *
  have hwl := hok.len
  have HB := Lib.hid hB; clear hB
  have HOK := Lib.hid hok; clear hok
  have HS := Lib.hid hS; clear hS
  have HAT := Lib.hid hAT; clear hAT
  have HALL := Lib.hid hall; clear hall
  have HRL := Lib.hid hrl; clear hrl
  have HWL := Lib.hid hwl; clear hwl
  have hmm := @run_makeMap Try.prog
  go_enter Try.func4, Try.ntmps4
  go_wp2_with fail
  refine (awake_is w).mono ?_
  rintro e w1 ⟨rfl, hc1⟩
  have HC1 := Lib.hid hc1; clear hc1
  go_wp2_with fail
  refine (HB.out w1 HC1.out).mono ?_
  rintro e w2 ⟨g, F, ra, rc, wa, wc, rfl, hbm⟩
  have hBB0 := (hbm.base HC1.out).box
  have hmbk : w.heap.size ≤ w2.heap.size + 1 := by have := hBB0.bm.own.ch.size; simp at this; exact this
  have hBB := hBB0.keep (.map #[] 0)
  have hmap : ((w2.alloc (.cells #[.pointer (some ⟨g, 0, none⟩), .slice ra b.refs.length rc, .slice wa b.want.length wc] 28)).alloc (.map #[] 0)).heap[w2.heap.size + 1]? = some (.map #[] 0) := by
    have := heap_alloc_new (w2.alloc (.cells #[.pointer (some ⟨g, 0, none⟩), .slice ra b.refs.length rc, .slice wa b.want.length wc] 28)) (.map #[] 0)
    simpa using this
  rw [World.size_alloc] at hBB
  have hlen := Len_g hBB.bm.own.gin
  have ⟨x0, x1, x2⟩ := blk3 hBB.bk
  have HBB := Lib.hid hBB; clear hBB hBB0
  have HMAP := Lib.hid hmap; clear hmap
  have HLEN := Lib.hid hlen; clear hlen HB hbm
  go_wp2_with fail
  refine HLEN.out.mono ?_
  rintro e w' ⟨rfl, rfl⟩
  clear HLEN
  go_wp2_with fail
  clear x0 x1 x2 hmm
  generalize hTB : w2.heap.size = tb at *
  clear hTB
  generalize (w2.alloc (.cells #[.pointer (some ⟨g, 0, none⟩), .slice ra b.refs.length rc, .slice wa b.want.length wc] 28)).alloc (.map #[] 0) = W0 at *
  go_loopw [37] (fun i wr => ∃ k : Nat, k ≤ b.G.nodes.length ∧ i = .int .i64 k ∧ ∃ F, BB [tb + 1] w wr tb g F (.slice ra b.refs.length rc) (.slice wa b.want.length wc) b ∧ ∃ es clock, wr.heap[tb + 1]? = some (.map es clock) ∧ SeenOk es.toList b.G.nodes k) (fun i _ => b.G.nodes.length - (intOf i).toNat)
  case atStart => exact ⟨0, by omega, rfl, _, HBB.out, _, _, HMAP.out, by intro e he; simp at he⟩
  case round =>
    clear HBB HMAP F HC1
    obtain ⟨k, hk, rfl, F, hBB, es, clock, hmap, hseen⟩ := hrel
    have x0 := hBB.bk.cell (i := 0) rfl
    by_cases hlt : k < b.G.nodes.length
    · obtain ⟨x, hx⟩ : ∃ x, b.G.nodes[k]? = some x := ⟨_, List.getElem?_eq_getElem hlt⟩
      have hna : nodeAt b.G.nodes (2 * k + 1 : Int) = some x := by
        unfold nodeAt
        rw [if_pos (by omega), show ((2 * k + 1 : Int).toNat / 2) = k from by omega, hx]
      have hS := Sides_g hBB.bm.own.gin (2 * k + 1) (by omega)
      have hkk : kindOf b.G.nodes (2 * k + 1 : Int) = x.k := by unfold kindOf; rw [hna]
      have hll : lOf b.G.nodes (2 * k + 1 : Int) = if x.k = 3 then x.l else 0 := by unfold lOf; rw [hna]
      have hrr : rOf b.G.nodes (2 * k + 1 : Int) = if x.k = 3 then x.r else 0 := by unfold rOf; rw [hna]
      have hii : isAndAt b.G.nodes (2 * k + 1 : Int) = (x.k == 3) := by unfold isAndAt; rw [hkk]
      rw [hll, hrr, hii] at hS
      clear hkk hll hrr hii hna
      by_cases h3 : x.k = 3
      · obtain ⟨s1, s2, s3, s4, s5⟩ := HOK.out.ok.wf.sides hx h3
        have hb3 : (x.k == 3) = true := by simp [h3]
        rw [if_pos h3, if_pos h3, hb3] at hS
        have hnone := hseen.none HOK.out.ok.wf hx h3
        have hpush := hseen.push hx h3 (.int .i64 k) clock
        obtain ⟨hd1, hd2⟩ := doAnd_node HOK.out.ok hx h3
        have hlk := fun (W : World) (hW : W.heap[tb + 1]? = some (.map es clock)) => pairArr.lookup (T := 38) Try.underlying38 zeroInt hW hseen.keys x.l x.r true
        have hup := fun (W : World) (hW : W.heap[tb + 1]? = some (.map es clock)) => pairArr.push (T := 38) Try.underlying38 hW hseen.keys x.l x.r (.int .i64 k) hnone
        simp only [hnone, Option.map_none, Option.getD_none, if_true, Option.isSome_none] at hlk
        have HS2 := Lib.hid hS; clear hS
        have HD1 := Lib.hid hd1; clear hd1
        have HD2 := Lib.hid hd2; clear hd2
        have HLK := Lib.hid hlk; clear hlk
        have HUP := Lib.hid hup; clear hup
        have HPUSH := Lib.hid hpush; clear hpush
        have HMAP := Lib.hid hmap; clear hmap
        have HBB := Lib.hid hBB; clear hBB
        have q1 : decide (x.r ≤ x.l) = false := decide_eq_false (by omega)
        have q2 : decide ((x.l : Int) < 2) = false := decide_eq_false (by omega)
        have q3 : ((x.l : Int) / 2 == (x.r : Int) / 2) = false := beqN (by omega)
        have q4 : decide ((k : Int) ≤ (x.r : Int) / 2) = false := decide_eq_false (by omega)
        clear hb3 h3 s5 s3 hseen hnone hx
        go_wp2_with fail
        refine HS2.out.mono ?_
        rintro e w3 ⟨rfl, hc3⟩
        have hBB := HBB.out.same hc3
        have hmap3 := (hc3.block (tb + 1) (HBB.out.kp _ (by simp)).1 (by simp)).trans HMAP.out
        have hlk := HLK.out w3 hmap3
        have hup := HUP.out w3 hmap3
        clear x0 HBB HMAP hc3 HLK HUP HS2
        have x0 := hBB.bk.cell (i := 0) rfl
        have HM3 := Lib.hid hmap3; clear hmap3
        have HBB := Lib.hid hBB; clear hBB
        unfold pr at hlk hup
        obtain ⟨W4, hW4⟩ : ∃ W4 : World, W4 = { w3 with heap := w3.heap.setIfInBounds (tb + 1) (.map (es.push { key := .agg #[.int .i64 x.l, .int .i64 x.r], val := .int .i64 k, born := clock }) (clock + 1)) } := ⟨_, rfl⟩
        rw [← hW4] at hup
        have hc4 : Ch [tb + 1] w3 W4 := by rw [hW4]; exact ⟨rfl, rfl, rfl, by simp, fun j _ hj => Array.getElem?_setIfInBounds_ne (by simp at hj; omega)⟩
        have hm4 : W4.heap[tb + 1]? = some (.map (es.push { key := .agg #[.int .i64 x.l, .int .i64 x.r], val := .int .i64 k, born := clock }) (clock + 1)) := by
          rw [hW4]; exact Array.getElem?_setIfInBounds_self_of_lt (Array.getElem?_eq_some_iff.1 HM3.out).1
        clear hW4
        have hBB := HBB.out.other hc4 (by simp) hmbk
        clear HBB hc4 HM3
        have HM4 := Lib.hid hm4; clear hm4
        have x4 := hBB.bk.cell (i := 0) rfl
        have HBB := Lib.hid hBB; clear hBB
        have hA1 := And_g HBB.out.bm.own.gin x.l x.r (by omega) (by omega)
        rw [HD1.out] at hA1
        have HA1 := Lib.hid hA1; clear hA1
        go_wp2_with fail
        refine HA1.out.mono ?_
        rintro e w5 ⟨rfl, hto⟩
        obtain ⟨F5, hBB, hkk⟩ := HBB.out.to hto
        have hm5 := (hkk _ (by simp)).trans HM4.out
        have x5 := hBB.bk.cell (i := 0) rfl
        have hA2 := And_g hBB.bm.own.gin x.r x.l (by omega) (by omega)
        rw [show ({ b with G := b.G } : Bd).G = b.G from rfl, HD2.out] at hA2
        clear HA1 HM4 HBB x4 hto hkk x0 hup hlk
        have HM5 := Lib.hid hm5; clear hm5
        have HBB := Lib.hid hBB; clear hBB
        have HA2 := Lib.hid hA2; clear hA2
        go_wp2_with fail
        refine HA2.out.mono ?_
        rintro e w6 ⟨rfl, hto⟩
        obtain ⟨F6, hBB, hkk⟩ := HBB.out.to hto
        have HM6 := Lib.hid ((hkk _ (by simp)).trans HM5.out)
        have HBB6 := Lib.hid hBB
        clear hBB hto hkk HBB HM5 x5
        go_wp2_with fail
        go_roundw
        case rel => exact ⟨k + 1, by omega, by go_num, _, HBB6.out, _, _, HM6.out, HPUSH.out⟩
        case measure => simp [intOf]; omega
      · have hb3 : (x.k == 3) = false := by simp [h3]
        rw [if_neg h3, if_neg h3, hb3] at hS
        have HS2 := Lib.hid hS; clear hS hb3 h3
        have HMAP := Lib.hid hmap; clear hmap
        have HBB := Lib.hid hBB; clear hBB
        have HSEEN := Lib.hid hseen; clear hseen
        go_wp2_with fail
        refine HS2.out.mono ?_
        rintro e w3 ⟨rfl, hc3⟩
        have HC3 := Lib.hid hc3; clear hc3
        go_wp2_with fail
        go_roundw
        case rel => exact ⟨k + 1, by omega, by go_num, _, HBB.out.same HC3.out, _, _, (HC3.out.block (tb + 1) (HBB.out.kp _ (by simp)).1 (by simp)).trans HMAP.out, HSEEN.out.mono⟩
        case measure => simp [intOf]; omega
    · have hmin : min n 60 = (l.take 60).length := by rw [List.length_take, HS.out.len, Nat.min_comm]
      have hmn : ∀ (ats : Array TypeId) (ty : TypeId), Builtin.min_ ats ty #[.int .i64 (n : Int), .int .i64 60] = pure (.int .i64 ((l.take 60).length : Nat)) := fun ats ty => min_nat n 60 _ hmin ats ty
      have hml : (l.take 60).length ≤ cap := by rw [← hmin]; have := HS.out.le; omega
      have hmx := HS.out.max
      have hle := HS.out.le
      clear hmin
      have hpre : Pre b.G (max b.G.nodes.length (runTo l 0).G.nodes.length) b.G := by
        have e : (runTo l 0).G.nodes.length ≤ b.G.nodes.length := by rw [runTo_zero]; show 5 ≤ _; exact h5
        rw [Nat.max_eq_left e]
        exact ⟨rfl, Nat.le_refl _, by rw [List.take_length]⟩
      generalize hML : (l.take 60).length = m at *
      have HML := Lib.hid hML; clear hML
      have HPRE := Lib.hid hpre; clear hpre
      have HBB := Lib.hid hBB; clear hBB
      clear hmap hseen
      go_wp2_with fail
      clear x0
      have hAGAIN : True := trivial
      go_loopw [126] (fun i wr => ∃ k : Nat, k ≤ m ∧ i = .int .i64 k ∧ ∃ F H, Pre b.G (max b.G.nodes.length (runTo l k).G.nodes.length) H ∧ BB [tb + 1] w wr tb g F (.slice ra b.refs.length rc) (.slice wa b.want.length wc) ⟨H, b.refs, b.want⟩) (fun i _ => m - (intOf i).toNat)
      case atStart => exact ⟨0, by omega, rfl, _, _, HPRE.out, HBB.out⟩
      case round =>
        clear HBB HPRE hAGAIN
        obtain ⟨k, hk, rfl, F, H, hpre, hBB⟩ := hrel
        have hwr := hBB.bm.own.ch
        by_cases hlt : k < m
        · obtain ⟨x, hx⟩ : ∃ x, (l.take 60)[k]? = some x := ⟨_, List.getElem?_eq_getElem (by rw [HML.out]; exact hlt)⟩
          have hat := HAT.out k x hx
          have hxl : l[k]? = some x := by
            have := hx
            rw [List.getElem?_take] at this
            split at this
            · exact this
            · cases this
          obtain ⟨bk, bo, rfl, d0, d1, d2, d3⟩ := HS.out.cells k x hxl
          obtain ⟨y1, y2, y3, y4⟩ := HS.out.bd x (List.mem_of_getElem? hxl)
          have d0 := (hwr.cell (cell_lt d0) (by simp)).trans d0
          have d1 := (hwr.cell (cell_lt d1) (by simp)).trans d1
          have d2 := (hwr.cell (cell_lt d2) (by simp)).trans d2
          have d3 := (hwr.cell (cell_lt d3) (by simp)).trans d3
          have hbr := HRL.out
          have hbw := HWL.out
          obtain ⟨c1, c2, rb, rfl⟩ := hBB.capR (by show 0 < b.refs.length; omega)
          obtain ⟨c3, c4, wb', rfl⟩ := hBB.capW (by show 0 < b.want.length; omega)
          dsimp only at c1 c3
          have e0 : (0 : Int) ≤ 5 + (k : Int) := by omega
          have e1 : (5 : Int) + (k : Int) ≤ (rc : Int) := by omega
          have e2 : (5 : Int) + (k : Int) ≤ (wc : Int) := by omega
          obtain ⟨he, hpre2⟩ := stepRes_again HOK.out.ok hat.ok hpre (Nat.le_max_right _ _) x hat.len hat.ext
          have hHl := hpre.len
          have hTF : ∀ W, Ch [] wr W → Told W g H F (some ⟨rb, 0, none⟩) (some ⟨wb', 0, none⟩) (5 + k) (b.refs.take (5 + k)) (b.want.take (5 + k)) := fun W hW => (hBB.same hW).toldTake (by show b.refs.length ≤ _; omega) (by show b.want.length ≤ _; omega) (by omega) (by show 5 + k ≤ b.refs.length; omega) (by show 5 + k ≤ b.want.length; omega) HOK.out.words (fun r hr => by
            rw [show (⟨H, b.refs, b.want⟩ : Bd).refs = b.refs from rfl, ← hat.refs] at hr
            have := hat.ok.refs r hr
            show r < 2 * H.nodes.length
            omega)
          have hgot := hat.got
          have hnx := hat.next
          rw [hat.refs] at he hpre2
          rw [hat.refs] at hgot
          generalize (stepRes H (b.refs.take (5 + k)) x).1 = H2 at *
          generalize (stepRes (runTo l k).G (b.refs.take (5 + k)) x).2.1 = r at *
          have hST : ∀ W, Ch [] wr W → Calls Try.prog 19 #[.agg #[.pointer (some ⟨g, 0, none⟩), .slice (some ⟨rb, 0, none⟩) (5 + k) rc, .slice (some ⟨wb', 0, none⟩) (5 + k) wc], .agg #[.int .u8 x.k, .int .u8 x.a, .int .u8 x.b, .int .u8 x.c]] W fun e w' => e = .returned (.tuple #[.int .i64 r, .int .u64 (stepW (b.want.take (5 + k)) x), .int .i64 0]) ∧ GTo W g H2 F w' := fun W hW => by
            have := step_is (hTF W hW) rc wc x y1 y2 y3 y4
            rw [he] at this
            exact this
          have hle2 : (runTo l k).G.nodes.length ≤ (stepB (runTo l k) x).G.nodes.length := (stepB_ok hat.ok x hat.len).2.2.1.len
          have hpre3 : Pre b.G (max b.G.nodes.length (runTo l (k + 1)).G.nodes.length) H2 := by
            rw [hnx]
            have e : max (max b.G.nodes.length (runTo l k).G.nodes.length) (stepB (runTo l k) x).G.nodes.length = max b.G.nodes.length (stepB (runTo l k) x).G.nodes.length := by omega
            rw [← e]; exact hpre2
          clear hTF he hpre2 hHl hnx hle2 hat hwr hx hxl
          generalize stepW (b.want.take (5 + k)) x = sw at *
          have hA : Ch [] wr (wr.alloc (.cells #[.int .u8 x.k, .int .u8 x.a, .int .u8 x.b, .int .u8 x.c] 48)) := (Ch.refl _ _).alloc _
          have hA2 := hA.alloc (.cells #[.pointer (some ⟨g, 0, none⟩), .slice (some ⟨rb, 0, none⟩) b.refs.length rc, .slice (some ⟨wb', 0, none⟩) b.want.length wc] 28)
          have ⟨p0, p1, p2⟩ := blk3 (hBB.same hA).bk
          have ⟨q0, q1, q2⟩ := blk3 (hBB.same hA2).bk
          have hsm : blk (wr.alloc (.cells #[.int .u8 x.k, .int .u8 x.a, .int .u8 x.b, .int .u8 x.c] 48)) wr.heap.size [.int .u8 x.k, .int .u8 x.a, .int .u8 x.b, .int .u8 x.c] := blk.new' _ _ rfl
          have hsm2 := hsm.alloc (.cells #[.pointer (some ⟨g, 0, none⟩), .slice (some ⟨rb, 0, none⟩) b.refs.length rc, .slice (some ⟨wb', 0, none⟩) b.want.length wc] 28)
          have ⟨s0, s1, s2, s3⟩ := blk4 hsm2
          have hnb : blk ((wr.alloc (.cells #[.int .u8 x.k, .int .u8 x.a, .int .u8 x.b, .int .u8 x.c] 48)).alloc (.cells #[.pointer (some ⟨g, 0, none⟩), .slice (some ⟨rb, 0, none⟩) b.refs.length rc, .slice (some ⟨wb', 0, none⟩) b.want.length wc] 28)) (wr.heap.size + 1) [.pointer (some ⟨g, 0, none⟩), .slice (some ⟨rb, 0, none⟩) b.refs.length rc, .slice (some ⟨wb', 0, none⟩) b.want.length wc] := blk.new' _ _ (by simp)
          have ⟨n0, n1, n2⟩ := blk3 hnb
          have f1 := hnb.frozen (i := 1)
          have f2 := hnb.frozen (i := 2)
          have htb := hBB.bk.lt
          have hne : tb ≠ wr.heap.size + 1 := by omega
          have hne2 : ¬ wr.heap.size = wr.heap.size + 1 := by omega
          have hne3 : ¬ tb = wr.heap.size + 1 := by omega
          clear hsm hsm2 hnb hA hA2
          have HBR := Lib.hid hbr; clear hbr
          have HBW := Lib.hid hbw; clear hbw
          have HST := Lib.hid hST; clear hST
          have HP3 := Lib.hid hpre3; clear hpre3
          have HBB := Lib.hid hBB; clear hBB
          have HGOT := Lib.hid hgot; clear hgot
          clear hpre
          go_wp2_with fail
          refine Ord.St.door (fun w' => w'.cell? ⟨tb, 1, none⟩ = some (.slice (some ⟨rb, 0, none⟩) b.refs.length rc) ∧ w'.cell? ⟨tb, 2, none⟩ = some (.slice (some ⟨wb', 0, none⟩) b.want.length wc)) [.fl, .rd, .fl, .fl, .fl, .fl, .ho, .fl, .fl, .fl, .fl, .ef, .fl, .ef] [0, 1, 0, 4, 15, 0, 32, 0, 128, 480, 31, 1055, 4095, 8191] [0, 1, 2, 3, 4, 5, 6, 7, 8, 9, 10, 11, 12, 13] mixed (by kernel_rfl) rfl ?_
          refine Ord.St.fl2 (T' := ?_) 0 [1, 2, 3, 4, 5, 6, 7, 8, 9, 10, 11, 12, 13] _ _ rfl (by kernel_rfl) rfl rfl rfl rfl (fun K w' hk => ?_) ?_
          rotate_left
          · go_step; exact hk
          refine Ord.St.rd2 (T' := ?_) 1 [2, 3, 4, 5, 6, 7, 8, 9, 10, 11, 12, 13] _ _ rfl (by kernel_rfl) rfl rfl rfl rfl (fun K hk => ?_) ?_
          rotate_left
          · go_step; exact hk
          refine Ord.St.fl2 (T' := ?_) 2 [3, 4, 5, 6, 7, 8, 9, 10, 11, 12, 13] _ _ rfl (by kernel_rfl) rfl rfl rfl rfl (fun K w' hk => ?_) ?_
          rotate_left
          · go_step; exact hk
          refine Ord.St.fl2 (T' := ?_) 3 [4, 5, 6, 7, 8, 9, 10, 11, 12, 13] _ _ rfl (by kernel_rfl) rfl rfl rfl rfl (fun K w' hk => ?_) ?_
          rotate_left
          · go_step; exact hk
          refine Ord.St.fl2 (T' := ?_) 4 [5, 6, 7, 8, 9, 10, 11, 12, 13] _ _ rfl (by kernel_rfl) rfl rfl rfl rfl (fun K w' hk => ?_) ?_
          rotate_left
          · go_step; exact hk
          refine Ord.St.fl2 (T' := ?_) 5 [6, 7, 8, 9, 10, 11, 12, 13] _ _ rfl (by kernel_rfl) rfl rfl rfl rfl (fun K w' hk => ?_) ?_
          rotate_left
          · go_step; exact hk
          refine Ord.St.ho2 (T' := ?_) 6 [7, 8, 9, 10, 11, 12, 13] _ _ rfl (by kernel_rfl) rfl rfl rfl rfl ?_ (fun K w' hw' hk => ?_) ?_
          rotate_left
          · exact ⟨q1, q2⟩
          · obtain ⟨k1, k2⟩ := hw'; go_step; exact hk
          refine Ord.St.fl2 (T' := ?_) 7 [8, 9, 10, 11, 12, 13] _ _ rfl (by kernel_rfl) rfl rfl rfl rfl (fun K w' hk => ?_) ?_
          rotate_left
          · go_step; exact hk
          refine Ord.St.fl2 (T' := ?_) 8 [9, 10, 11, 12, 13] _ _ rfl (by kernel_rfl) rfl rfl rfl rfl (fun K w' hk => ?_) ?_
          rotate_left
          · go_step; exact hk
          refine Ord.St.fl2 (T' := ?_) 9 [10, 11, 12, 13] _ _ rfl (by kernel_rfl) rfl rfl rfl rfl (fun K w' hk => ?_) ?_
          rotate_left
          · go_step; exact hk
          refine Ord.St.fl2 (T' := ?_) 10 [11, 12, 13] _ _ rfl (by kernel_rfl) rfl rfl rfl rfl (fun K w' hk => ?_) ?_
          rotate_left
          · go_step; exact hk
          refine Ord.St.efC 11 [12, 13] _ rfl (by kernel_rfl) (fun K hK => ?_)
          go_wp2_with fail
          refine ⟨rfl, hK _ _ ?_ ?_⟩
          · exact ⟨cell_al p1 _, cell_al p2 _⟩
          clear hK K
          refine Ord.St.fl2 (T' := ?_) 12 [13] _ _ rfl (by kernel_rfl) rfl rfl rfl rfl (fun K w' hk => ?_) ?_
          rotate_left
          · go_step; exact hk
          refine Ord.St.ef 13 [] _ rfl (by kernel_rfl) (fun K hK => ?_)
          go_wp2_with fail
          refine ⟨rfl, hK _ _ ?_⟩; clear hK K
          refine Ord.St.nil ?_
          go_wp2_with fail
          refine (HST.out _ (((Ch.refl _ _).alloc _).alloc _).drew).mono ?_
          rintro e w2 ⟨rfl, hto⟩
          obtain ⟨F2, hBB2, hkk⟩ := (HBB.out.same ((((Ch.refl [] wr).alloc _).alloc _).drew)).to hto
          have ⟨z0, z1, z2⟩ := blk3 hBB2.bk
          obtain ⟨gb, go, hge, gc⟩ := (row.sv hBB2.bm.rr rfl (by show b.refs.length ≤ _; have := HBR.out; omega)).cells (5 + k) (.int .i64 r) (by simp [refsCells, HGOT.out])
          cases hge
          rw [Nat.zero_add] at gc
          have e3 : (5 : Int) + (k : Int) < (b.refs.length : Int) := by have := HBR.out; omega
          have HBB2 := Lib.hid hBB2
          clear hBB2 hto hkk HBB HST p0 p1 p2 q0 q1 q2 s0 s1 s2 s3 n0 n1 n2 f1 f2 d0 d1 d2 d3
          go_wp2_with fail
          go_roundw
          case rel => exact ⟨k + 1, by omega, by go_num, _, _, HP3.out, HBB2.out⟩
          case measure => simp [intOf]; omega
        · have hlen := hpre.len
          have hHl : H.nodes.length = b.G.nodes.length := by
            rw [hlen, show k = m from by omega, HALL.out, Nat.max_self]
          have hL := Len_g hBB.bm.own.gin
          rw [show (⟨H, b.refs, b.want⟩ : Bd).G.nodes.length = b.G.nodes.length from hHl] at hL
          have HL := Lib.hid hL; clear hL
          have ⟨p0, p1, p2⟩ := blk3 hBB.bk
          have HC := Lib.hid hBB.bm.own.ch
          clear hBB hpre hlen hHl hwr
          go_wp2_with fail
          refine HL.out.mono ?_
          rintro e w' ⟨rfl, rfl⟩
          go_wp2_with fail
          go_ret
          exact ⟨rfl, HC.out⟩
end
end Go.Proofs.Ytnajonchjlplmaa
