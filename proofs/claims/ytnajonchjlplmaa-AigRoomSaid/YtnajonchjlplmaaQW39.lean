/-
  Walk over AigRoom: true. Conditions: a slice of small ones, a byte.
-/
import Derived.Test.YtnajonchjlplmaaQW36
import Derived.Test.YtnajonchjlplmaaQSpec11
namespace Go.Proofs.Ytnajonchjlplmaa
open Go.RowKit Go.Mem Go.Aig
section
variable {w : World}
theorem SmS.nil (w : World) : SmS w none 0 0 [] := ⟨rfl, by omega, by omega, by simp, by simp⟩
set_option maxRecDepth 100000 in
set_option maxHeartbeats 1000000 in
theorem AigRoom_walk {a : Option Addr} {n cap : Nat} {l : List Sm} (hS : SmS w a n cap l) (room : Nat) (hroom : room ≤ 255) :
    Calls Try.prog 5 #[.slice a n cap, .int .u8 room] w fun e w' => e = .returned (.bool true) ∧ Ch [] w w' := by
  obtain ⟨hok, hnl, hrl, h60, hmo⟩ := built_ok l
  have hB := fun (W : World) (hW : Ch [] w W) => build_is (w := W) 4000 (by omega) (by omega) (hS.ch hW (by simp)) (by omega)
  obtain ⟨p, hp⟩ : ∃ p : Nat, p = 5 + room % 61 := ⟨_, rfl⟩
  have hp5 : 5 ≤ p := by omega
  have hp65 : p ≤ 65 := by omega
  have hB0 := fun (W : World) => build_is (w := W) p hp5 (by omega) (SmS.nil W) (by simpa using hp5)
  simp only [List.take_nil] at hB0
  rw [show builtB p [] = bd0 p 4 from rfl] at hB0
  have hall := runTo_all l
  have hAT := fun (i : Nat) (x : Sm) (hx : (l.take 60)[i]? = some x) => at_step hx
  generalize builtB 4000 (l.take 60) = b at *
  have hwl := hok.len
  have hbsz : b.G.nodes.length ≤ 65536 := by have := hok.ok.room; have := hok.ok.most; omega
  have h0r : (bd0 p 4).refs.length = 5 := rfl
  have h0w : (bd0 p 4).want.length = 5 := rfl
  have h0g : bd0 p 4 = ⟨less (runTo l 0).G p, (runTo l 0).refs, (runTo l 0).want⟩ := by rw [runTo_zero]; rfl
  rw [h0r, h0w, h0g] at hB0
  clear h0r h0w h0g hnl hmo h60 hok
  have HB := Lib.hid hB; clear hB
  have HB0 := Lib.hid hB0; clear hB0
  have HS := Lib.hid hS; clear hS
  have HAT := Lib.hid hAT; clear hAT
  have HALL := Lib.hid hall; clear hall
  have HRL := Lib.hid hrl; clear hrl
  have HWL := Lib.hid hwl; clear hwl
  have hr1 : (5 : Int) + (room : Int) % 61 = (p : Int) := by omega
  have HR := Lib.hid hr1; clear hr1
  go_enter Try.func5, Try.ntmps5
  go_wp2_with fail
  refine (awake_is w).mono ?_
  rintro e w1 ⟨rfl, hc1⟩
  have HC1 := Lib.hid hc1; clear hc1
  go_wp2_with fail
  rw [HR.out]
  clear HR hp
  refine (HB.out w1 HC1.out).mono ?_
  rintro e w2 ⟨ga, Fa, ra, rca, wa, wca, rfl, hbm⟩
  have hA := (hbm.base HC1.out).box
  have HA := Lib.hid hA; clear hA hbm HB
  go_wp2_with fail
  refine (HB0.out _).mono ?_
  rintro e w3 ⟨g, F, rb, rcb, wb, wcb, rfl, hbm⟩
  have hBB := hbm.box
  have HBB := Lib.hid hBB; clear hBB hbm HB0
  have ⟨x0, x1, x2⟩ := blk3 HBB.out.bk
  have hmin : min n 60 = (l.take 60).length := by rw [List.length_take, HS.out.len, Nat.min_comm]
  have hmn : ∀ (ats : Array TypeId) (ty : TypeId), Builtin.min_ ats ty #[.int .i64 (n : Int), .int .i64 60] = pure (.int .i64 ((l.take 60).length : Nat)) := fun ats ty => min_nat n 60 _ hmin ats ty
  have hml : (l.take 60).length ≤ cap := by rw [← hmin]; have := HS.out.le; omega
  have hm60 : (l.take 60).length ≤ 60 := by rw [← hmin]; omega
  have hmx := HS.out.max
  have hle := HS.out.le
  clear hmin
  generalize hML : (l.take 60).length = m at *
  have HML := Lib.hid hML; clear hML
  go_wp2_with fail
  have hW1 := HA.out.bm.own.ch
  have hta := HA.out.bk.lt
  clear x0 x1 x2
  generalize w3.heap.size = tb at *
  generalize w3.alloc (.cells #[.pointer (some ⟨g, 0, none⟩), .slice rb 5 rcb, .slice wb 5 wcb] 28) = W0 at *
  generalize w2.heap.size = ta at *
  generalize w2.alloc (.cells #[.pointer (some ⟨ga, 0, none⟩), .slice ra b.refs.length rca, .slice wa b.want.length wca] 28) = W1 at *
  have HW1 := Lib.hid hW1; clear hW1
  go_loopw [48] (fun i wr => ∃ k : Nat, k ≤ m ∧ i = .int .i64 k ∧ ∃ F rb rcb wb wcb, BB [] W1 wr tb g F (.slice rb (5 + k) rcb) (.slice wb (5 + k) wcb) ⟨less (runTo l k).G p, (runTo l k).refs, (runTo l k).want⟩) (fun i _ => m - (intOf i).toNat)
  case atStart => exact ⟨0, by omega, rfl, _, _, _, _, _, HBB.out⟩
  case round =>
    clear HBB
    obtain ⟨k, hk, rfl, F, rb, rcb, wb, wcb, hBB⟩ := hrel
    by_cases hlt : k < m
    · obtain ⟨x, hx⟩ : ∃ x, (l.take 60)[k]? = some x := ⟨_, List.getElem?_eq_getElem (by rw [HML.out]; exact hlt)⟩
      have hat := HAT.out k x hx
      have hxl : l[k]? = some x := by
        have := hx
        rw [List.getElem?_take] at this
        split at this
        · exact this
        · cases this
      obtain ⟨bk, bo, rfl, d0, d1, d2, d3⟩ := HS.out.cells k x hxl
      obtain ⟨y1, y2, y3, y4⟩ := HS.out.bd x (List.mem_of_getElem? hxl)
      have hwr : Ch [] w wr := HW1.out.trans hBB.bm.own.ch (by simp)
      have d0 := (hwr.cell (cell_lt d0) (by simp)).trans d0
      have d1 := (hwr.cell (cell_lt d1) (by simp)).trans d1
      have d2 := (hwr.cell (cell_lt d2) (by simp)).trans d2
      have d3 := (hwr.cell (cell_lt d3) (by simp)).trans d3
      have hrk : (runTo l k).refs.length = 5 + k := by rw [hat.refs, List.length_take, HRL.out]; omega
      have hwk := hat.ok.len
      have hgot := hat.got
      have hnx := hat.next
      have hroomk : (runTo l k).G.nodes.length ≤ p := hBB.bm.own.gin.ok.room
      have hsl := stepRes_less (p := p) hat.ok x hat.len hroomk (by omega)
      have hlen1 := Len_g hBB.bm.own.gin
      have hA1 : Ch [] wr (wr.alloc (.cells #[.int .u8 x.k, .int .u8 x.a, .int .u8 x.b, .int .u8 x.c] 48)) := (Ch.refl _ _).alloc _
      have hBA := hBB.same hA1
      have hLA := Len_g hBA.bm.own.gin
      have hT : Told (wr.alloc (.cells #[.int .u8 x.k, .int .u8 x.a, .int .u8 x.b, .int .u8 x.c] 48)) g (less (runTo l k).G p) F rb wb (5 + k) (runTo l k).refs (runTo l k).want := by
        obtain ⟨hl1, hl2⟩ := hBA.bm.lt
        exact ⟨hBA.bm.own.gin, row.sv hBA.bm.rr rfl (by show (runTo l k).refs.length ≤ _; omega), row.sv hBA.bm.ww rfl (by show (runTo l k).want.length ≤ _; omega), hrk, by omega, by omega, by omega, fun q hq => by subst hq; exact ⟨hl1 _ rfl, (hBA.bm.ro _ rfl).2⟩, fun q hq => by subst hq; exact ⟨hl2 _ rfl, (hBA.bm.wo _ rfl).2.1⟩, hat.ok.words, hat.ok.refs⟩
      have hST := step_is hT rcb wcb x y1 y2 y3 y4
      have ⟨x0, x1, x2⟩ := blk3 hBA.bk
      have hcn : BOk (runTo l k) := hat.ok
      clear hT hat hx hxl hBB hwr hlen1 hA1
      have HNX := Lib.hid hnx; clear hnx
      have HGOT := Lib.hid hgot; clear hgot
      generalize runTo l k = c at *
      obtain ⟨r', sw, e', G', he1, hw1⟩ : ∃ r' sw e' G', stepRes (less c.G p) c.refs x = (G', r', e') ∧ stepW c.want x = sw := ⟨_, _, _, _, rfl, rfl⟩
      rw [he1, hw1] at hST
      rw [he1] at hsl
      dsimp only at hST
      have HSL := Lib.hid hsl; clear hsl
      have HCN := Lib.hid hcn; clear hcn
      have HST := Lib.hid hST; clear hST
      have HBA := Lib.hid hBA; clear hBA
      have HLA := Lib.hid hLA; clear hLA
      have HRK := Lib.hid hrk; clear hrk
      have HWK := Lib.hid hwk; clear hwk
      clear he1
      have HW := Lib.hid hw1; clear hw1
      go_wp2_with fail
      refine HLA.out.mono ?_
      rintro e w' ⟨rfl, rfl⟩
      clear HLA
      go_wp2_with fail
      refine HST.out.mono ?_
      rintro e w2 ⟨rfl, hto⟩
      obtain ⟨F2, hBB2, _⟩ := HBA.out.to hto
      clear hto HBA HST x0 x1 x2 d0 d1 d2 d3
      have ⟨x0, x1, x2⟩ := blk3 hBB2.bk
      have hmp : G'.most = p := by rcases HSL.out with ⟨e, _⟩ | e <;> (cases e; rfl)
      have hd : G'.nodes.length ≤ p := by have := hBB2.bm.own.gin.ok.room; rw [← hmp]; exact this
      have hBB3 := hBB2.same (Ch.refl _ _).drew
      have hL2 := Len_g hBB3.bm.own.gin
      have hR2 := Room_g hBB3.bm.own.gin
      have ⟨z0, z1, z2⟩ := blk3 hBB3.bk
      dsimp only at hL2 hR2
      rw [hmp] at hR2
      have HL2 := Lib.hid hL2; clear hL2
      have HR2 := Lib.hid hR2; clear hR2
      have HBB3 := Lib.hid hBB3; clear hBB3 hBB2
      have hsum : (G'.nodes.length : Int) + ((p - G'.nodes.length : Nat) : Int) = (p : Int) := by omega
      have HSUM := Lib.hid hsum; clear hsum
      have hgt : decide (p < G'.nodes.length) = false := decide_eq_false (by omega)
      clear hmp
      go_wp2_with fail
      refine Ord.St.door (fun _ => True) [.fl, .rd, .rd, .fl, .rd, .ef, .fl, .fl, .fl, .fl, .fl, .rd, .rd, .fl, .fl, .fl] [0, 1, 3, 0, 8, 31, 63, 0, 255, 511, 1023, 2047, 4095, 1023, 16383, 32767] [0, 1, 2, 3, 4, 5, 6, 7, 8, 9, 10, 11, 12, 13, 14, 15] mixed (by kernel_rfl) rfl ?_
      refine Ord.St.fl2 (T' := ?_) 0 [1, 2, 3, 4, 5, 6, 7, 8, 9, 10, 11, 12, 13, 14, 15] _ _ rfl (by kernel_rfl) rfl rfl rfl rfl (fun K w' hk => ?_) ?_
      rotate_left
      · go_step; exact hk
      refine Ord.St.rd2 (T' := ?_) 1 [2, 3, 4, 5, 6, 7, 8, 9, 10, 11, 12, 13, 14, 15] _ _ rfl (by kernel_rfl) rfl rfl rfl rfl (fun K hk => ?_) ?_
      rotate_left
      · go_step; exact hk
      refine Ord.St.rd2 (T' := ?_) 2 [3, 4, 5, 6, 7, 8, 9, 10, 11, 12, 13, 14, 15] _ _ rfl (by kernel_rfl) rfl rfl rfl rfl (fun K hk => ?_) ?_
      rotate_left
      · go_step; refine HL2.out.mono ?_; rintro e w' ⟨rfl, rfl⟩; exact hk
      refine Ord.St.fl2 (T' := ?_) 3 [4, 5, 6, 7, 8, 9, 10, 11, 12, 13, 14, 15] _ _ rfl (by kernel_rfl) rfl rfl rfl rfl (fun K w' hk => ?_) ?_
      rotate_left
      · go_step; exact hk
      refine Ord.St.rd2 (T' := ?_) 4 [5, 6, 7, 8, 9, 10, 11, 12, 13, 14, 15] _ _ rfl (by kernel_rfl) rfl rfl rfl rfl (fun K hk => ?_) ?_
      rotate_left
      · go_step; exact hk
      refine Ord.St.fl2 (T' := ?_) 7 [5, 6, 8, 9, 10, 11, 12, 13, 14, 15] _ _ rfl (by kernel_rfl) rfl rfl rfl rfl (fun K w' hk => ?_) ?_
      rotate_left
      · go_step; exact hk
      refine Ord.St.ef 5 [6, 8, 9, 10, 11, 12, 13, 14, 15] _ rfl (by kernel_rfl) (fun K hK => ?_)
      go_wp2_with fail
      refine HR2.out.mono ?_
      rintro e w5 ⟨rfl, hc5⟩
      have hBB5 := HBB3.out.same hc5
      have hL5 := Len_g hBB5.bm.own.gin
      have ⟨v0, v1, v2⟩ := blk3 hBB5.bk
      have HL5 := Lib.hid hL5; clear hL5
      have HBB5 := Lib.hid hBB5; clear hBB5 hc5
      go_wp2_with fail
      refine ⟨rfl, hK _ _ ?_⟩; clear hK K
      refine Ord.St.fl2 (T' := ?_) 6 [8, 9, 10, 11, 12, 13, 14, 15] _ _ rfl (by kernel_rfl) rfl rfl rfl rfl (fun K w' hk => ?_) ?_
      rotate_left
      · go_step; exact hk
      have hsumE := HSUM.out
      refine Ord.St.fl2 (T' := ?_) 8 [9, 10, 11, 12, 13, 14, 15] _ _ rfl (by kernel_rfl) rfl rfl rfl rfl (fun K w' hk => ?_) ?_
      rotate_left
      · go_step; exact hk
      refine Ord.St.fl2 (T' := ?_) 9 [10, 11, 12, 13, 14, 15] _ _ rfl (by kernel_rfl) rfl rfl rfl rfl (fun K w' hk => ?_) ?_
      rotate_left
      · go_step; exact hk
      first | (refine Ord.St.fl2 (T' := ?_) 10 [11, 12, 13, 14, 15] _ _ rfl (by kernel_rfl) ?_ rfl rfl rfl (fun K w' hk => ?_) ?_; rotate_left; (first | rfl | (simp [Region.wanted, yielded, *]; done)); focus (go_step; exact hk)) | (refine Ord.St.skip 10 [11, 12, 13, 14, 15] _ rfl (by kernel_rfl) ?_ (fun K hK => ?_); (first | rfl | (simp [Region.wanted, yielded, *]; done)); go_simp; refine hK _ ?_; clear hK K)
      first | (refine Ord.St.rd2 (T' := ?_) 11 [12, 13, 14, 15] _ _ rfl (by kernel_rfl) ?_ rfl rfl rfl (fun K hk => ?_) ?_; rotate_left; (first | rfl | (simp [Region.wanted, yielded, *]; done)); focus (go_step; exact hk)) | (refine Ord.St.skipr 11 [12, 13, 14, 15] _ rfl (by kernel_rfl) ?_ (fun K hK => ?_); (first | rfl | (simp [Region.wanted, yielded, *]; done)); go_simp; refine hK _ ?_; clear hK K)
      first | (refine Ord.St.rd2 (T' := ?_) 12 [13, 14, 15] _ _ rfl (by kernel_rfl) ?_ rfl rfl rfl (fun K hk => ?_) ?_; rotate_left; (first | rfl | (simp [Region.wanted, yielded, *]; done)); focus (go_step; refine HL5.out.mono ?_; rintro e w' ⟨rfl, rfl⟩; exact hk)) | (refine Ord.St.skipr 12 [13, 14, 15] _ rfl (by kernel_rfl) ?_ (fun K hK => ?_); (first | rfl | (simp [Region.wanted, yielded, *]; done)); go_simp; refine hK _ ?_; clear hK K)
      first | (refine Ord.St.fl2 (T' := ?_) 13 [14, 15] _ _ rfl (by kernel_rfl) ?_ rfl rfl rfl (fun K w' hk => ?_) ?_; rotate_left; (first | rfl | (simp [Region.wanted, yielded, *]; done)); focus (go_step; exact hk)) | (refine Ord.St.skip 13 [14, 15] _ rfl (by kernel_rfl) ?_ (fun K hK => ?_); (first | rfl | (simp [Region.wanted, yielded, *]; done)); go_simp; refine hK _ ?_; clear hK K)
      first | (refine Ord.St.fl2 (T' := ?_) 14 [15] _ _ rfl (by kernel_rfl) ?_ rfl rfl rfl (fun K w' hk => ?_) ?_; rotate_left; (first | rfl | (simp [Region.wanted, yielded, *]; done)); focus (go_step; exact hk)) | (refine Ord.St.skip 14 [15] _ rfl (by kernel_rfl) ?_ (fun K hK => ?_); (first | rfl | (simp [Region.wanted, yielded, *]; done)); go_simp; refine hK _ ?_; clear hK K)
      refine Ord.St.fl2 (T' := ?_) 15 [] _ _ rfl (by kernel_rfl) rfl rfl rfl rfl (fun K w' hk => ?_) ?_
      rotate_left
      · go_step; exact hk
      refine Ord.St.nil ?_
      have hrk := HRK.out
      have hwk := HWK.out
      have hrk100 : c.refs.length ≤ 100 := by omega
      have hwk100 : c.want.length ≤ 100 := by omega
      clear x0 x1 x2 z0 z1 z2 hgt HSUM HL2 HR2 HBB3
      rcases HSL.out with ⟨he, hlen⟩ | he
      · obtain ⟨eG, e2⟩ := Prod.mk.inj he
        obtain ⟨er, ee⟩ := Prod.mk.inj e2
        have hnx : (⟨G', c.refs ++ [r'], c.want ++ [sw]⟩ : Bd) = ⟨less (runTo l (k + 1)).G p, (runTo l (k + 1)).refs, (runTo l (k + 1)).want⟩ := by rw [HNX.out, eG, er, ← HW.out]; rfl
        have hgot := HGOT.out
        rw [← er] at hgot
        clear eG er e2 he HGOT HNX HSL HW hlen
        subst ee
        have hA5 := HA.out.same HBB5.out.bm.own.ch
        obtain ⟨c1, c2, rab, rfl⟩ := hA5.capR (by have := HRL.out; omega)
        have ⟨y0', y1', y2'⟩ := blk3 hA5.bk
        obtain ⟨gb, go, hge, gc⟩ := (row.sv hA5.bm.rr rfl (by have := HRL.out; omega)).cells (5 + k) (.int .i64 r') (by simp [refsCells, hgot])
        cases hge
        rw [Nat.zero_add] at gc
        have e3 : (5 : Int) + (k : Int) < (b.refs.length : Int) := by have := HRL.out; omega
        have HNX := Lib.hid hnx; clear hnx
        clear hA5 hgot hrk hwk
        go_wp2_with fail
        clear y0' y1' y2' gc
        have hBB := HBB5.out
        clear HBB5 HL5 v0 v1 v2
        refine Ord.St.door (fun w' => w'.cell? ⟨tb, 1, none⟩ = some (.slice rb (5 + k) rcb) ∧ w'.cell? ⟨tb, 2, none⟩ = some (.slice wb (5 + k) wcb)) [.fl, .ho, .fl, .ef, .ef, .fl, .ho, .fl, .ef, .ef, .fl, .ef, .fl, .ef] [0, 1, 0, 4, 15, 0, 32, 0, 128, 511, 127, 2047, 4095, 8191] [0, 1, 2, 3, 4, 5, 6, 7, 8, 9, 10, 11, 12, 13] mixed (by kernel_rfl) rfl ?_
        obtain ⟨Wc, hWc⟩ : ∃ Wc, Wc = w5.drew := ⟨_, rfl⟩
        rw [← hWc]
        have hc0 : Ch [] w5 Wc := by rw [hWc]; exact (Ch.refl _ _).drew
        clear hWc
        replace hBB := hBB.same hc0
        have hbk := hBB.bk
        try replace hwd := hwd.ch hc0 (by simp)
        clear hc0
        refine Ord.St.fl2 (T' := ?_) 0 [1, 2, 3, 4, 5, 6, 7, 8, 9, 10, 11, 12, 13] _ _ rfl (by kernel_rfl) rfl rfl rfl rfl (fun K w' hk => ?_) ?_
        rotate_left
        · go_step; exact hk
        refine Ord.St.ho2 (T' := ?_) 1 [2, 3, 4, 5, 6, 7, 8, 9, 10, 11, 12, 13] _ _ rfl (by kernel_rfl) rfl rfl rfl rfl ?_ (fun K w' hw' hk => ?_) ?_
        rotate_left
        · exact ⟨hbk.cell rfl, hbk.cell rfl⟩
        · obtain ⟨q1, q2⟩ := hw'; go_step; exact hk
        refine Ord.St.fl2 (T' := ?_) 2 [3, 4, 5, 6, 7, 8, 9, 10, 11, 12, 13] _ _ rfl (by kernel_rfl) rfl rfl rfl rfl (fun K w' hk => ?_) ?_
        rotate_left
        · go_step; exact hk
        refine Ord.St.fl2 (T' := ?_) 5 [3, 4, 6, 7, 8, 9, 10, 11, 12, 13] _ _ rfl (by kernel_rfl) rfl rfl rfl rfl (fun K w' hk => ?_) ?_
        rotate_left
        · go_step; exact hk
        refine Ord.St.ho2 (T' := ?_) 6 [3, 4, 7, 8, 9, 10, 11, 12, 13] _ _ rfl (by kernel_rfl) rfl rfl rfl rfl ?_ (fun K w' hw' hk => ?_) ?_
        rotate_left
        · exact ⟨hbk.cell rfl, hbk.cell rfl⟩
        · obtain ⟨q1, q2⟩ := hw'; go_step; exact hk
        refine Ord.St.fl2 (T' := ?_) 7 [3, 4, 8, 9, 10, 11, 12, 13] _ _ rfl (by kernel_rfl) rfl rfl rfl rfl (fun K w' hk => ?_) ?_
        rotate_left
        · go_step; exact hk
        refine Ord.St.two 3 8 [4, 8, 9, 10, 11, 12, 13] [3, 4, 9, 10, 11, 12, 13] _ _ (by kernel_rfl) rfl rfl (by kernel_rfl) (by kernel_rfl) (fun K hK => ?_) (fun K hK => ?_)
        · go_wp2_with fail
          refine ⟨rfl, hK _ _ ?_ ?_⟩
          · exact ⟨(hbk.alloc _).cell rfl, (hbk.alloc _).cell rfl⟩
          clear hK K
          refine Ord.St.alw ?_; intro Wn hWn
          have hcn := alw_ch hWn
          have hb3 := alw_blk (xs := [.int .i64 (r' : Nat)]) hWn
          clear hWn
          try replace hb8 := hb8.ch hcn (by simp)
          try replace hwd := hwd.ch hcn (by simp)
          replace hbk := hbk.ch hcn (by simp)
          first | (replace hBB := hBB.same hcn) | (replace hc3 := hc3.trans hcn (by simp))
          clear hcn
          refine Ord.St.two 4 8 [8, 9, 10, 11, 12, 13] [4, 9, 10, 11, 12, 13] _ _ (by kernel_rfl) rfl rfl (by kernel_rfl) (by kernel_rfl) (fun K hK => ?_) (fun K hK => ?_)
          · go_wp2_with (at_builtin; go_loud (refine wpList_append_row slRefs rfl _ _ rfl (v := (.slice rb (5 + k) rcb)) (n := c.refs.length) (xs := refsCells c.refs) rfl hBB.bm.rr (ad := ⟨_, 0, none⟩) (m := 1) (c := 1) (news := [.int .i64 (r' : Nat)]) rfl rfl (news_blk hb3) (by simp [Value.oneCell']) (by omega) (by omega) ?_; intro v1 wA hr1 hcA hfA; obtain ⟨ba, rca, rfl⟩ := row.parts hr1 (by omega); have HR1 := Lib.hid hr1; clear hr1; have HFA := Lib.hid hfA; clear hfA))
            refine ⟨rfl, hK _ _ ?_ ?_⟩
            · exact ⟨(hbk.ch hcA (by simpa using hBB.tr)).cell rfl, (hbk.ch hcA (by simpa using hBB.tr)).cell rfl⟩
            clear hK K
            replace hbk := hbk.ch hcA (by simpa using hBB.tr)
            try replace hb8 := hb8.ch hcA (by simpa using hnB)
            have hc3 := Ch.refl [] wA
            refine Ord.St.fl2 (T' := ?_) 10 [8, 9, 11, 12, 13] _ _ rfl (by kernel_rfl) rfl rfl rfl rfl (fun K w' hk => ?_) ?_
            rotate_left
            · go_step; exact hk
            refine Ord.St.efC 8 [9, 11, 12, 13] _ rfl (by kernel_rfl) (fun K hK => ?_)
            go_wp2_with fail
            refine ⟨rfl, hK _ _ ?_ ?_⟩
            · exact ⟨(hbk.alloc _).cell rfl, (hbk.alloc _).cell rfl⟩
            clear hK K
            refine Ord.St.alw ?_; intro Wn hWn
            have hcn := alw_ch hWn
            have hb8 := alw_blk (xs := [.int .u64 (sw : Nat)]) hWn
            clear hWn
            have hnB := hBB.freshR
            try replace hb3 := hb3.ch hcn (by simp)
            try replace hwd := hwd.ch hcn (by simp)
            replace hbk := hbk.ch hcn (by simp)
            first | (replace hBB := hBB.same hcn) | (replace hc3 := hc3.trans hcn (by simp))
            clear hcn
            refine Ord.St.ef 9 [11, 12, 13] _ rfl (by kernel_rfl) (fun K hK => ?_)
            go_wp2_with (at_builtin; go_loud (refine wpList_append_row slWords rfl _ _ rfl (v := (.slice wb (5 + k) wcb)) (n := c.want.length) (xs := u64s c.want) rfl ((hBB.bm.ww.ch hcA (by intro k hk hin; exact (hBB.bm.wo k hk).2.2 (by simpa using hin))).ch hc3 (by simp)) (ad := ⟨_, 0, none⟩) (m := 1) (c := 1) (news := [.int .u64 (sw : Nat)]) rfl rfl (news_blk hb8) (by simp [Value.oneCell']) (by omega) (by omega) ?_; intro v2 wB hr2 hcB hfB; obtain ⟨bb, rcb, rfl⟩ := row.parts hr2 (by omega); have k1 := (hbk.ch hcB (by simpa using hBB.tw)).cell (i := 1) rfl; have k2 := (hbk.ch hcB (by simpa using hBB.tw)).cell (i := 2) rfl; have g1 := (hbk.ch hcB (by simpa using hBB.tw)).frozen (i := 1); have g2 := (hbk.ch hcB (by simpa using hBB.tw)).frozen (i := 2); have HR2 := Lib.hid hr2; clear hr2; have HFB := Lib.hid hfB; clear hfB))
            refine ⟨rfl, hK _ _ ?_⟩; clear hK K
            refine Ord.St.ef 11 [12, 13] _ rfl (by kernel_rfl) (fun K hK => ?_)
            go_wp2_with fail
            refine ⟨rfl, hK _ _ ?_⟩; clear hK K
            refine Ord.St.fl2 (T' := ?_) 12 [13] _ _ rfl (by kernel_rfl) rfl rfl rfl rfl (fun K w' hk => ?_) ?_
            rotate_left
            · go_step; exact hk
            refine Ord.St.ef 13 [] _ rfl (by kernel_rfl) (fun K hK => ?_)
            go_wp2_with fail
            refine ⟨rfl, hK _ _ ?_⟩; clear hK K
            refine Ord.St.nil ?_
            obtain ⟨hBB2, _⟩ := BB.app hBB (Ch.refl _ _) HR1.out hcA HFA.out hc3 HR2.out hcB HFB.out
            have e1 : c.refs.length + 1 = 5 + (k + 1) := by have := HRK.out; omega
            have e2 : c.want.length + 1 = 5 + (k + 1) := by have := HRK.out; have := HWK.out; omega
            change BB _ _ _ _ _ _ _ _ (⟨G', c.refs ++ [r'], c.want ++ [sw]⟩ : Bd) at hBB2
            rw [HNX.out] at hBB2
            have HE1 := Lib.hid e1; clear e1
            have HE2 := Lib.hid e2; clear e2
            have HBB2 := Lib.hid hBB2
            clear hBB2 hBB hb3 hb8 hbk k1 k2 g1 g2 hcA hcB hc3 HR1 HR2 HFA HFB
            go_wp2_with fail
            go_roundw
            case rel =>
              have hBB3 := HBB2.out
              rw [HE1.out, HE2.out] at hBB3
              rw [HE1.out, HE2.out]
              exact ⟨k + 1, by omega, by go_num, _, _, _, _, _, hBB3⟩
            case measure => simp [intOf]; omega
          · go_wp2_with fail
            refine ⟨rfl, hK _ _ ?_ ?_⟩
            · exact ⟨(hbk.alloc _).cell rfl, (hbk.alloc _).cell rfl⟩
            clear hK K
            refine Ord.St.alw ?_; intro Wn hWn
            have hcn := alw_ch hWn
            have hb8 := alw_blk (xs := [.int .u64 (sw : Nat)]) hWn
            clear hWn
            have hnB := hBB.freshR
            try replace hb3 := hb3.ch hcn (by simp)
            try replace hwd := hwd.ch hcn (by simp)
            replace hbk := hbk.ch hcn (by simp)
            first | (replace hBB := hBB.same hcn) | (replace hc3 := hc3.trans hcn (by simp))
            clear hcn
            refine Ord.St.efC 4 [9, 10, 11, 12, 13] _ rfl (by kernel_rfl) (fun K hK => ?_)
            go_wp2_with (at_builtin; go_loud (refine wpList_append_row slRefs rfl _ _ rfl (v := (.slice rb (5 + k) rcb)) (n := c.refs.length) (xs := refsCells c.refs) rfl hBB.bm.rr (ad := ⟨_, 0, none⟩) (m := 1) (c := 1) (news := [.int .i64 (r' : Nat)]) rfl rfl (news_blk hb3) (by simp [Value.oneCell']) (by omega) (by omega) ?_; intro v1 wA hr1 hcA hfA; obtain ⟨ba, rca, rfl⟩ := row.parts hr1 (by omega); have HR1 := Lib.hid hr1; clear hr1; have HFA := Lib.hid hfA; clear hfA))
            refine ⟨rfl, hK _ _ ?_ ?_⟩
            · exact ⟨(hbk.ch hcA (by simpa using hBB.tr)).cell rfl, (hbk.ch hcA (by simpa using hBB.tr)).cell rfl⟩
            clear hK K
            replace hbk := hbk.ch hcA (by simpa using hBB.tr)
            try replace hb8 := hb8.ch hcA (by simpa using hnB)
            have hc3 := Ch.refl [] wA
            refine Ord.St.fl2 (T' := ?_) 10 [9, 11, 12, 13] _ _ rfl (by kernel_rfl) rfl rfl rfl rfl (fun K w' hk => ?_) ?_
            rotate_left
            · go_step; exact hk
            refine Ord.St.ef 9 [11, 12, 13] _ rfl (by kernel_rfl) (fun K hK => ?_)
            go_wp2_with (at_builtin; go_loud (refine wpList_append_row slWords rfl _ _ rfl (v := (.slice wb (5 + k) wcb)) (n := c.want.length) (xs := u64s c.want) rfl ((hBB.bm.ww.ch hcA (by intro k hk hin; exact (hBB.bm.wo k hk).2.2 (by simpa using hin))).ch hc3 (by simp)) (ad := ⟨_, 0, none⟩) (m := 1) (c := 1) (news := [.int .u64 (sw : Nat)]) rfl rfl (news_blk hb8) (by simp [Value.oneCell']) (by omega) (by omega) ?_; intro v2 wB hr2 hcB hfB; obtain ⟨bb, rcb, rfl⟩ := row.parts hr2 (by omega); have k1 := (hbk.ch hcB (by simpa using hBB.tw)).cell (i := 1) rfl; have k2 := (hbk.ch hcB (by simpa using hBB.tw)).cell (i := 2) rfl; have g1 := (hbk.ch hcB (by simpa using hBB.tw)).frozen (i := 1); have g2 := (hbk.ch hcB (by simpa using hBB.tw)).frozen (i := 2); have HR2 := Lib.hid hr2; clear hr2; have HFB := Lib.hid hfB; clear hfB))
            refine ⟨rfl, hK _ _ ?_⟩; clear hK K
            refine Ord.St.ef 11 [12, 13] _ rfl (by kernel_rfl) (fun K hK => ?_)
            go_wp2_with fail
            refine ⟨rfl, hK _ _ ?_⟩; clear hK K
            refine Ord.St.fl2 (T' := ?_) 12 [13] _ _ rfl (by kernel_rfl) rfl rfl rfl rfl (fun K w' hk => ?_) ?_
            rotate_left
            · go_step; exact hk
            refine Ord.St.ef 13 [] _ rfl (by kernel_rfl) (fun K hK => ?_)
            go_wp2_with fail
            refine ⟨rfl, hK _ _ ?_⟩; clear hK K
            refine Ord.St.nil ?_
            obtain ⟨hBB2, _⟩ := BB.app hBB (Ch.refl _ _) HR1.out hcA HFA.out hc3 HR2.out hcB HFB.out
            have e1 : c.refs.length + 1 = 5 + (k + 1) := by have := HRK.out; omega
            have e2 : c.want.length + 1 = 5 + (k + 1) := by have := HRK.out; have := HWK.out; omega
            change BB _ _ _ _ _ _ _ _ (⟨G', c.refs ++ [r'], c.want ++ [sw]⟩ : Bd) at hBB2
            rw [HNX.out] at hBB2
            have HE1 := Lib.hid e1; clear e1
            have HE2 := Lib.hid e2; clear e2
            have HBB2 := Lib.hid hBB2
            clear hBB2 hBB hb3 hb8 hbk k1 k2 g1 g2 hcA hcB hc3 HR1 HR2 HFA HFB
            go_wp2_with fail
            go_roundw
            case rel =>
              have hBB3 := HBB2.out
              rw [HE1.out, HE2.out] at hBB3
              rw [HE1.out, HE2.out]
              exact ⟨k + 1, by omega, by go_num, _, _, _, _, _, hBB3⟩
            case measure => simp [intOf]; omega
        · go_wp2_with fail
          refine ⟨rfl, hK _ _ ?_ ?_⟩
          · exact ⟨(hbk.alloc _).cell rfl, (hbk.alloc _).cell rfl⟩
          clear hK K
          refine Ord.St.alw ?_; intro Wn hWn
          have hcn := alw_ch hWn
          have hb8 := alw_blk (xs := [.int .u64 (sw : Nat)]) hWn
          clear hWn
          have hnB := hBB.freshR
          try replace hb3 := hb3.ch hcn (by simp)
          try replace hwd := hwd.ch hcn (by simp)
          replace hbk := hbk.ch hcn (by simp)
          first | (replace hBB := hBB.same hcn) | (replace hc3 := hc3.trans hcn (by simp))
          clear hcn
          refine Ord.St.efC 3 [4, 9, 10, 11, 12, 13] _ rfl (by kernel_rfl) (fun K hK => ?_)
          go_wp2_with fail
          refine ⟨rfl, hK _ _ ?_ ?_⟩
          · exact ⟨(hbk.alloc _).cell rfl, (hbk.alloc _).cell rfl⟩
          clear hK K
          refine Ord.St.alw ?_; intro Wn hWn
          have hcn := alw_ch hWn
          have hb3 := alw_blk (xs := [.int .i64 (r' : Nat)]) hWn
          clear hWn
          try replace hb8 := hb8.ch hcn (by simp)
          try replace hwd := hwd.ch hcn (by simp)
          replace hbk := hbk.ch hcn (by simp)
          first | (replace hBB := hBB.same hcn) | (replace hc3 := hc3.trans hcn (by simp))
          clear hcn
          refine Ord.St.efC 4 [9, 10, 11, 12, 13] _ rfl (by kernel_rfl) (fun K hK => ?_)
          go_wp2_with (at_builtin; go_loud (refine wpList_append_row slRefs rfl _ _ rfl (v := (.slice rb (5 + k) rcb)) (n := c.refs.length) (xs := refsCells c.refs) rfl hBB.bm.rr (ad := ⟨_, 0, none⟩) (m := 1) (c := 1) (news := [.int .i64 (r' : Nat)]) rfl rfl (news_blk hb3) (by simp [Value.oneCell']) (by omega) (by omega) ?_; intro v1 wA hr1 hcA hfA; obtain ⟨ba, rca, rfl⟩ := row.parts hr1 (by omega); have HR1 := Lib.hid hr1; clear hr1; have HFA := Lib.hid hfA; clear hfA))
          refine ⟨rfl, hK _ _ ?_ ?_⟩
          · exact ⟨(hbk.ch hcA (by simpa using hBB.tr)).cell rfl, (hbk.ch hcA (by simpa using hBB.tr)).cell rfl⟩
          clear hK K
          replace hbk := hbk.ch hcA (by simpa using hBB.tr)
          try replace hb8 := hb8.ch hcA (by simpa using hnB)
          have hc3 := Ch.refl [] wA
          refine Ord.St.fl2 (T' := ?_) 10 [9, 11, 12, 13] _ _ rfl (by kernel_rfl) rfl rfl rfl rfl (fun K w' hk => ?_) ?_
          rotate_left
          · go_step; exact hk
          refine Ord.St.ef 9 [11, 12, 13] _ rfl (by kernel_rfl) (fun K hK => ?_)
          go_wp2_with (at_builtin; go_loud (refine wpList_append_row slWords rfl _ _ rfl (v := (.slice wb (5 + k) wcb)) (n := c.want.length) (xs := u64s c.want) rfl ((hBB.bm.ww.ch hcA (by intro k hk hin; exact (hBB.bm.wo k hk).2.2 (by simpa using hin))).ch hc3 (by simp)) (ad := ⟨_, 0, none⟩) (m := 1) (c := 1) (news := [.int .u64 (sw : Nat)]) rfl rfl (news_blk hb8) (by simp [Value.oneCell']) (by omega) (by omega) ?_; intro v2 wB hr2 hcB hfB; obtain ⟨bb, rcb, rfl⟩ := row.parts hr2 (by omega); have k1 := (hbk.ch hcB (by simpa using hBB.tw)).cell (i := 1) rfl; have k2 := (hbk.ch hcB (by simpa using hBB.tw)).cell (i := 2) rfl; have g1 := (hbk.ch hcB (by simpa using hBB.tw)).frozen (i := 1); have g2 := (hbk.ch hcB (by simpa using hBB.tw)).frozen (i := 2); have HR2 := Lib.hid hr2; clear hr2; have HFB := Lib.hid hfB; clear hfB))
          refine ⟨rfl, hK _ _ ?_⟩; clear hK K
          refine Ord.St.ef 11 [12, 13] _ rfl (by kernel_rfl) (fun K hK => ?_)
          go_wp2_with fail
          refine ⟨rfl, hK _ _ ?_⟩; clear hK K
          refine Ord.St.fl2 (T' := ?_) 12 [13] _ _ rfl (by kernel_rfl) rfl rfl rfl rfl (fun K w' hk => ?_) ?_
          rotate_left
          · go_step; exact hk
          refine Ord.St.ef 13 [] _ rfl (by kernel_rfl) (fun K hK => ?_)
          go_wp2_with fail
          refine ⟨rfl, hK _ _ ?_⟩; clear hK K
          refine Ord.St.nil ?_
          obtain ⟨hBB2, _⟩ := BB.app hBB (Ch.refl _ _) HR1.out hcA HFA.out hc3 HR2.out hcB HFB.out
          have e1 : c.refs.length + 1 = 5 + (k + 1) := by have := HRK.out; omega
          have e2 : c.want.length + 1 = 5 + (k + 1) := by have := HRK.out; have := HWK.out; omega
          change BB _ _ _ _ _ _ _ _ (⟨G', c.refs ++ [r'], c.want ++ [sw]⟩ : Bd) at hBB2
          rw [HNX.out] at hBB2
          have HE1 := Lib.hid e1; clear e1
          have HE2 := Lib.hid e2; clear e2
          have HBB2 := Lib.hid hBB2
          clear hBB2 hBB hb3 hb8 hbk k1 k2 g1 g2 hcA hcB hc3 HR1 HR2 HFA HFB
          go_wp2_with fail
          go_roundw
          case rel =>
            have hBB3 := HBB2.out
            rw [HE1.out, HE2.out] at hBB3
            rw [HE1.out, HE2.out]
            exact ⟨k + 1, by omega, by go_num, _, _, _, _, _, hBB3⟩
          case measure => simp [intOf]; omega
      · obtain ⟨eG, e2⟩ := Prod.mk.inj he
        obtain ⟨er, ee⟩ := Prod.mk.inj e2
        subst er; subst ee; subst eG
        clear e2 he HGOT HNX HSL HW
        go_wp2_with fail
        refine HL5.out.mono ?_
        rintro e w' ⟨rfl, rfl⟩
        clear HL5
        go_wp2_with fail
        go_loopw [97] (fun i wq => ∃ j : Nat, j ≤ 5 + k ∧ i = .int .i64 j ∧ ∃ F, BB [] W1 wq tb g F (.slice rb (5 + k) rcb) (.slice wb (5 + k) wcb) ⟨less c.G p, c.refs, c.want⟩) (fun i _ => 5 + k - (intOf i).toNat)
        case atStart => exact ⟨0, by omega, rfl, _, HBB5.out⟩
        case round =>
          clear HBB5 v0 v1 v2
          obtain ⟨j, hj, rfl, F3, hBB⟩ := hrel
          by_cases hlt2 : j < 5 + k
          · obtain ⟨rj, hrj⟩ : ∃ rj, c.refs[j]? = some rj := ⟨_, List.getElem?_eq_getElem (by omega)⟩
            have hrl := HCN.out.refs rj (List.mem_of_getElem? hrj)
            have hsame := doAll_same hBB.bm.own.gin.ok (r := rj) hrl
            obtain ⟨c1, c2, rbb, rfl⟩ := hBB.capR (by show 0 < c.refs.length; omega)
            have hAq : Ch [] wr (wr.drew.alloc (.cells #[.int .i64 rj, .int .i64 1, .int .i64 rj] 33)) := ((Ch.refl _ _).drew).alloc _
            have hBA := hBB.same hAq
            have hsl : Sl (wr.drew.alloc (.cells #[.int .i64 rj, .int .i64 1, .int .i64 rj] 33)) (some ⟨wr.heap.size, 0, none⟩) [(rj : Int), 1, (rj : Int)] := Sl.new3 wr.drew rj 1 rj
            have hnf : wr.heap.size ∉ F3 := fun hF => by have := hBB.bm.own.gin.lt _ hF; omega
            have hAL := All_g hBA.bm.own.gin 3 3 rfl hsl (fun y hy => by simp at hy; rcases hy with rfl | rfl | rfl <;> omega) (fun q hq => by cases hq; exact ⟨by simp, hnf⟩)
            rw [hsame] at hAL
            obtain ⟨gb, go, hge, gc⟩ := (row.sv hBB.bm.rr rfl (by show c.refs.length ≤ _; omega)).cells j (.int .i64 rj) (by simp [refsCells, hrj])
            cases hge
            rw [Nat.zero_add] at gc
            have e4 : (j : Int) < 5 + (k : Int) := by omega
            have ⟨x0, x1, x2⟩ := blk3 hBB.bk
            have HAL := Lib.hid hAL; clear hAL
            have HBA := Lib.hid hBA; clear hBA
            have HRJ := Lib.hid hrj; clear hrj
            clear hsl hAq hBB hsame hnf hrk hwk c1
            go_wp2_with fail
            refine Ord.St.door (fun w' => w'.cell? ⟨tb, 0, none⟩ = some (.pointer (some ⟨g, 0, none⟩))) [.fl, .ho, .fl, .rd, .fl, .fl, .rd, .fl, .rd, .fl, .fl, .rd, .ef, .ef, .fl, .fl, .fl, .fl, .fl] [0, 1, 0, 4, 0, 28, 60, 0, 128, 0, 896, 1920, 4092, 8191, 16383, 32767, 32767, 65535, 262143] [0, 1, 2, 3, 4, 5, 6, 7, 8, 9, 10, 11, 12, 13, 14, 15, 16, 17, 18] mixed (by kernel_rfl) rfl ?_
            refine Ord.St.fl2 (T' := ?_) 0 [1, 2, 3, 4, 5, 6, 7, 8, 9, 10, 11, 12, 13, 14, 15, 16, 17, 18] _ _ rfl (by kernel_rfl) rfl rfl rfl rfl (fun K w' hk => ?_) ?_
            rotate_left
            · go_step; exact hk
            refine Ord.St.ho2 (T' := ?_) 1 [2, 3, 4, 5, 6, 7, 8, 9, 10, 11, 12, 13, 14, 15, 16, 17, 18] _ _ rfl (by kernel_rfl) rfl rfl rfl rfl ?_ (fun K w' hw' hk => ?_) ?_
            rotate_left
            · exact x0
            · skip; go_step; exact hk
            refine Ord.St.fl2 (T' := ?_) 2 [3, 4, 5, 6, 7, 8, 9, 10, 11, 12, 13, 14, 15, 16, 17, 18] _ _ rfl (by kernel_rfl) rfl rfl rfl rfl (fun K w' hk => ?_) ?_
            rotate_left
            · go_step; exact hk
            refine Ord.St.rd2 (T' := ?_) 3 [4, 5, 6, 7, 8, 9, 10, 11, 12, 13, 14, 15, 16, 17, 18] _ _ rfl (by kernel_rfl) rfl rfl rfl rfl (fun K hk => ?_) ?_
            rotate_left
            · go_step; exact hk
            refine Ord.St.fl2 (T' := ?_) 4 [5, 6, 7, 8, 9, 10, 11, 12, 13, 14, 15, 16, 17, 18] _ _ rfl (by kernel_rfl) rfl rfl rfl rfl (fun K w' hk => ?_) ?_
            rotate_left
            · go_step; exact hk
            refine Ord.St.fl2 (T' := ?_) 5 [6, 7, 8, 9, 10, 11, 12, 13, 14, 15, 16, 17, 18] _ _ rfl (by kernel_rfl) rfl rfl rfl rfl (fun K w' hk => ?_) ?_
            rotate_left
            · go_step; exact hk
            refine Ord.St.rd2 (T' := ?_) 6 [7, 8, 9, 10, 11, 12, 13, 14, 15, 16, 17, 18] _ _ rfl (by kernel_rfl) rfl rfl rfl rfl (fun K hk => ?_) ?_
            rotate_left
            · go_step; exact hk
            refine Ord.St.fl2 (T' := ?_) 7 [8, 9, 10, 11, 12, 13, 14, 15, 16, 17, 18] _ _ rfl (by kernel_rfl) rfl rfl rfl rfl (fun K w' hk => ?_) ?_
            rotate_left
            · go_step; exact hk
            refine Ord.St.rd2 (T' := ?_) 8 [9, 10, 11, 12, 13, 14, 15, 16, 17, 18] _ _ rfl (by kernel_rfl) rfl rfl rfl rfl (fun K hk => ?_) ?_
            rotate_left
            · go_step; exact hk
            refine Ord.St.fl2 (T' := ?_) 9 [10, 11, 12, 13, 14, 15, 16, 17, 18] _ _ rfl (by kernel_rfl) rfl rfl rfl rfl (fun K w' hk => ?_) ?_
            rotate_left
            · go_step; exact hk
            refine Ord.St.fl2 (T' := ?_) 10 [11, 12, 13, 14, 15, 16, 17, 18] _ _ rfl (by kernel_rfl) rfl rfl rfl rfl (fun K w' hk => ?_) ?_
            rotate_left
            · go_step; exact hk
            refine Ord.St.rd2 (T' := ?_) 11 [12, 13, 14, 15, 16, 17, 18] _ _ rfl (by kernel_rfl) rfl rfl rfl rfl (fun K hk => ?_) ?_
            rotate_left
            · go_step; exact hk
            refine Ord.St.efC 12 [13, 14, 15, 16, 17, 18] _ rfl (by kernel_rfl) (fun K hK => ?_)
            go_wp2_with fail
            refine ⟨rfl, hK _ _ ?_ ?_⟩
            · exact cell_al x0 _
            clear hK K
            refine Ord.St.ef 13 [14, 15, 16, 17, 18] _ rfl (by kernel_rfl) (fun K hK => ?_)
            go_wp2_with fail
            refine HAL.out.mono ?_
            rintro e w7 ⟨rfl, hto⟩
            obtain ⟨F4, hBB7, _⟩ := HBA.out.to hto
            have ⟨z0, z1, z2⟩ := blk3 hBB7.bk
            obtain ⟨gb, go, hge, gc7⟩ := (row.sv hBB7.bm.rr rfl (by show c.refs.length ≤ _; omega)).cells j (.int .i64 rj) (by simp [refsCells, HRJ.out])
            cases hge
            rw [Nat.zero_add] at gc7
            have HBB7 := Lib.hid hBB7; clear hBB7 hto HAL HBA x0 x1 x2 gc
            go_wp2_with fail
            refine ⟨rfl, hK _ _ ?_⟩; clear hK K
            refine Ord.St.fl2 (T' := ?_) 14 [15, 16, 17, 18] _ _ rfl (by kernel_rfl) rfl rfl rfl rfl (fun K w' hk => ?_) ?_
            rotate_left
            · go_step; exact hk
            refine Ord.St.fl2 (T' := ?_) 15 [16, 17, 18] _ _ rfl (by kernel_rfl) rfl rfl rfl rfl (fun K w' hk => ?_) ?_
            rotate_left
            · go_step; exact hk
            refine Ord.St.fl2 (T' := ?_) 16 [17, 18] _ _ rfl (by kernel_rfl) rfl rfl rfl rfl (fun K w' hk => ?_) ?_
            rotate_left
            · go_step; exact hk
            refine Ord.St.fl2 (T' := ?_) 17 [18] _ _ rfl (by kernel_rfl) rfl rfl rfl rfl (fun K w' hk => ?_) ?_
            rotate_left
            · go_step; exact hk
            refine Ord.St.fl2 (T' := ?_) 18 [] _ _ rfl (by kernel_rfl) rfl rfl rfl rfl (fun K w' hk => ?_) ?_
            rotate_left
            · go_step; exact hk
            refine Ord.St.nil ?_
            go_wp2_with fail
            go_roundw
            case rel => exact ⟨j + 1, by omega, by go_num, _, HBB7.out⟩
            case measure => simp [intOf]; omega
          · have HC := Lib.hid (HW1.out.trans hBB.bm.own.ch (by simp))
            clear hBB hrk hwk
            go_wp2_with fail
            go_ret
            exact ⟨rfl, HC.out⟩
    · have hkm : k = m := by omega
      have hBB' : BB [] W1 wr tb g F (.slice rb (5 + k) rcb) (.slice wb (5 + k) wcb) ⟨less b.G p, b.refs, b.want⟩ := by
        have e : runTo l k = b := by rw [hkm]; exact HALL.out
        rw [← e]; exact hBB
      clear hkm hBB
      have hA5 := HA.out.same hBB'.bm.own.ch
      have ⟨x0, x1, x2⟩ := blk3 hBB'.bk
      have ⟨y0, y1, y2⟩ := blk3 hA5.bk
      have hLb : Calls Try.prog 16 #[.pointer (some ⟨g, 0, none⟩)] wr.drew fun e w' => e = .returned (.int .i64 b.G.nodes.length) ∧ wr.drew = w' := Len_g (G := less b.G p) (hBB'.same (Ch.refl _ _).drew).bm.own.gin
      have hLa := Len_g (hA5.same (Ch.refl _ _).drew).bm.own.gin
      have HC := Lib.hid (HW1.out.trans hBB'.bm.own.ch (by simp)).drew
      have HLB := Lib.hid hLb; clear hLb
      have HLA := Lib.hid hLa; clear hLa
      clear hBB' hA5
      go_wp2_with fail
      refine Ord.St.door (fun _ => True) [.fl, .rd, .rd, .fl, .rd, .rd, .fl, .fl] [0, 1, 3, 0, 8, 31, 63, 127] [0, 1, 2, 3, 4, 5, 6, 7] mixed (by kernel_rfl) rfl ?_
      refine Ord.St.fl2 (T' := ?_) 0 [1, 2, 3, 4, 5, 6, 7] _ _ rfl (by kernel_rfl) rfl rfl rfl rfl (fun K w' hk => ?_) ?_
      rotate_left
      · go_step; exact hk
      refine Ord.St.rd2 (T' := ?_) 1 [2, 3, 4, 5, 6, 7] _ _ rfl (by kernel_rfl) rfl rfl rfl rfl (fun K hk => ?_) ?_
      rotate_left
      · go_step; exact hk
      refine Ord.St.rd2 (T' := ?_) 2 [3, 4, 5, 6, 7] _ _ rfl (by kernel_rfl) rfl rfl rfl rfl (fun K hk => ?_) ?_
      rotate_left
      · go_step; refine HLB.out.mono ?_; rintro e w' ⟨rfl, rfl⟩; exact hk
      refine Ord.St.fl2 (T' := ?_) 3 [4, 5, 6, 7] _ _ rfl (by kernel_rfl) rfl rfl rfl rfl (fun K w' hk => ?_) ?_
      rotate_left
      · go_step; exact hk
      refine Ord.St.rd2 (T' := ?_) 4 [5, 6, 7] _ _ rfl (by kernel_rfl) rfl rfl rfl rfl (fun K hk => ?_) ?_
      rotate_left
      · go_step; exact hk
      refine Ord.St.rd2 (T' := ?_) 5 [6, 7] _ _ rfl (by kernel_rfl) rfl rfl rfl rfl (fun K hk => ?_) ?_
      rotate_left
      · go_step; refine HLA.out.mono ?_; rintro e w' ⟨rfl, rfl⟩; exact hk
      refine Ord.St.fl2 (T' := ?_) 6 [7] _ _ rfl (by kernel_rfl) rfl rfl rfl rfl (fun K w' hk => ?_) ?_
      rotate_left
      · go_step; exact hk
      refine Ord.St.fl2 (T' := ?_) 7 [] _ _ rfl (by kernel_rfl) rfl rfl rfl rfl (fun K w' hk => ?_) ?_
      rotate_left
      · go_step; exact hk
      refine Ord.St.nil ?_
      go_wp2_with fail
      go_ret
      exact ⟨rfl, HC.out⟩
end
end Go.Proofs.Ytnajonchjlplmaa
