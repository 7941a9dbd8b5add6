/-
  Walk over ShiftsWrong: true, whatever comes in. Conditions: none.
-/
import Derived.Test.YtchledddgmbndaaQE
import Derived.Test.YtchledddgmbndaaQD
namespace Go.Aig
/-- without room nothing can be shifted by a word of inputs -/
def fullB (n m : Nat) : Bool := decide (byG (gIn (n + m + 1) (n + m)) 1 (natInts (rIn 0 n)) (natInts (rIn n m)) = (gIn (n + m + 1) (n + m), [], 201))
set_option maxRecDepth 100000 in
theorem full_all : (List.range 9).all (fun n => (List.range 5).all fun m => fullB (n + 1) (m + 1)) = true := by decide +kernel
theorem full_facts {n m : Nat} (h1 : 1 ≤ n) (h9 : n ≤ 9) (h2 : 1 ≤ m) (h5 : m ≤ 5) : byG (gIn (n + m + 1) (n + m)) 1 (natInts (rIn 0 n)) (natInts (rIn n m)) = (gIn (n + m + 1) (n + m), [], 201) := by
  have h := List.all_eq_true.1 full_all (n - 1) (List.mem_range.2 (by omega))
  have h := List.all_eq_true.1 h (m - 1) (List.mem_range.2 (by omega))
  rw [show n - 1 + 1 = n by omega, show m - 1 + 1 = m by omega] at h
  exact of_decide_eq_true h
theorem chkBy_s {G : Gra} {side : Nat} {x y : List Int} (h : side ≠ 1 ∧ side ≠ 2) : chkBy G side x y = 251 := by unfold chkBy; rw [if_pos h]
theorem chkBy_w {G : Gra} {side : Nat} {x y : List Int} (hs : side = 1 ∨ side = 2) (h : rightB x.length = false ∨ rightB y.length = false) : chkBy G side x y = 250 := by unfold chkBy; rw [if_neg (by omega), if_pos h]
theorem chkBy_r {G : Gra} {side : Nat} {x y : List Int} (hs : side = 1 ∨ side = 2) (h1 : rightB x.length = true) (h2 : rightB y.length = true) (h : badIn G x = true ∨ badIn G y = true) : chkBy G side x y = 200 := by unfold chkBy; rw [if_neg (by omega), if_neg (by rw [h1, h2]; simp), if_pos h]
theorem badIn_app {G : Gra} {x : List Int} {r : Int} (hr : right G.nodes r = false) : badIn G (x ++ [r]) = true := by
  unfold badIn
  rw [List.any_eq_true]
  exact ⟨r, by simp, by simp [hr]⟩
end Go.Aig
namespace Go.Proofs.Ytchledddgmbndaa
open Go.RowKit Go.Mem Go.Aig
theorem max_u8 (z q : Int) (ats : Array TypeId) (ty : TypeId) : Builtin.max_ ats ty #[.int .u8 z, .int .u8 q] = pure (.int .u8 (max z q)) := by
  have e : (if z < q then q else z) = max z q := by split <;> omega
  rw [← e]
  simp [Builtin.max_, Builtin.max2]
theorem make_refsL (w : World) (n : Nat) (hn : n ≤ 1000000) (q : Int) (hq : q = n) (l : List Int) (hl : l = List.replicate n 0) : (Instr.makeSlice 29 (.int .i64 q) (.int .i64 q)).run Try.prog w = .ok (.slice (some ⟨w.heap.size, 0, none⟩) n n) (w.alloc (.cells (intCells l).toArray 34)) := by
  subst hl hq
  have e : intCells (List.replicate n 0) = refsCells (List.replicate n 0) := by simp [intCells, refsCells]
  rw [e]
  exact run_make_refs w n hn
section
variable {w0 : Base} {w : World} {g : Nat} {G : Gra} {F : List Nat} {L : List (Value × List Int)}
theorem Shl_no (h : Hold w0 w g G F L) {xa ya : Option Addr} {xl yl : List Int} {n m xc yc : Nat} (hx : (.slice xa n xc, xl) ∈ L) (hxn : xl.length = n) (hy : (.slice ya m yc, yl) ∈ L) (hym : yl.length = m) {e : Nat} (he : chkBy G 1 xl yl = e) (h0 : e ≠ 0) :
    Calls Try.prog 41 #[.pointer (some ⟨g, 0, none⟩), .slice xa n xc, .slice ya m yc] w fun en w' => ∃ a c F', en = .returned (.tuple #[.slice a 0 c, .int .i64 e]) ∧ Hold w0 w' g G F' L := wno (Shl_h h hx hxn hy hym (byG_bad he h0) rfl (by simp) (by omega))
theorem Shr_no (h : Hold w0 w g G F L) {xa ya : Option Addr} {xl yl : List Int} {n m xc yc : Nat} (hx : (.slice xa n xc, xl) ∈ L) (hxn : xl.length = n) (hy : (.slice ya m yc, yl) ∈ L) (hym : yl.length = m) {e : Nat} (he : chkBy G 2 xl yl = e) (h0 : e ≠ 0) :
    Calls Try.prog 42 #[.pointer (some ⟨g, 0, none⟩), .slice xa n xc, .slice ya m yc] w fun en w' => ∃ a c F', en = .returned (.tuple #[.slice a 0 c, .int .i64 e]) ∧ Hold w0 w' g G F' L := wno (Shr_h h hx hxn hy hym (byG_bad he h0) rfl (by simp) (by omega))
theorem By_no (h : Hold w0 w g G F L) (side : Nat) {xa ya : Option Addr} {xl yl : List Int} {n m xc yc : Nat} (hx : (.slice xa n xc, xl) ∈ L) (hxn : xl.length = n) (hy : (.slice ya m yc, yl) ∈ L) (hym : yl.length = m) {e : Nat} (he : chkBy G side xl yl = e) (h0 : e ≠ 0) :
    Calls Try.prog 40 #[.pointer (some ⟨g, 0, none⟩), .int .u8 side, .slice xa n xc, .slice ya m yc] w fun en w' => ∃ a c F', en = .returned (.tuple #[.slice a 0 c, .int .i64 e]) ∧ Hold w0 w' g G F' L := wno (By_h h side hx hxn hy hym (byG_bad he h0) rfl (by simp) (by omega))
theorem Fixed_no (h : Hold w0 w g G F L) (side : Nat) {xa : Option Addr} {xl : List Int} {n xc : Nat} (hx : (.slice xa n xc, xl) ∈ L) (hxn : xl.length = n) (z : Int) {e : Nat} (hE : fixE side xl z = e) (h0 : e ≠ 0) :
    Calls Try.prog 39 #[.int .u8 side, .slice xa n xc, .int .i64 z] w fun en w' => ∃ a c F', en = .returned (.tuple #[.slice a 0 c, .int .i64 e]) ∧ Hold w0 w' g G F' L := by
  refine (Fixed_h h side hx hxn z hE (if_neg h0) rfl).mono ?_
  rintro en w' ⟨a, c, rfl, hh⟩
  exact ⟨a, c, F, rfl, hh.tail⟩
theorem Steps_e (n m : Int) (h : (rightB n && rightB m) = false) : Calls Try.prog 44 #[.int .i64 n, .int .i64 m] w fun e w' => e = .returned (.tuple #[.int .i64 (0 : Nat), .int .i64 (250 : Nat)]) ∧ w = w' := by
  have hc := Steps_is (w := w) n m
  rw [h] at hc
  exact hc
theorem Room_h (h : Hold w0 w g G F L) {n : Nat} (hn : G.most - G.nodes.length = n) : Calls Try.prog 45 #[.pointer (some ⟨g, 0, none⟩)] w fun e w' => e = .returned (.int .i64 n) ∧ Hold w0 w' g G F L := by
  subst hn
  exact (Room_g h.own.gin).mono fun e w' ⟨h1, h2⟩ => ⟨h1, h.same h2⟩
end
set_option maxRecDepth 100000 in
set_option maxHeartbeats 8000000 in
theorem ShiftsWrong_walk {w : World} (wd : Nat) (hw : wd ≤ 255) (vd : Nat) (hv : vd ≤ 255) (z : Int) (hz : (Lit.int .i64 z).wf = true) : Calls Try.prog 8 #[.int .u8 wd, .int .u8 vd, .int .i64 z] w fun e w' => e = .returned (.bool true) ∧ Ch [] w w' := by
  have HP := fun W => two25_is W wd vd hw hv
  obtain ⟨n, hn, hn1, hn9⟩ : ∃ n, wd % 9 + 1 = n ∧ 1 ≤ n ∧ n ≤ 9 := ⟨_, rfl, by omega, by omega⟩
  obtain ⟨m, hm, hm1, hm5⟩ : ∃ m, vd % 5 + 1 = m ∧ 1 ≤ m ∧ m ≤ 5 := ⟨_, rfl, by omega, by omega⟩
  rw [hn, hm] at HP
  obtain ⟨X, hX⟩ : ∃ X, X = natInts (rIn 0 n) := ⟨_, rfl⟩
  obtain ⟨Y, hY⟩ : ∃ Y, Y = natInts (rIn n m) := ⟨_, rfl⟩
  have hff := full_facts hn1 hn9 hm1 hm5
  rw [← hX, ← hY] at HP hff
  have hXn : X.length = n := by rw [hX]; simp
  have hYn : Y.length = m := by rw [hY]; simp
  have hXb : ∀ r ∈ X, -9223372036854775808 ≤ r ∧ r ≤ 9223372036854775807 := fun r hr => by
    rw [hX] at hr
    obtain ⟨q, hq, rfl⟩ := List.mem_map.1 hr
    have := rIn_le hq; omega
  have hYb : ∀ r ∈ Y, -9223372036854775808 ≤ r ∧ r ≤ 9223372036854775807 := fun r hr => by
    rw [hY] at hr
    obtain ⟨q, hq, rfl⟩ := List.mem_map.1 hr
    have := rIn_le hq; omega
  clear hn hm
  have HA := fun W => awake25_is W
  have hz2 : -9223372036854775808 ≤ z ∧ z ≤ 9223372036854775807 := wf_i64 hz
  clear hz
  have HXB := Lib.hid hXb; clear hXb
  have HYB := Lib.hid hYb; clear hYb
  have HXN := Lib.hid hXn; clear hXn
  have HYN := Lib.hid hYn; clear hYn
  have HFF := Lib.hid hff; clear hff
  have HXE := Lib.hid hX; clear hX
  have HYE := Lib.hid hY; clear hY
  obtain ⟨lg, hlg⟩ : ∃ lg : List Int, lg = List.replicate 17 0 := ⟨_, rfl⟩
  have hlgn : lg.length = 17 := by rw [hlg]; rfl
  have hlg0 : ∀ r ∈ lg, r = 0 := fun r hr => by rw [hlg] at hr; exact (List.mem_replicate.1 hr).2
  have hmk := fun W => make_refsL W 17 (by omega) 17 rfl lg hlg
  have HLG := Lib.hid hlg; clear hlg
  have HLGN := Lib.hid hlgn; clear hlgn
  have HLG0 := Lib.hid hlg0; clear hlg0
  have HMK := Lib.hid hmk; clear hmk
  go_enter Try.func8, Try.ntmps8
  go_wp2_with fail
  refine (HA _).mono ?_
  rintro e w1 ⟨rfl, hc1⟩
  have HC1 := Lib.hid hc1; clear hc1
  go_wp2_with fail
  refine (HP _).mono ?_
  rintro e w2 ⟨g, F2, xa, xc, ya, yc, rfl, ho⟩
  have HO := Lib.hid ho; clear ho HP
  go_wp2_with fail
  refine (Len_h HO.out (n := n + m + 1) (by simp [gIn])).mono ?_
  rintro e w3 ⟨rfl, ho⟩
  clear HO; have HO := Lib.hid ho; clear ho
  have hmk := HMK.out w3
  go_wp2_with fail
  have ho := HO.out.fresh HLGN.out (fun r hr => by rw [HLG0.out r hr]; omega) (by omega)
  clear HO hmk; have HO := Lib.hid ho; clear ho
  generalize hw4 : w3.alloc (.cells (intCells lg).toArray 34) = w4 at HO ⊢
  generalize w3.heap.size = lb at HO ⊢
  clear hw4
  obtain ⟨zb, hzb⟩ : ∃ zb : Int, zb = max z (2 * ((n : Int) + m + 1)) := ⟨_, rfl⟩
  have hmx := max_ii z (2 * ((n : Int) + m + 1))
  rw [← hzb] at hmx
  have HZB := Lib.hid hzb; clear hzb
  have hC := Clref_w (HO.out.at (a := ya) (c := yc) (n := m) (l := Y) (by simp) HYN.out).ok m HYN.out
  have HC := Lib.hid hC; clear hC
  go_wp2_with fail
  refine HC.out.mono ?_
  rintro e w5 ⟨v, rfl, hwn⟩
  have hcl : (intCells Y).length = m := by simp [intCells, HYN.out]
  obtain ⟨bbp, bcp, hv⟩ := row.parts hwn.1 (by rw [hcl]; omega)
  rw [hcl] at hv
  subst hv
  have hro := hwn.1.ch (F := []) ((Ch.refl [] _).alloc (.cells #[.int .i64 zb] 34)) (by simp)
  rw [hcl] at hro
  have HRO := Lib.hid hro; clear hro
  have HWN := Lib.hid hwn; clear hwn HC hcl
  go_wp2_with (at_builtin; go_loud (refine wpList_append_row slRefs rfl _ _ rfl (v := .slice (some ⟨bbp, 0, none⟩) m bcp) (n := m) (xs := intCells Y) rfl HRO.out (ad := ⟨w5.heap.size, 0, none⟩) (m := 1) (c := 1) (news := [.int .i64 zb]) rfl rfl (news_blk (blk.new' _ _ rfl)) (by simp [Value.oneCell']) (by omega) (by omega) ?_; intro v' wq hown4 hC4 hf4; have HWA := Lib.hid (HWN.out.app ((Ch.refl [] _).alloc _) HYN.out hown4 hC4 hf4); obtain ⟨bb, bc, rfl⟩ := row.parts hown4 (by omega); have HO4 := Lib.hid hown4; clear hown4; have HC4 := Lib.hid hC4; clear hC4; have HF4 := Lib.hid hf4; clear hf4))
  have hap := HO.out.new (HWN.out.app ((Ch.refl [] _).alloc _) HYN.out HO4.out HC4.out HF4.out) (bd_app HYB.out (by have := HZB.out; omega)) (by simp [HYN.out]; omega)
  simp only [List.length_append, HYN.out, List.length_cons, List.length_nil] at hap
  obtain ⟨ap, cp, hap1, ho⟩ := hap
  cases hap1
  clear HO HWN HO4 HC4 HF4 HRO hmx; have HO := Lib.hid ho; clear ho
  obtain ⟨zl, hzl⟩ : ∃ zl : Int, zl = min z (-1) := ⟨_, rfl⟩
  have hmn := min_ii z (-1)
  rw [← hzl] at hmn
  have HZL := Lib.hid hzl; clear hzl
  have hC := Clref_w (HO.out.at (a := xa) (c := xc) (n := n) (l := X) (by simp) HXN.out).ok n HXN.out
  have HC := Lib.hid hC; clear hC
  go_wp2_with fail
  refine HC.out.mono ?_
  rintro e w7 ⟨v, rfl, hwn⟩
  have hcl : (intCells X).length = n := by simp [intCells, HXN.out]
  obtain ⟨eb, ec, hv⟩ := row.parts hwn.1 (by rw [hcl]; omega)
  rw [hcl] at hv
  subst hv
  obtain ⟨r0, hr0⟩ : ∃ r0, X[0]? = some r0 := ⟨_, List.getElem?_eq_getElem (by rw [HXN.out]; omega)⟩
  obtain ⟨q0, q1⟩ := hwn.at (k := 0) HXN.out hr0
  have HWN := Lib.hid (hwn.set (i := 0) HXN.out zl); clear hwn hr0 hcl
  go_wp2_with fail
  clear q0 q1 HC
  obtain ⟨a5, c5, he5, ho⟩ := HO.out.new HWN.out (bd_set HXB.out (by have := HZL.out; omega)) (by simp [HXN.out]; omega)
  simp only [List.length_set, HXN.out] at he5 ho
  cases he5
  generalize hw8 : w7.setCell ⟨eb, 0, none⟩ (.int .i64 zl) = w8 at ho ⊢
  have hs8 : w8.heap.size = w7.heap.size := by rw [← hw8]; simp
  clear HO HWN hw8
  have ho := ho.nil
  have HO := Lib.hid ho; clear ho
  clear hmn
  go_wp2_with fail
  refine wp_alw ?_
  intro W0 hW0
  have hcells := alw_blk (xs := [.slice none 0 0, .slice ya m yc, .slice xa n xc, .slice none 0 0, .slice (some ⟨lb, 0, none⟩) 17 17, .slice ya m yc, .slice xa n xc, .slice (some ⟨lb, 0, none⟩) 17 17, .slice none 0 0, .slice (some ⟨bb, 0, none⟩) (m + 1) bc, .slice xa n xc, .slice (some ⟨bb, 0, none⟩) (m + 1) bc, .slice (some ⟨eb, 0, none⟩) n ec, .slice ya m yc]) hW0
  have ho := HO.out.keepN (alw_ch hW0) hcells
  rw [hs8] at ho
  clear hW0 hcells hs8
  clear HO; have HO := Lib.hid ho; clear ho
  generalize w7.heap.size = pb at HO ⊢
  have hrn : rightB n = true := by unfold rightB; simp; omega
  have hrm : rightB m = true := by unfold rightB; simp; omega
  have hrm1 : rightB ((m + 1 : Nat) : Int) = true := by unfold rightB; simp; omega
  have hr0 : rightB ((0 : Nat) : Int) = false := by decide
  have hr17 : rightB ((17 : Nat) : Int) = false := by decide
  have hb1 : badIn (gIn 4000 (n + m)) (Y ++ [zb]) = true := badIn_app (by have := HZB.out; unfold right; apply decide_eq_false; simp [gIn]; omega)
  have hb2 : badIn (gIn 4000 (n + m)) (X.set 0 zl) = true := badIn_set (by rw [HXN.out]; omega) (by have := HZL.out; unfold right; apply decide_eq_false; omega)
  have hXn := HXN.out
  have hYn := HYN.out
  have hLn := HLGN.out
  obtain ⟨LL, hLL⟩ : ∃ LL : List (Value × List Int), LL = [(.slice none 0 0, []), (.slice (some ⟨eb, 0, none⟩) n ec, X.set 0 zl), (.slice (some ⟨bb, 0, none⟩) (m + 1) bc, Y ++ [zb]), (.slice (some ⟨lb, 0, none⟩) 17 17, lg), (.slice ya m yc, Y), (.slice xa n xc, X)] := ⟨_, rfl⟩
  obtain ⟨CL, hCL⟩ : ∃ CL : List Value, CL = [.slice none 0 0, .slice ya m yc, .slice xa n xc, .slice none 0 0, .slice (some ⟨lb, 0, none⟩) 17 17, .slice ya m yc, .slice xa n xc, .slice (some ⟨lb, 0, none⟩) 17 17, .slice none 0 0, .slice (some ⟨bb, 0, none⟩) (m + 1) bc, .slice xa n xc, .slice (some ⟨bb, 0, none⟩) (m + 1) bc, .slice (some ⟨eb, 0, none⟩) n ec, .slice ya m yc] := ⟨_, rfl⟩
  have hmem := fun (j : Nat) (hj : j < 7) => show ∃ ua uc un ul ta tc tn tl, CL[j * 2]? = some (Value.slice ua un uc) ∧ CL[j * 2 + 1]? = some (Value.slice ta tn tc) ∧ (Value.slice ua un uc, ul) ∈ LL ∧ (Value.slice ta tn tc, tl) ∈ LL ∧
      ul.length = un ∧ tl.length = tn ∧ ∀ side, (side = 1 ∨ side = 2) → chkBy (gIn 4000 (n + m)) side ul tl = (if 4 < j then 200 else 250) from by
    rw [hLL, hCL]
    rcases (by omega : j = 0 ∨ j = 1 ∨ j = 2 ∨ j = 3 ∨ j = 4 ∨ j = 5 ∨ j = 6) with rfl | rfl | rfl | rfl | rfl | rfl | rfl
    · exact ⟨_, _, _, [], _, _, _, Y, rfl, rfl, by simp, by simp, rfl, hYn, fun sd hs => chkBy_w hs (.inl hr0)⟩
    · exact ⟨_, _, _, X, _, _, _, [], rfl, rfl, by simp, by simp, hXn, rfl, fun sd hs => chkBy_w hs (.inr hr0)⟩
    · exact ⟨_, _, _, lg, _, _, _, Y, rfl, rfl, by simp, by simp, hLn, hYn, fun sd hs => chkBy_w hs (.inl (by rw [hLn]; exact hr17))⟩
    · exact ⟨_, _, _, X, _, _, _, lg, rfl, rfl, by simp, by simp, hXn, hLn, fun sd hs => chkBy_w hs (.inr (by rw [hLn]; exact hr17))⟩
    · exact ⟨_, _, _, [], _, _, _, Y ++ [zb], rfl, rfl, by simp, by simp, rfl, by simp [hYn], fun sd hs => chkBy_w hs (.inl hr0)⟩
    · exact ⟨_, _, _, X, _, _, _, Y ++ [zb], rfl, rfl, by simp, by simp, hXn, by simp [hYn], fun sd hs => chkBy_r hs (by rw [hXn]; exact hrn) (by rw [List.length_append, hYn]; exact hrm1) (.inr hb1)⟩
    · exact ⟨_, _, _, X.set 0 zl, _, _, _, Y, rfl, rfl, by simp, by simp, by simp [hXn], hYn, fun sd hs => chkBy_r hs (by rw [List.length_set, hXn]; exact hrn) (by rw [hYn]; exact hrm) (.inl hb2)⟩
  have hmX : (Value.slice xa n xc, X) ∈ LL := by rw [hLL]; simp
  have hmN : (Value.slice none 0 0, ([] : List Int)) ∈ LL := by rw [hLL]; simp
  have hmL : (Value.slice (some ⟨lb, 0, none⟩) 17 17, lg) ∈ LL := by rw [hLL]; simp
  have hmY : (Value.slice ya m yc, Y) ∈ LL := by rw [hLL]; simp
  rw [← hLL, ← hCL] at HO
  have HMEM := Lib.hid hmem; clear hmem hLL hCL hb1 hb2 hrm hrm1 hXn hYn hLn
  have HMX := Lib.hid hmX; clear hmX
  have HMN := Lib.hid hmN; clear hmN
  have HML := Lib.hid hmL; clear hmL
  have HMY := Lib.hid hmY; clear hmY
  have HRN := Lib.hid hrn; clear hrn
  obtain ⟨mv, hmv⟩ : ∃ mv : Nat, mv = max vd 3 := ⟨_, rfl⟩
  have hmx := max_u8 vd 3
  rw [show max (vd : Int) 3 = (mv : Int) by omega] at hmx
  have hmv3 : 3 ≤ mv := by omega
  have HMX3 := Lib.hid hmx; clear hmv hmx
  go_loopw [95] (fun i wr => ∃ (j : Nat) (FR : List Nat), j ≤ 7 ∧ i = .int .i64 j ∧ Hold ((Base.mk w1 []).add pb CL) wr g (gIn 4000 (n + m)) FR LL) (fun i _ => 7 - (intOf i).toNat)
  case atStart => exact ⟨0, _, by omega, rfl, HO.out⟩
  case round =>
    obtain ⟨j, FR, hj, rfl, ho⟩ := hrel
    clear HO; have HO := Lib.hid ho; clear ho
    by_cases hj7 : j < 7
    · obtain ⟨ua, uc, un, ul, ta, tc, tn, tl, hk0, hk1, hmu, hmt, hun, htn, hck⟩ := HMEM.out j hj7
      have k0 := (HO.out.kb0).cell hk0
      have k1 := (HO.out.kb0).cell hk1
      have hmx := HMX3.out
      clear hk0 hk1
      have HMU := Lib.hid hmu; clear hmu
      have HMT := Lib.hid hmt; clear hmt
      have HUN := Lib.hid hun; clear hun
      have HTN := Lib.hid htn; clear htn
      obtain ⟨ee, hee⟩ : ∃ ee : Nat, ee = if 4 < j then 200 else 250 := ⟨_, rfl⟩
      rw [← hee] at hck
      have he0 : ee ≠ 0 := by rw [hee]; split <;> omega
      have HCK := Lib.hid hck; clear hck
      have HE0 := Lib.hid he0; clear he0
      by_cases hj4 : 4 < j
      · have d4 : decide ((4 : Int) < j) = true := decide_eq_true (by omega)
        rw [if_pos hj4] at hee
        subst hee
        clear hj4
        go_wp2_with fail
        refine calls_named fun W1 hW1 => ?_
        have ho := HO.out.keepN (alw_ch hW1) (alw_blk (xs := [.slice ua un uc, .slice ta tn tc]) hW1)
        clear hW1 k0 k1 HO; have HO := Lib.hid ho; clear ho
        generalize wr.heap.size = qb at HO ⊢
        have kc0 := (HO.out.kb0).cell (i := 0) rfl
        have kc1 := (HO.out.kb0).cell (i := 1) rfl
        try go_wp2_with fail
        refine (Shl_no HO.out HMU.out HUN.out HMT.out HTN.out (HCK.out 1 (.inl rfl)) HE0.out).mono ?_
        rintro e v0 ⟨a0, c0, G0, rfl, ho⟩
        clear HO kc0 kc1; have HO := Lib.hid ho; clear ho
        have kc0 := (HO.out.kb0).cell (i := 0) rfl
        have kc1 := (HO.out.kb0).cell (i := 1) rfl
        go_wp2_with fail
        refine (Shr_no HO.out HMU.out HUN.out HMT.out HTN.out (HCK.out 2 (.inr rfl)) HE0.out).mono ?_
        rintro e v1 ⟨a1, c1, G1, rfl, ho⟩
        clear HO kc0 kc1; have HO := Lib.hid ho; clear ho
        have kc0 := (HO.out.kb0).cell (i := 0) rfl
        have kc1 := (HO.out.kb0).cell (i := 1) rfl
        go_wp2_with fail
        refine (By_no HO.out 0 HMU.out HUN.out HMT.out HTN.out (chkBy_s (by omega)) (by decide)).mono ?_
        rintro e v2 ⟨a2, c2, G2, rfl, ho⟩
        clear HO kc0 kc1; have HO := Lib.hid ho; clear ho
        have kc0 := (HO.out.kb0).cell (i := 0) rfl
        have kc1 := (HO.out.kb0).cell (i := 1) rfl
        go_wp2_with fail
        refine (By_no HO.out mv HMU.out HUN.out HMT.out HTN.out (chkBy_s (by omega)) (by decide)).mono ?_
        rintro e v3 ⟨a3, c3, G3, rfl, ho⟩
        clear HO kc0 kc1; have HO := Lib.hid ho; clear ho
        have kc0 := (HO.out.kb0).cell (i := 0) rfl
        have kc1 := (HO.out.kb0).cell (i := 1) rfl
        go_wp2_with fail
        go_roundw
        case rel => exact ⟨j + 1, _, by omega, by go_num, HO.out.dropB⟩
        case measure => simp [intOf] <;> omega
      · have d4 : decide ((4 : Int) < j) = false := decide_eq_false (by omega)
        rw [if_neg hj4] at hee
        subst hee
        clear hj4
        go_wp2_with fail
        refine calls_named fun W1 hW1 => ?_
        have ho := HO.out.keepN (alw_ch hW1) (alw_blk (xs := [.slice ua un uc, .slice ta tn tc]) hW1)
        clear hW1 k0 k1 HO; have HO := Lib.hid ho; clear ho
        generalize wr.heap.size = qb at HO ⊢
        have kc0 := (HO.out.kb0).cell (i := 0) rfl
        have kc1 := (HO.out.kb0).cell (i := 1) rfl
        try go_wp2_with fail
        refine (Shl_no HO.out HMU.out HUN.out HMT.out HTN.out (HCK.out 1 (.inl rfl)) HE0.out).mono ?_
        rintro e v0 ⟨a0, c0, G0, rfl, ho⟩
        clear HO kc0 kc1; have HO := Lib.hid ho; clear ho
        have kc0 := (HO.out.kb0).cell (i := 0) rfl
        have kc1 := (HO.out.kb0).cell (i := 1) rfl
        go_wp2_with fail
        refine (Shr_no HO.out HMU.out HUN.out HMT.out HTN.out (HCK.out 2 (.inr rfl)) HE0.out).mono ?_
        rintro e v1 ⟨a1, c1, G1, rfl, ho⟩
        clear HO kc0 kc1; have HO := Lib.hid ho; clear ho
        have kc0 := (HO.out.kb0).cell (i := 0) rfl
        have kc1 := (HO.out.kb0).cell (i := 1) rfl
        go_wp2_with fail
        refine (By_no HO.out 0 HMU.out HUN.out HMT.out HTN.out (chkBy_s (by omega)) (by decide)).mono ?_
        rintro e v2 ⟨a2, c2, G2, rfl, ho⟩
        clear HO kc0 kc1; have HO := Lib.hid ho; clear ho
        have kc0 := (HO.out.kb0).cell (i := 0) rfl
        have kc1 := (HO.out.kb0).cell (i := 1) rfl
        go_wp2_with fail
        refine (By_no HO.out mv HMU.out HUN.out HMT.out HTN.out (chkBy_s (by omega)) (by decide)).mono ?_
        rintro e v3 ⟨a3, c3, G3, rfl, ho⟩
        clear HO kc0 kc1; have HO := Lib.hid ho; clear ho
        have kc0 := (HO.out.kb0).cell (i := 0) rfl
        have kc1 := (HO.out.kb0).cell (i := 1) rfl
        go_wp2_with fail
        go_roundw
        case rel => exact ⟨j + 1, _, by omega, by go_num, HO.out.dropB⟩
        case measure => simp [intOf] <;> omega
    · have HO2 := Lib.hid HO.out.dropB; clear HO
      have HO := Lib.hid HO2.out; clear HO2
      have hmn := min_ii z (-1)
      rw [← HZL.out] at hmn
      obtain ⟨zs, hzs⟩ : ∃ zs : Int, zs = min z 0 := ⟨_, rfl⟩
      obtain ⟨zt, hzt⟩ : ∃ zt : Int, zt = max z 17 := ⟨_, rfl⟩
      have hmn0 := min_ii z 0
      have hmx17 := max_ii z 17
      rw [← hzs] at hmn0
      rw [← hzt] at hmx17
      have hf1 : fixE 1 X zl = 2 := by have := HZL.out; unfold fixE; rw [if_neg (by omega), HXN.out, HRN.out, if_neg (by simp), if_pos (by omega)]
      have hf2 : fixE 2 [] zl = 250 := by unfold fixE; rw [if_neg (by omega)]; rfl
      have hf3 : fixE 0 lg (-1) = 251 := by unfold fixE; rw [if_pos (by omega)]
      have ht1 := fun W => Turn_no (w := W) (xa := some ⟨lb, 0, none⟩) (xl := lg) 17 z (by rw [HLGN.out]; exact hr17)
      simp only [HLGN.out] at ht1
      have ht2 := fun W => Turn_no (w := W) (xa := none) (xl := []) 0 z hr0
      have hs1 := fun W => Steps_e (w := W) zs 3 (by have : rightB zs = false := by unfold rightB; simp; omega
                                                     rw [this]; rfl)
      have hs2 := fun W => Steps_e (w := W) 3 zt (by have : rightB zt = false := by unfold rightB; simp; omega
                                                     rw [this]; simp)
      have HT1 := Lib.hid ht1; clear ht1
      have HT2 := Lib.hid ht2; clear ht2
      have HS1 := Lib.hid hs1; clear hs1
      have HS2 := Lib.hid hs2; clear hs2
      clear hzs hzt
      go_wp2_with fail
      refine (Fixed_no HO.out 1 HMX.out HXN.out zl hf1 (by decide)).mono ?_
      rintro e v1 ⟨a1, c1, G1, rfl, ho⟩
      clear HO; have HO := Lib.hid ho; clear ho
      go_wp2_with fail
      refine (Fixed_no HO.out 2 HMN.out rfl zl hf2 (by decide)).mono ?_
      rintro e v2 ⟨a2, c2, G2, rfl, ho⟩
      clear HO; have HO := Lib.hid ho; clear ho
      go_wp2_with fail
      refine (Fixed_no HO.out 0 HML.out HLGN.out (-1) hf3 (by decide)).mono ?_
      rintro e v3 ⟨a3, c3, G3, rfl, ho⟩
      clear HO; have HO := Lib.hid ho; clear ho
      go_wp2_with fail
      refine (HT1.out _).mono ?_
      rintro e w' ⟨rfl, rfl⟩
      go_wp2_with fail
      refine (HT2.out _).mono ?_
      rintro e w' ⟨rfl, rfl⟩
      go_wp2_with fail
      refine (HS1.out _).mono ?_
      rintro e w' ⟨rfl, rfl⟩
      go_wp2_with fail
      refine (HS2.out _).mono ?_
      rintro e w' ⟨rfl, rfl⟩
      have hN := New_h (w := v3) (n + m + 1) (by omega) (by omega)
      rw [show ((n + m + 1 : Nat) : Int) = (n : Int) + m + 1 by omega] at hN
      have HN := Lib.hid hN; clear hN
      go_wp2_with fail
      refine HN.out.mono ?_
      rintro e v4 ⟨h, F4, rfl, ho⟩
      have HH := Lib.hid ho; clear ho HN
      go_wp2_with fail
      refine (sInput_h HH.out n (G' := gIn (n + m + 1) n) (l := rIn 0 n) (e := 0) (k := n) (by have := inG_gIn (most := n + m + 1) (s := 0) hn1 (by omega) (by omega); rw [Nat.zero_add] at this; exact this) (by simp) (fun r hr => by have := rIn_le hr; omega) (by omega)).mono ?_
      rintro e v5 ⟨pa, pc, F5, rfl, ho⟩
      rw [← HXE.out] at ho
      clear HH; have HH := Lib.hid ho; clear ho
      go_wp2_with fail
      refine (sInput_h HH.out m (G' := gIn (n + m + 1) (n + m)) (l := rIn n m) (e := 0) (k := m) (inG_gIn (most := n + m + 1) (s := n) hm1 (by omega) (by omega)) (by simp) (fun r hr => by have := rIn_le hr; omega) (by omega)).mono ?_
      rintro e v6 ⟨qa, qc, F6, rfl, ho⟩
      rw [← HYE.out] at ho
      clear HH; have HH := Lib.hid ho; clear ho
      go_wp2_with fail
      refine (wno (Shl_h HH.out (xa := pa) (xc := pc) (n := n) (xl := X) (by simp) HXN.out (ya := qa) (yc := qc) (m := m) (yl := Y) (by simp) HYN.out HFF.out rfl (by simp) (by omega))).mono ?_
      rintro e v7 ⟨a7, c7, F7, rfl, ho⟩
      clear HH; have HH := Lib.hid ho; clear ho
      go_wp2_with fail
      refine (Room_h HH.out (n := 0) (by simp [gIn])).mono ?_
      rintro e v8 ⟨rfl, ho⟩
      clear HH; have HH := Lib.hid ho; clear ho
      have ho := HO.out.same HH.out.ch
      clear HO; have HO := Lib.hid ho; clear ho
      go_wp2_with fail
      refine (Len_h HO.out (n := n + m + 1) (by simp [gIn])).mono ?_
      rintro e v9 ⟨rfl, ho⟩
      clear HO; have HO := Lib.hid ho; clear ho
      go_wp2_with fail
      go_ret
      exact ⟨by simp, HC1.out.trans HO.out.own.ch (by simp)⟩
end Go.Proofs.Ytchledddgmbndaa
