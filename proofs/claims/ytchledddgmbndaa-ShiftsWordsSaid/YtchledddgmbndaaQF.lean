/-
  Walk over ShiftsFixed: true, whatever comes in. Conditions: none.
  Walks over the reference's functions of shifts: Right, Power, Steps, Shifted, Turn, Check, Fixed. Conditions: numbers in range, words that can be read.
  Walks over the reference's Check and Fixed of shifts. Conditions: numbers in range, words that can be read.
  Walk over ShiftsWords: true, whatever comes in. Conditions: none.
-/
import Derived.Test.YtchledddgmbndaaQE
import Derived.Test.YtchledddgmbndaaQD
import Derived.Test.YtchledddgmbndaaQB
namespace Go.Aig
theorem shL_min {side : Nat} (x : List Int) (n : Nat) : shL side x (min n x.length) = shL side x n := by
  unfold shL
  refine List.map_congr_left fun i hi => ?_
  have hi := List.mem_range.1 hi
  by_cases h : n ≤ x.length
  · rw [Nat.min_eq_left h]
  · rw [Nat.min_eq_right (by omega)]
    split
    · rw [if_neg (by omega), if_neg (by omega)]
    · rw [List.getD_eq_getElem?_getD, List.getD_eq_getElem?_getD, List.getElem?_eq_none (by omega), List.getElem?_eq_none (by omega)]
/-- what stands in a word shifted -/
theorem shL_l {x : List Int} {n i : Nat} (hi : i < x.length) : (n ≤ i → (shL 1 x n)[i]? = x[i - n]?) ∧ (i < n → (shL 1 x n)[i]? = some 0) := by
  rw [shL_at hi, if_pos rfl]
  refine ⟨fun h => ?_, fun h => by rw [if_neg (by omega)]⟩
  rw [if_pos h, List.getD_eq_getElem?_getD, List.getElem?_eq_getElem (by omega)]
  rfl
theorem shL_r {x : List Int} {n i : Nat} (hi : i < x.length) : (i + n < x.length → (shL 2 x n)[i]? = x[i + n]?) ∧ (x.length ≤ i + n → (shL 2 x n)[i]? = some 0) := by
  rw [shL_at hi, if_neg (by omega)]
  refine ⟨fun h => ?_, fun h => ?_⟩
  · rw [List.getD_eq_getElem?_getD, List.getElem?_eq_getElem h]; rfl
  · rw [List.getD_eq_getElem?_getD, List.getElem?_eq_none h]; rfl
theorem shL_back {x : List Int} {n i : Nat} (hi : i < x.length) : (i + n < x.length → (shL 2 (shL 1 x n) n)[i]? = x[i]?) ∧ (x.length ≤ i + n → (shL 2 (shL 1 x n) n)[i]? = some 0) := by
  have h := shL_r (x := shL 1 x n) (n := n) (i := i) (by simpa using hi)
  rw [shL_len] at h
  refine ⟨fun h1 => ?_, h.2⟩
  rw [h.1 h1, (shL_l (n := n) h1).1 (by omega)]
  congr 1; omega
theorem fixE_ok {side : Nat} {x : List Int} {n : Nat} (hs : side = 1 ∨ side = 2) (h1 : 1 ≤ x.length) (h2 : x.length ≤ 16) : fixE side x n = 0 := by
  unfold fixE
  have : rightB x.length = true := by unfold rightB; simp; omega
  rw [if_neg (by omega), this, if_neg (by simp), if_neg (by omega)]
end Go.Aig
namespace Go.Proofs.Ytchledddgmbndaa
open Go.RowKit Go.Mem Go.Aig
/-- Fixed of a right word -/
theorem Fixed_o {w0 : Base} {w : World} {g : Nat} {G : Gra} {F : List Nat} {L : List (Value × List Int)} (h : Hold w0 w g G F L) {side : Nat} (hs : side = 1 ∨ side = 2) {xa : Option Addr} {xl : List Int} {n xc : Nat} (hx : (.slice xa n xc, xl) ∈ L) (hxn : xl.length = n) (h1 : 1 ≤ n) (h16 : n ≤ 16) (z : Nat) :
    Calls Try.prog 39 #[.int .u8 side, .slice xa n xc, .int .i64 z] w fun en w' => ∃ a c, en = .returned (.tuple #[.slice a n c, .int .i64 (0 : Nat)]) ∧ Hold w0 w' g G F ((.slice a n c, shL side xl z) :: L) :=
  Fixed_h h side hx hxn z (fixE_ok hs (by omega) (by omega)) (by rw [if_pos rfl, Int.toNat_natCast, shL_min]) (by rw [shL_len, hxn])
set_option maxRecDepth 100000 in
set_option maxHeartbeats 8000000 in
theorem ShiftsFixed_walk {w : World} (wd : Nat) (hw : wd ≤ 255) (i : Nat) (_hi : i ≤ 255) (k : Nat) (_hk : k ≤ 255) : Calls Try.prog 7 #[.int .u8 wd, .int .u8 i, .int .u8 k] w fun e w' => e = .returned (.bool true) ∧ Ch [] w w' := by
  have HP := fun W => two25_is W wd 0 hw (by omega)
  obtain ⟨n, hn, hn1, hn9⟩ : ∃ n, wd % 9 + 1 = n ∧ 1 ≤ n ∧ n ≤ 9 := ⟨_, rfl, by omega, by omega⟩
  obtain ⟨N, hN, hN20⟩ : ∃ N, i % 21 = N ∧ N ≤ 20 := ⟨_, rfl, by omega⟩
  obtain ⟨M, hM, hM20⟩ : ∃ M, k % 21 = M ∧ M ≤ 20 := ⟨_, rfl, by omega⟩
  have hNi : (i : Int) % 21 = N := by omega
  have hMi : (k : Int) % 21 = M := by omega
  rw [hn] at HP
  simp only [Nat.zero_mod, Nat.zero_add] at HP
  have hff := fun side hs => fixed_facts (n := n) (k := N) (side := side) hn1 hn9 hN20 hs
  obtain ⟨X, hX⟩ : ∃ X, X = natInts (rIn 0 n) := ⟨_, rfl⟩
  obtain ⟨CC, hCC⟩ : ∃ CC, CC = natInts (constL N 6) := ⟨_, rfl⟩
  have hXn : X.length = n := by rw [hX]; simp
  have hCn : CC.length = 6 := by rw [hCC]; simp [constL]
  have hfb : ∀ side, (side = 1 ∨ side = 2) → ∀ r ∈ shN side (rIn 0 n) (min N n), r ≤ 1000000 := fun side hs r hr => by
    have := shN_lt (b := 1000) (fun r hr => by have := rIn_le hr; omega) (by omega) r hr
    omega
  have hfe : ∀ side, natInts (shN side (rIn 0 n) (min N n)) = shL side X N := fun side => by
    rw [← shL_nat, ← hX, ← hXn, shL_min]
  have hfl : ∀ side, (shN side (rIn 0 n) (min N n)).length = n := fun side => by simp
  rw [← hX, ← hCC] at hff
  rw [← hX] at HP
  generalize natInts (rIn n 1) = Y at HP
  clear hn hX hN hM
  have HA := fun W => awake25_is W
  have HFF := Lib.hid hff; clear hff
  have HFB := Lib.hid hfb; clear hfb
  have HFE := Lib.hid hfe; clear hfe
  have HFL := Lib.hid hfl; clear hfl
  have HXN := Lib.hid hXn; clear hXn
  have HCN := Lib.hid hCn; clear hCn
  go_enter Try.func7, Try.ntmps7
  go_wp2_with fail
  refine (HA _).mono ?_
  rintro e w1 ⟨rfl, hc1⟩
  have HC1 := Lib.hid hc1; clear hc1
  go_wp2_with fail
  refine (HP _).mono ?_
  rintro e w2 ⟨g, F2, xa, xc, ya, yc, rfl, ho⟩
  have HO := Lib.hid ho; clear ho HP
  go_wp2_with fail
  refine (Len_h HO.out (n := n + 2) (by simp [gIn])).mono ?_
  rintro e w3 ⟨rfl, ho⟩
  clear HO; have HO := Lib.hid ho; clear ho
  go_wp2_with fail
  refine (sConst_h HO.out N (by omega) 6 rfl).mono ?_
  rintro e w4 ⟨ca, cc, rfl, ho⟩
  rw [← hCC] at ho
  clear HO; have HO := Lib.hid ho; clear ho hCC
  go_wp2_with fail
  refine wp_alw ?_
  intro W0 hW0
  have ho := HO.out.keepN (alw_ch hW0) (alw_blk (xs := [.int .u8 1, .int .u8 2]) hW0)
  clear hW0
  clear HO; have HO := Lib.hid ho; clear ho
  generalize w4.heap.size = pb at HO ⊢
  go_loopw [61] (fun i wr => ∃ (j : Nat) (FQ : List Nat), j ≤ 2 ∧ i = .int .i64 j ∧ Hold ((Base.mk w1 []).add pb [.int .u8 1, .int .u8 2]) wr g (gIn 4000 (n + 1)) FQ [(.slice ca 6 cc, CC), (.slice ya 1 yc, Y), (.slice xa n xc, X)]) (fun i _ => 2 - (intOf i).toNat)
  case atStart => exact ⟨0, F2, by omega, rfl, HO.out⟩
  case round =>
    obtain ⟨j, FQ, hj, rfl, ho⟩ := hrel
    clear HO; have HO := Lib.hid ho; clear ho
    by_cases hj2 : j < 2
    · obtain ⟨sd, hsd, hs⟩ : ∃ sd : Nat, [Value.int .u8 1, .int .u8 2][j]? = some (.int .u8 sd) ∧ (sd = 1 ∨ sd = 2) := by
        rcases (by omega : j = 0 ∨ j = 1) with rfl | rfl
        · exact ⟨1, rfl, .inl rfl⟩
        · exact ⟨2, rfl, .inr rfl⟩
      have k0 := (HO.out.kb0).cell hsd
      have hsb : sd ≤ 2 := by omega
      have HS := Lib.hid hs; clear hs hsd
      go_wp2_with fail
      refine (Fixed_o HO.out HS.out (xa := xa) (xc := xc) (n := n) (xl := X) (by simp) HXN.out (by omega) (by omega) N).mono ?_
      rintro e w5 ⟨aa, ac, rfl, ho⟩
      clear HO k0; have HO := Lib.hid ho; clear ho
      go_wp2_with fail
      refine (By_h HO.out sd (xa := xa) (xc := xc) (n := n) (xl := X) (by simp) HXN.out (ya := ca) (yc := cc) (m := 6) (yl := CC) (by simp) HCN.out (HFF.out sd HS.out) (HFL.out sd) (HFB.out sd HS.out) (by omega)).mono ?_
      rintro e w6 ⟨ba, bc, F3, rfl, ho⟩
      rw [HFE.out] at ho
      clear HO; have HO := Lib.hid ho; clear ho
      go_wp2_with fail
      refine (Fixed_o HO.out HS.out (xa := aa) (xc := ac) (n := n) (xl := shL sd X N) (by simp) (by simp [HXN.out]) (by omega) (by omega) M).mono ?_
      rintro e w7 ⟨pa, pc, rfl, ho⟩
      clear HO; have HO := Lib.hid ho; clear ho
      go_wp2_with fail
      refine (Fixed_o HO.out HS.out (xa := xa) (xc := xc) (n := n) (xl := X) (by simp) HXN.out (by omega) (by omega) (N + M)).mono ?_
      rintro e w8 ⟨qa, qc, rfl, ho⟩
      clear HO; have HO := Lib.hid ho; clear ho
      go_wp2_with fail
      refine (Eqref_h HO.out (xa := aa) (xc := ac) (n := n) (xl := shL sd X N) (by simp) (by simp [HXN.out]) (ya := ba) (yc := bc) (m := n) (yl := shL sd X N) (by simp) (by simp [HXN.out]) (q := true) (by simp)).mono ?_
      rintro e w9 ⟨rfl, ho⟩
      clear HO; have HO := Lib.hid ho; clear ho
      have hpq : shL sd (shL sd X N) M = shL sd X (N + M) := by
        have := shL_shL (side := sd) X N M
        rw [shL_min, shL_min] at this
        have h2 := shL_min (side := sd) (shL sd X N) M
        rw [shL_len] at h2
        rw [h2] at this
        exact this
      have HPQ := Lib.hid hpq; clear hpq
      go_wp2_with fail
      refine (Eqref_h HO.out (xa := pa) (xc := pc) (n := n) (xl := shL sd (shL sd X N) M) (by simp) (by simp [HXN.out]) (ya := qa) (yc := qc) (m := n) (yl := shL sd X (N + M)) (by simp) (by simp [HXN.out]) (q := true) (by rw [HPQ.out]; simp)).mono ?_
      rintro e w10 ⟨rfl, ho⟩
      clear HO HPQ
      have ho := ho.sub (L' := [(.slice aa n ac, shL sd X N), (.slice ca 6 cc, CC), (.slice ya 1 yc, Y), (.slice xa n xc, X)]) (by simp)
      have HO := Lib.hid ho; clear ho
      go_wp2_with fail
      go_loopw [127] (fun i wq => ∃ (q : Nat), q ≤ n ∧ i = .int .i64 q ∧ Hold ((Base.mk w1 []).add pb [.int .u8 1, .int .u8 2]) wq g (gIn 4000 (n + 1)) F3 [(.slice aa n ac, shL sd X N), (.slice ca 6 cc, CC), (.slice ya 1 yc, Y), (.slice xa n xc, X)]) (fun i _ => n - (intOf i).toNat)
      case atStart => exact ⟨0, by omega, rfl, HO.out⟩
      case round =>
        obtain ⟨q, hq, rfl, ho⟩ := hrel
        clear HO; have HO := Lib.hid ho; clear ho
        by_cases hqn : q < n
        · have hq2 : q < X.length := by have := HXN.out; omega
          obtain ⟨r, hr⟩ : ∃ r, (shL sd X N)[q]? = some r := ⟨_, List.getElem?_eq_getElem (by simpa using hq2)⟩
          have hca := (HO.out.sl (a := aa) (n := n) (c := ac) (l := shL sd X N) (by simp) (by simp [HXN.out])).cells q r hr
          have hcx := (HO.out.sl (a := xa) (n := n) (c := xc) (l := X) (by simp) HXN.out).cells
          obtain ⟨ab, ao, hae, c0⟩ := hca
          have hxz := hcx 0
          obtain ⟨xb, xo, hxe, _⟩ := hxz _ (List.getElem?_eq_getElem (by omega))
          have hcxx : ∀ (p : Nat) (x : Int), X[p]? = some x → wr.cell? ⟨xb, xo + p, none⟩ = some (.int .i64 x) := fun p x hx => by
            obtain ⟨b, o, e, hc⟩ := hcx p x hx
            rw [hxe] at e
            cases e
            exact hc
          have HAE := Lib.hid hae
          subst hae
          subst hxe
          clear hcx hxz HAE
          have HCXX := Lib.hid hcxx; clear hcxx
          rcases HS.out with hsd | hsd
          · have e2 : ((sd : Int) == 2) = false := by rw [hsd]; rfl
            rw [hsd] at hr
            have hl := shL_l (n := N) hq2
            have HSD := Lib.hid hsd; clear hsd
            by_cases hNq : N ≤ q
            · obtain ⟨p, hp⟩ : ∃ p, q - N = p := ⟨_, rfl⟩
              have hz : (q : Int) - N = p := by omega
              rw [hl.1 hNq, hp] at hr
              have c1 := HCXX.out p r hr
              have d1 : decide ((0 : Int) ≤ (p : Int)) = true := decide_eq_true (by omega)
              have d2 : decide ((p : Int) < n) = true := decide_eq_true (by omega)
              have hpn : p < n := by omega
              clear hl hr hp
              have HO2 := Lib.hid HO.out
              go_wp2_with fail
              go_roundw
              case rel => exact ⟨q + 1, by omega, by go_num, HO2.out⟩
              case measure => simp [intOf]; omega
            · rw [hl.2 (by omega)] at hr
              cases hr
              have d1 : decide ((0 : Int) ≤ (q : Int) - N) = false := decide_eq_false (by omega)
              clear hl
              have HO2 := Lib.hid HO.out
              go_wp2_with fail
              go_roundw
              case rel => exact ⟨q + 1, by omega, by go_num, HO2.out⟩
              case measure => simp [intOf]; omega
          · have e2 : ((sd : Int) == 2) = true := by rw [hsd]; rfl
            rw [hsd] at hr
            have hl := shL_r (n := N) hq2
            rw [HXN.out] at hl
            have HSD := Lib.hid hsd; clear hsd
            have d1 : decide ((0 : Int) ≤ (q : Int) + N) = true := decide_eq_true (by omega)
            by_cases hNq : q + N < n
            · have d2 : decide ((q : Int) + N < n) = true := decide_eq_true (by omega)
              rw [hl.1 hNq] at hr
              have c1 := HCXX.out (q + N) r hr
              clear hl hr
              have HO2 := Lib.hid HO.out
              go_wp2_with fail
              go_roundw
              case rel => exact ⟨q + 1, by omega, by go_num, HO2.out⟩
              case measure => simp [intOf]; omega
            · have d2 : decide ((q : Int) + N < n) = false := decide_eq_false (by omega)
              rw [hl.2 (by omega)] at hr
              cases hr
              clear hl
              have HO2 := Lib.hid HO.out
              go_wp2_with fail
              go_roundw
              case rel => exact ⟨q + 1, by omega, by go_num, HO2.out⟩
              case measure => simp [intOf]; omega
        · have ho := HO.out.sub (L' := [(.slice ca 6 cc, CC), (.slice ya 1 yc, Y), (.slice xa n xc, X)]) (by simp)
          clear HO; have HO := Lib.hid ho; clear ho
          go_wp2_with fail
          go_roundw
          case rel => exact ⟨j + 1, F3, by omega, by go_num, HO.out⟩
          case measure => simp [intOf]; omega
    · have HO2 := Lib.hid HO.out.dropB; clear HO
      go_wp2_with fail
      refine (Fixed_o HO2.out (side := 1) (.inl rfl) (xa := xa) (xc := xc) (n := n) (xl := X) (by simp) HXN.out (by omega) (by omega) N).mono ?_
      rintro e w5 ⟨aa, ac, rfl, ho⟩
      clear HO2; have HO := Lib.hid ho; clear ho
      go_wp2_with fail
      refine (Fixed_o HO.out (side := 2) (.inr rfl) (xa := aa) (xc := ac) (n := n) (xl := shL 1 X N) (by simp) (by simp [HXN.out]) (by omega) (by omega) N).mono ?_
      rintro e w6 ⟨ba, bc, rfl, ho⟩
      clear HO; have HO := Lib.hid ho; clear ho
      go_wp2_with fail
      go_loopw [192] (fun i wq => ∃ (q : Nat), q ≤ n ∧ i = .int .i64 q ∧ Hold (Base.mk w1 []) wq g (gIn 4000 (n + 1)) FQ [(.slice ba n bc, shL 2 (shL 1 X N) N), (.slice aa n ac, shL 1 X N), (.slice ca 6 cc, CC), (.slice ya 1 yc, Y), (.slice xa n xc, X)]) (fun i _ => n - (intOf i).toNat)
      case atStart => exact ⟨0, by omega, rfl, HO.out⟩
      case round =>
        obtain ⟨q, hq, rfl, ho⟩ := hrel
        clear HO; have HO := Lib.hid ho; clear ho
        by_cases hqn : q < n
        · have hq2 : q < X.length := by have := HXN.out; omega
          obtain ⟨r, hr⟩ : ∃ r, (shL 2 (shL 1 X N) N)[q]? = some r := ⟨_, List.getElem?_eq_getElem (by simpa using hq2)⟩
          have hl := shL_back (n := N) hq2
          rw [HXN.out] at hl
          obtain ⟨bb, bo, hbe, c0⟩ := (HO.out.sl (a := ba) (n := n) (c := bc) (l := shL 2 (shL 1 X N) N) (by simp) (by simp [HXN.out])).cells q r hr
          subst hbe
          by_cases hNq : q + N < n
          · have d2 : decide ((q : Int) + N < n) = true := decide_eq_true (by omega)
            rw [hl.1 hNq] at hr
            obtain ⟨xb, xo, hxe, c1⟩ := (HO.out.sl (a := xa) (n := n) (c := xc) (l := X) (by simp) HXN.out).cells q r hr
            subst hxe
            clear hl hr
            have HO2 := Lib.hid HO.out
            go_wp2_with fail
            go_roundw
            case rel => exact ⟨q + 1, by omega, by go_num, HO2.out⟩
            case measure => simp [intOf]; omega
          · have d2 : decide ((q : Int) + N < n) = false := decide_eq_false (by omega)
            rw [hl.2 (by omega)] at hr
            cases hr
            clear hl
            have HO2 := Lib.hid HO.out
            go_wp2_with fail
            go_roundw
            case rel => exact ⟨q + 1, by omega, by go_num, HO2.out⟩
            case measure => simp [intOf]; omega
        · go_wp2_with fail
          refine (Len_h HO.out (n := n + 2) (by simp [gIn])).mono ?_
          rintro e w7 ⟨rfl, ho⟩
          clear HO; have HO := Lib.hid ho; clear ho
          go_wp2_with fail
          go_ret
          exact ⟨by simp, HC1.out.trans HO.out.own.ch (by simp)⟩
end Go.Proofs.Ytchledddgmbndaa
namespace Go.Proofs.Ytchledddgmbndaa
open Go.RowKit Go.Mem Go.Aig
/-- a new slice of ints -/
def INew (w : World) (v : Value) (l : List Int) (w' : World) : Prop := row w' 3 1 v l.length (intCells l) ∧ (∀ q ∈ v.ownBlock.toList, w.heap.size ≤ q) ∧ Ch [] w w'
theorem INew.since {w w1 w2 : World} {v : Value} {l : List Int} (h : INew w1 v l w2) (hc : Ch [] w w1) : INew w v l w2 := ⟨h.1, fun q hq => Nat.le_trans hc.size (h.2.1 q hq), hc.trans h.2.2 (by simp)⟩
theorem INew.nil {w w' : World} (hc : Ch [] w w') : INew w (.slice none 0 0) [] w' := ⟨⟨rfl, .inl ⟨rfl, rfl⟩⟩, by simp, hc⟩
theorem INew.parts {w w' : World} {v : Value} {l : List Int} {n : Nat} (h : INew w v l w') (hn : l.length = n) : ∃ a c, v = .slice a n c ∧ row w' 3 1 (.slice a n c) n (intCells l) ∧ (∀ q ∈ (Value.slice a n c).ownBlock.toList, w.heap.size ≤ q) ∧ Ch [] w w' := by
  subst hn
  obtain ⟨h1, h2, h3⟩ := h
  obtain ⟨a, c, rfl⟩ := row.shape h1
  exact ⟨a, c, rfl, h1, h2, h3⟩
section
variable {w : World}
set_option maxRecDepth 100000 in
set_option maxHeartbeats 1000000 in
theorem r25Right_is (n : Int) : Calls Try.prog 117 #[.int .i64 n] w fun e w' => e = .returned (.bool (rightB n)) ∧ w = w' := by
  have e : rightB n = (decide (0 < n) && decide (n < 17)) := by
    unfold rightB
    rw [show decide (1 ≤ n) = decide (0 < n) from by congr 1, show decide (n ≤ 16) = decide (n < 17) from by congr 1; exact propext ⟨fun h => by omega, fun h => by omega⟩]
  rw [e]
  clear e
  by_cases h : 0 < n
  · have h1 : decide (0 < n) = true := decide_eq_true h
    go_enter Try.func117, Try.ntmps117
    go_wp2_with fail
    go_ret
    exact ⟨by rw [h1]; rfl, rfl⟩
  · have h1 : decide (0 < n) = false := decide_eq_false h
    go_enter Try.func117, Try.ntmps117
    go_wp2_with fail
    go_ret
    exact ⟨rfl, rfl⟩
set_option maxRecDepth 100000 in
set_option maxHeartbeats 1000000 in
theorem r25Power_is (n : Nat) (hn : n ≤ 30) : Calls Try.prog 118 #[.int .i64 n] w fun e w' => e = .returned (.int .i64 ((2 ^ n : Nat) : Int)) ∧ w = w' := by
  go_enter Try.func118, Try.ntmps118
  go_wp2_with fail
  go_loopw [3, 4] (fun o i wr => ∃ k : Nat, k ≤ n ∧ i = .int .i64 k ∧ o = .int .i64 ((2 ^ k : Nat) : Int) ∧ wr = w) (fun _ i _ => n - (intOf i).toNat)
  case atStart => exact ⟨0, by omega, rfl, rfl, rfl⟩
  case round =>
    obtain ⟨k, hk, rfl, rfl, hww⟩ := hrel
    subst wr
    have hp : 2 ^ k ≤ 2 ^ 30 := Nat.pow_le_pow_right (by omega) (by omega)
    have hs : 2 ^ (k + 1) = 2 * 2 ^ k := by rw [Nat.pow_succ, Nat.mul_comm]
    by_cases hlt : k < n
    · have HS := Lib.hid hs; clear hs
      generalize hP : 2 ^ k = P at *
      clear hP
      go_wp2_with fail
      go_roundw
      case rel => exact ⟨k + 1, by omega, by go_num, by rw [HS.out]; go_num, by trivial⟩
      case measure => simp [intOf]; omega
    · have hkn : k = n := by omega
      subst hkn
      clear hs hp
      go_wp2_with fail
      go_ret
      exact ⟨rfl, rfl⟩
set_option maxRecDepth 100000 in
set_option maxHeartbeats 1000000 in
theorem r25Steps_is (n m : Int) : Calls Try.prog 82 #[.int .i64 n, .int .i64 m] w fun e w' => e = .returned (.tuple #[.int .i64 (if rightB n && rightB m then stepsN n.toNat m.toNat else 0 : Nat), .int .i64 (if rightB n && rightB m then 0 else 250 : Nat)]) ∧ w = w' := by
  have hR1 := r25Right_is (w := w) n
  have hR2 := r25Right_is (w := w) m
  cases hn : rightB n
  · rw [hn] at hR1
    clear hR2
    go_enter Try.func82, Try.ntmps82
    go_wp2_with fail
    refine hR1.mono ?_
    rintro e w' ⟨rfl, rfl⟩
    go_wp2_with fail
    go_ret2
    exact ⟨rfl, rfl⟩
  · cases hm : rightB m
    · rw [hn] at hR1
      rw [hm] at hR2
      go_enter Try.func82, Try.ntmps82
      go_wp2_with fail
      refine hR1.mono ?_
      rintro e w' ⟨rfl, rfl⟩
      go_wp2_with fail
      refine hR2.mono ?_
      rintro e w' ⟨rfl, rfl⟩
      go_wp2_with fail
      go_ret2
      exact ⟨rfl, rfl⟩
    · rw [hn] at hR1
      rw [hm] at hR2
      unfold rightB at hn hm
      simp only [Bool.and_eq_true, decide_eq_true_eq] at hn hm
      obtain ⟨n, rfl⟩ : ∃ k : Nat, n = k := ⟨n.toNat, by omega⟩
      obtain ⟨m, rfl⟩ : ∃ k : Nat, m = k := ⟨m.toNat, by omega⟩
      go_enter Try.func82, Try.ntmps82
      go_wp2_with fail
      refine hR1.mono ?_
      rintro e w' ⟨rfl, rfl⟩
      go_wp2_with fail
      refine hR2.mono ?_
      rintro e w' ⟨rfl, rfl⟩
      clear hR1 hR2
      go_wp2_with fail
      go_loopw [6] (fun i wr => ∃ k : Nat, k ≤ m ∧ i = .int .i64 k ∧ wr = w ∧ ∀ j, j < k → 2 ^ j < n) (fun i _ => m - (intOf i).toNat)
      case atStart => exact ⟨0, by omega, rfl, rfl, by omega⟩
      case round =>
        obtain ⟨k, hk, rfl, hww, hj⟩ := hrel
        subst wr
        by_cases hkm : k < m
        · have hP := r25Power_is (w := w) k (by omega)
          have hs := stepsN_at (w := n) (bits := m) hj hk
          have HS := Lib.hid hs; clear hs
          have HJ := Lib.hid hj; clear hj
          obtain ⟨P, hPe⟩ : ∃ P, P = 2 ^ k := ⟨_, rfl⟩
          rw [← hPe] at hP
          by_cases hlt : P < n
          · have HPE := Lib.hid hPe; clear hPe
            have HLT := Lib.hid hlt
            go_wp2_with fail
            refine hP.mono ?_
            rintro e w' ⟨rfl, rfl⟩
            go_wp2_with fail
            go_roundw
            case rel => exact ⟨k + 1, by omega, by go_num, by trivial, fun j hj => (by omega : j < k ∨ j = k).elim (HJ.out j) (fun e => e ▸ HPE.out ▸ HLT.out)⟩
            case measure => simp [intOf]; omega
          · have hs2 := HS.out (.inr (by omega))
            have HS2 := Lib.hid hs2; clear hs2 hPe HS
            go_wp2_with fail
            refine hP.mono ?_
            rintro e w' ⟨rfl, rfl⟩
            go_wp2_with fail
            go_ret2
            exact ⟨by simp [HS2.out], rfl⟩
        · have hs2 := stepsN_at hj hk (.inl (by omega))
          have HS2 := Lib.hid hs2
          clear hs2 hj
          go_wp2_with fail
          go_ret2
          exact ⟨by simp [HS2.out], rfl⟩
theorem intCells_snoc {l : List Int} {k : Nat} {x : Int} (h : l[k]? = some x) : intCells (l.take (k + 1)) = intCells (l.take k) ++ [.int .i64 x] := by unfold intCells; rw [List.take_add_one, h]; simp
set_option maxRecDepth 100000 in
set_option maxHeartbeats 4000000 in
theorem r25Shifted_1 {xa : Option Addr} {xl : List Int} (m xc n : Nat) (hS : Sl w xa xl) (hm : xl.length = m) (hl : m ≤ 16) (hn : n ≤ 9223372036854775807) :
    Calls Try.prog 116 #[.int .i64 1, .slice xa m xc, .int .i64 n] w fun e w' => ∃ v, e = .returned v ∧ INew w v (shL 1 xl n) w' := by
  have hat := fun k (hk : k < m) => shL_at (side := 1) (x := xl) (n := n) (i := k) (by omega)
  obtain ⟨SH, hSH⟩ : ∃ SH, SH = shL 1 xl n := ⟨_, rfl⟩
  have hll : SH.length = m := by rw [hSH]; simpa using hm
  rw [← hSH] at hat ⊢
  clear hSH
  have HAT := Lib.hid hat; clear hat
  have HLL := Lib.hid hll
  have HM := Lib.hid hm; clear hm
  have HS := Lib.hid hS; clear hS
  go_enter Try.func116, Try.ntmps116
  go_wp2_with fail
  go_loopw [7, 8] (fun o i wr => ∃ k : Nat, k ≤ m ∧ i = .int .i64 k ∧ Ch [] w wr ∧ row wr 3 1 o k (intCells (SH.take k)) ∧ ∀ q ∈ o.ownBlock.toList, w.heap.size ≤ q) (fun _ i _ => m - (intOf i).toNat)
  case atStart => exact ⟨0, by omega, rfl, Ch.refl _ _, ⟨rfl, .inl ⟨rfl, rfl⟩⟩, by simp⟩
  case round =>
    obtain ⟨k, hk, rfl, hc, hrow, hlo⟩ := hrel
    obtain ⟨oa, oc, rfl⟩ := row.shape hrow
    by_cases hlt : k < m
    · have hsk := HAT.out k hlt
      rw [if_pos trivial] at hsk
      by_cases hbig : 16 < n
      · rw [if_neg (by omega)] at hsk
        have d1 : decide ((16 : Int) < n) = true := decide_eq_true (by omega)
        have HROW := Lib.hid hrow; clear hrow
        have HC := Lib.hid hc; clear hc
        have HLO := Lib.hid hlo; clear hlo
        have HSK := Lib.hid hsk; clear hsk
        clear hbig
        have hcA : Ch [] wr (wr.alloc (.cells #[.int .i64 0] 3)) := (Ch.refl _ _).alloc _
        have hrA := HROW.out.ch hcA (by simp)
        have hbA : blk (wr.alloc (.cells #[.int .i64 0] 3)) wr.heap.size [.int .i64 0] := blk.new' _ _ rfl
        have HRA := Lib.hid hrA; clear hrA HROW
        have HBA := Lib.hid hbA; clear hbA
        have HCA := Lib.hid hcA; clear hcA
        go_wp2_with (at_builtin; go_loud (refine wpList_append_row slInts rfl _ _ rfl (v := .slice oa k oc) (n := k) (xs := intCells (SH.take k)) rfl HRA.out (ad := ⟨wr.heap.size, 0, none⟩) (m := 1) (c := 1) (news := [.int .i64 0]) rfl rfl (news_blk HBA.out) (by simp [Value.oneCell']) (by omega) (by omega) ?_; intro v' w4 hown4 hC4 hf4; have HO4 := Lib.hid hown4; clear hown4; have HC4 := Lib.hid hC4; clear hC4; have HF4 := Lib.hid hf4; clear hf4))
        go_roundw
        case rel =>
          obtain ⟨q1, q2⟩ := app_step HC.out HCA.out HLO.out HC4.out HF4.out
          refine ⟨k + 1, by omega, by go_num, q1, ?_, by simpa using q2⟩
          rw [intCells_snoc HSK.out]; exact HO4.out
        case measure => simp [intOf]; omega
      · have d1 : decide ((16 : Int) < n) = false := decide_eq_false (by omega)
        by_cases hk2 : n ≤ k
        · rw [if_pos hk2] at hsk
          obtain ⟨p, rfl⟩ : ∃ p, k = n + p := ⟨k - n, by omega⟩
          have hz : ((n + p : Nat) : Int) - n = p := by omega
          have d2 : decide ((p : Int) < 0) = false := decide_eq_false (by omega)
          have d3 : decide ((m : Int) ≤ p) = false := decide_eq_false (by omega)
          obtain ⟨x, hx⟩ : ∃ x, xl[p]? = some x := ⟨_, List.getElem?_eq_getElem (by have := HM.out; omega)⟩
          rw [show n + p - n = p by omega, List.getD_eq_getElem?_getD, hx, Option.getD_some] at hsk
          obtain ⟨xb, xo, rfl, hcl⟩ := HS.out.cells p x hx
          have c0 := (hc.cell (cell_lt hcl) (by simp)).trans hcl
          have HROW := Lib.hid hrow; clear hrow
          have HC := Lib.hid hc; clear hc
          have HLO := Lib.hid hlo; clear hlo
          have HSK := Lib.hid hsk; clear hsk
          clear hcl hx
          generalize hk9 : n + p = k at *
          have hcA : Ch [] wr (wr.alloc (.cells #[.int .i64 x] 3)) := (Ch.refl _ _).alloc _
          have hrA := HROW.out.ch hcA (by simp)
          have hbA : blk (wr.alloc (.cells #[.int .i64 x] 3)) wr.heap.size [.int .i64 x] := blk.new' _ _ rfl
          have HRA := Lib.hid hrA; clear hrA HROW
          have HBA := Lib.hid hbA; clear hbA
          have HCA := Lib.hid hcA; clear hcA
          go_wp2_with (at_builtin; go_loud (refine wpList_append_row slInts rfl _ _ rfl (v := .slice oa k oc) (n := k) (xs := intCells (SH.take k)) rfl HRA.out (ad := ⟨wr.heap.size, 0, none⟩) (m := 1) (c := 1) (news := [.int .i64 x]) rfl rfl (news_blk HBA.out) (by simp [Value.oneCell']) (by omega) (by omega) ?_; intro v' w4 hown4 hC4 hf4; have HO4 := Lib.hid hown4; clear hown4; have HC4 := Lib.hid hC4; clear hC4; have HF4 := Lib.hid hf4; clear hf4))
          go_roundw
          case rel =>
            obtain ⟨q1, q2⟩ := app_step HC.out HCA.out HLO.out HC4.out HF4.out
            refine ⟨k + 1, by omega, by go_num, q1, ?_, by simpa using q2⟩
            rw [intCells_snoc HSK.out]; exact HO4.out
          case measure => simp [intOf]; omega
        · rw [if_neg hk2] at hsk
          have d2 : decide ((k : Int) - n < 0) = true := decide_eq_true (by omega)
          have HROW := Lib.hid hrow; clear hrow
          have HC := Lib.hid hc; clear hc
          have HLO := Lib.hid hlo; clear hlo
          have HSK := Lib.hid hsk; clear hsk
          clear hk2
          have hcA : Ch [] wr (wr.alloc (.cells #[.int .i64 0] 3)) := (Ch.refl _ _).alloc _
          have hrA := HROW.out.ch hcA (by simp)
          have hbA : blk (wr.alloc (.cells #[.int .i64 0] 3)) wr.heap.size [.int .i64 0] := blk.new' _ _ rfl
          have HRA := Lib.hid hrA; clear hrA HROW
          have HBA := Lib.hid hbA; clear hbA
          have HCA := Lib.hid hcA; clear hcA
          go_wp2_with (at_builtin; go_loud (refine wpList_append_row slInts rfl _ _ rfl (v := .slice oa k oc) (n := k) (xs := intCells (SH.take k)) rfl HRA.out (ad := ⟨wr.heap.size, 0, none⟩) (m := 1) (c := 1) (news := [.int .i64 0]) rfl rfl (news_blk HBA.out) (by simp [Value.oneCell']) (by omega) (by omega) ?_; intro v' w4 hown4 hC4 hf4; have HO4 := Lib.hid hown4; clear hown4; have HC4 := Lib.hid hC4; clear hC4; have HF4 := Lib.hid hf4; clear hf4))
          go_roundw
          case rel =>
            obtain ⟨q1, q2⟩ := app_step HC.out HCA.out HLO.out HC4.out HF4.out
            refine ⟨k + 1, by omega, by go_num, q1, ?_, by simpa using q2⟩
            rw [intCells_snoc HSK.out]; exact HO4.out
          case measure => simp [intOf]; omega
    · have hkn : k = m := by omega
      rw [hkn, List.take_of_length_le (by omega)] at hrow
      rw [hkn] at hlo
      rw [hkn]
      have HROW := Lib.hid hrow; clear hrow
      have HLO := Lib.hid hlo; clear hlo
      have HC := Lib.hid hc; clear hc hkn
      go_wp2_with fail
      go_ret
      exact ⟨.slice oa m oc, rfl, by rw [HLL.out]; exact HROW.out, HLO.out, HC.out⟩
set_option maxRecDepth 100000 in
set_option maxHeartbeats 4000000 in
theorem r25Shifted_2 {xa : Option Addr} {xl : List Int} (m xc n : Nat) (hS : Sl w xa xl) (hm : xl.length = m) (hl : m ≤ 16) (hn : n ≤ 9223372036854775807) :
    Calls Try.prog 116 #[.int .i64 2, .slice xa m xc, .int .i64 n] w fun e w' => ∃ v, e = .returned v ∧ INew w v (shL 2 xl n) w' := by
  have hat := fun k (hk : k < m) => shL_at (side := 2) (x := xl) (n := n) (i := k) (by omega)
  obtain ⟨SH, hSH⟩ : ∃ SH, SH = shL 2 xl n := ⟨_, rfl⟩
  have hll : SH.length = m := by rw [hSH]; simpa using hm
  rw [← hSH] at hat ⊢
  clear hSH
  have HAT := Lib.hid hat; clear hat
  have HLL := Lib.hid hll
  have HM := Lib.hid hm; clear hm
  have HS := Lib.hid hS; clear hS
  go_enter Try.func116, Try.ntmps116
  go_wp2_with fail
  go_loopw [7, 8] (fun o i wr => ∃ k : Nat, k ≤ m ∧ i = .int .i64 k ∧ Ch [] w wr ∧ row wr 3 1 o k (intCells (SH.take k)) ∧ ∀ q ∈ o.ownBlock.toList, w.heap.size ≤ q) (fun _ i _ => m - (intOf i).toNat)
  case atStart => exact ⟨0, by omega, rfl, Ch.refl _ _, ⟨rfl, .inl ⟨rfl, rfl⟩⟩, by simp⟩
  case round =>
    obtain ⟨k, hk, rfl, hc, hrow, hlo⟩ := hrel
    obtain ⟨oa, oc, rfl⟩ := row.shape hrow
    by_cases hlt : k < m
    · have hsk := HAT.out k hlt
      rw [if_neg (by omega)] at hsk
      by_cases hbig : 16 < n
      · rw [List.getD_eq_getElem?_getD, show xl[k + n]? = none from List.getElem?_eq_none (by have := HM.out; omega), Option.getD_none] at hsk
        have d1 : decide ((16 : Int) < n) = true := decide_eq_true (by omega)
        have HROW := Lib.hid hrow; clear hrow
        have HC := Lib.hid hc; clear hc
        have HLO := Lib.hid hlo; clear hlo
        have HSK := Lib.hid hsk; clear hsk
        clear hbig
        have hcA : Ch [] wr (wr.alloc (.cells #[.int .i64 0] 3)) := (Ch.refl _ _).alloc _
        have hrA := HROW.out.ch hcA (by simp)
        have hbA : blk (wr.alloc (.cells #[.int .i64 0] 3)) wr.heap.size [.int .i64 0] := blk.new' _ _ rfl
        have HRA := Lib.hid hrA; clear hrA HROW
        have HBA := Lib.hid hbA; clear hbA
        have HCA := Lib.hid hcA; clear hcA
        go_wp2_with (at_builtin; go_loud (refine wpList_append_row slInts rfl _ _ rfl (v := .slice oa k oc) (n := k) (xs := intCells (SH.take k)) rfl HRA.out (ad := ⟨wr.heap.size, 0, none⟩) (m := 1) (c := 1) (news := [.int .i64 0]) rfl rfl (news_blk HBA.out) (by simp [Value.oneCell']) (by omega) (by omega) ?_; intro v' w4 hown4 hC4 hf4; have HO4 := Lib.hid hown4; clear hown4; have HC4 := Lib.hid hC4; clear hC4; have HF4 := Lib.hid hf4; clear hf4))
        go_roundw
        case rel =>
          obtain ⟨q1, q2⟩ := app_step HC.out HCA.out HLO.out HC4.out HF4.out
          refine ⟨k + 1, by omega, by go_num, q1, ?_, by simpa using q2⟩
          rw [intCells_snoc HSK.out]; exact HO4.out
        case measure => simp [intOf]; omega
      · have d1 : decide ((16 : Int) < n) = false := decide_eq_false (by omega)
        have d2 : decide ((k : Int) + n < 0) = false := decide_eq_false (by omega)
        by_cases hk2 : k + n < m
        · have d3 : decide ((m : Int) ≤ (k : Int) + n) = false := decide_eq_false (by omega)
          obtain ⟨x, hx⟩ : ∃ x, xl[k + n]? = some x := ⟨_, List.getElem?_eq_getElem (by have := HM.out; omega)⟩
          rw [List.getD_eq_getElem?_getD, hx, Option.getD_some] at hsk
          obtain ⟨xb, xo, rfl, hcl⟩ := HS.out.cells (k + n) x hx
          have c0 := (hc.cell (cell_lt hcl) (by simp)).trans hcl
          have HROW := Lib.hid hrow; clear hrow
          have HC := Lib.hid hc; clear hc
          have HLO := Lib.hid hlo; clear hlo
          have HSK := Lib.hid hsk; clear hsk
          clear hcl hx
          have hcA : Ch [] wr (wr.alloc (.cells #[.int .i64 x] 3)) := (Ch.refl _ _).alloc _
          have hrA := HROW.out.ch hcA (by simp)
          have hbA : blk (wr.alloc (.cells #[.int .i64 x] 3)) wr.heap.size [.int .i64 x] := blk.new' _ _ rfl
          have HRA := Lib.hid hrA; clear hrA HROW
          have HBA := Lib.hid hbA; clear hbA
          have HCA := Lib.hid hcA; clear hcA
          go_wp2_with (at_builtin; go_loud (refine wpList_append_row slInts rfl _ _ rfl (v := .slice oa k oc) (n := k) (xs := intCells (SH.take k)) rfl HRA.out (ad := ⟨wr.heap.size, 0, none⟩) (m := 1) (c := 1) (news := [.int .i64 x]) rfl rfl (news_blk HBA.out) (by simp [Value.oneCell']) (by omega) (by omega) ?_; intro v' w4 hown4 hC4 hf4; have HO4 := Lib.hid hown4; clear hown4; have HC4 := Lib.hid hC4; clear hC4; have HF4 := Lib.hid hf4; clear hf4))
          go_roundw
          case rel =>
            obtain ⟨q1, q2⟩ := app_step HC.out HCA.out HLO.out HC4.out HF4.out
            refine ⟨k + 1, by omega, by go_num, q1, ?_, by simpa using q2⟩
            rw [intCells_snoc HSK.out]; exact HO4.out
          case measure => simp [intOf]; omega
        · have d3 : decide ((m : Int) ≤ (k : Int) + n) = true := decide_eq_true (by omega)
          rw [List.getD_eq_getElem?_getD, show xl[k + n]? = none from List.getElem?_eq_none (by have := HM.out; omega), Option.getD_none] at hsk
          have HROW := Lib.hid hrow; clear hrow
          have HC := Lib.hid hc; clear hc
          have HLO := Lib.hid hlo; clear hlo
          have HSK := Lib.hid hsk; clear hsk
          clear hk2
          have hcA : Ch [] wr (wr.alloc (.cells #[.int .i64 0] 3)) := (Ch.refl _ _).alloc _
          have hrA := HROW.out.ch hcA (by simp)
          have hbA : blk (wr.alloc (.cells #[.int .i64 0] 3)) wr.heap.size [.int .i64 0] := blk.new' _ _ rfl
          have HRA := Lib.hid hrA; clear hrA HROW
          have HBA := Lib.hid hbA; clear hbA
          have HCA := Lib.hid hcA; clear hcA
          go_wp2_with (at_builtin; go_loud (refine wpList_append_row slInts rfl _ _ rfl (v := .slice oa k oc) (n := k) (xs := intCells (SH.take k)) rfl HRA.out (ad := ⟨wr.heap.size, 0, none⟩) (m := 1) (c := 1) (news := [.int .i64 0]) rfl rfl (news_blk HBA.out) (by simp [Value.oneCell']) (by omega) (by omega) ?_; intro v' w4 hown4 hC4 hf4; have HO4 := Lib.hid hown4; clear hown4; have HC4 := Lib.hid hC4; clear hC4; have HF4 := Lib.hid hf4; clear hf4))
          go_roundw
          case rel =>
            obtain ⟨q1, q2⟩ := app_step HC.out HCA.out HLO.out HC4.out HF4.out
            refine ⟨k + 1, by omega, by go_num, q1, ?_, by simpa using q2⟩
            rw [intCells_snoc HSK.out]; exact HO4.out
          case measure => simp [intOf]; omega
    · have hkn : k = m := by omega
      rw [hkn, List.take_of_length_le (by omega)] at hrow
      rw [hkn] at hlo
      rw [hkn]
      have HROW := Lib.hid hrow; clear hrow
      have HLO := Lib.hid hlo; clear hlo
      have HC := Lib.hid hc; clear hc hkn
      go_wp2_with fail
      go_ret
      exact ⟨.slice oa m oc, rfl, by rw [HLL.out]; exact HROW.out, HLO.out, HC.out⟩
theorem r25Shifted_is {side : Nat} (hs : side = 1 ∨ side = 2) {xa : Option Addr} {xl : List Int} (m xc n : Nat) (hS : Sl w xa xl) (hm : xl.length = m) (hl : m ≤ 16) (hn : n ≤ 9223372036854775807) :
    Calls Try.prog 116 #[.int .i64 side, .slice xa m xc, .int .i64 n] w fun e w' => ∃ v, e = .returned v ∧ INew w v (shL side xl n) w' := by
  rcases hs with rfl | rfl
  · exact r25Shifted_1 m xc n hS hm hl hn
  · exact r25Shifted_2 m xc n hS hm hl hn
set_option maxRecDepth 100000 in
set_option maxHeartbeats 4000000 in
theorem r25Turn_is {xa : Option Addr} {xl : List Int} (m xc : Nat) (n : Int) (hS : Sl w xa xl) (hm : xl.length = m) (h1 : 1 ≤ m) (hl : m ≤ 16) :
    Calls Try.prog 83 #[.slice xa m xc, .int .i64 n] w fun e w' => ∃ v, e = .returned v ∧ INew w v (turnL xl n) w' := by
  have hat := fun k (hk : k < m) => turnL_at (x := xl) (n := n) (i := k) (by omega)
  rw [hm] at hat
  obtain ⟨SH, hSH⟩ : ∃ SH, SH = turnL xl n := ⟨_, rfl⟩
  have hll : SH.length = m := by rw [hSH]; simpa using hm
  rw [← hSH] at hat ⊢
  clear hSH
  obtain ⟨q, hq⟩ : ∃ q, n.tmod m = q := ⟨_, rfl⟩
  have hqb : -(m : Int) < q ∧ q < m := by
    have h1 := Int.tmod_lt_of_pos n (show (0 : Int) < m by omega)
    have h2 := Int.lt_tmod_of_pos n (show (0 : Int) < m by omega)
    omega
  have hqm : q % m = n % m := by rw [← hq, Int.tmod_eq_emod]; split <;> simp
  have HQM := Lib.hid hqm; clear hqm
  have HAT := Lib.hid hat; clear hat
  have HLL := Lib.hid hll
  have HM := Lib.hid hm; clear hm
  have HS := Lib.hid hS; clear hS
  go_enter Try.func83, Try.ntmps83
  go_wp2_with fail
  go_loopw [5, 6] (fun o i wr => ∃ k : Nat, k ≤ m ∧ i = .int .i64 k ∧ Ch [] w wr ∧ row wr 3 1 o k (intCells (SH.take k)) ∧ ∀ q ∈ o.ownBlock.toList, w.heap.size ≤ q) (fun _ i _ => m - (intOf i).toNat)
  case atStart => exact ⟨0, by omega, rfl, Ch.refl _ _, ⟨rfl, .inl ⟨rfl, rfl⟩⟩, by simp⟩
  case round =>
    obtain ⟨k, hk, rfl, hc, hrow, hlo⟩ := hrel
    obtain ⟨oa, oc, rfl⟩ := row.shape hrow
    by_cases hlt : k < m
    · have hsk := HAT.out k hlt
      have hkq : ((k : Int) + n) % m = ((k : Int) + q) % m := by rw [← Int.add_emod_emod, ← HQM.out, Int.add_emod_emod]
      rw [hkq] at hsk
      clear hkq
      by_cases hneg : (k : Int) + q < 0
      · obtain ⟨p, hp⟩ : ∃ p : Nat, (k : Int) + q + m = p := ⟨((k : Int) + q + m).toNat, by omega⟩
        have hr : ((k : Int) + q).tmod m = (p : Int) - m := by
          have h2 : (-((k : Int) + q)).tmod m = -((k : Int) + q) := Int.tmod_eq_of_lt (by omega) (by omega)
          rw [Int.neg_tmod] at h2
          omega
        have he : ((k : Int) + q) % m = p := by
          rw [← Int.add_emod_right, hp]
          exact Int.emod_eq_of_lt (by omega) (by omega)
        rw [he, Int.toNat_natCast] at hsk
        obtain ⟨x, hx⟩ : ∃ x, xl[p]? = some x := ⟨_, List.getElem?_eq_getElem (by have := HM.out; omega)⟩
        rw [hx] at hsk
        obtain ⟨xb, xo, rfl, hcl⟩ := HS.out.cells p x hx
        have c0 := (hc.cell (cell_lt hcl) (by simp)).trans hcl
        have d1 : decide ((p : Int) - m < 0) = true := decide_eq_true (by omega)
        have d2 : (p : Int) - m + m = p := by omega
        have d3 : p < m := by omega
        have HROW := Lib.hid hrow; clear hrow
        have HC := Lib.hid hc; clear hc
        have HLO := Lib.hid hlo; clear hlo
        have HSK := Lib.hid hsk; clear hsk
        clear hcl hx he hp hneg
        have hcA : Ch [] wr (wr.alloc (.cells #[.int .i64 x] 3)) := (Ch.refl _ _).alloc _
        have hrA := HROW.out.ch hcA (by simp)
        have hbA : blk (wr.alloc (.cells #[.int .i64 x] 3)) wr.heap.size [.int .i64 x] := blk.new' _ _ rfl
        have HRA := Lib.hid hrA; clear hrA HROW
        have HBA := Lib.hid hbA; clear hbA
        have HCA := Lib.hid hcA; clear hcA
        go_wp2_with (at_builtin; go_loud (refine wpList_append_row slInts rfl _ _ rfl (v := .slice oa k oc) (n := k) (xs := intCells (SH.take k)) rfl HRA.out (ad := ⟨wr.heap.size, 0, none⟩) (m := 1) (c := 1) (news := [.int .i64 x]) rfl rfl (news_blk HBA.out) (by simp [Value.oneCell']) (by omega) (by omega) ?_; intro v' w4 hown4 hC4 hf4; have HO4 := Lib.hid hown4; clear hown4; have HC4 := Lib.hid hC4; clear hC4; have HF4 := Lib.hid hf4; clear hf4))
        go_roundw
        case rel =>
          obtain ⟨q1, q2⟩ := app_step HC.out HCA.out HLO.out HC4.out HF4.out
          refine ⟨k + 1, by omega, by go_num, q1, ?_, by simpa using q2⟩
          rw [intCells_snoc HSK.out]; exact HO4.out
        case measure => simp [intOf]; omega
      · obtain ⟨p, hp⟩ : ∃ p : Nat, ((k : Int) + q) % m = p := ⟨(((k : Int) + q) % m).toNat, by have := Int.emod_nonneg ((k : Int) + q) (show (m : Int) ≠ 0 by omega); omega⟩
        have hpm : p < m := by have := Int.emod_lt_of_pos ((k : Int) + q) (show (0 : Int) < m by omega); omega
        have hr : ((k : Int) + q).tmod m = p := by rw [Int.tmod_eq_emod_of_nonneg (by omega), hp]
        rw [hp, Int.toNat_natCast] at hsk
        obtain ⟨x, hx⟩ : ∃ x, xl[p]? = some x := ⟨_, List.getElem?_eq_getElem (by have := HM.out; omega)⟩
        rw [hx] at hsk
        obtain ⟨xb, xo, rfl, hcl⟩ := HS.out.cells p x hx
        have c0 := (hc.cell (cell_lt hcl) (by simp)).trans hcl
        have d1 : decide ((p : Int) < 0) = false := decide_eq_false (by omega)
        have HROW := Lib.hid hrow; clear hrow
        have HC := Lib.hid hc; clear hc
        have HLO := Lib.hid hlo; clear hlo
        have HSK := Lib.hid hsk; clear hsk
        clear hcl hx hp hneg
        have hcA : Ch [] wr (wr.alloc (.cells #[.int .i64 x] 3)) := (Ch.refl _ _).alloc _
        have hrA := HROW.out.ch hcA (by simp)
        have hbA : blk (wr.alloc (.cells #[.int .i64 x] 3)) wr.heap.size [.int .i64 x] := blk.new' _ _ rfl
        have HRA := Lib.hid hrA; clear hrA HROW
        have HBA := Lib.hid hbA; clear hbA
        have HCA := Lib.hid hcA; clear hcA
        go_wp2_with (at_builtin; go_loud (refine wpList_append_row slInts rfl _ _ rfl (v := .slice oa k oc) (n := k) (xs := intCells (SH.take k)) rfl HRA.out (ad := ⟨wr.heap.size, 0, none⟩) (m := 1) (c := 1) (news := [.int .i64 x]) rfl rfl (news_blk HBA.out) (by simp [Value.oneCell']) (by omega) (by omega) ?_; intro v' w4 hown4 hC4 hf4; have HO4 := Lib.hid hown4; clear hown4; have HC4 := Lib.hid hC4; clear hC4; have HF4 := Lib.hid hf4; clear hf4))
        go_roundw
        case rel =>
          obtain ⟨q1, q2⟩ := app_step HC.out HCA.out HLO.out HC4.out HF4.out
          refine ⟨k + 1, by omega, by go_num, q1, ?_, by simpa using q2⟩
          rw [intCells_snoc HSK.out]; exact HO4.out
        case measure => simp [intOf]; omega
    · have hkn : k = m := by omega
      rw [hkn, List.take_of_length_le (by omega)] at hrow
      rw [hkn] at hlo
      rw [hkn]
      have HROW := Lib.hid hrow; clear hrow
      have HLO := Lib.hid hlo; clear hlo
      have HC := Lib.hid hc; clear hc hkn
      go_wp2_with fail
      go_ret
      exact ⟨.slice oa m oc, rfl, by rw [HLL.out]; exact HROW.out, HLO.out, HC.out⟩
end
end Go.Proofs.Ytchledddgmbndaa
namespace Go.Proofs.Ytchledddgmbndaa
open Go.RowKit Go.Mem Go.Aig
section
variable {w : World}
def chk25 (q : Int → Bool) (side : Nat) (x y : List Int) : Nat := if side ≠ 1 ∧ side ≠ 2 then 251 else if rightB x.length = false ∨ rightB y.length = false then 250 else if (x ++ y).any (fun r => !q r) then 200 else 0
theorem Sl.some {w : World} {a : Option Addr} {l : List Int} (h : Sl w a l) (h0 : 0 < l.length) : ∃ p, a = some p ∧ ∀ j u, (intCells l)[j]? = some u → w.cell? (p.add j) = some u := by
  obtain ⟨b, o, rfl, _⟩ := h.cells 0 _ (List.getElem?_eq_getElem h0)
  refine ⟨_, rfl, fun j u hu => ?_⟩
  simp only [intCells, List.getElem?_map, Option.map_eq_some_iff] at hu
  obtain ⟨x, hx, rfl⟩ := hu
  obtain ⟨b', o', e, hc⟩ := h.cells j x hx
  cases e
  rw [Addr.add_lit]
  exact hc
theorem one_ints (l : List Int) : ∀ u ∈ intCells l, u.oneCell' = true := fun u hu => by
  obtain ⟨r, _, rfl⟩ := List.mem_map.1 hu
  rfl
set_option maxRecDepth 100000 in
set_option maxHeartbeats 4000000 in
theorem r25Check_loop1 {mo : Int} {ga : Option Addr} {gn gc : Nat} (q : Int → Bool) (hq : ∀ W r, Ch [] w W → Calls Try.prog 128 #[.agg #[.int .i64 mo, .slice ga gn gc], .int .i64 r] W fun e w' => e = .returned (.bool (q r)) ∧ Ch [] W w')
    {xa ya : Option Addr} {xl yl : List Int} (m xc k yc : Nat) (hX : Sl w xa xl) (hY : Sl w ya yl) (hm : xl.length = m) (hk : yl.length = k) (hr1 : rightB m = true) (hr2 : rightB k = true) :
    Calls Try.prog 95 #[.agg #[.int .i64 mo, .slice ga gn gc], .int .i64 1, .slice xa m xc, .slice ya k yc] w fun e w' => e = .returned (.int .i64 (if (xl ++ yl).any (fun r => !q r) then 200 else 0 : Nat)) ∧ Ch [] w w' := by
  have hR1 := fun W => r25Right_is (w := W) m
  have hR2 := fun W => r25Right_is (w := W) k
  rw [hr1] at hR1
  rw [hr2] at hR2
  unfold rightB at hr1 hr2
  simp only [Bool.and_eq_true, decide_eq_true_eq] at hr1 hr2
  obtain ⟨px, rfl, hxc⟩ := hX.some (by omega)
  obtain ⟨py, rfl, hyc⟩ := hY.some (by omega)
  obtain ⟨AL, hAL⟩ : ∃ AL, AL = xl ++ yl := ⟨_, rfl⟩
  have hALn : AL.length = m + k := by rw [hAL, List.length_append, hm, hk]
  have hALc : intCells AL = intCells xl ++ intCells yl := by rw [hAL]; simp [intCells]
  rw [← hAL]
  obtain ⟨RES, hRES⟩ : ∃ RES : Nat, RES = if AL.any (fun r => !q r) then 200 else 0 := ⟨_, rfl⟩
  rw [← hRES]
  have HRES := Lib.hid hRES; clear hRES
  have HQ := Lib.hid hq; clear hq
  have HXC := Lib.hid hxc; clear hxc hX
  have HYC := Lib.hid hyc; clear hyc hY
  have h0 : Ch [] w ((w.alloc (.cells #[.int .i64 mo, .slice ga gn gc] 132)).alloc (.cells #[] 3)) := ((Ch.refl _ _).alloc _).alloc _
  have hO : row ((w.alloc (.cells #[.int .i64 mo, .slice ga gn gc] 132)).alloc (.cells #[] 3)) 3 1 (.slice (some ⟨w.heap.size + 1, 0, none⟩) 0 0) 0 [] := by
    have := row_new0 (w := w.alloc (.cells #[.int .i64 mo, .slice ga gn gc] 132)) (W := (w.alloc (.cells #[.int .i64 mo, .slice ga gn gc] 132)).alloc (.cells #[] 3)) (e := 3) (size := 1) rfl
    simpa using this
  have hb : blk ((w.alloc (.cells #[.int .i64 mo, .slice ga gn gc] 132)).alloc (.cells #[] 3)) w.heap.size [.int .i64 mo, .slice ga gn gc] := (blk.new' _ _ rfl).alloc _
  have HO := Lib.hid hO; clear hO
  have H0 := Lib.hid h0; clear h0
  have HB := Lib.hid hb; clear hb
  have HALN := Lib.hid hALn; clear hALn
  have HALC := Lib.hid hALc; clear hALc hAL
  go_enter Try.func95, Try.ntmps95
  go_wp2_with fail
  refine (hR1 _).mono ?_
  rintro e w' ⟨rfl, rfl⟩
  go_wp2_with fail
  refine (hR2 _).mono ?_
  rintro e w' ⟨rfl, rfl⟩
  clear hR1 hR2
  go_wp2_with (at_builtin; first
    | go_loud (refine wpList_append_row slInts rfl _ _ rfl (v := .slice (some ⟨w.heap.size + 1, 0, none⟩) 0 0) (n := 0) (xs := []) rfl HO.out (ad := px) (m := m) (c := xc) (news := intCells xl) rfl (by simp [intCells, hm]) (fun j u hu => (H0.out.cell (cell_lt (HXC.out j u hu)) (by simp)).trans (HXC.out j u hu)) (one_ints xl) (by omega) (by omega) ?_; intro v1 w1 hown1 hC1 hf1; have HO1 := Lib.hid hown1; clear hown1; have HC1 := Lib.hid hC1; clear hC1; have HF1 := Lib.hid hf1; clear hf1)
    | go_loud (refine wpList_append_row slInts rfl _ _ rfl (v := v1) (n := 0 + m) (xs := [] ++ intCells xl) rfl HO1.out (ad := py) (m := k) (c := yc) (news := intCells yl) rfl (by simp [intCells, hk]) (fun j u hu => ((H0.out.trans HC1.out (fun q hq => .inr (by simp at hq; omega))).cell (cell_lt (HYC.out j u hu)) (by simp)).trans (HYC.out j u hu)) (one_ints yl) (by omega) (by omega) ?_; intro v2 w2 hown2 hC2 hf2; have HO2 := Lib.hid hown2; clear hown2; have HC2 := Lib.hid hC2; clear hC2; have HF2 := Lib.hid hf2; clear hf2))
  have hrow : row w2 3 1 v2 (m + k) (intCells AL) := by
    have := HO2.out
    rw [List.nil_append, ← HALC.out, Nat.zero_add] at this
    exact this
  obtain ⟨ab, ac, rfl⟩ := row.parts hrow (by omega)
  have hch : Ch [] w w2 := (H0.out.trans HC1.out (fun q hq => .inr (by simp at hq; omega))).trans HC2.out (fun q hq => .inr (by
    rcases HF1.out q (by simpa using hq) with e | e
    · simp at e; omega
    · have := H0.out.size; omega))
  have hb2 : blk w2 w.heap.size [.int .i64 mo, .slice ga gn gc] := (HB.out.ch HC1.out (by simp)).ch HC2.out (fun hk => by
    rcases HF1.out _ (by simpa using hk) with e | e
    · simp at e
    · simp at e; omega)
  have hsl := Sl.of_ints hrow (by omega)
  have HB2 := Lib.hid hb2; clear hb2
  have HCH := Lib.hid hch; clear hch
  have HSL := Lib.hid hsl; clear hsl hrow HO2 HC2 HF2 HO1 HC1 HF1 HB HO H0 HALC
  go_loopw [10] (fun i wr => ∃ j : Nat, j ≤ m + k ∧ i = .int .i64 j ∧ Ch [] w2 wr ∧ ∀ r ∈ AL.take j, q r = true) (fun i _ => m + k - (intOf i).toNat)
  case atStart => exact ⟨0, by omega, rfl, Ch.refl _ _, by simp⟩
  case round =>
    obtain ⟨j, hj, rfl, hc, hall⟩ := hrel
    by_cases hlt : j < m + k
    · obtain ⟨r, hr⟩ : ∃ r, AL[j]? = some r := ⟨_, List.getElem?_eq_getElem (by rw [HALN.out]; exact hlt)⟩
      obtain ⟨b9, o9, e9, hcl⟩ := HSL.out.cells j r hr
      cases e9
      rw [Nat.zero_add] at hcl
      have c0 := (hc.cell (cell_lt hcl) (by simp)).trans hcl
      have hb2 := HB2.out.ch hc (by simp)
      have y0 := hb2.cell (i := 0) rfl
      have y1 := hb2.cell (i := 1) rfl
      have hqq := HQ.out wr.drew r ((HCH.out.trans hc (by simp)).drew)
      have hsn : AL.take (j + 1) = AL.take j ++ [r] := by rw [List.take_add_one, hr]; rfl
      have hany : q r = false → AL.any (fun r => !q r) = true := fun e => List.any_eq_true.2 ⟨r, List.mem_of_getElem? hr, by rw [e]; rfl⟩
      have HC := Lib.hid hc; clear hc
      have HALL := Lib.hid hall; clear hall
      have HSN := Lib.hid hsn; clear hsn
      have HANY := Lib.hid hany; clear hany hcl hr hb2
      cases hqr : q r
      · rw [hqr] at hqq
        have HQQ := Lib.hid hqq; clear hqq
        have HQR := Lib.hid hqr; clear hqr
        go_wp2_with fail
        refine Ord.St.door (fun _ => True) [.rd, .fl, .fl, .fl, .rd, .ef, .fl] [0, 0, 0, 6, 14, 31, 63] [0, 1, 2, 3, 4, 5, 6] mixed (by kernel_rfl) rfl ?_
        refine Ord.St.rd2 (T' := ?_) 0 [1, 2, 3, 4, 5, 6] _ _ rfl (by kernel_rfl) rfl rfl rfl rfl (fun K hk => ?_) ?_
        rotate_left
        · go_step; exact hk
        refine Ord.St.fl2 (T' := ?_) 1 [2, 3, 4, 5, 6] _ _ rfl (by kernel_rfl) rfl rfl rfl rfl (fun K w' hk => ?_) ?_
        rotate_left
        · go_step; exact hk
        refine Ord.St.fl2 (T' := ?_) 2 [3, 4, 5, 6] _ _ rfl (by kernel_rfl) rfl rfl rfl rfl (fun K w' hk => ?_) ?_
        rotate_left
        · go_step; exact hk
        refine Ord.St.fl2 (T' := ?_) 3 [4, 5, 6] _ _ rfl (by kernel_rfl) rfl rfl rfl rfl (fun K w' hk => ?_) ?_
        rotate_left
        · go_step; exact hk
        refine Ord.St.rd2 (T' := ?_) 4 [5, 6] _ _ rfl (by kernel_rfl) rfl rfl rfl rfl (fun K hk => ?_) ?_
        rotate_left
        · go_step; exact hk
        refine Ord.St.ef 5 [6] _ rfl (by kernel_rfl) (fun K hK => ?_)
        go_wp2_with fail
        refine HQQ.out.mono ?_
        rintro e w5 ⟨rfl, hc5⟩
        have HC5 := Lib.hid hc5; clear hc5
        go_wp2_with fail
        refine ⟨rfl, hK _ _ ?_⟩; clear hK K
        refine Ord.St.fl2 (T' := ?_) 6 [] _ _ rfl (by kernel_rfl) rfl rfl rfl rfl (fun K w' hk => ?_) ?_
        rotate_left
        · go_step; exact hk
        refine Ord.St.nil ?_
        go_wp2_with fail
        go_ret
        exact ⟨by rw [show RES = 200 from by rw [HRES.out, HANY.out HQR.out]; rfl]; rfl, (HCH.out.trans HC.out (by simp)).trans (((Ch.refl [] wr).drew).trans HC5.out (by simp)) (by simp)⟩
      · rw [hqr] at hqq
        have HQQ := Lib.hid hqq; clear hqq
        have HQR := Lib.hid hqr; clear hqr
        go_wp2_with fail
        refine Ord.St.door (fun _ => True) [.rd, .fl, .fl, .fl, .rd, .ef, .fl] [0, 0, 0, 6, 14, 31, 63] [0, 1, 2, 3, 4, 5, 6] mixed (by kernel_rfl) rfl ?_
        refine Ord.St.rd2 (T' := ?_) 0 [1, 2, 3, 4, 5, 6] _ _ rfl (by kernel_rfl) rfl rfl rfl rfl (fun K hk => ?_) ?_
        rotate_left
        · go_step; exact hk
        refine Ord.St.fl2 (T' := ?_) 1 [2, 3, 4, 5, 6] _ _ rfl (by kernel_rfl) rfl rfl rfl rfl (fun K w' hk => ?_) ?_
        rotate_left
        · go_step; exact hk
        refine Ord.St.fl2 (T' := ?_) 2 [3, 4, 5, 6] _ _ rfl (by kernel_rfl) rfl rfl rfl rfl (fun K w' hk => ?_) ?_
        rotate_left
        · go_step; exact hk
        refine Ord.St.fl2 (T' := ?_) 3 [4, 5, 6] _ _ rfl (by kernel_rfl) rfl rfl rfl rfl (fun K w' hk => ?_) ?_
        rotate_left
        · go_step; exact hk
        refine Ord.St.rd2 (T' := ?_) 4 [5, 6] _ _ rfl (by kernel_rfl) rfl rfl rfl rfl (fun K hk => ?_) ?_
        rotate_left
        · go_step; exact hk
        refine Ord.St.ef 5 [6] _ rfl (by kernel_rfl) (fun K hK => ?_)
        go_wp2_with fail
        refine HQQ.out.mono ?_
        rintro e w5 ⟨rfl, hc5⟩
        have HC5 := Lib.hid hc5; clear hc5
        go_wp2_with fail
        refine ⟨rfl, hK _ _ ?_⟩; clear hK K
        refine Ord.St.fl2 (T' := ?_) 6 [] _ _ rfl (by kernel_rfl) rfl rfl rfl rfl (fun K w' hk => ?_) ?_
        rotate_left
        · go_step; exact hk
        refine Ord.St.nil ?_
        go_wp2_with fail
        go_roundw
        case rel => exact ⟨j + 1, by omega, by go_num, HC.out.trans (((Ch.refl [] wr).drew).trans HC5.out (by simp)) (by simp), fun x hx => by
          rw [HSN.out] at hx
          rcases List.mem_append.1 hx with hx | hx
          · exact HALL.out x hx
          · rw [List.mem_singleton.1 hx]; exact HQR.out⟩
        case measure => simp [intOf]; omega
    · have hany : AL.any (fun r => !q r) = false := by
        rw [List.take_of_length_le (by rw [HALN.out]; omega)] at hall
        rw [List.any_eq_false]
        intro x hx
        rw [hall x hx]
        simp
      have HANY := Lib.hid hany; clear hany
      have HC := Lib.hid hc; clear hc
      clear hall
      go_wp2_with fail
      go_ret
      exact ⟨by rw [show RES = 0 from by rw [HRES.out, HANY.out]; rfl]; rfl, HCH.out.trans HC.out (by simp)⟩
set_option maxRecDepth 100000 in
set_option maxHeartbeats 4000000 in
theorem r25Check_loop2 {mo : Int} {ga : Option Addr} {gn gc : Nat} (q : Int → Bool) (hq : ∀ W r, Ch [] w W → Calls Try.prog 128 #[.agg #[.int .i64 mo, .slice ga gn gc], .int .i64 r] W fun e w' => e = .returned (.bool (q r)) ∧ Ch [] W w')
    {xa ya : Option Addr} {xl yl : List Int} (m xc k yc : Nat) (hX : Sl w xa xl) (hY : Sl w ya yl) (hm : xl.length = m) (hk : yl.length = k) (hr1 : rightB m = true) (hr2 : rightB k = true) :
    Calls Try.prog 95 #[.agg #[.int .i64 mo, .slice ga gn gc], .int .i64 2, .slice xa m xc, .slice ya k yc] w fun e w' => e = .returned (.int .i64 (if (xl ++ yl).any (fun r => !q r) then 200 else 0 : Nat)) ∧ Ch [] w w' := by
  have hR1 := fun W => r25Right_is (w := W) m
  have hR2 := fun W => r25Right_is (w := W) k
  rw [hr1] at hR1
  rw [hr2] at hR2
  unfold rightB at hr1 hr2
  simp only [Bool.and_eq_true, decide_eq_true_eq] at hr1 hr2
  obtain ⟨px, rfl, hxc⟩ := hX.some (by omega)
  obtain ⟨py, rfl, hyc⟩ := hY.some (by omega)
  obtain ⟨AL, hAL⟩ : ∃ AL, AL = xl ++ yl := ⟨_, rfl⟩
  have hALn : AL.length = m + k := by rw [hAL, List.length_append, hm, hk]
  have hALc : intCells AL = intCells xl ++ intCells yl := by rw [hAL]; simp [intCells]
  rw [← hAL]
  obtain ⟨RES, hRES⟩ : ∃ RES : Nat, RES = if AL.any (fun r => !q r) then 200 else 0 := ⟨_, rfl⟩
  rw [← hRES]
  have HRES := Lib.hid hRES; clear hRES
  have HQ := Lib.hid hq; clear hq
  have HXC := Lib.hid hxc; clear hxc hX
  have HYC := Lib.hid hyc; clear hyc hY
  have h0 : Ch [] w ((w.alloc (.cells #[.int .i64 mo, .slice ga gn gc] 132)).alloc (.cells #[] 3)) := ((Ch.refl _ _).alloc _).alloc _
  have hO : row ((w.alloc (.cells #[.int .i64 mo, .slice ga gn gc] 132)).alloc (.cells #[] 3)) 3 1 (.slice (some ⟨w.heap.size + 1, 0, none⟩) 0 0) 0 [] := by
    have := row_new0 (w := w.alloc (.cells #[.int .i64 mo, .slice ga gn gc] 132)) (W := (w.alloc (.cells #[.int .i64 mo, .slice ga gn gc] 132)).alloc (.cells #[] 3)) (e := 3) (size := 1) rfl
    simpa using this
  have hb : blk ((w.alloc (.cells #[.int .i64 mo, .slice ga gn gc] 132)).alloc (.cells #[] 3)) w.heap.size [.int .i64 mo, .slice ga gn gc] := (blk.new' _ _ rfl).alloc _
  have HO := Lib.hid hO; clear hO
  have H0 := Lib.hid h0; clear h0
  have HB := Lib.hid hb; clear hb
  have HALN := Lib.hid hALn; clear hALn
  have HALC := Lib.hid hALc; clear hALc hAL
  go_enter Try.func95, Try.ntmps95
  go_wp2_with fail
  refine (hR1 _).mono ?_
  rintro e w' ⟨rfl, rfl⟩
  go_wp2_with fail
  refine (hR2 _).mono ?_
  rintro e w' ⟨rfl, rfl⟩
  clear hR1 hR2
  go_wp2_with (at_builtin; first
    | go_loud (refine wpList_append_row slInts rfl _ _ rfl (v := .slice (some ⟨w.heap.size + 1, 0, none⟩) 0 0) (n := 0) (xs := []) rfl HO.out (ad := px) (m := m) (c := xc) (news := intCells xl) rfl (by simp [intCells, hm]) (fun j u hu => (H0.out.cell (cell_lt (HXC.out j u hu)) (by simp)).trans (HXC.out j u hu)) (one_ints xl) (by omega) (by omega) ?_; intro v1 w1 hown1 hC1 hf1; have HO1 := Lib.hid hown1; clear hown1; have HC1 := Lib.hid hC1; clear hC1; have HF1 := Lib.hid hf1; clear hf1)
    | go_loud (refine wpList_append_row slInts rfl _ _ rfl (v := v1) (n := 0 + m) (xs := [] ++ intCells xl) rfl HO1.out (ad := py) (m := k) (c := yc) (news := intCells yl) rfl (by simp [intCells, hk]) (fun j u hu => ((H0.out.trans HC1.out (fun q hq => .inr (by simp at hq; omega))).cell (cell_lt (HYC.out j u hu)) (by simp)).trans (HYC.out j u hu)) (one_ints yl) (by omega) (by omega) ?_; intro v2 w2 hown2 hC2 hf2; have HO2 := Lib.hid hown2; clear hown2; have HC2 := Lib.hid hC2; clear hC2; have HF2 := Lib.hid hf2; clear hf2))
  have hrow : row w2 3 1 v2 (m + k) (intCells AL) := by
    have := HO2.out
    rw [List.nil_append, ← HALC.out, Nat.zero_add] at this
    exact this
  obtain ⟨ab, ac, rfl⟩ := row.parts hrow (by omega)
  have hch : Ch [] w w2 := (H0.out.trans HC1.out (fun q hq => .inr (by simp at hq; omega))).trans HC2.out (fun q hq => .inr (by
    rcases HF1.out q (by simpa using hq) with e | e
    · simp at e; omega
    · have := H0.out.size; omega))
  have hb2 : blk w2 w.heap.size [.int .i64 mo, .slice ga gn gc] := (HB.out.ch HC1.out (by simp)).ch HC2.out (fun hk => by
    rcases HF1.out _ (by simpa using hk) with e | e
    · simp at e
    · simp at e; omega)
  have hsl := Sl.of_ints hrow (by omega)
  have HB2 := Lib.hid hb2; clear hb2
  have HCH := Lib.hid hch; clear hch
  have HSL := Lib.hid hsl; clear hsl hrow HO2 HC2 HF2 HO1 HC1 HF1 HB HO H0 HALC
  go_loopw [10] (fun i wr => ∃ j : Nat, j ≤ m + k ∧ i = .int .i64 j ∧ Ch [] w2 wr ∧ ∀ r ∈ AL.take j, q r = true) (fun i _ => m + k - (intOf i).toNat)
  case atStart => exact ⟨0, by omega, rfl, Ch.refl _ _, by simp⟩
  case round =>
    obtain ⟨j, hj, rfl, hc, hall⟩ := hrel
    by_cases hlt : j < m + k
    · obtain ⟨r, hr⟩ : ∃ r, AL[j]? = some r := ⟨_, List.getElem?_eq_getElem (by rw [HALN.out]; exact hlt)⟩
      obtain ⟨b9, o9, e9, hcl⟩ := HSL.out.cells j r hr
      cases e9
      rw [Nat.zero_add] at hcl
      have c0 := (hc.cell (cell_lt hcl) (by simp)).trans hcl
      have hb2 := HB2.out.ch hc (by simp)
      have y0 := hb2.cell (i := 0) rfl
      have y1 := hb2.cell (i := 1) rfl
      have hqq := HQ.out wr.drew r ((HCH.out.trans hc (by simp)).drew)
      have hsn : AL.take (j + 1) = AL.take j ++ [r] := by rw [List.take_add_one, hr]; rfl
      have hany : q r = false → AL.any (fun r => !q r) = true := fun e => List.any_eq_true.2 ⟨r, List.mem_of_getElem? hr, by rw [e]; rfl⟩
      have HC := Lib.hid hc; clear hc
      have HALL := Lib.hid hall; clear hall
      have HSN := Lib.hid hsn; clear hsn
      have HANY := Lib.hid hany; clear hany hcl hr hb2
      cases hqr : q r
      · rw [hqr] at hqq
        have HQQ := Lib.hid hqq; clear hqq
        have HQR := Lib.hid hqr; clear hqr
        go_wp2_with fail
        refine Ord.St.door (fun _ => True) [.rd, .fl, .fl, .fl, .rd, .ef, .fl] [0, 0, 0, 6, 14, 31, 63] [0, 1, 2, 3, 4, 5, 6] mixed (by kernel_rfl) rfl ?_
        refine Ord.St.rd2 (T' := ?_) 0 [1, 2, 3, 4, 5, 6] _ _ rfl (by kernel_rfl) rfl rfl rfl rfl (fun K hk => ?_) ?_
        rotate_left
        · go_step; exact hk
        refine Ord.St.fl2 (T' := ?_) 1 [2, 3, 4, 5, 6] _ _ rfl (by kernel_rfl) rfl rfl rfl rfl (fun K w' hk => ?_) ?_
        rotate_left
        · go_step; exact hk
        refine Ord.St.fl2 (T' := ?_) 2 [3, 4, 5, 6] _ _ rfl (by kernel_rfl) rfl rfl rfl rfl (fun K w' hk => ?_) ?_
        rotate_left
        · go_step; exact hk
        refine Ord.St.fl2 (T' := ?_) 3 [4, 5, 6] _ _ rfl (by kernel_rfl) rfl rfl rfl rfl (fun K w' hk => ?_) ?_
        rotate_left
        · go_step; exact hk
        refine Ord.St.rd2 (T' := ?_) 4 [5, 6] _ _ rfl (by kernel_rfl) rfl rfl rfl rfl (fun K hk => ?_) ?_
        rotate_left
        · go_step; exact hk
        refine Ord.St.ef 5 [6] _ rfl (by kernel_rfl) (fun K hK => ?_)
        go_wp2_with fail
        refine HQQ.out.mono ?_
        rintro e w5 ⟨rfl, hc5⟩
        have HC5 := Lib.hid hc5; clear hc5
        go_wp2_with fail
        refine ⟨rfl, hK _ _ ?_⟩; clear hK K
        refine Ord.St.fl2 (T' := ?_) 6 [] _ _ rfl (by kernel_rfl) rfl rfl rfl rfl (fun K w' hk => ?_) ?_
        rotate_left
        · go_step; exact hk
        refine Ord.St.nil ?_
        go_wp2_with fail
        go_ret
        exact ⟨by rw [show RES = 200 from by rw [HRES.out, HANY.out HQR.out]; rfl]; rfl, (HCH.out.trans HC.out (by simp)).trans (((Ch.refl [] wr).drew).trans HC5.out (by simp)) (by simp)⟩
      · rw [hqr] at hqq
        have HQQ := Lib.hid hqq; clear hqq
        have HQR := Lib.hid hqr; clear hqr
        go_wp2_with fail
        refine Ord.St.door (fun _ => True) [.rd, .fl, .fl, .fl, .rd, .ef, .fl] [0, 0, 0, 6, 14, 31, 63] [0, 1, 2, 3, 4, 5, 6] mixed (by kernel_rfl) rfl ?_
        refine Ord.St.rd2 (T' := ?_) 0 [1, 2, 3, 4, 5, 6] _ _ rfl (by kernel_rfl) rfl rfl rfl rfl (fun K hk => ?_) ?_
        rotate_left
        · go_step; exact hk
        refine Ord.St.fl2 (T' := ?_) 1 [2, 3, 4, 5, 6] _ _ rfl (by kernel_rfl) rfl rfl rfl rfl (fun K w' hk => ?_) ?_
        rotate_left
        · go_step; exact hk
        refine Ord.St.fl2 (T' := ?_) 2 [3, 4, 5, 6] _ _ rfl (by kernel_rfl) rfl rfl rfl rfl (fun K w' hk => ?_) ?_
        rotate_left
        · go_step; exact hk
        refine Ord.St.fl2 (T' := ?_) 3 [4, 5, 6] _ _ rfl (by kernel_rfl) rfl rfl rfl rfl (fun K w' hk => ?_) ?_
        rotate_left
        · go_step; exact hk
        refine Ord.St.rd2 (T' := ?_) 4 [5, 6] _ _ rfl (by kernel_rfl) rfl rfl rfl rfl (fun K hk => ?_) ?_
        rotate_left
        · go_step; exact hk
        refine Ord.St.ef 5 [6] _ rfl (by kernel_rfl) (fun K hK => ?_)
        go_wp2_with fail
        refine HQQ.out.mono ?_
        rintro e w5 ⟨rfl, hc5⟩
        have HC5 := Lib.hid hc5; clear hc5
        go_wp2_with fail
        refine ⟨rfl, hK _ _ ?_⟩; clear hK K
        refine Ord.St.fl2 (T' := ?_) 6 [] _ _ rfl (by kernel_rfl) rfl rfl rfl rfl (fun K w' hk => ?_) ?_
        rotate_left
        · go_step; exact hk
        refine Ord.St.nil ?_
        go_wp2_with fail
        go_roundw
        case rel => exact ⟨j + 1, by omega, by go_num, HC.out.trans (((Ch.refl [] wr).drew).trans HC5.out (by simp)) (by simp), fun x hx => by
          rw [HSN.out] at hx
          rcases List.mem_append.1 hx with hx | hx
          · exact HALL.out x hx
          · rw [List.mem_singleton.1 hx]; exact HQR.out⟩
        case measure => simp [intOf]; omega
    · have hany : AL.any (fun r => !q r) = false := by
        rw [List.take_of_length_le (by rw [HALN.out]; omega)] at hall
        rw [List.any_eq_false]
        intro x hx
        rw [hall x hx]
        simp
      have HANY := Lib.hid hany; clear hany
      have HC := Lib.hid hc; clear hc
      clear hall
      go_wp2_with fail
      go_ret
      exact ⟨by rw [show RES = 0 from by rw [HRES.out, HANY.out]; rfl]; rfl, HCH.out.trans HC.out (by simp)⟩
theorem r25Check_loop {mo : Int} {ga : Option Addr} {gn gc : Nat} (q : Int → Bool) (hq : ∀ W r, Ch [] w W → Calls Try.prog 128 #[.agg #[.int .i64 mo, .slice ga gn gc], .int .i64 r] W fun e w' => e = .returned (.bool (q r)) ∧ Ch [] W w')
    {side : Nat} (hs : side = 1 ∨ side = 2) {xa ya : Option Addr} {xl yl : List Int} (m xc k yc : Nat) (hX : Sl w xa xl) (hY : Sl w ya yl) (hm : xl.length = m) (hk : yl.length = k) (hr1 : rightB m = true) (hr2 : rightB k = true) :
    Calls Try.prog 95 #[.agg #[.int .i64 mo, .slice ga gn gc], .int .i64 side, .slice xa m xc, .slice ya k yc] w fun e w' => e = .returned (.int .i64 (if (xl ++ yl).any (fun r => !q r) then 200 else 0 : Nat)) ∧ Ch [] w w' := by
  rcases hs with rfl | rfl
  · exact r25Check_loop1 q hq m xc k yc hX hY hm hk hr1 hr2
  · exact r25Check_loop2 q hq m xc k yc hX hY hm hk hr1 hr2
set_option maxRecDepth 100000 in
set_option maxHeartbeats 4000000 in
theorem r25Check_is {mo : Int} {ga : Option Addr} {gn gc : Nat} (q : Int → Bool) (hq : ∀ W r, Ch [] w W → Calls Try.prog 128 #[.agg #[.int .i64 mo, .slice ga gn gc], .int .i64 r] W fun e w' => e = .returned (.bool (q r)) ∧ Ch [] W w')
    (side : Nat) {xa ya : Option Addr} {xl yl : List Int} (m xc k yc : Nat) (hX : Sl w xa xl) (hY : Sl w ya yl) (hm : xl.length = m) (hk : yl.length = k) :
    Calls Try.prog 95 #[.agg #[.int .i64 mo, .slice ga gn gc], .int .i64 side, .slice xa m xc, .slice ya k yc] w fun e w' => e = .returned (.int .i64 (chk25 q side xl yl)) ∧ Ch [] w w' := by
  have hR1 := fun W => r25Right_is (w := W) m
  have hR2 := fun W => r25Right_is (w := W) k
  have hck : chk25 q side xl yl = if side ≠ 1 ∧ side ≠ 2 then 251 else if rightB m = false ∨ rightB k = false then 250 else if (xl ++ yl).any (fun r => !q r) then 200 else 0 := by unfold chk25; rw [hm, hk]
  rw [hck]
  clear hck
  by_cases hs : side ≠ 1 ∧ side ≠ 2
  · rw [if_pos hs]
    have d1 : ((side : Int) != 1) = true := by simp; omega
    have d2 : ((side : Int) != 2) = true := by simp; omega
    clear hR1 hR2 hs hX hY hm hk hq
    go_enter Try.func95, Try.ntmps95
    go_wp2_with fail
    go_ret
    exact ⟨rfl, (Ch.refl _ _).alloc _⟩
  · rw [if_neg hs]
    have hs : side = 1 ∨ side = 2 := by omega
    cases hr1 : rightB m
    · rw [if_pos (.inl rfl)]
      rw [hr1] at hR1
      rcases hs with rfl | rfl
      · show Calls Try.prog 95 #[.agg #[.int .i64 mo, .slice ga gn gc], .int .i64 1, .slice xa m xc, .slice ya k yc] w _
        clear hR2 hX hY hm hk hq
        go_enter Try.func95, Try.ntmps95
        go_wp2_with fail
        refine (hR1 _).mono ?_
        rintro e w' ⟨rfl, rfl⟩
        go_wp2_with fail
        go_ret
        exact ⟨rfl, (Ch.refl _ _).alloc _⟩
      · show Calls Try.prog 95 #[.agg #[.int .i64 mo, .slice ga gn gc], .int .i64 2, .slice xa m xc, .slice ya k yc] w _
        clear hR2 hX hY hm hk hq
        go_enter Try.func95, Try.ntmps95
        go_wp2_with fail
        refine (hR1 _).mono ?_
        rintro e w' ⟨rfl, rfl⟩
        go_wp2_with fail
        go_ret
        exact ⟨rfl, (Ch.refl _ _).alloc _⟩
    · cases hr2 : rightB k
      · rw [if_pos (.inr rfl)]
        rw [hr1] at hR1
        rw [hr2] at hR2
        rcases hs with rfl | rfl
        · show Calls Try.prog 95 #[.agg #[.int .i64 mo, .slice ga gn gc], .int .i64 1, .slice xa m xc, .slice ya k yc] w _
          clear hX hY hm hk hq
          go_enter Try.func95, Try.ntmps95
          go_wp2_with fail
          refine (hR1 _).mono ?_
          rintro e w' ⟨rfl, rfl⟩
          go_wp2_with fail
          refine (hR2 _).mono ?_
          rintro e w' ⟨rfl, rfl⟩
          go_wp2_with fail
          go_ret
          exact ⟨rfl, (Ch.refl _ _).alloc _⟩
        · show Calls Try.prog 95 #[.agg #[.int .i64 mo, .slice ga gn gc], .int .i64 2, .slice xa m xc, .slice ya k yc] w _
          clear hX hY hm hk hq
          go_enter Try.func95, Try.ntmps95
          go_wp2_with fail
          refine (hR1 _).mono ?_
          rintro e w' ⟨rfl, rfl⟩
          go_wp2_with fail
          refine (hR2 _).mono ?_
          rintro e w' ⟨rfl, rfl⟩
          go_wp2_with fail
          go_ret
          exact ⟨rfl, (Ch.refl _ _).alloc _⟩
      · rw [if_neg (by simp)]
        have hz := r25Check_loop q hq hs m xc k yc hX hY hm hk hr1 hr2
        exact hz
set_option maxRecDepth 100000 in
set_option maxHeartbeats 400000 in
theorem rRight_zero (w : World) (r : Int) : Calls Try.prog 128 #[.agg #[.int .i64 0, .slice none 0 0], .int .i64 r] w fun e w' => e = .returned (.bool false) ∧ Ch [] w w' := by
  by_cases h0 : 0 ≤ r
  · have h1 : ¬ r < 0 := by omega
    go_enter Try.func128, Try.ntmps128
    go_wp2_with fail
    go_ret
    exact ⟨by simp [*], (Ch.refl _ _).alloc _⟩
  · go_enter Try.func128, Try.ntmps128
    go_wp2_with fail
    go_ret
    exact ⟨by simp [*], (Ch.refl _ _).alloc _⟩
set_option maxRecDepth 100000 in
set_option maxHeartbeats 4000000 in
theorem r25Fixed_is (side : Nat) {xa : Option Addr} {xl : List Int} (m xc : Nat) (n : Int) (hX : Sl w xa xl) (hm : xl.length = m) (hn : n ≤ 9223372036854775807) :
    Calls Try.prog 81 #[.int .i64 side, .slice xa m xc, .int .i64 n] w fun e w' => ∃ v, e = .returned (.tuple #[v, .int .i64 (fixE side xl n)]) ∧ INew w v (if fixE side xl n = 0 then shL side xl n.toNat else []) w' := by
  have hb : Sl (w.alloc (.cells #[.int .i64 0] 3)) (some ⟨w.heap.size, 0, none⟩) [0] := ⟨fun i x hx => ⟨w.heap.size, 0, rfl, by rw [Nat.zero_add]; exact (blk.new' (w := w) [.int .i64 0] 3 rfl).cell (by match i, hx with | 0, hx => simpa using hx)⟩, by simp⟩
  have hch : Ch [] w (w.alloc (.cells #[.int .i64 0] 3)) := (Ch.refl _ _).alloc _
  have hC := r25Check_is (w := w.alloc (.cells #[.int .i64 0] 3)) (mo := 0) (ga := none) (gn := 0) (gc := 0) (fun _ => false) (fun W r _ => rRight_zero W r) side m xc 1 1 (hX.ch hch (by simp)) hb hm rfl
  have hfe : fixE side xl n = if side ≠ 1 ∧ side ≠ 2 then 251 else if rightB m = false then 250 else if n < 0 then 2 else 0 := by unfold fixE; rw [hm]
  have hck : chk25 (fun _ => false) side xl [0] = if side ≠ 1 ∧ side ≠ 2 then 251 else if rightB m = false then 250 else 200 := by
    have h1 : rightB ((([0] : List Int).length : Nat) : Int) = true := rfl
    unfold chk25
    rw [h1, hm]
    simp
  rw [hck] at hC
  clear hck hb
  have HCH := Lib.hid hch; clear hch
  by_cases hs : side ≠ 1 ∧ side ≠ 2
  · rw [if_pos hs] at hfe hC
    rw [hfe, if_neg (by omega)]
    clear hfe hs hX hm
    go_enter Try.func81, Try.ntmps81
    go_wp2_with fail
    refine hC.mono ?_
    rintro e w1 ⟨rfl, hc⟩
    have HC := Lib.hid hc; clear hc hC
    go_wp2_with fail
    go_ret2
    exact ⟨_, rfl, INew.nil (HCH.out.trans HC.out (by simp))⟩
  · rw [if_neg hs] at hfe hC
    have hs : side = 1 ∨ side = 2 := by omega
    cases hr : rightB m
    · rw [hr] at hfe hC
      rw [if_pos rfl] at hfe hC
      rw [hfe, if_neg (by omega)]
      clear hfe hs hX hm hr
      go_enter Try.func81, Try.ntmps81
      go_wp2_with fail
      refine hC.mono ?_
      rintro e w1 ⟨rfl, hc⟩
      have HC := Lib.hid hc; clear hc hC
      go_wp2_with fail
      go_ret2
      exact ⟨_, rfl, INew.nil (HCH.out.trans HC.out (by simp))⟩
    · rw [hr] at hfe hC
      rw [if_neg (by simp)] at hfe hC
      by_cases hn0 : n < 0
      · rw [if_pos hn0] at hfe
        rw [hfe, if_neg (by omega)]
        have d : decide (n < 0) = true := decide_eq_true hn0
        clear hfe hs hX hm hr
        go_enter Try.func81, Try.ntmps81
        go_wp2_with fail
        refine hC.mono ?_
        rintro e w1 ⟨rfl, hc⟩
        have HC := Lib.hid hc; clear hc hC
        go_wp2_with fail
        go_ret2
        exact ⟨_, rfl, INew.nil (HCH.out.trans HC.out (by simp))⟩
      · rw [if_neg hn0] at hfe
        rw [hfe, if_pos rfl]
        obtain ⟨k, rfl⟩ : ∃ k : Nat, n = k := ⟨n.toNat, by omega⟩
        unfold rightB at hr
        simp only [Bool.and_eq_true, decide_eq_true_eq] at hr
        have hsh := fun W (hc : Ch [] w W) => r25Shifted_is (w := W) hs m xc k (hX.ch hc (by simp)) hm (by omega) (by omega)
        have HSH := Lib.hid hsh; clear hsh
        simp only [Int.toNat_natCast]
        have d : decide ((k : Int) < 0) = false := decide_eq_false hn0
        clear hfe hs hX hm hr
        go_enter Try.func81, Try.ntmps81
        go_wp2_with fail
        refine hC.mono ?_
        rintro e w1 ⟨rfl, hc⟩
        have HC := Lib.hid (HCH.out.trans hc (by simp)); clear hc hC
        go_wp2_with fail
        refine (HSH.out _ HC.out).mono ?_
        rintro e w2 ⟨v, rfl, hv⟩
        obtain ⟨va, vc, rfl, _⟩ := hv.parts (n := xl.length) (by simp)
        have HV := Lib.hid (hv.since HC.out); clear hv
        go_wp2_with fail
        go_ret2
        exact ⟨_, rfl, HV.out⟩
end
end Go.Proofs.Ytchledddgmbndaa
namespace Go.Proofs.Ytchledddgmbndaa
open Go.RowKit Go.Mem Go.Aig
/-- blocks keep their length -/
def Shp (w w' : World) : Prop := ∀ b ys, blk w b ys → ∃ ys', blk w' b ys' ∧ ys'.length = ys.length
theorem Shp.refl (w : World) : Shp w w := fun _ ys h => ⟨ys, h, rfl⟩
theorem Shp.set {w w' : World} (h : Shp w w') (b k : Nat) (v : Value) : Shp w (w'.setCell ⟨b, k, none⟩ v) := fun c ys hc => by
  obtain ⟨zs, h1, h2⟩ := h c ys hc
  by_cases e : c = b
  · subst e; exact ⟨_, h1.set (i := k) v, by simpa using h2⟩
  · exact ⟨zs, h1.other e v, h2⟩
/-- a cell of a row can be stored into -/
theorem Shp.cell {w w' : World} {e : TypeId} {a : Option Addr} {n c k : Nat} {xs : List Value} (h : Shp w w') (hr : row w e 1 (.slice a n c) n xs) (hk : k < n) : ∃ (b : Nat) (old : Value), a = some ⟨b, 0, none⟩ ∧ w'.cell? ⟨b, k, none⟩ = some old ∧ w'.frozen? ⟨b, k, none⟩ = false := by
  obtain ⟨b, ys, e1, hb, hl⟩ := rowBlk hr k hk
  obtain ⟨zs, h1, h2⟩ := h b ys hb
  exact ⟨b, _, e1, h1.cell (List.getElem?_eq_getElem (show k < zs.length by omega)), h1.frozen⟩
section
variable {w : World}
theorem Turn_w {xa : Option Addr} {xl : List Int} {n : Nat} (xc : Nat) (z : Int) (hS : Sl w xa xl) (hn : xl.length = n) (hcap : n ≤ xc) (hb : -9223372036854775808 ≤ z ∧ z ≤ 9223372036854775807) :
    Calls Try.prog 43 #[.slice xa n xc, .int .i64 z] w fun e w' => ∃ v, e = .returned (.tuple #[v, .int .i64 (if rightB n then 0 else 250 : Nat)]) ∧ WNew w v (intCells (if rightB n then turnL xl z else [])) w' := by
  subst hn
  cases hr : rightB xl.length
  · refine (Turn_no xc z hr).mono ?_
    rintro e w' ⟨rfl, rfl⟩
    exact ⟨_, rfl, WNew.nil (Ch.refl _ _)⟩
  · exact Turn_yes xc z hS hcap hr hb
set_option maxRecDepth 100000 in
set_option maxHeartbeats 8000000 in
theorem words25_is (side : Nat) (_hsd : side ≤ 255) {la : Option Addr} {l : List Int} (n lc : Nat) (hn : l.length = n) (N M : Int) (hS : Sl w la l) (hl : n ≤ 30) (hN : -9223372036854775808 ≤ N ∧ N ≤ 9223372036854775807) (_hM : -9223372036854775808 ≤ M ∧ M ≤ 9223372036854775807) (hbd : ∀ r ∈ l, -9223372036854775808 ≤ r ∧ r ≤ 9223372036854775807) :
    Calls Try.prog 36 #[.int .u8 side, .slice la n lc, .int .i64 N, .int .i64 M] w fun e w' => e = .returned (.bool true) ∧ Ch [] w w' := by
  obtain ⟨LA, hLA⟩ : ∃ LA, LA = if fixE side l N = 0 then shL side l N.toNat else [] := ⟨_, rfl⟩
  have hLA2 : (if fixE side l N = 0 then shL side l (min N.toNat l.length) else []) = LA := by rw [hLA, shL_min]
  obtain ⟨ka, hka⟩ : ∃ ka, LA.length = ka := ⟨_, rfl⟩
  have hka30 : ka ≤ 30 := by
    rw [← hka, hLA]
    split
    · rw [shL_len]; omega
    · simp
  have hbA : ∀ r ∈ LA, -9223372036854775808 ≤ r ∧ r ≤ 9223372036854775807 := by
    rw [hLA]
    split
    · exact shL_bd hbd
    · simp
  have hFX := fun (W : World) (hc : Ch [] w W) => r25Fixed_is (w := W) side n lc N (hS.ch hc (by simp)) hn hN.2
  rw [← hLA] at hFX
  have hFP := fun (W : World) (xa : Option Addr) (xc : Nat) (hs : Sl W xa l) => Fixed_is (w := W) (side := side) xc N hs (by omega)
  rw [hn] at hLA2
  simp only [hn, hLA2] at hFP
  obtain ⟨EA, hEA⟩ : ∃ EA, EA = fixE side l N := ⟨_, rfl⟩
  rw [← hEA] at hFX hFP
  have hTW := fun (W : World) (xa : Option Addr) (xc : Nat) (hs : Sl W xa l) (hx : n ≤ xc) => Turn_w (w := W) xc N hs hn hx hN
  have hTR := fun (W : World) (hc : Ch [] w W) (h1 : 1 ≤ n) (h16 : n ≤ 16) => r25Turn_is (w := W) n lc N (hS.ch hc (by simp)) hn h1 h16
  have hS1 := fun W => Steps_is (w := W) N M
  have hS2 := fun W => r25Steps_is (w := W) N M
  obtain ⟨K, hK⟩ : ∃ K : Nat, K = if rightB N && rightB M then stepsN N.toNat M.toNat else 0 := ⟨_, rfl⟩
  obtain ⟨EK, hEK⟩ : ∃ EK : Nat, EK = if rightB N && rightB M then 0 else 250 := ⟨_, rfl⟩
  rw [← hK, ← hEK] at hS1 hS2
  have hRF := fun (W : World) (hc : Ch [] w W) => Refs23_is (w := W) n lc hn (hS.ch hc (by simp)) (by omega)
  clear hLA hLA2 hEA hK hEK
  have HS := Lib.hid hS; clear hS
  have HBD := Lib.hid hbd; clear hbd
  have HBA := Lib.hid hbA; clear hbA
  have HKA := Lib.hid hka; clear hka
  have HFX := Lib.hid hFX; clear hFX
  have HFP := Lib.hid hFP; clear hFP
  have HTW := Lib.hid hTW; clear hTW
  have HTR := Lib.hid hTR; clear hTR
  have HS1 := Lib.hid hS1; clear hS1
  have HS2 := Lib.hid hS2; clear hS2
  have HRF := Lib.hid hRF; clear hRF
  have HN := Lib.hid hn; clear hn
  obtain ⟨LB, hLB⟩ : ∃ LB, LB = if rightB n then turnL l N else [] := ⟨_, rfl⟩
  obtain ⟨EB, hEB⟩ : ∃ EB : Nat, EB = if rightB n then 0 else 250 := ⟨_, rfl⟩
  rw [← hLB, ← hEB] at HTW
  obtain ⟨kb, hkb⟩ : ∃ kb, LB.length = kb := ⟨_, rfl⟩
  have hbB : ∀ r ∈ LB, -9223372036854775808 ≤ r ∧ r ≤ 9223372036854775807 := by
    rw [hLB]
    split
    · exact fun r hr => HBD.out r ((turnL_perm l N).mem_iff.1 hr)
    · simp
  have hkb30 : kb ≤ 30 := by
    rw [← hkb, hLB]
    split
    · rw [turnL_len]; have := HN.out; omega
    · simp
  have HBB := Lib.hid hbB; clear hbB
  have HKB := Lib.hid hkb; clear hkb
  have HLB := Lib.hid hLB; clear hLB
  have HEB := Lib.hid hEB; clear hEB
  go_enter Try.func36, Try.ntmps36
  go_wp2_with fail
  refine (HRF.out _ (Ch.refl _ _)).mono ?_
  rintro e w1 ⟨v, rfl, hro, hlo, hc1⟩
  obtain ⟨oa, oc, rfl⟩ := row.shape hro
  have hsx := Sl.of_ints hro (by omega)
  have hcap := (row_cap hro).1
  have HRO := Lib.hid hro; clear hro
  have HLO := Lib.hid hlo; clear hlo
  have HC1 := Lib.hid hc1; clear hc1
  have HSX := Lib.hid hsx; clear hsx
  go_wp2_with fail
  refine (HFP.out _ _ _ HSX.out).mono ?_
  rintro e w2 ⟨v, rfl, hv⟩
  obtain ⟨aa, ac, rfl, hk⟩ := (Keeps.start w1).new hv HBA.out (by have := HKA.out; omega)
  rw [HKA.out] at hk
  simp only [HKA.out]
  clear hv
  have HO := Lib.hid hk; clear hk
  go_wp2_with fail
  refine (HTW.out _ _ _ (HSX.out.ch HO.out.ch (by simp)) hcap).mono ?_
  rintro e w3 ⟨v, rfl, hv⟩
  obtain ⟨ba, bc, rfl, hk⟩ := HO.out.new hv HBB.out (by have := HKB.out; omega)
  rw [HKB.out] at hk
  simp only [HKB.out]
  clear hv HO
  have HO := Lib.hid hk; clear hk
  go_wp2_with fail
  refine (HS1.out _).mono ?_
  rintro e w' ⟨rfl, rfl⟩
  go_wp2_with fail
  refine (HFX.out _ (HC1.out.trans HO.out.ch (by simp))).mono ?_
  rintro e w4 ⟨v, rfl, hv⟩
  obtain ⟨qa, qc, rfl, hrq, _, hc4⟩ := hv.parts HKA.out
  have ho := HO.out.same hc4
  clear HO hc4 hv
  have HO := Lib.hid ho; clear ho
  have HRQ := Lib.hid hrq; clear hrq
  go_wp2_with fail
  refine (HS2.out _).mono ?_
  rintro e w' ⟨rfl, rfl⟩
  go_wp2_with fail
  refine (Ints23_is (a := aa) (l := LA) ka ac HKA.out (HO.out.sl (a := aa) (n := ka) (c := ac) (by simp) HKA.out) (by omega)).mono ?_
  rintro e w5 ⟨v, rfl, hri, _, hc5⟩
  obtain ⟨ia, ic, rfl⟩ := row.shape hri
  have hE := Eqint_is (w := w5) ic qc (xs := LA) (ys := LA) (Sl.of_ints hri (by omega)) (Sl.of_ints (HRQ.out.ch hc5 (by simp)) (by omega))
  simp only [HKA.out, decide_true] at hE
  have ho := HO.out.same hc5
  clear HO hc5 hri HRQ
  have HO := Lib.hid ho; clear ho
  have HE := Lib.hid hE; clear hE
  go_wp2_with fail
  refine HE.out.mono ?_
  rintro e w6 ⟨rfl, hc6⟩
  have ho := HO.out.same hc6
  clear HO hc6 HE
  have HO := Lib.hid ho; clear ho
  cases hr : rightB n
  · rw [hr] at HLB HEB
    have hlb0 : LB = [] := HLB.out
    have heb0 : EB = 250 := HEB.out
    have hkb0 : kb = 0 := by rw [← HKB.out, hlb0]; rfl
    subst heb0 hkb0
    have hd : (n : Int) < 1 ∨ 16 < (n : Int) := by unfold rightB at hr; simp at hr; omega
    clear hr
    by_cases h1 : (n : Int) < 1
    · have d1 : decide ((n : Int) < 1) = true := decide_eq_true h1
      clear hd h1
      have ha0 := HO.out.held (.slice aa ka ac, LA) (by simp)
      have hb0 := HO.out.held (.slice ba 0 bc, LB) (by simp)
      have hra := ha0.row
      rw [HKA.out] at hra
      have hrb := hb0.row
      rw [HKB.out] at hrb
      have hlo2 : ∀ q ∈ (Value.slice aa ka ac).ownBlock.toList ++ (Value.slice ba 0 bc).ownBlock.toList, w1.heap.size ≤ q := fun q hq => by
        rcases List.mem_append.1 hq with hq | hq
        · exact (ha0.own q (by simpa using hq)).1
        · exact (hb0.own q (by simpa using hq)).1
      have HRA := Lib.hid hra; clear hra ha0
      have HRB := Lib.hid hrb; clear hrb hb0
      have HLO2 := Lib.hid hlo2; clear hlo2
      go_wp2_with fail
      refine wp_alw ?_
      intro W0 hW0
      have hpb := alw_blk (xs := [.slice aa ka ac, .slice ba 0 bc]) hW0
      have hc0 := alw_ch hW0
      have hpl : ∀ q ∈ (Value.slice aa ka ac).ownBlock.toList ++ (Value.slice ba 0 bc).ownBlock.toList, q ≠ w6.heap.size := fun q hq => by
        rcases List.mem_append.1 hq with hq | hq
        · have := (HRA.out.lt q (by simpa using hq)).2; omega
        · have := (HRB.out.lt q (by simpa using hq)).2; omega
      have hra := HRA.out.ch hc0 (by simp)
      have hrb := HRB.out.ch hc0 (by simp)
      have hcw := (HC1.out.trans HO.out.ch (by simp)).trans hc0 (by simp)
      have hc10 := HO.out.ch.trans hc0 (by simp)
      clear hW0 HRA HRB HO hc0
      generalize w6.heap.size = pb at *
      have HRA := Lib.hid hra; clear hra
      have HRB := Lib.hid hrb; clear hrb
      have HPB := Lib.hid hpb; clear hpb
      have HPL := Lib.hid hpl; clear hpl
      have HCW := Lib.hid hcw; clear hcw
      have HC10 := Lib.hid hc10; clear hc10
      go_loopw [108] (fun i wr => ∃ j : Nat, j ≤ 2 ∧ i = .int .i64 j ∧ Ch ((Value.slice aa ka ac).ownBlock.toList ++ (Value.slice ba 0 bc).ownBlock.toList) W0 wr ∧ Shp W0 wr) (fun i _ => 2 - (intOf i).toNat)
      case atStart => exact ⟨0, by omega, rfl, Ch.refl _ _, Shp.refl _⟩
      case round =>
        obtain ⟨j, hj, rfl, hc, hsh⟩ := hrel
        have HC := Lib.hid hc; clear hc
        have HSH := Lib.hid hsh; clear hsh
        by_cases hj2 : j < 2
        · obtain ⟨ua, un, uc, us, hcu, hru, hown⟩ : ∃ ua un uc us, [Value.slice aa ka ac, .slice ba 0 bc][j]? = some (.slice ua un uc) ∧ row W0 34 1 (.slice ua un uc) un us ∧ (∀ q ∈ (Value.slice ua un uc).ownBlock.toList, q ∈ (Value.slice aa ka ac).ownBlock.toList ++ (Value.slice ba 0 bc).ownBlock.toList) := by
            rcases (by omega : j = 0 ∨ j = 1) with rfl | rfl
            · exact ⟨aa, ka, ac, _, rfl, HRA.out, fun q hq => List.mem_append_left _ hq⟩
            · exact ⟨ba, 0, bc, _, rfl, HRB.out, fun q hq => List.mem_append_right _ hq⟩
          have k0 := (HPB.out.ch HC.out (fun hin => HPL.out _ hin rfl)).cell hcu
          have HRU := Lib.hid hru; clear hru hcu
          have HOWN := Lib.hid hown; clear hown
          have hub : un ≤ 9223372036854775807 := by have := row_cap HRU.out; omega
          go_wp2_with fail
          go_loopw [114] (fun i wq => ∃ k : Nat, k ≤ un ∧ i = .int .i64 k ∧ Ch ((Value.slice aa ka ac).ownBlock.toList ++ (Value.slice ba 0 bc).ownBlock.toList) W0 wq ∧ Shp W0 wq) (fun i _ => un - (intOf i).toNat)
          case atStart => exact ⟨0, by omega, rfl, HC.out, HSH.out⟩
          case round =>
            obtain ⟨k, hk, rfl, hc, hsh⟩ := hrel
            clear HC HSH k0
            by_cases hkn : k < un
            · obtain ⟨b, old, rfl, hcl, hfz⟩ := hsh.cell HRU.out hkn
              have HC := Lib.hid hc; clear hc
              have HSH := Lib.hid hsh; clear hsh
              go_wp2_with fail
              go_roundw
              case rel => exact ⟨k + 1, by omega, by go_num, HC.out.setCell (.inl (HOWN.out b (by simp))) _, HSH.out.set _ _ _⟩
              case measure => simp [intOf]; omega
            · have HC := Lib.hid hc; clear hc
              have HSH := Lib.hid hsh; clear hsh
              go_wp2_with fail
              go_roundw
              case rel => exact ⟨j + 1, by omega, by go_num, HC.out, HSH.out⟩
              case measure => simp [intOf]; omega
        · have hcx := HC10.out.trans HC.out (fun q hq => .inr (HLO2.out q hq))
          have hcw := HCW.out.trans HC.out (fun q hq => .inr (Nat.le_trans HC1.out.size (HLO2.out q hq)))
          have hsx := HSX.out.ch hcx (by simp)
          have HSX2 := Lib.hid hsx; clear hsx hcx
          have HCW2 := Lib.hid hcw; clear hcw
          clear HC HSH
          go_wp2_with fail
          refine (HRF.out _ HCW2.out).mono ?_
          rintro e wA ⟨v, rfl, hrp, _, hcA⟩
          obtain ⟨pa, pc, rfl⟩ := row.shape hrp
          have hE := Eqref_is (w := wA) oc pc (xs := l) (ys := l) (HSX2.out.ch hcA (by simp)) (Sl.of_ints hrp (by omega))
          simp only [HN.out, decide_true] at hE
          have HE := Lib.hid hE; clear hE hrp
          have HCA := Lib.hid hcA; clear hcA
          go_wp2_with fail
          refine HE.out.mono ?_
          rintro e wB ⟨rfl, hcB⟩
          have HCB := Lib.hid hcB; clear hcB HE
          go_wp2_with fail
          go_ret
          exact ⟨rfl, (HCW2.out.trans HCA.out (by simp)).trans HCB.out (by simp)⟩
    · have d1 : decide ((n : Int) < 1) = false := decide_eq_false h1
      have d2 : decide ((16 : Int) < n) = true := decide_eq_true (by omega)
      clear hd h1
      have ha0 := HO.out.held (.slice aa ka ac, LA) (by simp)
      have hb0 := HO.out.held (.slice ba 0 bc, LB) (by simp)
      have hra := ha0.row
      rw [HKA.out] at hra
      have hrb := hb0.row
      rw [HKB.out] at hrb
      have hlo2 : ∀ q ∈ (Value.slice aa ka ac).ownBlock.toList ++ (Value.slice ba 0 bc).ownBlock.toList, w1.heap.size ≤ q := fun q hq => by
        rcases List.mem_append.1 hq with hq | hq
        · exact (ha0.own q (by simpa using hq)).1
        · exact (hb0.own q (by simpa using hq)).1
      have HRA := Lib.hid hra; clear hra ha0
      have HRB := Lib.hid hrb; clear hrb hb0
      have HLO2 := Lib.hid hlo2; clear hlo2
      go_wp2_with fail
      refine wp_alw ?_
      intro W0 hW0
      have hpb := alw_blk (xs := [.slice aa ka ac, .slice ba 0 bc]) hW0
      have hc0 := alw_ch hW0
      have hpl : ∀ q ∈ (Value.slice aa ka ac).ownBlock.toList ++ (Value.slice ba 0 bc).ownBlock.toList, q ≠ w6.heap.size := fun q hq => by
        rcases List.mem_append.1 hq with hq | hq
        · have := (HRA.out.lt q (by simpa using hq)).2; omega
        · have := (HRB.out.lt q (by simpa using hq)).2; omega
      have hra := HRA.out.ch hc0 (by simp)
      have hrb := HRB.out.ch hc0 (by simp)
      have hcw := (HC1.out.trans HO.out.ch (by simp)).trans hc0 (by simp)
      have hc10 := HO.out.ch.trans hc0 (by simp)
      clear hW0 HRA HRB HO hc0
      generalize w6.heap.size = pb at *
      have HRA := Lib.hid hra; clear hra
      have HRB := Lib.hid hrb; clear hrb
      have HPB := Lib.hid hpb; clear hpb
      have HPL := Lib.hid hpl; clear hpl
      have HCW := Lib.hid hcw; clear hcw
      have HC10 := Lib.hid hc10; clear hc10
      go_loopw [108] (fun i wr => ∃ j : Nat, j ≤ 2 ∧ i = .int .i64 j ∧ Ch ((Value.slice aa ka ac).ownBlock.toList ++ (Value.slice ba 0 bc).ownBlock.toList) W0 wr ∧ Shp W0 wr) (fun i _ => 2 - (intOf i).toNat)
      case atStart => exact ⟨0, by omega, rfl, Ch.refl _ _, Shp.refl _⟩
      case round =>
        obtain ⟨j, hj, rfl, hc, hsh⟩ := hrel
        have HC := Lib.hid hc; clear hc
        have HSH := Lib.hid hsh; clear hsh
        by_cases hj2 : j < 2
        · obtain ⟨ua, un, uc, us, hcu, hru, hown⟩ : ∃ ua un uc us, [Value.slice aa ka ac, .slice ba 0 bc][j]? = some (.slice ua un uc) ∧ row W0 34 1 (.slice ua un uc) un us ∧ (∀ q ∈ (Value.slice ua un uc).ownBlock.toList, q ∈ (Value.slice aa ka ac).ownBlock.toList ++ (Value.slice ba 0 bc).ownBlock.toList) := by
            rcases (by omega : j = 0 ∨ j = 1) with rfl | rfl
            · exact ⟨aa, ka, ac, _, rfl, HRA.out, fun q hq => List.mem_append_left _ hq⟩
            · exact ⟨ba, 0, bc, _, rfl, HRB.out, fun q hq => List.mem_append_right _ hq⟩
          have k0 := (HPB.out.ch HC.out (fun hin => HPL.out _ hin rfl)).cell hcu
          have HRU := Lib.hid hru; clear hru hcu
          have HOWN := Lib.hid hown; clear hown
          have hub : un ≤ 9223372036854775807 := by have := row_cap HRU.out; omega
          go_wp2_with fail
          go_loopw [114] (fun i wq => ∃ k : Nat, k ≤ un ∧ i = .int .i64 k ∧ Ch ((Value.slice aa ka ac).ownBlock.toList ++ (Value.slice ba 0 bc).ownBlock.toList) W0 wq ∧ Shp W0 wq) (fun i _ => un - (intOf i).toNat)
          case atStart => exact ⟨0, by omega, rfl, HC.out, HSH.out⟩
          case round =>
            obtain ⟨k, hk, rfl, hc, hsh⟩ := hrel
            clear HC HSH k0
            by_cases hkn : k < un
            · obtain ⟨b, old, rfl, hcl, hfz⟩ := hsh.cell HRU.out hkn
              have HC := Lib.hid hc; clear hc
              have HSH := Lib.hid hsh; clear hsh
              go_wp2_with fail
              go_roundw
              case rel => exact ⟨k + 1, by omega, by go_num, HC.out.setCell (.inl (HOWN.out b (by simp))) _, HSH.out.set _ _ _⟩
              case measure => simp [intOf]; omega
            · have HC := Lib.hid hc; clear hc
              have HSH := Lib.hid hsh; clear hsh
              go_wp2_with fail
              go_roundw
              case rel => exact ⟨j + 1, by omega, by go_num, HC.out, HSH.out⟩
              case measure => simp [intOf]; omega
        · have hcx := HC10.out.trans HC.out (fun q hq => .inr (HLO2.out q hq))
          have hcw := HCW.out.trans HC.out (fun q hq => .inr (Nat.le_trans HC1.out.size (HLO2.out q hq)))
          have hsx := HSX.out.ch hcx (by simp)
          have HSX2 := Lib.hid hsx; clear hsx hcx
          have HCW2 := Lib.hid hcw; clear hcw
          clear HC HSH
          go_wp2_with fail
          refine (HRF.out _ HCW2.out).mono ?_
          rintro e wA ⟨v, rfl, hrp, _, hcA⟩
          obtain ⟨pa, pc, rfl⟩ := row.shape hrp
          have hE := Eqref_is (w := wA) oc pc (xs := l) (ys := l) (HSX2.out.ch hcA (by simp)) (Sl.of_ints hrp (by omega))
          simp only [HN.out, decide_true] at hE
          have HE := Lib.hid hE; clear hE hrp
          have HCA := Lib.hid hcA; clear hcA
          go_wp2_with fail
          refine HE.out.mono ?_
          rintro e wB ⟨rfl, hcB⟩
          have HCB := Lib.hid hcB; clear hcB HE
          go_wp2_with fail
          go_ret
          exact ⟨rfl, (HCW2.out.trans HCA.out (by simp)).trans HCB.out (by simp)⟩
  · rw [hr] at HLB HEB
    have hlb0 : LB = turnL l N := HLB.out
    have heb0 : EB = 0 := HEB.out
    have hkb0 : kb = n := by rw [← HKB.out, hlb0, turnL_len, HN.out]
    subst heb0 hkb0
    have hd : 1 ≤ kb ∧ kb ≤ 16 := by unfold rightB at hr; simp at hr; omega
    have d1 : decide ((kb : Int) < 1) = false := decide_eq_false (by omega)
    have d2 : decide ((16 : Int) < kb) = false := decide_eq_false (by omega)
    have HLB0 := Lib.hid hlb0; clear hlb0 hr
    go_wp2_with fail
    refine (Ints23_is (a := ba) (l := LB) kb bc HKB.out (HO.out.sl (a := ba) (n := kb) (c := bc) (by simp) HKB.out) (by omega)).mono ?_
    rintro e w7 ⟨v, rfl, hri, _, hc7⟩
    obtain ⟨ja, jc, rfl⟩ := row.shape hri
    have ho := HO.out.same hc7
    clear HO hc7
    have HO := Lib.hid ho; clear ho
    have HRI := Lib.hid hri; clear hri
    go_wp2_with fail
    refine (HTR.out _ (HC1.out.trans HO.out.ch (by simp)) hd.1 hd.2).mono ?_
    rintro e w8 ⟨v, rfl, hv⟩
    rw [← HLB0.out] at hv
    obtain ⟨ra, rc, rfl, hrr, _, hc8⟩ := hv.parts HKB.out
    have hE := Eqint_is (w := w8) jc rc (xs := LB) (ys := LB) (Sl.of_ints (HRI.out.ch hc8 (by simp)) (by omega)) (Sl.of_ints hrr (by omega))
    simp only [HKB.out, decide_true] at hE
    have ho := HO.out.same hc8
    clear HO hc8 hrr HRI hv
    have HO := Lib.hid ho; clear ho
    have HE := Lib.hid hE; clear hE
    go_wp2_with fail
    refine HE.out.mono ?_
    rintro e w9 ⟨rfl, hc9⟩
    have ho := HO.out.same hc9
    clear HO hc9 HE
    have HO := Lib.hid ho; clear ho
    have ha0 := HO.out.held (.slice aa ka ac, LA) (by simp)
    have hb0 := HO.out.held (.slice ba kb bc, LB) (by simp)
    have hra := ha0.row
    rw [HKA.out] at hra
    have hrb := hb0.row
    rw [HKB.out] at hrb
    have hlo2 : ∀ q ∈ (Value.slice aa ka ac).ownBlock.toList ++ (Value.slice ba kb bc).ownBlock.toList, w1.heap.size ≤ q := fun q hq => by
      rcases List.mem_append.1 hq with hq | hq
      · exact (ha0.own q (by simpa using hq)).1
      · exact (hb0.own q (by simpa using hq)).1
    have HRA := Lib.hid hra; clear hra ha0
    have HRB := Lib.hid hrb; clear hrb hb0
    have HLO2 := Lib.hid hlo2; clear hlo2
    go_wp2_with fail
    refine wp_alw ?_
    intro W0 hW0
    have hpb := alw_blk (xs := [.slice aa ka ac, .slice ba kb bc]) hW0
    have hc0 := alw_ch hW0
    have hpl : ∀ q ∈ (Value.slice aa ka ac).ownBlock.toList ++ (Value.slice ba kb bc).ownBlock.toList, q ≠ w9.heap.size := fun q hq => by
      rcases List.mem_append.1 hq with hq | hq
      · have := (HRA.out.lt q (by simpa using hq)).2; omega
      · have := (HRB.out.lt q (by simpa using hq)).2; omega
    have hra := HRA.out.ch hc0 (by simp)
    have hrb := HRB.out.ch hc0 (by simp)
    have hcw := (HC1.out.trans HO.out.ch (by simp)).trans hc0 (by simp)
    have hc10 := HO.out.ch.trans hc0 (by simp)
    clear hW0 HRA HRB HO hc0
    generalize w9.heap.size = pb at *
    have HRA := Lib.hid hra; clear hra
    have HRB := Lib.hid hrb; clear hrb
    have HPB := Lib.hid hpb; clear hpb
    have HPL := Lib.hid hpl; clear hpl
    have HCW := Lib.hid hcw; clear hcw
    have HC10 := Lib.hid hc10; clear hc10
    go_loopw [108] (fun i wr => ∃ j : Nat, j ≤ 2 ∧ i = .int .i64 j ∧ Ch ((Value.slice aa ka ac).ownBlock.toList ++ (Value.slice ba kb bc).ownBlock.toList) W0 wr ∧ Shp W0 wr) (fun i _ => 2 - (intOf i).toNat)
    case atStart => exact ⟨0, by omega, rfl, Ch.refl _ _, Shp.refl _⟩
    case round =>
      obtain ⟨j, hj, rfl, hc, hsh⟩ := hrel
      have HC := Lib.hid hc; clear hc
      have HSH := Lib.hid hsh; clear hsh
      by_cases hj2 : j < 2
      · obtain ⟨ua, un, uc, us, hcu, hru, hown⟩ : ∃ ua un uc us, [Value.slice aa ka ac, .slice ba kb bc][j]? = some (.slice ua un uc) ∧ row W0 34 1 (.slice ua un uc) un us ∧ (∀ q ∈ (Value.slice ua un uc).ownBlock.toList, q ∈ (Value.slice aa ka ac).ownBlock.toList ++ (Value.slice ba kb bc).ownBlock.toList) := by
          rcases (by omega : j = 0 ∨ j = 1) with rfl | rfl
          · exact ⟨aa, ka, ac, _, rfl, HRA.out, fun q hq => List.mem_append_left _ hq⟩
          · exact ⟨ba, kb, bc, _, rfl, HRB.out, fun q hq => List.mem_append_right _ hq⟩
        have k0 := (HPB.out.ch HC.out (fun hin => HPL.out _ hin rfl)).cell hcu
        have HRU := Lib.hid hru; clear hru hcu
        have HOWN := Lib.hid hown; clear hown
        have hub : un ≤ 9223372036854775807 := by have := row_cap HRU.out; omega
        go_wp2_with fail
        go_loopw [114] (fun i wq => ∃ k : Nat, k ≤ un ∧ i = .int .i64 k ∧ Ch ((Value.slice aa ka ac).ownBlock.toList ++ (Value.slice ba kb bc).ownBlock.toList) W0 wq ∧ Shp W0 wq) (fun i _ => un - (intOf i).toNat)
        case atStart => exact ⟨0, by omega, rfl, HC.out, HSH.out⟩
        case round =>
          obtain ⟨k, hk, rfl, hc, hsh⟩ := hrel
          clear HC HSH k0
          by_cases hkn : k < un
          · obtain ⟨b, old, rfl, hcl, hfz⟩ := hsh.cell HRU.out hkn
            have HC := Lib.hid hc; clear hc
            have HSH := Lib.hid hsh; clear hsh
            go_wp2_with fail
            go_roundw
            case rel => exact ⟨k + 1, by omega, by go_num, HC.out.setCell (.inl (HOWN.out b (by simp))) _, HSH.out.set _ _ _⟩
            case measure => simp [intOf]; omega
          · have HC := Lib.hid hc; clear hc
            have HSH := Lib.hid hsh; clear hsh
            go_wp2_with fail
            go_roundw
            case rel => exact ⟨j + 1, by omega, by go_num, HC.out, HSH.out⟩
            case measure => simp [intOf]; omega
      · have hcx := HC10.out.trans HC.out (fun q hq => .inr (HLO2.out q hq))
        have hcw := HCW.out.trans HC.out (fun q hq => .inr (Nat.le_trans HC1.out.size (HLO2.out q hq)))
        have hsx := HSX.out.ch hcx (by simp)
        have HSX2 := Lib.hid hsx; clear hsx hcx
        have HCW2 := Lib.hid hcw; clear hcw
        clear HC HSH
        go_wp2_with fail
        refine (HRF.out _ HCW2.out).mono ?_
        rintro e wA ⟨v, rfl, hrp, _, hcA⟩
        obtain ⟨pa, pc, rfl⟩ := row.shape hrp
        have hE := Eqref_is (w := wA) oc pc (xs := l) (ys := l) (HSX2.out.ch hcA (by simp)) (Sl.of_ints hrp (by omega))
        simp only [HN.out, decide_true] at hE
        have HE := Lib.hid hE; clear hE hrp
        have HCA := Lib.hid hcA; clear hcA
        go_wp2_with fail
        refine HE.out.mono ?_
        rintro e wB ⟨rfl, hcB⟩
        have HCB := Lib.hid hcB; clear hcB HE
        go_wp2_with fail
        go_ret
        exact ⟨rfl, (HCW2.out.trans HCA.out (by simp)).trans HCB.out (by simp)⟩
set_option maxRecDepth 100000 in
set_option maxHeartbeats 2000000 in
theorem ShiftsWords_walk (side : Nat) (hsd : side ≤ 255) {la : Option Addr} {n lc : Nat} {l : List Int} (hL : IntS w la n lc l) (N : Int) (hN : (Lit.int .i64 N).wf = true) (M : Int) (hM : (Lit.int .i64 M).wf = true) :
    Calls Try.prog 6 #[.int .u8 side, .slice la n lc, .int .i64 N, .int .i64 M] w fun e w' => e = .returned (.bool true) ∧ Ch [] w w' := by
  have hn := hL.len
  have hle := hL.le
  have hlx := hL.max
  have HA := fun W => awake25_is W
  by_cases h1 : n ≤ 30
  · have HW := words25_is side hsd n lc hn N M hL.sl h1 (wf_i64 hN) (wf_i64 hM) hL.bd
    have d1 : decide ((30 : Int) < n) = false := decide_eq_false (by omega)
    clear hL hN hM
    go_enter Try.func6, Try.ntmps6
    go_wp2_with fail
    refine HW.mono ?_
    rintro e w1 ⟨rfl, hc⟩
    have HC := Lib.hid hc; clear hc
    go_wp2_with fail
    refine (HA _).mono ?_
    rintro e w2 ⟨rfl, hc2⟩
    have HC2 := Lib.hid hc2; clear hc2
    go_wp2_with fail
    go_ret
    exact ⟨rfl, HC.out.trans HC2.out (by simp)⟩
  · have d1 : decide ((30 : Int) < n) = true := decide_eq_true (by omega)
    clear hL hN hM
    go_enter Try.func6, Try.ntmps6
    go_wp2_with fail
    refine (HA _).mono ?_
    rintro e w2 ⟨rfl, hc2⟩
    have HC2 := Lib.hid hc2; clear hc2
    go_wp2_with fail
    go_ret
    exact ⟨rfl, HC2.out⟩
end
end Go.Proofs.Ytchledddgmbndaa
