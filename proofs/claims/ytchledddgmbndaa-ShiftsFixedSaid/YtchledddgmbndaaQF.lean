/-
  Walk over ShiftsFixed: true, whatever comes in. Conditions: none.
-/
import Derived.Test.YtchledddgmbndaaQE
namespace Go.Aig
theorem shL_min {side : Nat} (x : List Int) (n : Nat) : shL side x (min n x.length) = shL side x n := by
  unfold shL
  refine List.map_congr_left fun i hi => ?_
  have hi := List.mem_range.1 hi
  by_cases h : n ≤ x.length
  · rw [Nat.min_eq_left h]
  · rw [Nat.min_eq_right (by omega)]
    split
    · rw [if_neg (by omega), if_neg (by omega)]
    · rw [List.getD_eq_getElem?_getD, List.getD_eq_getElem?_getD, List.getElem?_eq_none (by omega), List.getElem?_eq_none (by omega)]
/-- what stands in a word shifted -/
theorem shL_l {x : List Int} {n i : Nat} (hi : i < x.length) : (n ≤ i → (shL 1 x n)[i]? = x[i - n]?) ∧ (i < n → (shL 1 x n)[i]? = some 0) := by
  rw [shL_at hi, if_pos rfl]
  refine ⟨fun h => ?_, fun h => by rw [if_neg (by omega)]⟩
  rw [if_pos h, List.getD_eq_getElem?_getD, List.getElem?_eq_getElem (by omega)]
  rfl
theorem shL_r {x : List Int} {n i : Nat} (hi : i < x.length) : (i + n < x.length → (shL 2 x n)[i]? = x[i + n]?) ∧ (x.length ≤ i + n → (shL 2 x n)[i]? = some 0) := by
  rw [shL_at hi, if_neg (by omega)]
  refine ⟨fun h => ?_, fun h => ?_⟩
  · rw [List.getD_eq_getElem?_getD, List.getElem?_eq_getElem h]; rfl
  · rw [List.getD_eq_getElem?_getD, List.getElem?_eq_none h]; rfl
theorem shL_back {x : List Int} {n i : Nat} (hi : i < x.length) : (i + n < x.length → (shL 2 (shL 1 x n) n)[i]? = x[i]?) ∧ (x.length ≤ i + n → (shL 2 (shL 1 x n) n)[i]? = some 0) := by
  have h := shL_r (x := shL 1 x n) (n := n) (i := i) (by simpa using hi)
  rw [shL_len] at h
  refine ⟨fun h1 => ?_, h.2⟩
  rw [h.1 h1, (shL_l (n := n) h1).1 (by omega)]
  congr 1; omega
theorem fixE_ok {side : Nat} {x : List Int} {n : Nat} (hs : side = 1 ∨ side = 2) (h1 : 1 ≤ x.length) (h2 : x.length ≤ 16) : fixE side x n = 0 := by
  unfold fixE
  have : rightB x.length = true := by unfold rightB; simp; omega
  rw [if_neg (by omega), this, if_neg (by simp), if_neg (by omega)]
end Go.Aig
namespace Go.Proofs.Ytchledddgmbndaa
open Go.RowKit Go.Mem Go.Aig
/-- Fixed of a right word -/
theorem Fixed_o {w0 : Base} {w : World} {g : Nat} {G : Gra} {F : List Nat} {L : List (Value × List Int)} (h : Hold w0 w g G F L) {side : Nat} (hs : side = 1 ∨ side = 2) {xa : Option Addr} {xl : List Int} {n xc : Nat} (hx : (.slice xa n xc, xl) ∈ L) (hxn : xl.length = n) (h1 : 1 ≤ n) (h16 : n ≤ 16) (z : Nat) :
    Calls Try.prog 39 #[.int .u8 side, .slice xa n xc, .int .i64 z] w fun en w' => ∃ a c, en = .returned (.tuple #[.slice a n c, .int .i64 (0 : Nat)]) ∧ Hold w0 w' g G F ((.slice a n c, shL side xl z) :: L) :=
  Fixed_h h side hx hxn z (fixE_ok hs (by omega) (by omega)) (by rw [if_pos rfl, Int.toNat_natCast, shL_min]) (by rw [shL_len, hxn])
set_option maxRecDepth 100000 in
set_option maxHeartbeats 8000000 in
theorem ShiftsFixed_walk {w : World} (wd : Nat) (hw : wd ≤ 255) (i : Nat) (_hi : i ≤ 255) (k : Nat) (_hk : k ≤ 255) : Calls Try.prog 7 #[.int .u8 wd, .int .u8 i, .int .u8 k] w fun e w' => e = .returned (.bool true) ∧ Ch [] w w' := by
  have HP := fun W => two25_is W wd 0 hw (by omega)
  obtain ⟨n, hn, hn1, hn9⟩ : ∃ n, wd % 9 + 1 = n ∧ 1 ≤ n ∧ n ≤ 9 := ⟨_, rfl, by omega, by omega⟩
  obtain ⟨N, hN, hN20⟩ : ∃ N, i % 21 = N ∧ N ≤ 20 := ⟨_, rfl, by omega⟩
  obtain ⟨M, hM, hM20⟩ : ∃ M, k % 21 = M ∧ M ≤ 20 := ⟨_, rfl, by omega⟩
  have hNi : (i : Int) % 21 = N := by omega
  have hMi : (k : Int) % 21 = M := by omega
  rw [hn] at HP
  simp only [Nat.zero_mod, Nat.zero_add] at HP
  have hff := fun side hs => fixed_facts (n := n) (k := N) (side := side) hn1 hn9 hN20 hs
  obtain ⟨X, hX⟩ : ∃ X, X = natInts (rIn 0 n) := ⟨_, rfl⟩
  obtain ⟨CC, hCC⟩ : ∃ CC, CC = natInts (constL N 6) := ⟨_, rfl⟩
  have hXn : X.length = n := by rw [hX]; simp
  have hCn : CC.length = 6 := by rw [hCC]; simp [constL]
  have hfb : ∀ side, (side = 1 ∨ side = 2) → ∀ r ∈ shN side (rIn 0 n) (min N n), r ≤ 1000000 := fun side hs r hr => by
    have := shN_lt (b := 1000) (fun r hr => by have := rIn_le hr; omega) (by omega) r hr
    omega
  have hfe : ∀ side, natInts (shN side (rIn 0 n) (min N n)) = shL side X N := fun side => by
    rw [← shL_nat, ← hX, ← hXn, shL_min]
  have hfl : ∀ side, (shN side (rIn 0 n) (min N n)).length = n := fun side => by simp
  rw [← hX, ← hCC] at hff
  rw [← hX] at HP
  generalize natInts (rIn n 1) = Y at HP
  clear hn hX hN hM
  have HA := fun W => awake25_is W
  have HFF := Lib.hid hff; clear hff
  have HFB := Lib.hid hfb; clear hfb
  have HFE := Lib.hid hfe; clear hfe
  have HFL := Lib.hid hfl; clear hfl
  have HXN := Lib.hid hXn; clear hXn
  have HCN := Lib.hid hCn; clear hCn
  go_enter Try.func7, Try.ntmps7
  go_wp2_with fail
  refine (HA _).mono ?_
  rintro e w1 ⟨rfl, hc1⟩
  have HC1 := Lib.hid hc1; clear hc1
  go_wp2_with fail
  refine (HP _).mono ?_
  rintro e w2 ⟨g, F2, xa, xc, ya, yc, rfl, ho⟩
  have HO := Lib.hid ho; clear ho HP
  go_wp2_with fail
  refine (Len_h HO.out (n := n + 2) (by simp [gIn])).mono ?_
  rintro e w3 ⟨rfl, ho⟩
  clear HO; have HO := Lib.hid ho; clear ho
  go_wp2_with fail
  refine (sConst_h HO.out N (by omega) 6 rfl).mono ?_
  rintro e w4 ⟨ca, cc, rfl, ho⟩
  rw [← hCC] at ho
  clear HO; have HO := Lib.hid ho; clear ho hCC
  go_wp2_with fail
  refine wp_alw ?_
  intro W0 hW0
  have ho := HO.out.keepN (alw_ch hW0) (alw_blk (xs := [.int .u8 1, .int .u8 2]) hW0)
  clear hW0
  clear HO; have HO := Lib.hid ho; clear ho
  generalize w4.heap.size = pb at HO ⊢
  go_loopw [61] (fun i wr => ∃ (j : Nat) (FQ : List Nat), j ≤ 2 ∧ i = .int .i64 j ∧ Hold ((Base.mk w1 []).add pb [.int .u8 1, .int .u8 2]) wr g (gIn 4000 (n + 1)) FQ [(.slice ca 6 cc, CC), (.slice ya 1 yc, Y), (.slice xa n xc, X)]) (fun i _ => 2 - (intOf i).toNat)
  case atStart => exact ⟨0, F2, by omega, rfl, HO.out⟩
  case round =>
    obtain ⟨j, FQ, hj, rfl, ho⟩ := hrel
    clear HO; have HO := Lib.hid ho; clear ho
    by_cases hj2 : j < 2
    · obtain ⟨sd, hsd, hs⟩ : ∃ sd : Nat, [Value.int .u8 1, .int .u8 2][j]? = some (.int .u8 sd) ∧ (sd = 1 ∨ sd = 2) := by
        rcases (by omega : j = 0 ∨ j = 1) with rfl | rfl
        · exact ⟨1, rfl, .inl rfl⟩
        · exact ⟨2, rfl, .inr rfl⟩
      have k0 := (HO.out.kb0).cell hsd
      have hsb : sd ≤ 2 := by omega
      have HS := Lib.hid hs; clear hs hsd
      go_wp2_with fail
      refine (Fixed_o HO.out HS.out (xa := xa) (xc := xc) (n := n) (xl := X) (by simp) HXN.out (by omega) (by omega) N).mono ?_
      rintro e w5 ⟨aa, ac, rfl, ho⟩
      clear HO k0; have HO := Lib.hid ho; clear ho
      go_wp2_with fail
      refine (By_h HO.out sd (xa := xa) (xc := xc) (n := n) (xl := X) (by simp) HXN.out (ya := ca) (yc := cc) (m := 6) (yl := CC) (by simp) HCN.out (HFF.out sd HS.out) (HFL.out sd) (HFB.out sd HS.out) (by omega)).mono ?_
      rintro e w6 ⟨ba, bc, F3, rfl, ho⟩
      rw [HFE.out] at ho
      clear HO; have HO := Lib.hid ho; clear ho
      go_wp2_with fail
      refine (Fixed_o HO.out HS.out (xa := aa) (xc := ac) (n := n) (xl := shL sd X N) (by simp) (by simp [HXN.out]) (by omega) (by omega) M).mono ?_
      rintro e w7 ⟨pa, pc, rfl, ho⟩
      clear HO; have HO := Lib.hid ho; clear ho
      go_wp2_with fail
      refine (Fixed_o HO.out HS.out (xa := xa) (xc := xc) (n := n) (xl := X) (by simp) HXN.out (by omega) (by omega) (N + M)).mono ?_
      rintro e w8 ⟨qa, qc, rfl, ho⟩
      clear HO; have HO := Lib.hid ho; clear ho
      go_wp2_with fail
      refine (Eqref_h HO.out (xa := aa) (xc := ac) (n := n) (xl := shL sd X N) (by simp) (by simp [HXN.out]) (ya := ba) (yc := bc) (m := n) (yl := shL sd X N) (by simp) (by simp [HXN.out]) (q := true) (by simp)).mono ?_
      rintro e w9 ⟨rfl, ho⟩
      clear HO; have HO := Lib.hid ho; clear ho
      have hpq : shL sd (shL sd X N) M = shL sd X (N + M) := by
        have := shL_shL (side := sd) X N M
        rw [shL_min, shL_min] at this
        have h2 := shL_min (side := sd) (shL sd X N) M
        rw [shL_len] at h2
        rw [h2] at this
        exact this
      have HPQ := Lib.hid hpq; clear hpq
      go_wp2_with fail
      refine (Eqref_h HO.out (xa := pa) (xc := pc) (n := n) (xl := shL sd (shL sd X N) M) (by simp) (by simp [HXN.out]) (ya := qa) (yc := qc) (m := n) (yl := shL sd X (N + M)) (by simp) (by simp [HXN.out]) (q := true) (by rw [HPQ.out]; simp)).mono ?_
      rintro e w10 ⟨rfl, ho⟩
      clear HO HPQ
      have ho := ho.sub (L' := [(.slice aa n ac, shL sd X N), (.slice ca 6 cc, CC), (.slice ya 1 yc, Y), (.slice xa n xc, X)]) (by simp)
      have HO := Lib.hid ho; clear ho
      go_wp2_with fail
      go_loopw [127] (fun i wq => ∃ (q : Nat), q ≤ n ∧ i = .int .i64 q ∧ Hold ((Base.mk w1 []).add pb [.int .u8 1, .int .u8 2]) wq g (gIn 4000 (n + 1)) F3 [(.slice aa n ac, shL sd X N), (.slice ca 6 cc, CC), (.slice ya 1 yc, Y), (.slice xa n xc, X)]) (fun i _ => n - (intOf i).toNat)
      case atStart => exact ⟨0, by omega, rfl, HO.out⟩
      case round =>
        obtain ⟨q, hq, rfl, ho⟩ := hrel
        clear HO; have HO := Lib.hid ho; clear ho
        by_cases hqn : q < n
        · have hq2 : q < X.length := by have := HXN.out; omega
          obtain ⟨r, hr⟩ : ∃ r, (shL sd X N)[q]? = some r := ⟨_, List.getElem?_eq_getElem (by simpa using hq2)⟩
          have hca := (HO.out.sl (a := aa) (n := n) (c := ac) (l := shL sd X N) (by simp) (by simp [HXN.out])).cells q r hr
          have hcx := (HO.out.sl (a := xa) (n := n) (c := xc) (l := X) (by simp) HXN.out).cells
          obtain ⟨ab, ao, hae, c0⟩ := hca
          have hxz := hcx 0
          obtain ⟨xb, xo, hxe, _⟩ := hxz _ (List.getElem?_eq_getElem (by omega))
          have hcxx : ∀ (p : Nat) (x : Int), X[p]? = some x → wr.cell? ⟨xb, xo + p, none⟩ = some (.int .i64 x) := fun p x hx => by
            obtain ⟨b, o, e, hc⟩ := hcx p x hx
            rw [hxe] at e
            cases e
            exact hc
          have HAE := Lib.hid hae
          subst hae
          subst hxe
          clear hcx hxz HAE
          have HCXX := Lib.hid hcxx; clear hcxx
          rcases HS.out with hsd | hsd
          · have e2 : ((sd : Int) == 2) = false := by rw [hsd]; rfl
            rw [hsd] at hr
            have hl := shL_l (n := N) hq2
            have HSD := Lib.hid hsd; clear hsd
            by_cases hNq : N ≤ q
            · obtain ⟨p, hp⟩ : ∃ p, q - N = p := ⟨_, rfl⟩
              have hz : (q : Int) - N = p := by omega
              rw [hl.1 hNq, hp] at hr
              have c1 := HCXX.out p r hr
              have d1 : decide ((0 : Int) ≤ (p : Int)) = true := decide_eq_true (by omega)
              have d2 : decide ((p : Int) < n) = true := decide_eq_true (by omega)
              have hpn : p < n := by omega
              clear hl hr hp
              have HO2 := Lib.hid HO.out
              go_wp2_with fail
              go_roundw
              case rel => exact ⟨q + 1, by omega, by go_num, HO2.out⟩
              case measure => simp [intOf]; omega
            · rw [hl.2 (by omega)] at hr
              cases hr
              have d1 : decide ((0 : Int) ≤ (q : Int) - N) = false := decide_eq_false (by omega)
              clear hl
              have HO2 := Lib.hid HO.out
              go_wp2_with fail
              go_roundw
              case rel => exact ⟨q + 1, by omega, by go_num, HO2.out⟩
              case measure => simp [intOf]; omega
          · have e2 : ((sd : Int) == 2) = true := by rw [hsd]; rfl
            rw [hsd] at hr
            have hl := shL_r (n := N) hq2
            rw [HXN.out] at hl
            have HSD := Lib.hid hsd; clear hsd
            have d1 : decide ((0 : Int) ≤ (q : Int) + N) = true := decide_eq_true (by omega)
            by_cases hNq : q + N < n
            · have d2 : decide ((q : Int) + N < n) = true := decide_eq_true (by omega)
              rw [hl.1 hNq] at hr
              have c1 := HCXX.out (q + N) r hr
              clear hl hr
              have HO2 := Lib.hid HO.out
              go_wp2_with fail
              go_roundw
              case rel => exact ⟨q + 1, by omega, by go_num, HO2.out⟩
              case measure => simp [intOf]; omega
            · have d2 : decide ((q : Int) + N < n) = false := decide_eq_false (by omega)
              rw [hl.2 (by omega)] at hr
              cases hr
              clear hl
              have HO2 := Lib.hid HO.out
              go_wp2_with fail
              go_roundw
              case rel => exact ⟨q + 1, by omega, by go_num, HO2.out⟩
              case measure => simp [intOf]; omega
        · have ho := HO.out.sub (L' := [(.slice ca 6 cc, CC), (.slice ya 1 yc, Y), (.slice xa n xc, X)]) (by simp)
          clear HO; have HO := Lib.hid ho; clear ho
          go_wp2_with fail
          go_roundw
          case rel => exact ⟨j + 1, F3, by omega, by go_num, HO.out⟩
          case measure => simp [intOf]; omega
    · have HO2 := Lib.hid HO.out.dropB; clear HO
      go_wp2_with fail
      refine (Fixed_o HO2.out (side := 1) (.inl rfl) (xa := xa) (xc := xc) (n := n) (xl := X) (by simp) HXN.out (by omega) (by omega) N).mono ?_
      rintro e w5 ⟨aa, ac, rfl, ho⟩
      clear HO2; have HO := Lib.hid ho; clear ho
      go_wp2_with fail
      refine (Fixed_o HO.out (side := 2) (.inr rfl) (xa := aa) (xc := ac) (n := n) (xl := shL 1 X N) (by simp) (by simp [HXN.out]) (by omega) (by omega) N).mono ?_
      rintro e w6 ⟨ba, bc, rfl, ho⟩
      clear HO; have HO := Lib.hid ho; clear ho
      go_wp2_with fail
      go_loopw [192] (fun i wq => ∃ (q : Nat), q ≤ n ∧ i = .int .i64 q ∧ Hold (Base.mk w1 []) wq g (gIn 4000 (n + 1)) FQ [(.slice ba n bc, shL 2 (shL 1 X N) N), (.slice aa n ac, shL 1 X N), (.slice ca 6 cc, CC), (.slice ya 1 yc, Y), (.slice xa n xc, X)]) (fun i _ => n - (intOf i).toNat)
      case atStart => exact ⟨0, by omega, rfl, HO.out⟩
      case round =>
        obtain ⟨q, hq, rfl, ho⟩ := hrel
        clear HO; have HO := Lib.hid ho; clear ho
        by_cases hqn : q < n
        · have hq2 : q < X.length := by have := HXN.out; omega
          obtain ⟨r, hr⟩ : ∃ r, (shL 2 (shL 1 X N) N)[q]? = some r := ⟨_, List.getElem?_eq_getElem (by simpa using hq2)⟩
          have hl := shL_back (n := N) hq2
          rw [HXN.out] at hl
          obtain ⟨bb, bo, hbe, c0⟩ := (HO.out.sl (a := ba) (n := n) (c := bc) (l := shL 2 (shL 1 X N) N) (by simp) (by simp [HXN.out])).cells q r hr
          subst hbe
          by_cases hNq : q + N < n
          · have d2 : decide ((q : Int) + N < n) = true := decide_eq_true (by omega)
            rw [hl.1 hNq] at hr
            obtain ⟨xb, xo, hxe, c1⟩ := (HO.out.sl (a := xa) (n := n) (c := xc) (l := X) (by simp) HXN.out).cells q r hr
            subst hxe
            clear hl hr
            have HO2 := Lib.hid HO.out
            go_wp2_with fail
            go_roundw
            case rel => exact ⟨q + 1, by omega, by go_num, HO2.out⟩
            case measure => simp [intOf]; omega
          · have d2 : decide ((q : Int) + N < n) = false := decide_eq_false (by omega)
            rw [hl.2 (by omega)] at hr
            cases hr
            clear hl
            have HO2 := Lib.hid HO.out
            go_wp2_with fail
            go_roundw
            case rel => exact ⟨q + 1, by omega, by go_num, HO2.out⟩
            case measure => simp [intOf]; omega
        · go_wp2_with fail
          refine (Len_h HO.out (n := n + 2) (by simp [gIn])).mono ?_
          rintro e w7 ⟨rfl, ho⟩
          clear HO; have HO := Lib.hid ho; clear ho
          go_wp2_with fail
          go_ret
          exact ⟨by simp, HC1.out.trans HO.out.own.ch (by simp)⟩
end Go.Proofs.Ytchledddgmbndaa
