/-
  Walk over ShiftsFixed: true, whatever comes in. Conditions: none.
  Walk over ShiftsWords: true, whatever comes in. Conditions: none.
  Graphs that are none: nil, and the zero value; what Len says of them. Conditions: such a graph.
  Walk over ShiftsSmall: true. Conditions: none.
  Walk over ShiftsSmall: true. Conditions: none.
-/
import Derived.Test.YtchledddgmbndaaQE
import Derived.Test.YtchledddgmbndaaQF
import Derived.Test.YtchledddgmbndaaQD
namespace Go.Aig
theorem shL_min {side : Nat} (x : List Int) (n : Nat) : shL side x (min n x.length) = shL side x n := by
  unfold shL
  refine List.map_congr_left fun i hi => ?_
  have hi := List.mem_range.1 hi
  by_cases h : n ≤ x.length
  · rw [Nat.min_eq_left h]
  · rw [Nat.min_eq_right (by omega)]
    split
    · rw [if_neg (by omega), if_neg (by omega)]
    · rw [List.getD_eq_getElem?_getD, List.getD_eq_getElem?_getD, List.getElem?_eq_none (by omega), List.getElem?_eq_none (by omega)]
/-- what stands in a word shifted -/
theorem shL_l {x : List Int} {n i : Nat} (hi : i < x.length) : (n ≤ i → (shL 1 x n)[i]? = x[i - n]?) ∧ (i < n → (shL 1 x n)[i]? = some 0) := by
  rw [shL_at hi, if_pos rfl]
  refine ⟨fun h => ?_, fun h => by rw [if_neg (by omega)]⟩
  rw [if_pos h, List.getD_eq_getElem?_getD, List.getElem?_eq_getElem (by omega)]
  rfl
theorem shL_r {x : List Int} {n i : Nat} (hi : i < x.length) : (i + n < x.length → (shL 2 x n)[i]? = x[i + n]?) ∧ (x.length ≤ i + n → (shL 2 x n)[i]? = some 0) := by
  rw [shL_at hi, if_neg (by omega)]
  refine ⟨fun h => ?_, fun h => ?_⟩
  · rw [List.getD_eq_getElem?_getD, List.getElem?_eq_getElem h]; rfl
  · rw [List.getD_eq_getElem?_getD, List.getElem?_eq_none h]; rfl
theorem shL_back {x : List Int} {n i : Nat} (hi : i < x.length) : (i + n < x.length → (shL 2 (shL 1 x n) n)[i]? = x[i]?) ∧ (x.length ≤ i + n → (shL 2 (shL 1 x n) n)[i]? = some 0) := by
  have h := shL_r (x := shL 1 x n) (n := n) (i := i) (by simpa using hi)
  rw [shL_len] at h
  refine ⟨fun h1 => ?_, h.2⟩
  rw [h.1 h1, (shL_l (n := n) h1).1 (by omega)]
  congr 1; omega
theorem fixE_ok {side : Nat} {x : List Int} {n : Nat} (hs : side = 1 ∨ side = 2) (h1 : 1 ≤ x.length) (h2 : x.length ≤ 16) : fixE side x n = 0 := by
  unfold fixE
  have : rightB x.length = true := by unfold rightB; simp; omega
  rw [if_neg (by omega), this, if_neg (by simp), if_neg (by omega)]
end Go.Aig
namespace Go.Proofs.Ytchledddgmbndaa
open Go.RowKit Go.Mem Go.Aig
/-- Fixed of a right word -/
theorem Fixed_o {w0 : Base} {w : World} {g : Nat} {G : Gra} {F : List Nat} {L : List (Value × List Int)} (h : Hold w0 w g G F L) {side : Nat} (hs : side = 1 ∨ side = 2) {xa : Option Addr} {xl : List Int} {n xc : Nat} (hx : (.slice xa n xc, xl) ∈ L) (hxn : xl.length = n) (h1 : 1 ≤ n) (h16 : n ≤ 16) (z : Nat) :
    Calls Try.prog 39 #[.int .u8 side, .slice xa n xc, .int .i64 z] w fun en w' => ∃ a c, en = .returned (.tuple #[.slice a n c, .int .i64 (0 : Nat)]) ∧ Hold w0 w' g G F ((.slice a n c, shL side xl z) :: L) :=
  Fixed_h h side hx hxn z (fixE_ok hs (by omega) (by omega)) (by rw [if_pos rfl, Int.toNat_natCast, shL_min]) (by rw [shL_len, hxn])
set_option maxRecDepth 100000 in
set_option maxHeartbeats 8000000 in
theorem ShiftsFixed_walk {w : World} (wd : Nat) (hw : wd ≤ 255) (i : Nat) (_hi : i ≤ 255) (k : Nat) (_hk : k ≤ 255) : Calls Try.prog 7 #[.int .u8 wd, .int .u8 i, .int .u8 k] w fun e w' => e = .returned (.bool true) ∧ Ch [] w w' := by
  have HP := fun W => two25_is W wd 0 hw (by omega)
  obtain ⟨n, hn, hn1, hn9⟩ : ∃ n, wd % 9 + 1 = n ∧ 1 ≤ n ∧ n ≤ 9 := ⟨_, rfl, by omega, by omega⟩
  obtain ⟨N, hN, hN20⟩ : ∃ N, i % 21 = N ∧ N ≤ 20 := ⟨_, rfl, by omega⟩
  obtain ⟨M, hM, hM20⟩ : ∃ M, k % 21 = M ∧ M ≤ 20 := ⟨_, rfl, by omega⟩
  have hNi : (i : Int) % 21 = N := by omega
  have hMi : (k : Int) % 21 = M := by omega
  rw [hn] at HP
  simp only [Nat.zero_mod, Nat.zero_add] at HP
  have hff := fun side hs => fixed_facts (n := n) (k := N) (side := side) hn1 hn9 hN20 hs
  obtain ⟨X, hX⟩ : ∃ X, X = natInts (rIn 0 n) := ⟨_, rfl⟩
  obtain ⟨CC, hCC⟩ : ∃ CC, CC = natInts (constL N 6) := ⟨_, rfl⟩
  have hXn : X.length = n := by rw [hX]; simp
  have hCn : CC.length = 6 := by rw [hCC]; simp [constL]
  have hfb : ∀ side, (side = 1 ∨ side = 2) → ∀ r ∈ shN side (rIn 0 n) (min N n), r ≤ 1000000 := fun side hs r hr => by
    have := shN_lt (b := 1000) (fun r hr => by have := rIn_le hr; omega) (by omega) r hr
    omega
  have hfe : ∀ side, natInts (shN side (rIn 0 n) (min N n)) = shL side X N := fun side => by
    rw [← shL_nat, ← hX, ← hXn, shL_min]
  have hfl : ∀ side, (shN side (rIn 0 n) (min N n)).length = n := fun side => by simp
  rw [← hX, ← hCC] at hff
  rw [← hX] at HP
  generalize natInts (rIn n 1) = Y at HP
  clear hn hX hN hM
  have HA := fun W => awake25_is W
  have HFF := Lib.hid hff; clear hff
  have HFB := Lib.hid hfb; clear hfb
  have HFE := Lib.hid hfe; clear hfe
  have HFL := Lib.hid hfl; clear hfl
  have HXN := Lib.hid hXn; clear hXn
  have HCN := Lib.hid hCn; clear hCn
  go_enter Try.func7, Try.ntmps7
  go_wp2_with fail
  refine (HA _).mono ?_
  rintro e w1 ⟨rfl, hc1⟩
  have HC1 := Lib.hid hc1; clear hc1
  go_wp2_with fail
  refine (HP _).mono ?_
  rintro e w2 ⟨g, F2, xa, xc, ya, yc, rfl, ho⟩
  have HO := Lib.hid ho; clear ho HP
  go_wp2_with fail
  refine (Len_h HO.out (n := n + 2) (by simp [gIn])).mono ?_
  rintro e w3 ⟨rfl, ho⟩
  clear HO; have HO := Lib.hid ho; clear ho
  go_wp2_with fail
  refine (sConst_h HO.out N (by omega) 6 rfl).mono ?_
  rintro e w4 ⟨ca, cc, rfl, ho⟩
  rw [← hCC] at ho
  clear HO; have HO := Lib.hid ho; clear ho hCC
  go_wp2_with fail
  refine wp_alw ?_
  intro W0 hW0
  have ho := HO.out.keepN (alw_ch hW0) (alw_blk (xs := [.int .u8 1, .int .u8 2]) hW0)
  clear hW0
  clear HO; have HO := Lib.hid ho; clear ho
  generalize w4.heap.size = pb at HO ⊢
  go_loopw [61] (fun i wr => ∃ (j : Nat) (FQ : List Nat), j ≤ 2 ∧ i = .int .i64 j ∧ Hold ((Base.mk w1 []).add pb [.int .u8 1, .int .u8 2]) wr g (gIn 4000 (n + 1)) FQ [(.slice ca 6 cc, CC), (.slice ya 1 yc, Y), (.slice xa n xc, X)]) (fun i _ => 2 - (intOf i).toNat)
  case atStart => exact ⟨0, F2, by omega, rfl, HO.out⟩
  case round =>
    obtain ⟨j, FQ, hj, rfl, ho⟩ := hrel
    clear HO; have HO := Lib.hid ho; clear ho
    by_cases hj2 : j < 2
    · obtain ⟨sd, hsd, hs⟩ : ∃ sd : Nat, [Value.int .u8 1, .int .u8 2][j]? = some (.int .u8 sd) ∧ (sd = 1 ∨ sd = 2) := by
        rcases (by omega : j = 0 ∨ j = 1) with rfl | rfl
        · exact ⟨1, rfl, .inl rfl⟩
        · exact ⟨2, rfl, .inr rfl⟩
      have k0 := (HO.out.kb0).cell hsd
      have hsb : sd ≤ 2 := by omega
      have HS := Lib.hid hs; clear hs hsd
      go_wp2_with fail
      refine (Fixed_o HO.out HS.out (xa := xa) (xc := xc) (n := n) (xl := X) (by simp) HXN.out (by omega) (by omega) N).mono ?_
      rintro e w5 ⟨aa, ac, rfl, ho⟩
      clear HO k0; have HO := Lib.hid ho; clear ho
      go_wp2_with fail
      refine (By_h HO.out sd (xa := xa) (xc := xc) (n := n) (xl := X) (by simp) HXN.out (ya := ca) (yc := cc) (m := 6) (yl := CC) (by simp) HCN.out (HFF.out sd HS.out) (HFL.out sd) (HFB.out sd HS.out) (by omega)).mono ?_
      rintro e w6 ⟨ba, bc, F3, rfl, ho⟩
      rw [HFE.out] at ho
      clear HO; have HO := Lib.hid ho; clear ho
      go_wp2_with fail
      refine (Fixed_o HO.out HS.out (xa := aa) (xc := ac) (n := n) (xl := shL sd X N) (by simp) (by simp [HXN.out]) (by omega) (by omega) M).mono ?_
      rintro e w7 ⟨pa, pc, rfl, ho⟩
      clear HO; have HO := Lib.hid ho; clear ho
      go_wp2_with fail
      refine (Fixed_o HO.out HS.out (xa := xa) (xc := xc) (n := n) (xl := X) (by simp) HXN.out (by omega) (by omega) (N + M)).mono ?_
      rintro e w8 ⟨qa, qc, rfl, ho⟩
      clear HO; have HO := Lib.hid ho; clear ho
      go_wp2_with fail
      refine (Eqref_h HO.out (xa := aa) (xc := ac) (n := n) (xl := shL sd X N) (by simp) (by simp [HXN.out]) (ya := ba) (yc := bc) (m := n) (yl := shL sd X N) (by simp) (by simp [HXN.out]) (q := true) (by simp)).mono ?_
      rintro e w9 ⟨rfl, ho⟩
      clear HO; have HO := Lib.hid ho; clear ho
      have hpq : shL sd (shL sd X N) M = shL sd X (N + M) := by
        have := shL_shL (side := sd) X N M
        rw [shL_min, shL_min] at this
        have h2 := shL_min (side := sd) (shL sd X N) M
        rw [shL_len] at h2
        rw [h2] at this
        exact this
      have HPQ := Lib.hid hpq; clear hpq
      go_wp2_with fail
      refine (Eqref_h HO.out (xa := pa) (xc := pc) (n := n) (xl := shL sd (shL sd X N) M) (by simp) (by simp [HXN.out]) (ya := qa) (yc := qc) (m := n) (yl := shL sd X (N + M)) (by simp) (by simp [HXN.out]) (q := true) (by rw [HPQ.out]; simp)).mono ?_
      rintro e w10 ⟨rfl, ho⟩
      clear HO HPQ
      have ho := ho.sub (L' := [(.slice aa n ac, shL sd X N), (.slice ca 6 cc, CC), (.slice ya 1 yc, Y), (.slice xa n xc, X)]) (by simp)
      have HO := Lib.hid ho; clear ho
      go_wp2_with fail
      go_loopw [127] (fun i wq => ∃ (q : Nat), q ≤ n ∧ i = .int .i64 q ∧ Hold ((Base.mk w1 []).add pb [.int .u8 1, .int .u8 2]) wq g (gIn 4000 (n + 1)) F3 [(.slice aa n ac, shL sd X N), (.slice ca 6 cc, CC), (.slice ya 1 yc, Y), (.slice xa n xc, X)]) (fun i _ => n - (intOf i).toNat)
      case atStart => exact ⟨0, by omega, rfl, HO.out⟩
      case round =>
        obtain ⟨q, hq, rfl, ho⟩ := hrel
        clear HO; have HO := Lib.hid ho; clear ho
        by_cases hqn : q < n
        · have hq2 : q < X.length := by have := HXN.out; omega
          obtain ⟨r, hr⟩ : ∃ r, (shL sd X N)[q]? = some r := ⟨_, List.getElem?_eq_getElem (by simpa using hq2)⟩
          have hca := (HO.out.sl (a := aa) (n := n) (c := ac) (l := shL sd X N) (by simp) (by simp [HXN.out])).cells q r hr
          have hcx := (HO.out.sl (a := xa) (n := n) (c := xc) (l := X) (by simp) HXN.out).cells
          obtain ⟨ab, ao, hae, c0⟩ := hca
          have hxz := hcx 0
          obtain ⟨xb, xo, hxe, _⟩ := hxz _ (List.getElem?_eq_getElem (by omega))
          have hcxx : ∀ (p : Nat) (x : Int), X[p]? = some x → wr.cell? ⟨xb, xo + p, none⟩ = some (.int .i64 x) := fun p x hx => by
            obtain ⟨b, o, e, hc⟩ := hcx p x hx
            rw [hxe] at e
            cases e
            exact hc
          have HAE := Lib.hid hae
          subst hae
          subst hxe
          clear hcx hxz HAE
          have HCXX := Lib.hid hcxx; clear hcxx
          rcases HS.out with hsd | hsd
          · have e2 : ((sd : Int) == 2) = false := by rw [hsd]; rfl
            rw [hsd] at hr
            have hl := shL_l (n := N) hq2
            have HSD := Lib.hid hsd; clear hsd
            by_cases hNq : N ≤ q
            · obtain ⟨p, hp⟩ : ∃ p, q - N = p := ⟨_, rfl⟩
              have hz : (q : Int) - N = p := by omega
              rw [hl.1 hNq, hp] at hr
              have c1 := HCXX.out p r hr
              have d1 : decide ((0 : Int) ≤ (p : Int)) = true := decide_eq_true (by omega)
              have d2 : decide ((p : Int) < n) = true := decide_eq_true (by omega)
              have hpn : p < n := by omega
              clear hl hr hp
              have HO2 := Lib.hid HO.out
              go_wp2_with fail
              go_roundw
              case rel => exact ⟨q + 1, by omega, by go_num, HO2.out⟩
              case measure => simp [intOf]; omega
            · rw [hl.2 (by omega)] at hr
              cases hr
              have d1 : decide ((0 : Int) ≤ (q : Int) - N) = false := decide_eq_false (by omega)
              clear hl
              have HO2 := Lib.hid HO.out
              go_wp2_with fail
              go_roundw
              case rel => exact ⟨q + 1, by omega, by go_num, HO2.out⟩
              case measure => simp [intOf]; omega
          · have e2 : ((sd : Int) == 2) = true := by rw [hsd]; rfl
            rw [hsd] at hr
            have hl := shL_r (n := N) hq2
            rw [HXN.out] at hl
            have HSD := Lib.hid hsd; clear hsd
            have d1 : decide ((0 : Int) ≤ (q : Int) + N) = true := decide_eq_true (by omega)
            by_cases hNq : q + N < n
            · have d2 : decide ((q : Int) + N < n) = true := decide_eq_true (by omega)
              rw [hl.1 hNq] at hr
              have c1 := HCXX.out (q + N) r hr
              clear hl hr
              have HO2 := Lib.hid HO.out
              go_wp2_with fail
              go_roundw
              case rel => exact ⟨q + 1, by omega, by go_num, HO2.out⟩
              case measure => simp [intOf]; omega
            · have d2 : decide ((q : Int) + N < n) = false := decide_eq_false (by omega)
              rw [hl.2 (by omega)] at hr
              cases hr
              clear hl
              have HO2 := Lib.hid HO.out
              go_wp2_with fail
              go_roundw
              case rel => exact ⟨q + 1, by omega, by go_num, HO2.out⟩
              case measure => simp [intOf]; omega
        · have ho := HO.out.sub (L' := [(.slice ca 6 cc, CC), (.slice ya 1 yc, Y), (.slice xa n xc, X)]) (by simp)
          clear HO; have HO := Lib.hid ho; clear ho
          go_wp2_with fail
          go_roundw
          case rel => exact ⟨j + 1, F3, by omega, by go_num, HO.out⟩
          case measure => simp [intOf]; omega
    · have HO2 := Lib.hid HO.out.dropB; clear HO
      go_wp2_with fail
      refine (Fixed_o HO2.out (side := 1) (.inl rfl) (xa := xa) (xc := xc) (n := n) (xl := X) (by simp) HXN.out (by omega) (by omega) N).mono ?_
      rintro e w5 ⟨aa, ac, rfl, ho⟩
      clear HO2; have HO := Lib.hid ho; clear ho
      go_wp2_with fail
      refine (Fixed_o HO.out (side := 2) (.inr rfl) (xa := aa) (xc := ac) (n := n) (xl := shL 1 X N) (by simp) (by simp [HXN.out]) (by omega) (by omega) N).mono ?_
      rintro e w6 ⟨ba, bc, rfl, ho⟩
      clear HO; have HO := Lib.hid ho; clear ho
      go_wp2_with fail
      go_loopw [192] (fun i wq => ∃ (q : Nat), q ≤ n ∧ i = .int .i64 q ∧ Hold (Base.mk w1 []) wq g (gIn 4000 (n + 1)) FQ [(.slice ba n bc, shL 2 (shL 1 X N) N), (.slice aa n ac, shL 1 X N), (.slice ca 6 cc, CC), (.slice ya 1 yc, Y), (.slice xa n xc, X)]) (fun i _ => n - (intOf i).toNat)
      case atStart => exact ⟨0, by omega, rfl, HO.out⟩
      case round =>
        obtain ⟨q, hq, rfl, ho⟩ := hrel
        clear HO; have HO := Lib.hid ho; clear ho
        by_cases hqn : q < n
        · have hq2 : q < X.length := by have := HXN.out; omega
          obtain ⟨r, hr⟩ : ∃ r, (shL 2 (shL 1 X N) N)[q]? = some r := ⟨_, List.getElem?_eq_getElem (by simpa using hq2)⟩
          have hl := shL_back (n := N) hq2
          rw [HXN.out] at hl
          obtain ⟨bb, bo, hbe, c0⟩ := (HO.out.sl (a := ba) (n := n) (c := bc) (l := shL 2 (shL 1 X N) N) (by simp) (by simp [HXN.out])).cells q r hr
          subst hbe
          by_cases hNq : q + N < n
          · have d2 : decide ((q : Int) + N < n) = true := decide_eq_true (by omega)
            rw [hl.1 hNq] at hr
            obtain ⟨xb, xo, hxe, c1⟩ := (HO.out.sl (a := xa) (n := n) (c := xc) (l := X) (by simp) HXN.out).cells q r hr
            subst hxe
            clear hl hr
            have HO2 := Lib.hid HO.out
            go_wp2_with fail
            go_roundw
            case rel => exact ⟨q + 1, by omega, by go_num, HO2.out⟩
            case measure => simp [intOf]; omega
          · have d2 : decide ((q : Int) + N < n) = false := decide_eq_false (by omega)
            rw [hl.2 (by omega)] at hr
            cases hr
            clear hl
            have HO2 := Lib.hid HO.out
            go_wp2_with fail
            go_roundw
            case rel => exact ⟨q + 1, by omega, by go_num, HO2.out⟩
            case measure => simp [intOf]; omega
        · go_wp2_with fail
          refine (Len_h HO.out (n := n + 2) (by simp [gIn])).mono ?_
          rintro e w7 ⟨rfl, ho⟩
          clear HO; have HO := Lib.hid ho; clear ho
          go_wp2_with fail
          go_ret
          exact ⟨by simp, HC1.out.trans HO.out.own.ch (by simp)⟩
end Go.Proofs.Ytchledddgmbndaa
namespace Go.Proofs.Ytchledddgmbndaa
open Go.RowKit Go.Mem Go.Aig
/-- blocks keep their length -/
def Shp (w w' : World) : Prop := ∀ b ys, blk w b ys → ∃ ys', blk w' b ys' ∧ ys'.length = ys.length
theorem Shp.refl (w : World) : Shp w w := fun _ ys h => ⟨ys, h, rfl⟩
theorem Shp.set {w w' : World} (h : Shp w w') (b k : Nat) (v : Value) : Shp w (w'.setCell ⟨b, k, none⟩ v) := fun c ys hc => by
  obtain ⟨zs, h1, h2⟩ := h c ys hc
  by_cases e : c = b
  · subst e; exact ⟨_, h1.set (i := k) v, by simpa using h2⟩
  · exact ⟨zs, h1.other e v, h2⟩
/-- a cell of a row can be stored into -/
theorem Shp.cell {w w' : World} {e : TypeId} {a : Option Addr} {n c k : Nat} {xs : List Value} (h : Shp w w') (hr : row w e 1 (.slice a n c) n xs) (hk : k < n) : ∃ (b : Nat) (old : Value), a = some ⟨b, 0, none⟩ ∧ w'.cell? ⟨b, k, none⟩ = some old ∧ w'.frozen? ⟨b, k, none⟩ = false := by
  obtain ⟨b, ys, e1, hb, hl⟩ := rowBlk hr k hk
  obtain ⟨zs, h1, h2⟩ := h b ys hb
  exact ⟨b, _, e1, h1.cell (List.getElem?_eq_getElem (show k < zs.length by omega)), h1.frozen⟩
section
variable {w : World}
theorem Turn_w {xa : Option Addr} {xl : List Int} {n : Nat} (xc : Nat) (z : Int) (hS : Sl w xa xl) (hn : xl.length = n) (hcap : n ≤ xc) (hb : -9223372036854775808 ≤ z ∧ z ≤ 9223372036854775807) :
    Calls Try.prog 43 #[.slice xa n xc, .int .i64 z] w fun e w' => ∃ v, e = .returned (.tuple #[v, .int .i64 (if rightB n then 0 else 250 : Nat)]) ∧ WNew w v (intCells (if rightB n then turnL xl z else [])) w' := by
  subst hn
  cases hr : rightB xl.length
  · refine (Turn_no xc z hr).mono ?_
    rintro e w' ⟨rfl, rfl⟩
    exact ⟨_, rfl, WNew.nil (Ch.refl _ _)⟩
  · exact Turn_yes xc z hS hcap hr hb
set_option maxRecDepth 100000 in
set_option maxHeartbeats 8000000 in
theorem words25_is (side : Nat) (_hsd : side ≤ 255) {la : Option Addr} {l : List Int} (n lc : Nat) (hn : l.length = n) (N M : Int) (hS : Sl w la l) (hl : n ≤ 30) (hN : -9223372036854775808 ≤ N ∧ N ≤ 9223372036854775807) (_hM : -9223372036854775808 ≤ M ∧ M ≤ 9223372036854775807) (hbd : ∀ r ∈ l, -9223372036854775808 ≤ r ∧ r ≤ 9223372036854775807) :
    Calls Try.prog 36 #[.int .u8 side, .slice la n lc, .int .i64 N, .int .i64 M] w fun e w' => e = .returned (.bool true) ∧ Ch [] w w' := by
  obtain ⟨LA, hLA⟩ : ∃ LA, LA = if fixE side l N = 0 then shL side l N.toNat else [] := ⟨_, rfl⟩
  have hLA2 : (if fixE side l N = 0 then shL side l (min N.toNat l.length) else []) = LA := by rw [hLA, shL_min]
  obtain ⟨ka, hka⟩ : ∃ ka, LA.length = ka := ⟨_, rfl⟩
  have hka30 : ka ≤ 30 := by
    rw [← hka, hLA]
    split
    · rw [shL_len]; omega
    · simp
  have hbA : ∀ r ∈ LA, -9223372036854775808 ≤ r ∧ r ≤ 9223372036854775807 := by
    rw [hLA]
    split
    · exact shL_bd hbd
    · simp
  have hFX := fun (W : World) (hc : Ch [] w W) => r25Fixed_is (w := W) side n lc N (hS.ch hc (by simp)) hn hN.2
  rw [← hLA] at hFX
  have hFP := fun (W : World) (xa : Option Addr) (xc : Nat) (hs : Sl W xa l) => Fixed_is (w := W) (side := side) xc N hs (by omega)
  rw [hn] at hLA2
  simp only [hn, hLA2] at hFP
  obtain ⟨EA, hEA⟩ : ∃ EA, EA = fixE side l N := ⟨_, rfl⟩
  rw [← hEA] at hFX hFP
  have hTW := fun (W : World) (xa : Option Addr) (xc : Nat) (hs : Sl W xa l) (hx : n ≤ xc) => Turn_w (w := W) xc N hs hn hx hN
  have hTR := fun (W : World) (hc : Ch [] w W) (h1 : 1 ≤ n) (h16 : n ≤ 16) => r25Turn_is (w := W) n lc N (hS.ch hc (by simp)) hn h1 h16
  have hS1 := fun W => Steps_is (w := W) N M
  have hS2 := fun W => r25Steps_is (w := W) N M
  obtain ⟨K, hK⟩ : ∃ K : Nat, K = if rightB N && rightB M then stepsN N.toNat M.toNat else 0 := ⟨_, rfl⟩
  obtain ⟨EK, hEK⟩ : ∃ EK : Nat, EK = if rightB N && rightB M then 0 else 250 := ⟨_, rfl⟩
  rw [← hK, ← hEK] at hS1 hS2
  have hRF := fun (W : World) (hc : Ch [] w W) => Refs23_is (w := W) n lc hn (hS.ch hc (by simp)) (by omega)
  clear hLA hLA2 hEA hK hEK
  have HS := Lib.hid hS; clear hS
  have HBD := Lib.hid hbd; clear hbd
  have HBA := Lib.hid hbA; clear hbA
  have HKA := Lib.hid hka; clear hka
  have HFX := Lib.hid hFX; clear hFX
  have HFP := Lib.hid hFP; clear hFP
  have HTW := Lib.hid hTW; clear hTW
  have HTR := Lib.hid hTR; clear hTR
  have HS1 := Lib.hid hS1; clear hS1
  have HS2 := Lib.hid hS2; clear hS2
  have HRF := Lib.hid hRF; clear hRF
  have HN := Lib.hid hn; clear hn
  obtain ⟨LB, hLB⟩ : ∃ LB, LB = if rightB n then turnL l N else [] := ⟨_, rfl⟩
  obtain ⟨EB, hEB⟩ : ∃ EB : Nat, EB = if rightB n then 0 else 250 := ⟨_, rfl⟩
  rw [← hLB, ← hEB] at HTW
  obtain ⟨kb, hkb⟩ : ∃ kb, LB.length = kb := ⟨_, rfl⟩
  have hbB : ∀ r ∈ LB, -9223372036854775808 ≤ r ∧ r ≤ 9223372036854775807 := by
    rw [hLB]
    split
    · exact fun r hr => HBD.out r ((turnL_perm l N).mem_iff.1 hr)
    · simp
  have hkb30 : kb ≤ 30 := by
    rw [← hkb, hLB]
    split
    · rw [turnL_len]; have := HN.out; omega
    · simp
  have HBB := Lib.hid hbB; clear hbB
  have HKB := Lib.hid hkb; clear hkb
  have HLB := Lib.hid hLB; clear hLB
  have HEB := Lib.hid hEB; clear hEB
  go_enter Try.func36, Try.ntmps36
  go_wp2_with fail
  refine (HRF.out _ (Ch.refl _ _)).mono ?_
  rintro e w1 ⟨v, rfl, hro, hlo, hc1⟩
  obtain ⟨oa, oc, rfl⟩ := row.shape hro
  have hsx := Sl.of_ints hro (by omega)
  have hcap := (row_cap hro).1
  have HRO := Lib.hid hro; clear hro
  have HLO := Lib.hid hlo; clear hlo
  have HC1 := Lib.hid hc1; clear hc1
  have HSX := Lib.hid hsx; clear hsx
  go_wp2_with fail
  refine (HFP.out _ _ _ HSX.out).mono ?_
  rintro e w2 ⟨v, rfl, hv⟩
  obtain ⟨aa, ac, rfl, hk⟩ := (Keeps.start w1).new hv HBA.out (by have := HKA.out; omega)
  rw [HKA.out] at hk
  simp only [HKA.out]
  clear hv
  have HO := Lib.hid hk; clear hk
  go_wp2_with fail
  refine (HTW.out _ _ _ (HSX.out.ch HO.out.ch (by simp)) hcap).mono ?_
  rintro e w3 ⟨v, rfl, hv⟩
  obtain ⟨ba, bc, rfl, hk⟩ := HO.out.new hv HBB.out (by have := HKB.out; omega)
  rw [HKB.out] at hk
  simp only [HKB.out]
  clear hv HO
  have HO := Lib.hid hk; clear hk
  go_wp2_with fail
  refine (HS1.out _).mono ?_
  rintro e w' ⟨rfl, rfl⟩
  go_wp2_with fail
  refine (HFX.out _ (HC1.out.trans HO.out.ch (by simp))).mono ?_
  rintro e w4 ⟨v, rfl, hv⟩
  obtain ⟨qa, qc, rfl, hrq, _, hc4⟩ := hv.parts HKA.out
  have ho := HO.out.same hc4
  clear HO hc4 hv
  have HO := Lib.hid ho; clear ho
  have HRQ := Lib.hid hrq; clear hrq
  go_wp2_with fail
  refine (HS2.out _).mono ?_
  rintro e w' ⟨rfl, rfl⟩
  go_wp2_with fail
  refine (Ints23_is (a := aa) (l := LA) ka ac HKA.out (HO.out.sl (a := aa) (n := ka) (c := ac) (by simp) HKA.out) (by omega)).mono ?_
  rintro e w5 ⟨v, rfl, hri, _, hc5⟩
  obtain ⟨ia, ic, rfl⟩ := row.shape hri
  have hE := Eqint_is (w := w5) ic qc (xs := LA) (ys := LA) (Sl.of_ints hri (by omega)) (Sl.of_ints (HRQ.out.ch hc5 (by simp)) (by omega))
  simp only [HKA.out, decide_true] at hE
  have ho := HO.out.same hc5
  clear HO hc5 hri HRQ
  have HO := Lib.hid ho; clear ho
  have HE := Lib.hid hE; clear hE
  go_wp2_with fail
  refine HE.out.mono ?_
  rintro e w6 ⟨rfl, hc6⟩
  have ho := HO.out.same hc6
  clear HO hc6 HE
  have HO := Lib.hid ho; clear ho
  cases hr : rightB n
  · rw [hr] at HLB HEB
    have hlb0 : LB = [] := HLB.out
    have heb0 : EB = 250 := HEB.out
    have hkb0 : kb = 0 := by rw [← HKB.out, hlb0]; rfl
    subst heb0 hkb0
    have hd : (n : Int) < 1 ∨ 16 < (n : Int) := by unfold rightB at hr; simp at hr; omega
    clear hr
    by_cases h1 : (n : Int) < 1
    · have d1 : decide ((n : Int) < 1) = true := decide_eq_true h1
      clear hd h1
      have ha0 := HO.out.held (.slice aa ka ac, LA) (by simp)
      have hb0 := HO.out.held (.slice ba 0 bc, LB) (by simp)
      have hra := ha0.row
      rw [HKA.out] at hra
      have hrb := hb0.row
      rw [HKB.out] at hrb
      have hlo2 : ∀ q ∈ (Value.slice aa ka ac).ownBlock.toList ++ (Value.slice ba 0 bc).ownBlock.toList, w1.heap.size ≤ q := fun q hq => by
        rcases List.mem_append.1 hq with hq | hq
        · exact (ha0.own q (by simpa using hq)).1
        · exact (hb0.own q (by simpa using hq)).1
      have HRA := Lib.hid hra; clear hra ha0
      have HRB := Lib.hid hrb; clear hrb hb0
      have HLO2 := Lib.hid hlo2; clear hlo2
      go_wp2_with fail
      refine wp_alw ?_
      intro W0 hW0
      have hpb := alw_blk (xs := [.slice aa ka ac, .slice ba 0 bc]) hW0
      have hc0 := alw_ch hW0
      have hpl : ∀ q ∈ (Value.slice aa ka ac).ownBlock.toList ++ (Value.slice ba 0 bc).ownBlock.toList, q ≠ w6.heap.size := fun q hq => by
        rcases List.mem_append.1 hq with hq | hq
        · have := (HRA.out.lt q (by simpa using hq)).2; omega
        · have := (HRB.out.lt q (by simpa using hq)).2; omega
      have hra := HRA.out.ch hc0 (by simp)
      have hrb := HRB.out.ch hc0 (by simp)
      have hcw := (HC1.out.trans HO.out.ch (by simp)).trans hc0 (by simp)
      have hc10 := HO.out.ch.trans hc0 (by simp)
      clear hW0 HRA HRB HO hc0
      generalize w6.heap.size = pb at *
      have HRA := Lib.hid hra; clear hra
      have HRB := Lib.hid hrb; clear hrb
      have HPB := Lib.hid hpb; clear hpb
      have HPL := Lib.hid hpl; clear hpl
      have HCW := Lib.hid hcw; clear hcw
      have HC10 := Lib.hid hc10; clear hc10
      go_loopw [108] (fun i wr => ∃ j : Nat, j ≤ 2 ∧ i = .int .i64 j ∧ Ch ((Value.slice aa ka ac).ownBlock.toList ++ (Value.slice ba 0 bc).ownBlock.toList) W0 wr ∧ Shp W0 wr) (fun i _ => 2 - (intOf i).toNat)
      case atStart => exact ⟨0, by omega, rfl, Ch.refl _ _, Shp.refl _⟩
      case round =>
        obtain ⟨j, hj, rfl, hc, hsh⟩ := hrel
        have HC := Lib.hid hc; clear hc
        have HSH := Lib.hid hsh; clear hsh
        by_cases hj2 : j < 2
        · obtain ⟨ua, un, uc, us, hcu, hru, hown⟩ : ∃ ua un uc us, [Value.slice aa ka ac, .slice ba 0 bc][j]? = some (.slice ua un uc) ∧ row W0 34 1 (.slice ua un uc) un us ∧ (∀ q ∈ (Value.slice ua un uc).ownBlock.toList, q ∈ (Value.slice aa ka ac).ownBlock.toList ++ (Value.slice ba 0 bc).ownBlock.toList) := by
            rcases (by omega : j = 0 ∨ j = 1) with rfl | rfl
            · exact ⟨aa, ka, ac, _, rfl, HRA.out, fun q hq => List.mem_append_left _ hq⟩
            · exact ⟨ba, 0, bc, _, rfl, HRB.out, fun q hq => List.mem_append_right _ hq⟩
          have k0 := (HPB.out.ch HC.out (fun hin => HPL.out _ hin rfl)).cell hcu
          have HRU := Lib.hid hru; clear hru hcu
          have HOWN := Lib.hid hown; clear hown
          have hub : un ≤ 9223372036854775807 := by have := row_cap HRU.out; omega
          go_wp2_with fail
          go_loopw [114] (fun i wq => ∃ k : Nat, k ≤ un ∧ i = .int .i64 k ∧ Ch ((Value.slice aa ka ac).ownBlock.toList ++ (Value.slice ba 0 bc).ownBlock.toList) W0 wq ∧ Shp W0 wq) (fun i _ => un - (intOf i).toNat)
          case atStart => exact ⟨0, by omega, rfl, HC.out, HSH.out⟩
          case round =>
            obtain ⟨k, hk, rfl, hc, hsh⟩ := hrel
            clear HC HSH k0
            by_cases hkn : k < un
            · obtain ⟨b, old, rfl, hcl, hfz⟩ := hsh.cell HRU.out hkn
              have HC := Lib.hid hc; clear hc
              have HSH := Lib.hid hsh; clear hsh
              go_wp2_with fail
              go_roundw
              case rel => exact ⟨k + 1, by omega, by go_num, HC.out.setCell (.inl (HOWN.out b (by simp))) _, HSH.out.set _ _ _⟩
              case measure => simp [intOf]; omega
            · have HC := Lib.hid hc; clear hc
              have HSH := Lib.hid hsh; clear hsh
              go_wp2_with fail
              go_roundw
              case rel => exact ⟨j + 1, by omega, by go_num, HC.out, HSH.out⟩
              case measure => simp [intOf]; omega
        · have hcx := HC10.out.trans HC.out (fun q hq => .inr (HLO2.out q hq))
          have hcw := HCW.out.trans HC.out (fun q hq => .inr (Nat.le_trans HC1.out.size (HLO2.out q hq)))
          have hsx := HSX.out.ch hcx (by simp)
          have HSX2 := Lib.hid hsx; clear hsx hcx
          have HCW2 := Lib.hid hcw; clear hcw
          clear HC HSH
          go_wp2_with fail
          refine (HRF.out _ HCW2.out).mono ?_
          rintro e wA ⟨v, rfl, hrp, _, hcA⟩
          obtain ⟨pa, pc, rfl⟩ := row.shape hrp
          have hE := Eqref_is (w := wA) oc pc (xs := l) (ys := l) (HSX2.out.ch hcA (by simp)) (Sl.of_ints hrp (by omega))
          simp only [HN.out, decide_true] at hE
          have HE := Lib.hid hE; clear hE hrp
          have HCA := Lib.hid hcA; clear hcA
          go_wp2_with fail
          refine HE.out.mono ?_
          rintro e wB ⟨rfl, hcB⟩
          have HCB := Lib.hid hcB; clear hcB HE
          go_wp2_with fail
          go_ret
          exact ⟨rfl, (HCW2.out.trans HCA.out (by simp)).trans HCB.out (by simp)⟩
    · have d1 : decide ((n : Int) < 1) = false := decide_eq_false h1
      have d2 : decide ((16 : Int) < n) = true := decide_eq_true (by omega)
      clear hd h1
      have ha0 := HO.out.held (.slice aa ka ac, LA) (by simp)
      have hb0 := HO.out.held (.slice ba 0 bc, LB) (by simp)
      have hra := ha0.row
      rw [HKA.out] at hra
      have hrb := hb0.row
      rw [HKB.out] at hrb
      have hlo2 : ∀ q ∈ (Value.slice aa ka ac).ownBlock.toList ++ (Value.slice ba 0 bc).ownBlock.toList, w1.heap.size ≤ q := fun q hq => by
        rcases List.mem_append.1 hq with hq | hq
        · exact (ha0.own q (by simpa using hq)).1
        · exact (hb0.own q (by simpa using hq)).1
      have HRA := Lib.hid hra; clear hra ha0
      have HRB := Lib.hid hrb; clear hrb hb0
      have HLO2 := Lib.hid hlo2; clear hlo2
      go_wp2_with fail
      refine wp_alw ?_
      intro W0 hW0
      have hpb := alw_blk (xs := [.slice aa ka ac, .slice ba 0 bc]) hW0
      have hc0 := alw_ch hW0
      have hpl : ∀ q ∈ (Value.slice aa ka ac).ownBlock.toList ++ (Value.slice ba 0 bc).ownBlock.toList, q ≠ w6.heap.size := fun q hq => by
        rcases List.mem_append.1 hq with hq | hq
        · have := (HRA.out.lt q (by simpa using hq)).2; omega
        · have := (HRB.out.lt q (by simpa using hq)).2; omega
      have hra := HRA.out.ch hc0 (by simp)
      have hrb := HRB.out.ch hc0 (by simp)
      have hcw := (HC1.out.trans HO.out.ch (by simp)).trans hc0 (by simp)
      have hc10 := HO.out.ch.trans hc0 (by simp)
      clear hW0 HRA HRB HO hc0
      generalize w6.heap.size = pb at *
      have HRA := Lib.hid hra; clear hra
      have HRB := Lib.hid hrb; clear hrb
      have HPB := Lib.hid hpb; clear hpb
      have HPL := Lib.hid hpl; clear hpl
      have HCW := Lib.hid hcw; clear hcw
      have HC10 := Lib.hid hc10; clear hc10
      go_loopw [108] (fun i wr => ∃ j : Nat, j ≤ 2 ∧ i = .int .i64 j ∧ Ch ((Value.slice aa ka ac).ownBlock.toList ++ (Value.slice ba 0 bc).ownBlock.toList) W0 wr ∧ Shp W0 wr) (fun i _ => 2 - (intOf i).toNat)
      case atStart => exact ⟨0, by omega, rfl, Ch.refl _ _, Shp.refl _⟩
      case round =>
        obtain ⟨j, hj, rfl, hc, hsh⟩ := hrel
        have HC := Lib.hid hc; clear hc
        have HSH := Lib.hid hsh; clear hsh
        by_cases hj2 : j < 2
        · obtain ⟨ua, un, uc, us, hcu, hru, hown⟩ : ∃ ua un uc us, [Value.slice aa ka ac, .slice ba 0 bc][j]? = some (.slice ua un uc) ∧ row W0 34 1 (.slice ua un uc) un us ∧ (∀ q ∈ (Value.slice ua un uc).ownBlock.toList, q ∈ (Value.slice aa ka ac).ownBlock.toList ++ (Value.slice ba 0 bc).ownBlock.toList) := by
            rcases (by omega : j = 0 ∨ j = 1) with rfl | rfl
            · exact ⟨aa, ka, ac, _, rfl, HRA.out, fun q hq => List.mem_append_left _ hq⟩
            · exact ⟨ba, 0, bc, _, rfl, HRB.out, fun q hq => List.mem_append_right _ hq⟩
          have k0 := (HPB.out.ch HC.out (fun hin => HPL.out _ hin rfl)).cell hcu
          have HRU := Lib.hid hru; clear hru hcu
          have HOWN := Lib.hid hown; clear hown
          have hub : un ≤ 9223372036854775807 := by have := row_cap HRU.out; omega
          go_wp2_with fail
          go_loopw [114] (fun i wq => ∃ k : Nat, k ≤ un ∧ i = .int .i64 k ∧ Ch ((Value.slice aa ka ac).ownBlock.toList ++ (Value.slice ba 0 bc).ownBlock.toList) W0 wq ∧ Shp W0 wq) (fun i _ => un - (intOf i).toNat)
          case atStart => exact ⟨0, by omega, rfl, HC.out, HSH.out⟩
          case round =>
            obtain ⟨k, hk, rfl, hc, hsh⟩ := hrel
            clear HC HSH k0
            by_cases hkn : k < un
            · obtain ⟨b, old, rfl, hcl, hfz⟩ := hsh.cell HRU.out hkn
              have HC := Lib.hid hc; clear hc
              have HSH := Lib.hid hsh; clear hsh
              go_wp2_with fail
              go_roundw
              case rel => exact ⟨k + 1, by omega, by go_num, HC.out.setCell (.inl (HOWN.out b (by simp))) _, HSH.out.set _ _ _⟩
              case measure => simp [intOf]; omega
            · have HC := Lib.hid hc; clear hc
              have HSH := Lib.hid hsh; clear hsh
              go_wp2_with fail
              go_roundw
              case rel => exact ⟨j + 1, by omega, by go_num, HC.out, HSH.out⟩
              case measure => simp [intOf]; omega
        · have hcx := HC10.out.trans HC.out (fun q hq => .inr (HLO2.out q hq))
          have hcw := HCW.out.trans HC.out (fun q hq => .inr (Nat.le_trans HC1.out.size (HLO2.out q hq)))
          have hsx := HSX.out.ch hcx (by simp)
          have HSX2 := Lib.hid hsx; clear hsx hcx
          have HCW2 := Lib.hid hcw; clear hcw
          clear HC HSH
          go_wp2_with fail
          refine (HRF.out _ HCW2.out).mono ?_
          rintro e wA ⟨v, rfl, hrp, _, hcA⟩
          obtain ⟨pa, pc, rfl⟩ := row.shape hrp
          have hE := Eqref_is (w := wA) oc pc (xs := l) (ys := l) (HSX2.out.ch hcA (by simp)) (Sl.of_ints hrp (by omega))
          simp only [HN.out, decide_true] at hE
          have HE := Lib.hid hE; clear hE hrp
          have HCA := Lib.hid hcA; clear hcA
          go_wp2_with fail
          refine HE.out.mono ?_
          rintro e wB ⟨rfl, hcB⟩
          have HCB := Lib.hid hcB; clear hcB HE
          go_wp2_with fail
          go_ret
          exact ⟨rfl, (HCW2.out.trans HCA.out (by simp)).trans HCB.out (by simp)⟩
  · rw [hr] at HLB HEB
    have hlb0 : LB = turnL l N := HLB.out
    have heb0 : EB = 0 := HEB.out
    have hkb0 : kb = n := by rw [← HKB.out, hlb0, turnL_len, HN.out]
    subst heb0 hkb0
    have hd : 1 ≤ kb ∧ kb ≤ 16 := by unfold rightB at hr; simp at hr; omega
    have d1 : decide ((kb : Int) < 1) = false := decide_eq_false (by omega)
    have d2 : decide ((16 : Int) < kb) = false := decide_eq_false (by omega)
    have HLB0 := Lib.hid hlb0; clear hlb0 hr
    go_wp2_with fail
    refine (Ints23_is (a := ba) (l := LB) kb bc HKB.out (HO.out.sl (a := ba) (n := kb) (c := bc) (by simp) HKB.out) (by omega)).mono ?_
    rintro e w7 ⟨v, rfl, hri, _, hc7⟩
    obtain ⟨ja, jc, rfl⟩ := row.shape hri
    have ho := HO.out.same hc7
    clear HO hc7
    have HO := Lib.hid ho; clear ho
    have HRI := Lib.hid hri; clear hri
    go_wp2_with fail
    refine (HTR.out _ (HC1.out.trans HO.out.ch (by simp)) hd.1 hd.2).mono ?_
    rintro e w8 ⟨v, rfl, hv⟩
    rw [← HLB0.out] at hv
    obtain ⟨ra, rc, rfl, hrr, _, hc8⟩ := hv.parts HKB.out
    have hE := Eqint_is (w := w8) jc rc (xs := LB) (ys := LB) (Sl.of_ints (HRI.out.ch hc8 (by simp)) (by omega)) (Sl.of_ints hrr (by omega))
    simp only [HKB.out, decide_true] at hE
    have ho := HO.out.same hc8
    clear HO hc8 hrr HRI hv
    have HO := Lib.hid ho; clear ho
    have HE := Lib.hid hE; clear hE
    go_wp2_with fail
    refine HE.out.mono ?_
    rintro e w9 ⟨rfl, hc9⟩
    have ho := HO.out.same hc9
    clear HO hc9 HE
    have HO := Lib.hid ho; clear ho
    have ha0 := HO.out.held (.slice aa ka ac, LA) (by simp)
    have hb0 := HO.out.held (.slice ba kb bc, LB) (by simp)
    have hra := ha0.row
    rw [HKA.out] at hra
    have hrb := hb0.row
    rw [HKB.out] at hrb
    have hlo2 : ∀ q ∈ (Value.slice aa ka ac).ownBlock.toList ++ (Value.slice ba kb bc).ownBlock.toList, w1.heap.size ≤ q := fun q hq => by
      rcases List.mem_append.1 hq with hq | hq
      · exact (ha0.own q (by simpa using hq)).1
      · exact (hb0.own q (by simpa using hq)).1
    have HRA := Lib.hid hra; clear hra ha0
    have HRB := Lib.hid hrb; clear hrb hb0
    have HLO2 := Lib.hid hlo2; clear hlo2
    go_wp2_with fail
    refine wp_alw ?_
    intro W0 hW0
    have hpb := alw_blk (xs := [.slice aa ka ac, .slice ba kb bc]) hW0
    have hc0 := alw_ch hW0
    have hpl : ∀ q ∈ (Value.slice aa ka ac).ownBlock.toList ++ (Value.slice ba kb bc).ownBlock.toList, q ≠ w9.heap.size := fun q hq => by
      rcases List.mem_append.1 hq with hq | hq
      · have := (HRA.out.lt q (by simpa using hq)).2; omega
      · have := (HRB.out.lt q (by simpa using hq)).2; omega
    have hra := HRA.out.ch hc0 (by simp)
    have hrb := HRB.out.ch hc0 (by simp)
    have hcw := (HC1.out.trans HO.out.ch (by simp)).trans hc0 (by simp)
    have hc10 := HO.out.ch.trans hc0 (by simp)
    clear hW0 HRA HRB HO hc0
    generalize w9.heap.size = pb at *
    have HRA := Lib.hid hra; clear hra
    have HRB := Lib.hid hrb; clear hrb
    have HPB := Lib.hid hpb; clear hpb
    have HPL := Lib.hid hpl; clear hpl
    have HCW := Lib.hid hcw; clear hcw
    have HC10 := Lib.hid hc10; clear hc10
    go_loopw [108] (fun i wr => ∃ j : Nat, j ≤ 2 ∧ i = .int .i64 j ∧ Ch ((Value.slice aa ka ac).ownBlock.toList ++ (Value.slice ba kb bc).ownBlock.toList) W0 wr ∧ Shp W0 wr) (fun i _ => 2 - (intOf i).toNat)
    case atStart => exact ⟨0, by omega, rfl, Ch.refl _ _, Shp.refl _⟩
    case round =>
      obtain ⟨j, hj, rfl, hc, hsh⟩ := hrel
      have HC := Lib.hid hc; clear hc
      have HSH := Lib.hid hsh; clear hsh
      by_cases hj2 : j < 2
      · obtain ⟨ua, un, uc, us, hcu, hru, hown⟩ : ∃ ua un uc us, [Value.slice aa ka ac, .slice ba kb bc][j]? = some (.slice ua un uc) ∧ row W0 34 1 (.slice ua un uc) un us ∧ (∀ q ∈ (Value.slice ua un uc).ownBlock.toList, q ∈ (Value.slice aa ka ac).ownBlock.toList ++ (Value.slice ba kb bc).ownBlock.toList) := by
          rcases (by omega : j = 0 ∨ j = 1) with rfl | rfl
          · exact ⟨aa, ka, ac, _, rfl, HRA.out, fun q hq => List.mem_append_left _ hq⟩
          · exact ⟨ba, kb, bc, _, rfl, HRB.out, fun q hq => List.mem_append_right _ hq⟩
        have k0 := (HPB.out.ch HC.out (fun hin => HPL.out _ hin rfl)).cell hcu
        have HRU := Lib.hid hru; clear hru hcu
        have HOWN := Lib.hid hown; clear hown
        have hub : un ≤ 9223372036854775807 := by have := row_cap HRU.out; omega
        go_wp2_with fail
        go_loopw [114] (fun i wq => ∃ k : Nat, k ≤ un ∧ i = .int .i64 k ∧ Ch ((Value.slice aa ka ac).ownBlock.toList ++ (Value.slice ba kb bc).ownBlock.toList) W0 wq ∧ Shp W0 wq) (fun i _ => un - (intOf i).toNat)
        case atStart => exact ⟨0, by omega, rfl, HC.out, HSH.out⟩
        case round =>
          obtain ⟨k, hk, rfl, hc, hsh⟩ := hrel
          clear HC HSH k0
          by_cases hkn : k < un
          · obtain ⟨b, old, rfl, hcl, hfz⟩ := hsh.cell HRU.out hkn
            have HC := Lib.hid hc; clear hc
            have HSH := Lib.hid hsh; clear hsh
            go_wp2_with fail
            go_roundw
            case rel => exact ⟨k + 1, by omega, by go_num, HC.out.setCell (.inl (HOWN.out b (by simp))) _, HSH.out.set _ _ _⟩
            case measure => simp [intOf]; omega
          · have HC := Lib.hid hc; clear hc
            have HSH := Lib.hid hsh; clear hsh
            go_wp2_with fail
            go_roundw
            case rel => exact ⟨j + 1, by omega, by go_num, HC.out, HSH.out⟩
            case measure => simp [intOf]; omega
      · have hcx := HC10.out.trans HC.out (fun q hq => .inr (HLO2.out q hq))
        have hcw := HCW.out.trans HC.out (fun q hq => .inr (Nat.le_trans HC1.out.size (HLO2.out q hq)))
        have hsx := HSX.out.ch hcx (by simp)
        have HSX2 := Lib.hid hsx; clear hsx hcx
        have HCW2 := Lib.hid hcw; clear hcw
        clear HC HSH
        go_wp2_with fail
        refine (HRF.out _ HCW2.out).mono ?_
        rintro e wA ⟨v, rfl, hrp, _, hcA⟩
        obtain ⟨pa, pc, rfl⟩ := row.shape hrp
        have hE := Eqref_is (w := wA) oc pc (xs := l) (ys := l) (HSX2.out.ch hcA (by simp)) (Sl.of_ints hrp (by omega))
        simp only [HN.out, decide_true] at hE
        have HE := Lib.hid hE; clear hE hrp
        have HCA := Lib.hid hcA; clear hcA
        go_wp2_with fail
        refine HE.out.mono ?_
        rintro e wB ⟨rfl, hcB⟩
        have HCB := Lib.hid hcB; clear hcB HE
        go_wp2_with fail
        go_ret
        exact ⟨rfl, (HCW2.out.trans HCA.out (by simp)).trans HCB.out (by simp)⟩
set_option maxRecDepth 100000 in
set_option maxHeartbeats 2000000 in
theorem ShiftsWords_walk (side : Nat) (hsd : side ≤ 255) {la : Option Addr} {n lc : Nat} {l : List Int} (hL : IntS w la n lc l) (N : Int) (hN : (Lit.int .i64 N).wf = true) (M : Int) (hM : (Lit.int .i64 M).wf = true) :
    Calls Try.prog 6 #[.int .u8 side, .slice la n lc, .int .i64 N, .int .i64 M] w fun e w' => e = .returned (.bool true) ∧ Ch [] w w' := by
  have hn := hL.len
  have hle := hL.le
  have hlx := hL.max
  have HA := fun W => awake25_is W
  by_cases h1 : n ≤ 30
  · have HW := words25_is side hsd n lc hn N M hL.sl h1 (wf_i64 hN) (wf_i64 hM) hL.bd
    have d1 : decide ((30 : Int) < n) = false := decide_eq_false (by omega)
    clear hL hN hM
    go_enter Try.func6, Try.ntmps6
    go_wp2_with fail
    refine HW.mono ?_
    rintro e w1 ⟨rfl, hc⟩
    have HC := Lib.hid hc; clear hc
    go_wp2_with fail
    refine (HA _).mono ?_
    rintro e w2 ⟨rfl, hc2⟩
    have HC2 := Lib.hid hc2; clear hc2
    go_wp2_with fail
    go_ret
    exact ⟨rfl, HC.out.trans HC2.out (by simp)⟩
  · have d1 : decide ((30 : Int) < n) = true := decide_eq_true (by omega)
    clear hL hN hM
    go_enter Try.func6, Try.ntmps6
    go_wp2_with fail
    refine (HA _).mono ?_
    rintro e w2 ⟨rfl, hc2⟩
    have HC2 := Lib.hid hc2; clear hc2
    go_wp2_with fail
    go_ret
    exact ⟨rfl, HC2.out⟩
end
end Go.Proofs.Ytchledddgmbndaa
namespace Go.Proofs.Ytchledddgmbndaa
open Go.RowKit Go.Mem Go.Aig
/-- a graph that is none: 'none' says so, here and in all worlds that come of it -/
def NoGr (w : World) (v : Value) : Prop := ∀ W, Ch [] w W → Calls Try.prog 57 #[v] W fun e w' => e = .returned (.bool true) ∧ W = w'
theorem NoGr.ch {w W : World} {v : Value} (h : NoGr w v) (hc : Ch [] w W) : NoGr W v := fun U hU => h U (hc.trans hU (by simp))
section
set_option maxRecDepth 100000 in
set_option maxHeartbeats 400000 in
theorem nogr_nil (w : World) : NoGr w (.pointer none) := fun W _ => by
  go_enter Try.func57, Try.ntmps57
  go_wp2_with fail
  go_ret
  exact ⟨rfl, rfl⟩
set_option maxRecDepth 100000 in
set_option maxHeartbeats 400000 in
theorem nogr_zero {w : World} {g : Nat} (h : blk w g [.int .i64 0, .slice none 0 0, .map none, .slice none 0 0]) : NoGr w (.pointer (some ⟨g, 0, none⟩)) := fun W hW => by
  have c2 := (h.ch hW (by simp)).cell (i := 2) rfl
  clear h
  go_enter Try.func57, Try.ntmps57
  go_wp2_with fail
  go_ret
  exact ⟨rfl, rfl⟩
set_option maxRecDepth 100000 in
set_option maxHeartbeats 400000 in
theorem Len_none {w : World} {p : Option Addr} (h : NoGr w (.pointer p)) : Calls Try.prog 15 #[.pointer p] w fun e w' => e = .returned (.int .i64 0) ∧ Ch [] w w' := by
  have H := Lib.hid h; clear h
  go_enter Try.func15, Try.ntmps15
  go_wp2_with fail
  refine (H.out _ ?hc).mono ?_
  case hc => repeat (first | refine Ch.alloc ?_ _ | exact Ch.refl _ _)
  rintro e w' ⟨rfl, rfl⟩
  go_wp2_with fail
  go_ret
  exact ⟨rfl, by repeat (first | refine Ch.alloc ?_ _ | exact Ch.refl _ _)⟩
end
end Go.Proofs.Ytchledddgmbndaa
namespace Go.Proofs.Ytchledddgmbndaa
open Go.RowKit Go.Mem Go.Aig
def sactVal (x : SAct) : List Value := [.int .u8 x.side, .slice x.xa x.xn x.xc, .slice x.ya x.yn x.yc]
/-- an act that is right, in a world -/
structure SGA (w : World) (x : SAct) : Prop where
  bd : x.side ≤ 255 ∧ x.X.length = x.xn ∧ x.Y.length = x.yn ∧ (∀ z ∈ x.X, -9223372036854775808 ≤ z ∧ z ≤ 9223372036854775807) ∧ (∀ z ∈ x.Y, -9223372036854775808 ≤ z ∧ z ≤ 9223372036854775807)
  sx : Sl w x.xa x.X
  sy : Sl w x.ya x.Y
theorem sacts1 {w : World} {b : Nat} {x : SAct} (h : blk w b (sactVal x)) (hg : SGA w x) : SActS w (some ⟨b, 0, none⟩) 1 1 [x] :=
  ⟨rfl, Nat.le_refl _, by omega, fun i y hy => by
    match i, hy with
    | 0, hy =>
      cases hy
      exact ⟨b, 0, rfl, h.cell (i := 0) rfl, h.cell (i := 1) rfl, h.cell (i := 2) rfl⟩, fun y hy => by rw [List.mem_singleton.1 hy]; exact hg.bd, fun y hy => by rw [List.mem_singleton.1 hy]; exact hg.sx, fun y hy => by rw [List.mem_singleton.1 hy]; exact hg.sy⟩
theorem sacts2 {w : World} {b : Nat} {x z : SAct} (h : blk w b (sactVal x ++ sactVal z)) (hg : SGA w x) (hz : SGA w z) : SActS w (some ⟨b, 0, none⟩) 2 2 [x, z] := by
  have hm : ∀ y ∈ [x, z], SGA w y := fun y hy => by
    rcases List.mem_cons.1 hy with rfl | hy
    · exact hg
    · rw [List.mem_singleton.1 hy]; exact hz
  refine ⟨rfl, Nat.le_refl _, by omega, fun i y hy => ?_, fun y hy => (hm y hy).bd, fun y hy => (hm y hy).sx, fun y hy => (hm y hy).sy⟩
  match i, hy with
  | 0, hy =>
    cases hy
    exact ⟨b, 0, rfl, h.cell (i := 0) rfl, h.cell (i := 1) rfl, h.cell (i := 2) rfl⟩
  | 1, hy =>
    cases hy
    exact ⟨b, 0, rfl, h.cell (i := 3) rfl, h.cell (i := 4) rfl, h.cell (i := 5) rfl⟩
theorem blk.sl {w : World} {b : Nat} {l : List Int} (h : blk w b (intCells l)) (hn : l.length ≤ 1000000) : Sl w (some ⟨b, 0, none⟩) l :=
  ⟨fun i x hx => ⟨b, 0, rfl, by rw [Nat.zero_add]; exact h.cell (by simp [intCells, hx])⟩, by omega⟩
section
variable {w : World}
set_option maxRecDepth 100000 in
set_option maxHeartbeats 2000000 in
theorem By_none {p : Option Addr} (h : NoGr w (.pointer p)) (side : Nat) (xa ya : Option Addr) (n xc m yc : Nat) :
    Calls Try.prog 40 #[.pointer p, .int .u8 side, .slice xa n xc, .slice ya m yc] w fun e w' => e = .returned (.tuple #[.slice none 0 0, .int .i64 1]) ∧ Ch [] w w' := by
  have H := Lib.hid h; clear h
  go_enter Try.func40, Try.ntmps40
  go_wp2_with fail
  refine moves25_is.mono ?_
  rintro e w1 ⟨mb, rfl, hum, hc1⟩
  have hc : Ch [] w w1 := ((Ch.refl [] w).alloc _).trans hc1 (by simp)
  have b1 : w1.cell? ⟨w.heap.size, 0, none⟩ = some (.pointer p) := (hc1.cell (p := ⟨w.heap.size, 0, none⟩) (by simp) (by simp)).trans (by go_simp)
  have hL := Len_none (H.out.ch hc)
  have HL := Lib.hid hL; clear hL
  have HC := Lib.hid hc; clear hc hc1
  by_cases hs : side = 1 ∨ side = 2
  · have h7 := (sides_at hum hs).2
    generalize (if side = 1 then 119 else 120) = fid at h7
    clear hum
    go_wp2_with fail
    refine HL.out.mono ?_
    rintro e w2 ⟨rfl, hc2⟩
    have HC2 := Lib.hid hc2; clear hc2
    go_wp2_with fail
    go_ret2
    exact ⟨rfl, HC.out.trans HC2.out (by simp)⟩
  · have h7 := (sides_no hum (side := side) (by omega)).2
    clear hum
    go_wp2_with fail
    refine HL.out.mono ?_
    rintro e w2 ⟨rfl, hc2⟩
    have HC2 := Lib.hid hc2; clear hc2
    go_wp2_with fail
    go_ret2
    exact ⟨rfl, HC.out.trans HC2.out (by simp)⟩
set_option maxRecDepth 100000 in
set_option maxHeartbeats 1000000 in
theorem Shl_none {p : Option Addr} (h : NoGr w (.pointer p)) (xa ya : Option Addr) (n xc m yc : Nat) :
    Calls Try.prog 41 #[.pointer p, .slice xa n xc, .slice ya m yc] w fun e w' => e = .returned (.tuple #[.slice none 0 0, .int .i64 1]) ∧ Ch [] w w' := by
  have hB := By_none h 1 xa ya n xc m yc
  have HB := Lib.hid hB; clear hB h
  go_enter Try.func41, Try.ntmps41
  go_wp2_with fail
  refine HB.out.mono ?_
  rintro e w2 ⟨rfl, hc⟩
  have HC := Lib.hid hc; clear hc
  go_wp2_with fail
  go_ret2
  exact ⟨rfl, HC.out⟩
set_option maxRecDepth 100000 in
set_option maxHeartbeats 1000000 in
theorem Shr_none {p : Option Addr} (h : NoGr w (.pointer p)) (xa ya : Option Addr) (n xc m yc : Nat) :
    Calls Try.prog 42 #[.pointer p, .slice xa n xc, .slice ya m yc] w fun e w' => e = .returned (.tuple #[.slice none 0 0, .int .i64 1]) ∧ Ch [] w w' := by
  have hB := By_none h 2 xa ya n xc m yc
  have HB := Lib.hid hB; clear hB h
  go_enter Try.func42, Try.ntmps42
  go_wp2_with fail
  refine HB.out.mono ?_
  rintro e w2 ⟨rfl, hc⟩
  have HC := Lib.hid hc; clear hc
  go_wp2_with fail
  go_ret2
  exact ⟨rfl, HC.out⟩
end
end Go.Proofs.Ytchledddgmbndaa
namespace Go.Proofs.Ytchledddgmbndaa
open Go.RowKit Go.Mem Go.Aig
/-- a word that is made along the walk -/
structure Mad (w0 w : World) (v : Value) (k : Nat) (L : List Int) : Prop where
  len : L.length = k
  bd : ∀ r ∈ L, -1000 ≤ r ∧ r ≤ 1000
  row : row w 3 1 v k (intCells L)
  own : ∀ q ∈ v.ownBlock.toList, w0.heap.size ≤ q
theorem Mad.ch {w0 w w' : World} {v : Value} {k : Nat} {L : List Int} (h : Mad w0 w v k L) (hc : Ch [] w w') : Mad w0 w' v k L := ⟨h.len, h.bd, h.row.ch hc (by simp), h.own⟩
theorem Mad.sl {w0 w : World} {a : Option Addr} {k c : Nat} {L : List Int} (h : Mad w0 w (.slice a k c) k L) (hk : k ≤ 1000) : Sl w a L := Sl.of_ints h.row (by omega)
theorem Mad.wide {w0 w : World} {v : Value} {k : Nat} {L : List Int} (h : Mad w0 w v k L) : ∀ z ∈ L, -9223372036854775808 ≤ z ∧ z ≤ 9223372036854775807 := fun z hz => by have := h.bd z hz; omega
theorem Mad.nil (w0 w : World) : Mad w0 w (.slice none 0 0) 0 [] := ⟨rfl, by simp, ⟨rfl, .inl ⟨rfl, rfl⟩⟩, by simp⟩
def small11 : List Int := [-9223372036854775808, -17, -2, -1, 0, 16, 17, 24, 25, 9223372036854775806, 9223372036854775807]
theorem small11_bd : ∀ z ∈ small11, -9223372036854775808 ≤ z ∧ z ≤ 9223372036854775807 := by decide
section
variable {w : World}
set_option maxRecDepth 100000 in
set_option maxHeartbeats 8000000 in
theorem ShiftsSmall_walk (w : World) : Calls Try.prog 10 #[] w fun e w' => e = .returned (.bool true) ∧ Ch [] w w' := by
  have HAW := Lib.hid fun (W : World) => awake25_is W
  go_enter Try.func10, Try.ntmps10
  go_wp2_with fail
  go_loopw [19] (fun i wr => ∃ n : Nat, n ≤ 18 ∧ i = .int .i64 n ∧ Ch [] w wr) (fun i _ => 18 - (intOf i).toNat)
  case atStart => exact ⟨0, by omega, rfl, Ch.refl _ _⟩
  case round =>
    obtain ⟨n, hn, rfl, hc⟩ := hrel
    by_cases hn18 : n < 18
    · have HC := Lib.hid hc; clear hc
      have dn : decide ((n : Int) < 18) = true := decide_eq_true (by omega)
      go_wp2_with fail
      go_loopw [22] (fun i wr => ∃ m : Nat, m ≤ 18 ∧ i = .int .i64 m ∧ Ch [] w wr) (fun i _ => 18 - (intOf i).toNat)
      case atStart => exact ⟨0, by omega, rfl, HC.out⟩
      case round =>
        obtain ⟨m, hm, rfl, hc⟩ := hrel
        clear HC
        by_cases hm18 : m < 18
        · have HC := Lib.hid hc; clear hc
          have dm : decide ((m : Int) < 18) = true := decide_eq_true (by omega)
          go_wp2_with fail
          go_loopw [3, 26] (fun o i wq => ∃ (k : Nat) (L : List Int), k ≤ n ∧ i = .int .i64 k ∧ Ch [] w wq ∧ Mad w wq o k L) (fun _ i _ => n - (intOf i).toNat)
          case atStart => exact ⟨0, [], by omega, rfl, HC.out, Mad.nil _ _⟩
          case round =>
            obtain ⟨k, L, hk, rfl, hc, hmad⟩ := hrel
            obtain ⟨oa, oc, rfl⟩ := row.shape hmad.row
            by_cases hlt : k < n
            · obtain ⟨z, hz, hzb⟩ : ∃ z : Int, 2 + 2 * (k : Int) = z ∧ (-1000 ≤ z ∧ z ≤ 1000) := ⟨_, rfl, by omega⟩
              have hcA : Ch [] wr (wr.alloc (.cells #[.int .i64 z] 3)) := (Ch.refl _ _).alloc _
              have hrA := hmad.row.ch hcA (by simp)
              have hbA : blk (wr.alloc (.cells #[.int .i64 z] 3)) wr.heap.size [.int .i64 z] := blk.new' _ _ rfl
              have HRA := Lib.hid hrA; clear hrA
              have HBA := Lib.hid hbA; clear hbA
              have HCA := Lib.hid hcA; clear hcA
              have HC2 := Lib.hid hc; clear hc
              have HMAD := Lib.hid hmad; clear hmad
              go_wp2_with (at_builtin; go_loud (refine wpList_append_row slInts rfl _ _ rfl (v := .slice oa k oc) (n := k) (xs := intCells L) rfl HRA.out (ad := ⟨wr.heap.size, 0, none⟩) (m := 1) (c := 1) (news := [.int .i64 z]) rfl rfl (news_blk HBA.out) (by simp [Value.oneCell']) (by omega) (by omega) ?_; intro v' w4 hown4 hC4 hf4; have HO4 := Lib.hid hown4; clear hown4; have HC4 := Lib.hid hC4; clear hC4; have HF4 := Lib.hid hf4; clear hf4))
              go_roundw
              case rel =>
                obtain ⟨q1, q2⟩ := app_step HC2.out HCA.out HMAD.out.own HC4.out HF4.out
                have hmad2 : Mad w w4 v' (k + 1) (L ++ [z]) := ⟨by rw [List.length_append, HMAD.out.len]; rfl, fun r hr => by
                  rcases List.mem_append.1 hr with hr | hr
                  · exact HMAD.out.bd r hr
                  · rw [List.mem_singleton.1 hr]; exact hzb, by rw [show intCells (L ++ [z]) = intCells L ++ [.int .i64 z] from by simp [intCells]]; exact HO4.out, by simpa using q2⟩
                exact ⟨k + 1, L ++ [z], by omega, by go_num, q1, hmad2⟩
              case measure => simp [intOf]; omega
            · have hkn : n = k := by omega
              subst hkn
              obtain ⟨W4, rfl⟩ : ∃ W4, W4 = wr := ⟨_, rfl⟩
              obtain ⟨xa, rfl⟩ : ∃ xa, xa = oa := ⟨_, rfl⟩
              obtain ⟨xc, rfl⟩ : ∃ xc, xc = oc := ⟨_, rfl⟩
              obtain ⟨X, rfl⟩ : ∃ X, X = L := ⟨_, rfl⟩
              have HMX := Lib.hid hmad; clear hmad
              have HC4 := Lib.hid hc; clear hc HC
              go_wp2_with fail
              go_loopw [4, 37] (fun o i wq => ∃ (k : Nat) (L : List Int), k ≤ m ∧ i = .int .i64 k ∧ Ch [] W4 wq ∧ Mad W4 wq o k L) (fun _ i _ => m - (intOf i).toNat)
              case atStart => exact ⟨0, [], by omega, rfl, Ch.refl _ _, Mad.nil _ _⟩
              case round =>
                obtain ⟨k, L, hk, rfl, hc, hmad⟩ := hrel
                obtain ⟨oa, oc, rfl⟩ := row.shape hmad.row
                by_cases hlt : k < m
                · obtain ⟨z, hz, hzb⟩ : ∃ z : Int, 3 + 2 * (((k : Int) * 5 + n) % 19) = z ∧ (-1000 ≤ z ∧ z ≤ 1000) := ⟨_, rfl, by omega⟩
                  have hcA : Ch [] wr (wr.alloc (.cells #[.int .i64 z] 3)) := (Ch.refl _ _).alloc _
                  have hrA := hmad.row.ch hcA (by simp)
                  have hbA : blk (wr.alloc (.cells #[.int .i64 z] 3)) wr.heap.size [.int .i64 z] := blk.new' _ _ rfl
                  have HRA := Lib.hid hrA; clear hrA
                  have HBA := Lib.hid hbA; clear hbA
                  have HCA := Lib.hid hcA; clear hcA
                  have HC2 := Lib.hid hc; clear hc
                  have HMAD := Lib.hid hmad; clear hmad
                  go_wp2_with (at_builtin; go_loud (refine wpList_append_row slInts rfl _ _ rfl (v := .slice oa k oc) (n := k) (xs := intCells L) rfl HRA.out (ad := ⟨wr.heap.size, 0, none⟩) (m := 1) (c := 1) (news := [.int .i64 z]) rfl rfl (news_blk HBA.out) (by simp [Value.oneCell']) (by omega) (by omega) ?_; intro v' w4 hown4 hC4 hf4; have HO4 := Lib.hid hown4; clear hown4; have HC4 := Lib.hid hC4; clear hC4; have HF4 := Lib.hid hf4; clear hf4))
                  go_roundw
                  case rel =>
                    obtain ⟨q1, q2⟩ := app_step HC2.out HCA.out HMAD.out.own HC4.out HF4.out
                    have hmad2 : Mad W4 w4 v' (k + 1) (L ++ [z]) := ⟨by rw [List.length_append, HMAD.out.len]; rfl, fun r hr => by
                      rcases List.mem_append.1 hr with hr | hr
                      · exact HMAD.out.bd r hr
                      · rw [List.mem_singleton.1 hr]; exact hzb, by rw [show intCells (L ++ [z]) = intCells L ++ [.int .i64 z] from by simp [intCells]]; exact HO4.out, by simpa using q2⟩
                    exact ⟨k + 1, L ++ [z], by omega, by go_num, q1, hmad2⟩
                  case measure => simp [intOf]; omega
                · have hkm : m = k := by omega
                  subst hkm
                  obtain ⟨W5, rfl⟩ : ∃ W5, W5 = wr := ⟨_, rfl⟩
                  obtain ⟨ya, rfl⟩ : ∃ ya, ya = oa := ⟨_, rfl⟩
                  obtain ⟨yc, rfl⟩ : ∃ yc, yc = oc := ⟨_, rfl⟩
                  obtain ⟨Y, rfl⟩ : ∃ Y, Y = L := ⟨_, rfl⟩
                  have hmx := HMX.out.ch hc
                  have hcw := HC4.out.trans hc (by simp)
                  have hmx2 := Lib.hid hmx; clear hmx HMX
                  have HMX := hmx2
                  have HMY := Lib.hid hmad; clear hmad
                  have HCW := Lib.hid hcw; clear hcw hc HC4
                  go_upto_region 18 with fail
                  go_cut [7] (fun b wx => wx = W5 ∧ ∃ s : Nat, b = .int .u8 s ∧ 1 ≤ s ∧ s ≤ 2)
                  case first =>
                    rcases (by omega : ((n : Int) + m) % 2 = 0 ∨ ((n : Int) + m) % 2 = 1) with hq | hq
                    · go_wp2_with fail
                      go_meet
                      case rel => exact ⟨rfl, 1, rfl, by omega, by omega⟩
                    · go_wp2_with fail
                      go_meet
                      case rel => exact ⟨rfl, 2, rfl, by omega, by omega⟩
                  case rest =>
                    obtain ⟨rfl, s, rfl, hs1, hs2⟩ := hcut
                    go_upto_region 19 with fail
                    go_cut [69] (fun b wx => wx = wc ∧ ∃ q : Bool, b = .bool q)
                    case first =>
                      by_cases e3 : ((n : Int) + m) % 3 = 0
                      · have d3 : (((n : Int) + m) % 3 != 0) = false := by simp [e3]
                        clear e3
                        go_wp2_with fail
                        go_meet
                        case rel => exact ⟨rfl, _, rfl⟩
                      · have d3 : (((n : Int) + m) % 3 != 0) = true := by simp [e3]
                        clear e3
                        by_cases h6 : 6 < n
                        · have d4 : decide ((6 : Int) < n) = true := decide_eq_true (by omega)
                          clear h6
                          go_wp2_with fail
                          go_meet
                          case rel => exact ⟨rfl, _, rfl⟩
                        · have d4 : decide ((6 : Int) < n) = false := decide_eq_false (by omega)
                          clear h6
                          go_wp2_with fail
                          go_meet
                          case rel => exact ⟨rfl, _, rfl⟩
                    case rest =>
                      obtain ⟨rfl, q, rfl⟩ := hcut
                      cases q
                      · go_wp2_with fail
                        refine calls_named fun W hW => ?_
                        have hb : blk W wc.heap.size (sactVal ⟨s, xa, n, xc, X, ya, m, yc, Y⟩) := by rw [hW]; exact blk.new' _ _ rfl
                        have hc1 : Ch [] wc W := by rw [hW]; exact (Ch.refl _ _).alloc _
                        clear hW
                        have hg : SGA W ⟨s, xa, n, xc, X, ya, m, yc, Y⟩ := ⟨⟨by show s ≤ 255; omega, HMX.out.len, HMY.out.len, HMX.out.wide, HMY.out.wide⟩, (HMX.out.ch hc1).sl (by omega), (HMY.out.ch hc1).sl (by omega)⟩
                        refine (makes25_is 900 18 (by omega) (sacts1 hb hg) (fun x hx => by rw [List.mem_singleton.1 hx]; exact ⟨by show n ≤ 1000; omega, by show m ≤ 1000; omega⟩)).mono ?_
                        rintro e w2 ⟨rfl, hc2⟩
                        have HC2 := Lib.hid (hc1.trans hc2 (by simp)); clear hc1 hc2 hb hg
                        go_wp2_with fail
                        refine calls_named fun W hW => ?_
                        have hb : blk W w2.heap.size (sactVal ⟨3 - s, xa, n, xc, X, ya, m, yc, Y⟩ ++ sactVal ⟨s, xa, n, xc, X, ya, m, yc, Y⟩) := by rw [hW]; simp only [sactVal, show ((3 - s : Nat) : Int) = 3 - (s : Int) from by omega]; exact blk.new' _ _ rfl
                        have hc1 : Ch [] w2 W := by rw [hW]; exact (Ch.refl _ _).alloc _
                        clear hW
                        have hc3 := HC2.out.trans hc1 (by simp)
                        have hg : SGA W ⟨s, xa, n, xc, X, ya, m, yc, Y⟩ := ⟨⟨by show s ≤ 255; omega, HMX.out.len, HMY.out.len, HMX.out.wide, HMY.out.wide⟩, (HMX.out.ch hc3).sl (by omega), (HMY.out.ch hc3).sl (by omega)⟩
                        have hg2 : SGA W ⟨3 - s, xa, n, xc, X, ya, m, yc, Y⟩ := ⟨⟨by show 3 - s ≤ 255; omega, HMX.out.len, HMY.out.len, HMX.out.wide, HMY.out.wide⟩, (HMX.out.ch hc3).sl (by omega), (HMY.out.ch hc3).sl (by omega)⟩
                        refine (makes25_is (40 + 3 * (n : Int)) 18 (by omega) (sacts2 hb hg2 hg) (fun x hx => by
                          rcases List.mem_cons.1 hx with rfl | hx
                          · exact ⟨by show n ≤ 1000; omega, by show m ≤ 1000; omega⟩
                          · rw [List.mem_singleton.1 hx]; exact ⟨by show n ≤ 1000; omega, by show m ≤ 1000; omega⟩)).mono ?_
                        rintro e w3 ⟨rfl, hc4⟩
                        have HC3 := Lib.hid (hc3.trans hc4 (by simp)); clear hc3 hc4 hc1 hb hg hg2 HC2
                        have hmx := HMX.out.ch HC3.out
                        have hW1 := words25_is (w := w3) (m % 4) (by omega) n xc HMX.out.len ((m : Int) - 2) ((n : Int) - 1) (hmx.sl (by omega)) (by omega) (by omega) (by omega) HMX.out.wide
                        rw [show ((m % 4 : Nat) : Int) = (m : Int) % 4 by omega] at hW1
                        have HW1 := Lib.hid hW1; clear hW1 hmx
                        go_wp2_with fail
                        refine HW1.out.mono ?_
                        rintro e w4 ⟨rfl, hc5⟩
                        have HC4 := Lib.hid (HC3.out.trans hc5 (by simp)); clear hc5 HC3 HW1
                        have hmx := HMX.out.ch HC4.out
                        have hW2 := words25_is (w := w4) s (by omega) n xc HMX.out.len ((n : Int) - m) (m : Int) (hmx.sl (by omega)) (by omega) (by omega) (by omega) HMX.out.wide
                        have HW2 := Lib.hid hW2; clear hW2 hmx
                        go_wp2_with fail
                        refine HW2.out.mono ?_
                        rintro e w5 ⟨rfl, hc6⟩
                        have HC5 := Lib.hid ((HCW.out.trans HC4.out (by simp)).trans hc6 (by simp)); clear hc6 HC4 HW2
                        go_wp2_with fail
                        go_roundw
                        case rel =>
                          first | exact ⟨m + 1, by omega, by go_num, HC5.out⟩ | ((repeat apply Exists.intro); exact ⟨⟨m + 1, by omega, by go_num, HC5.out⟩, rfl⟩)
                        case measure => simp [intOf]; omega
                      · go_wp2_with fail
                        go_roundw
                        case rel =>
                          first | exact ⟨m + 1, by omega, by go_num, HCW.out⟩ | ((repeat apply Exists.intro); exact ⟨⟨m + 1, by omega, by go_num, HCW.out⟩, rfl⟩)
                        case measure => simp [intOf]; omega
        · have HC := Lib.hid hc; clear hc
          go_wp2_with fail
          go_roundw
          case rel => exact ⟨n + 1, by omega, by go_num, HC.out⟩
          case measure => simp [intOf]; omega
    · have HC := Lib.hid hc; clear hc
      go_wp2_with fail
      refine wp_alw ?_
      intro W1 hW1
      have hb := alw_blk (xs := intCells small11) hW1
      have hc1 := HC.out.trans (alw_ch hW1) (by simp)
      clear hW1 HC
      generalize wr.heap.size = b11 at *
      have HB := Lib.hid hb; clear hb
      have HC := Lib.hid hc1; clear hc1
      go_loopw [120] (fun i wr => ∃ k : Nat, k ≤ 11 ∧ i = .int .i64 k ∧ Ch [] w wr ∧ Ch [] W1 wr) (fun i _ => 11 - (intOf i).toNat)
      case atStart => exact ⟨0, by omega, rfl, HC.out, Ch.refl _ _⟩
      case round =>
        obtain ⟨k, hk, rfl, hc, hcW⟩ := hrel
        clear HC
        by_cases hk11 : k < 11
        · have dk : decide ((k : Int) < 11) = true := decide_eq_true (by omega)
          obtain ⟨z, hz⟩ : ∃ z, small11[k]? = some z := ⟨_, List.getElem?_eq_getElem (show k < small11.length from hk11)⟩
          obtain ⟨hz1, hz2⟩ := small11_bd z (List.mem_of_getElem? hz)
          have hb := HB.out.ch hcW (by simp)
          have c0 : wr.cell? ⟨b11, k, none⟩ = some (.int .i64 z) := hb.cell (by simp [intCells, hz])
          clear hz hb
          have HC := Lib.hid hc; clear hc
          have HCW := Lib.hid hcW; clear hcW
          go_wp2_with fail
          go_loopw [124] (fun i wq => ∃ j : Nat, j ≤ 4 ∧ i = .int .u8 j ∧ Ch [] w wq ∧ Ch [] W1 wq) (fun i _ => 4 - (intOf i).toNat)
          case atStart => exact ⟨0, by omega, rfl, HC.out, HCW.out⟩
          case round =>
            obtain ⟨j, hj, rfl, hc, hcW⟩ := hrel
            clear HC HCW c0
            by_cases hj4 : j < 4
            · have HC := Lib.hid hc; clear hc
              have HCW := Lib.hid hcW; clear hcW
              go_wp2_with fail
              refine calls_named fun W hW => ?_
              have hb : blk W wr.heap.size (intCells [2, 5, 9]) := by rw [hW]; exact blk.new' _ _ rfl
              have hc1 : Ch [] wr W := by rw [hW]; exact (Ch.refl _ _).alloc _
              clear hW
              refine (words25_is j (by omega) 3 3 rfl z 4 (blk.sl hb (by simp)) (by omega) ⟨hz1, hz2⟩ (by omega) (fun r hr => by simp at hr; omega)).mono ?_
              rintro e w2 ⟨rfl, hc2⟩
              have HC2 := Lib.hid (hc1.trans hc2 (by simp)); clear hc1 hc2 hb
              go_wp2_with fail
              refine calls_named fun W hW => ?_
              have hb : blk W w2.heap.size (intCells [2]) := by rw [hW]; exact blk.new' _ _ rfl
              have hc1 : Ch [] w2 W := by rw [hW]; exact (Ch.refl _ _).alloc _
              clear hW
              refine (words25_is j (by omega) 1 1 rfl 4 z (blk.sl hb (by simp)) (by omega) (by omega) ⟨hz1, hz2⟩ (fun r hr => by simp at hr; omega)).mono ?_
              rintro e w3 ⟨rfl, hc2⟩
              have HC3 := Lib.hid ((HC2.out.trans hc1 (by simp)).trans hc2 (by simp)); clear hc1 hc2 hb HC2
              go_wp2_with fail
              refine calls_named fun W hW => ?_
              have hb1 : blk W w3.heap.size (intCells [2, z]) := by rw [hW]; exact ((((blk.new' _ _ rfl).alloc _).alloc _).alloc _).alloc _
              have hb2 : blk W (w3.heap.size + 1) (intCells [4, 6]) := by rw [hW]; exact (((blk.new' _ _ (by simp)).alloc _).alloc _).alloc _
              have hb3 : blk W (w3.heap.size + 2) (intCells [2, 4]) := by rw [hW]; exact ((blk.new' _ _ (by simp)).alloc _).alloc _
              have hb4 : blk W (w3.heap.size + 3) (intCells [6, 4, z]) := by rw [hW]; exact (blk.new' _ _ (by simp)).alloc _
              have hb5 : blk W (w3.heap.size + 4) (sactVal ⟨j, some ⟨w3.heap.size, 0, none⟩, 2, 2, [2, z], some ⟨w3.heap.size + 1, 0, none⟩, 2, 2, [4, 6]⟩ ++ sactVal ⟨j, some ⟨w3.heap.size + 2, 0, none⟩, 2, 2, [2, 4], some ⟨w3.heap.size + 3, 0, none⟩, 3, 3, [6, 4, z]⟩) := by rw [hW]; exact blk.new' _ _ (by simp)
              have hc1 : Ch [] w3 W := by rw [hW]; exact (((((Ch.refl _ _).alloc _).alloc _).alloc _).alloc _).alloc _
              clear hW
              have hg1 : SGA W ⟨j, some ⟨w3.heap.size, 0, none⟩, 2, 2, [2, z], some ⟨w3.heap.size + 1, 0, none⟩, 2, 2, [4, 6]⟩ := ⟨⟨by show j ≤ 255; omega, rfl, rfl, fun r hr => by simp at hr; omega, fun r hr => by simp at hr; omega⟩, blk.sl hb1 (by simp), blk.sl hb2 (by simp)⟩
              have hg2 : SGA W ⟨j, some ⟨w3.heap.size + 2, 0, none⟩, 2, 2, [2, 4], some ⟨w3.heap.size + 3, 0, none⟩, 3, 3, [6, 4, z]⟩ := ⟨⟨by show j ≤ 255; omega, rfl, rfl, fun r hr => by simp at hr; omega, fun r hr => by simp at hr; omega⟩, blk.sl hb3 (by simp), blk.sl hb4 (by simp)⟩
              refine (makes25_is 60 5 (by omega) (sacts2 hb5 hg1 hg2) (fun x hx => by
                rcases List.mem_cons.1 hx with rfl | hx
                · exact ⟨by show 2 ≤ 1000; omega, by show 2 ≤ 1000; omega⟩
                · rw [List.mem_singleton.1 hx]; exact ⟨by show 2 ≤ 1000; omega, by show 3 ≤ 1000; omega⟩)).mono ?_
              rintro e w4 ⟨rfl, hc2⟩
              have HC4 := Lib.hid ((HC3.out.trans hc1 (by simp)).trans hc2 (by simp)); clear hc1 hc2 hb1 hb2 hb3 hb4 hb5 hg1 hg2 HC3
              go_wp2_with fail
              go_roundw
              case rel => exact ⟨j + 1, by omega, by go_num, HC.out.trans HC4.out (by simp), HCW.out.trans HC4.out (by simp)⟩
              case measure => simp [intOf]; omega
            · have HC := Lib.hid hc; clear hc
              have HCW := Lib.hid hcW; clear hcW
              go_wp2_with fail
              go_roundw
              case rel => exact ⟨k + 1, by omega, by go_num, HC.out, HCW.out⟩
              case measure => simp [intOf]; omega
        · have HC := Lib.hid hc; clear hc hcW HB
          go_wp2_with fail
          refine wp_alw ?_
          intro W2 hW2
          have hbg : blk W2 wr.heap.size [.int .i64 0, .slice none 0 0, .map none, .slice none 0 0] := by rw [hW2]; exact (blk.new' _ _ (by simp)).alloc _
          have hbp : blk W2 (wr.heap.size + 1) [.pointer none, .pointer (some ⟨wr.heap.size, 0, none⟩)] := by rw [hW2]; exact blk.new' _ _ (by simp)
          have hc2 : Ch [] w W2 := by rw [hW2]; exact (HC.out.alloc _).alloc _
          have HN1 := Lib.hid (nogr_nil W2)
          have HN2 := Lib.hid (nogr_zero hbg)
          clear hW2 hbg HC
          generalize wr.heap.size = bg at *
          have HBP := Lib.hid hbp; clear hbp
          have HC := Lib.hid hc2; clear hc2
          go_loopw [161] (fun i wq => ∃ k : Nat, k ≤ 2 ∧ i = .int .i64 k ∧ Ch [] w wq ∧ Ch [] W2 wq) (fun i _ => 2 - (intOf i).toNat)
          case atStart => exact ⟨0, by omega, rfl, HC.out, Ch.refl _ _⟩
          case round =>
            obtain ⟨q, hq, rfl, hc, hcW⟩ := hrel
            clear HC
            by_cases hq2 : q < 2
            · obtain ⟨v, hv, hn⟩ : ∃ v, [Value.pointer none, Value.pointer (some ⟨bg, 0, none⟩)][q]? = some (.pointer v) ∧ NoGr W2 (.pointer v) := by
                rcases (by omega : q = 0 ∨ q = 1) with e | e
                · subst e; exact ⟨_, rfl, HN1.out⟩
                · subst e; exact ⟨_, rfl, HN2.out⟩
              have c0 := (HBP.out.ch hcW (by simp)).cell hv
              have hB : ∀ W, Ch [] W2 W → Calls Try.prog 40 #[.pointer v, .int .u8 0, .slice none 0 0, .slice none 0 0] W fun e w' => e = .returned (.tuple #[.slice none 0 0, .int .i64 1]) ∧ Ch [] W w' := fun W hW => By_none (hn.ch hW) 0 none none 0 0 0 0
              have hL := fun (W : World) (hW : Ch [] W2 W) (xa ya : Option Addr) => Shl_none (hn.ch hW) xa ya 1 1 1 1
              have hR := fun (W : World) (hW : Ch [] W2 W) (xa ya : Option Addr) => Shr_none (hn.ch hW) xa ya 1 1 1 1
              have HB := Lib.hid hB; clear hB hv hn
              have HL := Lib.hid hL; clear hL
              have HR := Lib.hid hR; clear hR
              have HC := Lib.hid hc; clear hc
              have HCW := Lib.hid hcW; clear hcW
              go_wp2_with fail
              refine (HB.out _ HCW.out).mono ?_
              rintro e w3 ⟨rfl, hc3⟩
              have HC3 := Lib.hid hc3; clear hc3 c0
              go_wp2_with fail
              refine calls_named fun W hW => ?_
              have hc4 : Ch [] w3 W := by rw [hW]; exact ((Ch.refl _ _).alloc _).alloc _
              clear hW
              have hc5 := HC3.out.trans hc4 (by simp)
              refine (HL.out W (HCW.out.trans hc5 (by simp)) _ _).mono ?_
              rintro e w4 ⟨rfl, hc6⟩
              have HC4 := Lib.hid (hc5.trans hc6 (by simp)); clear hc4 hc5 hc6 HC3
              go_wp2_with fail
              refine calls_named fun W hW => ?_
              have hc4 : Ch [] w4 W := by rw [hW]; exact ((Ch.refl _ _).alloc _).alloc _
              clear hW
              have hc5 := HC4.out.trans hc4 (by simp)
              refine (HR.out W (HCW.out.trans hc5 (by simp)) _ _).mono ?_
              rintro e w5 ⟨rfl, hc6⟩
              have HC5 := Lib.hid (hc5.trans hc6 (by simp)); clear hc4 hc5 hc6 HC4
              go_wp2_with fail
              go_roundw
              case rel => exact ⟨q + 1, by omega, by go_num, HC.out.trans HC5.out (by simp), HCW.out.trans HC5.out (by simp)⟩
              case measure => simp [intOf]; omega
            · have HC := Lib.hid hc; clear hc hcW
              go_wp2_with fail
              refine (HAW.out _).mono ?_
              rintro e w' ⟨rfl, hc'⟩
              have HC2 := Lib.hid hc'; clear hc'
              go_wp2_with fail
              go_ret
              exact ⟨rfl, HC.out.trans HC2.out (by simp)⟩
end
end Go.Proofs.Ytchledddgmbndaa
