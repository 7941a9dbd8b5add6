/-
  Walk over MuldivAgain, where quotients and rests are made: true. Conditions: a kind that is odd.
  Walk over MuldivAgain: true, whatever comes in. Conditions: none.
-/
import Derived.Test.YtkedpifopclipaaQD
namespace Go.Proofs.Ytkedpifopclipaa
open Go.RowKit Go.Mem Go.Aig
set_option maxRecDepth 100000 in
set_option maxHeartbeats 8000000 in
theorem MuldivAgain_both {w : World} (wd kd : Nat) (hw : wd ≤ 255) (hkk : kd ≤ 255) (hkd : kd % 2 = 1) : Calls Try.prog 11 #[.int .u8 wd, .int .u8 kd] w fun e w' => e = .returned (.bool true) ∧ Ch [] w w' := by
  obtain ⟨v, hv⟩ : ∃ v, wd % 4 = v := ⟨_, rfl⟩
  obtain ⟨n, hn, hn1, hn4⟩ : ∃ n, v + 1 = n ∧ 1 ≤ n ∧ n ≤ 4 := ⟨_, rfl, by omega, by omega⟩
  have hwn : wd % 4 + 1 = n := by omega
  have hq : 1 + (wd : Int) % 4 = n := by omega
  have hq2 : (kd : Int) % 2 = 1 := by omega
  obtain ⟨N, A, H, q, r, hf⟩ := agb_facts hn1 hn4
  have hN1 := hf.lo
  have hN2 := hf.hi
  have HF := Lib.hid hf; clear hf
  have HA := fun W => awake24_is W
  have hcf : ∀ args w, (callFunc 53 args).run Try.prog w = .ok (.enter 53 args) w := fnvmk24f
  have hcE : ∀ args w, (callFunc 59 args).run Try.prog w = .ok (.enter 59 args) w := fnvEqref
  clear hn hv
  have HWN := Lib.hid hwn; clear hwn
  have HKD := Lib.hid hkd; clear hkd
  go_enter Try.func11, Try.ntmps11
  go_wp2_with fail
  refine (HA _).mono ?_
  rintro e w1 ⟨rfl, hc1⟩
  obtain ⟨b2, hb2⟩ : ∃ b2, b2 = w.heap.size := ⟨_, rfl⟩
  have h2 := ((blk.new w [.int .u8 wd] 5).ch ((Ch.refl [] _).alloc (.cells #[.int .u8 kd] 5)) (by simp)).ch hc1 (by simp)
  have h3 := (blk.new (w.alloc (.cells #[.int .u8 wd] 5)) [.int .u8 kd] 5).ch hc1 (by simp)
  have hc0 := ((((Ch.refl [] w).alloc (.cells #[.int .u8 wd] 5)).alloc (.cells #[.int .u8 kd] 5))).trans hc1 (by simp)
  simp only [World.size_alloc] at h3 ⊢
  rw [← hb2] at h2 h3 ⊢
  clear hb2 hc1 HA
  have H2 := Lib.hid h2; clear h2
  have H3 := Lib.hid h3; clear h3
  have HC0 := Lib.hid hc0; clear hc0
  have hM := mk24_both H2.out H3.out (n := n) HWN.out HKD.out (most := 3000) (by omega) (by omega) (l1 := q) (l2 := r) (k1 := n) (k2 := n) HF.out.a HF.out.len HF.out.len2 HF.out.bd HF.out.bd2 (by omega) (by omega)
  have HM := Lib.hid hM; clear hM
  go_wp2_with fail
  refine HM.out.mono ?_
  rintro e w2 ⟨g, F, lb, a, c, a2, c2, xa, xc, ya, yc, rfl, ho⟩
  have HO := Lib.hid ho; clear ho HM
  have hL := Len_g HO.out.own.gin
  rw [HF.out.an] at hL
  have HL := Lib.hid hL; clear hL
  go_wp2_with fail
  refine HL.out.mono ?_
  rintro e w3 ⟨rfl, rfl⟩
  clear HL
  have h2 := H2.out.ch HO.out.own.ch (by simp)
  have h3 := H3.out.ch HO.out.own.ch (by simp)
  have hM := mk24_both h2 h3 (n := n) HWN.out HKD.out (most := N) (by omega) (by omega) (l1 := q) (l2 := r) (k1 := n) (k2 := n) HF.out.h HF.out.len HF.out.len2 HF.out.bd HF.out.bd2 (by omega) (by omega)
  have HM := Lib.hid hM; clear hM h2 h3
  go_wp2_with fail
  refine HM.out.mono ?_
  rintro e w4 ⟨gh, Fh, lbh, ah, ch, a2h, c2h, xah, xch, yah, ych, rfl, ho⟩
  have HH := Lib.hid ho; clear ho HM
  have hou := HO.out.same HH.out.own.ch
  have HOU := Lib.hid hou; clear hou
  have hA1 : AR w4 (some ⟨lb, 0, none⟩) [⟨a, natInts q, c⟩, ⟨a2, natInts r, c2⟩] := HOU.out.ar (b := lb) (cs := [.slice a n c, .slice a2 n c2]) (List.mem_cons_self ..) (fun i x hx => by rcases i with _ | _ | i <;> simp at hx <;> subst hx <;> simp [WV.val, HF.out.len, HF.out.len2]) (fun x hx => by simp only [List.mem_cons, List.not_mem_nil, or_false] at hx; rcases hx with rfl | rfl <;> simp [WV.val, HF.out.len, HF.out.len2])
  have hA2 : AR w4 (some ⟨lbh, 0, none⟩) [⟨ah, natInts q, ch⟩, ⟨a2h, natInts r, c2h⟩] := HH.out.ar (b := lbh) (cs := [.slice ah n ch, .slice a2h n c2h]) (List.mem_cons_self ..) (fun i x hx => by rcases i with _ | _ | i <;> simp at hx <;> subst hx <;> simp [WV.val, HF.out.len, HF.out.len2]) (fun x hx => by simp only [List.mem_cons, List.not_mem_nil, or_false] at hx; rcases hx with rfl | rfl <;> simp [WV.val, HF.out.len, HF.out.len2])
  have hE := EFlst_yes 2 2 2 (by omega) hA1 hA2 rfl rfl (fun i x y hx hy => by rcases i with _ | _ | i <;> simp at hx hy <;> subst hx <;> subst hy <;> rfl)
  have HE := Lib.hid hE; clear hE hA1 hA2
  go_wp2_with fail
  refine HE.out.mono ?_
  rintro e w5 ⟨rfl, hc5⟩
  have hh := HH.out.same hc5
  clear HOU HH HE hc5; have HH := Lib.hid hh; clear hh
  have hR := Room_g HH.out.own.gin
  rw [HF.out.hm, HF.out.hn, Nat.sub_self] at hR
  have HR := Lib.hid hR; clear hR
  go_wp2_with fail
  refine HR.out.mono ?_
  rintro e w6 ⟨rfl, hc6⟩
  have hh := HH.out.same hc6
  clear HH HR hc6; have HH := Lib.hid hh; clear hh
  have hI := Inputs_g (HO.out.same HH.out.own.ch).own.gin
  rw [HF.out.inp] at hI
  have HI := Lib.hid hI; clear hI
  go_wp2_with fail
  refine HI.out.mono ?_
  rintro e w7 ⟨v, rfl, hrow, hown, hc7⟩
  rw [rIn_len] at hrow
  obtain ⟨ib, ic, rfl⟩ := row.parts hrow (by omega)
  have hh := (HH.out.same hc7).put (rIn_len 0 (2 * n)) hrow (fun r hr => by have := rIn_le hr; omega) (by omega) (fun k hk => by
    cases hk
    have h1 := hown ib rfl
    have h2 := (HH.out.own.ch).size
    exact ⟨Nat.le_trans h2 h1, fun hk => by have h3 := HH.out.own.gin.lt ib hk; omega⟩)
  clear HH HI hc7; have HH := Lib.hid hh; clear hh
  have HROW := Lib.hid hrow; clear hrow hown
  have hdv : (((2 * n : Nat) : Int)) / 2 = n := by omega
  have d2 := ((H2.out.ch HO.out.own.ch (by simp)).ch HH.out.own.ch (by simp)).cell (i := 0) rfl
  have hcap : 2 * n ≤ ic ∧ ic ≤ 9223372036854775807 := by
    rcases HROW.out.2 with ⟨e1, h0⟩ | ⟨g', cap', cur, e1, _, _, h1, h2, _⟩
    · cases e1
    · cases e1; exact ⟨h1, by unfold maxLen at h2; exact h2⟩
  obtain ⟨hcap2, hcap3⟩ := hcap
  have hcap1 : n ≤ ic := by omega
  go_wp2_with fail
  clear d2
  refine Ord.St.door (fun _ => True) [.fl, .fl, .fl, .fl, .fl, .fl, .fl, .fl] [0, 0, 3, 0, 0, 24, 7, 127] [0, 1, 2, 3, 4, 5, 6, 7] mixed (by kernel_rfl) rfl ?_
  refine Ord.St.fl2 (T' := ?_) 0 [1, 2, 3, 4, 5, 6, 7] _ _ rfl (by kernel_rfl) rfl rfl rfl rfl (fun K w' hk => ?_) ?_
  rotate_left
  · go_step; exact hk
  refine Ord.St.fl2 (T' := ?_) 1 [2, 3, 4, 5, 6, 7] _ _ rfl (by kernel_rfl) rfl rfl rfl rfl (fun K w' hk => ?_) ?_
  rotate_left
  · go_step; exact hk
  refine Ord.St.fl2 (T' := ?_) 2 [3, 4, 5, 6, 7] _ _ rfl (by kernel_rfl) rfl rfl rfl rfl (fun K w' hk => ?_) ?_
  rotate_left
  · go_step; exact hk
  refine Ord.St.fl2 (T' := ?_) 3 [4, 5, 6, 7] _ _ rfl (by kernel_rfl) rfl rfl rfl rfl (fun K w' hk => ?_) ?_
  rotate_left
  · go_step; exact hk
  refine Ord.St.fl2 (T' := ?_) 4 [5, 6, 7] _ _ rfl (by kernel_rfl) rfl rfl rfl rfl (fun K w' hk => ?_) ?_
  rotate_left
  · go_step; exact hk
  refine Ord.St.fl2 (T' := ?_) 5 [6, 7] _ _ rfl (by kernel_rfl) rfl rfl rfl rfl (fun K w' hk => ?_) ?_
  rotate_left
  · go_step; exact hk
  refine Ord.St.fl2 (T' := ?_) 6 [7] _ _ rfl (by kernel_rfl) rfl rfl rfl rfl (fun K w' hk => ?_) ?_
  rotate_left
  · go_step; exact hk
  refine Ord.St.fl2 (T' := ?_) 7 [] _ _ rfl (by kernel_rfl) rfl rfl rfl rfl (fun K w' hk => ?_) ?_
  rotate_left
  · go_step; exact hk
  refine Ord.St.nil ?_
  rw [show 2 * n - n = n from by omega]
  have hh := HH.out.same (Ch.refl [] _).drew
  clear HH HROW
  generalize w7.drew = w8 at *
  have HH := Lib.hid hh; clear hh
  have hxy := halvesH HH.out (ib := ib) (ic := ic) (n := n) (List.mem_cons_self ..) hn4
  have d3 := ((H3.out.ch HO.out.own.ch (by simp)).ch HH.out.own.ch (by simp)).cell (i := 0) rfl
  have hC := mdDiv_is HH.out.own.gin hxy.1 hxy.2
  simp only [WV.val, natInts_len, rIn_len] at hC
  have hM := Calls.word (R := ((bothG H (natInts (rIn 0 n)) (natInts (rIn n n))).1, (bothG H (natInts (rIn 0 n)) (natInts (rIn n n))).2.1.1, (bothG H (natInts (rIn 0 n)) (natInts (rIn n n))).2.2)) HH.out hC (by rw [HF.out.c]) HF.out.len HF.out.bd (by omega)
  have HM := Lib.hid hM; clear hM hC hxy
  go_wp2_with fail
  clear d3
  refine HM.out.mono ?_
  rintro e w9 ⟨am, cm, Fm, rfl, ho⟩
  clear HH HM; have HH := Lib.hid ho; clear ho
  have hxy := halvesH HH.out (ib := ib) (ic := ic) (n := n) (List.mem_cons_of_mem _ (List.mem_cons_self ..)) hn4
  have hC := mdRem_is HH.out.own.gin hxy.1 hxy.2
  simp only [WV.val, natInts_len, rIn_len] at hC
  have hM := Calls.word (R := ((bothG H (natInts (rIn 0 n)) (natInts (rIn n n))).1, (bothG H (natInts (rIn 0 n)) (natInts (rIn n n))).2.1.2, (bothG H (natInts (rIn 0 n)) (natInts (rIn n n))).2.2)) HH.out hC (by rw [HF.out.c]) HF.out.len2 HF.out.bd2 (by omega)
  have HM := Lib.hid hM; clear hM hC hxy
  go_wp2_with fail
  refine HM.out.mono ?_
  rintro e w10 ⟨an, cn, Fn, rfl, ho⟩
  clear HH HM; have HH := Lib.hid ho; clear ho
  have d := ((HO.out.same HH.out.own.ch).kept (lb, [.slice a n c, .slice a2 n c2]) (List.mem_cons_self ..)).1.cell (i := 0) rfl
  have hE := Eqref_is (w := w10) cm c (xs := natInts q) (ys := natInts q) (HH.out.sl (List.mem_cons_of_mem _ (List.mem_cons_self ..)) (by rw [natInts_len, HF.out.len])) ((HO.out.same HH.out.own.ch).sl (List.mem_cons_of_mem _ (List.mem_cons_self ..)) (by rw [natInts_len, HF.out.len]))
  simp only [natInts_len, decide_true, HF.out.len] at hE
  have HE := Lib.hid hE; clear hE
  go_wp2_with fail
  refine HE.out.mono ?_
  rintro e w11 ⟨rfl, hc11⟩
  have hh := HH.out.same hc11
  clear HH HE hc11 d; have HH := Lib.hid hh; clear hh
  have d := ((HO.out.same HH.out.own.ch).kept (lb, [.slice a n c, .slice a2 n c2]) (List.mem_cons_self ..)).1.cell (i := 1) rfl
  have hE := Eqref_is (w := w11) cn c2 (xs := natInts r) (ys := natInts r) (HH.out.sl (List.mem_cons_self ..) (by rw [natInts_len, HF.out.len2])) ((HO.out.same HH.out.own.ch).sl (List.mem_cons_self ..) (by rw [natInts_len, HF.out.len2]))
  simp only [natInts_len, decide_true, HF.out.len2] at hE
  have HE := Lib.hid hE; clear hE
  go_wp2_with fail
  refine HE.out.mono ?_
  rintro e w13 ⟨rfl, hc13⟩
  have hh := HH.out.same hc13
  clear HH HE hc13 d; have HH := Lib.hid hh; clear hh
  have hL := Len_g HH.out.own.gin
  rw [HF.out.hn] at hL
  have HL := Lib.hid hL; clear hL
  go_wp2_with fail
  refine HL.out.mono ?_
  rintro e w11 ⟨rfl, rfl⟩
  clear HL
  go_wp2_with fail
  have h2 := (H2.out.ch HO.out.own.ch (by simp)).ch HH.out.own.ch (by simp)
  have h3 := (H3.out.ch HO.out.own.ch (by simp)).ch HH.out.own.ch (by simp)
  have hca := (HC0.out.trans HO.out.own.ch (by simp)).trans HH.out.own.ch (by simp)
  have HCA := Lib.hid hca; clear hca HC0 HH HO H2 H3
  have H2 := Lib.hid h2; clear h2
  have H3 := Lib.hid h3; clear h3
  go_loopw [22] (fun i wr => ∃ M : Nat, i = .int .i64 M ∧ 2 * n ≤ M ∧ M < N ∧ N ≤ M + 4 ∧ Ch [] w13 wr) (fun i _ => (intOf i).toNat)
  case atStart => exact ⟨N - 1, by go_num, by omega, by omega, by omega, Ch.refl _ _⟩
  case round =>
    obtain ⟨M, rfl, m1, m2, m3, hc⟩ := hrel
    by_cases g1 : 2 * n < M
    · have q1 : decide (2 * (n : Int) < M) = true := decide_eq_true (by omega)
      by_cases g2 : N < M + 4
      · have q2 : decide ((N : Int) - 4 < M) = true := decide_eq_true (by omega)
        obtain ⟨D, hD, hDn⟩ := HF.out.d M g1 m2 g2
        have hM := mk24_both (H2.out.ch hc (by simp)) (H3.out.ch hc (by simp)) (n := n) HWN.out HKD.out (most := M) (by omega) (by omega) (l1 := []) (l2 := []) (k1 := 0) (k2 := 0) hD rfl rfl (by simp) (by simp) (by omega) (by omega)
        have HM := Lib.hid hM; clear hM hD
        have HC := Lib.hid hc; clear hc
        go_wp2_with fail
        refine HM.out.mono ?_
        rintro e wm ⟨gm, Fm, lbm, am, cm, a2m, c2m, xam, xcm, yam, ycm, rfl, ho⟩
        have HX := Lib.hid ho; clear ho HM
        have hL := Len_g HX.out.own.gin
        rw [hDn] at hL
        have HL := Lib.hid hL; clear hL hDn
        go_wp2_with fail
        refine HL.out.mono ?_
        rintro e wz ⟨rfl, rfl⟩
        have hk := (HX.out.kept (lbm, [.slice am 0 cm, .slice a2m 0 c2m]) (List.mem_cons_self ..)).1
        have hF := CFlst_no (w := wm) (b := lbm) (n := 2) (cap := 2) (by omega) (fun i hi => by
          rcases i with _ | _ | i
          · exact ⟨_, _, hk.cell (i := 0) rfl⟩
          · exact ⟨_, _, hk.cell (i := 1) rfl⟩
          · omega)
        have HFF := Lib.hid hF; clear hF hk HL
        go_wp2_with fail
        refine HFF.out.mono ?_
        rintro e wz ⟨rfl, rfl⟩
        go_wp2_with fail
        go_roundw
        case rel => exact ⟨M - 1, by go_num, by omega, by omega, by omega, HC.out.trans HX.out.own.ch (by simp)⟩
        case measure => simp [intOf]; omega
      · have q2 : decide ((N : Int) - 4 < M) = false := decide_eq_false (by omega)
        have HC := Lib.hid hc; clear hc
        go_wp2_with fail
        go_ret
        exact ⟨rfl, HCA.out.trans HC.out (by simp)⟩
    · have q1 : decide (2 * (n : Int) < M) = false := decide_eq_false (by omega)
      have HC := Lib.hid hc; clear hc
      go_wp2_with fail
      go_ret
      exact ⟨rfl, HCA.out.trans HC.out (by simp)⟩
end Go.Proofs.Ytkedpifopclipaa
namespace Go.Proofs.Ytkedpifopclipaa
open Go.RowKit Go.Mem Go.Aig
theorem MuldivAgain_walk {w : World} (wd : Nat) (hw : wd ≤ 255) (kd : Nat) (hk : kd ≤ 255) : Calls Try.prog 11 #[.int .u8 wd, .int .u8 kd] w fun e w' => e = .returned (.bool true) ∧ Ch [] w w' := by
  rcases Nat.mod_two_eq_zero_or_one kd with h | h
  · exact MuldivAgain_mul wd kd hw hk h
  · exact MuldivAgain_both wd kd hw hk h
end Go.Proofs.Ytkedpifopclipaa
