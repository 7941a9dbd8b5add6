/-
  Contracts of functions that MuxesSmall reaches, and plain facts (part D). Conditions: the hypotheses of each theorem.
-/
import Derived.Test.YtehljgigebhddaaGreatQC
import Derived.Deep.DeepCutAuto
import Derived.Deep.CutBlock
set_option maxRecDepth 100000
set_option maxHeartbeats 16000000
namespace Go.Aig
def eqS (q : Mk × List Nat) (p : List Nat × List Nat) : Mk × List Nat := ((rstep q.1 (eqW q.1.1 p.1 p.2)).1, q.2 ++ [(rstep q.1 (eqW q.1.1 p.1 p.2)).2])
def eqsF (G : Gra) (l : List (List Nat × List Nat)) : Mk × List Nat := l.foldl eqS ((G, 0), [])
theorem eqsF_snoc (G : Gra) (l : List (List Nat × List Nat)) (p : List Nat × List Nat) : eqsF G (l ++ [p]) = eqS (eqsF G l) p := by unfold eqsF; rw [List.foldl_append]; rfl
def equalR (G : Gra) (l : List (List Nat × List Nat)) : Mk × Nat := rstep (eqsF G l).1 (rAll (eqsF G l).1.1 (eqsF G l).2)
end Go.Aig
namespace Go.Proofs.YtehljgigebhddaaGreat
open Go.RowKit Go.Mem Go.Aig
attribute [local go_sem] Oper.semAt_some
theorem doAll_r' {G : Gra} {l : List Nat} (hl : ∀ r ∈ l, r < 2 * G.nodes.length) : doAll G (l.map fun (r : Nat) => (r : Int)) = rAll G l := by
 unfold doAll
 rw [toNats, whole_all (by
  intro x hx
  obtain ⟨r, hr, rfl⟩ := List.mem_map.1 hx
  have := hl r hr
  simp [right]; omega)]
theorem fnvmEqual1 : Fnv 191 := fnv_of Tryz.func191 (by simp [Tryz.f191]) (by simp [Tryz.f191])
def RV (w : World) (g m : Nat) (G : Gra) (F : List Nat) (S : Mk × Nat) (v : Value) (w' : World) : Prop := ∃ (P : Mk) (r : Nat), v = .int .i64 r ∧ Sim G P S.1 ∧ (S.1.2 = 0 → r = S.2) ∧ MTo w g m P F w'
section
variable {w : World} {g m : Nat} {G : Gra} {F : List Nat}
theorem mEqual1_is (h : MIn w g m (G, 0) F) {As Bs : List WV} {la lb nl ac bc width : Nat} (hA : WL w (m :: F) la nl As) (hB : WL w (m :: F) lb nl Bs) (hWA : ∀ x ∈ As, WOf G width x.l) (hWB : ∀ x ∈ Bs, WOf G width x.l) (hnl : nl ≤ 256) (hw1 : 1 ≤ width) (hw : width ≤ 16)
  {b1 b2 b3 : Nat} (h1 : w.cell? ⟨b1, 0, none⟩ = some (.slice (some ⟨la, 0, none⟩) nl ac)) (h2 : w.cell? ⟨b2, 0, none⟩ = some (.pointer (some ⟨g, 0, none⟩))) (h3 : w.cell? ⟨b3, 0, none⟩ = some (.slice (some ⟨lb, 0, none⟩) nl bc)) (h2F : b2 ∉ m :: F) (h3F : b3 ∉ m :: F) :
  Calls Tryz.prog 191 (#[.pointer (some ⟨m, 0, none⟩)] ++ #[.pointer (some ⟨b1, 0, none⟩), .pointer (some ⟨b2, 0, none⟩), .pointer (some ⟨b3, 0, none⟩)]) w fun e W' => ∃ v, e = .returned v ∧ RV w g m G F (equalR G ((As.map fun x => nats x.l).zip (Bs.map fun x => nats x.l))) v W' := by
 show Calls Tryz.prog 191 #[.pointer (some ⟨m, 0, none⟩), .pointer (some ⟨b1, 0, none⟩), .pointer (some ⟨b2, 0, none⟩), .pointer (some ⟨b3, 0, none⟩)] w _
 have hml := h.bk.lt
 have hFl := h.gin.lt
 have hok := h.gin.ok
 obtain ⟨Z, hZ⟩ : ∃ Z, (As.map fun x => nats x.l).zip (Bs.map fun x => nats x.l) = Z := ⟨_, rfl⟩
 have hzl : Z.length = nl := by rw [← hZ, List.length_zip, List.length_map, List.length_map, hA.len, hB.len, Nat.min_self]
 have hzat : ∀ (k : Nat) (x y : WV), As[k]? = some x → Bs[k]? = some y → Z[k]? = some (nats x.l, nats y.l) := fun k x y hx hy => by
  rw [← hZ, List.getElem?_zip_eq_some]
  exact ⟨by rw [List.getElem?_map, hx]; rfl, by rw [List.getElem?_map, hy]; rfl⟩
 rw [hZ]
 clear hZ
 have H := Hi9 h; clear h
 have HA := Hi9 hA; clear hA
 have HB := Hi9 hB; clear hB
 have HWA := Hi9 hWA; clear hWA
 have HWB := Hi9 hWB; clear hWB
 have HZL := Hi9 hzl; clear hzl
 have HZAT := Hi9 hzat; clear hzat
 have H1 := Hi9 h1
 have H2 := Hi9 h2; clear h2
 have H3 := Hi9 h3; clear h3
 have HOK := Hi9 hok; clear hok
 go_enter Tryz.func191, Tryz.ntmps191
 go_wp2_with fail
 clear h1
 go_loopw [6, 15] (fun lv i wr => ∃ (k : Nat) (P : Mk) (F' l : List Nat), k ≤ nl ∧ i = .int .i64 k ∧ l.length = k ∧ Sim G P (eqsF G (Z.take k)).1 ∧ ((eqsF G (Z.take k)).1.2 = 0 → l = (eqsF G (Z.take k)).2) ∧ (∀ r ∈ l, r < 2 * P.1.nodes.length) ∧ MIn wr g m P F' ∧ Ch (m :: F) w wr ∧ (∀ q ∈ F', q ∈ F ∨ w.heap.size ≤ q) ∧ F'[2]? = F[2]? ∧ row wr 52 1 lv k (refsCells l) ∧ (∀ q, lv.ownBlock = some q → w.heap.size ≤ q ∧ q ∉ F')) (fun _ i _ => nl - (intOf i).toNat)
 case atStart => exact ⟨0, (G, 0), F, [], Nat.zero_le _, rfl, rfl, Sim.start HOK.out, fun _ => rfl, by simp, H.out, Ch.refl _ _, fun q hq => .inl hq, rfl, ⟨rfl, .inl ⟨rfl, rfl⟩⟩, by simp [Value.ownBlock]⟩
 case round =>
  obtain ⟨k, P, F', l, hk, rfl, hll, hs, hout, hall, hm, hch, hown, hmap, hrow, hfr⟩ := hrel
  obtain ⟨va, vc, rfl⟩ := row.shape hrow
  have hcell : ∀ {b i : Nat} {v : Value}, w.cell? ⟨b, i, none⟩ = some v → b ∉ m :: F → wr.cell? ⟨b, i, none⟩ = some v := fun hx hb => (hch.cell (cell_lt hx) hb).trans hx
  have hword : ∀ {x : WV}, WVin w (m :: F) x → WVin wr F' x := fun hx => ⟨hx.ok.ch hch (fun p hp => (hx.apart p.block (ablk_of hp)).1), fun q hq => ⟨fun hin => by
   obtain ⟨k1, k2⟩ := hx.apart q hq
   simp only [List.mem_cons, not_or] at k1
   exact (hown q hin).elim k1.2 (fun e => by omega), Nat.lt_of_lt_of_le (hx.apart q hq).2 hch.size⟩⟩
  by_cases hlt : k < nl
  ·obtain ⟨x, hx⟩ : ∃ x, As[k]? = some x := ⟨_, List.getElem?_eq_getElem (by rw [HA.out.len]; exact hlt)⟩
   obtain ⟨y, hy⟩ : ∃ y, Bs[k]? = some y := ⟨_, List.getElem?_eq_getElem (by rw [HB.out.len]; exact hlt)⟩
   have hxm := List.mem_of_getElem? hx
   have hym := List.mem_of_getElem? hy
   have hxw := HWA.out x hxm
   have hyw := HWB.out y hym
   have c_x := hcell (HA.out.cells k x hx) HA.out.apart.1
   have c_y := hcell (HB.out.cells k y hy) HB.out.apart.1
   have c_g := hcell H2.out h2F
   have c_b := hcell H3.out h3F
   have hsu : eqsF G (Z.take (k + 1)) = eqS (eqsF G (Z.take k)) (nats x.l, nats y.l) := by rw [List.take_add_one, HZAT.out k x y hx hy]; exact eqsF_snoc _ _ _
   have hxr : ∀ r ∈ nats x.l, r < 2 * P.1.nodes.length := fun r hr => hs.ext.lt (hxw.lt r hr)
   have hyr : ∀ r ∈ nats y.l, r < 2 * P.1.nodes.length := fun r hr => hs.ext.lt (hyw.lt r hr)
   have hfull := eqW_full hm.gin.ok (by rw [nats_len]; exact hxw.len) (by rw [nats_len]; exact hyw.len) hw1 (by omega) hxr hyr
   generalize eqsF G (Z.take k) = R at hs hout hsu
   have hst := hs.step hfull (Y := eqW R.1.1 (nats x.l) (nats y.l)) (fun _ e => by rw [e])
   have hEQ := fun (W : World) (hW : Ch [] wr W) => sEq_is (hm.gin.same hW (by simp)) ((hword (HA.out.words x hxm)).ch hW) ((hword (HB.out.words y hym)).ch hW)
   obtain ⟨X, hX⟩ : ∃ X, eqW P.1 (nats x.l) (nats y.l) = X := ⟨_, rfl⟩
   have hX2 := hX
   unfold eqW at hX2
   rw [hxw.cast, hyw.cast] at hX2
   simp only [hX2, WV.val] at hEQ
   rw [hX] at hst
   have hbk := hm.bk
   unfold WV.val at c_x c_y
   obtain ⟨xa, xl, xc⟩ := x
   obtain ⟨ya, yl, yc⟩ := y
   simp only at c_x c_y hEQ
   have HEQ := Hi9 hEQ; clear hEQ
   have HST := Hi9 hst; clear hst
   have HSU := Hi9 hsu; clear hsu
   have HS := Hi9 hs; clear hs
   have HM := Hi9 hm; clear hm
   have HCH := Hi9 hch; clear hch
   have HROW := Hi9 hrow; clear hrow
   have HOUT := Hi9 hout; clear hout
   have HBK := Hi9 hbk; clear hbk
   have HFR := Hi9 hfr; clear hfr
   have HALL := Hi9 hall; clear hall
   clear hX hX2 hfull hxr hyr hxw hyw hxm hym hx hy hcell hword
   go_upto_region 5 with fail
   refine Ord.St.door (fun _ => True) [.rd, .fl, .rd, .fl, .fl, .rd, .ef, .fl, .fl, .fl, .fl, .fl] [0, 0, 0, 0, 12, 28, 63, 127, 255, 255, 511, 2047] [0, 1, 2, 3, 4, 5, 6, 7, 8, 9, 10, 11] mixed (by kernel_rfl) rfl ?_
   obtain ⟨Wc, hWc⟩ : ∃ Wc, Wc = wr.drew := ⟨_, rfl⟩
   rw [← hWc]
   have hcur : Ch [] wr Wc := by rw [hWc]; exact (Ch.refl _ _).drew
   have c_g2 : Wc.cell? ⟨b2, 0, none⟩ = some (.pointer (some ⟨g, 0, none⟩)) := by rw [hWc]; exact c_g
   have c_b2 : Wc.cell? ⟨b3, 0, none⟩ = some (.slice (some ⟨lb, 0, none⟩) nl bc) := by rw [hWc]; exact c_b
   have c_y2 : Wc.cell? ⟨lb, k, none⟩ = some (.slice ya yl.length yc) := by rw [hWc]; exact c_y
   clear hWc
   have han := HEQ.out Wc hcur
   have HAN1 := Hi9 han; clear han HEQ
   have HCUR := Hi9 hcur; clear hcur
   (refine Ord.Q9 ?_ (fun K hk => ?_) ?_; rotate_left; focus (go_step; exact hk))
   (refine Ord.F9 ?_ (fun K w' hk => ?_) ?_; rotate_left; focus (go_step; exact hk))
   (refine Ord.Q9 ?_ (fun K hk => ?_) ?_; rotate_left; focus (go_step; exact hk))
   iterate 2 (refine Ord.F9 ?_ (fun K w' hk => ?_) ?_; rotate_left; focus (go_step; exact hk))
   (refine Ord.Q9 ?_ (fun K hk => ?_) ?_; rotate_left; focus (go_step; exact hk))
   refine Ord.St.ef 6 [7, 8, 9, 10, 11] _ rfl (by kernel_rfl) (fun K hK => ?_)
   go_wp2_with fail
   refine HAN1.out.mono ?_
   rintro e w5 ⟨rfl, hto⟩
   have hb5 := ((HBK.out.ch HCUR.out (by simp)).ch hto.choose_spec.2.1 HM.out.apart)
   have HTO := Hi9 hto; clear hto
   have HNT := mnote_is hb5 X.2.1 X.2.2
   clear hb5
   go_wp2_with fail
   refine ⟨rfl, hK _ _ ?_⟩; clear hK K
   iterate 5 (refine Ord.F9 ?_ (fun K w' hk => ?_) ?_; rotate_left; focus (go_step; exact hk))
   refine Ord.St.nil ?_
   go_wp2_with fail
   refine HNT.mono ?_
   rintro e w6 ⟨rfl, hb6, hc6⟩
   have hmc := HM.out.same HCUR.out (by simp)
   obtain ⟨F6, hm6, hc56, hown6, hmap6⟩ := MTo.of (P' := (mput P X).1) hmc HTO.out (fun _ => hb6) hc6
   have hc06 := (HCUR.out.mono (by simp)).trans hc56 (fun q hq => .inl hq)
   have hrl := HROW.out.lt
   have hrow6 := HROW.out.ch hc06 (by
    intro q hq hin
    simp only [List.mem_cons] at hin
    rcases hin with e | e
    ·have := (HFR.out q hq).1; omega
    ·exact (HFR.out q hq).2 e)
   have hch6 := HCH.out.trans hc06 (by
    intro q hq
    simp only [List.mem_cons] at hq ⊢
    rcases hq with e | hq
    ·exact .inl (.inl e)
    ·rcases hown q hq with e | e
     ·exact .inl (.inr e)
     ·exact .inr e)
   have hsz := HCUR.out.size
   have hsz0 := HCH.out.size
   have hfr6 : ∀ q, (Value.slice va k vc).ownBlock = some q → w.heap.size ≤ q ∧ q ∉ F6 := fun q hq => ⟨(HFR.out q hq).1, fun hin => (hown6 q hin).elim (HFR.out q hq).2 (fun e => by have := (hrl q hq).2; omega)⟩
   have hown6' : ∀ q ∈ F6, q ∈ F ∨ w.heap.size ≤ q := fun q hq => by
    rcases hown6 q hq with e | e
    ·exact hown q e
    ·exact .inr (by omega)
   have hF6l := hm6.gin.lt
   have hm6l := hm6.bk.lt
   clear hb6 hc6 hc56 hc06 hmc HTO hrl
   obtain ⟨W7, hW7⟩ : ∃ W7 : World, W7 = w6.alloc (.cells #[.int .i64 X.2.1] 52) := ⟨_, rfl⟩
   have hc7 : Ch [] w6 W7 := alw_ch hW7
   have hnb := alw_blk (xs := [.int .i64 X.2.1]) hW7
   have hrow7 := hrow6.ch hc7 (by simp)
   have hm7 := hm6.same hc7 (by simp)
   have HM7 := Hi9 hm7; clear hm7 hm6
   have HROW7 := Hi9 hrow7; clear hrow7 hrow6
   have HCH7 := Hi9 (hch6.trans hc7 (by simp)); clear hch6
   have HNB := Hi9 hnb; clear hnb
   have HW7 := Hi9 hW7; clear hW7
   have HFR6 := Hi9 hfr6; clear hfr6
   have hs7 := hc7.size
   clear hc7
   go_wp2_with (at_builtin; rw [← HW7.out]; go_loud (refine wpList_append_row slRefs rfl _ _ rfl (v := .slice va k vc) (n := k) (xs := refsCells l) rfl HROW7.out (ad := ⟨w6.heap.size, 0, none⟩) (m := 1) (c := 1) (news := [.int .i64 X.2.1]) rfl rfl (news_blk HNB.out) (by simp [Value.oneCell']) (by omega) (by omega) ?_; intro v' w8 hown8 hC8 hf8; have HO8 := Hi9 hown8; clear hown8; have HC8 := Hi9 hC8; clear hC8; have HF8 := Hi9 hf8; clear hf8))
   go_roundw
   case rel =>
    obtain ⟨k1, k2, k3, k4, k5, k6, k7⟩ := HST.out
    have hcs : ∀ q ∈ (Value.slice va k vc).ownBlock.toList, w.heap.size ≤ q ∧ q ∉ F6 := fun q hq => HFR6.out q (by simpa using hq)
    refine ⟨k + 1, (mput P X).1, F6, l ++ [X.2.1], by omega, by go_num, by simp [hll], by rw [HSU.out]; exact k1, fun hz => ?_, fun r hr => ?_, HM7.out.same HC8.out (fun q hq hq2 => ?_), HCH7.out.trans HC8.out (fun q hq => .inr (hcs q hq).1), hown6', hmap6.trans hmap, ?_, fun q hq => ?_⟩
    ·rw [HSU.out] at hz ⊢
     have hR0 : R.1.2 = 0 := by
      by_cases h0 : R.1.2 = 0
      ·exact h0
      ·exact absurd hz (k7 h0)
     rw [HOUT.out hR0]
     exact congrArg (fun z => R.2 ++ [z]) (k4 hz)
    ·rcases List.mem_append.1 hr with hr | hr
     ·exact k5.lt (HALL.out r hr)
     ·rw [List.mem_singleton.1 hr]; exact k2
    ·simp only [List.mem_cons] at hq
     rcases hq with e | hq
     ·have := (hcs q hq2).1; omega
     ·exact (hcs q hq2).2 hq
    ·have := HO8.out
     simpa [refsCells] using this
    ·rcases HF8.out q hq with e | e
     ·exact HFR6.out q e
     ·have h9 := HCH7.out.size
      exact ⟨by omega, fun hin => by have := hF6l q hin; omega⟩
   case measure => simp [intOf]; omega
  ·have hkn : k = nl := by omega
   rw [hkn, List.take_of_length_le (by rw [HZL.out]; omega)] at hs hout
   have hAll := All_g hm.gin (a := va) (l := l.map fun (r : Nat) => (r : Int)) k vc (by rw [List.length_map]; exact hll) (by
    rw [refs_natInts] at hrow
    exact Sl.of_ints hrow (by omega)) (fun z hz => by
    obtain ⟨r, hr, rfl⟩ := List.mem_map.1 hz
    have := hall r hr
    have := hm.gin.ok.small
    omega) (fun p hp => by
    subst hp
    exact ⟨(hrow.lt p.block rfl).2, (hfr p.block rfl).2⟩)
   rw [doAll_r' hall] at hAll
   have hst := hs.step (rAll_full hm.gin.ok hall) (Y := rAll (eqsF G Z).1.1 (eqsF G Z).2) (fun e0 e1 => by rw [hout e0, e1])
   obtain ⟨X, hX⟩ : ∃ X, rAll P.1 l = X := ⟨_, rfl⟩
   rw [hX] at hAll hst
   have c_g := hcell H2.out h2F
   have hbk := hm.bk
   have HST := Hi9 hst; clear hst
   have HAL := Hi9 hAll; clear hAll
   have HM := Hi9 hm; clear hm
   have HCH := Hi9 hch; clear hch
   have HBK := Hi9 hbk; clear hbk
   clear hs hout hrow hfr hall hX hcell hword hkn
   go_wp2_with fail
   refine HAL.out.mono ?_
   rintro e w5 ⟨rfl, hto⟩
   have hb5 := HBK.out.ch hto.choose_spec.2.1 HM.out.apart
   have HTO := Hi9 hto; clear hto
   have HNT := mnote_is hb5 X.2.1 X.2.2
   clear hb5
   go_wp2_with fail
   refine HNT.mono ?_
   rintro e w6 ⟨rfl, hb6, hc6⟩
   have hmt := MTo.of (P' := (mput P X).1) HM.out HTO.out (fun _ => hb6) hc6
   have HMT := Hi9 hmt; clear hmt hb6 hc6
   go_wp2_with fail
   go_ret
   obtain ⟨F6, q1, q2, q3, q4⟩ := HMT.out
   have hsz0 := HCH.out.size
   obtain ⟨k1, k2, k3, k4, k5, k6, k7⟩ := HST.out
   refine ⟨_, rfl, (mput P X).1, X.2.1, rfl, k1, k4, F6, q1, HCH.out.trans q2 (fun q hq => ?_), fun q hq => (q3 q hq).elim (hown q) (fun e => .inr (by omega)), q4.trans hmap⟩
   simp only [List.mem_cons] at hq ⊢
   rcases hq with e | hq
   ·exact .inl (.inl e)
   ·rcases hown q hq with e | e
    ·exact .inl (.inr e)
    ·exact .inr e
end
end Go.Proofs.YtehljgigebhddaaGreat
namespace Go.Aig
def equalG (G : Gra) (A B : List (List Int)) : Res :=
 if array26 A.length = false then (G, 0, 261) else if A.length ≠ B.length then (G, 0, 261) else if chk26 G [] [] (A ++ B) ≠ 0 then (G, 0, chk26 G [] [] (A ++ B))
 else rres G (equalR G ((A.map nats).zip (B.map nats)))
theorem rres_e (G : Gra) (S : Mk × Nat) : (rres G S).2.2 = S.1.2 := by
 unfold rres
 by_cases h0 : S.1.2 = 0
 ·rw [if_neg (by simp [h0])]; exact h0.symm
 ·rw [if_pos h0]
end Go.Aig
namespace Go.Proofs.YtehljgigebhddaaGreat
open Go.RowKit Go.Mem Go.Aig
def PostR (r : Nat) (v : Value) (_ : List Nat) (_ : World) : Prop := v = .int .i64 r
theorem RV.post {W : World} {g m : Nat} {G : Gra} {F : List Nat} {S : Mk × Nat} {v : Value} {W' : World} (h : RV W g m G F S v W') : ∃ P F', Sim G P S.1 ∧ MIn W' g m P F' ∧ Ch (m :: F) W W' ∧ (∀ k ∈ F', k ∈ F ∨ W.heap.size ≤ k) ∧ F'[2]? = F[2]? ∧ (S.1.2 = 0 → PostR S.2 v F' W') := by
 obtain ⟨P, r, rfl, hs, ho, F', k1, k2, k3, k4⟩ := h
 exact ⟨P, F', hs, k1, k2, k3, k4, fun h0 => by rw [ho h0]; rfl⟩
theorem MB.gto {w w1 w' : World} {g : Nat} {G : Gra} {F : List Nat} {S : Mk × Nat} {v : Value} (hc : Ch [] w w1) (h : MB w1 g G F S.1 (PostR S.2) mzR v w') : v = .int .i64 (rres G S).2.1 ∧ GTo w g (rres G S).1 F w' := by
 obtain ⟨F', k1, k2, k3, k4, k5, k6⟩ := h
 unfold rres
 by_cases h0 : S.1.2 = 0
 ·rw [if_pos h0] at k1
  rw [if_neg (by simp [h0])]
  exact ⟨k5 h0, GTo.since hc (GTo.mk k1 k2 k3 k4)⟩
 ·rw [if_neg h0] at k1
  rw [if_pos h0]
  exact ⟨k6 h0, GTo.since hc (GTo.mk k1 k2 k3 k4)⟩
theorem LS.two {w : World} {F : List Nat} {q la lb n ac bc : Nat} {As Bs : List WV} (hA : WL w F la n As) (hB : WL w F lb n Bs) (hq : blk w q [.slice (some ⟨la, 0, none⟩) n ac, .slice (some ⟨lb, 0, none⟩) n bc]) : LS w q 2 [(la, ac, As), (lb, bc, Bs)] := by
 have h1 := hA.len
 have h2 := hB.len
 subst h1
 refine ⟨rfl, fun j b' c' ws' hj => ?_, fun j b' c' ws' hj => ?_⟩ <;> rcases j with _ | _ | j
 ·cases hj; exact hq.cell rfl
 ·cases hj; rw [h2]; exact hq.cell rfl
 ·simp at hj
 ·cases hj; exact fun i x hx => ⟨hA.cells i x hx, (hA.words x (List.mem_of_getElem? hx)).ok⟩
 ·cases hj; exact fun i x hx => ⟨hB.cells i x hx, (hB.words x (List.mem_of_getElem? hx)).ok⟩
 ·simp at hj
theorem lsW_two (b c b' c' : Nat) (ws ws' : List WV) : lsW [(b, c, ws), (b', c', ws')] = ws ++ ws' := by simp [lsW]
section
variable {w : World} {g : Nat} {G : Gra} {F : List Nat}
theorem mEqual_is (h : GIn w g G F) {la lb : Option Addr} {nl ac n2 bc : Nat} {As Bs : List WV} (hA : WA w F la nl As) (hB : WA w F lb n2 Bs) (hn2 : n2 ≤ 1000000) :
  Calls Tryz.prog 71 #[.pointer (some ⟨g, 0, none⟩), .slice la nl ac, .slice lb n2 bc] w fun e w' => e = .returned (.tuple #[.int .i64 (equalG G (As.map WV.l) (Bs.map WV.l)).2.1, .int .i64 (equalG G (As.map WV.l) (Bs.map WV.l)).2.2]) ∧ GTo w g (equalG G (As.map WV.l) (Bs.map WV.l)).1 F w' := by
 have hpos := h.ok.wf.pos
 have hroom := h.ok.room
 have hmost := h.ok.most
 have hL := fun (W : World) (hW : Ch [] w W) => Len_g (h.same hW (by simp))
 have hAr := fun (W : World) => marray_is (w := W) nl
 have hok := chk26_ok (G := G) (idx := []) (refs := []) (ws := As.map WV.l ++ Bs.map WV.l)
 have hlt := chk26_lt G [] [] (As.map WV.l ++ Bs.map WV.l)
 have hla : (As.map WV.l).length = nl := by rw [List.length_map]; exact hA.len
 have hlb : (Bs.map WV.l).length = n2 := by rw [List.length_map]; exact hB.len
 unfold equalG
 rw [hla, hlb]
 obtain ⟨cc, hcc⟩ : ∃ cc, chk26 G [] [] (As.map WV.l ++ Bs.map WV.l) = cc := ⟨_, rfl⟩
 rw [hcc] at hok hlt ⊢
 obtain ⟨S, hS⟩ : ∃ S, equalR G (((As.map WV.l).map nats).zip ((Bs.map WV.l).map nats)) = S := ⟨_, rfl⟩
 rw [hS]
 generalize hWW : (if array26 nl = false then (G, 0, 261) else if nl ≠ n2 then (G, 0, 261) else if cc ≠ 0 then (G, 0, cc) else rres G S : Res) = WW
 cases ha : array26 nl
 ·rw [ha, if_pos rfl] at hWW
  simp only [ha] at hAr
  subst hWW
  clear hok hcc hS hA hB
  have HL := Hi9 hL; clear hL
  have HAR := Hi9 hAr; clear hAr
  have H := Hi9 h; clear h
  have hn0 : ((G.nodes.length : Int) == 0) = false := beqN (by omega)
  go_enter Tryz.func71, Tryz.ntmps71
  go_upto_region 1 with fail
  refine wp_named fun W0 hW0 => ?_
  have hc0 : Ch [] w W0 := by rw [hW0]; exact (((Ch.refl _ _).alloc _).alloc _).alloc _
  have hb0 : blk W0 w.heap.size [.pointer (some ⟨g, 0, none⟩)] := by rw [hW0]; exact ((blk.new' _ _ (by simp)).alloc _).alloc _
  have hb1 : blk W0 (w.heap.size + 1) [.slice la nl ac] := by rw [hW0]; exact (blk.new' _ _ (by simp)).alloc _
  have d0 := hb0.cell (i := 0) rfl
  have d1 := hb1.cell (i := 0) rfl
  clear hW0 hb0 hb1
  have hLL := HL.out W0 hc0
  have HC0 := Hi9 hc0; clear hc0
  go_wp2_with fail
  refine hLL.mono ?_
  rintro e w' ⟨rfl, rfl⟩
  clear hLL
  go_wp2_with fail
  refine (HAR.out _).mono ?_
  rintro e w' ⟨rfl, rfl⟩
  go_wp2_with fail
  go_ret2
  exact ⟨rfl, GTo.same H.out HC0.out⟩
 ·rw [ha, if_neg (by simp)] at hWW
  simp only [ha] at hAr
  have hnl : 1 ≤ nl ∧ nl ≤ 256 := by unfold array26 at ha; simp at ha; omega
  obtain ⟨la', rfl, hWA⟩ := hA.at_ hnl.1
  by_cases hr : nl ≠ n2
  ·rw [if_pos hr] at hWW
   have hne : ((nl : Int) != (n2 : Int)) = true := by simp; omega
   subst hWW
   clear hok hcc hS hA hB hWA
   have HL := Hi9 hL; clear hL
   have HAR := Hi9 hAr; clear hAr
   have H := Hi9 h; clear h
   have hn0 : ((G.nodes.length : Int) == 0) = false := beqN (by omega)
   go_enter Tryz.func71, Tryz.ntmps71
   go_upto_region 1 with fail
   refine wp_named fun W0 hW0 => ?_
   have hc0 : Ch [] w W0 := by rw [hW0]; exact (((Ch.refl _ _).alloc _).alloc _).alloc _
   have hb0 : blk W0 w.heap.size [.pointer (some ⟨g, 0, none⟩)] := by rw [hW0]; exact ((blk.new' _ _ (by simp)).alloc _).alloc _
   have hb1 : blk W0 (w.heap.size + 1) [.slice (some ⟨la', 0, none⟩) nl ac] := by rw [hW0]; exact (blk.new' _ _ (by simp)).alloc _
   have hb2 : blk W0 (w.heap.size + 2) [.slice lb n2 bc] := by rw [hW0]; exact blk.new' _ _ (by simp)
   have d0 := hb0.cell (i := 0) rfl
   have d1 := hb1.cell (i := 0) rfl
   have d2 := hb2.cell (i := 0) rfl
   clear hW0 hb0 hb1 hb2
   have hLL := HL.out W0 hc0
   have HC0 := Hi9 hc0; clear hc0
   go_wp2_with fail
   refine hLL.mono ?_
   rintro e w' ⟨rfl, rfl⟩
   clear hLL
   go_wp2_with fail
   refine (HAR.out _).mono ?_
   rintro e w' ⟨rfl, rfl⟩
   go_wp2_with fail
   go_ret2
   exact ⟨rfl, GTo.same H.out HC0.out⟩
  ·rw [if_neg hr] at hWW
   have hyl : nl = n2 := by omega
   have hne : ((nl : Int) != (n2 : Int)) = false := by rw [bne_eq_false_iff_eq]; omega
   subst hyl
   obtain ⟨lb', rfl, hWB⟩ := hB.at_ hnl.1
   have hchk := fun (W : World) (q : Nat) (hW : Ch [] w W) (hq : blk W q [.slice (some ⟨la', 0, none⟩) nl ac, .slice (some ⟨lb', 0, none⟩) nl bc]) =>
    mcheck_is (h.same hW (by simp)) (LS.two (hWA.ch hW) (hWB.ch hW) hq) (n := 2) (c := 2) (by omega) (by rw [lsW_two, List.length_append, hA.len]; omega) (by rw [lsW_two, List.length_append, hA.len, hB.len]; omega) (RS.nil W) (RS.nil W) (by omega) (by omega) (by intro z hz; simp at hz)
   simp only [lsW_two, List.map_append, hcc] at hchk
   have hbuild : cc = 0 → ∀ (W1 : World), Ch [] w W1 → blk W1 w.heap.size [.pointer (some ⟨g, 0, none⟩)] → blk W1 (w.heap.size + 1) [.slice (some ⟨la', 0, none⟩) nl ac] → blk W1 (w.heap.size + 2) [.slice (some ⟨lb', 0, none⟩) nl bc] →
     Calls Tryz.prog 190 #[.pointer (some ⟨g, 0, none⟩), .func (.func 191) #[] #[.pointer (some ⟨w.heap.size + 1, 0, none⟩), .pointer (some ⟨w.heap.size, 0, none⟩), .pointer (some ⟨w.heap.size + 2, 0, none⟩)]] W1 fun e w' => ∃ v, e = .returned (.tuple #[v, .int .i64 S.1.2]) ∧ MB W1 g G F S.1 (PostR S.2) mzR v w' := fun h0 W1 hW1 k0 k1 k2 => by
    obtain ⟨o1, o2, o3, _, _⟩ := hok h0
    have hne : As.map WV.l ++ Bs.map WV.l ≠ [] := fun e => by
     have := congrArg List.length e
     rw [List.length_append, hla] at this
     simp at this; omega
    refine mbuildR_is (h.same hW1 (by simp)) 191 _ fnvmEqual1 S.1 _ (fun W m hm hW hM => ?_)
    have hall := hW1.trans hW (by simp)
    have hm2 : w.heap.size ≤ m := Nat.le_trans hW1.size hm
    have hc0 := (k0.ch hW (by simp)).cell (i := 0) rfl
    have hc1 := (k1.ch hW (by simp)).cell (i := 0) rfl
    have hc2 := (k2.ch hW (by simp)).cell (i := 0) rfl
    have l0 := k0.lt
    have l1 := k1.lt
    have l2 := k2.lt
    have hnF : ∀ b, w.heap.size ≤ b → b < W1.heap.size → b ∉ m :: F := fun b hb hb2 hin => by
     simp only [List.mem_cons] at hin
     rcases hin with e | hin
     ·omega
     ·have := h.lt b hin; omega
    have h1 := mEqual1_is hM (As := As) (Bs := Bs) (ac := ac) (bc := bc) (hWA.up hall hm2) (hWB.up hall hm2) (fun x hx => o1 x.l (List.mem_append_left _ (List.mem_map.2 ⟨x, hx, rfl⟩))) (fun x hx => o1 x.l (List.mem_append_right _ (List.mem_map.2 ⟨x, hx, rfl⟩))) hnl.2 (o2 hne) (o3 hne) hc1 hc0 hc2 (hnF _ (by omega) l0) (hnF _ (by omega) l2)
    rw [show (As.map fun x => nats x.l) = (As.map WV.l).map nats by rw [List.map_map]; rfl, show (Bs.map fun x => nats x.l) = (Bs.map WV.l).map nats by rw [List.map_map]; rfl, hS] at h1
    refine h1.mono ?_
    rintro e W' ⟨v, rfl, hrw⟩
    obtain ⟨P, F', q1, q2, q3, q4, q5, q6⟩ := hrw.post
    exact ⟨v, P, F', rfl, q1, q2, q3, q4, q5, q6⟩
   clear hok hcc hS hA hB hWA hWB
   have HL := Hi9 hL; clear hL
   have HAR := Hi9 hAr; clear hAr
   have HCHK := Hi9 hchk; clear hchk
   have HBU := Hi9 hbuild; clear hbuild
   have H := Hi9 h; clear h
   have HWW := Hi9 hWW; clear hWW
   have hn0 : ((G.nodes.length : Int) == 0) = false := beqN (by omega)
   go_enter Tryz.func71, Tryz.ntmps71
   go_upto_region 1 with fail
   refine wp_named fun W0 hW0 => ?_
   have hc0 : Ch [] w W0 := by rw [hW0]; exact (((Ch.refl _ _).alloc _).alloc _).alloc _
   have hb0 : blk W0 w.heap.size [.pointer (some ⟨g, 0, none⟩)] := by rw [hW0]; exact ((blk.new' _ _ (by simp)).alloc _).alloc _
   have hb1 : blk W0 (w.heap.size + 1) [.slice (some ⟨la', 0, none⟩) nl ac] := by rw [hW0]; exact (blk.new' _ _ (by simp)).alloc _
   have hb2 : blk W0 (w.heap.size + 2) [.slice (some ⟨lb', 0, none⟩) nl bc] := by rw [hW0]; exact blk.new' _ _ (by simp)
   have d0 := hb0.cell (i := 0) rfl
   have d1 := hb1.cell (i := 0) rfl
   have d2 := hb2.cell (i := 0) rfl
   have l0 := hb0.lt
   have l1 := hb1.lt
   have l2 := hb2.lt
   clear hW0
   have hLL := HL.out W0 hc0
   have HC0 := Hi9 hc0; clear hc0
   have HB0 := Hi9 hb0; clear hb0
   have HB1 := Hi9 hb1; clear hb1
   have HB2 := Hi9 hb2; clear hb2
   go_wp2_with fail
   refine hLL.mono ?_
   rintro e w' ⟨rfl, rfl⟩
   clear hLL
   go_wp2_with fail
   refine (HAR.out _).mono ?_
   rintro e w' ⟨rfl, rfl⟩
   go_wp2_with fail
   refine calls_named fun W1 hW1 => ?_
   have hc1 := alw_ch hW1
   have e1 := alw_blk (xs := [.slice (some ⟨la', 0, none⟩) nl ac, .slice (some ⟨lb', 0, none⟩) nl bc]) hW1
   clear hW1
   refine (HCHK.out W1 _ (HC0.out.trans hc1 (by simp)) e1).mono ?_
   rintro e w2 ⟨rfl, hc2⟩
   have hc02 := hc1.trans hc2 (by simp)
   have HC2 := Hi9 (HC0.out.trans hc02 (by simp))
   have hb0' := HB0.out.ch hc02 (by simp)
   have d0' := hb0'.cell (i := 0) rfl
   have HB0' := Hi9 hb0'; clear hb0'
   have HB1' := Hi9 (HB1.out.ch hc02 (by simp))
   have HB2' := Hi9 (HB2.out.ch hc02 (by simp))
   clear e1 hc1 hc2 hc02 d0 d1 d2 HB0 HB1 HB2 HCHK
   by_cases hz : cc = 0
   ·have hBB := HBU.out hz w2 HC2.out HB0'.out HB1'.out HB2'.out
    have hww := HWW.out
    rw [if_neg (by simp [hz])] at hww
    subst hz
    have HBB := Hi9 hBB; clear hBB HBU
    have HW2 := Hi9 hww; clear hww
    go_wp2_with fail
    refine HBB.out.mono ?_
    rintro e w3 ⟨v, rfl, hmb⟩
    obtain ⟨rfl, hgt⟩ := MB.gto HC2.out hmb
    rw [HW2.out] at hgt ⊢
    have HGT := Hi9 hgt; clear hgt hmb
    go_wp2_with fail
    go_ret2
    exact ⟨by rw [← HW2.out, rres_e]; rfl, HGT.out⟩
   ·have hq : ((cc : Int) != 0) = true := by simp; omega
    have hww := HWW.out
    rw [if_pos hz] at hww
    have HW2 := Hi9 hww; clear hww
    have HZ := Hi9 hz; clear hz
    go_wp2_with fail
    go_ret2
    exact ⟨by rw [← HW2.out]; rfl, by rw [← HW2.out]; exact GTo.same H.out HC2.out⟩
end
end Go.Proofs.YtehljgigebhddaaGreat
namespace Go.Aig
def writeS (c : Nat) (x : List Nat) (L : List (List Nat)) (y : List Nat) (n : Nat) (q : Mk × List (List Nat)) (i : Nat) : Mk × List (List Nat) :=
 let a := rstep (isR q.1 y n i).1 (and (isR q.1 y n i).1.1 c (isR q.1 y n i).2)
 let z := chF a.2 a.1 (x.zip (L.getD i []))
 (z.1, q.2.set i z.2)
def writeF (G : Gra) (c : Nat) (x : List Nat) (L : List (List Nat)) (y : List Nat) (n k : Nat) : Mk × List (List Nat) := (List.range k).foldl (writeS c x L y n) ((G, 0), L)
theorem writeF_succ (G : Gra) (c : Nat) (x : List Nat) (L : List (List Nat)) (y : List Nat) (n k : Nat) : writeF G c x L y n (k + 1) = writeS c x L y n (writeF G c x L y n k) k := by
 unfold writeF; rw [List.range_succ, List.foldl_append]; rfl
theorem writeS_bad {c : Nat} {x : List Nat} {L : List (List Nat)} {y : List Nat} {n : Nat} {q : Mk × List (List Nat)} {i : Nat} (h : (isR q.1 y n i).1.2 ≠ 0) : (writeS c x L y n q i).1 = (isR q.1 y n i).1 := by
 have e : (rstep (isR q.1 y n i).1 (and (isR q.1 y n i).1.1 c (isR q.1 y n i).2)).1 = (isR q.1 y n i).1 := by rw [rstep_bad h]
 show (chF _ (rstep (isR q.1 y n i).1 (and (isR q.1 y n i).1.1 c (isR q.1 y n i).2)).1 _).1 = _
 rw [chF_bad0 (by rw [e]; exact h), e]
theorem writeF_bad {G : Gra} {c : Nat} {x : List Nat} {L : List (List Nat)} {y : List Nat} {n k : Nat} (h : (isR (writeF G c x L y n k).1 y n k).1.2 ≠ 0) : ∀ j, k < j → (writeF G c x L y n j).1 = (isR (writeF G c x L y n k).1 y n k).1 := by
 intro j hj
 induction j with
 | zero => omega
 | succ j ih =>
  rw [writeF_succ]
  by_cases e : j = k
  ·subst e; exact writeS_bad h
  ·have h1 := ih (by omega)
   have h2 : (isR (writeF G c x L y n j).1 y n j).1 = (isR (writeF G c x L y n k).1 y n k).1 := by rw [h1, isR_bad h]
   rw [writeS_bad (by rw [h2]; exact h), h2]
end Go.Aig
namespace Go.Proofs.YtehljgigebhddaaGreat
open Go.RowKit Go.Mem Go.Aig
structure WI (W0 : World) (lo g m : Nat) (G : Gra) (F : List Nat) (ab nl cap width : Nat) (R : Mk) (outs : List (List Nat)) (W : World) (vs : List Value) (P : Mk) (ls : List (List Nat)) (F' : List Nat) : Prop where
 sim : Sim G P R
 out : R.2 = 0 → ls = outs
 mem : MIn W g m P F'
 ch : Ch (m :: ab :: F) W0 W
 own : ∀ k ∈ F', k ∈ F ∨ W0.heap.size + 2 ≤ k
 map : F'[2]? = F[2]?
 arr : row W 45 1 (.slice (some ⟨ab, 0, none⟩) nl cap) nl vs
 len : ls.length = nl
 words : ∀ (i : Nat) (v : Value), vs[i]? = some v → ∃ l, ls[i]? = some l ∧ l.length = width ∧ (∀ r ∈ l, r < 2 * P.1.nodes.length) ∧ row W 52 1 v width (refsCells l) ∧ ∀ k, v.ownBlock = some k → lo ≤ k ∧ k ∉ m :: ab :: F' ∧ k ≠ W0.heap.size ∧ k ≠ W0.heap.size + 1
section
variable {W0 : World} {lo g m : Nat} {G : Gra} {F : List Nat} {ab nl cap width : Nat} {R : Mk} {outs : List (List Nat)} {W A A' : World} {vs : List Value} {P : Mk} {ls : List (List Nat)} {F' : List Nat}
theorem WI.abF (h : WI W0 lo g m G F ab nl cap width R outs W vs P ls F') (e : FR W0 m F ab) : ab ∉ m :: F' := fun hin => by
 have := e.lt
 simp only [List.mem_cons] at hin
 rcases hin with hin | hin
 ·exact e.obm hin
 ·rcases h.own _ hin with h1 | h1
  ·exact e.obF h1
  ·omega
theorem WI.noB (h : WI W0 lo g m G F ab nl cap width R outs W vs P ls F') (e : FR W0 m F ab) : ∀ q ∈ m :: F', q ≠ W0.heap.size ∧ q ≠ W0.heap.size + 1 := fun q hq => by
 simp only [List.mem_cons] at hq
 rcases hq with rfl | hq
 ·have := e.low q (by simp); omega
 ·rcases h.own _ hq with h1 | h1
  ·have := e.low q (by simp [h1]); omega
  ·omega
theorem WI.same (h : WI W0 lo g m G F ab nl cap width R outs A vs P ls F') (e : FR W0 m F ab) (hc : Ch [W0.heap.size, W0.heap.size + 1] A A') : WI W0 lo g m G F ab nl cap width R outs A' vs P ls F' := by
 have ho := e.lt
 have hs := h.noB e
 refine ⟨h.sim, h.out, h.mem.same hc (fun k hk => by have := hs k hk; simp; omega), h.ch.trans hc (by intro k hk; simp at hk; omega), h.own, h.map, h.arr.ch hc (fun k hk => by cases hk; show ab ∉ _; simp; omega), h.len, fun i v hv => ?_⟩
 obtain ⟨l, h1, h2, h3, h4, h5⟩ := h.words i v hv
 exact ⟨l, h1, h2, h3, h4.ch hc (fun k hk => by have := (h5 k hk).2.2; simp; omega), h5⟩
theorem WI.cell (h : WI W0 lo g m G F ab nl cap width R outs W vs P ls F') {b i : Nat} {x : Value} (hx : W0.cell? ⟨b, i, none⟩ = some x) (hb : b ∉ m :: ab :: F) : W.cell? ⟨b, i, none⟩ = some x := (h.ch.cell (cell_lt hx) hb).trans hx
theorem WI.word (h : WI W0 lo g m G F ab nl cap width R outs W vs P ls F') {x : WV} (hx : WVin W0 (m :: ab :: F) x) : WVin W F' x ∧ ∀ k ∈ ablk x.a, k ∉ m :: F' ∧ k < W.heap.size := by
 have hz := h.ch.size
 have key : ∀ k ∈ ablk x.a, k ∉ m :: F' ∧ k < W.heap.size := fun k hk => by
  obtain ⟨h1, h2⟩ := hx.apart k hk
  simp only [List.mem_cons, not_or] at h1
  refine ⟨?_, by omega⟩
  simp only [List.mem_cons, not_or]
  exact ⟨h1.1, fun hin => (h.own k hin).elim h1.2.2 (fun e => by omega)⟩
 exact ⟨⟨hx.ok.ch h.ch (fun p hp => (hx.apart p.block (ablk_of hp)).1), fun k hk => ⟨fun hin => (key k hk).1 (by simp [hin]), (key k hk).2⟩⟩, key⟩
theorem WI.to (h : WI W0 lo g m G F ab nl cap width R outs W vs P ls F') (e : FR W0 m F ab) (hB : W0.heap.size + 2 ≤ W.heap.size) {P' R' : Mk} {W' : World} (ht : MTo W g m P' F' W') (hs : Sim G P' R') (hx : Ext P.1 P'.1) (hb : R.2 ≠ 0 → R'.2 ≠ 0) : ∃ F1, WI W0 lo g m G F ab nl cap width R' outs W' vs P' ls F1 := by
 obtain ⟨F1, h1, h2, h3, h4⟩ := ht
 have ho := e.lt
 have hz := h.ch.size
 refine ⟨F1, hs, fun h0 => h.out (by by_cases h9 : R.2 = 0; exact h9; exact absurd h0 (hb h9)), h1, h.ch.trans h2 (fun k hk => ?_), fun k hk => ?_, h4.trans h.map, h.arr.ch h2 (fun k hk => by cases hk; exact h.abF e), h.len, fun i v hv => ?_⟩
 ·simp only [List.mem_cons] at hk ⊢
  rcases hk with hk | hk
  ·exact .inl (.inl hk)
  ·rcases h.own k hk with h5 | h5
   ·exact .inl (.inr (.inr h5))
   ·exact .inr (by omega)
 ·rcases h3 k hk with h5 | h5
  ·exact h.own k h5
  ·exact .inr (by omega)
 ·obtain ⟨l, w1, w2, w3, w4, w5⟩ := h.words i v hv
  refine ⟨l, w1, w2, fun r hr => hx.lt (w3 r hr), w4.ch h2 (fun k hk => ?_), fun k hk => ?_⟩
  ·have := (w5 k hk).2.1
   simp only [List.mem_cons, not_or] at this ⊢
   exact ⟨this.1, this.2.2⟩
  ·obtain ⟨f1, f2, f3⟩ := w5 k hk
   refine ⟨f1, ?_, f3⟩
   simp only [List.mem_cons, not_or] at f2 ⊢
   refine ⟨f2.1, f2.2.1, fun hin => (h3 k hin).elim f2.2.2 (fun h5 => ?_)⟩
   have := (w4.lt k hk).2
   omega
theorem WI.put (h : WI W0 lo g m G F ab nl cap width R outs W vs P ls F') (e : FR W0 m F ab) (hB : W0.heap.size + 2 ≤ W.heap.size) (hlo : lo ≤ W0.heap.size) {S : Mk × List Nat} {va : Option Addr} {vc : Nat} {w1 : World} (hc : CH W g m G P F' S width (.slice va width vc) w1) {i : Nat} (hi : i < nl) (hR : S.1.2 = 0 → R.2 = 0) :
  ∃ P1 ls1 F1, WI W0 lo g m G F ab nl cap width S.1 (outs.set i S.2) (w1.setCell ⟨ab, i, none⟩ (.slice va width vc)) (vs.set i (.slice va width vc)) P1 ls1 F1 ∧ Books W0.heap.size W (w1.setCell ⟨ab, i, none⟩ (.slice va width vc)) := by
 obtain ⟨P1, l1, hs, ho1, hl, hall, hx, F1, hm, hc1, hF1, hmap, hrow, hfr⟩ := hc
 have hob := e.lt
 have hz := h.ch.size
 have hnB := h.noB e
 rw [hl] at hrow
 have hcs : Ch [ab] w1 (w1.setCell ⟨ab, i, none⟩ (.slice va width vc)) := (Ch.refl _ _).setCell (by simp) _
 have hoF1 : ab ∉ m :: F1 := fun hin => by
  have h9 := h.abF e
  simp only [List.mem_cons, not_or] at hin h9
  rcases hin with hin | hin
  ·exact h9.1 hin
  ·rcases hF1 _ hin with h5 | h5
   ·exact h9.2 h5
   ·omega
 have harr := h.arr.ch hc1 (fun k hk => by cases hk; have h9 := h.abF e; simpa using h9)
 refine ⟨P1, ls.set i l1, F1, ⟨hs, fun h0 => by rw [ho1 h0, h.out (hR h0)], hm.same hcs (fun k hk => ?_), (h.ch.trans hc1 (fun k hk => ?_)).trans hcs (by simp), fun k hk => ?_, hmap.trans h.map, row.set harr _, by rw [List.length_set]; exact h.len, fun j v hv => ?_⟩, (Books.of_ch hc1 hB (fun k hk => hnB k (by simpa using hk))).trans (Books.of_ch hcs (by have := hc1.size; omega) (by simp; omega))⟩
 ·intro hk2
  rw [List.mem_singleton.1 hk2] at hk
  exact hoF1 hk
 ·simp only [List.nil_append, List.mem_cons] at hk ⊢
  rcases hk with hk | hk
  ·exact .inl (.inl hk)
  ·rcases h.own k hk with h5 | h5
   ·exact .inl (.inr (.inr h5))
   ·exact .inr (by omega)
 ·rcases hF1 k hk with h5 | h5
  ·exact h.own k h5
  ·exact .inr (by omega)
 ·by_cases hji : j = i
  ·subst hji
   have hvl : vs.length = nl := by have := h.arr.1; omega
   rw [List.getElem?_set_self (by omega)] at hv
   cases hv
   refine ⟨l1, List.getElem?_set_self (by rw [h.len]; exact hi), hl, hall, hrow.ch hcs (fun k hk => ?_), fun k hk => ?_⟩
   ·have := hfr k hk; simp; omega
   ·obtain ⟨f1, f2, f3⟩ := hfr k hk
    refine ⟨by omega, ?_, by omega, by omega⟩
    simp only [List.mem_cons, not_or]
    exact ⟨f3, by omega, f2⟩
  ·rw [List.getElem?_set_ne (fun e => hji e.symm)] at hv
   obtain ⟨l, w1', w2, w3, w4, w5⟩ := h.words j v hv
   refine ⟨l, by rw [List.getElem?_set_ne (fun e => hji e.symm)]; exact w1', w2, fun r hr => hx.lt (w3 r hr), (w4.ch hc1 (fun k hk => ?_)).ch hcs (fun k hk => ?_), fun k hk => ?_⟩
   ·have := (w5 k hk).2.1
    simp only [List.mem_cons, not_or, List.nil_append] at this ⊢
    exact ⟨this.1, this.2.2⟩
   ·have := (w5 k hk).2.1
    simp only [List.mem_cons, not_or] at this ⊢
    exact ⟨this.2.1, by simp⟩
   ·obtain ⟨f1, f2, f3⟩ := w5 k hk
    refine ⟨f1, ?_, f3⟩
    simp only [List.mem_cons, not_or] at f2 ⊢
    refine ⟨f2.1, f2.2.1, fun hin => (hF1 k hin).elim f2.2.2 (fun h5 => ?_)⟩
    have := (w4.lt k hk).2
    omega
def WT (W0 : World) (lo g m : Nat) (G : Gra) (F : List Nat) (ab nl cap width : Nat) (O : Nat → List (List Nat)) (i : Nat) (R : Mk) (W : World) (P : Mk) (F' : List Nat) : Prop := ∃ vs ls, WI W0 lo g m G F ab nl cap width R (O i) W vs P ls F'
theorem WT.ft {O : Nat → List (List Nat)} {bn b2 bm nn n yc : Nat} {ya : Option Addr} {y : List Nat} (e : FR W0 m F ab) (hy : WVin W0 (m :: ab :: F) ⟨ya, natInts y, yc⟩) (cn : W0.cell? ⟨bn, 0, none⟩ = some (.int .i64 nn)) (cy : W0.cell? ⟨b2, 0, none⟩ = some (.slice ya n yc)) (cm : W0.cell? ⟨bm, 0, none⟩ = some (.pointer (some ⟨m, 0, none⟩)))
  (hn : bn ∉ m :: ab :: F) (h2 : b2 ∉ m :: ab :: F) (hm : bm ∉ m :: ab :: F) : FT g m G (WT W0 lo g m G F ab nl cap width O) bn b2 bm nn n yc W0.heap.size ya y where
 mem := by
  rintro i R W P F' ⟨vs, ls, h⟩
  refine ⟨h.mem, h.sim, (h.word hy).1, h.cell cn hn, h.cell cy h2, h.cell cm hm, fun hin => ?_, h.noB e⟩
  have h9 := cell_lt cm
  simp only at h9
  simp only [List.mem_cons, not_or] at hin hm
  rcases hin with hin | hin
  ·exact hm.1 hin
  ·rcases h.own _ hin with h5 | h5
   ·exact hm.2.2 h5
   ·omega
 toN := by
  rintro i R W P F' P' R' W' ⟨vs, ls, h⟩ hB ht hs hx hb
  obtain ⟨F1, h1⟩ := h.to e hB ht hs hx hb
  exact ⟨F1, vs, ls, h1⟩
 same := by
  rintro i R A A' P F' ⟨vs, ls, h⟩ hc
  exact ⟨vs, ls, h.same e hc⟩
end
attribute [local go_sem] Oper.semAt_some
theorem fnvmWrite1 : Fnv 186 := fnv_of Tryz.func186 (by simp [Tryz.f186]) (by simp [Tryz.f186])
def WA1 (w : World) (g m : Nat) (G : Gra) (F : List Nat) (width : Nat) (S : Mk × List (List Nat)) (v : Value) (w' : World) : Prop :=
 ∃ P vs ls F', Sim G P S.1 ∧ (S.1.2 = 0 → ls = S.2) ∧ MIn w' g m P F' ∧ Ch (m :: F) w w' ∧ (∀ k ∈ F', k ∈ F ∨ w.heap.size ≤ k) ∧ F'[2]? = F[2]? ∧ row w' 45 1 v ls.length vs ∧ (∀ k, v.ownBlock = some k → w.heap.size ≤ k ∧ k ∉ F') ∧
  ∀ (i : Nat) (u : Value), vs[i]? = some u → ∃ l, ls[i]? = some l ∧ l.length = width ∧ (∀ r ∈ l, r < 2 * P.1.nodes.length) ∧ row w' 52 1 u width (refsCells l) ∧ ∀ k, u.ownBlock = some k → w.heap.size ≤ k ∧ k ∉ F' ∧ v.ownBlock ≠ some k
structure CpI (w : World) (m mb ob width : Nat) (Ls : List WV) (wr : World) (v : Value) (k : Nat) (vs : List Value) : Prop where
 ch : Ch [] w wr
 bx : blk wr ob [v]
 mbx : blk wr mb [.pointer (some ⟨m, 0, none⟩)]
 arr : row wr 45 1 v k vs
 own : ∀ q, v.ownBlock = some q → w.heap.size ≤ q ∧ q ≠ ob ∧ q ≠ mb
 words : ∀ (i : Nat) (u : Value), vs[i]? = some u → ∃ x, Ls[i]? = some x ∧ row wr 52 1 u width (intCells x.l) ∧ ∀ q, u.ownBlock = some q → w.heap.size ≤ q ∧ q ≠ ob ∧ q ≠ mb ∧ v.ownBlock ≠ some q
theorem CpI.snoc {w : World} {m mb ob width : Nat} {Ls : List WV} {wr w1 w2 : World} {v : Value} {k : Nat} {vs : List Value} (h : CpI w m mb ob width Ls wr v k vs) (hob : w.heap.size ≤ ob) (hne : ob ≠ mb) {x : WV} (hx : Ls[k]? = some x) {u : Value} {v' : Value} (hr : Ch [] wr w1)
  (hu : row w1 52 1 u width (intCells x.l)) (hown : ∀ q, u.ownBlock = some q → wr.heap.size ≤ q) (h4 : row w2 45 1 v' (k + 1) (vs ++ [u])) (hC : Ch v.ownBlock.toList w1 w2) (hf : ∀ q, v'.ownBlock = some q → v.ownBlock = some q ∨ w1.heap.size ≤ q) :
  CpI w m mb ob width Ls (w2.setCell ⟨ob, 0, none⟩ v') v' (k + 1) (vs ++ [u]) := by
 have hcs : Ch [ob] w2 (w2.setCell ⟨ob, 0, none⟩ v') := (Ch.refl _ _).setCell (by simp) _
 have hobl := h.bx.lt
 have hmbl := h.mbx.lt
 have hz := h.ch.size
 have hz1 := hr.size
 have hvk : vs.length = k := by have := h.arr.1; omega
 have hcv : ∀ q ∈ v.ownBlock.toList, w.heap.size ≤ q ∧ q ≠ ob ∧ q ≠ mb := fun q hq => h.own q (by simpa using hq)
 have hown' : ∀ q, v'.ownBlock = some q → w.heap.size ≤ q ∧ q ≠ ob ∧ q ≠ mb := fun q hq => by
  rcases hf q hq with e | e
  ·exact h.own q e
  ·exact ⟨by omega, by omega, by omega⟩
 refine ⟨((h.ch.trans hr (by simp)).trans hC (fun q hq => .inr (hcv q hq).1)).trans hcs (by simp; omega), ?_, ?_, h4.ch hcs (fun q hq => by have := (hown' q hq).2.1; simp; omega), hown', fun i z hz' => ?_⟩
 ·have := ((h.bx.ch hr (by simp)).ch hC (fun hin => (hcv _ hin).2.1 rfl)).set (i := 0) v'
  exact this
 ·exact ((h.mbx.ch hr (by simp)).ch hC (fun hin => (hcv _ hin).2.2 rfl)).ch hcs (by simp; omega)
 ·by_cases hi : i < k
  ·rw [List.getElem?_append_left (by omega)] at hz'
   obtain ⟨y, k1, k2, k3⟩ := h.words i z hz'
   refine ⟨y, k1, ((k2.ch hr (by simp)).ch hC (fun q hq hin => (k3 q hq).2.2.2 (by simpa using hin))).ch hcs (fun q hq => by have := (k3 q hq).2.1; simp; omega), fun q hq => ?_⟩
   obtain ⟨f1, f2, f3, f4⟩ := k3 q hq
   refine ⟨f1, f2, f3, fun e => ?_⟩
   rcases hf q e with e2 | e2
   ·exact f4 e2
   ·have := (k2.lt q hq).2; omega
  ·have hik : i = k := by
    have := (List.getElem?_eq_some_iff.1 hz').1
    rw [List.length_append] at this
    simp at this; omega
   subst hik
   rw [List.getElem?_append_right (by omega), hvk, Nat.sub_self] at hz'
   cases hz'
   refine ⟨x, hx, (hu.ch hC (fun q hq hin => ?_)).ch hcs (fun q hq => ?_), fun q hq => ?_⟩
   ·have h1 := hown q hq
    have h2 := (h.arr.lt q (by simpa using hin)).2
    omega
   ·have h1 := hown q hq
    simp; omega
   ·have h1 := hown q hq
    refine ⟨by omega, by omega, by omega, fun e => ?_⟩
    rcases hf q e with e2 | e2
    ·have h2 := (h.arr.lt q e2).2; omega
    ·have := (hu.lt q hq).2; omega
attribute [local go_sem] Oper.semAt_some
section
variable {w : World} {g m : Nat} {G : Gra} {F : List Nat}
theorem mWrite1_is [Nonempty Unit] (h : MIn w g m (G, 0) F) {Ls : List WV} {lb nl lc n yc width fitv cr : Nat} {y : List Nat} {ya : Option Addr} {x : WV} (hL : WL w (m :: F) lb nl Ls) (hW : ∀ x ∈ Ls, WOf G width x.l) (hnl : 1 ≤ nl ∧ nl ≤ 256) (hw : width ≤ 16)
  (hx : WVin w (m :: F) x) (hxw : WOf G width x.l) (hcr : cr < 2 * G.nodes.length)
  (hy : WVin w (m :: F) ⟨ya, natInts y, yc⟩) (hyl : y.length = n) (h1 : 1 ≤ n) (h16 : n ≤ 16) (hyr : ∀ r ∈ y, r < 2 * G.nodes.length) (hfit : fitN nl n = fitv)
  {bl b2 bg bc bx : Nat} (hbl : w.cell? ⟨bl, 0, none⟩ = some (.slice (some ⟨lb, 0, none⟩) nl lc)) (hby : w.cell? ⟨b2, 0, none⟩ = some (.slice ya n yc)) (hbg : w.cell? ⟨bg, 0, none⟩ = some (.pointer (some ⟨g, 0, none⟩))) (hbc : w.cell? ⟨bc, 0, none⟩ = some (.int .i64 cr)) (hbx : w.cell? ⟨bx, 0, none⟩ = some (.slice x.a width x.c))
  (hblF : bl ∉ m :: F) (hbyF : b2 ∉ m :: F) (hbgF : bg ∉ m :: F) (hbcF : bc ∉ m :: F) (hbxF : bx ∉ m :: F) :
  Calls Tryz.prog 186 (#[.pointer (some ⟨m, 0, none⟩)] ++ #[.pointer (some ⟨bl, 0, none⟩), .pointer (some ⟨b2, 0, none⟩), .pointer (some ⟨bg, 0, none⟩), .pointer (some ⟨bc, 0, none⟩), .pointer (some ⟨bx, 0, none⟩)]) w fun e W' => ∃ v, e = .returned v ∧ WA1 w g m G F width (writeF G cr (nats x.l) (Ls.map fun x => nats x.l) y n fitv) v W' := by
 show Calls Tryz.prog 186 #[.pointer (some ⟨m, 0, none⟩), .pointer (some ⟨bl, 0, none⟩), .pointer (some ⟨b2, 0, none⟩), .pointer (some ⟨bg, 0, none⟩), .pointer (some ⟨bc, 0, none⟩), .pointer (some ⟨bx, 0, none⟩)] w _
 have hml := h.bk.lt
 have hFl := h.gin.lt
 have hok := h.gin.ok
 have hpos := hok.wf.pos
 have hfl : fitv ≤ nl := by rw [← hfit]; exact Nat.min_le_left _ _
 obtain ⟨LN, hLN⟩ : ∃ LN, LN = Ls.map fun x => nats x.l := ⟨_, rfl⟩
 rw [← hLN]
 have hLg : ∀ (i : Nat) (x : WV), Ls[i]? = some x → LN[i]? = some (nats x.l) := fun i x hx => by rw [hLN, List.getElem?_map, hx]; rfl
 have hLl : LN.length = nl := by rw [hLN, List.length_map]; exact hL.len
 have H := Hi9 h; clear h
 have HL := Hi9 hL; clear hL
 have HW := Hi9 hW; clear hW
 have HXW := Hi9 hxw; clear hxw
 have HXV := Hi9 hx; clear hx
 have HYW := Hi9 hy; clear hy
 have HLG := Hi9 hLg; clear hLg
 have HLL := Hi9 hLl; clear hLl
 have hbllt := cell_lt hbl
 have hbylt := cell_lt hby
 have hbglt := cell_lt hbg
 have hbclt := cell_lt hbc
 have hbxlt := cell_lt hbx
 simp only at hbllt hbylt hbglt hbclt hbxlt
 have HBL := Hi9 hbl
 have HBY := Hi9 hby
 have HBG := Hi9 hbg
 have HBC := Hi9 hbc
 have HBX := Hi9 hbx
 have HOK := Hi9 hok; clear hok
 obtain ⟨RQ, hRQ⟩ : ∃ RQ : Nat → Mk × List (List Nat), ∀ k, RQ k = writeF G cr (nats x.l) LN y n k := ⟨_, fun _ => rfl⟩
 have hR0 : RQ 0 = ((G, 0), LN) := by rw [hRQ]; rfl
 have hRS : ∀ k, RQ (k + 1) = writeS cr (nats x.l) LN y n (RQ k) k := fun k => by rw [hRQ, hRQ, writeF_succ]
 have hRB : ∀ k, (isR (RQ k).1 y n k).1.2 ≠ 0 → ∀ j, k < j → (RQ j).1 = (isR (RQ k).1 y n k).1 := fun k hk j hj => by
  rw [hRQ] at hk
  rw [hRQ, hRQ]; exact writeF_bad hk j hj
 rw [← hRQ]
 have HR0 := Hi9 hR0; clear hR0
 have HRS := Hi9 hRS; clear hRS
 have HRB := Hi9 hRB; clear hRB
 clear hLN hRQ
 refine (callsIn_wide (n := 4)).1 ?_
 refine callsIn_of_wp_marks Tryz.func186 rfl trivial ?_ rfl
 simp only [Tryz.ntmps186, List.size_toArray, List.length_cons, List.length_nil, Nat.reduceAdd, Nat.reduceSub, Array.replicate_succ, Array.replicate_zero, List.push_toArray, List.append_toArray, List.nil_append, List.cons_append]
 refine wpIn_wide.2 ?_
 go_upto_region 2 with fail
 refine wp_named fun W1 hW1 => ?_
 have hc1 : Ch [] w W1 := by rw [hW1]; exact ((Ch.refl _ _).alloc _).alloc _
 have hbm : blk W1 w.heap.size [.pointer (some ⟨m, 0, none⟩)] := by rw [hW1]; exact (blk.new' _ _ (by simp)).alloc _
 have hbo : blk W1 (w.heap.size + 1) [.slice none 0 0] := by rw [hW1]; exact blk.new' _ _ (by simp)
 clear hW1
 have c_l := (hc1.cell (cell_lt hbl) (by simp)).trans hbl
 have hcp : CpI w m w.heap.size (w.heap.size + 1) width Ls W1 (.slice none 0 0) 0 [] := ⟨hc1, hbo, hbm, ⟨rfl, .inl ⟨rfl, rfl⟩⟩, by simp [Value.ownBlock], by simp⟩
 generalize hob : w.heap.size + 1 = ob at *
 have hob1 : w.heap.size < ob := by omega
 clear hob hbo hbm hbl hby hbg hbc hbx
 have HC1 := Hi9 hc1; clear hc1
 have HCP := Hi9 hcp; clear hcp
 go_wp2_with fail
 clear c_l
 go_loopw [17] (fun i wr => ∃ (k : Nat) (v : Value) (vs : List Value), k ≤ nl ∧ i = .int .i64 k ∧ CpI w m w.heap.size ob width Ls wr v k vs) (fun i _ => nl - (intOf i).toNat)
 case atStart => exact ⟨0, _, [], Nat.zero_le _, rfl, HCP.out⟩
 case round =>
  clear HCP
  obtain ⟨k, v, vs, hk, rfl, hcp⟩ := hrel
  obtain ⟨oa, oc, rfl⟩ := row.shape hcp.arr
  by_cases hlt : k < nl
  ·obtain ⟨z, hz⟩ : ∃ z, Ls[k]? = some z := ⟨_, List.getElem?_eq_getElem (by rw [HL.out.len]; exact hlt)⟩
   have hzm := List.mem_of_getElem? hz
   have hzw := HW.out z hzm
   have c_z := (hcp.ch.cell (cell_lt (HL.out.cells k z hz)) (by simp)).trans (HL.out.cells k z hz)
   have hcl := fun (W : World) (hW : Ch [] wr W) => Clref_w ((HL.out.words z hzm).ok.ch (hcp.ch.trans hW (by simp)) (by simp)) width hzw.len
   have hil : (intCells z.l).length = width := by rw [show (intCells z.l).length = z.l.length by simp [intCells]]; exact hzw.len
   unfold WV.val at c_z
   rw [hzw.len] at c_z
   have hbo := hcp.bx
   have hobl := hbo.lt
   have HCL := Hi9 hcl; clear hcl
   have HCP := Hi9 hcp; clear hcp
   have HZ := Hi9 hz; clear hz
   clear hzm hzw
   obtain ⟨za, zl, zc⟩ := z
   simp only at c_z hil HZ HCL
   have HIL := Hi9 hil; clear hil
   go_wp2_with fail
   refine Ord.St.door (fun w' => w'.cell? ⟨ob, 0, none⟩ = some (.slice oa k oc)) [.ho, .fl, .ef, .ef, .ef, .ef] [0, 0, 2, 6, 15, 31] [0, 1, 2, 3, 4, 5] mixed (by kernel_rfl) rfl ?_
   obtain ⟨Wc, hWc⟩ : ∃ Wc, Wc = wr.drew := ⟨_, rfl⟩
   rw [← hWc]
   have hcur : Ch [] wr Wc := by rw [hWc]; exact (Ch.refl _ _).drew
   clear hWc
   replace hbo := hbo.ch hcur (by simp)
   have HCC := Hi9 (HCL.out Wc hcur)
   have HCUR := Hi9 hcur; clear hcur HCL
   refine Ord.H9 ?_ 0 [1, 2, 3, 4, 5] ?_ (fun K w' hw' hk => ?_) ?_
   rotate_left
   ·exact hbo.cell rfl
   ·have q1 := hw'; go_step; exact hk
   (refine Ord.F9 ?_ (fun K w' hk => ?_) ?_; rotate_left; focus (go_step; exact hk))
   refine Ord.St.efC 2 [3, 4, 5] _ rfl (by kernel_rfl) (fun K hK => ?_)
   go_wp2_with fail
   refine HCC.out.mono ?_
   rintro e w1 ⟨u, rfl, hru, hou, hcu⟩
   rw [HIL.out] at hru
   obtain ⟨ua, uc, rfl⟩ := row.shape hru
   replace hbo := hbo.ch hcu (by simp)
   have hnb : blk (w1.alloc (.cells #[.slice ua width uc] 45)) w1.heap.size [.slice ua width uc] := blk.new' _ _ rfl
   have hcA : Ch [] wr (w1.alloc (.cells #[.slice ua width uc] 45)) := (HCUR.out.trans hcu (by simp)).alloc _
   have harrA := HCP.out.arr.ch hcA (by simp)
   have hruA := hru.ch ((Ch.refl [] w1).alloc (.cells #[.slice ua width uc] 45)) (by simp)
   have HNB := Hi9 hnb; clear hnb
   have HARR := Hi9 harrA; clear harrA
   have HRUA := Hi9 hruA; clear hruA hru
   have HCA := Hi9 hcA; clear hcA
   have HOU := Hi9 hou; clear hou
   have HCU := Hi9 hcu; clear hcu HCC
   go_wp2_with fail
   refine ⟨rfl, hK _ _ ?_ ?_⟩
   ·exact hbo.cell rfl
   clear hK K
   refine Ord.St.efC 3 [4, 5] _ rfl (by kernel_rfl) (fun K hK => ?_)
   go_wp2_with fail
   replace hbo := hbo.alloc (.cells #[.slice ua width uc] 45)
   refine ⟨rfl, hK _ _ ?_ ?_⟩
   ·exact hbo.cell rfl
   clear hK K
   refine Ord.St.ef 4 [5] _ rfl (by kernel_rfl) (fun K hK => ?_)
   go_wp2_with (at_builtin; go_loud (refine wpList_append_row slRows rfl _ _ rfl (v := .slice oa k oc) (n := k) (xs := vs) rfl HARR.out (ad := ⟨w1.heap.size, 0, none⟩) (m := 1) (c := 1) (news := [.slice ua width uc]) rfl rfl (news_blk HNB.out) (by simp [Value.oneCell']) (by omega) (by omega) ?_; intro v' w4 hown4 hC4 hf4; obtain ⟨gb, gc, rfl⟩ := row.parts hown4 (by omega); have HO4 := Hi9 hown4; clear hown4; have HC4 := Hi9 hC4; clear hC4; have HF4 := Hi9 hf4; clear hf4))
   replace hbo := hbo.ch HC4.out (fun hk => (HCP.out.own _ (by simpa using hk)).2.1 rfl)
   have k1 := hbo.cell (i := 0) rfl
   have k2 := hbo.frozen (i := 0)
   refine ⟨rfl, hK _ _ ?_⟩; clear hK K
   refine Ord.St.ef 5 [] _ rfl (by kernel_rfl) (fun K hK => ?_)
   go_wp2_with fail
   refine ⟨rfl, hK _ _ ?_⟩; clear hK K
   refine Ord.St.nil ?_
   go_wp2_with fail
   go_roundw
   case rel =>
    have hsn := HCP.out.snoc (by omega) (by omega) HZ.out HCA.out HRUA.out (fun q hq => Nat.le_trans HCUR.out.size (HOU.out q (by simpa using hq))) HO4.out HC4.out HF4.out
    exact ⟨k + 1, _, _, by omega, by go_num, hsn⟩
   case measure => simp [intOf]; omega
  ·have hkn : k = nl := by omega
   obtain ⟨ab, acap, e⟩ := hcp.arr.parts (by omega)
   cases e
   rw [hkn] at hcp ⊢
   clear hkn hk
   have c_l := (hcp.ch.cell (cell_lt HBL.out) (by simp)).trans HBL.out
   have c_y := (hcp.ch.cell (cell_lt HBY.out) (by simp)).trans HBY.out
   have c_m := hcp.mbx.cell (i := 0) rfl
   have HCP := Hi9 hcp; clear hcp
   go_wp2_with fail
   refine (mfitting_is (m := m) nl ya n yc).mono ?_
   rintro e W0 ⟨rfl, hW0⟩
   have hc0 : Ch [] wr W0 := by rw [hW0]; exact (((Ch.refl _ _).alloc _).alloc _).alloc _
   have hbm0 : blk W0 wr.heap.size [.pointer (some ⟨m, 0, none⟩)] := by rw [hW0]; exact ((blk.new' _ _ (by simp)).alloc _).alloc _
   have hbn0 : blk W0 (wr.heap.size + 1) [.int .i64 nl] := by rw [hW0]; exact (blk.new' _ _ (by simp)).alloc _
   have hby0 : blk W0 (wr.heap.size + 2) [.slice ya n yc] := by rw [hW0]; exact blk.new' _ _ (by simp)
   clear hW0 c_l c_y c_m
   go_wp2_with fail
   have hcw : Ch [] w W0 := HCP.out.ch.trans hc0 (by simp)
   have habo := HCP.out.own ab rfl
   have habl := (HCP.out.arr.lt ab rfl).2
   have hobl := HCP.out.bx.lt
   have hz0 := hc0.size
   have hbml := HCP.out.mbx.lt
   have key : ∀ k, k < w.heap.size → k ∉ m :: F → k ∉ m :: ab :: F := fun k hk hn => by
    simp only [List.mem_cons, not_or] at hn ⊢
    exact ⟨hn.1, by omega, hn.2⟩
   have hFR : FR W0 m F ab := ⟨fun k hk => by
    have hz := hcw.size
    simp only [List.mem_cons] at hk
    rcases hk with rfl | hk
    ·omega
    ·have := hFl k hk; omega, by omega, by omega, fun hin => by have := hFl _ hin; omega⟩
   have hL0 : WL W0 (m :: ab :: F) lb nl Ls := by
    have h0 := HL.out.ch hcw
    exact ⟨h0.len, h0.cells, fun x hx => ⟨(h0.words x hx).ok, fun k hk => ⟨key k ((HL.out.words x hx).apart k hk).2 ((h0.words x hx).apart k hk).1, ((h0.words x hx).apart k hk).2⟩⟩, key _ HL.out.apart.2 h0.apart.1, h0.apart.2⟩
   have hvin : ∀ {z : WV}, WVin w (m :: F) z → WVin W0 (m :: ab :: F) z := fun hz => ⟨(hz.ch hcw).ok, fun k hk => ⟨key k (hz.apart k hk).2 (hz.apart k hk).1, ((hz.ch hcw).apart k hk).2⟩⟩
   have hY0 := hvin HYW.out
   have hX0 := hvin HXV.out
   have hbl0 := (hcw.cell (cell_lt HBL.out) (by simp)).trans HBL.out
   have hbg0 := (hcw.cell (cell_lt HBG.out) (by simp)).trans HBG.out
   have hbc0 := (hcw.cell (cell_lt HBC.out) (by simp)).trans HBC.out
   have hbx0 := (hcw.cell (cell_lt HBX.out) (by simp)).trans HBX.out
   have hnin : ∀ b, w.heap.size ≤ b → b ≠ ab → b ∉ m :: ab :: F := fun b hb hne => by
    simp only [List.mem_cons, not_or]
    exact ⟨by omega, hne, fun hin => by have := hFl _ hin; omega⟩
   have hbo0 := (HCP.out.bx.ch hc0 (by simp)).cell (i := 0) rfl
   have hmb0 := (HCP.out.mbx.ch hc0 (by simp)).cell (i := 0) rfl
   have hRI0 : WT W0 w.heap.size g m G F ab nl oc width (fun i => (RQ i).2) 0 (RQ 0).1 W0 (G, 0) F := by
    rw [HR0.out]
    refine ⟨vs, LN, Sim.start HOK.out, fun _ => by show _ = (RQ 0).2; rw [HR0.out], H.out.same hcw (by simp), Ch.refl _ _, fun k hk => .inl hk, rfl, HCP.out.arr.ch hc0 (by simp), HLL.out, fun i u hu => ?_⟩
    obtain ⟨z, k1, k2, k3⟩ := HCP.out.words i u hu
    have hzw := HW.out z (List.mem_of_getElem? k1)
    refine ⟨nats z.l, HLG.out i z k1, by rw [nats_len]; exact hzw.len, hzw.lt, by rw [refs_natInts, hzw.cast]; exact k2.ch hc0 (by simp), fun k hk => ?_⟩
    obtain ⟨f1, f2, f3, f4⟩ := k3 k hk
    have f5 := (k2.lt k hk).2
    refine ⟨f1, ?_, by omega, by omega⟩
    simp only [List.mem_cons, not_or]
    exact ⟨by omega, fun e => f4 (by rw [e]; rfl), fun hin => by have := hFl _ hin; omega⟩
   have hFT := WT.ft (lo := w.heap.size) (g := g) (G := G) (nl := nl) (cap := oc) (width := width) (O := fun i => (RQ i).2) hFR hY0 (hbn0.cell (i := 0) rfl) (hby0.cell (i := 0) rfl) (hbm0.cell (i := 0) rfl) (hnin _ (by omega) (by omega)) (hnin _ (by omega) (by omega)) (hnin _ (by omega) (by omega))
   have HFR := Hi9 hFR; clear hFR
   have HFT := Hi9 hFT; clear hFT
   have HL0 := Hi9 hL0; clear hL0
   have HX0 := Hi9 hX0; clear hX0
   have HRI0 := Hi9 hRI0; clear hRI0
   have HCW := Hi9 hcw; clear hcw
   have HBL0 := Hi9 hbl0; clear hbl0
   have HBG0 := Hi9 hbg0; clear hbg0
   have HBC0 := Hi9 hbc0; clear hbc0
   have HBX0 := Hi9 hbx0; clear hbx0
   have HBO0 := Hi9 hbo0; clear hbo0
   have HMB0 := Hi9 hmb0; clear hmb0
   have hblN := key bl hbllt hblF
   have hbgN := key bg hbglt hbgF
   have hbcN := key bc hbclt hbcF
   have hbxN := key bx hbxlt hbxF
   have hobN := hnin ob (by omega) (fun e => habo.2.1 e.symm)
   have hmbN := hnin w.heap.size (Nat.le_refl _) (fun e => habo.2.2 e.symm)
   have HBLN := Hi9 hblN; clear hblN hblF
   have HBGN := Hi9 hbgN; clear hbgN hbgF
   have HBCN := Hi9 hbcN; clear hbcN hbcF
   have HBXN := Hi9 hbxN; clear hbxN hbxF
   have HOBN := Hi9 hobN; clear hobN
   have HMBN := Hi9 hmbN; clear hmbN
   clear hbm0 hbn0 hby0 hY0 key hvin hnin hbyF hc0
   refine (wpIn_wide (n := 4)).1 ?_
   refine wpIn_rangeFunc_Q (n := 4) W0.heap.size rfl rfl (by omega) rfl trivial (fun args w => fnvmfitting1 args w) (encs := fitEnc) (fun _ => rfl)
    (FInv (WT W0 w.heap.size g m G F ab nl oc width (fun i => (RQ i).2)) (fun i => (RQ i).1) 0)
    (FKx (WT W0 w.heap.size g m G F ab nl oc width (fun i => (RQ i).2)) (fun i => isR (RQ i).1 y n i) fitv)
    (fun x => FInv (WT W0 w.heap.size g m G F ab nl oc width (fun i => (RQ i).2)) (fun i => (RQ i).1) (x.1 + 1))
    (FInv (WT W0 w.heap.size g m G F ab nl oc width (fun i => (RQ i).2)) (fun i => (RQ i).1) fitv)
    ?seq ?j0 ?k ?j ?d ⟨_, _, HRI0.out⟩ ?a1 ?assign ?body ?done
   case assign =>
    intro q x W K hK
    simp only [fitEnc]
    gi_wp2
    exact hK
   case j0 =>
    rintro A A' ⟨P, F', h⟩ hc
    exact ⟨P, F', HFT.out.same h hc⟩
   case k =>
    rintro x A A' ⟨hx, P, F', hp, h, h2⟩ hc
    exact ⟨hx, P, F', hp, HFT.out.same h hc, h2⟩
   case j =>
    rintro x A A' ⟨P, F', h⟩ hc
    exact ⟨P, F', HFT.out.same h hc⟩
   case d =>
    rintro A A' ⟨P, F', h⟩ hc
    exact ⟨P, F', HFT.out.same h hc⟩
   case seq =>
    intro lp X hX hXB hY W hI hXW
    refine fit_seq (T := WT W0 w.heap.size g m G F ab nl oc width (fun i => (RQ i).2)) (RF := fun i => (RQ i).1) (IS := fun i => isR (RQ i).1 y n i) 3 (by omega) HFT.out hyl h1 h16 (by omega) hyr hfit (fun _ => rfl) ?_ lp X hX hXB hY W hI hXW
    rintro i hi hb W P F' ⟨vs, ls, h⟩
    have e := HRB.out i hb fitv hi
    refine ⟨vs, ls, ?_⟩
    rw [e]
    exact ⟨h.sim, fun h9 => absurd h9 hb, h.mem, h.ch, h.own, h.map, h.arr, h.len, h.words⟩
   case body =>
    rintro q ⟨i, r⟩ W ⟨hxf, P, F', hP, ⟨vs2, ls, hE⟩, hr, hrl⟩ hWl
    simp only at hxf hE hr hrl
    obtain ⟨z, hz⟩ : ∃ z, Ls[i]? = some z := ⟨_, List.getElem?_eq_getElem (by rw [HL0.out.len]; omega)⟩
    have hmem := List.mem_of_getElem? hz
    have hzo := HW.out z hmem
    have hlg := HLG.out i z hz
    have hzc0 := HL0.out.cells i z hz
    have hzv := HL0.out.words z hmem
    have hcrl : cr < 2 * P.1.nodes.length := hE.sim.ext.lt hcr
    have hst := hE.sim.step (and_full hE.mem.gin.ok hcrl hrl) (Y := and (isR (RQ i).1 y n i).1.1 cr r) (fun _ e => by rw [e])
    have hAND := And_g hE.mem.gin cr r (by have := hE.mem.gin.ok.small; omega) (by have := hE.mem.gin.ok.small; omega)
    rw [doAnd_r hcrl hrl] at hAND
    obtain ⟨X, hX⟩ : ∃ X, and P.1 cr r = X := ⟨_, rfl⟩
    rw [hX] at hst hAND
    have hSQ : RQ (i + 1) = ((chF (rstep (isR (RQ i).1 y n i).1 (and (isR (RQ i).1 y n i).1.1 cr r)).2 (rstep (isR (RQ i).1 y n i).1 (and (isR (RQ i).1 y n i).1.1 cr r)).1 ((nats x.l).zip (nats z.l))).1, (RQ i).2.set i (chF (rstep (isR (RQ i).1 y n i).1 (and (isR (RQ i).1 y n i).1.1 cr r)).2 (rstep (isR (RQ i).1 y n i).1 (and (isR (RQ i).1 y n i).1.1 cr r)).1 ((nats x.l).zip (nats z.l))).2) := by
     rw [HRS.out]
     unfold writeS
     rw [← hr, show LN.getD i [] = nats z.l by rw [List.getD_eq_getElem?_getD, hlg]; rfl]
    obtain ⟨R2, hR2⟩ : ∃ R2, rstep (isR (RQ i).1 y n i).1 (and (isR (RQ i).1 y n i).1.1 cr r) = R2 := ⟨_, rfl⟩
    rw [hR2] at hst hSQ
    have hil : i < nl := by omega
    have hkeep : ∀ {b j : Nat} {v : Value}, W0.cell? ⟨b, j, none⟩ = some v → b ∉ m :: ab :: F → ∀ W', Ch (m :: F') W W' → W'.cell? ⟨b, j, none⟩ = some v := fun {b j v} hv hb W' hW' => by
     have h8 := hE.cell hv hb
     refine (hW'.cell (cell_lt h8) ?_).trans h8
     simp only [List.mem_cons, not_or] at hb ⊢
     refine ⟨hb.1, fun hin => (hE.own _ hin).elim hb.2.2 (fun e => ?_)⟩
     have := cell_lt hv
     simp only at this
     omega
    have hb0 := hE.mem.bk
    have hchoose : ∀ (W6 : World) (P6 : Mk) (F6 : List Nat), WI W0 w.heap.size g m G F ab nl oc width R2.1 (RQ i).2 W6 vs2 P6 ls F6 → P6 = (mput P X).1 → Calls Tryz.prog 179 #[.pointer (some ⟨m, 0, none⟩), .int .i64 X.2.1, .slice x.a width x.c, .slice z.a width z.c] W6 fun e w' => ∃ v, e = .returned v ∧ CH W6 g m G P6 F6 (chF R2.2 R2.1 ((nats x.l).zip (nats z.l))) width v w' := fun W6 P6 F6 hE6 hP6 => by
     obtain ⟨a1, a2⟩ := hE6.word HX0.out
     obtain ⟨b1, b2⟩ := hE6.word hzv
     have hcl : X.2.1 < 2 * P6.1.nodes.length := by rw [hP6]; exact hst.2.1
     refine (mchoose_is hE6.mem hE6.sim hcl (x := nats x.l) (y := nats z.l) width x.c z.c (by rw [nats_len]; exact HXW.out.len) (by rw [nats_len]; exact hzo.len) (by omega) (by rw [show ((nats x.l).map fun (r : Nat) => (r : Int)) = x.l from HXW.out.cast]; exact a1.ok.sl) (by rw [show ((nats z.l).map fun (r : Nat) => (r : Int)) = z.l from hzo.cast]; exact b1.ok.sl) a2 b2 (fun q hq => hE6.sim.ext.lt (HXW.out.lt q hq)) (fun q hq => hE6.sim.ext.lt (hzo.lt q hq))).mono ?_
     rintro e w' ⟨v, rfl, hch⟩
     refine ⟨v, rfl, hch.cong ?_ ?_⟩
     ·by_cases h0 : R2.1.2 = 0
      ·rw [show X.2.1 = R2.2 from hst.2.2.2.1 h0]
      ·rw [chF_bad0 h0, chF_bad0 h0]
     ·intro h9
      by_cases h0 : R2.1.2 = 0
      ·rw [show X.2.1 = R2.2 from hst.2.2.2.1 h0]
      ·rw [chF_bad0 h0] at h9; exact absurd h9 h0
    have hSR : (chF R2.2 R2.1 ((nats x.l).zip (nats z.l))).1.2 = 0 → R2.1.2 = 0 := fun h9 => by
     by_cases h0 : R2.1.2 = 0
     ·exact h0
     ·rw [chF_bad0 h0] at h9; exact absurd h9 h0
    obtain ⟨S, hS⟩ : ∃ S, chF R2.2 R2.1 ((nats x.l).zip (nats z.l)) = S := ⟨_, rfl⟩
    rw [hS] at hSQ hSR
    simp only [hS] at hchoose
    have c_g := hE.cell HBG0.out HBGN.out
    have c_c := hE.cell HBC0.out HBCN.out
    unfold WV.val at hzc0
    rw [hzo.len] at hzc0
    have hlbN := HL0.out.apart.1
    have hvl : vs2.length = nl := by have := hE.arr.1; omega
    have HE := Hi9 hE; clear hE
    have HST := Hi9 hst; clear hst
    have HAND := Hi9 hAND; clear hAND
    have HSQ := Hi9 hSQ; clear hSQ
    have HKEEP := Hi9 (fun b j v => @hkeep b j v); clear hkeep
    have HCHO := Hi9 hchoose; clear hchoose
    have HSR := Hi9 hSR; clear hSR
    have HZC := Hi9 hzc0; clear hzc0
    have HLBN := Hi9 hlbN; clear hlbN
    have HB0 := Hi9 hb0; clear hb0
    clear hz hmem hzo hlg hzv hX hR2 hS hr hP hcrl hrl
    obtain ⟨za, zl, zc⟩ := z
    obtain ⟨xa, xl, xc⟩ := x
    simp only at HZC HCHO
    gi_wp2
    refine ⟨trivial, (CallsIn.inRound q ((callsIn_wide (n := _)).2 HAND.out)).mono ?_⟩
    rintro e w1 ⟨rfl, hto⟩
    have hc1 := hto.choose_spec.2.1
    have hc1m : Ch (m :: F') W w1 := hc1.mono (fun k hk => .inl (by simp [hk]))
    have HTO := Hi9 hto; clear hto
    have hb1 := HB0.out.ch hc1 HE.out.mem.apart
    have HC1M := Hi9 hc1m; clear hc1m hc1 HAND c_g c_c
    have HB1 := Hi9 hb1; clear hb1
    gi_wp2
    refine Ord.St.doorR (fun w' => w'.cell? ⟨ob, 0, none⟩ = some (.slice (some ⟨ab, 0, none⟩) nl oc) ∧ w'.cell? ⟨w.heap.size, 0, none⟩ = some (.pointer (some ⟨m, 0, none⟩)) ∧ w'.cell? ⟨bx, 0, none⟩ = some (.slice xa width xc) ∧ w'.cell? ⟨bl, 0, none⟩ = some (.slice (some ⟨lb, 0, none⟩) nl lc) ∧ w'.cell? ⟨lb, i, none⟩ = some (.slice za width zc)) [.ho, .fl, .ho, .rd, .fl, .fl, .ef, .ho, .ho, .fl, .fl, .ho, .ef, .fl, .ef] [0, 0, 0, 0, 0, 0, 56, 0, 0, 0, 768, 1792, 4092, 8191, 16383] [0, 1, 2, 3, 4, 5, 6, 7, 8, 9, 10, 11, 12, 13, 14] mixed (by kernel_rfl) (by kernel_rfl) rfl ?_
    obtain ⟨Wc, hWc⟩ : ∃ Wc, Wc = w1.drew := ⟨_, rfl⟩
    rw [← hWc]
    have hcur : Ch [] w1 Wc := by rw [hWc]; exact (Ch.refl _ _).drew
    clear hWc
    have hcc : Ch (m :: F') W Wc := HC1M.out.trans hcur (by simp)
    have c_h := HKEEP.out _ _ _ HBO0.out HOBN.out Wc hcc
    have c_m := HKEEP.out _ _ _ HMB0.out HMBN.out Wc hcc
    have c_x := HKEEP.out _ _ _ HBX0.out HBXN.out Wc hcc
    have c_l := HKEEP.out _ _ _ HBL0.out HBLN.out Wc hcc
    have c_z := HKEEP.out _ _ _ HZC.out HLBN.out Wc hcc
    have HNT := Hi9 (mnote_is (HB1.out.ch hcur (by simp)) X.2.1 X.2.2)
    have HCUR := Hi9 hcur; clear hcur hcc HB1
    refine Ord.H9 ?_ 0 [1, 2, 3, 4, 5, 6, 7, 8, 9, 10, 11, 12, 13, 14] ?_ (fun K w' hw' hk => ?_) ?_
    rotate_left
    ·exact ⟨c_h, c_m, c_x, c_l, c_z⟩
    ·obtain ⟨q1, q2, q3, q4, q5⟩ := hw'; go_step; exact hk
    (refine Ord.F9 ?_ (fun K w' hk => ?_) ?_; rotate_left; focus (go_step; exact hk))
    refine Ord.H9 ?_ 2 [3, 4, 5, 6, 7, 8, 9, 10, 11, 12, 13, 14] ?_ (fun K w' hw' hk => ?_) ?_
    rotate_left
    ·exact ⟨c_h, c_m, c_x, c_l, c_z⟩
    ·obtain ⟨q1, q2, q3, q4, q5⟩ := hw'; go_step; exact hk
    (refine Ord.Q9 ?_ (fun K hk => ?_) ?_; rotate_left; focus (go_step; exact hk))
    iterate 2 (refine Ord.F9 ?_ (fun K w' hk => ?_) ?_; rotate_left; focus (go_step; exact hk))
    refine Ord.H9 ?_ 7 [6, 8, 9, 10, 11, 12, 13, 14] ?_ (fun K w' hw' hk => ?_) ?_
    rotate_left
    ·exact ⟨c_h, c_m, c_x, c_l, c_z⟩
    ·obtain ⟨q1, q2, q3, q4, q5⟩ := hw'; go_step; exact hk
    refine Ord.H9 ?_ 8 [6, 9, 10, 11, 12, 13, 14] ?_ (fun K w' hw' hk => ?_) ?_
    rotate_left
    ·exact ⟨c_h, c_m, c_x, c_l, c_z⟩
    ·obtain ⟨q1, q2, q3, q4, q5⟩ := hw'; go_step; exact hk
    refine Ord.G9 ?_ 9 [6, 10, 11, 12, 13, 14] (fun K w' hk => ?_) ?_
    rotate_left
    ·go_step; exact hk
    refine Ord.G9 ?_ 10 [6, 11, 12, 13, 14] (fun K w' hk => ?_) ?_
    rotate_left
    ·go_step; exact hk
    refine Ord.H9 ?_ 11 [6, 12, 13, 14] ?_ (fun K w' hw' hk => ?_) ?_
    rotate_left
    ·exact ⟨c_h, c_m, c_x, c_l, c_z⟩
    ·obtain ⟨q1, q2, q3, q4, q5⟩ := hw'; go_step; exact hk
    refine Ord.St.efC 6 [12, 13, 14] _ rfl (by kernel_rfl) (fun K hK => ?_)
    go_wp2_with fail
    refine HNT.out.mono ?_
    rintro e w6 ⟨rfl, hb6, hc6⟩
    have hmt := MTo.of (P' := (mput P X).1) HE.out.mem HTO.out (fun _ => hb6) ((HCUR.out.mono (by simp)).trans hc6 (fun k hk => .inl hk))
    have hch6 : Ch (m :: F') W w6 := hmt.choose_spec.2.1
    obtain ⟨F6, hE6⟩ := HE.out.to HFR.out hWl hmt HST.out.1 HST.out.2.2.2.2.1 HST.out.2.2.2.2.2.2
    clear c_h c_m c_x c_l c_z hb6 hc6 hmt
    have c_h := HKEEP.out _ _ _ HBO0.out HOBN.out w6 hch6
    have c_m := HKEEP.out _ _ _ HMB0.out HMBN.out w6 hch6
    have c_x := HKEEP.out _ _ _ HBX0.out HBXN.out w6 hch6
    have c_l := HKEEP.out _ _ _ HBL0.out HBLN.out w6 hch6
    have c_z := HKEEP.out _ _ _ HZC.out HLBN.out w6 hch6
    have HCC := Hi9 (HCHO.out w6 _ F6 hE6 rfl)
    have HBK6 := Hi9 (Books.of_ch (B := W0.heap.size) hch6 hWl (fun k hk => HE.out.noB HFR.out k hk))
    have hW6 : W0.heap.size + 2 ≤ w6.heap.size := Nat.le_trans hWl hch6.size
    have HE6 := Hi9 hE6; clear hE6 HCHO HNT
    have HCH6 := Hi9 hch6; clear hch6
    go_wp2_with fail
    refine ⟨rfl, hK _ _ ?_ ?_⟩
    ·exact ⟨c_h, c_m, c_x, c_l, c_z⟩
    clear hK K
    refine Ord.St.efC 12 [13, 14] _ rfl (by kernel_rfl) (fun K hK => ?_)
    go_wp2_with fail
    refine HCC.out.mono ?_
    rintro e w7 ⟨v, rfl, hch⟩
    obtain ⟨va1, vc1, rfl⟩ := hch.shape
    have hp := HE6.out.put HFR.out hW6 (by omega) hch hil HSR.out
    have harr7 := HE6.out.arr.ch hch.choose_spec.choose_spec.2.2.2.2.2.choose_spec.2.1 (fun k hk => by cases hk; have h9 := HE6.out.abF HFR.out; simpa using h9)
    have HPUT := Hi9 hp; clear hp
    have hc7 := hch.choose_spec.choose_spec.2.2.2.2.2.choose_spec.2.1
    have hk7 : ∀ {b j : Nat} {v : Value}, W0.cell? ⟨b, j, none⟩ = some v → b ∉ m :: ab :: F → w7.cell? ⟨b, j, none⟩ = some v := fun {b j v} hv hb => by
     have h8 := HE6.out.cell hv hb
     refine (hc7.cell (cell_lt h8) ?_).trans h8
     simp only [List.nil_append, List.mem_cons, not_or] at hb ⊢
     refine ⟨hb.1, fun hin => (HE6.out.own _ hin).elim hb.2.2 (fun e => ?_)⟩
     have := cell_lt hv
     simp only at this
     omega
    clear c_h c_m c_x c_l c_z hch HCC hc7
    have c_h := hk7 HBO0.out HOBN.out
    have c_m := hk7 HMB0.out HMBN.out
    have c_x := hk7 HBX0.out HBXN.out
    have c_l := hk7 HBL0.out HBLN.out
    have c_z := hk7 HZC.out HLBN.out
    clear hk7
    obtain ⟨ov, hov⟩ : ∃ ov, vs2[i]? = some ov := ⟨_, List.getElem?_eq_getElem (by omega)⟩
    have k1 := row_at2 harr7 hov
    have k2 := row_fz harr7 (by omega) i
    clear harr7 hov
    go_wp2_with fail
    refine ⟨rfl, hK _ _ ?_ ?_⟩
    ·exact ⟨c_h, c_m, c_x, c_l, c_z⟩
    clear hK K
    (refine Ord.F9 ?_ (fun K w' hk => ?_) ?_; rotate_left; focus (go_step; exact hk))
    refine Ord.St.ef 14 [] _ rfl (by kernel_rfl) (fun K hK => ?_)
    go_wp2_with fail
    refine ⟨rfl, hK _ _ ?_⟩; clear hK K
    refine Ord.St.nil ?_
    gi_wp2
    obtain ⟨P1, ls1, F1, hr1, hb1⟩ := HPUT.out
    refine ⟨HBK6.out.trans hb1, P1, F1, vs2.set i (.slice va1 width vc1), ls1, ?_⟩
    show WI W0 w.heap.size g m G F ab nl oc width (RQ (i + 1)).1 (RQ (i + 1)).2 _ _ _ _ _
    rw [HSQ.out]
    exact hr1
   case done =>
    rintro W ⟨P, F', vs2, ls, hE⟩ hK _
    have c_o := hE.cell HBO0.out HOBN.out
    have HE := Hi9 hE; clear hE
    have HK := Hi9 hK; clear hK
    go_wp2
    refine ⟨by simp, .inl ⟨_, _, rfl, run_takeDeferred HK.out, ?_⟩⟩
    have hE2 := HE.out.same HFR.out (A' := W.putObj W0.heap.size (.deferred none)) (ch_put (by simp))
    have hz9 := HCW.out.size
    refine ⟨_, results_tmp rfl _ _ _, _, rfl, P, vs2, ls, F', hE2.sim, hE2.out, hE2.mem, (HCW.out.mono (by simp)).trans hE2.ch (fun k hk => ?_), fun k hk => (hE2.own k hk).imp id (fun e => by omega), hE2.map, by rw [hE2.len]; exact hE2.arr, fun k hk => ?_, fun i u hu => ?_⟩
    ·simp only [List.mem_cons] at hk ⊢
     rcases hk with hk | hk | hk
     ·exact .inl (.inl hk)
     ·exact .inr (by omega)
     ·exact .inl (.inr hk)
    ·cases hk
     refine ⟨habo.1, fun hin => (hE2.abF HFR.out) (by simp only [List.mem_cons]; exact .inr hin)⟩
    ·obtain ⟨l, k1, k2, k3, k4, k5⟩ := hE2.words i u hu
     refine ⟨l, k1, k2, k3, k4, fun k hk => ?_⟩
     obtain ⟨f1, f2, _⟩ := k5 k hk
     simp only [List.mem_cons, not_or] at f2
     exact ⟨f1, f2.2.2, fun e => f2.2.1 (by cases e; rfl)⟩
end
end Go.Proofs.YtehljgigebhddaaGreat
namespace Go.Aig
def lres (G : Gra) (S : Mk × List (List Nat)) : Gra × List (List Nat) × Nat := if S.1.2 ≠ 0 then (G, [], S.1.2) else (S.1.1, S.2, 0)
theorem lres_e (G : Gra) (S : Mk × List (List Nat)) : (lres G S).2.2 = S.1.2 := by
 unfold lres
 by_cases h0 : S.1.2 = 0
 ·rw [if_neg (by simp [h0])]; exact h0.symm
 ·rw [if_pos h0]
def writeG (G : Gra) (L : List (List Int)) (c : Int) (y x : List Int) : Gra × List (List Nat) × Nat :=
 if array26 L.length = false then (G, [], 261) else if right26 y.length = false then (G, [], 260) else if chk26 G y [c] (L ++ [x]) ≠ 0 then (G, [], chk26 G y [c] (L ++ [x]))
 else lres G (writeF G c.toNat (nats x) (L.map nats) (nats y) y.length (fitN L.length y.length))
end Go.Aig
namespace Go.Proofs.YtehljgigebhddaaGreat
open Go.RowKit Go.Mem Go.Aig
def PostL (w : World) (G : Gra) (ls : List (List Nat)) (v : Value) (F' : List Nat) (w' : World) : Prop :=
 ∃ vs, row w' 45 1 v ls.length vs ∧ (∀ k, v.ownBlock = some k → w.heap.size ≤ k ∧ k ∉ F') ∧
  ∀ (i : Nat) (u : Value), vs[i]? = some u → ∃ l, ls[i]? = some l ∧ (∀ r ∈ l, r < 2 * G.nodes.length) ∧ row w' 52 1 u l.length (refsCells l) ∧ ∀ k, u.ownBlock = some k → w.heap.size ≤ k ∧ k ∉ F' ∧ v.ownBlock ≠ some k
def GLo (w : World) (g : Nat) (G : Gra) (F : List Nat) (v : Value) (ls : List (List Nat)) (w' : World) : Prop :=
 ∃ F', GIn w' g G F' ∧ Ch F w w' ∧ (∀ k ∈ F', k ∈ F ∨ w.heap.size ≤ k) ∧ F'[2]? = F[2]? ∧ PostL w G ls v F' w'
theorem PostL.nil {w w' : World} {G : Gra} {F' : List Nat} : PostL w G [] (.slice none 0 0) F' w' := ⟨[], ⟨rfl, .inl ⟨rfl, rfl⟩⟩, by simp [Value.ownBlock], by simp⟩
theorem GLo.none {w w' : World} {g : Nat} {G : Gra} {F : List Nat} (h : GIn w g G F) (hc : Ch [] w w') : GLo w g G F (.slice none 0 0) [] w' :=
 ⟨F, h.same hc (by simp), hc.mono (by simp), fun _ hk => .inl hk, rfl, PostL.nil⟩
theorem WA1.post {w W : World} {g m width : Nat} {G : Gra} {F : List Nat} {S : Mk × List (List Nat)} {v : Value} {W' : World} (h : WA1 W g m G F width S v W') (hc : Ch [] w W) : ∃ P F', Sim G P S.1 ∧ MIn W' g m P F' ∧ Ch (m :: F) W W' ∧ (∀ k ∈ F', k ∈ F ∨ W.heap.size ≤ k) ∧ F'[2]? = F[2]? ∧ (S.1.2 = 0 → PostL w S.1.1 S.2 v F' W') := by
 obtain ⟨P, vs, ls, F', hs, ho, k1, k2, k3, k4, k5, k6, k7⟩ := h
 refine ⟨P, F', hs, k1, k2, k3, k4, fun h0 => ?_⟩
 have e := ho h0
 subst e
 have eP : P = S.1 := by
  rcases hs.rel with ⟨_, e⟩ | ⟨e, _⟩
  ·exact e
  ·omega
 refine ⟨vs, k5, fun k hk => ⟨Nat.le_trans hc.size (k6 k hk).1, (k6 k hk).2⟩, fun i u hu => ?_⟩
 obtain ⟨l, q1, q2, q3, q4, q5⟩ := k7 i u hu
 exact ⟨l, q1, by rw [← eP]; exact q3, by rw [q2]; exact q4, fun k hk => ⟨Nat.le_trans hc.size (q5 k hk).1, (q5 k hk).2⟩⟩
theorem MB.glo {w w1 w' : World} {g : Nat} {G : Gra} {F : List Nat} {S : Mk × List (List Nat)} {v : Value} (hc : Ch [] w w1) (h : MB w1 g G F S.1 (PostL w S.1.1 S.2) mzL v w') : GLo w g (lres G S).1 F v (lres G S).2.1 w' := by
 obtain ⟨F', k1, k2, k3, k4, k5, k6⟩ := h
 have hch : Ch F w w' := (hc.mono (by simp)).trans k2 (fun k hk => .inl hk)
 have hown : ∀ k ∈ F', k ∈ F ∨ w.heap.size ≤ k := fun k hk => (k3 k hk).imp id (fun e => Nat.le_trans hc.size e)
 unfold lres
 by_cases h0 : S.1.2 = 0
 ·rw [if_pos h0] at k1
  rw [if_neg (by simp [h0])]
  exact ⟨F', k1, hch, hown, k4, k5 h0⟩
 ·rw [if_neg h0] at k1
  rw [if_pos h0, k6 h0]
  exact ⟨F', k1, hch, hown, k4, PostL.nil⟩
theorem LS.two' {w : World} {F : List Nat} {q la lb n k ac bc : Nat} {As Bs : List WV} (hA : WL w F la n As) (hk : Bs.length = k) (hB : ∀ (i : Nat) (x : WV), Bs[i]? = some x → w.cell? ⟨lb, i, none⟩ = some x.val ∧ WVok w x) (hq : blk w q [.slice (some ⟨la, 0, none⟩) n ac, .slice (some ⟨lb, 0, none⟩) k bc]) : LS w q 2 [(la, ac, As), (lb, bc, Bs)] := by
 have h1 := hA.len
 subst h1
 subst hk
 refine ⟨rfl, fun j b' c' ws' hj => ?_, fun j b' c' ws' hj => ?_⟩ <;> rcases j with _ | _ | j
 ·cases hj; exact hq.cell rfl
 ·cases hj; exact hq.cell rfl
 ·simp at hj
 ·cases hj; exact fun i x hx => ⟨hA.cells i x hx, (hA.words x (List.mem_of_getElem? hx)).ok⟩
 ·cases hj; exact hB
 ·simp at hj
section
variable {w : World} {g : Nat} {G : Gra} {F : List Nat}
theorem mWrite_is [Nonempty Unit] (h : GIn w g G F) {la : Option Addr} {nl lc : Nat} {Ls : List WV} (hA : WA w F la nl Ls) (c : Int) (hc : I64' c) {y x : WV} (hy : WVin w F y) (hyc : y.l.length ≤ y.c) (hx : WVin w F x) :
  Calls Tryz.prog 69 #[.pointer (some ⟨g, 0, none⟩), .slice la nl lc, .int .i64 c, y.val, x.val] w fun e w' => ∃ v, e = .returned (.tuple #[v, .int .i64 (writeG G (Ls.map WV.l) c y.l x.l).2.2]) ∧ GLo w g (writeG G (Ls.map WV.l) c y.l x.l).1 F v (writeG G (Ls.map WV.l) c y.l x.l).2.1 w' := by
 have hpos := h.ok.wf.pos
 have hroom := h.ok.room
 have hmost := h.ok.most
 have hL := fun (W : World) (hW : Ch [] w W) => Len_g (h.same hW (by simp))
 have hAr := fun (W : World) => marray_is (w := W) nl
 have hRr := fun (W : World) => mright_is (w := W) y.l.length
 have hok := chk26_ok (G := G) (idx := y.l) (refs := [c]) (ws := Ls.map WV.l ++ [x.l])
 have hlt := chk26_lt G y.l [c] (Ls.map WV.l ++ [x.l])
 have hlen := hA.len
 have hll : (Ls.map WV.l).length = nl := by rw [List.length_map]; exact hlen
 unfold writeG
 rw [hll]
 obtain ⟨cc, hcc⟩ : ∃ cc, chk26 G y.l [c] (Ls.map WV.l ++ [x.l]) = cc := ⟨_, rfl⟩
 rw [hcc] at hok hlt ⊢
 obtain ⟨S, hS⟩ : ∃ S, writeF G c.toNat (nats x.l) ((Ls.map WV.l).map nats) (nats y.l) y.l.length (fitN nl y.l.length) = S := ⟨_, rfl⟩
 rw [hS]
 generalize hWW : (if array26 nl = false then (G, [], 261) else if right26 y.l.length = false then (G, [], 260) else if cc ≠ 0 then (G, [], cc) else lres G S : Gra × List (List Nat) × Nat) = WW
 have hylen := hy.ok.len
 have hxlen := hx.ok.len
 cases ha : array26 nl
 ·rw [ha, if_pos rfl] at hWW
  simp only [ha] at hAr
  subst hWW
  obtain ⟨ya, yl, yc⟩ := y
  obtain ⟨xa, xl, xc⟩ := x
  simp only [WV.val] at *
  clear hok hcc hS hRr hA hy hx
  have HL := Hi9 hL; clear hL
  have HAR := Hi9 hAr; clear hAr
  have H := Hi9 h; clear h
  have hn0 : ((G.nodes.length : Int) == 0) = false := beqN (by omega)
  go_enter Tryz.func69, Tryz.ntmps69
  go_upto_region 1 with fail
  refine wp_named fun W0 hW0 => ?_
  have hc0 : Ch [] w W0 := by rw [hW0]; exact (((((Ch.refl _ _).alloc _).alloc _).alloc _).alloc _).alloc _
  have hb0 : blk W0 w.heap.size [.pointer (some ⟨g, 0, none⟩)] := by rw [hW0]; exact ((((blk.new' _ _ (by simp)).alloc _).alloc _).alloc _).alloc _
  have hb1 : blk W0 (w.heap.size + 1) [.slice la nl lc] := by rw [hW0]; exact (((blk.new' _ _ (by simp)).alloc _).alloc _).alloc _
  have hb2 : blk W0 (w.heap.size + 2) [.int .i64 c] := by rw [hW0]; exact ((blk.new' _ _ (by simp)).alloc _).alloc _
  have hb3 : blk W0 (w.heap.size + 3) [.slice ya yl.length yc] := by rw [hW0]; exact (blk.new' _ _ (by simp)).alloc _
  have hb4 : blk W0 (w.heap.size + 4) [.slice xa xl.length xc] := by rw [hW0]; exact blk.new' _ _ (by simp)
  have d0 := hb0.cell (i := 0) rfl
  have d1 := hb1.cell (i := 0) rfl
  have d2 := hb2.cell (i := 0) rfl
  have d3 := hb3.cell (i := 0) rfl
  have d4 := hb4.cell (i := 0) rfl
  have l0 := hb0.lt
  have l1 := hb1.lt
  have l2 := hb2.lt
  have l3 := hb3.lt
  have l4 := hb4.lt
  clear hW0
  have hLL := HL.out W0 hc0
  have HC0 := Hi9 hc0; clear hc0
  have HB0 := Hi9 hb0; clear hb0
  have HB1 := Hi9 hb1; clear hb1
  have HB2 := Hi9 hb2; clear hb2
  have HB3 := Hi9 hb3; clear hb3
  have HB4 := Hi9 hb4; clear hb4
  go_wp2_with fail
  refine hLL.mono ?_
  rintro e w' ⟨rfl, rfl⟩
  clear hLL
  go_wp2_with fail
  refine (HAR.out _).mono ?_
  rintro e w' ⟨rfl, rfl⟩
  go_wp2_with fail
  go_ret2
  exact ⟨_, rfl, GLo.none H.out HC0.out⟩
 ·rw [ha, if_neg (by simp)] at hWW
  simp only [ha] at hAr
  have hnl : 1 ≤ nl ∧ nl ≤ 256 := by unfold array26 at ha; simp at ha; omega
  obtain ⟨lb, rfl, hWL⟩ := hA.at_ hnl.1
  cases hr : right26 y.l.length
  ·rw [hr, if_pos rfl] at hWW
   simp only [hr] at hRr
   subst hWW
   obtain ⟨ya, yl, yc⟩ := y
   obtain ⟨xa, xl, xc⟩ := x
   simp only [WV.val] at *
   clear hok hcc hS hA hWL hy hx
   have HL := Hi9 hL; clear hL
   have HAR := Hi9 hAr; clear hAr
   have HRR := Hi9 hRr; clear hRr
   have H := Hi9 h; clear h
   have hn0 : ((G.nodes.length : Int) == 0) = false := beqN (by omega)
   go_enter Tryz.func69, Tryz.ntmps69
   go_upto_region 1 with fail
   refine wp_named fun W0 hW0 => ?_
   have hc0 : Ch [] w W0 := by rw [hW0]; exact (((((Ch.refl _ _).alloc _).alloc _).alloc _).alloc _).alloc _
   have hb0 : blk W0 w.heap.size [.pointer (some ⟨g, 0, none⟩)] := by rw [hW0]; exact ((((blk.new' _ _ (by simp)).alloc _).alloc _).alloc _).alloc _
   have hb1 : blk W0 (w.heap.size + 1) [.slice (some ⟨lb, 0, none⟩) nl lc] := by rw [hW0]; exact (((blk.new' _ _ (by simp)).alloc _).alloc _).alloc _
   have hb2 : blk W0 (w.heap.size + 2) [.int .i64 c] := by rw [hW0]; exact ((blk.new' _ _ (by simp)).alloc _).alloc _
   have hb3 : blk W0 (w.heap.size + 3) [.slice ya yl.length yc] := by rw [hW0]; exact (blk.new' _ _ (by simp)).alloc _
   have hb4 : blk W0 (w.heap.size + 4) [.slice xa xl.length xc] := by rw [hW0]; exact blk.new' _ _ (by simp)
   have d0 := hb0.cell (i := 0) rfl
   have d1 := hb1.cell (i := 0) rfl
   have d2 := hb2.cell (i := 0) rfl
   have d3 := hb3.cell (i := 0) rfl
   have d4 := hb4.cell (i := 0) rfl
   have l0 := hb0.lt
   have l1 := hb1.lt
   have l2 := hb2.lt
   have l3 := hb3.lt
   have l4 := hb4.lt
   clear hW0
   have hLL := HL.out W0 hc0
   have HC0 := Hi9 hc0; clear hc0
   have HB0 := Hi9 hb0; clear hb0
   have HB1 := Hi9 hb1; clear hb1
   have HB2 := Hi9 hb2; clear hb2
   have HB3 := Hi9 hb3; clear hb3
   have HB4 := Hi9 hb4; clear hb4
   go_wp2_with fail
   refine hLL.mono ?_
   rintro e w' ⟨rfl, rfl⟩
   clear hLL
   go_wp2_with fail
   refine (HAR.out _).mono ?_
   rintro e w' ⟨rfl, rfl⟩
   go_wp2_with fail
   refine (HRR.out _).mono ?_
   rintro e w' ⟨rfl, rfl⟩
   go_wp2_with fail
   go_ret2
   exact ⟨_, rfl, GLo.none H.out HC0.out⟩
  ·rw [hr, if_neg (by simp)] at hWW
   simp only [hr] at hRr
   have hyb : 1 ≤ y.l.length ∧ y.l.length ≤ 16 := by unfold right26 at hr; simp at hr; omega
   have hchk := fun (W : World) (q xb rb : Nat) (hW : Ch [] w W) (hq : blk W q [.slice (some ⟨lb, 0, none⟩) nl lc, .slice (some ⟨xb, 0, none⟩) 1 1]) (hxb : blk W xb [x.val]) (hrb : blk W rb [.int .i64 c]) =>
    mcheck_is (h.same hW (by simp)) (LS.two' (hWL.ch hW) (Bs := [x]) rfl (at1 hxb (hx.ch hW).ok) hq) (n := 2) (c := 2) (by omega) (by rw [lsW_two, List.length_append, hlen]; omega) (by rw [lsW_two, List.length_append, hlen]; simp; omega) (RS.wv (hy.ch hW) hyc) (RS.blk (n := 1) (R := [c]) hrb rfl (by omega)) (by omega) (by omega) (by
     intro z hz
     rcases List.mem_append.1 hz with hz | hz
     ·exact hy.ok.bd z hz
     ·rw [List.mem_singleton.1 hz]; exact hc)
   simp only [lsW_two, List.map_append, List.map_cons, List.map_nil, hcc] at hchk
   have hbuild : cc = 0 → ∀ (W1 : World), Ch [] w W1 → blk W1 w.heap.size [.pointer (some ⟨g, 0, none⟩)] → blk W1 (w.heap.size + 1) [.slice (some ⟨lb, 0, none⟩) nl lc] → blk W1 (w.heap.size + 2) [.int .i64 c] → blk W1 (w.heap.size + 3) [y.val] → blk W1 (w.heap.size + 4) [x.val] →
     Calls Tryz.prog 185 #[.pointer (some ⟨g, 0, none⟩), .func (.func 186) #[] #[.pointer (some ⟨w.heap.size + 1, 0, none⟩), .pointer (some ⟨w.heap.size + 3, 0, none⟩), .pointer (some ⟨w.heap.size, 0, none⟩), .pointer (some ⟨w.heap.size + 2, 0, none⟩), .pointer (some ⟨w.heap.size + 4, 0, none⟩)]] W1 fun e w' => ∃ v, e = .returned (.tuple #[v, .int .i64 S.1.2]) ∧ MB W1 g G F S.1 (PostL w S.1.1 S.2) mzL v w' := fun h0 W1 hW1 k0 k1 k2 k3 k4 => by
    obtain ⟨o1, o2, o3, o4, o5⟩ := hok h0
    have hne : Ls.map WV.l ++ [x.l] ≠ [] := by simp
    have hc0 : ((c.toNat : Nat) : Int) = c := by have := o5.cast; simpa [natInts, nats] using this
    have hcl : c.toNat < 2 * G.nodes.length := o5.lt c.toNat (by simp [nats])
    refine mbuildL_is (h.same hW1 (by simp)) 186 _ fnvmWrite1 S.1 _ (fun W m hm hW hM => ?_)
    have hall := hW1.trans hW (by simp)
    have hm2 : w.heap.size ≤ m := Nat.le_trans hW1.size hm
    have hyw : WVin W (m :: F) ⟨y.a, natInts (nats y.l), y.c⟩ := by
     rw [o4.cast]
     exact ⟨(hy.ch hall).ok, hy.blks hall hm2⟩
    have hxw : WVin W (m :: F) x := ⟨(hx.ch hall).ok, hx.blks hall hm2⟩
    have hxo := o1 x.l (by simp)
    have c0 := (k0.ch hW (by simp)).cell (i := 0) rfl
    have c1 := (k1.ch hW (by simp)).cell (i := 0) rfl
    have c2 := (k2.ch hW (by simp)).cell (i := 0) rfl
    have c3 := (k3.ch hW (by simp)).cell (i := 0) (v := y.val) rfl
    have c4 := (k4.ch hW (by simp)).cell (i := 0) (v := x.val) rfl
    unfold WV.val at c3 c4
    rw [hxo.len] at c4
    rw [← hc0] at c2
    have l0 := k0.lt
    have l1 := k1.lt
    have l2 := k2.lt
    have l3 := k3.lt
    have l4 := k4.lt
    have hnF : ∀ b, w.heap.size ≤ b → b < W1.heap.size → b ∉ m :: F := fun b hb hb2 hin => by
     simp only [List.mem_cons] at hin
     rcases hin with e | hin
     ·omega
     ·have := h.lt b hin; omega
    have h1 := mWrite1_is hM (Ls := Ls) (lc := lc) (width := ((Ls.map WV.l ++ [x.l]).headD []).length) (x := x) (hWL.up hall hm2) (fun z hz => o1 z.l (List.mem_append_left _ (List.mem_map.2 ⟨z, hz, rfl⟩))) hnl (o3 hne) hxw hxo hcl hyw (by rw [nats_len]) hyb.1 hyb.2 o4.lt rfl c1 c3 c0 c2 c4 (hnF _ (by omega) l1) (hnF _ (by omega) l3) (hnF _ (by omega) l0) (hnF _ (by omega) l2) (hnF _ (by omega) l4)
    rw [show (Ls.map fun x => nats x.l) = (Ls.map WV.l).map nats by rw [List.map_map]; rfl, hS] at h1
    refine h1.mono ?_
    rintro e W' ⟨v, rfl, hrw⟩
    obtain ⟨P, F', q1, q2, q3, q4, q5, q6⟩ := hrw.post hall
    exact ⟨v, P, F', rfl, q1, q2, q3, q4, q5, q6⟩
   obtain ⟨ya, yl, yc⟩ := y
   obtain ⟨xa, xl, xc⟩ := x
   simp only [WV.val] at *
   clear hok hcc hS hA hWL
   have HL := Hi9 hL; clear hL
   have HAR := Hi9 hAr; clear hAr
   have HRR := Hi9 hRr; clear hRr
   have HCHK := Hi9 hchk; clear hchk
   have HBU := Hi9 hbuild; clear hbuild
   have H := Hi9 h; clear h
   have HWW := Hi9 hWW; clear hWW
   have hn0 : ((G.nodes.length : Int) == 0) = false := beqN (by omega)
   clear hy hx hc
   go_enter Tryz.func69, Tryz.ntmps69
   go_upto_region 1 with fail
   refine wp_named fun W0 hW0 => ?_
   have hc0 : Ch [] w W0 := by rw [hW0]; exact (((((Ch.refl _ _).alloc _).alloc _).alloc _).alloc _).alloc _
   have hb0 : blk W0 w.heap.size [.pointer (some ⟨g, 0, none⟩)] := by rw [hW0]; exact ((((blk.new' _ _ (by simp)).alloc _).alloc _).alloc _).alloc _
   have hb1 : blk W0 (w.heap.size + 1) [.slice (some ⟨lb, 0, none⟩) nl lc] := by rw [hW0]; exact (((blk.new' _ _ (by simp)).alloc _).alloc _).alloc _
   have hb2 : blk W0 (w.heap.size + 2) [.int .i64 c] := by rw [hW0]; exact ((blk.new' _ _ (by simp)).alloc _).alloc _
   have hb3 : blk W0 (w.heap.size + 3) [.slice ya yl.length yc] := by rw [hW0]; exact (blk.new' _ _ (by simp)).alloc _
   have hb4 : blk W0 (w.heap.size + 4) [.slice xa xl.length xc] := by rw [hW0]; exact blk.new' _ _ (by simp)
   have d0 := hb0.cell (i := 0) rfl
   have d1 := hb1.cell (i := 0) rfl
   have d2 := hb2.cell (i := 0) rfl
   have d3 := hb3.cell (i := 0) rfl
   have d4 := hb4.cell (i := 0) rfl
   have l0 := hb0.lt
   have l1 := hb1.lt
   have l2 := hb2.lt
   have l3 := hb3.lt
   have l4 := hb4.lt
   clear hW0
   have hLL := HL.out W0 hc0
   have HC0 := Hi9 hc0; clear hc0
   have HB0 := Hi9 hb0; clear hb0
   have HB1 := Hi9 hb1; clear hb1
   have HB2 := Hi9 hb2; clear hb2
   have HB3 := Hi9 hb3; clear hb3
   have HB4 := Hi9 hb4; clear hb4
   go_wp2_with fail
   refine hLL.mono ?_
   rintro e w' ⟨rfl, rfl⟩
   clear hLL
   go_wp2_with fail
   refine (HAR.out _).mono ?_
   rintro e w' ⟨rfl, rfl⟩
   go_wp2_with fail
   refine (HRR.out _).mono ?_
   rintro e w' ⟨rfl, rfl⟩
   go_wp2_with fail
   refine calls_named fun W1 hW1 => ?_
   have hc1 : Ch [] W0 W1 := by rw [hW1]; exact (((Ch.refl _ _).alloc _).alloc _).alloc _
   have e0 : blk W1 W0.heap.size [.int .i64 c] := by rw [hW1]; exact ((blk.new' _ _ (by simp)).alloc _).alloc _
   have e1 : blk W1 (W0.heap.size + 1) [.slice xa xl.length xc] := by rw [hW1]; exact (blk.new' _ _ (by simp)).alloc _
   have e2 : blk W1 (W0.heap.size + 1 + 1) [.slice (some ⟨lb, 0, none⟩) nl lc, .slice (some ⟨W0.heap.size + 1, 0, none⟩) 1 1] := by rw [hW1]; exact blk.new' _ _ (by simp)
   clear hW1
   refine (HCHK.out W1 _ _ _ (HC0.out.trans hc1 (by simp)) e2 e1 e0).mono ?_
   rintro e w2 ⟨rfl, hc2⟩
   have hc02 := hc1.trans hc2 (by simp)
   have HC2 := Hi9 (HC0.out.trans hc02 (by simp))
   have hb0' := HB0.out.ch hc02 (by simp)
   have d0' := hb0'.cell (i := 0) rfl
   have HB0' := Hi9 hb0'; clear hb0'
   have HB1' := Hi9 (HB1.out.ch hc02 (by simp))
   have HB2' := Hi9 (HB2.out.ch hc02 (by simp))
   have HB3' := Hi9 (HB3.out.ch hc02 (by simp))
   have HB4' := Hi9 (HB4.out.ch hc02 (by simp))
   clear e0 e1 e2 hc1 hc2 hc02 d0 d1 d2 d3 d4 HB0 HB1 HB2 HB3 HB4 HCHK
   by_cases hz : cc = 0
   ·have hBB := HBU.out hz w2 HC2.out HB0'.out HB1'.out HB2'.out HB3'.out HB4'.out
    have hww := HWW.out
    rw [if_neg (by simp [hz])] at hww
    subst hz
    have HBB := Hi9 hBB; clear hBB HBU
    have HW2 := Hi9 hww; clear hww
    go_wp2_with fail
    refine HBB.out.mono ?_
    rintro e w3 ⟨v, rfl, hmb⟩
    have hgv := MB.glo HC2.out hmb
    rw [HW2.out] at hgv
    have HGV := Hi9 hgv; clear hgv hmb
    go_wp2_with fail
    go_ret2
    exact ⟨_, by rw [← HW2.out, lres_e]; rfl, HGV.out⟩
   ·have hq : ((cc : Int) != 0) = true := by simp; omega
    have hww := HWW.out
    rw [if_pos hz] at hww
    have HW2 := Hi9 hww; clear hww
    have HZ := Hi9 hz; clear hz
    go_wp2_with fail
    go_ret2
    exact ⟨_, by rw [← HW2.out]; rfl, by rw [← HW2.out]; exact GLo.none H.out HC2.out⟩
end
theorem fnvmIs1 : Fnv 244 := fnv_of Tryz.func244 (by simp [Tryz.f244]) (by simp [Tryz.f244])
section
variable {w : World} {g m : Nat} {G : Gra} {F : List Nat}
theorem mIs1_is {by' bn i n yc : Nat} {ya : Option Addr} {r : Nat} {Rs : World → Prop} (hI : Calls Tryz.prog 245 #[.pointer (some ⟨m, 0, none⟩), .slice ya n yc, .int .u32 i] w fun e w' => e = .returned (.int .i64 r) ∧ Rs w')
  (c1 : w.cell? ⟨by', 0, none⟩ = some (.slice ya n yc)) (c2 : w.cell? ⟨bn, 0, none⟩ = some (.int .u32 i)) :
  Calls Tryz.prog 244 (#[.pointer (some ⟨m, 0, none⟩)] ++ #[.pointer (some ⟨by', 0, none⟩), .pointer (some ⟨bn, 0, none⟩)]) w fun e w' => e = .returned (.int .i64 r) ∧ Rs w' := by
 show Calls Tryz.prog 244 #[.pointer (some ⟨m, 0, none⟩), .pointer (some ⟨by', 0, none⟩), .pointer (some ⟨bn, 0, none⟩)] w _
 go_enter Tryz.func244, Tryz.ntmps244
 go_wp2_with fail
 refine hI.mono ?_
 rintro e w1 ⟨rfl, h⟩
 go_wp2_with fail
 go_ret
 exact ⟨rfl, h⟩
theorem mIs_is (h : GIn w g G F) {y : WV} (hy : WVin w F y) (i : Nat) (hi : i < 4294967296) :
  Calls Tryz.prog 151 #[.pointer (some ⟨g, 0, none⟩), y.val, .int .u32 i] w fun e w' => e = .returned (.tuple #[.int .i64 (isG G y.l i).2.1, .int .i64 (isG G y.l i).2.2]) ∧ GTo w g (isG G y.l i).1 F w' := by
 have hpos := h.ok.wf.pos
 have hroom := h.ok.room
 have hmost := h.ok.most
 have hL := fun (W : World) (hW : Ch [] w W) => Len_g (h.same hW (by simp))
 have hok := chk26_ok (G := G) (idx := []) (refs := []) (ws := [y.l])
 have hlt := chk26_lt G [] [] [y.l]
 unfold isG
 obtain ⟨cc, hcc⟩ : ∃ cc, chk26 G [] [] [y.l] = cc := ⟨_, rfl⟩
 rw [hcc] at hok hlt ⊢
 obtain ⟨S, hS⟩ : ∃ S, isR (G, 0) (nats y.l) y.l.length i = S := ⟨_, rfl⟩
 rw [hS]
 generalize hWW : (if cc ≠ 0 then (G, 0, cc) else rres G S : Res) = WW
 have hylen := hy.ok.len
 have hchk := fun (W : World) (q lb : Nat) (hW : Ch [] w W) (hq : blk W q [.slice (some ⟨lb, 0, none⟩) 1 1]) (hl : blk W lb [y.val]) =>
  mcheck_is (h.same hW (by simp)) (LS.one (c := 1) (hq.cell (i := 0) rfl) rfl (at1 hl (hy.ch hW).ok)) (n := 1) (c := 1) (by omega) (by rw [lsW_one]; simp) (by rw [lsW_one]; simp) (RS.nil W) (RS.nil W) (by omega) (by omega) (by intro z hz; simp at hz)
 simp only [lsW_one, List.map_cons, List.map_nil, hcc] at hchk
 have hbuild : cc = 0 → ∀ (W1 : World), Ch [] w W1 → blk W1 w.heap.size [y.val] → blk W1 (w.heap.size + 1) [.int .u32 i] →
   Calls Tryz.prog 190 #[.pointer (some ⟨g, 0, none⟩), .func (.func 244) #[] #[.pointer (some ⟨w.heap.size, 0, none⟩), .pointer (some ⟨w.heap.size + 1, 0, none⟩)]] W1 fun e w' => ∃ v, e = .returned (.tuple #[v, .int .i64 S.1.2]) ∧ MB W1 g G F S.1 (PostR S.2) mzR v w' := fun h0 W1 hW1 k1 k2 => by
  obtain ⟨o1, o2, o3, _, _⟩ := hok h0
  have hyw := o1 y.l (by simp)
  have hn1 : 1 ≤ y.l.length := o2 (by simp)
  have hn16 : y.l.length ≤ 16 := o3 (by simp)
  refine mbuildR_is (h.same hW1 (by simp)) 244 _ fnvmIs1 S.1 _ (fun W m hm hW hM => ?_)
  have hall := hW1.trans hW (by simp)
  have hyW : WVin W F ⟨y.a, natInts (nats y.l), y.c⟩ := by rw [hyw.cast]; exact hy.ch hall
  have hyr : ∀ r ∈ nats y.l, r < 2 * G.nodes.length := hyw.lt
  have hI := mis_is hM y.l.length y.c i (by rw [nats_len]) hn1 (by omega) hi hyW hyr
  have hfull := eqW_full hM.gin.ok (n := y.l.length) (by rw [nats_len]) (constL_len i _) hn1 (by omega) hyr (fun r hr => by have := constL_le i _ r hr; show r < 2 * G.nodes.length; omega)
  have hst := (Sim.start hM.gin.ok).step hfull (Y := eqW G (nats y.l) (constL i y.l.length)) (fun _ _ => rfl)
  have e0 : rstep (G, 0) (eqW G (nats y.l) (constL i y.l.length)) = S := hS
  rw [e0] at hst
  have c1 := (k1.ch hW (by simp)).cell (i := 0) (v := y.val) rfl
  have c2 := (k2.ch hW (by simp)).cell (i := 0) rfl
  unfold WV.val at c1
  have h1 := mIs1_is hI c1 c2
  refine h1.mono ?_
  rintro e W' ⟨rfl, F', q1, q2, q3, q4⟩
  exact ⟨_, _, F', rfl, hst.1, q1, q2, q3, q4, fun hz => by show _ = _; rw [hst.2.2.2.1 hz]⟩
 obtain ⟨ya, yl, yc⟩ := y
 simp only [WV.val] at *
 clear hok hcc hS hy
 have HL := Hi9 hL; clear hL
 have HCHK := Hi9 hchk; clear hchk
 have HBU := Hi9 hbuild; clear hbuild
 have H := Hi9 h; clear h
 have HWW := Hi9 hWW; clear hWW
 have hn0 : ((G.nodes.length : Int) == 0) = false := beqN (by omega)
 go_enter Tryz.func151, Tryz.ntmps151
 go_upto_region 1 with fail
 refine wp_named fun W0 hW0 => ?_
 have hc0 : Ch [] w W0 := by rw [hW0]; exact ((Ch.refl _ _).alloc _).alloc _
 have hb0 : blk W0 w.heap.size [.slice ya yl.length yc] := by rw [hW0]; exact (blk.new' _ _ (by simp)).alloc _
 have hb1 : blk W0 (w.heap.size + 1) [.int .u32 i] := by rw [hW0]; exact blk.new' _ _ (by simp)
 have d0 := hb0.cell (i := 0) rfl
 have l0 := hb0.lt
 have l1 := hb1.lt
 clear hW0
 have hLL := HL.out W0 hc0
 have HC0 := Hi9 hc0; clear hc0
 have HB0 := Hi9 hb0; clear hb0
 have HB1 := Hi9 hb1; clear hb1
 go_wp2_with fail
 refine hLL.mono ?_
 rintro e w' ⟨rfl, rfl⟩
 clear hLL
 go_wp2_with fail
 refine calls_named fun W1 hW1 => ?_
 have hc1 : Ch [] W0 W1 := by rw [hW1]; exact ((Ch.refl _ _).alloc _).alloc _
 have e1 : blk W1 W0.heap.size [.slice ya yl.length yc] := by rw [hW1]; exact (blk.new' _ _ (by simp)).alloc _
 have e2 : blk W1 (W0.heap.size + 1) [.slice (some ⟨W0.heap.size, 0, none⟩) 1 1] := by rw [hW1]; exact blk.new' _ _ (by simp)
 clear hW1
 refine (HCHK.out W1 _ _ (HC0.out.trans hc1 (by simp)) e2 e1).mono ?_
 rintro e w2 ⟨rfl, hc2⟩
 have hc02 := hc1.trans hc2 (by simp)
 have HC2 := Hi9 (HC0.out.trans hc02 (by simp))
 have HB0' := Hi9 (HB0.out.ch hc02 (by simp))
 have HB1' := Hi9 (HB1.out.ch hc02 (by simp))
 clear e1 e2 hc1 hc2 hc02 d0 HB0 HB1 HCHK
 by_cases hz : cc = 0
 ·have hBB := HBU.out hz w2 HC2.out HB0'.out HB1'.out
  have hww := HWW.out
  rw [if_neg (by simp [hz])] at hww
  subst hz
  have HBB := Hi9 hBB; clear hBB HBU
  have HW2 := Hi9 hww; clear hww
  go_wp2_with fail
  refine HBB.out.mono ?_
  rintro e w3 ⟨v, rfl, hmb⟩
  obtain ⟨rfl, hgt⟩ := MB.gto HC2.out hmb
  rw [HW2.out] at hgt ⊢
  have HGT := Hi9 hgt; clear hgt hmb
  go_wp2_with fail
  go_ret2
  exact ⟨by rw [← HW2.out, rres_e]; rfl, HGT.out⟩
 ·have hq : ((cc : Int) != 0) = true := by simp; omega
  have hww := HWW.out
  rw [if_pos hz] at hww
  have HW2 := Hi9 hww; clear hww
  have HZ := Hi9 hz; clear hz
  go_wp2_with fail
  go_ret2
  exact ⟨by rw [← HW2.out]; rfl, by rw [← HW2.out]; exact GTo.same H.out HC2.out⟩
end
section
variable {w0 : Base} {w : World} {g : Nat} {G : Gra} {F : List Nat} {L : List (Value × List Int)}
end
def STo (w : World) (rb : Nat) (R : Mk × Nat) (e : Ending) (w' : World) : Prop := ∃ rb' cap', e = .returned (.tuple #[.agg #[.int .i64 R.1.1.most, .slice (some ⟨rb', 0, none⟩) R.1.1.nodes.length cap', .int .i64 R.1.2], .int .i64 R.2]) ∧ RG w' rb' cap' R.1.1 ∧ Ch [] w w' ∧ (rb' = rb ∨ w.heap.size ≤ rb')
theorem set3_ch {w W : World} {b : Nat} {u v x : Value} (h : W = ((w.setCell ⟨b, 0, none⟩ u).setCell ⟨b, 1, none⟩ v).setCell ⟨b, 2, none⟩ x) : Ch [b] w W := by rw [h]; exact (((Ch.refl [b] _).setCell (by simp) _).setCell (by simp) _).setCell (by simp) _
section
theorem r23step_is {w : World} {rb cap q : Nat} {G : Gra} (h : RG w rb cap G) {rb2 cap2 : Nat} {G2 : Gra} (h2 : RG w rb2 cap2 G2) (r e : Nat) :
  Calls Tryz.prog 347 #[.agg #[.int .i64 G.most, .slice (some ⟨rb, 0, none⟩) G.nodes.length cap, .int .i64 q], .agg #[.int .i64 G2.most, .slice (some ⟨rb2, 0, none⟩) G2.nodes.length cap2], .int .i64 r, .int .i64 e] w fun en w' => ∃ rb' cap', en = .returned (.tuple #[.agg #[.int .i64 (rstep (G, q) (G2, r, e)).1.1.most, .slice (some ⟨rb', 0, none⟩) (rstep (G, q) (G2, r, e)).1.1.nodes.length cap', .int .i64 (rstep (G, q) (G2, r, e)).1.2], .int .i64 (rstep (G, q) (G2, r, e)).2]) ∧ RG w' rb' cap' (rstep (G, q) (G2, r, e)).1.1 ∧ Ch [] w w' ∧ (rb' = rb ∨ rb' = rb2) := by
 have HH := Hi9 h
 have HH2 := Hi9 h2
 by_cases hq : q = 0
 ·subst hq
  by_cases he : e = 0
  ·subst he
   rw [rstep_ok (s := (G, 0)) (R := (G2, r, 0)) rfl rfl]
   clear h h2
   go_enter Tryz.func347, Tryz.ntmps347
   go_wp2_with fail
   refine bodyPost_ret (v := .tuple #[.agg #[.int .i64 G2.most, .slice (some ⟨rb2, 0, none⟩) G2.nodes.length cap2, .int .i64 0], .int .i64 r]) (by simp [results, Tryz.results347, go_sem]) rfl ?_
   refine (fun hc : Ch [] w _ => ⟨rb2, cap2, rfl, HH2.out.ch hc (by simp), hc, .inr rfl⟩) ?_
   repeat (first | exact Ch.refl _ _ | refine Ch.alloc ?_ _ | refine Ch.setCell ?_ (.inr (by simp <;> omega)) _)
  ·have d : ((e : Int) != 0) = true := by simp [he]
   rw [rstep_no (s := (G, 0)) (R := (G2, r, e)) rfl he]
   clear h h2 he
   go_enter Tryz.func347, Tryz.ntmps347
   go_wp2_with fail
   refine bodyPost_ret (v := .tuple #[.agg #[.int .i64 G.most, .slice (some ⟨rb, 0, none⟩) G.nodes.length cap, .int .i64 e], .int .i64 0]) (by simp [results, Tryz.results347, go_sem]) rfl ?_
   refine (fun hc : Ch [] w _ => ⟨rb, cap, rfl, HH.out.ch hc (by simp), hc, .inl rfl⟩) ?_
   repeat (first | exact Ch.refl _ _ | refine Ch.alloc ?_ _ | refine Ch.setCell ?_ (.inr (by simp <;> omega)) _)
 ·have d : ((q : Int) != 0) = true := by simp [hq]
  have d2 : ((q : Int) == 0) = false := by simp [hq]
  rw [rstep_bad (s := (G, q)) hq]
  clear h h2 hq
  go_enter Tryz.func347, Tryz.ntmps347
  go_wp2_with fail
  refine bodyPost_ret (v := .tuple #[.agg #[.int .i64 G.most, .slice (some ⟨rb, 0, none⟩) G.nodes.length cap, .int .i64 q], .int .i64 0]) (by simp [results, Tryz.results347, go_sem]) rfl ?_
  refine (fun hc : Ch [] w _ => ⟨rb, cap, rfl, HH.out.ch hc (by simp), hc, .inl rfl⟩) ?_
  repeat (first | exact Ch.refl _ _ | refine Ch.alloc ?_ _ | refine Ch.setCell ?_ (.inr (by simp <;> omega)) _)
theorem r23And_is {w : World} {rb cap q : Nat} {G : Gra} (h : RG w rb cap G) {a b : Nat} (ha : a < 2 * G.nodes.length) (hb : b < 2 * G.nodes.length) :
  Calls Tryz.prog 333 #[.agg #[.int .i64 G.most, .slice (some ⟨rb, 0, none⟩) G.nodes.length cap, .int .i64 q], .int .i64 a, .int .i64 b] w (STo w rb (rstep (G, q) (and G a b))) := by
 have hrb := h.lt
 have hA := fun (W : World) (hc : Ch [] w W) => rAnd_is (h.ch hc (by simp)) ha hb
 generalize and G a b = X at *
 obtain ⟨G1, r1, e1⟩ := X
 have HA := Hi9 hA; clear hA
 have H := Hi9 h; clear h ha hb
 go_enter Tryz.func333, Tryz.ntmps333
 go_wp2_with fail
 refine calls_named fun W hW => ?_
 have b3 : blk W w.heap.size [.int .i64 G.most, .slice (some ⟨rb, 0, none⟩) G.nodes.length cap, .int .i64 q] := by rw [hW]; exact (blk.new' _ _ (by simp)).alloc _
 have b6 : blk W (w.heap.size + 1) [.int .i64 0, .slice none 0 0, .int .i64 0] := by rw [hW]; exact blk.new' _ _ (by simp)
 have hc : Ch [] w W := by rw [hW]; exact ((Ch.refl _ _).alloc _).alloc _
 clear hW
 refine (HA.out W hc).mono ?_
 rintro e w1 ⟨rb1, cap1, rfl, hrg1, hch1, hfr1⟩
 have hz := b6.lt
 have b3 := b3.ch hch1 (by simp)
 have b6 := b6.ch hch1 (by simp)
 have hz1 := b6.lt
 have hz0 := b3.lt
 have x0 := b3.cell (i := 0) rfl
 have x1 := b3.cell (i := 1) rfl
 have x2 := b3.cell (i := 2) rfl
 have hc1 := hc.trans hch1 (by simp)
 have B6 := Hi9 b6; clear b6 b3
 have HC1 := Hi9 hc1; clear hc1
 have HRG1 := Hi9 hrg1; clear hrg1
 have hne : rb1 ≠ w.heap.size + 1 := by rcases hfr1 with e | e <;> omega
 have hfr2 : rb1 = rb ∨ w.heap.size ≤ rb1 := by have := hc.size; rcases hfr1 with e | e <;> omega
 clear hch1 hc HA hfr1
 go_wp2_with fail
 refine calls_named fun W2 hW2 => ?_
 have hc2 : Ch [] w1 W2 := by rw [hW2]; exact (Ch.refl _ _).alloc _
 clear hW2
 have hS := r23step_is (q := q) (H.out.ch (HC1.out.trans hc2 (by simp)) (by simp)) (HRG1.out.ch hc2 (by simp)) r1 e1
 refine hS.mono ?_
 rintro e w2 ⟨rb', cap', rfl, hrg', hch', hfr'⟩
 generalize rstep (G, q) (G1, r1, e1) = R at *
 have b6 := (B6.out.ch hc2 (by simp)).ch hch' (by simp)
 have z0 := b6.cell (i := 0) rfl
 have z1 := b6.cell (i := 1) rfl
 have z2 := b6.cell (i := 2) rfl
 have f0 := b6.frozen (i := 0)
 have f1 := b6.frozen (i := 1)
 have f2 := b6.frozen (i := 2)
 have HC2 := Hi9 ((HC1.out.trans hc2 (by simp)).trans hch' (by simp))
 have HRG' := Hi9 hrg'; clear hrg' hch' hc2 hS b6 B6 HC1 HRG1 x0 x1 x2
 go_wp2_with fail
 have hcc := set3_ch (w := w2) (b := w.heap.size + 1) (u := .int .i64 R.1.1.most) (v := .slice (some ⟨rb', 0, none⟩) R.1.1.nodes.length cap') (x := .int .i64 R.1.2) rfl
 refine bodyPost_ret (v := .tuple #[.agg #[.int .i64 R.1.1.most, .slice (some ⟨rb', 0, none⟩) R.1.1.nodes.length cap', .int .i64 R.1.2], .int .i64 R.2]) (by simp [results, Tryz.results333, go_sem, z0, z1, z2]) rfl ?_
 exact ⟨rb', cap', rfl, HRG'.out.ch hcc (by simp; rcases hfr' with e | e <;> omega), HC2.out.trans hcc (fun k hk => .inr (by simp at hk; omega)), by rcases hfr' with e | e <;> omega⟩
theorem r23Xor_is {w : World} {rb cap q : Nat} {G : Gra} (h : RG w rb cap G) {a b : Nat} (ha : a < 2 * G.nodes.length) (hb : b < 2 * G.nodes.length) :
  Calls Tryz.prog 343 #[.agg #[.int .i64 G.most, .slice (some ⟨rb, 0, none⟩) G.nodes.length cap, .int .i64 q], .int .i64 a, .int .i64 b] w (STo w rb (rstep (G, q) (rXor G a b))) := by
 have hrb := h.lt
 have hA := fun (W : World) (hc : Ch [] w W) => rXor_is (h.ch hc (by simp)) ha hb
 generalize rXor G a b = X at *
 obtain ⟨G1, r1, e1⟩ := X
 have HA := Hi9 hA; clear hA
 have H := Hi9 h; clear h ha hb
 go_enter Tryz.func343, Tryz.ntmps343
 go_wp2_with fail
 refine calls_named fun W hW => ?_
 have b3 : blk W w.heap.size [.int .i64 G.most, .slice (some ⟨rb, 0, none⟩) G.nodes.length cap, .int .i64 q] := by rw [hW]; exact (blk.new' _ _ (by simp)).alloc _
 have b6 : blk W (w.heap.size + 1) [.int .i64 0, .slice none 0 0, .int .i64 0] := by rw [hW]; exact blk.new' _ _ (by simp)
 have hc : Ch [] w W := by rw [hW]; exact ((Ch.refl _ _).alloc _).alloc _
 clear hW
 refine (HA.out W hc).mono ?_
 rintro e w1 ⟨rb1, cap1, rfl, hrg1, hch1, hfr1⟩
 have hz := b6.lt
 have b3 := b3.ch hch1 (by simp)
 have b6 := b6.ch hch1 (by simp)
 have hz1 := b6.lt
 have hz0 := b3.lt
 have x0 := b3.cell (i := 0) rfl
 have x1 := b3.cell (i := 1) rfl
 have x2 := b3.cell (i := 2) rfl
 have hc1 := hc.trans hch1 (by simp)
 have B6 := Hi9 b6; clear b6 b3
 have HC1 := Hi9 hc1; clear hc1
 have HRG1 := Hi9 hrg1; clear hrg1
 have hne : rb1 ≠ w.heap.size + 1 := by rcases hfr1 with e | e <;> omega
 have hfr2 : rb1 = rb ∨ w.heap.size ≤ rb1 := by have := hc.size; rcases hfr1 with e | e <;> omega
 clear hch1 hc HA hfr1
 go_wp2_with fail
 refine calls_named fun W2 hW2 => ?_
 have hc2 : Ch [] w1 W2 := by rw [hW2]; exact (Ch.refl _ _).alloc _
 clear hW2
 have hS := r23step_is (q := q) (H.out.ch (HC1.out.trans hc2 (by simp)) (by simp)) (HRG1.out.ch hc2 (by simp)) r1 e1
 refine hS.mono ?_
 rintro e w2 ⟨rb', cap', rfl, hrg', hch', hfr'⟩
 generalize rstep (G, q) (G1, r1, e1) = R at *
 have b6 := (B6.out.ch hc2 (by simp)).ch hch' (by simp)
 have z0 := b6.cell (i := 0) rfl
 have z1 := b6.cell (i := 1) rfl
 have z2 := b6.cell (i := 2) rfl
 have f0 := b6.frozen (i := 0)
 have f1 := b6.frozen (i := 1)
 have f2 := b6.frozen (i := 2)
 have HC2 := Hi9 ((HC1.out.trans hc2 (by simp)).trans hch' (by simp))
 have HRG' := Hi9 hrg'; clear hrg' hch' hc2 hS b6 B6 HC1 HRG1 x0 x1 x2
 go_wp2_with fail
 have hcc := set3_ch (w := w2) (b := w.heap.size + 1) (u := .int .i64 R.1.1.most) (v := .slice (some ⟨rb', 0, none⟩) R.1.1.nodes.length cap') (x := .int .i64 R.1.2) rfl
 refine bodyPost_ret (v := .tuple #[.agg #[.int .i64 R.1.1.most, .slice (some ⟨rb', 0, none⟩) R.1.1.nodes.length cap', .int .i64 R.1.2], .int .i64 R.2]) (by simp [results, Tryz.results343, go_sem, z0, z1, z2]) rfl ?_
 exact ⟨rb', cap', rfl, HRG'.out.ch hcc (by simp; rcases hfr' with e | e <;> omega), HC2.out.trans hcc (fun k hk => .inr (by simp at hk; omega)), by rcases hfr' with e | e <;> omega⟩
theorem r23Mux_is {w : World} {rb cap q : Nat} {G : Gra} (h : RG w rb cap G) {c a b : Nat} (hc : c < 2 * G.nodes.length) (ha : a < 2 * G.nodes.length) (hb : b < 2 * G.nodes.length) :
  Calls Tryz.prog 332 #[.agg #[.int .i64 G.most, .slice (some ⟨rb, 0, none⟩) G.nodes.length cap, .int .i64 q], .int .i64 c, .int .i64 a, .int .i64 b] w (STo w rb (rstep (G, q) (rMux G c a b))) := by
 have hrb := h.lt
 have hA := fun (W : World) (h0 : Ch [] w W) => rMux_is (h.ch h0 (by simp)) hc ha hb
 generalize rMux G c a b = X at *
 obtain ⟨G1, r1, e1⟩ := X
 have HA := Hi9 hA; clear hA
 have H := Hi9 h; clear h hc ha hb
 go_enter Tryz.func332, Tryz.ntmps332
 go_wp2_with fail
 refine calls_named fun W hW => ?_
 have b3 : blk W w.heap.size [.int .i64 G.most, .slice (some ⟨rb, 0, none⟩) G.nodes.length cap, .int .i64 q] := by rw [hW]; exact (blk.new' _ _ (by simp)).alloc _
 have b6 : blk W (w.heap.size + 1) [.int .i64 0, .slice none 0 0, .int .i64 0] := by rw [hW]; exact blk.new' _ _ (by simp)
 have hc : Ch [] w W := by rw [hW]; exact ((Ch.refl _ _).alloc _).alloc _
 clear hW
 refine (HA.out W hc).mono ?_
 rintro e w1 ⟨rb1, cap1, rfl, hrg1, hch1, hfr1⟩
 have hz := b6.lt
 have b3 := b3.ch hch1 (by simp)
 have b6 := b6.ch hch1 (by simp)
 have hz1 := b6.lt
 have hz0 := b3.lt
 have x0 := b3.cell (i := 0) rfl
 have x1 := b3.cell (i := 1) rfl
 have x2 := b3.cell (i := 2) rfl
 have hc1 := hc.trans hch1 (by simp)
 have B6 := Hi9 b6; clear b6 b3
 have HC1 := Hi9 hc1; clear hc1
 have HRG1 := Hi9 hrg1; clear hrg1
 have hne : rb1 ≠ w.heap.size + 1 := by rcases hfr1 with e | e <;> omega
 have hfr2 : rb1 = rb ∨ w.heap.size ≤ rb1 := by have := hc.size; rcases hfr1 with e | e <;> omega
 clear hch1 hc HA hfr1
 go_wp2_with fail
 refine calls_named fun W2 hW2 => ?_
 have hc2 : Ch [] w1 W2 := by rw [hW2]; exact (Ch.refl _ _).alloc _
 clear hW2
 have hS := r23step_is (q := q) (H.out.ch (HC1.out.trans hc2 (by simp)) (by simp)) (HRG1.out.ch hc2 (by simp)) r1 e1
 refine hS.mono ?_
 rintro e w2 ⟨rb', cap', rfl, hrg', hch', hfr'⟩
 generalize rstep (G, q) (G1, r1, e1) = R at *
 have b6 := (B6.out.ch hc2 (by simp)).ch hch' (by simp)
 have z0 := b6.cell (i := 0) rfl
 have z1 := b6.cell (i := 1) rfl
 have z2 := b6.cell (i := 2) rfl
 have f0 := b6.frozen (i := 0)
 have f1 := b6.frozen (i := 1)
 have f2 := b6.frozen (i := 2)
 have HC2 := Hi9 ((HC1.out.trans hc2 (by simp)).trans hch' (by simp))
 have HRG' := Hi9 hrg'; clear hrg' hch' hc2 hS b6 B6 HC1 HRG1 x0 x1 x2
 go_wp2_with fail
 have hcc := set3_ch (w := w2) (b := w.heap.size + 1) (u := .int .i64 R.1.1.most) (v := .slice (some ⟨rb', 0, none⟩) R.1.1.nodes.length cap') (x := .int .i64 R.1.2) rfl
 refine bodyPost_ret (v := .tuple #[.agg #[.int .i64 R.1.1.most, .slice (some ⟨rb', 0, none⟩) R.1.1.nodes.length cap', .int .i64 R.1.2], .int .i64 R.2]) (by simp [results, Tryz.results332, go_sem, z0, z1, z2]) rfl ?_
 exact ⟨rb', cap', rfl, HRG'.out.ch hcc (by simp; rcases hfr' with e | e <;> omega), HC2.out.trans hcc (fun k hk => .inr (by simp at hk; omega)), by rcases hfr' with e | e <;> omega⟩
theorem r23Any_is {w : World} {rb cap q : Nat} {G : Gra} (h : RG w rb cap G) {x : Option Addr} {l : List Nat} (n acap : Nat) (hn : l.length = n) (hs : Sl w x (l.map fun (r : Nat) => (r : Int))) (hr : ∀ r ∈ l, r < 2 * G.nodes.length) (hm : n ≤ 1000000) :
  Calls Tryz.prog 345 #[.agg #[.int .i64 G.most, .slice (some ⟨rb, 0, none⟩) G.nodes.length cap, .int .i64 q], .slice x n acap] w (STo w rb (rstep (G, q) (rAny G l))) := by
 have hrb := h.lt
 have hA := fun (W : World) (h0 : Ch [] w W) => rAny_is (h.ch h0 (by simp)) n acap hn (hs.ch h0 (by simp)) hr hm
 generalize rAny G l = X at *
 obtain ⟨G1, r1, e1⟩ := X
 have HA := Hi9 hA; clear hA
 have H := Hi9 h; clear h hs hr hn
 go_enter Tryz.func345, Tryz.ntmps345
 go_wp2_with fail
 refine calls_named fun W hW => ?_
 have b3 : blk W w.heap.size [.int .i64 G.most, .slice (some ⟨rb, 0, none⟩) G.nodes.length cap, .int .i64 q] := by rw [hW]; exact (blk.new' _ _ (by simp)).alloc _
 have b6 : blk W (w.heap.size + 1) [.int .i64 0, .slice none 0 0, .int .i64 0] := by rw [hW]; exact blk.new' _ _ (by simp)
 have hc : Ch [] w W := by rw [hW]; exact ((Ch.refl _ _).alloc _).alloc _
 clear hW
 refine (HA.out W hc).mono ?_
 rintro e w1 ⟨rb1, cap1, rfl, hrg1, hch1, hfr1⟩
 have hz := b6.lt
 have b3 := b3.ch hch1 (by simp)
 have b6 := b6.ch hch1 (by simp)
 have hz1 := b6.lt
 have hz0 := b3.lt
 have x0 := b3.cell (i := 0) rfl
 have x1 := b3.cell (i := 1) rfl
 have x2 := b3.cell (i := 2) rfl
 have hc1 := hc.trans hch1 (by simp)
 have B6 := Hi9 b6; clear b6 b3
 have HC1 := Hi9 hc1; clear hc1
 have HRG1 := Hi9 hrg1; clear hrg1
 have hne : rb1 ≠ w.heap.size + 1 := by rcases hfr1 with e | e <;> omega
 have hfr2 : rb1 = rb ∨ w.heap.size ≤ rb1 := by have := hc.size; rcases hfr1 with e | e <;> omega
 clear hch1 hc HA hfr1
 go_wp2_with fail
 refine calls_named fun W2 hW2 => ?_
 have hc2 : Ch [] w1 W2 := by rw [hW2]; exact (Ch.refl _ _).alloc _
 clear hW2
 have hS := r23step_is (q := q) (H.out.ch (HC1.out.trans hc2 (by simp)) (by simp)) (HRG1.out.ch hc2 (by simp)) r1 e1
 refine hS.mono ?_
 rintro e w2 ⟨rb', cap', rfl, hrg', hch', hfr'⟩
 generalize rstep (G, q) (G1, r1, e1) = R at *
 have b6 := (B6.out.ch hc2 (by simp)).ch hch' (by simp)
 have z0 := b6.cell (i := 0) rfl
 have z1 := b6.cell (i := 1) rfl
 have z2 := b6.cell (i := 2) rfl
 have f0 := b6.frozen (i := 0)
 have f1 := b6.frozen (i := 1)
 have f2 := b6.frozen (i := 2)
 have HC2 := Hi9 ((HC1.out.trans hc2 (by simp)).trans hch' (by simp))
 have HRG' := Hi9 hrg'; clear hrg' hch' hc2 hS b6 B6 HC1 HRG1 x0 x1 x2
 go_wp2_with fail
 have hcc := set3_ch (w := w2) (b := w.heap.size + 1) (u := .int .i64 R.1.1.most) (v := .slice (some ⟨rb', 0, none⟩) R.1.1.nodes.length cap') (x := .int .i64 R.1.2) rfl
 refine bodyPost_ret (v := .tuple #[.agg #[.int .i64 R.1.1.most, .slice (some ⟨rb', 0, none⟩) R.1.1.nodes.length cap', .int .i64 R.1.2], .int .i64 R.2]) (by simp [results, Tryz.results345, go_sem, z0, z1, z2]) rfl ?_
 exact ⟨rb', cap', rfl, HRG'.out.ch hcc (by simp; rcases hfr' with e | e <;> omega), HC2.out.trans hcc (fun k hk => .inr (by simp at hk; omega)), by rcases hfr' with e | e <;> omega⟩
end
end Go.Proofs.YtehljgigebhddaaGreat
namespace Go.Aig
theorem eachF_sok' {G : Gra} {s : Mk} (hs : SOk G s) {f : Gra → Nat → Nat → Res} (hf : Full2 f) (l : List (Nat × Nat)) (hl : ∀ p ∈ l, p.1 < 2 * s.1.nodes.length ∧ p.2 < 2 * s.1.nodes.length) : LOk s.1 (eachF (rop f) s l) := by
 have : ∀ (l : List (Nat × Nat)) (q : Mk × List Nat), LOk s.1 q → (∀ p ∈ l, p.1 < 2 * s.1.nodes.length ∧ p.2 < 2 * s.1.nodes.length) → LOk s.1 (l.foldl (eachS (rop f)) q) := by
  intro l
  induction l with
  | nil => intro q h _; exact h
  | cons p l ih =>
   intro q h hl
   obtain ⟨h1, h2⟩ := hl p (List.mem_cons_self ..)
   obtain ⟨k1, k2, k3⟩ := rstep_sok h.s (Y := f q.1.1 p.1 p.2) (fun _ => hf q.1.1 h.s.ok p.1 p.2 (h.s.ext.lt h1) (h.s.ext.lt h2))
   exact ih _ (LOk.snoc h k1 k3 k2) (fun p hp => hl p (List.mem_cons_of_mem _ hp))
 exact this l _ ⟨⟨hs.ok, .refl _, hs.err⟩, by simp⟩ hl
theorem eachF_len' (op : Mk → Nat → Nat → Mk × Nat) (s : Mk) (l : List (Nat × Nat)) : (eachF op s l).2.length = l.length := by
 have : ∀ (l : List (Nat × Nat)) (q : Mk × List Nat), (l.foldl (eachS op) q).2.length = q.2.length + l.length := by
  intro l
  induction l with
  | nil => intro q; rfl
  | cons p l ih => intro q; rw [List.foldl_cons, ih]; simp [eachS]; omega
 have h := this l (s, [])
 rw [List.length_nil, Nat.zero_add] at h
 exact h
end Go.Aig
namespace Go.Proofs.YtehljgigebhddaaGreat
open Go.RowKit Go.Mem Go.Aig
theorem natInts_snoc' (l : List Nat) (r : Nat) : intCells (natInts (l ++ [r])) = intCells (natInts l) ++ [.int .i64 r] := by simp [intCells, natInts]
theorem sl_lt' {w : World} {a : Option Addr} {l : List Int} (h : Sl w a l) (h0 : 0 < l.length) : ∀ p, a = some p → p.block < w.heap.size := fun p hp => by
 obtain ⟨b, o, e, hc⟩ := h.cells 0 _ (List.getElem?_eq_getElem h0)
 rw [hp] at e; cases e
 exact cell_lt hc
theorem set3_blk {w W : World} {b : Nat} {c0 c1 c2 u v x : Value} (h : blk w b [c0, c1, c2]) (hW : W = ((w.setCell ⟨b, 0, none⟩ u).setCell ⟨b, 1, none⟩ v).setCell ⟨b, 2, none⟩ x) : blk W b [u, v, x] := by
 rw [hW]; exact ((h.set (i := 0) _).set (i := 1) _).set (i := 2) _
structure RSt (w W : World) (rb0 rb cap : Nat) (s : Mk) (v : Value) (l : List Nat) : Prop where
 ch : Ch [] w W
 rg : RG W rb cap s.1
 fr : rb = rb0 ∨ w.heap.size + 2 ≤ rb
 b4 : blk W w.heap.size [.int .i64 s.1.most, .slice (some ⟨rb, 0, none⟩) s.1.nodes.length cap, .int .i64 s.2]
 b8 : blk W (w.heap.size + 1) [.int .i64 0, .slice none 0 0, .int .i64 0]
 rw : row W 3 1 v l.length (intCells (natInts l))
 own : ∀ q, v.ownBlock = some q → w.heap.size + 2 ≤ q ∧ q ≠ rb
 low : rb0 < w.heap.size
theorem RSt.start {w W : World} {rb cap : Nat} {G : Gra} {q : Nat} (h : RG w rb cap G) {o : Obj} (hW : W = (w.alloc o).alloc (.cells #[.int .i64 0, .slice none 0 0, .int .i64 0] 214)) (ho : o = .cells #[.int .i64 G.most, .slice (some ⟨rb, 0, none⟩) G.nodes.length cap, .int .i64 q] 214) : RSt w W rb rb cap (G, q) (.slice none 0 0) [] := by
 subst ho
 have hc : Ch [] w W := by rw [hW]; exact ((Ch.refl _ _).alloc _).alloc _
 refine ⟨hc, h.ch hc (by simp), .inl rfl, by rw [hW]; exact (blk.new' _ _ rfl).alloc _, by rw [hW]; exact blk.new' _ _ (by simp), ⟨rfl, .inl ⟨rfl, rfl⟩⟩, by simp [Value.ownBlock], h.lt⟩
section
variable {w W W' : World} {rb0 rb cap : Nat} {s : Mk} {v : Value} {l : List Nat}
theorem RSt.same (h : RSt w W rb0 rb cap s v l) (hc : Ch [] W W') : RSt w W' rb0 rb cap s v l :=
 ⟨h.ch.trans hc (by simp), h.rg.ch hc (by simp), h.fr, h.b4.ch hc (by simp), h.b8.ch hc (by simp), h.rw.ch hc (by simp), h.own, h.low⟩
theorem RSt.lt (h : RSt w W rb0 rb cap s v l) : w.heap.size + 2 ≤ W.heap.size := h.b8.lt
theorem RSt.put {Wb : World} {rb' cap' q' : Nat} {G' : Gra} (h : RSt w Wb rb0 rb cap s v l) (hc : Ch [] Wb W) (hr : RG W rb' cap' G') (hf : rb' = rb ∨ Wb.heap.size ≤ rb')
  (hW : W' = ((W.setCell ⟨w.heap.size, 0, none⟩ (.int .i64 G'.most)).setCell ⟨w.heap.size, 1, none⟩ (.slice (some ⟨rb', 0, none⟩) G'.nodes.length cap')).setCell ⟨w.heap.size, 2, none⟩ (.int .i64 q')) : RSt w W' rb0 rb' cap' (G', q') v l := by
 have hcs := set3_ch hW
 have hlo := h.lt
 have hfr := h.fr
 have hl0 := h.low
 refine ⟨(h.ch.trans hc (by simp)).trans hcs (fun k hk => .inr (by simp at hk; omega)), hr.ch hcs (by simp; rcases hf with e | e <;> omega), by rcases hf with e | e <;> omega, set3_blk (h.b4.ch hc (by simp)) hW, (h.b8.ch hc (by simp)).ch hcs (by simp), (h.rw.ch hc (by simp)).ch hcs (fun k hk => by have := (h.own k hk).1; simp; omega), fun q hq => ⟨(h.own q hq).1, ?_⟩, hl0⟩
 have h1 := (h.own q hq).2
 have h2 := (h.rw.lt q hq).2
 rcases hf with e | e <;> omega
theorem RSt.app {na : Option Addr} {nc r : Nat} {o : Obj} {wz : World} {v' : Value} (h : RSt w W rb0 rb cap s (.slice na l.length nc) l) (hrow : row wz 3 1 v' (l.length + 1) (intCells (natInts l) ++ [.int .i64 r]))
  (hc : Ch (Value.slice na l.length nc).ownBlock.toList (W.alloc o) wz) (hf : ∀ k, v'.ownBlock = some k → (Value.slice na l.length nc).ownBlock = some k ∨ (W.alloc o).heap.size ≤ k) : RSt w wz rb0 rb cap s v' (l ++ [r]) := by
 have hcA : Ch [] W (W.alloc o) := (Ch.refl _ _).alloc _
 have hA := h.same hcA
 have hlo := h.lt
 have hown : ∀ k ∈ (Value.slice na l.length nc).ownBlock.toList, w.heap.size + 2 ≤ k ∧ k ≠ rb := fun k hk => h.own k (by simpa using hk)
 have hz := hcA.size
 have hzz := hc.size
 have hrl := h.rg.lt
 refine ⟨hA.ch.trans hc (fun k hk => .inr (by have := hown k hk; omega)), hA.rg.ch hc (fun hk => (hown _ hk).2 rfl), h.fr, hA.b4.ch hc (fun hk => by have := hown _ hk; omega), hA.b8.ch hc (fun hk => by have := hown _ hk; omega), ?_, fun q hq => ?_, h.low⟩
 ·rw [natInts_snoc', List.length_append]; exact hrow
 ·rcases hf q hq with e | e
  ·exact h.own q e
  ·exact ⟨by omega, by omega⟩
end
def TS (wr wd : World) (rbk : Nat) (R : Mk × Nat) (p q : Value) : Prop := ∃ rb' cap' b9, p = .pointer (some ⟨b9, 0, none⟩) ∧ q = .int .i64 R.2 ∧ Ch [] wr wd ∧ RG wd rb' cap' R.1.1 ∧ (rb' = rbk ∨ wr.heap.size ≤ rb') ∧
 blk wd b9 [.int .i64 R.1.1.most, .slice (some ⟨rb', 0, none⟩) R.1.1.nodes.length cap', .int .i64 R.1.2] ∧ wr.heap.size ≤ b9
theorem TS.mk {wr W W8 : World} {rbk : Nat} {R : Mk × Nat} {rb' cap' b9 : Nat} {c0 c1 c2 : Value} (hc : Ch [] wr W) (hr : RG W rb' cap' R.1.1) (hf : rb' = rbk ∨ wr.heap.size ≤ rb') (hb : blk W b9 [c0, c1, c2]) (hlo : wr.heap.size ≤ b9) (hne : rb' ≠ b9)
  (hW : W8 = ((W.setCell ⟨b9, 0, none⟩ (.int .i64 R.1.1.most)).setCell ⟨b9, 1, none⟩ (.slice (some ⟨rb', 0, none⟩) R.1.1.nodes.length cap')).setCell ⟨b9, 2, none⟩ (.int .i64 R.1.2)) :
  TS wr W8 rbk R (.pointer (some ⟨b9, 0, none⟩)) (.int .i64 R.2) := by
 have hcs := set3_ch hW
 exact ⟨rb', cap', b9, rfl, rfl, hc.trans hcs (fun k hk => .inr (by simp at hk; omega)), hr.ch hcs (by simpa using hne), hf, set3_blk hb hW, hlo⟩
def LTo (w : World) (rb : Nat) (R : Mk × List Nat) (e : Ending) (w' : World) : Prop := ∃ rb' cap' a c, e = .returned (.tuple #[.agg #[.int .i64 R.1.1.most, .slice (some ⟨rb', 0, none⟩) R.1.1.nodes.length cap', .int .i64 R.1.2], .slice a R.2.length c]) ∧ RG w' rb' cap' R.1.1 ∧ Ch [] w w' ∧ (rb' = rb ∨ w.heap.size ≤ rb') ∧ row w' 3 1 (.slice a R.2.length c) R.2.length (intCells (natInts R.2)) ∧ ∀ q, (Value.slice a R.2.length c).ownBlock = some q → w.heap.size ≤ q ∧ q ≠ rb'
section
variable {w W W' : World} {rb0 rb cap : Nat} {s : Mk} {v : Value} {l : List Nat}
theorem RSt.fin {na : Option Addr} {nc : Nat} (h : RSt w W rb0 rb cap s (.slice na l.length nc) l) (hW : W' = ((W.setCell ⟨w.heap.size + 1, 0, none⟩ (.int .i64 s.1.most)).setCell ⟨w.heap.size + 1, 1, none⟩ (.slice (some ⟨rb, 0, none⟩) s.1.nodes.length cap)).setCell ⟨w.heap.size + 1, 2, none⟩ (.int .i64 s.2)) :
  LTo w rb0 (s, l) (.returned (.tuple #[.agg #[.int .i64 s.1.most, .slice (some ⟨rb, 0, none⟩) s.1.nodes.length cap, .int .i64 s.2], .slice na l.length nc])) W' := by
 have hcs := set3_ch hW
 have hfr := h.fr
 have hl0 := h.low
 exact ⟨rb, cap, na, nc, rfl, h.rg.ch hcs (by simp; omega), h.ch.trans hcs (fun k hk => .inr (by simp at hk; omega)), by omega, h.rw.ch hcs (fun k hk => by have := (h.own k hk).1; simp; omega), fun q hq => ⟨by have := (h.own q hq).1; omega, (h.own q hq).2⟩⟩
theorem RSt.finS (h : RSt w W rb0 rb cap s v l) {r : Nat} (hW : W' = ((W.setCell ⟨w.heap.size + 1, 0, none⟩ (.int .i64 s.1.most)).setCell ⟨w.heap.size + 1, 1, none⟩ (.slice (some ⟨rb, 0, none⟩) s.1.nodes.length cap)).setCell ⟨w.heap.size + 1, 2, none⟩ (.int .i64 s.2)) :
  STo w rb0 (s, r) (.returned (.tuple #[.agg #[.int .i64 s.1.most, .slice (some ⟨rb, 0, none⟩) s.1.nodes.length cap, .int .i64 s.2], .int .i64 r])) W' := by
 have hcs := set3_ch hW
 have hfr := h.fr
 have hl0 := h.low
 exact ⟨rb, cap, rfl, h.rg.ch hcs (by simp; omega), h.ch.trans hcs (fun k hk => .inr (by simp at hk; omega)), by omega⟩
end
end Go.Proofs.YtehljgigebhddaaGreat
namespace Go.Aig
def negS (R : Mk × Nat) : Mk × Nat := (R.1, neg R.2)
def subW (n : Nat) (s : Mk) (x y : List Nat) : Mk × List Nat := sumW n s (x.zip (y.map neg)) 1
end Go.Aig
namespace Go.Proofs.YtehljgigebhddaaGreat
open Go.RowKit Go.Mem Go.Aig
section
variable {w W w1 W' : World} {rb0 rb cap : Nat} {s : Mk} {v : Value} {l : List Nat}
theorem RSt.outL (h : RSt w W rb0 rb cap s v l) {R : Mk × List Nat} {rb' cap' : Nat} {a : Option Addr} {c : Nat} (hr : RG w1 rb' cap' R.1.1) (hc : Ch [] W w1) (hf : rb' = rb ∨ W.heap.size ≤ rb') (hrow : row w1 3 1 (.slice a R.2.length c) R.2.length (intCells (natInts R.2))) (hown : ∀ q, (Value.slice a R.2.length c).ownBlock = some q → W.heap.size ≤ q ∧ q ≠ rb')
  (hW : W' = ((w1.setCell ⟨w.heap.size + 1, 0, none⟩ (.int .i64 R.1.1.most)).setCell ⟨w.heap.size + 1, 1, none⟩ (.slice (some ⟨rb', 0, none⟩) R.1.1.nodes.length cap')).setCell ⟨w.heap.size + 1, 2, none⟩ (.int .i64 R.1.2)) :
  LTo w rb0 R (.returned (.tuple #[.agg #[.int .i64 R.1.1.most, .slice (some ⟨rb', 0, none⟩) R.1.1.nodes.length cap', .int .i64 R.1.2], .slice a R.2.length c])) W' := by
 have hcs := set3_ch hW
 have hfr := h.fr
 have hl0 := h.low
 have hlt := h.lt
 refine ⟨rb', cap', a, c, rfl, hr.ch hcs (by simp; omega), (h.ch.trans hc (by simp)).trans hcs (fun k hk => .inr (by simp at hk; omega)), by omega, hrow.ch hcs (fun k hk => ?_), fun q hq => ?_⟩
 ·have := (hown k hk).1; simp; omega
 ·have := hown q hq; omega
theorem RSt.outS (h : RSt w W rb0 rb cap s v l) {R : Mk × Nat} {rb' cap' : Nat} (hr : RG w1 rb' cap' R.1.1) (hc : Ch [] W w1) (hf : rb' = rb ∨ W.heap.size ≤ rb')
  (hW : W' = ((w1.setCell ⟨w.heap.size + 1, 0, none⟩ (.int .i64 R.1.1.most)).setCell ⟨w.heap.size + 1, 1, none⟩ (.slice (some ⟨rb', 0, none⟩) R.1.1.nodes.length cap')).setCell ⟨w.heap.size + 1, 2, none⟩ (.int .i64 R.1.2)) :
  STo w rb0 R (.returned (.tuple #[.agg #[.int .i64 R.1.1.most, .slice (some ⟨rb', 0, none⟩) R.1.1.nodes.length cap', .int .i64 R.1.2], .int .i64 R.2])) W' := by
 have hcs := set3_ch hW
 have hfr := h.fr
 have hl0 := h.low
 have hlt := h.lt
 exact ⟨rb', cap', rfl, hr.ch hcs (by simp; omega), (h.ch.trans hc (by simp)).trans hcs (fun k hk => .inr (by simp at hk; omega)), by omega⟩
end
section
variable {w : World} {rb cap : Nat} {G : Gra}
end
section
variable {w : World} {rb cap : Nat} {G : Gra}
theorem r23Each10Q_is (h : RG w rb cap G) {qe : Nat} (hqe : qe = 0 ∨ qe = 201) {xa ya : Option Addr} {X Y : List Nat} (n xc yc : Nat) (hX : Sl w xa (natInts X)) (hY : Sl w ya (natInts Y)) (hn : X.length = n) (hm : Y.length = n) (hn0 : n ≤ 1000) (hxr : ∀ r ∈ X, r < 2 * G.nodes.length) (hyr : ∀ r ∈ Y, r < 2 * G.nodes.length) :
  Calls Tryz.prog 353 #[.agg #[.int .i64 G.most, .slice (some ⟨rb, 0, none⟩) G.nodes.length cap, .int .i64 qe], .int .i64 10, .slice xa n xc, .slice ya n yc] w (LTo w rb (eachF (rop rXor) (G, qe) (X.zip Y))) := by
 have hok := h.ok
 obtain ⟨Z, hZ⟩ : ∃ Z, Z = X.zip Y := ⟨_, rfl⟩
 have hZl : Z.length = n := by rw [hZ, List.length_zip, hn, hm]; omega
 have hZlt : ∀ p ∈ Z, p.1 < 2 * G.nodes.length ∧ p.2 < 2 * G.nodes.length := by rw [hZ]; exact fun p hp => ⟨hxr _ (List.of_mem_zip hp).1, hyr _ (List.of_mem_zip hp).2⟩
 have hZG : ∀ (j a b : Nat), Z[j]? = some (a, b) → X[j]? = some a ∧ Y[j]? = some b := fun j a b h => by rw [hZ] at h; exact List.getElem?_zip_eq_some.1 h
 rw [← hZ]
 have hElok := fun z (hz : ∀ p ∈ z, p ∈ Z) => eachF_sok' (G := G) (show SOk G (G, qe) from ⟨hok, .refl _, hqe⟩) full_xor z (fun p hp => hZlt p (hz p hp))
 have hEsn := fun z a b => eachF_snoc (rop rXor) (G, qe) z (a, b)
 have hE0 : eachF (rop rXor) (G, qe) [] = ((G, qe), []) := rfl
 have hElen := fun z => eachF_len' (rop rXor) (G, qe) z
 obtain ⟨E, hE⟩ : ∃ E : List (Nat × Nat) → Mk × List Nat, E = eachF (rop rXor) (G, qe) := ⟨_, rfl⟩
 rw [← hE] at hElok hEsn hE0 hElen ⊢
 clear hE hZ hxr hyr
 have HX := Hi9 hX; clear hX
 have HY := Hi9 hY; clear hY
 have HN := Hi9 hn; clear hn
 have HM2 := Hi9 hm; clear hm
 have H := Hi9 h; clear h
 have HELOK := Hi9 hElok; clear hElok
 have HESN := Hi9 hEsn; clear hEsn
 have HE0 := Hi9 hE0; clear hE0
 have HELEN := Hi9 hElen; clear hElen
 have HZL := Hi9 hZl; clear hZl
 have HZG := Hi9 hZG; clear hZG
 have HZLT := Hi9 hZlt; clear hZlt hok
 go_enter Tryz.func353, Tryz.ntmps353
 go_wp2_with fail
 refine wp_alw ?_
 intro W0 hW0
 have hst := RSt.start H.out hW0 rfl
 clear hW0
 have HST := Hi9 hst; clear hst
 go_loopw [10, 11] (fun nx i wr => ∃ (j rbk capk : Nat), j ≤ n ∧ i = .int .i64 j ∧ RSt w wr rb rbk capk (E (Z.take j)).1 nx (E (Z.take j)).2) (fun _ i _ => n - (intOf i).toNat)
 case atStart => exact ⟨0, rb, cap, by omega, rfl, by rw [List.take_zero, HE0.out]; exact HST.out⟩
 case round =>
  clear HST
  obtain ⟨j, rbk, capk, hj, rfl, hst⟩ := hrel
  by_cases hjn : j < n
  ·obtain ⟨⟨a, b⟩, hab⟩ : ∃ p, Z[j]? = some p := ⟨_, List.getElem?_eq_getElem (by rw [HZL.out]; exact hjn)⟩
   obtain ⟨hla, hlb⟩ := HZG.out j a b hab
   obtain ⟨hav, hbv⟩ := HZLT.out _ (List.mem_of_getElem? hab)
   have hsn : Z.take (j + 1) = Z.take j ++ [(a, b)] := by rw [List.take_add_one, hab]; rfl
   have hEs := HESN.out (Z.take j) a b
   rw [← hsn] at hEs
   have hlk := HELOK.out (Z.take j) (fun p hp => List.mem_of_mem_take hp)
   have hlen := HELEN.out (Z.take j)
   rw [List.length_take, HZL.out, Nat.min_eq_left hj] at hlen
   generalize hEE : E (Z.take (j + 1)) = EN at hEs
   generalize E (Z.take j) = ES at hEs hlk hst hlen
   obtain ⟨⟨G2, q2⟩, l2⟩ := ES
   simp only at hst hlen
   have hav : a < 2 * G2.nodes.length := hlk.s.ext.lt hav
   have hbv : b < 2 * G2.nodes.length := hlk.s.ext.lt hbv
   unfold eachS rop at hEs
   simp only at hEs
   have hM := fun (W : World) (hW : Ch [] wr W) => r23Xor_is (q := q2) (hst.rg.ch hW (by simp)) hav hbv
   obtain ⟨⟨⟨G3, q3⟩, p3⟩, hR⟩ : ∃ R : Mk × Nat, R = rstep (G2, q2) (rXor G2 a b) := ⟨_, rfl⟩
   simp only [← hR] at hEs hM
   subst hEs
   clear hR hlk hsn hab hav hbv
   have HEN := Hi9 hEE; clear hEE
   have HM := Hi9 hM; clear hM
   have HLEN := Hi9 hlen; clear hlen
   have HST := Hi9 hst; clear hst
   obtain ⟨ab, ao, ae, ac⟩ := HX.out.cells j (a : Int) (by simp [natInts, hla])
   have a0 : wr.cell? ⟨ab, ao + j, none⟩ = some (.int .i64 a) := (HST.out.ch.cell (cell_lt ac) (by simp)).trans ac
   subst ae
   clear ac
   obtain ⟨bb, bo, be, bc⟩ := HY.out.cells j (b : Int) (by simp [natInts, hlb])
   have b0 : wr.cell? ⟨bb, bo + j, none⟩ = some (.int .i64 b) := (HST.out.ch.cell (cell_lt bc) (by simp)).trans bc
   subst be
   clear bc
   clear hla hlb
   have hb4 := HST.out.b4
   have y0 := hb4.cell (i := 0) rfl
   have y1 := hb4.cell (i := 1) rfl
   have y2 := hb4.cell (i := 2) rfl
   clear hb4
   go_upto_region 6 with fail
   refine wp_alw ?_
   intro W5 hW5
   have hb12 : blk W5 wr.heap.size [.int .i64 G2.most, .slice (some ⟨rbk, 0, none⟩) G2.nodes.length capk, .int .i64 q2] := by rw [hW5]; exact blk.new' _ _ rfl
   have hc5 : Ch [] wr W5 := by rw [hW5]; exact (Ch.refl [] wr).alloc _
   clear hW5 y0 y1 y2
   replace a0 := (hc5.cell (cell_lt a0) (by simp)).trans a0
   replace b0 := (hc5.cell (cell_lt b0) (by simp)).trans b0
   have hb4 := (HST.out.same hc5).b4
   have y0 := hb4.cell (i := 0) rfl
   have y1 := hb4.cell (i := 1) rfl
   have y2 := hb4.cell (i := 2) rfl
   clear hb4
   have HC5 := Hi9 hc5; clear hc5
   have HB12 := Hi9 hb12; clear hb12
   go_wp2_with fail
   refine Ord.St.door (fun _ => True) [.rd, .fl, .fl, .fl, .rd, .fl, .fl, .fl, .rd, .ef, .fl, .fl, .fl, .ef, .fl] [0, 0, 0, 6, 14, 0, 0, 96, 224, 511, 1023, 2047, 2047, 4095, 16383] [0, 1, 2, 3, 4, 5, 6, 7, 8, 9, 10, 11, 12, 13, 14] mixed (by kernel_rfl) rfl ?_
   (refine Ord.Q9 ?_ (fun K hk => ?_) ?_; rotate_left; focus (go_step; exact hk))
   iterate 3 (refine Ord.F9 ?_ (fun K w' hk => ?_) ?_; rotate_left; focus (go_step; exact hk))
   (refine Ord.Q9 ?_ (fun K hk => ?_) ?_; rotate_left; focus (go_step; exact hk))
   iterate 3 (refine Ord.F9 ?_ (fun K w' hk => ?_) ?_; rotate_left; focus (go_step; exact hk))
   (refine Ord.Q9 ?_ (fun K hk => ?_) ?_; rotate_left; focus (go_step; exact hk))
   refine Ord.St.ef 9 [10, 11, 12, 13, 14] _ rfl (by kernel_rfl) (fun K hK => ?_)
   go_wp2_with fail
   refine (HM.out _ HC5.out.drew).mono ?_
   rintro e w7 ⟨rb2, cap2, rfl, hrg2, hch, hfr3⟩
   have hb12 := (HB12.out.ch (Ch.refl [] W5).drew (by simp)).ch hch (by simp)
   have hc7 : Ch [] wr w7 := HC5.out.drew.trans hch (by simp)
   have hfr : rb2 = rbk ∨ wr.heap.size ≤ rb2 := by have := HC5.out.size; rcases hfr3 with e | e; (left; exact e); (right; have h9 : W5.heap.size ≤ rb2 := e; omega)
   have hne : rb2 ≠ wr.heap.size := by have h8 := HST.out.rg.lt; have h9 := HB12.out.lt; rcases hfr3 with e | e; omega; (have h7 : W5.heap.size ≤ rb2 := e; omega)
   have z0 := hb12.cell (i := 0) rfl
   have z1 := hb12.cell (i := 1) rfl
   have z2 := hb12.cell (i := 2) rfl
   have g0 := hb12.frozen (i := 0)
   have g1 := hb12.frozen (i := 1)
   have g2 := hb12.frozen (i := 2)
   have HRG2 := Hi9 hrg2; clear hrg2
   have HB7 := Hi9 hb12; clear hb12
   have HC7 := Hi9 hc7; clear hc7 hch hfr3
   clear a0 b0 y0 y1 y2
   go_wp2_with fail
   refine ⟨rfl, hK _ _ ?_⟩; clear hK K
   iterate 3 (refine Ord.F9 ?_ (fun K w' hk => ?_) ?_; rotate_left; focus (go_step; exact hk))
   refine Ord.St.ef 13 [14] _ rfl (by kernel_rfl) (fun K hK => ?_)
   go_wp2_with fail
   refine ⟨rfl, hK _ _ ?_⟩; clear hK K
   (refine Ord.F9 ?_ (fun K w' hk => ?_) ?_; rotate_left; focus (go_step; exact hk))
   refine Ord.St.nil ?_
   go_upto_region 12 with fail
   refine wp_alw ?_
   intro W8 hW8
   have hb8 := set3_blk HB7.out hW8
   have hcs := set3_ch hW8
   have hc8 : Ch [] wr W8 := HC7.out.trans hcs (fun k hk => .inr (by simp at hk; omega))
   have hrg8 := HRG2.out.ch hcs (by simpa using hne)
   clear hW8 hcs HB7 HRG2 HC7 z0 z1 z2 g0 g1 g2
   have x0 := hb8.cell (i := 0) rfl
   have x1 := hb8.cell (i := 1) rfl
   have x2 := hb8.cell (i := 2) rfl
   have hbp := (HST.out.same hc8).b4
   have f0 := hbp.frozen (i := 0)
   have f1 := hbp.frozen (i := 1)
   have f2 := hbp.frozen (i := 2)
   have y0 := hbp.cell (i := 0) rfl
   have y1 := hbp.cell (i := 1) rfl
   have y2 := hbp.cell (i := 2) rfl
   clear hbp
   have HCX := Hi9 hc8; clear hc8
   have HRX := Hi9 hrg8; clear hrg8
   have HBX := Hi9 hb8; clear hb8
   go_upto_region 13 with fail
   refine wp_alw ?_
   intro W9 hW9
   have hst := HST.out.put HCX.out HRX.out hfr hW9
   clear hW9 x0 x1 x2 y0 y1 y2 f0 f1 f2 HRX HBX
   obtain ⟨na, nc, rfl⟩ := row.shape hst.rw
   have hlen9 : l2.length = j := HLEN
   have hrA := (hst.same (W' := W9.alloc (.cells #[.int .i64 p3] 3)) ((Ch.refl _ _).alloc _)).rw
   have hbA : blk (W9.alloc (.cells #[.int .i64 p3] 3)) W9.heap.size [.int .i64 p3] := blk.new' _ _ rfl
   rw [hlen9] at hrA
   have HRA := Hi9 hrA; clear hrA
   have HBA := Hi9 hbA; clear hbA
   have HS9 := Hi9 hst; clear hst
   go_wp2_with (at_builtin; go_loud (refine wpList_append_row slInts rfl _ _ rfl (v := .slice na l2.length nc) (n := l2.length) (xs := intCells (natInts l2)) rfl (by rw [HLEN.out]; exact HRA.out) (ad := ⟨W9.heap.size, 0, none⟩) (m := 1) (c := 1) (news := [.int .i64 p3]) rfl rfl (news_blk HBA.out) (by simp [Value.oneCell']) (by omega) (by omega) ?_; intro v' wz hown4 hC4 hf4; have HO4 := Hi9 hown4; clear hown4; have HC4 := Hi9 hC4; clear hC4; have HF4 := Hi9 hf4; clear hf4))
   go_roundw
   case rel => exact ⟨j + 1, rb2, cap2, by omega, by go_num, by rw [HEN.out]; exact HS9.out.app HO4.out HC4.out HF4.out⟩
   case measure => simp [intOf]; omega
  ·have hall : Z.take j = Z := List.take_of_length_le (by rw [HZL.out]; omega)
   rw [hall] at hst
   obtain ⟨⟨⟨G2, q2⟩, l2⟩, hES⟩ : ∃ ES, ES = E Z := ⟨_, rfl⟩
   rw [← hES] at hst
   simp only at hst
   have HES := Hi9 hES; clear hES
   obtain ⟨na, nc, rfl⟩ := row.shape hst.rw
   have y0 := hst.b4.cell (i := 0) rfl
   have y1 := hst.b4.cell (i := 1) rfl
   have y2 := hst.b4.cell (i := 2) rfl
   have v0 := hst.b8.cell (i := 0) rfl
   have v1 := hst.b8.cell (i := 1) rfl
   have v2 := hst.b8.cell (i := 2) rfl
   have g0 := hst.b8.frozen (i := 0)
   have g1 := hst.b8.frozen (i := 1)
   have g2 := hst.b8.frozen (i := 2)
   have hl8 := hst.b8.lt
   have HST := Hi9 hst; clear hst
   go_wp2_with fail
   refine bodyPost_ret (v := .tuple #[.agg #[.int .i64 G2.most, .slice (some ⟨rbk, 0, none⟩) G2.nodes.length capk, .int .i64 q2], .slice na l2.length nc]) (by simp [results, Tryz.results353, go_sem, v0, v1, v2]) rfl ?_
   show LTo w rb (E Z) _ _
   rw [← HES.out]
   exact HST.out.fin rfl
theorem r23NeQ_is (h : RG w rb cap G) {qe : Nat} (hqe : qe = 0 ∨ qe = 201) {xa ya : Option Addr} {X Y : List Nat} (n xc yc : Nat) (hX : Sl w xa (natInts X)) (hY : Sl w ya (natInts Y)) (hn : X.length = n) (hm : Y.length = n) (hn0 : n ≤ 1000) (hxr : ∀ r ∈ X, r < 2 * G.nodes.length) (hyr : ∀ r ∈ Y, r < 2 * G.nodes.length) :
  Calls Tryz.prog 344 #[.agg #[.int .i64 G.most, .slice (some ⟨rb, 0, none⟩) G.nodes.length cap, .int .i64 qe], .slice xa n xc, .slice ya n yc] w (STo w rb (neF (G, qe) (X.zip Y))) := by
 have hS := fun (W : World) (hW : Ch [] w W) => r23Each10Q_is (h.ch hW (by simp)) hqe n xc yc (hX.ch hW (by simp)) (hY.ch hW (by simp)) hn hm hn0 hxr hyr
 have hlk := eachF_sok' (G := G) (s := (G, qe)) ⟨h.ok, .refl _, hqe⟩ full_xor (X.zip Y) (fun p hp => ⟨hxr _ (List.of_mem_zip hp).1, hyr _ (List.of_mem_zip hp).2⟩)
 have hll : (eachF (rop rXor) (G, qe) (X.zip Y)).2.length = n := by rw [eachF_len', List.length_zip, hn, hm]; omega
 have hne : neF (G, qe) (X.zip Y) = rstep (eachF (rop rXor) (G, qe) (X.zip Y)).1 (rAny (eachF (rop rXor) (G, qe) (X.zip Y)).1.1 (eachF (rop rXor) (G, qe) (X.zip Y)).2) := rfl
 rw [hne]
 clear hne
 generalize eachF (rop rXor) (G, qe) (X.zip Y) = R at *
 obtain ⟨⟨G1, q1⟩, l1⟩ := R
 have hA := fun (W : World) (rb1 cap1 : Nat) (hr : RG W rb1 cap1 G1) (a : Option Addr) (c : Nat) (hs : Sl W a (natInts l1)) => r23Any_is (q := q1) hr l1.length c rfl hs hlk.lt (by simp only at hll; omega)
 simp only
 generalize rstep (G1, q1) (rAny G1 l1) = R2 at *
 obtain ⟨⟨G2, q2⟩, p2⟩ := R2
 have HS := Hi9 hS; clear hS
 have HA := Hi9 hA; clear hA
 have H := Hi9 h; clear h hX hY hn hm hxr hyr hlk
 have hl1 : l1.length ≤ 1000 := by simp only at hll; omega
 clear hll
 go_enter Tryz.func344, Tryz.ntmps344
 go_wp2_with fail
 refine calls_named fun W hW => ?_
 have hst := RSt.start H.out hW rfl
 clear hW
 refine (HS.out W hst.ch).mono ?_
 rintro e w1 ⟨rb', cap', a, c, rfl, hrg, hch, hfr, hrow, hown⟩
 simp only at hrow hown
 have hsl := Sl.of_ints hrow (by omega)
 have HST := Hi9 hst; clear hst
 have HRG := Hi9 hrg; clear hrg
 have HCH := Hi9 hch; clear hch
 have HSL := Hi9 hsl; clear hsl hrow hown
 go_upto_region 2 with fail
 refine wp_alw ?_
 intro W8 hW8
 have hb8 : blk W8 w1.heap.size [.int .i64 G1.most, .slice (some ⟨rb', 0, none⟩) G1.nodes.length cap', .int .i64 q1] := by rw [hW8]; exact blk.new' _ _ rfl
 have hcA : Ch [] w1 W8 := by rw [hW8]; exact (Ch.refl _ _).alloc _
 have hc8 : Ch [] W W8 := HCH.out.trans hcA (by simp)
 have hrg8 := HRG.out.ch hcA (by simp)
 have hA8 := HA.out W8 rb' cap' hrg8 a c (HSL.out.ch hcA (by simp))
 clear hW8 HRG hcA HA hrg8
 have x0 := hb8.cell (i := 0) rfl
 have x1 := hb8.cell (i := 1) rfl
 have x2 := hb8.cell (i := 2) rfl
 have HA8 := Hi9 hA8; clear hA8 hb8
 have HC8 := Hi9 hc8; clear hc8
 go_wp2_with fail
 refine HA8.out.mono ?_
 rintro e w9 ⟨rb2, cap2, rfl, hrg2, hch2, hfr2⟩
 have hfrr : rb2 = rb ∨ W.heap.size ≤ rb2 := by have := HC8.out.size; rcases hfr2 with e | e; (rcases hfr with e2 | e2; left; omega; right; omega); (right; omega)
 have hc9 := HC8.out.trans hch2 (by simp)
 have b8 := HST.out.b8.ch hc9 (by simp)
 have z0 := b8.cell (i := 0) rfl
 have z1 := b8.cell (i := 1) rfl
 have z2 := b8.cell (i := 2) rfl
 have f0 := b8.frozen (i := 0)
 have f1 := b8.frozen (i := 1)
 have f2 := b8.frozen (i := 2)
 have hl8 := b8.lt
 have HRG2 := Hi9 hrg2; clear hrg2 b8
 have HC9 := Hi9 hc9; clear hc9 hch2 x0 x1 x2
 go_wp2_with fail
 refine bodyPost_ret (v := .tuple #[.agg #[.int .i64 G2.most, .slice (some ⟨rb2, 0, none⟩) G2.nodes.length cap2, .int .i64 q2], .int .i64 p2]) (by simp [results, Tryz.results344, go_sem, z0, z1, z2]) rfl ?_
 exact HST.out.outS (R := ((G2, q2), p2)) HRG2.out HC9.out hfrr rfl
theorem r23EqQ_is (h : RG w rb cap G) {qe : Nat} (hqe : qe = 0 ∨ qe = 201) {xa ya : Option Addr} {X Y : List Nat} (n xc yc : Nat) (hX : Sl w xa (natInts X)) (hY : Sl w ya (natInts Y)) (hn : X.length = n) (hm : Y.length = n) (hn0 : n ≤ 1000) (hxr : ∀ r ∈ X, r < 2 * G.nodes.length) (hyr : ∀ r ∈ Y, r < 2 * G.nodes.length) (hp : (neF (G, qe) (X.zip Y)).2 ≤ 1000000) :
  Calls Tryz.prog 322 #[.agg #[.int .i64 G.most, .slice (some ⟨rb, 0, none⟩) G.nodes.length cap, .int .i64 qe], .slice xa n xc, .slice ya n yc] w (STo w rb (negS (neF (G, qe) (X.zip Y)))) := by
 have hS := fun (W : World) (hW : Ch [] w W) => r23NeQ_is (h.ch hW (by simp)) hqe n xc yc (hX.ch hW (by simp)) (hY.ch hW (by simp)) hn hm hn0 hxr hyr
 unfold negS
 generalize neF (G, qe) (X.zip Y) = R at *
 obtain ⟨⟨G1, q1⟩, p1⟩ := R
 simp only at hp
 have hN := fun (W : World) => rNot_is W p1 (by omega)
 have HN := Hi9 hN; clear hN
 have HS := Hi9 hS; clear hS
 have H := Hi9 h; clear h hX hY hn hm hxr hyr
 go_enter Tryz.func322, Tryz.ntmps322
 go_wp2_with fail
 refine calls_named fun W hW => ?_
 have hst := RSt.start H.out hW rfl
 clear hW
 refine (HS.out W hst.ch).mono ?_
 rintro e w1 ⟨rb', cap', rfl, hrg, hch, hfr⟩
 have HST := Hi9 hst; clear hst
 have HRG := Hi9 hrg; clear hrg
 have HCH := Hi9 hch; clear hch
 go_upto_region 2 with fail
 refine wp_alw ?_
 intro W8 hW8
 have hb8 : blk W8 w1.heap.size [.int .i64 G1.most, .slice (some ⟨rb', 0, none⟩) G1.nodes.length cap', .int .i64 q1] := by rw [hW8]; exact blk.new' _ _ rfl
 have hcA : Ch [] w1 W8 := by rw [hW8]; exact (Ch.refl _ _).alloc _
 have hc8 : Ch [] W W8 := HCH.out.trans hcA (by simp)
 have hrg8 := HRG.out.ch hcA (by simp)
 clear hW8 HRG hcA
 have x0 := hb8.cell (i := 0) rfl
 have x1 := hb8.cell (i := 1) rfl
 have x2 := hb8.cell (i := 2) rfl
 have b8 := HST.out.b8.ch hc8 (by simp)
 have z0 := b8.cell (i := 0) rfl
 have z1 := b8.cell (i := 1) rfl
 have z2 := b8.cell (i := 2) rfl
 have f0 := b8.frozen (i := 0)
 have f1 := b8.frozen (i := 1)
 have f2 := b8.frozen (i := 2)
 have hl8 := b8.lt
 have HRG2 := Hi9 hrg8; clear hrg8 b8 hb8
 have HC9 := Hi9 hc8; clear hc8
 go_wp2_with fail
 refine Ord.St.door (fun _ => True) [.rd, .fl, .fl, .ef, .fl] [0, 0, 2, 7, 15] [0, 1, 2, 3, 4] mixed (by kernel_rfl) rfl ?_
 (refine Ord.Q9 ?_ (fun K hk => ?_) ?_; rotate_left; focus (go_step; exact hk))
 (refine Ord.F9 ?_ (fun K w' hk => ?_) ?_; rotate_left; focus (go_step; exact hk))
 refine Ord.G9 ?_ 2 [3, 4] (fun K w' hk => ?_) ?_
 rotate_left
 ·go_step; refine (HN.out _).mono ?_; rintro e w'' ⟨rfl, rfl⟩; exact hk
 refine Ord.St.ef 3 [4] _ rfl (by kernel_rfl) (fun K hK => ?_)
 go_wp2_with fail
 refine ⟨rfl, hK _ _ ?_⟩; clear hK K
 (refine Ord.F9 ?_ (fun K w' hk => ?_) ?_; rotate_left; focus (go_step; exact hk))
 refine Ord.St.nil ?_
 go_wp2_with fail
 refine bodyPost_ret (v := .tuple #[.agg #[.int .i64 G1.most, .slice (some ⟨rb', 0, none⟩) G1.nodes.length cap', .int .i64 q1], .int .i64 (neg p1 : Nat)]) (by simp [results, Tryz.results322, go_sem, z0, z1, z2]) rfl ?_
 exact HST.out.outS (R := ((G1, q1), neg p1)) (HRG2.out.ch (Ch.refl [] _).drew (by simp)) HC9.out.drew hfr rfl
end
end Go.Proofs.YtehljgigebhddaaGreat
namespace Go.Aig
end Go.Aig
namespace Go.Proofs.YtehljgigebhddaaGreat
open Go.RowKit Go.Mem Go.Aig
theorem run_storeFunc {P : Program} {w : World} {a : Addr} {m : Mode} (f : Fn) (b c : Array Value) : (store a (.func f b c) m).run P w = stored P w a (.func f b c) m := run_store P w a _ m rfl
attribute [local go_sem] run_storeFunc
section
variable {w0 w1 w : World} {F0 : List Nat} {g : Nat} {G : Gra} {F : List Nat} {L : List (Value × List Int)} {bok bout bfn : Nat} {ok : Bool} {oa : Option Addr} {m oc : Nat} {vs : List Value}
end
end Go.Proofs.YtehljgigebhddaaGreat
namespace Go.Aig
def rightB (n : Int) : Bool := decide (1 ≤ n) && decide (n ≤ 16)
end Go.Aig
namespace Go.Proofs.YtehljgigebhddaaGreat
open Go.RowKit Go.Mem Go.Aig
section
variable {w : World}
end
end Go.Proofs.YtehljgigebhddaaGreat
namespace Go.Aig
def shL (side : Nat) (x : List Int) (n : Nat) : List Int := (List.range x.length).map fun i => if side = 1 then (if n ≤ i then x.getD (i - n) 0 else 0) else x.getD (i + n) 0
@[simp] theorem shL_len (side : Nat) (x : List Int) (n : Nat) : (shL side x n).length = x.length := by simp [shL]
end Go.Aig
namespace Go.Proofs.YtehljgigebhddaaGreat
open Go.RowKit Go.Mem Go.Aig
section
variable {w : World}
end
end Go.Proofs.YtehljgigebhddaaGreat
namespace Go.Aig
def turnL (x : List Int) (n : Int) : List Int := let k := (n.emod x.length).toNat; x.drop k ++ x.take k
end Go.Aig
namespace Go.Proofs.YtehljgigebhddaaGreat
open Go.RowKit Go.Mem Go.Aig
section
variable {w : World}
end
end Go.Proofs.YtehljgigebhddaaGreat
namespace Go.Aig
def wstep (s : Mk) (R : Gra × List Nat × Nat) : Mk × List Nat := if s.2 ≠ 0 then (s, []) else if R.2.2 ≠ 0 then ((s.1, R.2.2), []) else ((R.1, 0), R.2.1)
def addR (G : Gra) (x y : List Nat) : Gra × List Nat × Nat := wres G (sumW x.length (G, 0) (x.zip y) 0)
def andsF (s : Mk) (b : Nat) (l : List Nat) : Mk × List Nat := eachF (rop and) s (l.map fun a => (a, b))
def prodS (x : List Nat) (q : Mk × List Nat) (p : Nat × Nat) : Mk × List Nat :=
 if p.2 = 0 then ((andsF q.1 p.1 (x.take (x.length - p.2))).1, List.replicate p.2 0 ++ (andsF q.1 p.1 (x.take (x.length - p.2))).2)
 else wstep (andsF q.1 p.1 (x.take (x.length - p.2))).1 (addR (andsF q.1 p.1 (x.take (x.length - p.2))).1.1 q.2 (List.replicate p.2 0 ++ (andsF q.1 p.1 (x.take (x.length - p.2))).2))
def prodF (x : List Nat) (s : Mk) (y : List Nat) : Mk × List Nat := y.zipIdx.foldl (prodS x) (s, [])
section
variable {x y : List Nat} {s : Mk} {Gp : Gra} {ol : List Nat} {k b : Nat} (hst : prodF x s (y.take k) = ((Gp, 0), ol)) (hb : y[k]? = some b)
include hst hb
end
theorem chF_keep (c : Nat) {s : Mk} (h : s.2 ≠ 0) (l : List (Nat × Nat)) : (chF c s l).1 = s := chF_bad c s [] h l
section
variable {d : List Nat} {s : Mk} {l : List Nat} {k b : Nat} (hb : l[k]? = some b)
include hb
end
end Go.Aig
namespace Go
end Go
namespace Go.Proofs.YtehljgigebhddaaGreat
open Go.RowKit Go.Mem Go.Aig
attribute [local go_sem] Oper.semAt_some
section
variable {w : World} {g : Nat} {G : Gra} {F T0 : List Nat}
end
attribute [local go_sem] Oper.semAt_some
section
variable {w : World} {g : Nat} {G : Gra} {F : List Nat}
end
end Go.Proofs.YtehljgigebhddaaGreat
namespace Go.Aig
theorem List.snocRec {α : Type} {motive : List α → Prop} (nil : motive []) (snoc : ∀ l x, motive l → motive (l ++ [x])) (l : List α) : motive l := by
 have : ∀ n (l : List α), l.length = n → motive l := by
  intro n
  induction n with
  | zero => intro l hl; rw [List.eq_nil_of_length_eq_zero hl]; exact nil
  | succ n ih =>
   intro l hl
   have hne : l ≠ [] := by intro e; rw [e] at hl; simp at hl
   rw [← List.dropLast_concat_getLast hne]
   exact snoc _ _ (ih _ (by rw [List.length_dropLast]; omega))
 exact this l.length l rfl
def SameE {A : Type} (a b : Mk × A) : Prop := a.1.2 = b.1.2 ∧ (a.1.2 = 0 → a = b)
theorem SameE.refl {A : Type} (a : Mk × A) : SameE a a := ⟨rfl, fun _ => rfl⟩
theorem chF_sok {G : Gra} {s : Mk} (hs : SOk G s) {c : Nat} (hc : c < 2 * s.1.nodes.length) (l : List (Nat × Nat)) (hl : ∀ p ∈ l, p.1 < 2 * s.1.nodes.length ∧ p.2 < 2 * s.1.nodes.length) : LOk s.1 (chF c s l) := by
 have : ∀ (l : List (Nat × Nat)) (q : Mk × List Nat), LOk s.1 q → (∀ p ∈ l, p.1 < 2 * s.1.nodes.length ∧ p.2 < 2 * s.1.nodes.length) → LOk s.1 (l.foldl (eachS (fun s a b => sMux s c a b)) q) := by
  intro l
  induction l with
  | nil => intro q h _; exact h
  | cons p l ih =>
   intro q h hl
   obtain ⟨h1, h2⟩ := hl p (List.mem_cons_self ..)
   obtain ⟨k1, k2, k3⟩ := rstep_sok h.s (Y := rMux q.1.1 c p.1 p.2) (fun _ => rMux_full h.s.ok (h.s.ext.lt hc) (h.s.ext.lt h1) (h.s.ext.lt h2))
   exact ih _ (LOk.snoc h k1 k3 k2) (fun p hp => hl p (List.mem_cons_of_mem _ hp))
 exact this l _ ⟨⟨hs.ok, .refl _, hs.err⟩, by simp⟩ hl
theorem chF_len (c : Nat) (s : Mk) (l : List (Nat × Nat)) : (chF c s l).2.length = l.length := eachF_len' _ s l
end Go.Aig
namespace Go.Proofs.YtehljgigebhddaaGreat
open Go.RowKit Go.Mem Go.Aig
section
variable {w W W' : World} {rb0 rb cap qb : Nat} {s : Mk} {v v' : Value} {l l' Q : List Nat} {K K' : List (Value × List Nat)}
end
end Go.Proofs.YtehljgigebhddaaGreat
namespace Go.Aig
theorem eachX_keep {s : Mk} (h : s.2 ≠ 0) (f : Gra → Nat → Nat → Res) : ∀ (l : List (Nat × Nat)) (q : Mk × List Nat), q.1 = s → (l.foldl (eachS (rop f)) q).1 = s
 | [], q, e => e
 | p :: l, q, e => by
  rw [List.foldl_cons]
  refine eachX_keep h f l _ ?_
  unfold eachS rop
  rw [e, rstep_bad h]
theorem neF_keep {s : Mk} (h : s.2 ≠ 0) (l : List (Nat × Nat)) : (neF s l).1 = s := by
 unfold neF sAny
 have e : (eachF (rop rXor) s l).1 = s := eachX_keep h rXor l (s, []) rfl
 rw [e, rstep_bad h]
def req (s : Mk) (x y : List Nat) : Mk × Nat := negS (neF s (x.zip y))
theorem req_keep {s : Mk} (h : s.2 ≠ 0) (x y : List Nat) : (req s x y).1 = s := neF_keep h _
theorem eq_same {s : Mk} {x y : List Nat} {n : Nat} (hx : x.length = n) (hy : y.length = n) (h1 : 1 ≤ n) (h17 : n ≤ 17) (hxr : ∀ r ∈ x, r < 2 * s.1.nodes.length) (hyr : ∀ r ∈ y, r < 2 * s.1.nodes.length) : SameE (rstep s (eqW s.1 x y)) (req s x y) := by
 by_cases h0 : s.2 = 0
 ·obtain ⟨G, e⟩ := s
  simp only at h0 hxr hyr
  subst h0
  have hc := chk2_ok hx hy h1 h17 hxr hyr
  unfold req eqW refG
  simp only
  rw [if_neg (by simpa using hc)]
  generalize neF (G, 0) (x.zip y) = V
  obtain ⟨⟨G1, q⟩, p⟩ := V
  unfold rres negS
  by_cases hq : q = 0
  ·subst hq
   exact ⟨rfl, fun _ => rfl⟩
  ·simp only
   rw [if_pos hq]
   unfold negG
   simp only
   rw [if_pos hq]
   unfold rstep
   simp only [ne_eq, not_true_eq_false, if_false]
   rw [if_pos hq]
   exact ⟨rfl, fun h => absurd h hq⟩
 ·rw [rstep_bad h0]
  exact ⟨by rw [req_keep h0], fun h => absurd h h0⟩
theorem req_ok {G : Gra} {s : Mk} (hs : SOk G s) {x y : List Nat} (hxr : ∀ r ∈ x, r < 2 * s.1.nodes.length) (hyr : ∀ r ∈ y, r < 2 * s.1.nodes.length) : VOk s.1 (req s x y) := by
 have h := eachF_sok' hs full_xor (x.zip y) (fun p hp => ⟨hxr _ (List.of_mem_zip hp).1, hyr _ (List.of_mem_zip hp).2⟩)
 obtain ⟨h1, h2, h3⟩ := rstep_sok h.s (Y := rAny (eachF (rop rXor) s (x.zip y)).1.1 (eachF (rop rXor) s (x.zip y)).2) (fun _ => rAny_full h.s.ok h.lt)
 exact ⟨h1, neg_lt h2⟩
theorem SOk.of {G : Gra} {s s' : Mk} (hs : SOk G s) (h : SOk s.1 s') : SOk G s' := ⟨h.ok, hs.ext.trans h.ext, h.err⟩
theorem LOk.of {G : Gra} {s : Mk} {R : Mk × List Nat} (hs : SOk G s) (h : LOk s.1 R) : LOk G R := ⟨hs.of h.s, h.lt⟩
def ris (s : Mk) (y : List Nat) (n i : Nat) : Mk × Nat := req s y (constL i n)
theorem constL_lt9 {G : Gra} (hG : Ok G) (i n : Nat) : ∀ r ∈ constL i n, r < 2 * G.nodes.length := fun r hr => by have := constL_le i n r hr; have := hG.wf.pos; omega
theorem is_same {G : Gra} {s : Mk} (hs : SOk G s) {y : List Nat} {n : Nat} (hy : y.length = n) (h1 : 1 ≤ n) (h17 : n ≤ 17) (hyr : ∀ r ∈ y, r < 2 * s.1.nodes.length) (i : Nat) : SameE (isR s y n i) (ris s y n i) :=
 eq_same hy (constL_len i n) h1 h17 hyr (constL_lt9 hs.ok i n)
theorem ris_ok {G : Gra} {s : Mk} (hs : SOk G s) {y : List Nat} (hyr : ∀ r ∈ y, r < 2 * s.1.nodes.length) (n i : Nat) : VOk s.1 (ris s y n i) := req_ok hs hyr (constL_lt9 hs.ok i n)
theorem fold_same {A B : Type} {f g : Mk × A → B → Mk × A} (hf : ∀ q b, q.1.2 ≠ 0 → (f q b).1 = q.1) (hg : ∀ q b, q.1.2 ≠ 0 → (g q b).1 = q.1) (q0 : Mk × A) : ∀ l : List B,
  (∀ a b, a ++ [b] <+: l → SameE (f (a.foldl g q0) b) (g (a.foldl g q0) b)) → SameE (l.foldl f q0) (l.foldl g q0) := by
 intro l
 induction l using List.snocRec with
 | nil => intro _; exact .refl _
 | snoc l b ih =>
  intro h
  have ih := ih (fun a c hp => h a c (hp.trans (List.prefix_append l [b])))
  have hb := h l b (List.prefix_refl _)
  rw [List.foldl_append, List.foldl_append]
  show SameE (f (l.foldl f q0) b) (g (l.foldl g q0) b)
  generalize l.foldl f q0 = p at *
  generalize l.foldl g q0 = q at *
  by_cases h0 : p.1.2 = 0
  ·rw [ih.2 h0]; exact hb
  ·have h1 : q.1.2 ≠ 0 := by rw [← ih.1]; exact h0
   exact ⟨by rw [hf p b h0, hg q b h1]; exact ih.1, fun h => by rw [hf p b h0] at h; exact absurd h h0⟩
def rreadS (L : List (List Nat)) (y : List Nat) (n : Nat) (q : Mk × List Nat) (i : Nat) : Mk × List Nat := chF (ris q.1 y n i).2 (ris q.1 y n i).1 ((L.getD i []).zip q.2)
def rreadF (s : Mk) (L : List (List Nat)) (y : List Nat) (n width k : Nat) : Mk × List Nat := (List.range k).foldl (rreadS L y n) (s, List.replicate width 0)
theorem rreadF_succ (s : Mk) (L : List (List Nat)) (y : List Nat) (n width k : Nat) : rreadF s L y n width (k + 1) = rreadS L y n (rreadF s L y n width k) k := by
 unfold rreadF; rw [List.range_succ, List.foldl_append]; rfl
theorem rreadS_keep (L : List (List Nat)) (y : List Nat) (n : Nat) (q : Mk × List Nat) (i : Nat) (h : q.1.2 ≠ 0) : (rreadS L y n q i).1 = q.1 := by
 unfold rreadS
 have e : (ris q.1 y n i).1 = q.1 := req_keep h _ _
 rw [chF_keep _ (by rw [e]; exact h), e]
theorem readS_keep (L : List (List Nat)) (y : List Nat) (n : Nat) (q : Mk × List Nat) (i : Nat) (h : q.1.2 ≠ 0) : (readS L y n q i).1 = q.1 := by
 have e : (isR q.1 y n i).1 = q.1 := isR_bad h y n i
 rw [readS_bad (by rw [e]; exact h), e]
theorem ch_same {A B : Mk × Nat} (h : SameE A B) (l : List (Nat × Nat)) : SameE (chF A.2 A.1 l) (chF B.2 B.1 l) := by
 by_cases h0 : A.1.2 = 0
 ·rw [h.2 h0]; exact .refl _
 ·have h1 : B.1.2 ≠ 0 := by rw [← h.1]; exact h0
  exact ⟨by rw [chF_keep _ h0, chF_keep _ h1]; exact h.1, fun h => by rw [chF_keep _ h0] at h; exact absurd h h0⟩
structure WdsOk (G : Gra) (width : Nat) (L : List (List Nat)) : Prop where
 len : ∀ x ∈ L, x.length = width
 lt : ∀ x ∈ L, ∀ r ∈ x, r < 2 * G.nodes.length
theorem WdsOk.at {G : Gra} {width : Nat} {L : List (List Nat)} (h : WdsOk G width L) {i : Nat} (hi : i < L.length) : (L.getD i []).length = width ∧ ∀ r ∈ L.getD i [], r < 2 * G.nodes.length := by
 have e : L.getD i [] = L[i] := by rw [List.getD_eq_getElem?_getD, List.getElem?_eq_getElem hi]; rfl
 rw [e]
 exact ⟨h.len _ (List.getElem_mem hi), h.lt _ (List.getElem_mem hi)⟩
theorem rreadF_ok {G : Gra} {s : Mk} (hs : SOk G s) {L : List (List Nat)} {y : List Nat} {width : Nat} (hL : WdsOk G width L) (hy : ∀ r ∈ y, r < 2 * G.nodes.length) (n : Nat) : ∀ k, k ≤ L.length → LOk G (rreadF s L y n width k) ∧ (rreadF s L y n width k).2.length = width := by
 intro k
 induction k with
 | zero => intro _; exact ⟨⟨hs, fun r hr => by rw [show (rreadF s L y n width 0).2 = List.replicate width 0 from rfl, List.mem_replicate] at hr; have := hs.ok.wf.pos; show r < 2 * s.1.nodes.length; omega⟩, by simp [rreadF]⟩
 | succ k ih =>
  intro hk
  obtain ⟨h1, h2⟩ := ih (by omega)
  obtain ⟨hl, hr⟩ := hL.at (i := k) (by omega)
  rw [rreadF_succ]
  generalize rreadF s L y n width k = q at *
  have hi := ris_ok h1.s (fun r hr => h1.s.ext.lt (hy r hr)) n k
  have hc := chF_sok hi.s hi.lt ((L.getD k []).zip q.2) (fun p hp => ⟨hi.s.ext.lt (h1.s.ext.lt (hr _ (List.of_mem_zip hp).1)), hi.s.ext.lt (h1.lt _ (List.of_mem_zip hp).2)⟩)
  refine ⟨LOk.of h1.s (LOk.of hi.s hc), ?_⟩
  show (chF _ _ _).2.length = width
  rw [chF_len, List.length_zip, hl, h2]; omega
theorem read_same {G : Gra} (hG : Ok G) {L : List (List Nat)} {y : List Nat} {n width k : Nat} (hL : WdsOk G width L) (hyl : y.length = n) (h1 : 1 ≤ n) (h17 : n ≤ 17) (hy : ∀ r ∈ y, r < 2 * G.nodes.length) (hk : k ≤ L.length) : SameE (readF G L y n width k) (rreadF (G, 0) L y n width k) := by
 refine fold_same (fun q b h => readS_keep L y n q b h) (fun q b h => rreadS_keep L y n q b h) _ _ (fun a b hp => ?_)
 have ha : a = List.range a.length ∧ a.length < k := by
  obtain ⟨t, ht⟩ := hp
  have hl := congrArg List.length ht
  simp at hl
  refine ⟨?_, by omega⟩
  have := congrArg (List.take a.length) ht
  rw [List.append_assoc, List.take_left', List.take_range] at this
  ·rw [Nat.min_eq_left (by omega)] at this; exact this
  ·rfl
 rw [ha.1]
 show SameE (readS L y n (rreadF (G, 0) L y n width a.length) b) (rreadS L y n (rreadF (G, 0) L y n width a.length) b)
 have hok := (rreadF_ok (.start hG) hL hy n a.length (by omega)).1
 exact ch_same (is_same hok.s hyl h1 h17 (fun r hr => hok.s.ext.lt (hy r hr)) b) _
def rwriteS (c : Nat) (x : List Nat) (L : List (List Nat)) (y : List Nat) (n : Nat) (q : Mk × List (List Nat)) (i : Nat) : Mk × List (List Nat) :=
 ((chF (rstep (ris q.1 y n i).1 (and (ris q.1 y n i).1.1 c (ris q.1 y n i).2)).2 (rstep (ris q.1 y n i).1 (and (ris q.1 y n i).1.1 c (ris q.1 y n i).2)).1 (x.zip (L.getD i []))).1,
 q.2.set i (chF (rstep (ris q.1 y n i).1 (and (ris q.1 y n i).1.1 c (ris q.1 y n i).2)).2 (rstep (ris q.1 y n i).1 (and (ris q.1 y n i).1.1 c (ris q.1 y n i).2)).1 (x.zip (L.getD i []))).2)
def rwriteF (s : Mk) (c : Nat) (x : List Nat) (L : List (List Nat)) (y : List Nat) (n k : Nat) : Mk × List (List Nat) := (List.range k).foldl (rwriteS c x L y n) (s, L)
theorem rwriteF_succ (s : Mk) (c : Nat) (x : List Nat) (L : List (List Nat)) (y : List Nat) (n k : Nat) : rwriteF s c x L y n (k + 1) = rwriteS c x L y n (rwriteF s c x L y n k) k := by
 unfold rwriteF; rw [List.range_succ, List.foldl_append]; rfl
theorem rwriteS_keep (c : Nat) (x : List Nat) (L : List (List Nat)) (y : List Nat) (n : Nat) (q : Mk × List (List Nat)) (i : Nat) (h : q.1.2 ≠ 0) : (rwriteS c x L y n q i).1 = q.1 := by
 have e : (ris q.1 y n i).1 = q.1 := req_keep h _ _
 have e2 : (rstep (ris q.1 y n i).1 (and (ris q.1 y n i).1.1 c (ris q.1 y n i).2)).1 = q.1 := by rw [rstep_bad (by rw [e]; exact h), e]
 unfold rwriteS
 show (chF _ _ _).1 = _
 rw [chF_keep _ (by rw [e2]; exact h), e2]
theorem writeS_keep (c : Nat) (x : List Nat) (L : List (List Nat)) (y : List Nat) (n : Nat) (q : Mk × List (List Nat)) (i : Nat) (h : q.1.2 ≠ 0) : (writeS c x L y n q i).1 = q.1 := by
 have e : (isR q.1 y n i).1 = q.1 := isR_bad h y n i
 rw [writeS_bad (by rw [e]; exact h), e]
theorem and_same {A B : Mk × Nat} (h : SameE A B) (c : Nat) : SameE (rstep A.1 (and A.1.1 c A.2)) (rstep B.1 (and B.1.1 c B.2)) := by
 by_cases h0 : A.1.2 = 0
 ·rw [h.2 h0]; exact .refl _
 ·have h1 : B.1.2 ≠ 0 := by rw [← h.1]; exact h0
  rw [rstep_bad h0, rstep_bad h1]
  exact ⟨h.1, fun h => absurd h h0⟩
theorem SameE.img {A A' : Type} {a b : Mk × A} (h : SameE a b) (f : A → A') : SameE (a.1, f a.2) (b.1, f b.2) := ⟨h.1, fun h0 => by have := h.2 h0; subst this; rfl⟩
theorem rwriteF_ok {G : Gra} {s : Mk} (hs : SOk G s) {c : Nat} {x y : List Nat} {L : List (List Nat)} {width : Nat} (hc : c < 2 * G.nodes.length) (hx : ∀ r ∈ x, r < 2 * G.nodes.length) (hxl : x.length = width) (hL : WdsOk G width L) (hy : ∀ r ∈ y, r < 2 * G.nodes.length) (n : Nat) :
  ∀ k, k ≤ L.length → SOk G (rwriteF s c x L y n k).1 ∧ (rwriteF s c x L y n k).2.length = L.length ∧ ∀ z ∈ (rwriteF s c x L y n k).2, z.length = width := by
 intro k
 induction k with
 | zero => intro _; exact ⟨hs, rfl, hL.len⟩
 | succ k ih =>
  intro hk
  obtain ⟨h1, h2, h3⟩ := ih (by omega)
  obtain ⟨hl, hr⟩ := hL.at (i := k) (by omega)
  rw [rwriteF_succ]
  generalize rwriteF s c x L y n k = q at *
  have hi := ris_ok h1 (fun r hr => h1.ext.lt (hy r hr)) n k
  obtain ⟨k1, k2, k3⟩ := rstep_sok hi.s (Y := and (ris q.1 y n k).1.1 c (ris q.1 y n k).2) (fun _ => and_full hi.s.ok (hi.s.ext.lt (h1.ext.lt hc)) hi.lt)
  have hc := chF_sok k1 k2 (x.zip (L.getD k [])) (fun p hp => ⟨k1.ext.lt (h1.ext.lt (hx _ (List.of_mem_zip hp).1)), k1.ext.lt (h1.ext.lt (hr _ (List.of_mem_zip hp).2))⟩)
  refine ⟨SOk.of h1 (SOk.of k1 hc.s), by unfold rwriteS; simp only [List.length_set]; exact h2, fun z hz => ?_⟩
  rcases List.mem_or_eq_of_mem_set hz with hz | rfl
  ·exact h3 z hz
  ·rw [chF_len, List.length_zip, hxl, hl]; omega
theorem range_pre {k : Nat} {a : List Nat} {b : Nat} (hp : a ++ [b] <+: List.range k) : a = List.range a.length ∧ a.length < k := by
 obtain ⟨t, ht⟩ := hp
 have hl := congrArg List.length ht
 simp at hl
 refine ⟨?_, by omega⟩
 have := congrArg (List.take a.length) ht
 rw [List.append_assoc, List.take_left', List.take_range] at this
 ·rw [Nat.min_eq_left (by omega)] at this; exact this
 ·rfl
theorem write_same {G : Gra} (hG : Ok G) {c : Nat} {x y : List Nat} {L : List (List Nat)} {n width k : Nat} (hc : c < 2 * G.nodes.length) (hx : ∀ r ∈ x, r < 2 * G.nodes.length) (hxl : x.length = width) (hL : WdsOk G width L) (hyl : y.length = n) (h1 : 1 ≤ n) (h17 : n ≤ 17) (hy : ∀ r ∈ y, r < 2 * G.nodes.length) (hk : k ≤ L.length) : SameE (writeF G c x L y n k) (rwriteF (G, 0) c x L y n k) := by
 refine fold_same (fun q b h => writeS_keep c x L y n q b h) (fun q b h => rwriteS_keep c x L y n q b h) _ _ (fun a b hp => ?_)
 have ha := range_pre hp
 rw [ha.1]
 show SameE (writeS c x L y n (rwriteF (G, 0) c x L y n a.length) b) (rwriteS c x L y n (rwriteF (G, 0) c x L y n a.length) b)
 have hok := (rwriteF_ok (.start hG) hc hx hxl hL hy n a.length (by omega)).1
 have hi := is_same hok hyl h1 h17 (fun r hr => hok.ext.lt (hy r hr)) b
 exact (ch_same (and_same hi c) (x.zip (L.getD b []))).img (fun z => (rwriteF (G, 0) c x L y n a.length).2.set b z)
def rallS (q : Mk × Nat) (r : Nat) : Mk × Nat := rstep q.1 (and q.1.1 q.2 r)
def rallF (s : Mk) (l : List Nat) : Mk × Nat := l.foldl rallS (s, 1)
theorem rallF_keep {s : Mk} (h : s.2 ≠ 0) (l : List Nat) : (rallF s l).1 = s := by
 unfold rallF
 have : ∀ (l : List Nat) (q : Mk × Nat), q.1 = s → (l.foldl rallS q).1 = s := by
  intro l
  induction l with
  | nil => intro q e; exact e
  | cons r l ih =>
   intro q e
   refine ih _ ?_
   unfold rallS
   rw [e, rstep_bad h]
 exact this l _ rfl
theorem rallF_ok {G : Gra} {s : Mk} (hs : SOk G s) (l : List Nat) (hl : ∀ r ∈ l, r < 2 * s.1.nodes.length) : VOk s.1 (rallF s l) := by
 unfold rallF
 have : ∀ (l : List Nat) (q : Mk × Nat), VOk s.1 q → (∀ r ∈ l, r < 2 * s.1.nodes.length) → VOk s.1 (l.foldl rallS q) := by
  intro l
  induction l with
  | nil => intro q h _; exact h
  | cons r l ih =>
   intro q h hl
   obtain ⟨k1, k2, k3⟩ := rstep_sok h.s (Y := and q.1.1 q.2 r) (fun _ => and_full h.s.ok h.lt (h.s.ext.lt (hl r (by simp))))
   exact ih _ ⟨k1, k2⟩ (fun z hz => hl z (by simp [hz]))
 exact this l _ ⟨⟨hs.ok, .refl _, hs.err⟩, by have := hs.ok.wf.pos; show 1 < 2 * s.1.nodes.length; omega⟩ hl
theorem rallF_snoc (s : Mk) (l : List Nat) (r : Nat) : rallF s (l ++ [r]) = rallS (rallF s l) r := by unfold rallF; rw [List.foldl_append]; rfl
theorem all_from (G0 : Gra) : ∀ (l : List Nat) (now : Gra) (out : Nat), rAllFrom G0 now out l = if (l.foldl rallS ((now, 0), out)).1.2 = 0 then ((l.foldl rallS ((now, 0), out)).1.1, (l.foldl rallS ((now, 0), out)).2, 0) else (G0, 0, (l.foldl rallS ((now, 0), out)).1.2)
 | [], now, out => by simp [rAllFrom]
 | r :: l, now, out => by
  unfold rAllFrom
  rw [List.foldl_cons]
  by_cases h : (and now out r).2.2 = 0
  ·have e : rallS ((now, 0), out) r = (((and now out r).1, 0), (and now out r).2.1) := by unfold rallS rstep; simp [h]
   rw [if_neg (by simp [h]), e]
   exact all_from G0 l _ _
  ·have e : rallS ((now, 0), out) r = ((now, (and now out r).2.2), 0) := by unfold rallS rstep; simp [h]
   have k : ∀ (l : List Nat) (q : Mk × Nat), q.1 = (now, (and now out r).2.2) → (l.foldl rallS q).1 = (now, (and now out r).2.2) := by
    intro l
    induction l with
    | nil => intro q e; exact e
    | cons z l ih =>
     intro q e
     refine ih _ ?_
     unfold rallS
     rw [e, rstep_bad h]
   rw [if_pos h, e, k l _ rfl, if_neg h]
theorem all_same (s : Mk) (l : List Nat) : SameE (rstep s (rAll s.1 l)) (rallF s l) := by
 by_cases h0 : s.2 = 0
 ·obtain ⟨G, e⟩ := s
  simp only at h0
  subst h0
  unfold rAll
  rw [all_from G l G 1]
  show SameE (rstep (G, 0) (if (rallF (G, 0) l).1.2 = 0 then _ else _)) (rallF (G, 0) l)
  by_cases h : (rallF (G, 0) l).1.2 = 0
  ·rw [if_pos h]
   have : rstep (G, 0) ((rallF (G, 0) l).1.1, (rallF (G, 0) l).2, 0) = rallF (G, 0) l := by
    unfold rstep
    simp only [ne_eq, not_true_eq_false, if_false]
    generalize rallF (G, 0) l = z at *
    obtain ⟨⟨z1, z2⟩, z3⟩ := z
    simp only at h
    subst h
    rfl
   show SameE (rstep (G, 0) ((rallF (G, 0) l).1.1, (rallF (G, 0) l).2, 0)) _
   rw [this]
   exact .refl _
  ·rw [if_neg h]
   show SameE (rstep (G, 0) (G, 0, (rallF (G, 0) l).1.2)) _
   have : rstep (G, 0) (G, 0, (rallF (G, 0) l).1.2) = ((G, (rallF (G, 0) l).1.2), 0) := by unfold rstep; simp [h]
   rw [this]
   exact ⟨rfl, fun e => absurd e h⟩
 ·rw [rstep_bad h0]
  exact ⟨by rw [rallF_keep h0], fun h => absurd h h0⟩
theorem all_sameE {A B : Mk × List Nat} (h : SameE A B) : SameE (rstep A.1 (rAll A.1.1 A.2)) (rallF B.1 B.2) := by
 by_cases h0 : A.1.2 = 0
 ·rw [h.2 h0]; exact all_same _ _
 ·have h1 : B.1.2 ≠ 0 := by rw [← h.1]; exact h0
  rw [rstep_bad h0]
  exact ⟨by rw [rallF_keep h1]; exact h.1, fun h => absurd h h0⟩
def reqS (q : Mk × List Nat) (p : List Nat × List Nat) : Mk × List Nat := ((req q.1 p.1 p.2).1, q.2 ++ [(req q.1 p.1 p.2).2])
def reqsF (s : Mk) (l : List (List Nat × List Nat)) : Mk × List Nat := l.foldl reqS (s, [])
theorem reqsF_snoc (s : Mk) (l : List (List Nat × List Nat)) (p : List Nat × List Nat) : reqsF s (l ++ [p]) = reqS (reqsF s l) p := by unfold reqsF; rw [List.foldl_append]; rfl
theorem reqsF_len (s : Mk) (l : List (List Nat × List Nat)) : (reqsF s l).2.length = l.length := by
 induction l using List.snocRec with
 | nil => rfl
 | snoc l p ih => rw [reqsF_snoc]; unfold reqS; simp [ih]
def requalF (s : Mk) (l : List (List Nat × List Nat)) : Mk × Nat := rallF (reqsF s l).1 (reqsF s l).2
structure PrsOk (G : Gra) (width : Nat) (l : List (List Nat × List Nat)) : Prop where
 len : ∀ p ∈ l, p.1.length = width ∧ p.2.length = width
 lt : ∀ p ∈ l, (∀ r ∈ p.1, r < 2 * G.nodes.length) ∧ ∀ r ∈ p.2, r < 2 * G.nodes.length
theorem reqsF_ok {G : Gra} {s : Mk} (hs : SOk G s) {width : Nat} : ∀ l, PrsOk G width l → LOk G (reqsF s l) := by
 intro l
 induction l using List.snocRec with
 | nil => intro _; exact ⟨hs, by simp [reqsF]⟩
 | snoc l p ih =>
  intro h
  have ih := ih ⟨fun p hp => h.len p (by simp [hp]), fun p hp => h.lt p (by simp [hp])⟩
  obtain ⟨h1, h2⟩ := h.lt p (by simp)
  rw [reqsF_snoc]
  have hv := req_ok ih.s (fun r hr => ih.s.ext.lt (h1 r hr)) (fun r hr => ih.s.ext.lt (h2 r hr))
  exact ih.snoc (ih.s.of hv.s) hv.s.ext hv.lt
theorem equal_same {G : Gra} (hG : Ok G) {width : Nat} (h1 : 1 ≤ width) (h17 : width ≤ 17) {l : List (List Nat × List Nat)} (hl : PrsOk G width l) : SameE (equalR G l) (requalF (G, 0) l) := by
 have h : SameE (eqsF G l) (reqsF (G, 0) l) := by
  refine fold_same (fun q p h => ?_) (fun q p h => ?_) _ _ (fun a p hp => ?_)
  ·unfold eqS; rw [rstep_bad h]
  ·unfold reqS; exact req_keep h _ _
  ·have hm : ∀ z ∈ a, z ∈ l := fun z hz => hp.subset (by simp [hz])
   have hok := reqsF_ok (.start hG) a ⟨fun z hz => hl.len z (hm z hz), fun z hz => hl.lt z (hm z hz)⟩
   have hpl := hp.subset (show p ∈ a ++ [p] by simp)
   show SameE (eqS (reqsF (G, 0) a) p) (reqS (reqsF (G, 0) a) p)
   exact (eq_same (hl.len p hpl).1 (hl.len p hpl).2 h1 h17 (fun r hr => hok.s.ext.lt ((hl.lt p hpl).1 r hr)) (fun r hr => hok.s.ext.lt ((hl.lt p hpl).2 r hr))).img (fun r => (reqsF (G, 0) a).2 ++ [r])
 exact all_sameE h
end Go.Aig
namespace Go.Proofs.YtehljgigebhddaaGreat
open Go.RowKit Go.Mem Go.Aig
attribute [local go_sem] Oper.semAt_some
section
variable {w A A' : World} {g c : Nat} {G Gp : Gra} {F F' : List Nat} {v : Value} {l : List Nat}
end
end Go.Proofs.YtehljgigebhddaaGreat
namespace Go.Aig
def shN (side : Nat) (x : List Nat) (n : Nat) : List Nat := (List.range x.length).map fun i => if side = 1 then (if n ≤ i then x.getD (i - n) 0 else 0) else x.getD (i + n) 0
@[simp] theorem shN_len (side : Nat) (x : List Nat) (n : Nat) : (shN side x n).length = x.length := by simp [shN]
@[simp] theorem turnL_len (x : List Int) (n : Int) : (turnL x n).length = x.length := by
 unfold turnL
 dsimp only
 by_cases hx : 0 < x.length
 ·have h1 := Int.emod_nonneg n (show (x.length : Int) ≠ 0 by omega)
  have h2 := Int.emod_lt_of_pos n (show (0 : Int) < x.length by omega)
  have e : n.emod x.length = n % x.length := rfl
  rw [List.length_append, List.length_drop, List.length_take]
  omega
 ·have : x = [] := List.eq_nil_of_length_eq_zero (by omega)
  subst this
  simp
/-! ### shifts by constants -/
instance : DecidableEq Gra := fun a b => decidable_of_iff (a.most = b.most ∧ a.nodes = b.nodes) ⟨fun h => by cases a; cases b; simp_all, fun h => by subst h; exact ⟨rfl, rfl⟩⟩
end Go.Aig
namespace Go.Proofs.YtehljgigebhddaaGreat
open Go.RowKit Go.Mem Go.Aig
section
variable {w : World}
theorem r25Right_is (n : Int) : Calls Tryz.prog 100 #[.int .i64 n] w fun e w' => e = .returned (.bool (rightB n)) ∧ w = w' := by
 have e : rightB n = (decide (0 < n) && decide (n < 17)) := by
  unfold rightB
  rw [show decide (1 ≤ n) = decide (0 < n) from by congr 1, show decide (n ≤ 16) = decide (n < 17) from by congr 1; exact propext ⟨fun h => by omega, fun h => by omega⟩]
 rw [e]
 clear e
 by_cases h : 0 < n
 ·have h1 : decide (0 < n) = true := decide_eq_true h
  go_enter Tryz.func100, Tryz.ntmps100
  go_wp2_with fail
  go_ret
  exact ⟨by rw [h1]; rfl, rfl⟩
 ·have h1 : decide (0 < n) = false := decide_eq_false h
  go_enter Tryz.func100, Tryz.ntmps100
  go_wp2_with fail
  go_ret
  exact ⟨rfl, rfl⟩
theorem r25Power_is (n : Nat) (hn : n ≤ 30) : Calls Tryz.prog 206 #[.int .i64 n] w fun e w' => e = .returned (.int .i64 ((2 ^ n : Nat) : Int)) ∧ w = w' := by
 go_enter Tryz.func206, Tryz.ntmps206
 go_wp2_with fail
 go_loopw [3, 4] (fun o i wr => ∃ k : Nat, k ≤ n ∧ i = .int .i64 k ∧ o = .int .i64 ((2 ^ k : Nat) : Int) ∧ wr = w) (fun _ i _ => n - (intOf i).toNat)
 case atStart => exact ⟨0, by omega, rfl, rfl, rfl⟩
 case round =>
  obtain ⟨k, hk, rfl, rfl, hww⟩ := hrel
  subst wr
  have hp : 2 ^ k ≤ 2 ^ 30 := Nat.pow_le_pow_right (by omega) (by omega)
  have hs : 2 ^ (k + 1) = 2 * 2 ^ k := by rw [Nat.pow_succ, Nat.mul_comm]
  by_cases hlt : k < n
  ·have HS := Hi9 hs; clear hs
   generalize hP : 2 ^ k = P at *
   clear hP
   go_wp2_with fail
   go_roundw
   case rel => exact ⟨k + 1, by omega, by go_num, by rw [HS.out]; go_num, by trivial⟩
   case measure => simp [intOf]; omega
  ·have hkn : k = n := by omega
   subst hkn
   clear hs hp
   go_wp2_with fail
   go_ret
   exact ⟨rfl, rfl⟩
end
section
variable {w : World}
theorem r26FitsQ_is (w : World) (n m : Nat) (hm : m ≤ 30) : Calls Tryz.prog 101 #[.int .i64 n, .int .i64 m] w fun e w' => e = .returned (.int .i64 (min n (2 ^ m) : Nat)) ∧ w = w' := by
 have hP := fun W => r25Power_is (w := W) m hm
 obtain ⟨p, hp⟩ : ∃ p, p = 2 ^ m := ⟨_, rfl⟩
 rw [← hp] at hP ⊢
 clear hp
 have HP := Hi9 hP; clear hP
 by_cases hlt : p < n
 ·have e : min n p = p := by omega
  rw [e]
  have q1 : decide (p < n) = true := decide_eq_true hlt
  clear e hlt
  go_enter Tryz.func101, Tryz.ntmps101
  go_wp2_with fail
  refine (HP.out _).mono ?_
  rintro e w' ⟨rfl, rfl⟩
  go_wp2_with fail
  go_ret
  exact ⟨rfl, rfl⟩
 ·have e : min n p = n := by omega
  rw [e]
  have q1 : decide (p < n) = false := decide_eq_false hlt
  clear e hlt
  go_enter Tryz.func101, Tryz.ntmps101
  go_wp2_with fail
  refine (HP.out _).mono ?_
  rintro e w' ⟨rfl, rfl⟩
  go_wp2_with fail
  go_ret
  exact ⟨rfl, rfl⟩
theorem r26Choose_is {rb cap : Nat} {G : Gra} (h : RG w rb cap G) {qe : Nat} (hqe : qe = 0 ∨ qe = 201) {c : Nat} (hc : c < 2 * G.nodes.length) {xa ya : Option Addr} {X Y : List Nat} (n xc yc : Nat) (hX : Sl w xa (natInts X)) (hY : Sl w ya (natInts Y)) (hn : X.length = n) (hm : Y.length = n) (hn0 : n ≤ 1000) (hxr : ∀ r ∈ X, r < 2 * G.nodes.length) (hyr : ∀ r ∈ Y, r < 2 * G.nodes.length) :
  Calls Tryz.prog 279 #[.agg #[.int .i64 G.most, .slice (some ⟨rb, 0, none⟩) G.nodes.length cap, .int .i64 qe], .int .i64 c, .slice xa n xc, .slice ya n yc] w (LTo w rb (chF c (G, qe) (X.zip Y))) := by
 have hok := h.ok
 have hs0 : SOk G (G, qe) := ⟨hok, .refl _, hqe⟩
 have hCok := fun k => chF_sok hs0 hc ((X.zip Y).take k) (fun p hp => ⟨hxr _ (List.of_mem_zip (List.mem_of_mem_take hp)).1, hyr _ (List.of_mem_zip (List.mem_of_mem_take hp)).2⟩)
 have hCsn := fun k u v (hu : X[k]? = some u) (hv : Y[k]? = some v) => show chF c (G, qe) ((X.zip Y).take (k + 1)) = eachS (fun s a b => sMux s c a b) (chF c (G, qe) ((X.zip Y).take k)) (u, v) by
  have hz : (X.zip Y)[k]? = some (u, v) := List.getElem?_zip_eq_some.2 ⟨hu, hv⟩
  rw [List.take_add_one, hz, Option.toList_some, chF_snoc]
 have hClen := fun k (hk : k ≤ n) => show (chF c (G, qe) ((X.zip Y).take k)).2.length = k by rw [chF_len, List.length_take, List.length_zip, hn, hm]; omega
 have hall : (X.zip Y).take n = X.zip Y := List.take_of_length_le (by rw [List.length_zip]; omega)
 obtain ⟨Z, hZ⟩ : ∃ Z, Z = X.zip Y := ⟨_, rfl⟩
 rw [← hZ] at hCok hCsn hClen hall ⊢
 clear hZ hs0
 have HX := Hi9 hX; clear hX
 have HY := Hi9 hY; clear hY
 have HN := Hi9 hn; clear hn
 have HM2 := Hi9 hm; clear hm
 have H := Hi9 h; clear h
 have HCOK := Hi9 hCok; clear hCok
 have HCSN := Hi9 hCsn; clear hCsn
 have HCLEN := Hi9 hClen; clear hClen
 have HALL := Hi9 hall; clear hall
 have HXR := Hi9 hxr; clear hxr
 have HYR := Hi9 hyr; clear hyr
 have HCL := Hi9 hc; clear hc hok
 go_enter Tryz.func279, Tryz.ntmps279
 go_wp2_with fail
 refine wp_alw ?_
 intro W0 hW0
 have hst := RSt.start H.out hW0 rfl
 clear hW0
 have HST := Hi9 hst; clear hst
 go_loopw [10, 11] (fun o i wr => ∃ (m rbj capj : Nat), m ≤ n ∧ i = .int .i64 m ∧ RSt w wr rb rbj capj (chF c (G, qe) (Z.take m)).1 o (chF c (G, qe) (Z.take m)).2) (fun _ i _ => n - (intOf i).toNat)
 case atStart => exact ⟨0, rb, cap, by omega, rfl, by rw [List.take_zero]; exact HST.out⟩
 case round =>
  clear HST
  obtain ⟨m, rbj, capj, hm, rfl, hs⟩ := hrel
  have hlen := HCLEN.out m hm
  by_cases hmn : m < n
  ·obtain ⟨u, hu⟩ : ∃ u, X[m]? = some u := ⟨_, List.getElem?_eq_getElem (by rw [HN.out]; exact hmn)⟩
   obtain ⟨v, hv⟩ : ∃ v, Y[m]? = some v := ⟨_, List.getElem?_eq_getElem (by rw [HM2.out]; exact hmn)⟩
   have hrw := HCSN.out m u v hu hv
   have hcm := HCOK.out m
   have hu5 := HXR.out u (List.mem_of_getElem? hu)
   have hv5 := HYR.out v (List.mem_of_getElem? hv)
   obtain ⟨ab, ao, ae, ac⟩ := HX.out.cells m (u : Int) (by simp [natInts, hu])
   obtain ⟨bb, bo, be, bc⟩ := HY.out.cells m (v : Int) (by simp [natInts, hv])
   generalize hAA : chF c (G, qe) (Z.take (m + 1)) = AN at hrw
   generalize chF c (G, qe) (Z.take m) = AS at hrw hcm hs hlen
   obtain ⟨⟨G6, q6⟩, lp⟩ := AS
   unfold eachS sMux at hrw
   simp only at hs hrw hlen
   have hM := fun (W : World) (hW : Ch [] wr W) => r23Mux_is (q := q6) (hs.rg.ch hW (by simp)) (hcm.s.ext.lt HCL.out) (hcm.s.ext.lt hu5) (hcm.s.ext.lt hv5)
   obtain ⟨⟨⟨G7, q7⟩, p7⟩, hR⟩ : ∃ T : Mk × Nat, T = rstep (G6, q6) (rMux G6 c u v) := ⟨_, rfl⟩
   simp only [← hR] at hrw hM
   subst hrw
   have ha1 : wr.cell? ⟨ab, ao + m, none⟩ = some (.int .i64 u) := (hs.ch.cell (cell_lt ac) (by simp)).trans ac
   have hb1 : wr.cell? ⟨bb, bo + m, none⟩ = some (.int .i64 v) := (hs.ch.cell (cell_lt bc) (by simp)).trans bc
   subst ae be
   have hrlj := hs.rg.lt
   clear hR hcm hu hv hu5 hv5 ac bc
   have HA1 := Hi9 ha1; clear ha1
   have HB1 := Hi9 hb1; clear hb1
   have HAA := Hi9 hAA; clear hAA
   have HM := Hi9 hM; clear hM
   have HLEN := Hi9 hlen; clear hlen
   have HS := Hi9 hs; clear hs
   have HMN := Hi9 hm; clear hm
   go_upto_region 5 with fail
   go_cut [12, 13] (fun p q wd => TS wr wd rbj ((G7, q7), p7) p q)
   case first =>
    refine Ord.St.door (fun w' => Ch [] wr w') [.ho, .fl, .fl, .fl, .fl, .ho, .fl, .fl, .fl, .ho, .ef, .fl, .fl, .fl, .ef, .ef, .fl] [0, 0, 0, 0, 12, 28, 0, 0, 192, 448, 1023, 2047, 4095, 4095, 0, 24575, 65535] [0, 1, 2, 3, 4, 5, 6, 7, 8, 9, 10, 11, 12, 13, 14, 15, 16] mixed (by kernel_rfl) rfl ?_
    obtain ⟨Wc, hWc⟩ : ∃ Wc, Wc = wr.drew := ⟨_, rfl⟩
    rw [← hWc]
    have hcur : Ch [] wr Wc := by rw [hWc]; exact (Ch.refl _ _).drew
    clear hWc
    refine Ord.H9 ?_ 0 [1, 2, 3, 4, 5, 6, 7, 8, 9, 10, 11, 12, 13, 14, 15, 16] ?_ (fun K w' hw' hk => ?_) ?_
    rotate_left
    ·trivial
    ·have hb4 := (HS.out.same hw').b4; have y0 := hb4.cell (i := 0) rfl; have y1 := hb4.cell (i := 1) rfl; have y2 := hb4.cell (i := 2) rfl; have a0 := (hw'.cell (cell_lt HA1.out) (by simp)).trans HA1.out; have b0 := (hw'.cell (cell_lt HB1.out) (by simp)).trans HB1.out; clear hb4; go_step; exact hk
    iterate 4 (refine Ord.F9 ?_ (fun K w' hk => ?_) ?_; rotate_left; focus (go_step; exact hk))
    refine Ord.H9 ?_ 5 [6, 7, 8, 9, 10, 11, 12, 13, 14, 15, 16] ?_ (fun K w' hw' hk => ?_) ?_
    rotate_left
    ·trivial
    ·have hb4 := (HS.out.same hw').b4; have y0 := hb4.cell (i := 0) rfl; have y1 := hb4.cell (i := 1) rfl; have y2 := hb4.cell (i := 2) rfl; have a0 := (hw'.cell (cell_lt HA1.out) (by simp)).trans HA1.out; have b0 := (hw'.cell (cell_lt HB1.out) (by simp)).trans HB1.out; clear hb4; go_step; exact hk
    iterate 3 (refine Ord.F9 ?_ (fun K w' hk => ?_) ?_; rotate_left; focus (go_step; exact hk))
    refine Ord.H9 ?_ 9 [10, 11, 12, 13, 14, 15, 16] ?_ (fun K w' hw' hk => ?_) ?_
    rotate_left
    ·trivial
    ·have hb4 := (HS.out.same hw').b4; have y0 := hb4.cell (i := 0) rfl; have y1 := hb4.cell (i := 1) rfl; have y2 := hb4.cell (i := 2) rfl; have a0 := (hw'.cell (cell_lt HA1.out) (by simp)).trans HA1.out; have b0 := (hw'.cell (cell_lt HB1.out) (by simp)).trans HB1.out; clear hb4; go_step; exact hk
    refine Ord.St.two 10 14 [11, 12, 13, 14, 15, 16] [10, 11, 12, 13, 15, 16] _ _ (by kernel_rfl) rfl rfl (by kernel_rfl) (by kernel_rfl) (fun K hK => ?_) (fun K hK => ?_)
    ·have HA := Hi9 (HM.out _ hcur)
     go_wp2_with fail
     refine HA.out.mono ?_
     rintro e w7 ⟨rb2, cap2, rfl, hrg2, hch, hfr3⟩
     go_wp2_with fail
     refine ⟨rfl, hK _ _ ?_ ?_⟩
     ·exact hcur.trans hch (by simp)
     clear hK K
     try have hne := rto_ne hb9 (by omega) hfr3
     try replace hb9 := hb9.ch hch (by simp)
     have hfr5 : rb2 = rbj ∨ wr.heap.size ≤ rb2 := by have := hcur.size; rcases hfr3 with e | e <;> omega
     replace hcur := hcur.trans hch (by simp)
     clear hch hfr3 HA
     iterate 3 (refine Ord.F9 ?_ (fun K w' hk => ?_) ?_; rotate_left; focus (go_step; exact hk))
     refine Ord.St.efC 14 [15, 16] _ rfl (by kernel_rfl) (fun K hK => ?_)
     go_wp2_with fail
     refine ⟨rfl, hK _ _ ?_ ?_⟩
     ·exact hcur.alloc _
     clear hK K
     refine Ord.St.alw ?_; intro Wn hWn
     have hb9 := alw_blk (xs := [.int .i64 0, .slice none 0 0, .int .i64 0]) hWn
     have hs9 := hcur.size
     try have hne := rg_ne hrg2
     try replace hrg2 := hrg2.ch (alw_ch hWn) (by simp)
     replace hcur := hcur.al9 hWn
     clear hWn
     first | (have _t := hrg2; clear _t; generalize w7.heap.size = b9 at *) | generalize Wc.heap.size = b9 at *
     refine Ord.St.ef 15 [16] _ rfl (by kernel_rfl) (fun K hK => ?_)
     have z0 := hb9.cell (i := 0) rfl
     have z1 := hb9.cell (i := 1) rfl
     have z2 := hb9.cell (i := 2) rfl
     have g0 := hb9.frozen (i := 0)
     have g1 := hb9.frozen (i := 1)
     have g2 := hb9.frozen (i := 2)
     have HRG2 := Hi9 hrg2; clear hrg2
     have HB9 := Hi9 hb9; clear hb9
     have HCUR := Hi9 hcur; clear hcur
     go_wp2_with fail
     refine ⟨rfl, hK _ _ ?_⟩; clear hK K
     (refine Ord.F9 ?_ (fun K w' hk => ?_) ?_; rotate_left; focus (go_step; exact hk))
     refine Ord.St.nil ?_
     go_wp2_with fail
     go_meet
     case rel => exact TS.mk HCUR.out HRG2.out hfr5 HB9.out hs9 hne rfl
    ·go_wp2_with fail
     refine ⟨rfl, hK _ _ ?_ ?_⟩
     ·exact hcur.alloc _
     clear hK K
     refine Ord.St.alw ?_; intro Wn hWn
     have hb9 := alw_blk (xs := [.int .i64 0, .slice none 0 0, .int .i64 0]) hWn
     have hs9 := hcur.size
     try have hne := rg_ne hrg2
     try replace hrg2 := hrg2.ch (alw_ch hWn) (by simp)
     replace hcur := hcur.al9 hWn
     clear hWn
     first | (have _t := hrg2; clear _t; generalize w7.heap.size = b9 at *) | generalize Wc.heap.size = b9 at *
     refine Ord.St.ef 10 [11, 12, 13, 15, 16] _ rfl (by kernel_rfl) (fun K hK => ?_)
     have HA := Hi9 (HM.out _ hcur)
     go_wp2_with fail
     refine HA.out.mono ?_
     rintro e w7 ⟨rb2, cap2, rfl, hrg2, hch, hfr3⟩
     go_wp2_with fail
     refine ⟨rfl, hK _ _ ?_⟩; clear hK K
     try have hne := rto_ne hb9 (by omega) hfr3
     try replace hb9 := hb9.ch hch (by simp)
     have hfr5 : rb2 = rbj ∨ wr.heap.size ≤ rb2 := by have := hcur.size; rcases hfr3 with e | e <;> omega
     replace hcur := hcur.trans hch (by simp)
     clear hch hfr3 HA
     iterate 3 (refine Ord.F9 ?_ (fun K w' hk => ?_) ?_; rotate_left; focus (go_step; exact hk))
     refine Ord.St.ef 15 [16] _ rfl (by kernel_rfl) (fun K hK => ?_)
     have z0 := hb9.cell (i := 0) rfl
     have z1 := hb9.cell (i := 1) rfl
     have z2 := hb9.cell (i := 2) rfl
     have g0 := hb9.frozen (i := 0)
     have g1 := hb9.frozen (i := 1)
     have g2 := hb9.frozen (i := 2)
     have HRG2 := Hi9 hrg2; clear hrg2
     have HB9 := Hi9 hb9; clear hb9
     have HCUR := Hi9 hcur; clear hcur
     go_wp2_with fail
     refine ⟨rfl, hK _ _ ?_⟩; clear hK K
     (refine Ord.F9 ?_ (fun K w' hk => ?_) ?_; rotate_left; focus (go_step; exact hk))
     refine Ord.St.nil ?_
     go_wp2_with fail
     go_meet
     case rel => exact TS.mk HCUR.out HRG2.out hfr5 HB9.out hs9 hne rfl
   case rest =>
    obtain ⟨rb5, cap5, b5, rfl, rfl, hc5, hrg5, hfr5, hb5, hlo5⟩ := hcut
    have x0 := hb5.cell (i := 0) rfl
    have x1 := hb5.cell (i := 1) rfl
    have x2 := hb5.cell (i := 2) rfl
    have hbp := (HS.out.same hc5).b4
    have f0 := hbp.frozen (i := 0)
    have f1 := hbp.frozen (i := 1)
    have f2 := hbp.frozen (i := 2)
    have y0 := hbp.cell (i := 0) rfl
    have y1 := hbp.cell (i := 1) rfl
    have y2 := hbp.cell (i := 2) rfl
    clear hbp
    have HCX := Hi9 hc5; clear hc5
    have HRX := Hi9 hrg5; clear hrg5
    have HBX := Hi9 hb5; clear hb5
    go_upto_region 7 with fail
    refine wp_alw ?_
    intro W9 hW9
    have hs := HS.out.put HCX.out HRX.out hfr5 hW9
    clear hW9 x0 x1 x2 y0 y1 y2 f0 f1 f2 HRX HBX
    have hlen9 := HLEN.out
    obtain ⟨na, nc, hna⟩ := row.shape hs.rw
    subst hna
    have hrA := (hs.same (W' := W9.alloc (.cells #[.int .i64 p7] 3)) ((Ch.refl _ _).alloc _)).rw
    have hbA : blk (W9.alloc (.cells #[.int .i64 p7] 3)) W9.heap.size [.int .i64 p7] := blk.new' _ _ rfl
    have HRA := Hi9 hrA; clear hrA
    have HBA := Hi9 hbA; clear hbA
    have HS9 := Hi9 hs; clear hs
    have hm := HMN.out
    go_wp2_with (at_builtin; go_loud (refine wpList_append_row slInts rfl _ _ rfl (v := .slice na lp.length nc) (n := lp.length) (xs := intCells (natInts lp)) rfl HRA.out (ad := ⟨W9.heap.size, 0, none⟩) (m := 1) (c := 1) (news := [.int .i64 p7]) rfl rfl (news_blk HBA.out) (by simp [Value.oneCell']) (by omega) (by omega) ?_; intro v' w10 hown4 hC4 hf4; have HO4 := Hi9 hown4; clear hown4; have HC4 := Hi9 hC4; clear hC4; have HF4 := Hi9 hf4; clear hf4))
    go_roundw
    case rel => exact ⟨m + 1, rb5, cap5, by omega, by go_num, by rw [HAA.out]; exact HS9.out.app HO4.out HC4.out HF4.out⟩
    case measure => simp [intOf]; omega
  ·have hmn2 : m = n := by omega
   rw [hmn2, HALL.out] at hs
   obtain ⟨⟨⟨G2, q2⟩, l2⟩, hES⟩ : ∃ ES, ES = chF c (G, qe) Z := ⟨_, rfl⟩
   rw [← hES] at hs
   simp only at hs
   have HES := Hi9 hES; clear hES hlen hmn2
   obtain ⟨na, nc, hna⟩ := row.shape hs.rw
   subst hna
   have y0 := hs.b4.cell (i := 0) rfl
   have y1 := hs.b4.cell (i := 1) rfl
   have y2 := hs.b4.cell (i := 2) rfl
   have v0 := hs.b8.cell (i := 0) rfl
   have v1 := hs.b8.cell (i := 1) rfl
   have v2 := hs.b8.cell (i := 2) rfl
   have g0 := hs.b8.frozen (i := 0)
   have g1 := hs.b8.frozen (i := 1)
   have g2 := hs.b8.frozen (i := 2)
   have hl8 := hs.b8.lt
   have HST := Hi9 hs; clear hs
   go_wp2_with fail
   refine bodyPost_ret (v := .tuple #[.agg #[.int .i64 G2.most, .slice (some ⟨rbj, 0, none⟩) G2.nodes.length capj, .int .i64 q2], .slice na l2.length nc]) (by simp [results, Tryz.results279, go_sem, v0, v1, v2]) rfl ?_
   show LTo w rb (chF c (G, qe) Z) _ _
   rw [← HES.out]
   exact HST.out.fin rfl
theorem r26Is_is {rb cap : Nat} {G : Gra} (h : RG w rb cap G) {qe : Nat} (hqe : qe = 0 ∨ qe = 201) {ya : Option Addr} {Y : List Nat} (n yc i : Nat) (hi : i < 4294967296) (hY : Sl w ya (natInts Y)) (hn : Y.length = n) (hn0 : n ≤ 17) (hyr : ∀ r ∈ Y, r < 2 * G.nodes.length) :
  Calls Tryz.prog 280 #[.agg #[.int .i64 G.most, .slice (some ⟨rb, 0, none⟩) G.nodes.length cap, .int .i64 qe], .slice ya n yc, .int .i64 i] w (STo w rb (ris (G, qe) Y n i)) := by
 have hs0 : SOk G (G, qe) := ⟨h.ok, .refl _, hqe⟩
 have hv := eachF_sok' hs0 full_xor (Y.zip (constL i n)) (fun p hp => ⟨hyr _ (List.of_mem_zip hp).1, constL_lt9 h.ok i n _ (List.of_mem_zip hp).2⟩)
 have hp : (neF (G, qe) (Y.zip (constL i n))).2 ≤ 1000000 := by
  obtain ⟨h1, h2, h3⟩ := rstep_sok hv.s (Y := rAny (eachF (rop rXor) (G, qe) (Y.zip (constL i n))).1.1 (eachF (rop rXor) (G, qe) (Y.zip (constL i n))).2) (fun _ => rAny_full hv.s.ok hv.lt)
  have h4 := h1.ok.small
  exact Nat.le_trans (Nat.le_of_lt h2) (by omega)
 have hcl : (constL i n).length = n := constL_len i n
 have hC := fun (W : World) (hW : Ch [] w W) (a9 : Option Addr) (c9 : Nat) (hY9 : Sl W a9 (natInts (constL i n))) => r23EqQ_is (h.ch hW (by simp)) hqe n yc c9 (hY.ch hW (by simp)) hY9 hn hcl (by omega) hyr (constL_lt9 h.ok i n) hp
 have hK := fun (W : World) => r23Const_is (w := W) i hi n hn0
 rw [rConstN_eq] at hK
 unfold ris req
 generalize negS (neF (G, qe) (Y.zip (constL i n))) = R at *
 obtain ⟨⟨G1, q1⟩, p1⟩ := R
 generalize constL i n = CL at *
 have HCC := Hi9 hC; clear hC
 have HK := Hi9 hK; clear hK
 have H := Hi9 h; clear h
 clear hv hp hs0
 go_enter Tryz.func280, Tryz.ntmps280
 go_upto_region 1 with fail
 refine wp_alw ?_
 intro W hW
 have hst := RSt.start H.out hW rfl
 clear hW
 have HST := Hi9 hst; clear hst
 have hcur0 := (Ch.refl [] W).drew
 refine Ord.St.door (fun w' => Ch [] W w') [.ho, .fl, .fl, .fl, .rd, .ef, .ef, .fl, .fl, .ef, .fl] [0, 0, 0, 0, 8, 28, 63, 127, 127, 511, 1023] [0, 1, 2, 3, 4, 5, 6, 7, 8, 9, 10] mixed (by kernel_rfl) rfl ?_
 refine Ord.H9 ?_ 0 [1, 2, 3, 4, 5, 6, 7, 8, 9, 10] ?_ (fun K w' hw' hk => ?_) ?_
 rotate_left
 ·exact hcur0
 ·have hb4 := (HST.out.same hw').b4; have y0 := hb4.cell (i := 0) rfl; have y1 := hb4.cell (i := 1) rfl; have y2 := hb4.cell (i := 2) rfl; go_step; exact hk
 iterate 3 (refine Ord.F9 ?_ (fun K w' hk => ?_) ?_; rotate_left; focus (go_step; exact hk))
 (refine Ord.Q9 ?_ (fun K hk => ?_) ?_; rotate_left; focus (go_step; exact hk))
 refine Ord.St.efC 5 [6, 7, 8, 9, 10] _ rfl (by kernel_rfl) (fun K hK => ?_)
 go_wp2_with fail
 refine (HK.out _).mono ?_
 rintro e w2 ⟨v, rfl, hro, hlo, hc2⟩
 have hcur : Ch [] W w2 := hcur0.trans hc2 (by simp)
 obtain ⟨na, nc, rfl⟩ := row.shape hro
 have hsl : Sl w2 na (natInts CL) := Sl.of_row' hro hcl (by omega)
 have HSL := Hi9 hsl; clear hsl hro hlo hc2
 go_wp2_with fail
 refine ⟨rfl, hK _ _ ?_ ?_⟩
 ·exact hcur
 clear hK K
 refine Ord.St.ef 6 [7, 8, 9, 10] _ rfl (by kernel_rfl) (fun K hK => ?_)
 go_wp2_with fail
 refine (HCC.out _ (HST.out.ch.trans hcur (by simp)) na nc HSL.out).mono ?_
 rintro e w1 ⟨rb', cap', rfl, hrg, hch, hfr⟩
 have b8 := (HST.out.b8.ch hcur (by simp)).ch hch (by simp)
 have z0 := b8.cell (i := 0) rfl
 have z1 := b8.cell (i := 1) rfl
 have z2 := b8.cell (i := 2) rfl
 have f0 := b8.frozen (i := 0)
 have f1 := b8.frozen (i := 1)
 have f2 := b8.frozen (i := 2)
 have hl8 := b8.lt
 have hzz := hcur.size
 have HRG := Hi9 hrg; clear hrg b8
 have HCH := Hi9 (hcur.trans hch (by simp)); clear hch
 go_wp2_with fail
 refine ⟨rfl, hK _ _ ?_⟩; clear hK K
 iterate 2 (refine Ord.F9 ?_ (fun K w' hk => ?_) ?_; rotate_left; focus (go_step; exact hk))
 refine Ord.St.ef 9 [10] _ rfl (by kernel_rfl) (fun K hK => ?_)
 go_wp2_with fail
 refine ⟨rfl, hK _ _ ?_⟩; clear hK K
 (refine Ord.F9 ?_ (fun K w' hk => ?_) ?_; rotate_left; focus (go_step; exact hk))
 refine Ord.St.nil ?_
 go_wp2_with fail
 refine bodyPost_ret (v := .tuple #[.agg #[.int .i64 G1.most, .slice (some ⟨rb', 0, none⟩) G1.nodes.length cap', .int .i64 q1], .int .i64 p1]) (by simp [results, Tryz.results280, go_sem, z0, z1, z2]) rfl ?_
 exact HST.out.outS (R := ((G1, q1), p1)) HRG.out HCH.out (by omega) rfl
end
theorem Sl.ch2 {F : List Nat} {w w' : World} {a : Option Addr} {xs : List Int} (h : Sl w a xs) (hc : Ch F w w') (hF : 0 < xs.length → ∀ p, a = some p → p.block ∉ F) : Sl w' a xs :=
 ⟨fun i x hx => by
  obtain ⟨b, o, rfl, hcell⟩ := h.cells i x hx
  have hlt := (List.getElem?_eq_some_iff.1 hx).1
  exact ⟨b, o, rfl, (hc.cell (p := ⟨b, o + i, none⟩) (cell_lt hcell) (hF (by omega) ⟨b, o, none⟩ rfl)).trans hcell⟩, h.bd⟩
end Go.Proofs.YtehljgigebhddaaGreat
namespace Go.Aig
theorem constL_zero9 (n : Nat) : constL 0 n = List.replicate n 0 := by
 unfold constL
 rw [List.eq_replicate_iff]
 refine ⟨by simp, fun b hb => ?_⟩
 obtain ⟨i, _, rfl⟩ := List.mem_map.1 hb
 simp
theorem pickS_ok {G : Gra} {q : Mk × List Nat} {L : List (List Nat)} {width : Nat} (hq : LOk G q) (hql : q.2.length = width) (hL : WdsOk G width L) {p : Nat × Nat} (hp : p.1 < L.length) (hg : p.2 < 2 * G.nodes.length) : LOk G (pickS L q p) ∧ (pickS L q p).2.length = width := by
 obtain ⟨hl, hr⟩ := hL.at hp
 have hc := chF_sok hq.s (hq.s.ext.lt hg) ((L.getD p.1 []).zip q.2) (fun z hz => ⟨hq.s.ext.lt (hr _ (List.of_mem_zip hz).1), hq.lt _ (List.of_mem_zip hz).2⟩)
 exact ⟨LOk.of hq.s hc, by unfold pickS; rw [chF_len, List.length_zip, hl, hql]; omega⟩
theorem pickF_ok {G : Gra} {q : Mk × List Nat} {L : List (List Nat)} {width : Nat} (hq : LOk G q) (hql : q.2.length = width) (hL : WdsOk G width L) : ∀ ps : List (Nat × Nat), (∀ p ∈ ps, p.1 < L.length ∧ p.2 < 2 * G.nodes.length) → LOk G (pickF L q ps) ∧ (pickF L q ps).2.length = width := by
 intro ps
 induction ps using List.snocRec with
 | nil => intro _; exact ⟨hq, hql⟩
 | snoc ps p ih =>
  intro h
  obtain ⟨h1, h2⟩ := ih (fun p hp => h p (by simp [hp]))
  rw [pickF_snoc]
  obtain ⟨k1, k2⟩ := h p (by simp)
  exact pickS_ok h1 h2 hL k1 k2
end Go.Aig
namespace Go.Proofs.YtehljgigebhddaaGreat
open Go.RowKit Go.Mem Go.Aig
theorem tsw_ne {w : World} {b : Nat} {xs : List Value} {v : Value} {rb : Nat} (h : blk w b xs) (ho : ∀ q, v.ownBlock = some q → w.heap.size ≤ q ∧ q ≠ rb) : ∀ q, v.ownBlock = some q → q ≠ b := fun q hq => by have := h.lt; have := (ho q hq).1; omega
theorem tsw_lo {w0 w : World} {v : Value} {rb : Nat} (h : Ch [] w0 w) (ho : ∀ q, v.ownBlock = some q → w.heap.size ≤ q ∧ q ≠ rb) : ∀ q, v.ownBlock = some q → w0.heap.size ≤ q ∧ q ≠ rb := fun q hq => by have := h.size; have := ho q hq; omega
def TSW (wr wd : World) (rbk : Nat) (R : Mk × List Nat) (p q : Value) : Prop := ∃ rb' cap' b9 a c, p = .pointer (some ⟨b9, 0, none⟩) ∧ q = .slice a R.2.length c ∧ Ch [] wr wd ∧ RG wd rb' cap' R.1.1 ∧ (rb' = rbk ∨ wr.heap.size ≤ rb') ∧
 blk wd b9 [.int .i64 R.1.1.most, .slice (some ⟨rb', 0, none⟩) R.1.1.nodes.length cap', .int .i64 R.1.2] ∧ wr.heap.size ≤ b9 ∧ row wd 3 1 (.slice a R.2.length c) R.2.length (intCells (natInts R.2)) ∧ ∀ k, (Value.slice a R.2.length c).ownBlock = some k → wr.heap.size ≤ k ∧ k ≠ rb' ∧ k ≠ b9
theorem TSW.mk {wr W W8 : World} {rbk : Nat} {R : Mk × List Nat} {rb' cap' b9 c : Nat} {a : Option Addr} {c0 c1 c2 : Value} (hc : Ch [] wr W) (hr : RG W rb' cap' R.1.1) (hf : rb' = rbk ∨ wr.heap.size ≤ rb') (hb : blk W b9 [c0, c1, c2]) (hlo : wr.heap.size ≤ b9) (hne : rb' ≠ b9)
  (hrow : row W 3 1 (.slice a R.2.length c) R.2.length (intCells (natInts R.2))) (hl : ∀ k, (Value.slice a R.2.length c).ownBlock = some k → wr.heap.size ≤ k ∧ k ≠ rb') (hn : ∀ k, (Value.slice a R.2.length c).ownBlock = some k → k ≠ b9)
  (hW : W8 = ((W.setCell ⟨b9, 0, none⟩ (.int .i64 R.1.1.most)).setCell ⟨b9, 1, none⟩ (.slice (some ⟨rb', 0, none⟩) R.1.1.nodes.length cap')).setCell ⟨b9, 2, none⟩ (.int .i64 R.1.2)) :
  TSW wr W8 rbk R (.pointer (some ⟨b9, 0, none⟩)) (.slice a R.2.length c) := by
 have hcs := set3_ch hW
 exact ⟨rb', cap', b9, a, c, rfl, rfl, hc.trans hcs (fun k hk => .inr (by simp at hk; omega)), hr.ch hcs (by simpa using hne), hf, set3_blk hb hW, hlo, hrow.ch hcs (fun k hk => by simpa using hn k hk), fun k hk => ⟨(hl k hk).1, (hl k hk).2, hn k hk⟩⟩
structure RSW (w W : World) (rb0 rb cap : Nat) (s : Mk) (a : Option Addr) (l : List Nat) (B0 : Nat) : Prop where
 st : RSt w W rb0 rb cap s (.slice none 0 0) []
 sw : Sl W a (natInts l)
 ne : 0 < l.length → ∀ p, a = some p → p.block < B0 ∨ w.heap.size + 2 ≤ p.block
def SWo (w : World) (rb B0 : Nat) (R : Mk × List Nat) (e : Ending) (w' : World) : Prop := ∃ rb' cap' a c, e = .returned (.tuple #[.agg #[.int .i64 R.1.1.most, .slice (some ⟨rb', 0, none⟩) R.1.1.nodes.length cap', .int .i64 R.1.2], .slice a R.2.length c]) ∧ RG w' rb' cap' R.1.1 ∧ Ch [] w w' ∧ (rb' = rb ∨ w.heap.size ≤ rb') ∧ Sl w' a (natInts R.2) ∧ (0 < R.2.length → ∀ p, a = some p → p.block < B0 ∨ w.heap.size ≤ p.block)
section
variable {w W W' : World} {rb0 rb cap B0 : Nat} {s : Mk} {a a' : Option Addr} {l l' : List Nat}
theorem natInts_pos (l : List Nat) : (natInts l).length = l.length := by simp [natInts]
theorem RSW.put {Wb : World} {rb' cap' q' : Nat} {G' : Gra} (h : RSW w Wb rb0 rb cap s a l B0) (hB : B0 ≤ w.heap.size) (hc : Ch [] Wb W) (hr : RG W rb' cap' G') (hf : rb' = rb ∨ Wb.heap.size ≤ rb')
  (hW : W' = ((W.setCell ⟨w.heap.size, 0, none⟩ (.int .i64 G'.most)).setCell ⟨w.heap.size, 1, none⟩ (.slice (some ⟨rb', 0, none⟩) G'.nodes.length cap')).setCell ⟨w.heap.size, 2, none⟩ (.int .i64 q')) : RSW w W' rb0 rb' cap' (G', q') a l B0 :=
 ⟨h.st.put hc hr hf hW, (h.sw.ch hc (by simp)).ch2 (set3_ch hW) (fun h0 p hp => by have := h.ne (by rwa [natInts_pos] at h0) p hp; simp; omega), h.ne⟩
theorem RSW.word (h : RSW w W rb0 rb cap s a l B0) (hs : Sl W a' (natInts l')) (hn : 0 < l'.length → ∀ p, a' = some p → p.block < B0 ∨ w.heap.size + 2 ≤ p.block) : RSW w W rb0 rb cap s a' l' B0 := ⟨h.st, hs, hn⟩
theorem RSW.fin {c : Nat} (h : RSW w W rb0 rb cap s a l B0) (hB : B0 ≤ w.heap.size) (hW : W' = ((W.setCell ⟨w.heap.size + 1, 0, none⟩ (.int .i64 s.1.most)).setCell ⟨w.heap.size + 1, 1, none⟩ (.slice (some ⟨rb, 0, none⟩) s.1.nodes.length cap)).setCell ⟨w.heap.size + 1, 2, none⟩ (.int .i64 s.2)) :
  SWo w rb0 B0 (s, l) (.returned (.tuple #[.agg #[.int .i64 s.1.most, .slice (some ⟨rb, 0, none⟩) s.1.nodes.length cap, .int .i64 s.2], .slice a l.length c])) W' := by
 have hcs := set3_ch hW
 have hfr := h.st.fr
 have hl0 := h.st.low
 exact ⟨rb, cap, a, c, rfl, h.st.rg.ch hcs (by simp; omega), h.st.ch.trans hcs (fun k hk => .inr (by simp at hk; omega)), by omega, h.sw.ch2 hcs (fun h0 p hp => by have := h.ne (by rwa [natInts_pos] at h0) p hp; simp; omega), fun h0 p hp => by have := h.ne h0 p hp; omega⟩
end
structure IA (w : World) (la : Option Addr) (nl : Nat) (Ls : List WV) (L : List (List Nat)) (B0 : Nat) : Prop where
 len : Ls.length = nl
 cells : ∀ (i : Nat) x, Ls[i]? = some x → ∃ b o, la = some ⟨b, o, none⟩ ∧ w.cell? ⟨b, o + i, none⟩ = some x.val
 sl : ∀ x ∈ Ls, Sl w x.a x.l
 low : ∀ x ∈ Ls, 0 < x.l.length → ∀ p, x.a = some p → p.block < B0
 eq : Ls.map WV.l = L.map natInts
theorem IA.ch {w w' : World} {la : Option Addr} {nl : Nat} {Ls : List WV} {L : List (List Nat)} {B0 : Nat} (h : IA w la nl Ls L B0) (hc : Ch [] w w') : IA w' la nl Ls L B0 :=
 ⟨h.len, fun i x hx => by
  obtain ⟨b, o, e, hcl⟩ := h.cells i x hx
  exact ⟨b, o, e, (hc.cell (cell_lt hcl) (by simp)).trans hcl⟩, fun x hx => (h.sl x hx).ch hc (by simp), h.low, h.eq⟩
theorem IA.len2 {w : World} {la : Option Addr} {nl : Nat} {Ls : List WV} {L : List (List Nat)} {B0 : Nat} (h : IA w la nl Ls L B0) : L.length = nl := by
 have := congrArg List.length h.eq
 simp at this
 rw [← this, h.len]
theorem IA.at {w : World} {la : Option Addr} {nl : Nat} {Ls : List WV} {L : List (List Nat)} {B0 : Nat} (h : IA w la nl Ls L B0) {i : Nat} (hi : i < nl) : ∃ (b o : Nat) (a : Option Addr) (c : Nat), la = some ⟨b, o, none⟩ ∧ w.cell? ⟨b, o + i, none⟩ = some (.slice a (L.getD i []).length c) ∧ Sl w a (natInts (L.getD i [])) ∧ (0 < (L.getD i []).length → ∀ p, a = some p → p.block < B0) := by
 obtain ⟨x, hx⟩ : ∃ x, Ls[i]? = some x := ⟨_, List.getElem?_eq_getElem (by rw [h.len]; exact hi)⟩
 have hxm := List.mem_of_getElem? hx
 obtain ⟨b, o, e, hc⟩ := h.cells i x hx
 have hxl : x.l = natInts (L.getD i []) := by
  have h1 := congrArg (fun z => z[i]?) h.eq
  simp only [List.getElem?_map, hx, Option.map_some] at h1
  have hi2 : i < L.length := by rw [h.len2]; exact hi
  rw [List.getElem?_eq_getElem hi2] at h1
  simp only [Option.map_some, Option.some.injEq] at h1
  rw [h1, List.getD_eq_getElem?_getD, List.getElem?_eq_getElem hi2]; rfl
 obtain ⟨xa, xl, xc⟩ := x
 simp only at hxl
 subst hxl
 refine ⟨b, o, xa, xc, e, ?_, h.sl _ hxm, fun h0 => h.low _ hxm (by rw [natInts_pos]; exact h0)⟩
 rw [hc]
 simp [WV.val, natInts]
section
variable {w : World}
theorem r26Read_is {rb cap B0 : Nat} {G : Gra} (h : RG w rb cap G) {qe : Nat} (hqe : qe = 0 ∨ qe = 201) {la : Option Addr} {nl lc width : Nat} {Ls : List WV} {L : List (List Nat)} (hA : IA w la nl Ls L B0) (hB : B0 ≤ w.heap.size) (hL : WdsOk G width L) (hw : width ≤ 17) (hnl : 1 ≤ nl) (hnl2 : nl ≤ 1000)
  {ya : Option Addr} {Y : List Nat} (n yc : Nat) (hY : Sl w ya (natInts Y)) (hn : Y.length = n) (hn0 : n ≤ 17) (hyr : ∀ r ∈ Y, r < 2 * G.nodes.length) :
  Calls Tryz.prog 281 #[.agg #[.int .i64 G.most, .slice (some ⟨rb, 0, none⟩) G.nodes.length cap, .int .i64 qe], .slice la nl lc, .slice ya n yc] w (SWo w rb B0 (rreadF (G, qe) L Y n width (min nl (2 ^ n)))) := by
 have hok := h.ok
 have hs0 : SOk G (G, qe) := ⟨hok, .refl _, hqe⟩
 have hll := hA.len2
 obtain ⟨K, hK⟩ : ∃ K, K = min nl (2 ^ n) := ⟨_, rfl⟩
 have hKn : K ≤ nl := by omega
 have hFit := fun W => r26FitsQ_is W nl n (by omega)
 rw [← hK] at hFit ⊢
 have hRok := fun k (hk : k ≤ K) => rreadF_ok hs0 hL hyr n k (by omega)
 have hRsn := fun k => rreadF_succ (G, qe) L Y n width k
 have hCon := fun W => r23Const_is (w := W) 0 (by omega) width hw
 rw [rConstN_eq, constL_zero9, show ((0 : Nat) : Int) = 0 from rfl] at hCon
 have hl0 := (hL.at (i := 0) (by omega)).1
 obtain ⟨lb, lo, a0, c0, hla, hcl0, _, _⟩ := hA.at (i := 0) (by omega)
 subst hla
 rw [hl0, Nat.add_zero] at hcl0
 clear hK hs0 hok
 have HA := Hi9 hA; clear hA
 have HY := Hi9 hY; clear hY
 have HN := Hi9 hn; clear hn
 have H := Hi9 h; clear h
 have HL := Hi9 hL; clear hL
 have HYR := Hi9 hyr; clear hyr
 have HFIT := Hi9 hFit; clear hFit
 have HROK := Hi9 hRok; clear hRok
 have HRSN := Hi9 hRsn; clear hRsn
 have HCON := Hi9 hCon; clear hCon
 have HLL := Hi9 hll; clear hll
 go_enter Tryz.func281, Tryz.ntmps281
 go_upto_region 1 with fail
 refine wp_alw ?_
 intro W0 hW0
 have hst := RSt.start H.out hW0 rfl
 clear hW0
 have hcl1 := (hst.ch.cell (cell_lt hcl0) (by simp)).trans hcl0
 have HST := Hi9 hst; clear hst hcl0 hl0
 go_wp2_with fail
 refine (HCON.out _).mono ?_
 rintro e w1 ⟨v1, rfl, hro, hlo, hc1⟩
 obtain ⟨oa, oc, rfl⟩ := row.shape hro
 have hsl : Sl w1 oa (natInts (List.replicate width 0)) := Sl.of_row' hro (by simp) (by omega)
 have hsw : RSW w w1 rb rb cap (G, qe) oa (List.replicate width 0) B0 := ⟨HST.out.same hc1, hsl, fun h0 p hp => by
  subst hp
  have h1 := hlo p.block (by simp)
  have h2 := HST.out.lt
  omega⟩
 have HSW := Hi9 hsw; clear hsw hsl hro hlo hc1 HST hcl1
 go_wp2_with fail
 go_loopw [8, 9] (fun o i wr => ∃ (k rbk capk : Nat) (a : Option Addr) (c : Nat), k ≤ K ∧ i = .int .i64 k ∧ o = .slice a width c ∧ RSW w wr rb rbk capk (rreadF (G, qe) L Y n width k).1 a (rreadF (G, qe) L Y n width k).2 B0) (fun _ i _ => K - (intOf i).toNat)
 case atStart => exact ⟨0, rb, cap, oa, oc, by omega, rfl, rfl, HSW.out⟩
 case round =>
  clear HSW
  obtain ⟨k, rbk, capk, oa, oc, hk, rfl, rfl, hs⟩ := hrel
  by_cases hkK : k < K
  ·have hok := HROK.out k hk
   have hrw := HRSN.out k
   have hAr := HA.out.ch hs.st.ch
   obtain ⟨b8, o8, xa, xc, hle, hcl, hslx, hxlow⟩ := hAr.at (i := k) (by omega)
   injection hle with hle
   injection hle with h1 h2 h3
   subst h1 h2
   obtain ⟨hxl, hxr⟩ := HL.out.at (i := k) (by rw [HLL.out]; omega)
   generalize hAA : rreadF (G, qe) L Y n width (k + 1) = AN at hrw
   generalize rreadF (G, qe) L Y n width k = AS at hrw hok hs
   obtain ⟨⟨G2, q2⟩, ol⟩ := AS
   obtain ⟨hok, hol⟩ := hok
   simp only at hs hol
   obtain ⟨x, hx⟩ : ∃ x, x = L.getD k [] := ⟨_, rfl⟩
   unfold rreadS at hrw
   rw [← hx] at hcl hslx hxl hxr hxlow hrw
   rw [hxl] at hcl
   have hyr2 : ∀ r ∈ Y, r < 2 * G2.nodes.length := fun r hr => hok.s.ext.lt (HYR.out r hr)
   have hIs := fun (W : World) (hW : Ch [] wr W) => r26Is_is (hs.st.rg.ch hW (by simp)) hok.s.err n yc k (by omega) (HY.out.ch (hs.st.ch.trans hW (by simp)) (by simp)) HN.out hn0 hyr2
   have hio := ris_ok hok.s hyr2 n k
   simp only at hrw
   generalize ris (G2, q2) Y n k = IR at hrw hIs hio
   obtain ⟨⟨G3, q3⟩, c3⟩ := IR
   simp only at hrw
   have hCh := fun (W : World) (rb2 cap2 : Nat) (hr : RG W rb2 cap2 G3) (s1 : Sl W xa (natInts x)) (s2 : Sl W oa (natInts ol)) => r26Choose_is hr hio.s.err hio.lt width xc oc s1 s2 hxl hol (by omega) (fun r hr => hio.s.ext.lt (hok.s.ext.lt (hxr r hr))) (fun r hr => hio.s.ext.lt (hok.lt r hr))
   have hlen4 : (chF c3 (G3, q3) (x.zip ol)).2.length = width := by rw [chF_len, List.length_zip, hxl, hol]; omega
   generalize chF c3 (G3, q3) (x.zip ol) = CR at hrw hCh hlen4
   obtain ⟨⟨G4, q4⟩, l4⟩ := CR
   simp only at hlen4
   subst hrw
   have hrlk := hs.st.rg.lt
   have hw2 := hs.st.lt
   have HIS := Hi9 hIs; clear hIs
   have HCH := Hi9 hCh; clear hCh
   have HS := Hi9 hs; clear hs
   have HCL := Hi9 hcl; clear hcl
   have HSLX := Hi9 hslx; clear hslx
   have HAA := Hi9 hAA; clear hAA
   have HL4 := Hi9 hlen4; clear hlen4
   have q1 : decide (k < K) = true := decide_eq_true hkK
   clear hAr h3 hok hio hxlow hxr hxl hx hol hyr2
   go_wp2_with fail
   refine (HFIT.out _).mono ?_
   rintro e w' ⟨rfl, rfl⟩
   have hI := HIS.out wr (Ch.refl _ _)
   have y0 := HS.out.st.b4.cell (i := 0) rfl
   have y1 := HS.out.st.b4.cell (i := 1) rfl
   have y2 := HS.out.st.b4.cell (i := 2) rfl
   have HI := Hi9 hI; clear hI HIS
   go_wp2_with fail
   refine HI.out.mono ?_
   rintro e w7 ⟨rbI, capI, rfl, hrg2, hch, hfr3⟩
   have HRG2 := Hi9 hrg2; clear hrg2
   have HCHH := Hi9 hch; clear hch y0 y1 y2
   go_upto_region 6 with fail
   refine wp_alw ?_
   intro W6 hW6
   have hb8 : blk W6 w7.heap.size [.int .i64 G3.most, .slice (some ⟨rbI, 0, none⟩) G3.nodes.length capI, .int .i64 q3] := by rw [hW6]; exact blk.new' _ _ rfl
   have hc6 : Ch [] w7 W6 := by rw [hW6]; exact (Ch.refl _ _).alloc _
   clear hW6
   have hc16 := HCHH.out.trans hc6 (by simp)
   have hrg6 := HRG2.out.ch hc6 (by simp)
   have hM := fun (W : World) (hW : Ch [] W6 W) => HCH.out W rbI capI (hrg6.ch hW (by simp)) (HSLX.out.ch (hc16.trans hW (by simp)) (by simp)) (HS.out.sw.ch (hc16.trans hW (by simp)) (by simp))
   have hcl6 := (hc16.cell (cell_lt HCL.out) (by simp)).trans HCL.out
   have hz6 := hc16.size
   have HM := Hi9 hM; clear hM
   have HB8 := Hi9 hb8; clear hb8
   have HCL6 := Hi9 hcl6; clear hcl6
   have hrl6 := hrg6.lt
   have HC16 := Hi9 hc16; clear hc16 hc6 hrg6 HRG2 HCHH
   go_upto_region 6 with fail
   go_cut [12, 13] (fun p q wd => TSW W6 wd rbI ((G4, q4), l4) p q)
   case first =>
    refine Ord.St.door (fun w' => Ch [] W6 w') [.ho, .fl, .fl, .fl, .fl, .ho, .fl, .ef, .fl, .fl, .fl, .ef, .ef, .fl] [0, 0, 0, 0, 12, 28, 0, 127, 255, 511, 511, 0, 3071, 8191] [0, 1, 2, 3, 4, 5, 6, 7, 8, 9, 10, 11, 12, 13] mixed (by kernel_rfl) rfl ?_
    obtain ⟨Wc, hWc⟩ : ∃ Wc, Wc = W6.drew := ⟨_, rfl⟩
    rw [← hWc]
    have hcur : Ch [] W6 Wc := by rw [hWc]; exact (Ch.refl _ _).drew
    clear hWc
    refine Ord.H9 ?_ 0 [1, 2, 3, 4, 5, 6, 7, 8, 9, 10, 11, 12, 13] ?_ (fun K w' hw' hk => ?_) ?_
    rotate_left
    ·trivial
    ·have hb8 := HB8.out.ch hw' (by simp); have y0 := hb8.cell (i := 0) rfl; have y1 := hb8.cell (i := 1) rfl; have y2 := hb8.cell (i := 2) rfl; have a0 := (hw'.cell (cell_lt HCL6.out) (by simp)).trans HCL6.out; clear hb8; go_step; exact hk
    iterate 4 (refine Ord.F9 ?_ (fun K w' hk => ?_) ?_; rotate_left; focus (go_step; exact hk))
    refine Ord.H9 ?_ 5 [6, 7, 8, 9, 10, 11, 12, 13] ?_ (fun K w' hw' hk => ?_) ?_
    rotate_left
    ·trivial
    ·have hb8 := HB8.out.ch hw' (by simp); have y0 := hb8.cell (i := 0) rfl; have y1 := hb8.cell (i := 1) rfl; have y2 := hb8.cell (i := 2) rfl; have a0 := (hw'.cell (cell_lt HCL6.out) (by simp)).trans HCL6.out; clear hb8; go_step; exact hk
    (refine Ord.F9 ?_ (fun K w' hk => ?_) ?_; rotate_left; focus (go_step; exact hk))
    refine Ord.St.two 7 11 [8, 9, 10, 11, 12, 13] [7, 8, 9, 10, 12, 13] _ _ (by kernel_rfl) rfl rfl (by kernel_rfl) (by kernel_rfl) (fun K hK => ?_) (fun K hK => ?_)
    ·have HA := Hi9 (HM.out _ hcur)
     go_wp2_with fail
     refine HA.out.mono ?_
     rintro e w7 ⟨rb2, cap2, a2, c2, rfl, hrg2, hch, hfr3, hrow2, hown2⟩
     have HROWQ := Hi9 hrow2; clear hrow2
     have HOWNQ := Hi9 hown2; clear hown2
     go_wp2_with fail
     refine ⟨rfl, hK _ _ ?_ ?_⟩
     ·exact hcur.trans hch (by simp)
     clear hK K
     try have hne := rto_ne hb9 (by omega) hfr3
     try have hno9 := tsw_ne hb9 HOWNQ.out
     try replace hb9 := hb9.ch hch (by simp)
     have hfr5 : rb2 = rbI ∨ W6.heap.size ≤ rb2 := by have := hcur.size; rcases hfr3 with e | e <;> omega
     have hlo5 := tsw_lo hcur HOWNQ.out
     have hrow2 := HROWQ.out
     replace hcur := hcur.trans hch (by simp)
     clear hch hfr3 HA HROWQ HOWNQ
     iterate 3 (refine Ord.F9 ?_ (fun K w' hk => ?_) ?_; rotate_left; focus (go_step; exact hk))
     refine Ord.St.efC 11 [12, 13] _ rfl (by kernel_rfl) (fun K hK => ?_)
     go_wp2_with fail
     refine ⟨rfl, hK _ _ ?_ ?_⟩
     ·exact hcur.alloc _
     clear hK K
     refine Ord.St.alw ?_; intro Wn hWn
     have hb9 := alw_blk (xs := [.int .i64 0, .slice none 0 0, .int .i64 0]) hWn
     have hs9 := hcur.size
     try have hne := rg_ne hrg2
     try have hno9 := row_ne hrow2
     try replace hrg2 := hrg2.ch (alw_ch hWn) (by simp)
     try replace hrow2 := hrow2.ch (alw_ch hWn) (by simp)
     replace hcur := hcur.al9 hWn
     clear hWn
     first | (have _t := hrg2; clear _t; generalize w7.heap.size = b9 at *) | generalize Wc.heap.size = b9 at *
     refine Ord.St.ef 12 [13] _ rfl (by kernel_rfl) (fun K hK => ?_)
     have z0 := hb9.cell (i := 0) rfl
     have z1 := hb9.cell (i := 1) rfl
     have z2 := hb9.cell (i := 2) rfl
     have g0 := hb9.frozen (i := 0)
     have g1 := hb9.frozen (i := 1)
     have g2 := hb9.frozen (i := 2)
     have HRG2 := Hi9 hrg2; clear hrg2
     have HB9 := Hi9 hb9; clear hb9
     have HCUR := Hi9 hcur; clear hcur
     have HROW := Hi9 hrow2; clear hrow2
     have HLO5 := Hi9 hlo5; clear hlo5
     have HNO9 := Hi9 hno9; clear hno9
     go_wp2_with fail
     refine ⟨rfl, hK _ _ ?_⟩; clear hK K
     (refine Ord.F9 ?_ (fun K w' hk => ?_) ?_; rotate_left; focus (go_step; exact hk))
     refine Ord.St.nil ?_
     go_wp2_with fail
     go_meet
     case rel => exact TSW.mk HCUR.out HRG2.out hfr5 HB9.out hs9 hne HROW.out HLO5.out HNO9.out rfl
    ·go_wp2_with fail
     refine ⟨rfl, hK _ _ ?_ ?_⟩
     ·exact hcur.alloc _
     clear hK K
     refine Ord.St.alw ?_; intro Wn hWn
     have hb9 := alw_blk (xs := [.int .i64 0, .slice none 0 0, .int .i64 0]) hWn
     have hs9 := hcur.size
     try have hne := rg_ne hrg2
     try have hno9 := row_ne hrow2
     try replace hrg2 := hrg2.ch (alw_ch hWn) (by simp)
     try replace hrow2 := hrow2.ch (alw_ch hWn) (by simp)
     replace hcur := hcur.al9 hWn
     clear hWn
     first | (have _t := hrg2; clear _t; generalize w7.heap.size = b9 at *) | generalize Wc.heap.size = b9 at *
     refine Ord.St.ef 7 [8, 9, 10, 12, 13] _ rfl (by kernel_rfl) (fun K hK => ?_)
     have HA := Hi9 (HM.out _ hcur)
     go_wp2_with fail
     refine HA.out.mono ?_
     rintro e w7 ⟨rb2, cap2, a2, c2, rfl, hrg2, hch, hfr3, hrow2, hown2⟩
     have HROWQ := Hi9 hrow2; clear hrow2
     have HOWNQ := Hi9 hown2; clear hown2
     go_wp2_with fail
     refine ⟨rfl, hK _ _ ?_⟩; clear hK K
     try have hne := rto_ne hb9 (by omega) hfr3
     try have hno9 := tsw_ne hb9 HOWNQ.out
     try replace hb9 := hb9.ch hch (by simp)
     have hfr5 : rb2 = rbI ∨ W6.heap.size ≤ rb2 := by have := hcur.size; rcases hfr3 with e | e <;> omega
     have hlo5 := tsw_lo hcur HOWNQ.out
     have hrow2 := HROWQ.out
     replace hcur := hcur.trans hch (by simp)
     clear hch hfr3 HA HROWQ HOWNQ
     iterate 3 (refine Ord.F9 ?_ (fun K w' hk => ?_) ?_; rotate_left; focus (go_step; exact hk))
     refine Ord.St.ef 12 [13] _ rfl (by kernel_rfl) (fun K hK => ?_)
     have z0 := hb9.cell (i := 0) rfl
     have z1 := hb9.cell (i := 1) rfl
     have z2 := hb9.cell (i := 2) rfl
     have g0 := hb9.frozen (i := 0)
     have g1 := hb9.frozen (i := 1)
     have g2 := hb9.frozen (i := 2)
     have HRG2 := Hi9 hrg2; clear hrg2
     have HB9 := Hi9 hb9; clear hb9
     have HCUR := Hi9 hcur; clear hcur
     have HROW := Hi9 hrow2; clear hrow2
     have HLO5 := Hi9 hlo5; clear hlo5
     have HNO9 := Hi9 hno9; clear hno9
     go_wp2_with fail
     refine ⟨rfl, hK _ _ ?_⟩; clear hK K
     (refine Ord.F9 ?_ (fun K w' hk => ?_) ?_; rotate_left; focus (go_step; exact hk))
     refine Ord.St.nil ?_
     go_wp2_with fail
     go_meet
     case rel => exact TSW.mk HCUR.out HRG2.out hfr5 HB9.out hs9 hne HROW.out HLO5.out HNO9.out rfl
   case rest =>
    obtain ⟨rb5, cap5, b5, a5, c5, rfl, rfl, hc5, hrg5, hfr5, hb5, hlo5, hrow5, hown5⟩ := hcut
    have hcF := HC16.out.trans hc5 (by simp)
    have hz5 := hc5.size
    have x0 := hb5.cell (i := 0) rfl
    have x1 := hb5.cell (i := 1) rfl
    have x2 := hb5.cell (i := 2) rfl
    have hbp := (HS.out.st.same hcF).b4
    have f0 := hbp.frozen (i := 0)
    have f1 := hbp.frozen (i := 1)
    have f2 := hbp.frozen (i := 2)
    have y0 := hbp.cell (i := 0) rfl
    have y1 := hbp.cell (i := 1) rfl
    have y2 := hbp.cell (i := 2) rfl
    clear hbp hb5
    have HCX := Hi9 hcF; clear hcF
    have HRX := Hi9 hrg5; clear hrg5
    have HROW5 := Hi9 hrow5; clear hrow5
    have HOWN5 := Hi9 hown5; clear hown5
    have hl4 := HL4.out
    try simp only at hl4
    rw [hl4]
    go_wp2_with fail
    go_roundw
    case rel =>
     refine ⟨k + 1, rb5, cap5, a5, c5, by omega, by go_num, rfl, ?_⟩
     rw [HAA.out]
     have hcs : Ch [w.heap.size] wc (((wc.setCell ⟨w.heap.size, 0, none⟩ (.int .i64 G4.most)).setCell ⟨w.heap.size, 1, none⟩ (.slice (some ⟨rb5, 0, none⟩) G4.nodes.length cap5)).setCell ⟨w.heap.size, 2, none⟩ (.int .i64 q4)) := set3_ch rfl
     have hsl := Sl.of_ints HROW5.out (by rw [hl4]; omega)
     exact (HS.out.put hB HCX.out HRX.out (by omega) rfl).word (hsl.ch2 hcs (fun _ p hp => by subst hp; have := HOWN5.out p.block rfl; simp; omega)) (fun _ p hp => .inr (by subst hp; have := HOWN5.out p.block rfl; omega))
    case measure => simp [intOf]; omega
  ·have hkK2 : k = K := by omega
   have hl := (HROK.out k hk).2
   rw [hkK2] at hs hl
   obtain ⟨⟨⟨G2, q2⟩, l2⟩, hES⟩ : ∃ ES, ES = rreadF (G, qe) L Y n width K := ⟨_, rfl⟩
   rw [← hES] at hs hl
   simp only at hs hl
   have HES := Hi9 hES; clear hES
   have y0 := hs.st.b4.cell (i := 0) rfl
   have y1 := hs.st.b4.cell (i := 1) rfl
   have y2 := hs.st.b4.cell (i := 2) rfl
   have v0 := hs.st.b8.cell (i := 0) rfl
   have v1 := hs.st.b8.cell (i := 1) rfl
   have v2 := hs.st.b8.cell (i := 2) rfl
   have g0 := hs.st.b8.frozen (i := 0)
   have g1 := hs.st.b8.frozen (i := 1)
   have g2 := hs.st.b8.frozen (i := 2)
   have hl8 := hs.st.b8.lt
   have HSW := Hi9 hs; clear hs
   have HLW := Hi9 hl; clear hl
   have q1 : decide (k < K) = false := decide_eq_false hkK
   clear hkK2
   go_wp2_with fail
   refine (HFIT.out _).mono ?_
   rintro e w' ⟨rfl, rfl⟩
   go_wp2_with fail
   refine bodyPost_ret (v := .tuple #[.agg #[.int .i64 G2.most, .slice (some ⟨rbk, 0, none⟩) G2.nodes.length capk, .int .i64 q2], .slice oa width oc]) (by simp [results, Tryz.results281, go_sem, v0, v1, v2]) rfl ?_
   show SWo w rb B0 (rreadF (G, qe) L Y n width K) _ _
   rw [← HES.out]
   have := HSW.out.fin (c := oc) hB rfl
   simp only [HLW.out] at this
   exact this
end
section
variable {w : World}
theorem r26Pick_is {rb cap B0 : Nat} {G : Gra} (h : RG w rb cap G) {qe : Nat} (hqe : qe = 0 ∨ qe = 201) {la : Option Addr} {nl lc width : Nat} {Ls : List WV} {L : List (List Nat)} (hA : IA w la nl Ls L B0) (hB : B0 ≤ w.heap.size) (hL : WdsOk G width L) (hw : width ≤ 17)
  {ga : Option Addr} {gs : List Nat} (n gc : Nat) (hn : n + 1 = nl) (hnl2 : nl ≤ 1000) (hGs : Sl w ga (natInts gs)) (hgl : gs.length = n) (hgr : ∀ r ∈ gs, r < 2 * G.nodes.length) :
  Calls Tryz.prog 283 #[.agg #[.int .i64 G.most, .slice (some ⟨rb, 0, none⟩) G.nodes.length cap, .int .i64 qe], .slice ga n gc, .slice la nl lc] w (SWo w rb B0 (pickF L ((G, qe), L.getD n []) (bwd gs))) := by
 have hok := h.ok
 have hs0 : SOk G (G, qe) := ⟨hok, .refl _, hqe⟩
 have hll := hA.len2
 obtain ⟨hl0, hr0⟩ := hL.at (i := n) (by omega)
 have hbl : (bwd gs).length = n := by rw [bwd_len]; exact hgl
 have hPok := fun k => pickF_ok (q := ((G, qe), L.getD n [])) ⟨hs0, hr0⟩ hl0 hL ((bwd gs).take k) (fun p hp => by
  obtain ⟨h1, h2⟩ := bwd_mem (List.mem_of_mem_take hp)
  exact ⟨by omega, hgr _ h2⟩)
 have hPsn := fun k j r (hk : k + j + 1 = n) (hr : gs[j]? = some r) => show pickF L ((G, qe), L.getD n []) ((bwd gs).take (k + 1)) = pickS L (pickF L ((G, qe), L.getD n []) ((bwd gs).take k)) (j, r) by
  rw [List.take_add_one, bwd_at (by rw [hgl]; exact hk) hr, Option.toList_some, pickF_snoc]
 have hall : (bwd gs).take n = bwd gs := List.take_of_length_le (by omega)
 obtain ⟨lb, lo, a0, c0, hla, hcl0, hsl0, hlow0⟩ := hA.at (i := n) (by omega)
 subst hla
 have hP0 : pickF L ((G, qe), L.getD n []) ((bwd gs).take 0) = ((G, qe), L.getD n []) := by rw [List.take_zero]; rfl
 obtain ⟨PF, hPF⟩ : ∃ PF : List (Nat × Nat) → Mk × List Nat, PF = pickF L ((G, qe), L.getD n []) := ⟨_, rfl⟩
 rw [← hPF] at hPok hPsn hP0 ⊢
 obtain ⟨x0, hx0⟩ : ∃ x0, x0 = L.getD n [] := ⟨_, rfl⟩
 rw [← hx0] at hl0 hr0 hcl0 hsl0 hlow0 hP0
 rw [hl0] at hcl0
 obtain ⟨BG, hBG⟩ : ∃ BG, BG = bwd gs := ⟨_, rfl⟩
 rw [← hBG] at hPok hPsn hP0 hall ⊢
 clear hPF hs0 hok hx0 hr0 hbl hBG
 have HA := Hi9 hA; clear hA
 have HGS := Hi9 hGs; clear hGs
 have HGL := Hi9 hgl; clear hgl
 have H := Hi9 h; clear h
 have HL := Hi9 hL; clear hL
 have HGR := Hi9 hgr; clear hgr
 have HPOK := Hi9 hPok; clear hPok
 have HPSN := Hi9 hPsn; clear hPsn
 have HALL := Hi9 hall; clear hall
 have HP0 := Hi9 hP0; clear hP0
 have HLL := Hi9 hll; clear hll
 have HL0 := Hi9 hl0; clear hl0
 have HSL0 := Hi9 hsl0; clear hsl0
 have HLOW0 := Hi9 hlow0; clear hlow0
 have hnl9 : (nl : Int) - 1 = (n : Int) := by omega
 have hnl1 : 1 ≤ nl := by omega
 have HNN := Hi9 hn; clear hn
 have hn1k : n ≤ 1000 := by have := HNN.out; omega
 have hnlt : n < nl := by have := HNN.out; omega
 go_enter Tryz.func283, Tryz.ntmps283
 go_upto_region 1 with fail
 refine wp_alw ?_
 intro W0 hW0
 have hst := RSt.start H.out hW0 rfl
 clear hW0
 have hcl1 := (hst.ch.cell (cell_lt hcl0) (by simp)).trans hcl0
 have hsw : RSW w W0 rb rb cap (G, qe) a0 x0 B0 := ⟨hst, HSL0.out.ch hst.ch (by simp), fun h0 p hp => .inl (HLOW0.out h0 p hp)⟩
 have HSW := Hi9 hsw; clear hsw hst hcl0
 go_wp2_with fail
 clear hnl9 hcl1
 go_loopw [8, 9] (fun o i wr => ∃ (k rbk capk : Nat) (a : Option Addr) (c : Nat), k ≤ n ∧ i = .int .i64 ((n : Int) - 1 - k) ∧ o = .slice a width c ∧ RSW w wr rb rbk capk (PF (BG.take k)).1 a (PF (BG.take k)).2 B0) (fun _ i _ => (intOf i + 1).toNat)
 case atStart => exact ⟨0, rb, cap, a0, c0, by omega, by simp, rfl, by rw [HP0.out]; exact HSW.out⟩
 case round =>
  clear HSW
  obtain ⟨k, rbk, capk, oa, oc, hk, hi, rfl, hs⟩ := hrel
  by_cases hkn : k < n
  ·obtain ⟨j, hj⟩ : ∃ j : Nat, k + j + 1 = n := ⟨n - 1 - k, by omega⟩
   have hij : (n : Int) - 1 - k = (j : Int) := by omega
   rw [hij] at hi
   subst hi
   clear hij
   obtain ⟨g, hg⟩ : ∃ g, gs[j]? = some g := ⟨_, List.getElem?_eq_getElem (by rw [HGL.out]; omega)⟩
   have hok := HPOK.out k
   have hrw := HPSN.out k j g hj hg
   have hgr := HGR.out g (List.mem_of_getElem? hg)
   have hAr := HA.out.ch hs.st.ch
   obtain ⟨b8, o8, xa, xc, hle, hcl, hslx, hxlow⟩ := hAr.at (i := j) (by omega)
   injection hle with hle
   injection hle with h1 h2 h3
   subst h1 h2
   obtain ⟨hxl, hxr⟩ := HL.out.at (i := j) (by rw [HLL.out]; omega)
   obtain ⟨gb, go, ge, gcl⟩ := HGS.out.cells j (g : Int) (by simp [natInts, hg])
   generalize hAA : PF (BG.take (k + 1)) = AN at hrw
   generalize PF (BG.take k) = AS at hrw hok hs
   obtain ⟨⟨G2, q2⟩, ol⟩ := AS
   obtain ⟨hok, hol⟩ := hok
   simp only at hs hol
   obtain ⟨x, hx⟩ : ∃ x, x = L.getD j [] := ⟨_, rfl⟩
   unfold pickS at hrw
   simp only at hrw
   rw [← hx] at hcl hslx hxl hxr hxlow hrw
   rw [hxl] at hcl
   have hCh := fun (W : World) (hW : Ch [] wr W) => r26Choose_is (hs.st.rg.ch hW (by simp)) hok.s.err (hok.s.ext.lt hgr) width xc oc (hslx.ch hW (by simp)) (hs.sw.ch hW (by simp)) hxl hol (by omega) (fun r hr => hok.s.ext.lt (hxr r hr)) (fun r hr => hok.lt r hr)
   have hlen4 : (chF g (G2, q2) (x.zip ol)).2.length = width := by rw [chF_len, List.length_zip, hxl, hol]; omega
   generalize chF g (G2, q2) (x.zip ol) = CR at hrw hCh hlen4
   obtain ⟨⟨G4, q4⟩, l4⟩ := CR
   simp only at hlen4
   subst hrw
   have ha1 : wr.cell? ⟨gb, go + j, none⟩ = some (.int .i64 g) := (hs.st.ch.cell (cell_lt gcl) (by simp)).trans gcl
   subst ge
   have hrlk := hs.st.rg.lt
   have hw2 := hs.st.lt
   have hjn : j < n := by omega
   have HM := Hi9 hCh; clear hCh
   have HS := Hi9 hs; clear hs
   have HCL := Hi9 hcl; clear hcl
   have HA1 := Hi9 ha1; clear ha1
   have HAA := Hi9 hAA; clear hAA
   have HL4 := Hi9 hlen4; clear hlen4
   have HJ := Hi9 hj; clear hj
   clear hAr h3 hok hxlow hxr hxl hx hol hslx gcl hg hgr
   go_upto_region 5 with fail
   go_cut [10, 11] (fun p q wd => TSW wr wd rbk ((G4, q4), l4) p q)
   case first =>
    refine Ord.St.door (fun w' => Ch [] wr w') [.ho, .fl, .fl, .fl, .ho, .fl, .fl, .fl, .ho, .fl, .ef, .fl, .fl, .fl, .ef, .ef, .fl] [0, 0, 0, 6, 14, 0, 0, 96, 224, 0, 1023, 2047, 4095, 4095, 0, 24575, 65535] [0, 1, 2, 3, 4, 5, 6, 7, 8, 9, 10, 11, 12, 13, 14, 15, 16] mixed (by kernel_rfl) rfl ?_
    obtain ⟨Wc, hWc⟩ : ∃ Wc, Wc = wr.drew := ⟨_, rfl⟩
    rw [← hWc]
    have hcur : Ch [] wr Wc := by rw [hWc]; exact (Ch.refl _ _).drew
    clear hWc
    refine Ord.H9 ?_ 0 [1, 2, 3, 4, 5, 6, 7, 8, 9, 10, 11, 12, 13, 14, 15, 16] ?_ (fun K w' hw' hk => ?_) ?_
    rotate_left
    ·trivial
    ·have hb4 := (HS.out.st.same hw').b4; have y0 := hb4.cell (i := 0) rfl; have y1 := hb4.cell (i := 1) rfl; have y2 := hb4.cell (i := 2) rfl; have a0 := (hw'.cell (cell_lt HA1.out) (by simp)).trans HA1.out; have b0 := (hw'.cell (cell_lt HCL.out) (by simp)).trans HCL.out; clear hb4; go_step; exact hk
    iterate 3 (refine Ord.F9 ?_ (fun K w' hk => ?_) ?_; rotate_left; focus (go_step; exact hk))
    refine Ord.H9 ?_ 4 [5, 6, 7, 8, 9, 10, 11, 12, 13, 14, 15, 16] ?_ (fun K w' hw' hk => ?_) ?_
    rotate_left
    ·trivial
    ·have hb4 := (HS.out.st.same hw').b4; have y0 := hb4.cell (i := 0) rfl; have y1 := hb4.cell (i := 1) rfl; have y2 := hb4.cell (i := 2) rfl; have a0 := (hw'.cell (cell_lt HA1.out) (by simp)).trans HA1.out; have b0 := (hw'.cell (cell_lt HCL.out) (by simp)).trans HCL.out; clear hb4; go_step; exact hk
    iterate 3 (refine Ord.F9 ?_ (fun K w' hk => ?_) ?_; rotate_left; focus (go_step; exact hk))
    refine Ord.H9 ?_ 8 [9, 10, 11, 12, 13, 14, 15, 16] ?_ (fun K w' hw' hk => ?_) ?_
    rotate_left
    ·trivial
    ·have hb4 := (HS.out.st.same hw').b4; have y0 := hb4.cell (i := 0) rfl; have y1 := hb4.cell (i := 1) rfl; have y2 := hb4.cell (i := 2) rfl; have a0 := (hw'.cell (cell_lt HA1.out) (by simp)).trans HA1.out; have b0 := (hw'.cell (cell_lt HCL.out) (by simp)).trans HCL.out; clear hb4; go_step; exact hk
    (refine Ord.F9 ?_ (fun K w' hk => ?_) ?_; rotate_left; focus (go_step; exact hk))
    refine Ord.St.two 10 14 [11, 12, 13, 14, 15, 16] [10, 11, 12, 13, 15, 16] _ _ (by kernel_rfl) rfl rfl (by kernel_rfl) (by kernel_rfl) (fun K hK => ?_) (fun K hK => ?_)
    ·have HA := Hi9 (HM.out _ hcur)
     go_wp2_with fail
     refine HA.out.mono ?_
     rintro e w7 ⟨rb2, cap2, a2, c2, rfl, hrg2, hch, hfr3, hrow2, hown2⟩
     have HROWQ := Hi9 hrow2; clear hrow2
     have HOWNQ := Hi9 hown2; clear hown2
     go_wp2_with fail
     refine ⟨rfl, hK _ _ ?_ ?_⟩
     ·exact hcur.trans hch (by simp)
     clear hK K
     try have hne := rto_ne hb9 (by omega) hfr3
     try have hno9 := tsw_ne hb9 HOWNQ.out
     try replace hb9 := hb9.ch hch (by simp)
     have hfr5 : rb2 = rbk ∨ wr.heap.size ≤ rb2 := by have := hcur.size; rcases hfr3 with e | e <;> omega
     have hlo5 := tsw_lo hcur HOWNQ.out
     have hrow2 := HROWQ.out
     replace hcur := hcur.trans hch (by simp)
     clear hch hfr3 HA HROWQ HOWNQ
     iterate 3 (refine Ord.F9 ?_ (fun K w' hk => ?_) ?_; rotate_left; focus (go_step; exact hk))
     refine Ord.St.efC 14 [15, 16] _ rfl (by kernel_rfl) (fun K hK => ?_)
     go_wp2_with fail
     refine ⟨rfl, hK _ _ ?_ ?_⟩
     ·exact hcur.alloc _
     clear hK K
     refine Ord.St.alw ?_; intro Wn hWn
     have hb9 := alw_blk (xs := [.int .i64 0, .slice none 0 0, .int .i64 0]) hWn
     have hs9 := hcur.size
     try have hne := rg_ne hrg2
     try have hno9 := row_ne hrow2
     try replace hrg2 := hrg2.ch (alw_ch hWn) (by simp)
     try replace hrow2 := hrow2.ch (alw_ch hWn) (by simp)
     replace hcur := hcur.al9 hWn
     clear hWn
     first | (have _t := hrg2; clear _t; generalize w7.heap.size = b9 at *) | generalize Wc.heap.size = b9 at *
     refine Ord.St.ef 15 [16] _ rfl (by kernel_rfl) (fun K hK => ?_)
     have z0 := hb9.cell (i := 0) rfl
     have z1 := hb9.cell (i := 1) rfl
     have z2 := hb9.cell (i := 2) rfl
     have g0 := hb9.frozen (i := 0)
     have g1 := hb9.frozen (i := 1)
     have g2 := hb9.frozen (i := 2)
     have HRG2 := Hi9 hrg2; clear hrg2
     have HB9 := Hi9 hb9; clear hb9
     have HCUR := Hi9 hcur; clear hcur
     have HROW := Hi9 hrow2; clear hrow2
     have HLO5 := Hi9 hlo5; clear hlo5
     have HNO9 := Hi9 hno9; clear hno9
     go_wp2_with fail
     refine ⟨rfl, hK _ _ ?_⟩; clear hK K
     (refine Ord.F9 ?_ (fun K w' hk => ?_) ?_; rotate_left; focus (go_step; exact hk))
     refine Ord.St.nil ?_
     go_wp2_with fail
     go_meet
     case rel => exact TSW.mk HCUR.out HRG2.out hfr5 HB9.out hs9 hne HROW.out HLO5.out HNO9.out rfl
    ·go_wp2_with fail
     refine ⟨rfl, hK _ _ ?_ ?_⟩
     ·exact hcur.alloc _
     clear hK K
     refine Ord.St.alw ?_; intro Wn hWn
     have hb9 := alw_blk (xs := [.int .i64 0, .slice none 0 0, .int .i64 0]) hWn
     have hs9 := hcur.size
     try have hne := rg_ne hrg2
     try have hno9 := row_ne hrow2
     try replace hrg2 := hrg2.ch (alw_ch hWn) (by simp)
     try replace hrow2 := hrow2.ch (alw_ch hWn) (by simp)
     replace hcur := hcur.al9 hWn
     clear hWn
     first | (have _t := hrg2; clear _t; generalize w7.heap.size = b9 at *) | generalize Wc.heap.size = b9 at *
     refine Ord.St.ef 10 [11, 12, 13, 15, 16] _ rfl (by kernel_rfl) (fun K hK => ?_)
     have HA := Hi9 (HM.out _ hcur)
     go_wp2_with fail
     refine HA.out.mono ?_
     rintro e w7 ⟨rb2, cap2, a2, c2, rfl, hrg2, hch, hfr3, hrow2, hown2⟩
     have HROWQ := Hi9 hrow2; clear hrow2
     have HOWNQ := Hi9 hown2; clear hown2
     go_wp2_with fail
     refine ⟨rfl, hK _ _ ?_⟩; clear hK K
     try have hne := rto_ne hb9 (by omega) hfr3
     try have hno9 := tsw_ne hb9 HOWNQ.out
     try replace hb9 := hb9.ch hch (by simp)
     have hfr5 : rb2 = rbk ∨ wr.heap.size ≤ rb2 := by have := hcur.size; rcases hfr3 with e | e <;> omega
     have hlo5 := tsw_lo hcur HOWNQ.out
     have hrow2 := HROWQ.out
     replace hcur := hcur.trans hch (by simp)
     clear hch hfr3 HA HROWQ HOWNQ
     iterate 3 (refine Ord.F9 ?_ (fun K w' hk => ?_) ?_; rotate_left; focus (go_step; exact hk))
     refine Ord.St.ef 15 [16] _ rfl (by kernel_rfl) (fun K hK => ?_)
     have z0 := hb9.cell (i := 0) rfl
     have z1 := hb9.cell (i := 1) rfl
     have z2 := hb9.cell (i := 2) rfl
     have g0 := hb9.frozen (i := 0)
     have g1 := hb9.frozen (i := 1)
     have g2 := hb9.frozen (i := 2)
     have HRG2 := Hi9 hrg2; clear hrg2
     have HB9 := Hi9 hb9; clear hb9
     have HCUR := Hi9 hcur; clear hcur
     have HROW := Hi9 hrow2; clear hrow2
     have HLO5 := Hi9 hlo5; clear hlo5
     have HNO9 := Hi9 hno9; clear hno9
     go_wp2_with fail
     refine ⟨rfl, hK _ _ ?_⟩; clear hK K
     (refine Ord.F9 ?_ (fun K w' hk => ?_) ?_; rotate_left; focus (go_step; exact hk))
     refine Ord.St.nil ?_
     go_wp2_with fail
     go_meet
     case rel => exact TSW.mk HCUR.out HRG2.out hfr5 HB9.out hs9 hne HROW.out HLO5.out HNO9.out rfl
   case rest =>
    obtain ⟨rb5, cap5, b5, a5, c5, rfl, rfl, hc5, hrg5, hfr5, hb5, hlo5, hrow5, hown5⟩ := hcut
    have hcF := hc5
    have hz5 := hc5.size
    have x0 := hb5.cell (i := 0) rfl
    have x1 := hb5.cell (i := 1) rfl
    have x2 := hb5.cell (i := 2) rfl
    have hbp := (HS.out.st.same hcF).b4
    have f0 := hbp.frozen (i := 0)
    have f1 := hbp.frozen (i := 1)
    have f2 := hbp.frozen (i := 2)
    have y0 := hbp.cell (i := 0) rfl
    have y1 := hbp.cell (i := 1) rfl
    have y2 := hbp.cell (i := 2) rfl
    clear hbp hb5
    have HCX := Hi9 hcF; clear hcF
    have HRX := Hi9 hrg5; clear hrg5
    have HROW5 := Hi9 hrow5; clear hrow5
    have HOWN5 := Hi9 hown5; clear hown5
    have hl4 := HL4.out
    try simp only at hl4
    rw [hl4]
    go_wp2_with fail
    go_roundw
    case rel =>
     refine ⟨k + 1, rb5, cap5, a5, c5, by omega, by congr 1; have := HJ.out; omega, rfl, ?_⟩
     rw [HAA.out]
     have hcs : Ch [w.heap.size] wc (((wc.setCell ⟨w.heap.size, 0, none⟩ (.int .i64 G4.most)).setCell ⟨w.heap.size, 1, none⟩ (.slice (some ⟨rb5, 0, none⟩) G4.nodes.length cap5)).setCell ⟨w.heap.size, 2, none⟩ (.int .i64 q4)) := set3_ch rfl
     have hsl := Sl.of_ints HROW5.out (by rw [hl4]; omega)
     exact (HS.out.put hB HCX.out HRX.out (by omega) rfl).word (hsl.ch2 hcs (fun _ p hp => by subst hp; have := HOWN5.out p.block rfl; simp; omega)) (fun _ p hp => .inr (by subst hp; have := HOWN5.out p.block rfl; omega))
    case measure => simp [intOf]
  ·have hkn2 : k = n := by omega
   have hi2 : (n : Int) - 1 - k = -1 := by omega
   rw [hi2] at hi
   subst hi
   have hl := (HPOK.out n).2
   rw [hkn2, HALL.out] at hs
   rw [HALL.out] at hl
   obtain ⟨⟨⟨G2, q2⟩, l2⟩, hES⟩ : ∃ ES, ES = PF BG := ⟨_, rfl⟩
   rw [← hES] at hs hl
   simp only at hs hl
   have HES := Hi9 hES; clear hES
   have y0 := hs.st.b4.cell (i := 0) rfl
   have y1 := hs.st.b4.cell (i := 1) rfl
   have y2 := hs.st.b4.cell (i := 2) rfl
   have v0 := hs.st.b8.cell (i := 0) rfl
   have v1 := hs.st.b8.cell (i := 1) rfl
   have v2 := hs.st.b8.cell (i := 2) rfl
   have g0 := hs.st.b8.frozen (i := 0)
   have g1 := hs.st.b8.frozen (i := 1)
   have g2 := hs.st.b8.frozen (i := 2)
   have hl8 := hs.st.b8.lt
   have HSW := Hi9 hs; clear hs
   have HLW := Hi9 hl; clear hl
   clear hkn2 hi2
   go_wp2_with fail
   refine bodyPost_ret (v := .tuple #[.agg #[.int .i64 G2.most, .slice (some ⟨rbk, 0, none⟩) G2.nodes.length capk, .int .i64 q2], .slice oa width oc]) (by simp [results, Tryz.results283, go_sem, v0, v1, v2]) rfl ?_
   show SWo w rb B0 (PF BG) _ _
   rw [← HES.out]
   have := HSW.out.fin (c := oc) hB rfl
   simp only [HLW.out] at this
   exact this
end
end Go.Proofs.YtehljgigebhddaaGreat
namespace Go.Aig
end Go.Aig
namespace Go.Proofs.YtehljgigebhddaaGreat
open Go.RowKit Go.Mem Go.Aig
theorem row.fresh9 {w : World} {n : Nat} (xs : List Value) (T : TypeId) (hn : xs.length = n) (hm : n ≤ 1000000) : row (w.alloc (.cells xs.toArray T)) T 1 (.slice (some ⟨w.heap.size, 0, none⟩) n n) n xs :=
 ⟨by simp [hn], .inr ⟨w.heap.size, n, xs.toArray, rfl, Nat.zero_le _, heap_alloc_new w _, Nat.le_refl _, by unfold maxLen; omega, by simp [hn], by subst hn; simp⟩⟩
theorem row.at9 {w : World} {e : TypeId} {g n m c j : Nat} {xs : List Value} {u : Value} (h : row w e 1 (.slice (some ⟨g, 0, none⟩) n c) m xs) (hu : xs[j]? = some u) : w.cell? ⟨g, j, none⟩ = some u := by
 have := h.cells (g := g) rfl j u hu
 rw [Addr.add_lit, Nat.zero_add] at this
 exact this
theorem intCells_at {l : List Nat} {j u : Nat} (h : l[j]? = some u) : (intCells (natInts l))[j]? = some (.int .i64 u) := by simp [intCells, natInts, h]
theorem Sl.blk9 {w : World} {b : Nat} {c : List Int} (h : blk w b (intCells c)) (hn : c.length ≤ 1000000) : Sl w (some ⟨b, 0, none⟩) c :=
 ⟨fun i x hx => ⟨b, 0, rfl, by rw [Nat.zero_add]; exact h.cell (by simp [intCells, hx])⟩, by omega⟩
theorem metCells_ints (n : Nat) : metCells (List.replicate n false) = intCells (natInts (List.replicate n 0)) := by
 simp [metCells, intCells, natInts]
section
variable {w W W' : World} {rb0 rb cap qb : Nat} {s : Mk} {l Q : List Nat} {K : List (Value × List Nat)}
end
end Go.Proofs.YtehljgigebhddaaGreat
