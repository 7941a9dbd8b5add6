/-
  Contracts of functions that MuxesWrong reaches, and plain facts (part C). Conditions: the hypotheses of each theorem.
-/
import Derived.Test.YtndcgfnlgcincaaQB
import Derived.Lib.AppendZeros
import Derived.ArgAppend
namespace Go.Aig
def chF (c : Nat) (s : Mk) (l : List (Nat × Nat)) : Mk × List Nat := eachF (fun s a b => sMux s c a b) s l
theorem chF_snoc (c : Nat) (s : Mk) (l : List (Nat × Nat)) (p : Nat × Nat) : chF c s (l ++ [p]) = eachS (fun s a b => sMux s c a b) (chF c s l) p := eachF_snoc _ s l p
theorem chF_bad (c : Nat) (s : Mk) (a : List (Nat × Nat)) (h : (chF c s a).1.2 ≠ 0) : ∀ b, (chF c s (a ++ b)).1 = (chF c s a).1 := by
  intro b
  induction b generalizing a with
  | nil => rw [List.append_nil]
  | cons p b ih =>
    have e : (chF c s (a ++ [p])).1 = (chF c s a).1 := by
      rw [chF_snoc]
      show (sMux (chF c s a).1 c p.1 p.2).1 = _
      unfold sMux
      rw [rstep_bad h]
    rw [show a ++ p :: b = (a ++ [p]) ++ b by simp, ih (a ++ [p]) (by rw [e]; exact h), e]
end Go.Aig
namespace Go.Proofs.Ytndcgfnlgcincaa
open Go.RowKit Go.Mem Go.Aig
attribute [local go_sem] Oper.semAt_some
def CH (w : World) (g m : Nat) (G : Gra) (P : Mk) (F : List Nat) (S : Mk × List Nat) (n : Nat) (v : Value) (w' : World) : Prop :=
  ∃ P' l, Sim G P' S.1 ∧ (S.1.2 = 0 → l = S.2) ∧ l.length = n ∧ (∀ r ∈ l, r < 2 * P'.1.nodes.length) ∧ Ext P.1 P'.1 ∧ MVo w g m P' [] F v l w'
section
variable {w : World} {g m : Nat} {G : Gra} {F : List Nat}
theorem zeros_snoc {l : List Nat} {n k r : Nat} (h : l.length = k) (hk : k < n) : (refsCells (l ++ List.replicate (n - k) 0)).set k (.int .i64 r) = refsCells ((l ++ [r]) ++ List.replicate (n - (k + 1)) 0) := by
  unfold refsCells
  rw [show n - k = (n - (k + 1)) + 1 by omega, List.replicate_succ, List.map_append, List.map_append, List.map_append, List.map_cons, List.set_append_right _ _ (by simp [h]), List.length_map, h, Nat.sub_self]
  simp
set_option maxRecDepth 100000 in
set_option maxHeartbeats 4000000 in
theorem mchoose_is {P R : Mk} (h : MIn w g m P F) (hsim : Sim G P R) {c : Nat} (hc : c < 2 * P.1.nodes.length) {x y : List Nat} {xa ya : Option Addr} (n xc yc : Nat) (hxl : x.length = n) (hyl : y.length = n) (hn : n ≤ 1000)
    (hx : Sl w xa (x.map fun (r : Nat) => (r : Int))) (hy : Sl w ya (y.map fun (r : Nat) => (r : Int))) (hxa : ∀ k ∈ ablk xa, k ∉ m :: F ∧ k < w.heap.size) (hya : ∀ k ∈ ablk ya, k ∉ m :: F ∧ k < w.heap.size)
    (hxr : ∀ r ∈ x, r < 2 * P.1.nodes.length) (hyr : ∀ r ∈ y, r < 2 * P.1.nodes.length) :
    Calls Try.prog 32 #[.pointer (some ⟨m, 0, none⟩), .int .i64 c, .slice xa n xc, .slice ya n yc] w fun e w' => ∃ v, e = .returned v ∧ CH w g m G P F (chF c R (x.zip y)) n v w' := by
  have hml := h.bk.lt
  have hFl := h.gin.lt
  have hmk := run_make_refs w n (by omega)
  have hzl : (x.zip y).length = n := by rw [List.length_zip]; omega
  have HX := Lib.hid hx; clear hx
  have HY := Lib.hid hy; clear hy
  have HXA := Lib.hid hxa; clear hxa
  have HYA := Lib.hid hya; clear hya
  have HXR := Lib.hid hxr; clear hxr
  have HYR := Lib.hid hyr; clear hyr
  have H := Lib.hid h; clear h
  have HSIM := Lib.hid hsim; clear hsim
  have HCL := Lib.hid hc; clear hc
  have HXL := Lib.hid hxl; clear hxl
  have HYL := Lib.hid hyl; clear hyl
  have HZL := Lib.hid hzl; clear hzl
  have HFL := Lib.hid hFl; clear hFl
  go_enter Try.func32, Try.ntmps32
  go_upto_region 2 with fail
  refine wp_named fun W0 hW0 => ?_
  have hc0 : Ch [] w W0 := by rw [hW0]; exact (Ch.refl _ _).alloc _
  have hz0 : W0.heap.size = w.heap.size + 1 := by rw [hW0]; simp
  have hr0 : row W0 26 1 (.slice (some ⟨w.heap.size, 0, none⟩) n n) n (refsCells (List.replicate n 0)) := ⟨by simp [refsCells], .inr ⟨w.heap.size, n, _, rfl, by omega, by rw [hW0]; exact heap_alloc_new w _, by omega, by unfold maxLen; omega, by simp [refsCells], by simp [refsCells]⟩⟩
  clear hW0 hmk
  have HC0 := Lib.hid hc0; clear hc0
  have HR0 := Lib.hid hr0; clear hr0
  go_wp2_with fail
  go_loopw [19] (fun i wr => ∃ (k : Nat) (P' : Mk) (F' l : List Nat), k ≤ n ∧ i = .int .i64 k ∧ l.length = k ∧ Sim G P' (chF c R ((x.zip y).take k)).1 ∧ ((chF c R ((x.zip y).take k)).1.2 = 0 → l = (chF c R ((x.zip y).take k)).2) ∧ (∀ r ∈ l, r < 2 * P'.1.nodes.length) ∧ Ext P.1 P'.1 ∧ MIn wr g m P' F' ∧ Ch (m :: F) w wr ∧ (∀ q ∈ F', q ∈ F ∨ w.heap.size + 1 ≤ q) ∧ F'[2]? = F[2]? ∧ row wr 26 1 (.slice (some ⟨w.heap.size, 0, none⟩) n n) n (refsCells (l ++ List.replicate (n - k) 0)) ∧ w.heap.size + 1 ≤ wr.heap.size) (fun i _ => n - (intOf i).toNat)
  case atStart => exact ⟨0, P, F, [], Nat.zero_le _, rfl, rfl, HSIM.out, fun _ => rfl, by simp, .refl _, H.out.same HC0.out (by simp), HC0.out.mono (by simp), fun q hq => .inl hq, rfl, HR0.out, by omega⟩
  case round =>
    obtain ⟨k, P', F', l, hk, rfl, hll, hs, hout, hall, hext, hm, hch, hown, hmap, hrow, hsz⟩ := hrel
    have hobF : w.heap.size ∉ m :: F' := fun hin => by
      simp only [List.mem_cons] at hin
      rcases hin with e | hin
      · omega
      · rcases hown _ hin with e | e
        · have := HFL.out _ e; omega
        · omega
    have m1 := hm.bk.cell (i := 1) rfl
    have hfin : ∀ (W' : World) (a : Bool), W' = wr → True := fun _ _ _ => trivial
    clear hfin
    by_cases hlt : k < n
    · by_cases hP : P'.2 = 0
      · obtain ⟨a, ha⟩ : ∃ a, x[k]? = some a := ⟨_, List.getElem?_eq_getElem (by rw [HXL.out]; exact hlt)⟩
        obtain ⟨b, hb⟩ : ∃ b, y[k]? = some b := ⟨_, List.getElem?_eq_getElem (by rw [HYL.out]; exact hlt)⟩
        obtain ⟨xb, xo, rfl, hxc⟩ := HX.out.cells k (a : Int) (by simp [ha])
        obtain ⟨yb, yo, rfl, hyc⟩ := HY.out.cells k (b : Int) (by simp [hb])
        have d0 := (hch.cell (p := ⟨xb, xo + k, none⟩) (HXA.out xb (by simp [ablk])).2 (HXA.out xb (by simp [ablk])).1).trans hxc
        have d1 := (hch.cell (p := ⟨yb, yo + k, none⟩) (HYA.out yb (by simp [ablk])).2 (HYA.out yb (by simp [ablk])).1).trans hyc
        have hz : (x.zip y)[k]? = some (a, b) := by rw [List.getElem?_zip_eq_some]; exact ⟨ha, hb⟩
        have hsu : chF c R ((x.zip y).take (k + 1)) = eachS (fun s a b => sMux s c a b) (chF c R ((x.zip y).take k)) (a, b) := by rw [List.take_add_one, hz]; exact chF_snoc _ _ _ _
        have hca := hext.lt HCL.out
        have haa := hext.lt (HXR.out a (List.mem_of_getElem? ha))
        have hbb := hext.lt (HYR.out b (List.mem_of_getElem? hb))
        generalize chF c R ((x.zip y).take k) = R' at hs hout hsu
        have hst := hs.step (rMux_full hm.gin.ok hca haa hbb) (fun _ e => by rw [e])
        have hMX := fun (W : World) (hW : Ch [] wr W) => Mux_g (hm.gin.same hW (by simp)) c a b (by have := hm.gin.ok.small; omega) (by have := hm.gin.ok.small; omega) (by have := hm.gin.ok.small; omega)
        rw [doMux_r hca haa hbb] at hMX
        have m0 := hm.bk.cell (i := 0) rfl
        rw [hP] at m1
        have hbk := hm.bk
        obtain ⟨X, hX⟩ : ∃ X, rMux P'.1 c a b = X := ⟨_, rfl⟩
        have HXX := Lib.hid hX
        rw [hX] at hst hMX
        clear hX hxc hyc ha hb hz
        have HMX := Lib.hid hMX; clear hMX
        have HST := Lib.hid hst; clear hst
        have HSU := Lib.hid hsu; clear hsu
        have HS := Lib.hid hs; clear hs
        have HM := Lib.hid hm; clear hm
        have HCH := Lib.hid hch; clear hch
        have HROW := Lib.hid hrow; clear hrow
        have HOUT := Lib.hid hout; clear hout
        have HOB := Lib.hid hobF; clear hobF
        have HP := Lib.hid hP; clear hP
        have HBK := Lib.hid hbk; clear hbk
        go_upto_region 6 with fail
        refine Ord.St.door (fun _ => True) [.fl, .fl, .fl, .rd, .fl, .fl, .fl, .fl, .fl, .rd, .ef, .fl, .fl, .fl, .fl, .fl] [0, 1, 3, 7, 0, 0, 0, 0, 192, 448, 1023, 2047, 4095, 4095, 8191, 32767] [0, 1, 2, 3, 4, 5, 6, 7, 8, 9, 10, 11, 12, 13, 14, 15] mixed (by kernel_rfl) rfl ?_
        obtain ⟨Wc, hWc⟩ : ∃ Wc, Wc = wr.drew := ⟨_, rfl⟩
        rw [← hWc]
        have hcur : Ch [] wr Wc := by rw [hWc]; exact (Ch.refl _ _).drew
        have m0c : Wc.cell? ⟨m, 0, none⟩ = some (.pointer (some ⟨g, 0, none⟩)) := by rw [hWc]; exact m0
        have d1c : Wc.cell? ⟨yb, yo + k, none⟩ = some (.int .i64 b) := by rw [hWc]; exact d1
        clear hWc
        have han := HMX.out Wc hcur
        have HAN1 := Lib.hid han; clear han HMX
        have HCUR := Lib.hid hcur; clear hcur
        refine Ord.St.fl2 (T' := ?_) 0 [1, 2, 3, 4, 5, 6, 7, 8, 9, 10, 11, 12, 13, 14, 15] _ _ rfl (by kernel_rfl) rfl rfl rfl rfl (fun K w' hk => ?_) ?_
        rotate_left
        · go_step; exact hk
        refine Ord.St.fl2 (T' := ?_) 1 [2, 3, 4, 5, 6, 7, 8, 9, 10, 11, 12, 13, 14, 15] _ _ rfl (by kernel_rfl) rfl rfl rfl rfl (fun K w' hk => ?_) ?_
        rotate_left
        · go_step; exact hk
        refine Ord.St.fl2 (T' := ?_) 2 [3, 4, 5, 6, 7, 8, 9, 10, 11, 12, 13, 14, 15] _ _ rfl (by kernel_rfl) rfl rfl rfl rfl (fun K w' hk => ?_) ?_
        rotate_left
        · go_step; exact hk
        refine Ord.St.rd2 (T' := ?_) 3 [4, 5, 6, 7, 8, 9, 10, 11, 12, 13, 14, 15] _ _ rfl (by kernel_rfl) rfl rfl rfl rfl (fun K hk => ?_) ?_
        rotate_left
        · go_step; exact hk
        refine Ord.St.fl2 (T' := ?_) 4 [5, 6, 7, 8, 9, 10, 11, 12, 13, 14, 15] _ _ rfl (by kernel_rfl) rfl rfl rfl rfl (fun K w' hk => ?_) ?_
        rotate_left
        · go_step; exact hk
        refine Ord.St.fl2 (T' := ?_) 5 [6, 7, 8, 9, 10, 11, 12, 13, 14, 15] _ _ rfl (by kernel_rfl) rfl rfl rfl rfl (fun K w' hk => ?_) ?_
        rotate_left
        · go_step; exact hk
        refine Ord.St.fl2 (T' := ?_) 6 [7, 8, 9, 10, 11, 12, 13, 14, 15] _ _ rfl (by kernel_rfl) rfl rfl rfl rfl (fun K w' hk => ?_) ?_
        rotate_left
        · go_step; exact hk
        refine Ord.St.fl2 (T' := ?_) 7 [8, 9, 10, 11, 12, 13, 14, 15] _ _ rfl (by kernel_rfl) rfl rfl rfl rfl (fun K w' hk => ?_) ?_
        rotate_left
        · go_step; exact hk
        refine Ord.St.fl2 (T' := ?_) 8 [9, 10, 11, 12, 13, 14, 15] _ _ rfl (by kernel_rfl) rfl rfl rfl rfl (fun K w' hk => ?_) ?_
        rotate_left
        · go_step; exact hk
        refine Ord.St.rd2 (T' := ?_) 9 [10, 11, 12, 13, 14, 15] _ _ rfl (by kernel_rfl) rfl rfl rfl rfl (fun K hk => ?_) ?_
        rotate_left
        · go_step; exact hk
        refine Ord.St.ef 10 [11, 12, 13, 14, 15] _ rfl (by kernel_rfl) (fun K hK => ?_)
        go_wp2_with fail
        refine HAN1.out.mono ?_
        rintro e w5 ⟨rfl, hto⟩
        have hb5 := ((HBK.out.ch HCUR.out (by simp)).ch hto.choose_spec.2.1 HM.out.apart)
        have HTO := Lib.hid hto; clear hto
        have HNT := mnote_is hb5 X.2.1 X.2.2
        clear hb5
        go_wp2_with fail
        refine ⟨rfl, hK _ _ ?_⟩; clear hK K
        refine Ord.St.fl2 (T' := ?_) 11 [12, 13, 14, 15] _ _ rfl (by kernel_rfl) rfl rfl rfl rfl (fun K w' hk => ?_) ?_
        rotate_left
        · go_step; exact hk
        refine Ord.St.fl2 (T' := ?_) 12 [13, 14, 15] _ _ rfl (by kernel_rfl) rfl rfl rfl rfl (fun K w' hk => ?_) ?_
        rotate_left
        · go_step; exact hk
        refine Ord.St.fl2 (T' := ?_) 13 [14, 15] _ _ rfl (by kernel_rfl) rfl rfl rfl rfl (fun K w' hk => ?_) ?_
        rotate_left
        · go_step; exact hk
        refine Ord.St.fl2 (T' := ?_) 14 [15] _ _ rfl (by kernel_rfl) rfl rfl rfl rfl (fun K w' hk => ?_) ?_
        rotate_left
        · go_step; exact hk
        refine Ord.St.fl2 (T' := ?_) 15 [] _ _ rfl (by kernel_rfl) rfl rfl rfl rfl (fun K w' hk => ?_) ?_
        rotate_left
        · go_step; exact hk
        refine Ord.St.nil ?_
        go_wp2_with fail
        refine HNT.mono ?_
        rintro e w6 ⟨rfl, hb6, hc6⟩
        have hmc := HM.out.same HCUR.out (by simp)
        obtain ⟨F6, hm6, hc56, hown6, hmap6⟩ := MTo.of (P' := (mput P' X).1) hmc HTO.out (fun _ => hb6) hc6
        have hc06 := (HCUR.out.mono (by simp)).trans hc56 (fun q hq => .inl hq)
        have hrow6 := HROW.out.ch hc06 (by intro q hq; cases hq; exact HOB.out)
        have hch6 := HCH.out.trans hc06 (by
          intro q hq
          simp only [List.mem_cons] at hq ⊢
          rcases hq with e | hq
          · exact .inl (.inl e)
          · rcases hown q hq with e | e
            · exact .inl (.inr e)
            · exact .inr (by omega))
        have hz6 := hc06.size
        have hobl := (hrow6.lt _ rfl).2
        have hown6' : ∀ q ∈ F6, q ∈ F ∨ w.heap.size + 1 ≤ q := fun q hq => by
          rcases hown6 q hq with e | e
          · exact hown q e
          · have := HCUR.out.size; omega
        clear hb6 hc6 hc56 hc06 hmc HTO
        have HM6 := Lib.hid hm6; clear hm6
        have HROW6 := Lib.hid hrow6; clear hrow6
        have HCH6 := Lib.hid hch6; clear hch6
        have c6 : w6.cell? ⟨w.heap.size, k, none⟩ = some (.int .i64 0) := row_at2 HROW6.out (by simp [refsCells, hll, show n - k = (n - (k + 1)) + 1 by omega, List.replicate_succ])
        have f6 := row_fz HROW6.out (by omega) k
        go_wp2_with fail
        go_roundw
        case rel =>
          obtain ⟨k1, k2, k3, k4, k5, k6, k7⟩ := HST.out
          have hcs : Ch [w.heap.size] w6 (w6.setCell ⟨w.heap.size, k, none⟩ (.int .i64 X.2.1)) := (Ch.refl _ _).setCell (by simp) _
          refine ⟨k + 1, (mput P' X).1, F6, l ++ [X.2.1], by omega, by go_num, by simp [hll], by rw [HSU.out]; exact k1, fun hz => ?_, fun r hr => ?_, hext.trans k5, HM6.out.same hcs ?_, HCH6.out.trans hcs (fun q hq => .inr (by simp at hq; omega)), hown6', hmap6.trans hmap, ?_, by simp; omega⟩
          · rw [HSU.out] at hz ⊢
            show l ++ [X.2.1] = R'.2 ++ [(sMux R'.1 c a b).2]
            have hR0 : R'.1.2 = 0 := by
              by_cases h0 : R'.1.2 = 0
              · exact h0
              · exact absurd hz (k7 h0)
            rw [HOUT.out hR0]
            have := k4 hz
            exact congrArg (fun z => R'.2 ++ [z]) this
          · rcases List.mem_append.1 hr with hr | hr
            · exact k5.lt (hall r hr)
            · rw [List.mem_singleton.1 hr]; exact k2
          · intro q hq hq2
            rw [List.mem_singleton.1 hq2] at hq
            simp only [List.mem_cons] at hq
            rcases hq with e | hq
            · omega
            · rcases hown6' _ hq with e | e
              · have := HFL.out _ e; omega
              · omega
          · rw [← zeros_snoc (r := X.2.1) hll hlt]
            exact row.set HROW6.out _
        case measure => simp [intOf]; omega
      · have hR : (chF c R ((x.zip y).take k)).1.2 ≠ 0 := by
          rcases hs.rel with ⟨_, e⟩ | ⟨e, _⟩
          · rw [← e]; exact hP
          · omega
        have hbad := chF_bad c R _ hR ((x.zip y).drop k)
        rw [List.take_append_drop] at hbad
        have hq : ((P'.2 : Int) != 0) = true := by simp; omega
        have hpos := hm.gin.ok.wf.pos
        obtain ⟨xq, hxq⟩ : ∃ a, x[k]? = some a := ⟨_, List.getElem?_eq_getElem (by rw [HXL.out]; exact hlt)⟩
        obtain ⟨xb, xo, rfl, hxc⟩ := HX.out.cells k (xq : Int) (by simp [hxq])
        have d0 := (hch.cell (p := ⟨xb, xo + k, none⟩) (HXA.out xb (by simp [ablk])).2 (HXA.out xb (by simp [ablk])).1).trans hxc
        have HS := Lib.hid hs; clear hs
        have HM := Lib.hid hm; clear hm
        have HCH := Lib.hid hch; clear hch
        have HROW := Lib.hid hrow; clear hrow
        have HR := Lib.hid hR; clear hR
        have HBAD := Lib.hid hbad; clear hbad
        have HOUT := Lib.hid hout; clear hout
        have HOB := Lib.hid hobF; clear hobF
        clear hP hxc hxq
        go_wp2_with fail
        go_ret
        refine ⟨_, rfl, P', l ++ List.replicate (n - k) 0, by rw [HBAD.out]; exact HS.out, fun h0 => absurd (by rw [HBAD.out] at h0; exact h0) HR.out, by simp [hll]; omega, fun r hr => ?_, hext, F', HM.out, HCH.out, fun q hq => (hown q hq).imp id (fun e => by omega), hmap, ?_, ?_⟩
        · rcases List.mem_append.1 hr with hr | hr
          · exact hall r hr
          · rw [(List.mem_replicate.1 hr).2]; omega
        · have hlen : (l ++ List.replicate (n - k) 0).length = n := by simp [hll]; omega
          rw [hlen]; exact HROW.out
        · intro q hq
          cases hq
          have := HOB.out
          simp only [List.mem_cons, not_or] at this
          exact ⟨Nat.le_refl _, this.2, by show w.heap.size ≠ m; omega⟩
    · have hkn : k = n := by omega
      subst hkn
      rw [List.take_of_length_le (by rw [HZL.out]; omega)] at hs hout
      have HS := Lib.hid hs; clear hs
      have HM := Lib.hid hm; clear hm
      have HCH := Lib.hid hch; clear hch
      have HROW := Lib.hid hrow; clear hrow
      have HOUT := Lib.hid hout; clear hout
      have HOB := Lib.hid hobF; clear hobF
      go_wp2_with fail
      go_ret
      refine ⟨_, rfl, P', l, HS.out, HOUT.out, hll, hall, hext, F', HM.out, HCH.out, fun q hq => (hown q hq).imp id (fun e => by omega), hmap, ?_, ?_⟩
      · have := HROW.out
        rw [Nat.sub_self, List.replicate_zero, List.append_nil] at this
        rw [hll]; exact this
      · intro q hq
        cases hq
        have := HOB.out
        simp only [List.mem_cons, not_or] at this
        exact ⟨Nat.le_refl _, this.2, by show w.heap.size ≠ m; omega⟩
end
end Go.Proofs.Ytndcgfnlgcincaa
namespace Go.Aig
def eqW (G : Gra) (x y : List Nat) : Res := negG (refG G [natInts x, natInts y] (neF (G, 0) (x.zip y)))
theorem nats_natInts' (l : List Nat) : nats (natInts l) = l := Go.Proofs.Ytndcgfnlgcincaa.toNats l
theorem chk2_ok {G : Gra} {x y : List Nat} {n : Nat} (hx : x.length = n) (hy : y.length = n) (h1 : 1 ≤ n) (h17 : n ≤ 17) (hxr : ∀ r ∈ x, r < 2 * G.nodes.length) (hyr : ∀ r ∈ y, r < 2 * G.nodes.length) : chk G [natInts x, natInts y] = 0 := by
  have h : rightW (n : Int) = true := by unfold rightW; simp; omega
  have hb : ∀ z : List Nat, (∀ r ∈ z, r < 2 * G.nodes.length) → badIn G (natInts z) = false := fun z hz => by
    unfold badIn natInts
    rw [List.any_map, List.any_eq_false]
    intro r hr
    have := hz r hr
    simp [right]; omega
  unfold chk
  simp only [List.any_cons, List.any_nil, Bool.or_false, List.headD_cons, hb x hxr, hb y hyr, badAs, natInts_len, hx, hy, h]
  simp
theorem eqW_full {G : Gra} (hG : Ok G) {x y : List Nat} {n : Nat} (hx : x.length = n) (hy : y.length = n) (h1 : 1 ≤ n) (h17 : n ≤ 17) (hxr : ∀ r ∈ x, r < 2 * G.nodes.length) (hyr : ∀ r ∈ y, r < 2 * G.nodes.length) : RFull G (eqW G x y) := by
  have hv := neF_vok hG (x.zip y) (zip_lt hxr hyr)
  have hc := chk2_ok hx hy h1 h17 hxr hyr
  have hp := hG.wf.pos
  unfold eqW refG
  rw [if_neg (by simpa using hc)]
  unfold rres
  split
  · rename_i he
    have e1 : (neF (G, 0) (x.zip y)).1.2 = 201 := hv.s.err.resolve_left he
    rw [e1]
    show RFull G (G, 0, 201)
    exact ⟨⟨hG, .refl _, by show 0 < 2 * G.nodes.length; omega, .inr rfl⟩, fun _ => rfl⟩
  · unfold negG
    rw [if_neg (by simp)]
    exact ⟨⟨hv.s.ok, hv.s.ext, neg_lt hv.lt, .inl rfl⟩, fun h => absurd rfl h⟩
theorem constL_len (x n : Nat) : (constL x n).length = n := by simp [constL]
theorem constL_le (x n : Nat) : ∀ r ∈ constL x n, r ≤ 1 := fun r hr => by
  unfold constL at hr
  obtain ⟨i, _, rfl⟩ := List.mem_map.1 hr
  cases x.testBit i <;> simp
def fitN (n bits : Nat) : Nat := min n (2 ^ bits)
end Go.Aig
namespace Go.Proofs.Ytndcgfnlgcincaa
open Go.RowKit Go.Mem Go.Aig
section
variable {w : World} {g m : Nat} {G : Gra} {F : List Nat}
set_option maxRecDepth 100000 in
set_option maxHeartbeats 1000000 in
theorem mfit_is [Nonempty Unit] (n bits : Nat) (h16 : bits ≤ 16) (_hn : n ≤ 1000) :
    Calls Try.prog 46 #[.int .i64 n, .int .i64 bits] w fun e w' => e = .returned (.int .i64 (fitN n bits : Nat)) ∧ w = w' := by
  obtain ⟨m, hm, hmn⟩ : ∃ m, fitN n bits = m ∧ m ≤ n := ⟨_, rfl, Nat.min_le_left _ _⟩
  have hp : (2 : Nat) ^ bits ≤ 65536 := Nat.pow_le_pow_right (n := 2) (by omega) h16
  have hmin : ∀ ats ty, Builtin.min_ ats ty #[.int .i64 (n : Int), .int .i64 (wrap64 ((2 : Int) ^ bits))] = pure (.int .i64 (m : Int)) := fun ats ty => by
    have e : wrap64 ((2 : Int) ^ bits) = ((2 ^ bits : Nat) : Int) := by
      have : ((2 : Int) ^ bits) = ((2 ^ bits : Nat) : Int) := by simp
      rw [this]
      generalize (2 : Nat) ^ bits = D at hp
      exact IntWalk.wrap64_in _ (by omega)
    rw [e]
    exact min_nat n (2 ^ bits) m hm ats ty
  clear hp
  rw [hm]
  clear hm
  go_enter Try.func46, Try.ntmps46
  go_wp2_with fail
  go_ret
  exact ⟨rfl, rfl⟩
set_option maxRecDepth 100000 in
set_option maxHeartbeats 2000000 in
theorem mis_is {P : Mk} (h : MIn w g m P F) {y : List Nat} {ya : Option Addr} (n yc i : Nat) (hyl : y.length = n) (h1 : 1 ≤ n) (h17 : n ≤ 17) (hi : i < 4294967296) (hy : WVin w F ⟨ya, natInts y, yc⟩) (_hyr : ∀ r ∈ y, r < 2 * P.1.nodes.length) :
    Calls Try.prog 45 #[.pointer (some ⟨m, 0, none⟩), .slice ya n yc, .int .u32 i] w fun e w' => e = .returned (.int .i64 (mput P (eqW P.1 y (constL i n))).2) ∧ MTo w g m (mput P (eqW P.1 y (constL i n))).1 F w' := by
  have hC := sConst_is (w := w) i hi n
  have hr : rightW (n : Int) = true := by unfold rightW; simp; omega
  rw [hr] at hC
  simp only [if_true, Int.toNat_natCast] at hC
  have hlt := h.gin.lt
  have hpos := h.gin.ok.wf.pos
  have hE := fun (W : World) (hW : Ch [] w W) (ca : Option Addr) (cc : Nat) (hc : WVin W F ⟨ca, natInts (constL i n), cc⟩) => sEq_is (h.gin.same hW (by simp)) (hy.ch hW) hc
  simp only [nats_natInts', WV.val, natInts_len, constL_len, hyl] at hE
  obtain ⟨X, hX⟩ : ∃ X, eqW P.1 y (constL i n) = X := ⟨_, rfl⟩
  have hX2 := hX
  unfold eqW at hX2
  simp only [hX2] at hE
  rw [hX]
  have hml := h.bk.lt
  clear hX hX2 hr
  have H := Lib.hid h; clear h
  have HE := Lib.hid hE; clear hE
  have HY := Lib.hid hy; clear hy
  have HLT := Lib.hid hlt; clear hlt
  go_enter Try.func45, Try.ntmps45
  go_wp2_with fail
  refine hC.mono ?_
  rintro e w1 ⟨v, rfl, hrow, hown, hc1⟩
  have e1 : (refsCells (constL i n)).length = n := by simp [refsCells, constL_len]
  rw [e1] at hrow
  obtain ⟨va, vc, rfl⟩ := row.shape hrow
  have hm1 := H.out.same hc1 (by simp)
  have hwv : WVin w1 F ⟨va, natInts (constL i n), vc⟩ := by
    have hh : Held w w1 F (.slice va n vc) (natInts (constL i n)) := ⟨by rw [← refs_natInts, natInts_len, constL_len]; exact hrow, by rw [natInts_len, constL_len]; omega, fun r hr => by
      obtain ⟨q, hq, rfl⟩ := List.mem_map.1 hr
      have := constL_le i n q hq
      omega, fun k hk => ⟨hown k (by simpa using hk), fun hin => by have := HLT.out k hin; have := hown k (by simpa using hk); omega⟩⟩
    exact hh.in (by rw [natInts_len, constL_len])
  have hE1 := HE.out w1 hc1 va vc hwv
  have m0 := hm1.bk.cell (i := 0) rfl
  have HM1 := Lib.hid hm1; clear hm1
  have HC1 := Lib.hid hc1; clear hc1
  have HE1 := Lib.hid hE1; clear hE1 HE
  clear hrow hwv hown
  go_wp2_with fail
  refine HE1.out.mono ?_
  rintro e w2 ⟨rfl, hto⟩
  have hb2 := HM1.out.bk.ch hto.choose_spec.2.1 HM1.out.apart
  have HTO := Lib.hid hto; clear hto
  have HN := mnote_is hb2 X.2.1 X.2.2
  clear hb2 m0
  go_wp2_with fail
  refine HN.mono ?_
  rintro e w3 ⟨rfl, hb3, hc3⟩
  have HB := Lib.hid hb3; clear hb3
  have HC := Lib.hid hc3; clear hc3
  go_wp2_with fail
  go_ret
  obtain ⟨F', q1, q2, q3, q4⟩ := MTo.of (P' := (mput P X).1) HM1.out HTO.out (fun _ => HB.out) HC.out
  exact ⟨rfl, F', q1, (HC1.out.mono (by simp)).trans q2 (fun k hk => .inl hk), fun k hk => (q3 k hk).imp id (fun e => Nat.le_trans HC1.out.size e), q4⟩
end
end Go.Proofs.Ytndcgfnlgcincaa
namespace Go
open Go.RowKit Go.Mem
section
variable {F : Fence} {n : Nat} {P : Program}
theorem wpIn_rangeFunc_Q {g : Operand} {ps : Array Tmp} {assign body : Code} {Q : Exit → Act → World → Prop} {a : Act} {w : World} (B : Nat) (hB : w.heap.size = B)
    (hro : F.round = none) (h1 : 1 ≤ n) {gf : Nat} {lb : Array Value} (hg : a.eval g = .func (.func gf) #[] lb) (hFg : F.fn gf) (eg : ∀ args w, (callFunc gf args).run P w = .ok (.enter gf args) w)
    {ι : Type} {encs : ι → Array Value} (hps : ∀ x, (encs x).size = ps.size) (J0 : World → Prop) (K J : ι → World → Prop) (D : World → Prop)
    (hseq : ∀ (l : Nat) (X : World → Prop), (∀ A A' L, X A → Ch L A A' → (∀ q ∈ L, q ≠ B ∧ q ≠ B + 1) → X A') → (∀ A, X A → B + 2 ≤ A.heap.size) →
      (∀ x W, K x W → X W → YieldAt F (n - 1 - 1) P l (encs x) W fun e W' => e = .returned (.bool true) ∧ J x W' ∧ X W') →
      ∀ W, J0 W → X W → CallsIn F (n - 1) P gf (#[.func (.yield l) #[] #[]] ++ lb) W fun e W' => (∃ v, e = .returned v) ∧ D W' ∧ X W')
    (hJ0 : ∀ A A', J0 A → Ch [B, B + 1] A A' → J0 A') (hK : ∀ x A A', K x A → Ch [B, B + 1] A A' → K x A') (hJ : ∀ x A A', J x A → Ch [B, B + 1] A A' → J x A') (hD : ∀ A A', D A → Ch [B, B + 1] A A' → D A')
    (h0 : J0 w) (a₁ : ι → Act)
    (hassign : ∀ (l : Nat) (x : ι) (W : World) (K : Act → World → Prop), K (a₁ x) W →
      assign.wpIn (F.inRound l) (n - 1 - 1) P (Exit.then K (fun _ _ _ => False)) { tmps := (ps.zip (encs x)).foldl (fun t (p, v) => t.setIfInBounds p v) a.tmps, defers := [] } W)
    (hbody : ∀ (l : Nat) (x : ι) (W : World), K x W → B + 2 ≤ W.heap.size → body.wpIn (F.inRound l) (n - 1 - 1) P (fun e _ W' => Books B W W' ∧ e = .normal ∧ J x W') (a₁ x) W)
    (hdone : ∀ (W : World), D W → W.heap[B]? = some (.deferred (some [])) → B + 2 ≤ W.heap.size → Q .normal { a with defers := { target := .collected B, args := #[] } :: a.defers } W) :
    (Code.rangeFunc g ps assign body).wpIn F n P Q a w := by
  subst hB
  refine wpIn_rangeFunc fun fn hfn => ?_
  rw [hro]
  let rec0 : LoopState → Option Code → Loop := fun st pe => { state := st, pending := pe, fn, tmps := a.tmps, params := ps, assign, body, defers := w.heap.size }
  obtain ⟨W1, hW1⟩ : ∃ W1, (w.alloc (.deferred (some []))).alloc (.loop (rec0 .ready none)) = W1 := ⟨_, rfl⟩
  have hz1 : W1.heap.size = w.heap.size + 2 := by rw [← hW1]; simp
  have hL1 : W1.heap[w.heap.size + 1]? = some (.loop (rec0 .ready none)) := by
    rw [← hW1]; have := World.alloc_heap_new (w.alloc (.deferred (some []))) (.loop (rec0 .ready none)); rwa [World.size_alloc] at this
  have hK1 : W1.heap[w.heap.size]? = some (.deferred (some [])) := by
    rw [← hW1]; exact (Below.heap_alloc _ _ _ (by simp)).trans (World.alloc_heap_new w _)
  have hc1 : Ch [] w W1 := by rw [← hW1]; exact ((Ch.refl _ _).alloc _).alloc _
  have hI1 : J0 W1 := hJ0 _ _ h0 (hc1.mono (by simp))
  refine ⟨w.heap.size + 1, [{ target := .collected w.heap.size, args := #[] }], W1, { target := .fn (.func gf) lb, args := #[.func (.yield (w.heap.size + 1)) #[] #[]] }, W1, gf,
    #[.func (.yield (w.heap.size + 1)) #[] #[]] ++ lb, W1, ?_, ?_, ?_, ?_, fun _ => h1, ?_⟩
  · rw [← hW1]; exact run_enterLoop_outer _ _ _ _ _
  · simp only [resolve, hg]
    simp [go_sem]
  · intro f' hf'; simp [Target.leads] at hf'; subst hf'; exact hFg
  · simp [invoke, go_sem, eg]
  · refine (hseq (w.heap.size + 1) (fun W => w.heap.size + 2 ≤ W.heap.size ∧ W.heap[w.heap.size + 1]? = some (.loop (rec0 .ready none)) ∧ W.heap[w.heap.size]? = some (.deferred (some [])))
      (fun A A' L hs hc hL => ⟨Nat.le_trans hs.1 hc.size, (hc.block _ (by have := hs.1; omega) (fun hin => (hL _ hin).2 rfl)).trans hs.2.1, (hc.block _ (by have := hs.1; omega) (fun hin => (hL _ hin).1 rfl)).trans hs.2.2⟩)
      (fun A hA => hA.1) ?_ W1 hI1 ⟨by omega, hL1, hK1⟩).mono ?_
    · rintro x W hi ⟨hz, hl, hk⟩
      have hlt : w.heap.size + 1 < W.heap.size := by omega
      refine ⟨fn, _, assign, body, run_yield (P := P) (args := encs x) hl (hps x), roundIn_of_wpIn hfn (hassign _ x W _ ⟨_, run_beginRound hl rfl, ?_⟩)⟩
      have hl2 : (W.putObj (w.heap.size + 1) (.loop (rec0 .busy none))).heap[w.heap.size + 1]? = some (.loop (rec0 .busy none)) := World.putObj_heap_same hlt
      have hk2 : (W.putObj (w.heap.size + 1) (.loop (rec0 .busy none))).heap[w.heap.size]? = some (.deferred (some [])) := (World.putObj_heap_other (by omega)).trans hk
      refine wpIn_mono (hbody _ x _ (hK _ _ _ hi (ch_put (by simp))) (by simp; omega)) ?_
      rintro e a3 W3 ⟨⟨hb0, hb1⟩, rfl, hi3⟩
      have hl3 := hb1.trans hl2
      have hlt3 := (Array.getElem?_eq_some_iff.1 hl3).1
      exact ⟨_, _, run_endRound (P := P) none hl3, rfl, hJ _ _ _ hi3 (ch_put (by simp)), by simp; omega, World.putObj_heap_same hlt3, (World.putObj_heap_other (by omega)).trans (hb0.trans hk2)⟩
    · rintro e W2 ⟨⟨v, rfl⟩, hi, hz, hl, hk⟩
      exact ⟨none, _, run_endLoop (P := P) hl (by simp [rec0]), hdone _ (hD _ _ hi (ch_put (by simp))) ((World.putObj_heap_other (by omega)).trans hk) (by simp; omega)⟩
end
end Go
namespace Go.Proofs.Ytndcgfnlgcincaa
open Go.RowKit Go.Mem Go.Aig
def fitEnc (p : Nat × Nat) : Array Value := #[.int .i64 p.1, .int .i64 p.2]
abbrev isP (P : Mk) (y : List Nat) (i n : Nat) : Mk × Nat := mput P (eqW P.1 y (constL i n))
def FS (g m bn b2 bm nn n yc : Nat) (ya : Option Addr) (y : List Nat) (B i : Nat) (W : World) (Kx : Nat × Nat → World → Prop) (D : World → Prop) : Prop :=
  ∃ P F', MIn W g m P F' ∧ WVin W F' ⟨ya, natInts y, yc⟩ ∧ (∀ r ∈ y, r < 2 * P.1.nodes.length) ∧ W.cell? ⟨bn, 0, none⟩ = some (.int .i64 nn) ∧ W.cell? ⟨b2, 0, none⟩ = some (.slice ya n yc) ∧ W.cell? ⟨bm, 0, none⟩ = some (.pointer (some ⟨m, 0, none⟩)) ∧ bm ∉ m :: F' ∧ (∀ q ∈ m :: F', q ≠ B ∧ q ≠ B + 1) ∧
    (∀ W', MTo W g m (isP P y i n).1 F' W' → ((isP P y i n).1.2 = 0 → Kx (i, (isP P y i n).2) W') ∧ ((isP P y i n).1.2 ≠ 0 → D W'))
theorem fnvmfitting1 : Fnv 61 := fnv_of Try.func61 (by simp [Try.f61]) (by simp [Try.f61])
set_option maxRecDepth 100000 in
set_option maxHeartbeats 4000000 in
theorem fitting1_seq [Nonempty Unit] (N : Nat) (hN : 1 ≤ N) {g m bn b2 bm nn n yc B : Nat} {y : List Nat} {ya : Option Addr} (hyl : y.length = n) (h1 : 1 ≤ n) (h16 : n ≤ 16) (hnn : nn ≤ 1000) (fitv : Nat) (hfit : fitN nn n = fitv)
    (Inv : Nat → World → Prop) (Kx : Nat × Nat → World → Prop) (D : World → Prop) (hInv : ∀ i W, i < fitv → Inv i W → B + 2 ≤ W.heap.size → FS g m bn b2 bm nn n yc ya y B i W Kx D)
    (hEnd : ∀ W, Inv fitv W → D W) (l : Nat) (X : World → Prop) (hX : ∀ A A' L, X A → Ch L A A' → (∀ q ∈ L, q ≠ B ∧ q ≠ B + 1) → X A') (hXB : ∀ A, X A → B + 2 ≤ A.heap.size)
    (hY : ∀ x W, Kx x W → X W → YieldAt Fence.wide (N - 1) Try.prog l (fitEnc x) W fun e W' => e = .returned (.bool true) ∧ Inv (x.1 + 1) W' ∧ X W')
    (W : World) (hI : Inv 0 W) (hXW : X W) (hcn : W.cell? ⟨bn, 0, none⟩ = some (.int .i64 nn)) (hcy : W.cell? ⟨b2, 0, none⟩ = some (.slice ya n yc)) :
    CallsIn Fence.wide N Try.prog 61 #[.func (.yield l) #[] #[], .pointer (some ⟨bn, 0, none⟩), .pointer (some ⟨b2, 0, none⟩), .pointer (some ⟨bm, 0, none⟩)] W fun e W' => (∃ v, e = .returned v) ∧ D W' ∧ X W' := by
  have HF := mfit_is (w := W) nn n h16 hnn
  have hfl : fitv ≤ 1000 := by rw [← hfit]; unfold fitN; omega
  rw [hfit] at HF
  have HY := Lib.hid hY; clear hY
  have HX := Lib.hid hX; clear hX
  have HXB := Lib.hid hXB; clear hXB
  have HINV := Lib.hid hInv; clear hInv
  have HEND := Lib.hid hEnd; clear hEnd
  have HI := Lib.hid hI; clear hI
  have HXW := Lib.hid hXW; clear hXW
  clear hfit
  refine callsIn_of_wp Try.func61 rfl trivial ?_ rfl
  simp only [Try.ntmps61, List.size_toArray, List.length_cons, List.length_nil, Nat.reduceAdd, Nat.reduceSub, Array.replicate_succ, Array.replicate_zero, List.push_toArray, List.append_toArray, List.nil_append, List.cons_append]
  refine wpIn_wide.2 ?_
  go_wp2_with fail
  refine HF.mono ?_
  rintro e w' ⟨rfl, rfl⟩
  go_wp2_with fail
  clear hcn hcy
  refine (wpIn_wide (n := N)).1 ?_
  gi_loopw [11] (fun i wr => ∃ k : Nat, k ≤ fitv ∧ i = .int .i64 k ∧ Inv k wr ∧ X wr) (fun i _ => fitv - (intOf i).toNat)
  case atStart => exact ⟨0, Nat.zero_le _, rfl, HI.out, HXW.out⟩
  case round =>
    obtain ⟨k, hk, rfl, hi, hx⟩ := hrel
    by_cases hlt : k < fitv
    · obtain ⟨P, F', hm, hwv, hyr, cn, cy, cm, hbm, hBs, hnext⟩ := HINV.out k wr hlt hi (HXB.out _ hx)
      have hIS := mis_is hm (ya := ya) n yc k hyl h1 (by omega) (by omega) hwv hyr
      unfold isP at hnext
      obtain ⟨⟨P', r⟩, hPr⟩ : ∃ q, mput P (eqW P.1 y (constL k n)) = q := ⟨_, rfl⟩
      rw [hPr] at hIS hnext
      simp only at hIS hnext
      have HNX := Lib.hid hnext; clear hnext
      have HXR := Lib.hid hx; clear hx
      have HBS := Lib.hid hBs; clear hBs
      have HBM := Lib.hid hbm; clear hbm
      have HIS := Lib.hid hIS; clear hIS
      clear hi hm hwv hyr hPr cn
      gi_wp2
      refine ⟨trivial, callsIn_wide.2 (HIS.out.mono ?_)⟩
      rintro e w1 ⟨rfl, hto⟩
      have hnx := HNX.out w1 hto
      obtain ⟨F1, hm1, hc1, _, _⟩ := hto
      have cm1 := (hc1.cell (cell_lt cm) HBM.out).trans cm
      have hx1 := HX.out _ _ _ HXR.out hc1 HBS.out
      have m1 := hm1.bk.cell (i := 1) rfl
      have HX1 := Lib.hid hx1; clear hx1
      clear hc1 hm1 cm cy HIS HNX
      by_cases hP : P'.2 = 0
      · rw [hP] at m1
        have hY1 := HY.out _ w1 (hnx.1 hP) HX1.out
        obtain ⟨fn, tmps, assign, body, hy1, hR⟩ := hY1
        simp only [fitEnc] at hy1
        clear hnx hP
        gi_wp2
        refine hR.mono ?_
        rintro e W2 ⟨rfl, hI2, hX2⟩
        have HI2 := Lib.hid hI2; clear hI2
        have HX2 := Lib.hid hX2; clear hX2
        gi_wp2
        go_roundw
        case rel => exact ⟨k + 1, by omega, by go_num, HI2.out, HX2.out⟩
        case measure => simp [intOf]; omega
      · have hq : ((P'.2 : Int) != 0) = true := by simp; omega
        have hD := hnx.2 hP
        have HD := Lib.hid hD; clear hD hnx
        gi_wp2
        refine ⟨fun f hf => (by cases hf), ?_⟩
        gi_wp2
        refine bodyPost_ret (results_none rfl _ _ _) rfl ?_
        exact ⟨⟨_, rfl⟩, HD.out, HX1.out⟩
    · have hkf : k = fitv := by omega
      have hD := HEND.out wr (by rw [← hkf]; exact hi)
      have HD := Lib.hid hD; clear hD hi
      have HXR := Lib.hid hx; clear hx
      gi_wp2
      go_end0
      exact ⟨⟨_, rfl⟩, HD.out, HXR.out⟩
end Go.Proofs.Ytndcgfnlgcincaa
namespace Go.Aig
def isR (s : Mk) (y : List Nat) (n i : Nat) : Mk × Nat := rstep s (eqW s.1 y (constL i n))
def readS (L : List (List Nat)) (y : List Nat) (n : Nat) (q : Mk × List Nat) (i : Nat) : Mk × List Nat := chF (isR q.1 y n i).2 (isR q.1 y n i).1 ((L.getD i []).zip q.2)
def readF (G : Gra) (L : List (List Nat)) (y : List Nat) (n width k : Nat) : Mk × List Nat := (List.range k).foldl (readS L y n) ((G, 0), List.replicate width 0)
theorem readF_succ (G : Gra) (L : List (List Nat)) (y : List Nat) (n width k : Nat) : readF G L y n width (k + 1) = readS L y n (readF G L y n width k) k := by
  unfold readF; rw [List.range_succ, List.foldl_append]; rfl
theorem isR_bad {s : Mk} (h : s.2 ≠ 0) (y : List Nat) (n i : Nat) : (isR s y n i).1 = s := by unfold isR; rw [rstep_bad h]
theorem chF_bad0 {s : Mk} (h : s.2 ≠ 0) (c : Nat) (l : List (Nat × Nat)) : (chF c s l).1 = s := chF_bad c s [] h l
theorem readS_bad {L : List (List Nat)} {y : List Nat} {n : Nat} {q : Mk × List Nat} {i : Nat} (h : (isR q.1 y n i).1.2 ≠ 0) : (readS L y n q i).1 = (isR q.1 y n i).1 := chF_bad0 h _ _
theorem readF_bad {G : Gra} {L : List (List Nat)} {y : List Nat} {n width k : Nat} (h : (isR (readF G L y n width k).1 y n k).1.2 ≠ 0) : ∀ j, k < j → (readF G L y n width j).1 = (isR (readF G L y n width k).1 y n k).1 := by
  intro j hj
  induction j with
  | zero => omega
  | succ j ih =>
    rw [readF_succ]
    by_cases e : j = k
    · subst e; exact readS_bad h
    · have h1 := ih (by omega)
      have h2 : (isR (readF G L y n width j).1 y n j).1 = (isR (readF G L y n width k).1 y n k).1 := by rw [h1, isR_bad h]
      rw [readS_bad (by rw [h2]; exact h), h2]
end Go.Aig
namespace Go.Proofs.Ytndcgfnlgcincaa
open Go.RowKit Go.Mem Go.Aig
structure RI (W0 : World) (lo g m : Nat) (G : Gra) (F : List Nat) (ob n : Nat) (R : Mk) (out : List Nat) (W : World) (v : Value) (P : Mk) (l F' : List Nat) : Prop where
  sim : Sim G P R
  out : R.2 = 0 → l = out
  len : l.length = n
  all : ∀ r ∈ l, r < 2 * P.1.nodes.length
  mem : MIn W g m P F'
  ch : Ch (m :: ob :: F) W0 W
  own : ∀ k ∈ F', k ∈ F ∨ W0.heap.size + 2 ≤ k
  map : F'[2]? = F[2]?
  bx : blk W ob [v]
  row : row W 26 1 v n (refsCells l)
  fresh : ∀ k, v.ownBlock = some k → lo ≤ k ∧ k ∉ m :: ob :: F' ∧ k ≠ W0.heap.size ∧ k ≠ W0.heap.size + 1
structure FR (W0 : World) (m : Nat) (F : List Nat) (ob : Nat) : Prop where
  low : ∀ k ∈ m :: F, k < W0.heap.size
  lt : ob < W0.heap.size
  obm : ob ≠ m
  obF : ob ∉ F
section
variable {W0 : World} {lo g m : Nat} {G : Gra} {F : List Nat} {ob n : Nat} {R : Mk} {out : List Nat} {W A A' : World} {v : Value} {P : Mk} {l F' : List Nat}
theorem RI.obF (h : RI W0 lo g m G F ob n R out W v P l F') (e : FR W0 m F ob) : ob ∉ m :: F' := fun hin => by
  have := e.lt
  simp only [List.mem_cons] at hin
  rcases hin with hin | hin
  · exact e.obm hin
  · rcases h.own _ hin with h1 | h1
    · exact e.obF h1
    · omega
theorem RI.noB (h : RI W0 lo g m G F ob n R out W v P l F') (e : FR W0 m F ob) : ∀ q ∈ m :: F', q ≠ W0.heap.size ∧ q ≠ W0.heap.size + 1 := fun q hq => by
  simp only [List.mem_cons] at hq
  rcases hq with rfl | hq
  · have := e.low q (by simp); omega
  · rcases h.own _ hq with h1 | h1
    · have := e.low q (by simp [h1]); omega
    · omega
theorem RI.same (h : RI W0 lo g m G F ob n R out A v P l F') (e : FR W0 m F ob) (hc : Ch [W0.heap.size, W0.heap.size + 1] A A') : RI W0 lo g m G F ob n R out A' v P l F' := by
  have ho := e.lt
  have hs := h.noB e
  refine ⟨h.sim, h.out, h.len, h.all, h.mem.same hc (fun k hk => by have := hs k hk; simp; omega), h.ch.trans hc (by intro k hk; simp at hk; omega), h.own, h.map, h.bx.ch hc (by simp; omega), h.row.ch hc ?_, h.fresh⟩
  intro k hk
  have := (h.fresh k hk).2.2
  simp; omega
theorem RI.cell (h : RI W0 lo g m G F ob n R out W v P l F') {b i : Nat} {x : Value} (hx : W0.cell? ⟨b, i, none⟩ = some x) (hb : b ∉ m :: ob :: F) : W.cell? ⟨b, i, none⟩ = some x := (h.ch.cell (cell_lt hx) hb).trans hx
theorem RI.word (h : RI W0 lo g m G F ob n R out W v P l F') {x : WV} (hx : WVin W0 (m :: ob :: F) x) : WVin W F' x ∧ ∀ k ∈ ablk x.a, k ∉ m :: F' ∧ k < W.heap.size := by
  have hz := h.ch.size
  have key : ∀ k ∈ ablk x.a, k ∉ m :: F' ∧ k < W.heap.size := fun k hk => by
    obtain ⟨h1, h2⟩ := hx.apart k hk
    simp only [List.mem_cons, not_or] at h1
    refine ⟨?_, by omega⟩
    simp only [List.mem_cons, not_or]
    exact ⟨h1.1, fun hin => (h.own k hin).elim h1.2.2 (fun e => by omega)⟩
  exact ⟨⟨hx.ok.ch h.ch (fun p hp => (hx.apart p.block (ablk_of hp)).1), fun k hk => ⟨fun hin => (key k hk).1 (by simp [hin]), (key k hk).2⟩⟩, key⟩
theorem RI.to (h : RI W0 lo g m G F ob n R out W v P l F') (e : FR W0 m F ob) (hB : W0.heap.size + 2 ≤ W.heap.size) {P' R' : Mk} {W' : World} (ht : MTo W g m P' F' W') (hs : Sim G P' R') (hx : Ext P.1 P'.1) (hb : R.2 ≠ 0 → R'.2 ≠ 0) : ∃ F1, RI W0 lo g m G F ob n R' out W' v P' l F1 := by
  obtain ⟨F1, h1, h2, h3, h4⟩ := ht
  have ho := e.lt
  have hz := h.ch.size
  refine ⟨F1, hs, fun h0 => h.out (by by_cases h9 : R.2 = 0; exact h9; exact absurd h0 (hb h9)), h.len, fun r hr => hx.lt (h.all r hr), h1, h.ch.trans h2 (fun k hk => ?_), fun k hk => ?_, h4.trans h.map, h.bx.ch h2 (h.obF e), h.row.ch h2 (fun k hk => ?_), fun k hk => ?_⟩
  · simp only [List.mem_cons] at hk ⊢
    rcases hk with hk | hk
    · exact .inl (.inl hk)
    · rcases h.own k hk with h5 | h5
      · exact .inl (.inr (.inr h5))
      · exact .inr (by omega)
  · rcases h3 k hk with h5 | h5
    · exact h.own k h5
    · exact .inr (by omega)
  · have := (h.fresh k hk).2.1
    simp only [List.mem_cons, not_or] at this ⊢
    exact ⟨this.1, this.2.2⟩
  · obtain ⟨f1, f2, f3⟩ := h.fresh k hk
    refine ⟨f1, ?_, f3⟩
    simp only [List.mem_cons, not_or] at f2 ⊢
    refine ⟨f2.1, f2.2.1, fun hin => (h3 k hin).elim f2.2.2 (fun h5 => ?_)⟩
    have := (h.row.lt k hk).2
    omega
theorem RI.put (h : RI W0 lo g m G F ob n R out W v P l F') (e : FR W0 m F ob) (hB : W0.heap.size + 2 ≤ W.heap.size) (hlo : lo ≤ W0.heap.size) {S : Mk × List Nat} {va : Option Addr} {vc : Nat} {w1 : World} (hc : CH W g m G P F' S n (.slice va n vc) w1) :
    ∃ P1 l1 F1, RI W0 lo g m G F ob n S.1 S.2 (w1.setCell ⟨ob, 0, none⟩ (.slice va n vc)) (.slice va n vc) P1 l1 F1 ∧ Books W0.heap.size W (w1.setCell ⟨ob, 0, none⟩ (.slice va n vc)) := by
  obtain ⟨P1, l1, hs, ho1, hl, hall, hx, F1, hm, hc1, hF1, hmap, hrow, hfr⟩ := hc
  have hob := e.lt
  have hz := h.ch.size
  have hnB := h.noB e
  rw [hl] at hrow
  have hcs : Ch [ob] w1 (w1.setCell ⟨ob, 0, none⟩ (.slice va n vc)) := (Ch.refl _ _).setCell (by simp) _
  have hoF1 : ob ∉ m :: F1 := fun hin => by
    have h9 := h.obF e
    simp only [List.mem_cons, not_or] at hin h9
    rcases hin with hin | hin
    · exact h9.1 hin
    · rcases hF1 _ hin with h5 | h5
      · exact h9.2 h5
      · omega
  have hob1 := h.bx.ch hc1 (by have h9 := h.obF e; simpa using h9)
  refine ⟨P1, l1, F1, ⟨hs, ho1, hl, hall, hm.same hcs (fun k hk => ?_), (h.ch.trans hc1 (fun k hk => ?_)).trans hcs (by simp), fun k hk => ?_, hmap.trans h.map, hob1.set (i := 0) _, hrow.ch hcs (fun k hk => ?_), fun k hk => ?_⟩, (Books.of_ch hc1 hB (fun k hk => hnB k (by simpa using hk))).trans (Books.of_ch hcs (by have := hc1.size; omega) (by simp; omega))⟩
  · intro hk2
    rw [List.mem_singleton.1 hk2] at hk
    exact hoF1 hk
  · simp only [List.nil_append, List.mem_cons] at hk ⊢
    rcases hk with hk | hk
    · exact .inl (.inl hk)
    · rcases h.own k hk with h5 | h5
      · exact .inl (.inr (.inr h5))
      · exact .inr (by omega)
  · rcases hF1 k hk with h5 | h5
    · exact h.own k h5
    · exact .inr (by omega)
  · have := hfr k hk
    simp; omega
  · obtain ⟨f1, f2, f3⟩ := hfr k hk
    refine ⟨by omega, ?_, by omega, by omega⟩
    simp only [List.mem_cons, not_or]
    exact ⟨f3, by omega, f2⟩
end
section
variable {w : World} {g m : Nat} {G : Gra} {F : List Nat}
set_option maxRecDepth 100000 in
set_option maxHeartbeats 1000000 in
theorem mfitting_is {w : World} (n : Nat) (ya : Option Addr) (k yc : Nat) :
    Calls Try.prog 31 #[.pointer (some ⟨m, 0, none⟩), .int .i64 n, .slice ya k yc] w fun e w' => e = .returned (.func (.func 61) #[] #[.pointer (some ⟨w.heap.size + 1, 0, none⟩), .pointer (some ⟨w.heap.size + 2, 0, none⟩), .pointer (some ⟨w.heap.size, 0, none⟩)]) ∧ w' = ((w.alloc (.cells #[.pointer (some ⟨m, 0, none⟩)] 71)).alloc (.cells #[.int .i64 n] 3)).alloc (.cells #[.slice ya k yc] 25) := by
  go_enter Try.func31, Try.ntmps31
  go_wp2_with fail
  go_ret
  exact ⟨rfl, rfl⟩
end
end Go.Proofs.Ytndcgfnlgcincaa
namespace Go.Proofs.Ytndcgfnlgcincaa
open Go.RowKit Go.Mem Go.Aig
section
variable {g m : Nat} {G : Gra}
def FInv (T : Nat → Mk → World → Mk → List Nat → Prop) (RF : Nat → Mk) (i : Nat) (W : World) : Prop := ∃ P F', T i (RF i) W P F'
def FKx (T : Nat → Mk → World → Mk → List Nat → Prop) (IS : Nat → Mk × Nat) (fitv : Nat) (x : Nat × Nat) (W : World) : Prop :=
  x.1 < fitv ∧ ∃ P F', P.2 = 0 ∧ T x.1 (IS x.1).1 W P F' ∧ x.2 = (IS x.1).2 ∧ x.2 < 2 * P.1.nodes.length
structure FT (g m : Nat) (G : Gra) (T : Nat → Mk → World → Mk → List Nat → Prop) (bn b2 bm nn n yc B : Nat) (ya : Option Addr) (y : List Nat) : Prop where
  mem : ∀ {i R W P F'}, T i R W P F' → MIn W g m P F' ∧ Sim G P R ∧ WVin W F' ⟨ya, natInts y, yc⟩ ∧ W.cell? ⟨bn, 0, none⟩ = some (.int .i64 nn) ∧ W.cell? ⟨b2, 0, none⟩ = some (.slice ya n yc) ∧ W.cell? ⟨bm, 0, none⟩ = some (.pointer (some ⟨m, 0, none⟩)) ∧ bm ∉ m :: F' ∧ (∀ q ∈ m :: F', q ≠ B ∧ q ≠ B + 1)
  toN : ∀ {i R W P F' P' R' W'}, T i R W P F' → B + 2 ≤ W.heap.size → MTo W g m P' F' W' → Sim G P' R' → Ext P.1 P'.1 → (R.2 ≠ 0 → R'.2 ≠ 0) → ∃ F1, T i R' W' P' F1
  same : ∀ {i R A A' P F'}, T i R A P F' → Ch [B, B + 1] A A' → T i R A' P F'
theorem fit_seq [Nonempty Unit] (N : Nat) (hN : 1 ≤ N) {T : Nat → Mk → World → Mk → List Nat → Prop} {bn b2 bm nn n yc B : Nat} {y : List Nat} {ya : Option Addr} (hT : FT g m G T bn b2 bm nn n yc B ya y)
    (hyl : y.length = n) (h1 : 1 ≤ n) (h16 : n ≤ 16) (hnn : nn ≤ 1000) (hyr : ∀ r ∈ y, r < 2 * G.nodes.length) {fitv : Nat} (hfit : fitN nn n = fitv) {RF : Nat → Mk} {IS : Nat → Mk × Nat} (hIS : ∀ i, IS i = isR (RF i) y n i)
    (hbad : ∀ i, i < fitv → (IS i).1.2 ≠ 0 → ∀ W P F', T i (IS i).1 W P F' → T fitv (RF fitv) W P F')
    (l : Nat) (X : World → Prop) (hX : ∀ A A' L, X A → Ch L A A' → (∀ q ∈ L, q ≠ B ∧ q ≠ B + 1) → X A') (hXB : ∀ A, X A → B + 2 ≤ A.heap.size)
    (hY : ∀ x W, FKx T IS fitv x W → X W → YieldAt Fence.wide (N - 1) Try.prog l (fitEnc x) W fun e W' => e = .returned (.bool true) ∧ FInv T RF (x.1 + 1) W' ∧ X W')
    (W : World) (hI : FInv T RF 0 W) (hXW : X W) :
    CallsIn Fence.wide N Try.prog 61 #[.func (.yield l) #[] #[], .pointer (some ⟨bn, 0, none⟩), .pointer (some ⟨b2, 0, none⟩), .pointer (some ⟨bm, 0, none⟩)] W fun e W' => (∃ v, e = .returned v) ∧ FInv T RF fitv W' ∧ X W' := by
  have hI0 := hI
  obtain ⟨P0, F0, h0⟩ := hI0
  obtain ⟨_, _, _, cn, cy, _⟩ := hT.mem h0
  refine fitting1_seq N hN (g := g) (m := m) (B := B) (y := y) hyl h1 h16 hnn fitv hfit (FInv T RF) (FKx T IS fitv) (FInv T RF fitv) ?_ (fun W h => h) l X hX hXB hY W hI hXW cn cy
  rintro i W hi ⟨P, F', hri⟩ hBW
  obtain ⟨k1, k2, k3, k4, k5, k6, k7, k8⟩ := hT.mem hri
  have hyr2 : ∀ r ∈ y, r < 2 * P.1.nodes.length := fun r hr => k2.ext.lt (hyr r hr)
  have hfull := eqW_full k1.gin.ok hyl (constL_len i n) h1 (by omega) hyr2 (fun r hr => by have := constL_le i n r hr; have := k1.gin.ok.wf.pos; omega)
  have hst := k2.step hfull (Y := eqW (RF i).1 y (constL i n)) (fun _ e => by rw [e])
  refine ⟨P, F', k1, k3, hyr2, k4, k5, k6, k7, k8, fun W' ht => ?_⟩
  obtain ⟨q1, q2, q3, q4, q5, q6, q7⟩ := hst
  have e0 : rstep (RF i) (eqW (RF i).1 y (constL i n)) = IS i := (hIS i).symm
  rw [e0] at q1 q3 q4 q6 q7
  obtain ⟨F1, hr1⟩ := hT.toN hri hBW ht q1 q5 q7
  refine ⟨fun h0 => ?_, fun h0 => ?_⟩
  · have hR0 : (IS i).1.2 = 0 := by
      rcases q1.rel with ⟨e, _⟩ | ⟨_, e⟩
      · exact e
      · exact absurd h0 (by rw [show (isP P y i n).1.2 = 201 from e]; omega)
    exact ⟨hi, _, F1, h0, hr1, q4 hR0, q2⟩
  · have hR0 : (IS i).1.2 ≠ 0 := by
      rcases q1.rel with ⟨_, e⟩ | ⟨e, _⟩
      · intro h9
        exact h0 (by rw [show (isP P y i n).1 = _ from e]; exact h9)
      · rw [e]; omega
    exact ⟨_, F1, hbad i hi hR0 _ _ _ hr1⟩
end
end Go.Proofs.Ytndcgfnlgcincaa
namespace Go.Aig
structure WOf (G : Gra) (n : Nat) (x : List Int) : Prop where
  len : x.length = n
  cast : natInts (nats x) = x
  lt : ∀ r ∈ nats x, r < 2 * G.nodes.length
end Go.Aig
namespace Go.Proofs.Ytndcgfnlgcincaa
open Go.RowKit Go.Mem Go.Aig
attribute [local go_sem] Oper.semAt_some
theorem fnvmRead1 : Fnv 30 := fnv_of Try.func30 (by simp [Try.f30]) (by simp [Try.f30])
def RW (w : World) (g m : Nat) (G : Gra) (F : List Nat) (S : Mk × List Nat) (v : Value) (w' : World) : Prop := ∃ P l, Sim G P S.1 ∧ (S.1.2 = 0 → l = S.2) ∧ MVo w g m P [] F v l w'
structure WL (w : World) (F : List Nat) (lb n : Nat) (L : List WV) : Prop where
  len : L.length = n
  cells : ∀ i x, L[i]? = some x → w.cell? ⟨lb, i, none⟩ = some x.val
  words : ∀ x ∈ L, WVin w F x
  apart : lb ∉ F ∧ lb < w.heap.size
theorem WL.ch {w w' : World} {F : List Nat} {lb n : Nat} {L : List WV} (h : WL w F lb n L) (hc : Ch [] w w') : WL w' F lb n L :=
  ⟨h.len, fun i x hx => (hc.cell (cell_lt (h.cells i x hx)) (by simp)).trans (h.cells i x hx), fun x hx => (h.words x hx).ch hc, h.apart.1, Nat.lt_of_lt_of_le h.apart.2 hc.size⟩
theorem CH.shape {w : World} {g m : Nat} {G : Gra} {P : Mk} {F : List Nat} {S : Mk × List Nat} {n : Nat} {v : Value} {w' : World} (h : CH w g m G P F S n v w') : ∃ a c, v = .slice a n c := by
  obtain ⟨P', l, _, _, hl, _, _, F', _, _, _, _, hrow, _⟩ := h
  rw [hl] at hrow
  obtain ⟨a, c, e⟩ := row.shape hrow
  exact ⟨a, c, e⟩
def RT (W0 : World) (lo g m : Nat) (G : Gra) (F : List Nat) (ob width : Nat) (O : Nat → List Nat) (i : Nat) (R : Mk) (W : World) (P : Mk) (F' : List Nat) : Prop := ∃ va vc l, RI W0 lo g m G F ob width R (O i) W (.slice va width vc) P l F'
theorem RT.ft {W0 : World} {lo g m : Nat} {G : Gra} {F : List Nat} {ob width : Nat} {O : Nat → List Nat} {bn b2 bm nn n yc : Nat} {ya : Option Addr} {y : List Nat} (e : FR W0 m F ob) (hy : WVin W0 (m :: ob :: F) ⟨ya, natInts y, yc⟩) (cn : W0.cell? ⟨bn, 0, none⟩ = some (.int .i64 nn)) (cy : W0.cell? ⟨b2, 0, none⟩ = some (.slice ya n yc)) (cm : W0.cell? ⟨bm, 0, none⟩ = some (.pointer (some ⟨m, 0, none⟩)))
    (hn : bn ∉ m :: ob :: F) (h2 : b2 ∉ m :: ob :: F) (hm : bm ∉ m :: ob :: F) : FT g m G (RT W0 lo g m G F ob width O) bn b2 bm nn n yc W0.heap.size ya y where
  mem := by
    rintro i R W P F' ⟨va, vc, l, h⟩
    refine ⟨h.mem, h.sim, (h.word hy).1, h.cell cn hn, h.cell cy h2, h.cell cm hm, fun hin => ?_, h.noB e⟩
    have h9 := cell_lt cm
    simp only at h9
    simp only [List.mem_cons, not_or] at hin hm
    rcases hin with hin | hin
    · exact hm.1 hin
    · rcases h.own _ hin with h5 | h5
      · exact hm.2.2 h5
      · omega
  toN := by
    rintro i R W P F' P' R' W' ⟨va, vc, l, h⟩ hB ht hs hx hb
    obtain ⟨F1, h1⟩ := h.to e hB ht hs hx hb
    exact ⟨F1, va, vc, l, h1⟩
  same := by
    rintro i R A A' P F' ⟨va, vc, l, h⟩ hc
    exact ⟨va, vc, l, h.same e hc⟩
section
variable {w : World} {g m : Nat} {G : Gra} {F : List Nat}
set_option maxRecDepth 100000 in
set_option maxHeartbeats 4000000 in
theorem mRead1_is [Nonempty Unit] (h : MIn w g m (G, 0) F) {Ls : List WV} {lb nl lc n yc width fitv : Nat} {y : List Nat} {ya : Option Addr} (hL : WL w (m :: F) lb nl Ls) (hW : ∀ x ∈ Ls, WOf G width x.l) (hnl : 1 ≤ nl ∧ nl ≤ 256) (hw : width ≤ 16)
    (hy : WVin w (m :: F) ⟨ya, natInts y, yc⟩) (hyl : y.length = n) (h1 : 1 ≤ n) (h16 : n ≤ 16) (hyr : ∀ r ∈ y, r < 2 * G.nodes.length) (hfit : fitN nl n = fitv)
    {bl b2 : Nat} (hbl : w.cell? ⟨bl, 0, none⟩ = some (.slice (some ⟨lb, 0, none⟩) nl lc)) (hby : w.cell? ⟨b2, 0, none⟩ = some (.slice ya n yc)) (hblF : bl ∉ m :: F) (hbyF : b2 ∉ m :: F) :
    Calls Try.prog 30 (#[.pointer (some ⟨m, 0, none⟩)] ++ #[.pointer (some ⟨bl, 0, none⟩), .pointer (some ⟨b2, 0, none⟩)]) w fun e W' => ∃ v, e = .returned v ∧ RW w g m G F (readF G (Ls.map fun x => nats x.l) y n width fitv) v W' := by
  show Calls Try.prog 30 #[.pointer (some ⟨m, 0, none⟩), .pointer (some ⟨bl, 0, none⟩), .pointer (some ⟨b2, 0, none⟩)] w _
  have hml := h.bk.lt
  have hFl := h.gin.lt
  have hok := h.gin.ok
  have hpos := hok.wf.pos
  have hfl : fitv ≤ nl := by rw [← hfit]; exact Nat.min_le_left _ _
  obtain ⟨x0, hx0⟩ : ∃ x, Ls[0]? = some x := ⟨_, List.getElem?_eq_getElem (by rw [hL.len]; omega)⟩
  have hc00 := hL.cells 0 x0 hx0
  have hx0l := (hW x0 (List.mem_of_getElem? hx0)).len
  unfold WV.val at hc00
  rw [hx0l] at hc00
  have hmk := run_make_refs
  have hmk' := fun W => run_make_refs W width (by omega)
  clear hmk
  obtain ⟨x0a, x0l, x0c⟩ := x0
  simp only at hc00
  obtain ⟨LN, hLN⟩ : ∃ LN, LN = Ls.map fun x => nats x.l := ⟨_, rfl⟩
  rw [← hLN]
  have hLg : ∀ i x, Ls[i]? = some x → LN.getD i [] = nats x.l := fun i x hx => by rw [hLN, List.getD_eq_getElem?_getD, List.getElem?_map, hx]; rfl
  have hLw : ∀ i, i < nl → (LN.getD i []).length = width := fun i hi => by
    obtain ⟨x, hx⟩ : ∃ x, Ls[i]? = some x := ⟨_, List.getElem?_eq_getElem (by rw [hL.len]; exact hi)⟩
    rw [hLg i x hx, nats_len, (hW x (List.mem_of_getElem? hx)).len]
  have H := Lib.hid h; clear h
  have HL := Lib.hid hL; clear hL
  have HW := Lib.hid hW; clear hW
  have HYW := Lib.hid hy; clear hy
  have HLG := Lib.hid hLg; clear hLg
  have HLW := Lib.hid hLw; clear hLw
  have hbllt := cell_lt hbl
  have hbylt := cell_lt hby
  have hlblt := cell_lt hc00
  simp only at hbllt hbylt hlblt
  have HBL := Lib.hid hbl
  have HBY := Lib.hid hby
  have HOK := Lib.hid hok; clear hok
  obtain ⟨RQ, hRQ⟩ : ∃ RQ : Nat → Mk × List Nat, ∀ k, RQ k = readF G LN y n width k := ⟨_, fun _ => rfl⟩
  have hR0 : RQ 0 = ((G, 0), List.replicate width 0) := by rw [hRQ]; rfl
  have hRS : ∀ k, RQ (k + 1) = readS LN y n (RQ k) k := fun k => by rw [hRQ, hRQ, readF_succ]
  have hRB : ∀ k, (isR (RQ k).1 y n k).1.2 ≠ 0 → ∀ j, k < j → (RQ j).1 = (isR (RQ k).1 y n k).1 := fun k hk j hj => by
    rw [hRQ] at hk
    rw [hRQ, hRQ]; exact readF_bad hk j hj
  rw [← hRQ]
  have HR0 := Lib.hid hR0; clear hR0
  have HRS := Lib.hid hRS; clear hRS
  have HRB := Lib.hid hRB; clear hRB
  clear hLN hx0 hRQ
  refine (callsIn_wide (n := 4)).1 ?_
  refine callsIn_of_wp_marks Try.func30 rfl trivial ?_ rfl
  simp only [Try.ntmps30, List.size_toArray, List.length_cons, List.length_nil, Nat.reduceAdd, Nat.reduceSub, Array.replicate_succ, Array.replicate_zero, List.push_toArray, List.append_toArray, List.nil_append, List.cons_append]
  refine wpIn_wide.2 ?_
  go_upto_region 2 with fail
  refine wp_named fun W1 hW1 => ?_
  have hc1 : Ch [] w W1 := by rw [hW1]; exact (((Ch.refl _ _).alloc _).alloc _).alloc _
  have hz1 : W1.heap.size = w.heap.size + 3 := by rw [hW1]; simp
  have hbm : blk W1 w.heap.size [.pointer (some ⟨m, 0, none⟩)] := by rw [hW1]; exact ((blk.new' _ _ (by simp)).alloc _).alloc _
  have hr1 : row W1 26 1 (.slice (some ⟨w.heap.size + 1, 0, none⟩) width width) width (refsCells (List.replicate width 0)) := by
    have h0 : row ((w.alloc (.cells #[.pointer (some ⟨m, 0, none⟩)] 71)).alloc (.cells (refsCells (List.replicate width 0)).toArray 26)) 26 1 (.slice (some ⟨w.heap.size + 1, 0, none⟩) width width) width (refsCells (List.replicate width 0)) :=
      ⟨by simp [refsCells], .inr ⟨w.heap.size + 1, width, _, rfl, by omega, by have := heap_alloc_new (w.alloc (.cells #[.pointer (some ⟨m, 0, none⟩)] 71)) (.cells (refsCells (List.replicate width 0)).toArray 26); simpa using this, by omega, by unfold maxLen; omega, by simp [refsCells], by simp [refsCells]⟩⟩
    rw [hW1]
    exact h0.alloc _
  have hbo : blk W1 (w.heap.size + 2) [.slice (some ⟨w.heap.size + 1, 0, none⟩) width width] := by rw [hW1]; exact blk.new' _ _ (by simp)
  clear hW1 hmk' hbl hby hc00
  have c_l := (hc1.cell (cell_lt HBL.out) (by simp)).trans HBL.out
  have c_y := (hc1.cell (cell_lt HBY.out) (by simp)).trans HBY.out
  have c_m := hbm.cell (i := 0) rfl
  have HC1 := Lib.hid hc1; clear hc1
  have HBM := Lib.hid hbm; clear hbm
  have HR1 := Lib.hid hr1; clear hr1
  have HBO := Lib.hid hbo; clear hbo
  go_wp2_with fail
  refine (mfitting_is (m := m) nl ya n yc).mono ?_
  rintro e W0 ⟨rfl, hW0⟩
  have hc0 : Ch [] W1 W0 := by rw [hW0]; exact (((Ch.refl _ _).alloc _).alloc _).alloc _
  have hz0 : W0.heap.size = w.heap.size + 6 := by rw [hW0]; simp; omega
  have hbm0 : blk W0 W1.heap.size [.pointer (some ⟨m, 0, none⟩)] := by rw [hW0]; exact ((blk.new' _ _ (by simp)).alloc _).alloc _
  have hbn0 : blk W0 (W1.heap.size + 1) [.int .i64 nl] := by rw [hW0]; exact (blk.new' _ _ (by simp)).alloc _
  have hby0 : blk W0 (W1.heap.size + 2) [.slice ya n yc] := by rw [hW0]; exact blk.new' _ _ (by simp)
  clear hW0 c_l c_y c_m
  go_wp2_with fail
  have hbo0 : blk W0 (w.heap.size + 1 + 1) [.slice (some ⟨w.heap.size + 1, 0, none⟩) width width] := HBO.out.ch hc0 (by simp)
  clear HBO
  generalize hOBe : w.heap.size + 1 + 1 = ob at hbo0 ⊢
  have hob1 : w.heap.size + 1 < ob := by omega
  have hob2 : ob < w.heap.size + 3 := by omega
  clear hOBe
  have hFR : FR W0 m F ob := ⟨fun k hk => by
    simp only [List.mem_cons] at hk
    rcases hk with rfl | hk
    · omega
    · have := hFl k hk; omega, by omega, by omega, fun hin => by have := hFl _ hin; omega⟩
  have hc01 := HC1.out.trans hc0 (by simp)
  have hr0 := HR1.out.ch hc0 (by simp)
  have hmb0 := HBM.out.ch hc0 (by simp)
  have hL0 : WL W0 (m :: ob :: F) lb nl Ls := by
    have h0 := HL.out.ch hc01
    have key : ∀ k, k < w.heap.size → k ∉ m :: F → k ∉ m :: ob :: F := fun k hk hn => by
      simp only [List.mem_cons, not_or] at hn ⊢
      exact ⟨hn.1, by omega, hn.2⟩
    exact ⟨h0.len, h0.cells, fun x hx => ⟨(h0.words x hx).ok, fun k hk => ⟨key k ((HL.out.words x hx).apart k hk).2 ((h0.words x hx).apart k hk).1, ((h0.words x hx).apart k hk).2⟩⟩, key _ HL.out.apart.2 h0.apart.1, h0.apart.2⟩
  have hY0 : WVin W0 (m :: ob :: F) ⟨ya, natInts y, yc⟩ := ⟨(HYW.out.ch hc01).ok, fun k hk => ⟨by
    have h1 := ((HYW.out).apart k hk)
    simp only [List.mem_cons, not_or] at h1 ⊢
    exact ⟨h1.1.1, by omega, h1.1.2⟩, ((HYW.out.ch hc01).apart k hk).2⟩⟩
  have hbl0 := (hc01.cell (cell_lt HBL.out) (by simp)).trans HBL.out
  have hblN : bl ∉ m :: ob :: F := by
    simp only [List.mem_cons, not_or] at hblF ⊢
    exact ⟨hblF.1, by omega, hblF.2⟩
  have hRI0 : RT W0 w.heap.size g m G F ob width (fun i => (RQ i).2) 0 (RQ 0).1 W0 (G, 0) F := by
    rw [HR0.out]
    refine ⟨some ⟨w.heap.size + 1, 0, none⟩, width, List.replicate width 0, Sim.start HOK.out, fun _ => by show _ = (RQ 0).2; rw [HR0.out], by simp, fun r hr => by rw [(List.mem_replicate.1 hr).2]; show 0 < 2 * G.nodes.length; omega, (H.out.same HC1.out (by simp)).same hc0 (by simp), Ch.refl _ _, fun k hk => .inl hk, rfl, hbo0, hr0, fun k hk => ?_⟩
    cases hk
    refine ⟨by show w.heap.size ≤ w.heap.size + 1; omega, ?_, by show w.heap.size + 1 ≠ _; omega, by show w.heap.size + 1 ≠ _; omega⟩
    show w.heap.size + 1 ∉ _
    simp only [List.mem_cons, not_or]
    exact ⟨by omega, by omega, fun hin => by have := hFl _ hin; omega⟩
  have hnin : ∀ b, w.heap.size ≤ b → b ≠ ob → b ∉ m :: ob :: F := fun b hb hne => by
    simp only [List.mem_cons, not_or]
    exact ⟨by omega, hne, fun hin => by have := hFl _ hin; omega⟩
  rw [hz1] at hbm0 hbn0 hby0
  have hFT := RT.ft (lo := w.heap.size) (g := g) (G := G) (width := width) (O := fun i => (RQ i).2) hFR hY0 (hbn0.cell (i := 0) rfl) (hby0.cell (i := 0) rfl) (hbm0.cell (i := 0) rfl) (hnin _ (by omega) (by omega)) (hnin _ (by omega) (by omega)) (hnin _ (by omega) (by omega))
  have HFR := Lib.hid hFR; clear hFR
  have HFT := Lib.hid hFT; clear hFT
  have HL0 := Lib.hid hL0; clear hL0
  have HRI0 := Lib.hid hRI0; clear hRI0
  have HC01 := Lib.hid hc01; clear hc01
  have HMB0 := Lib.hid hmb0; clear hmb0
  have HNIN := Lib.hid hnin; clear hnin
  have HBL0 := Lib.hid hbl0; clear hbl0
  clear hbo0 hr0 hbm0 hbn0 hby0 hY0
  refine (wpIn_wide (n := 4)).1 ?_
  refine wpIn_rangeFunc_Q (n := 4) W0.heap.size rfl rfl (by omega) rfl trivial (fun args w => fnvmfitting1 args w) (encs := fitEnc) (fun _ => rfl)
    (FInv (RT W0 w.heap.size g m G F ob width (fun i => (RQ i).2)) (fun i => (RQ i).1) 0)
    (FKx (RT W0 w.heap.size g m G F ob width (fun i => (RQ i).2)) (fun i => isR (RQ i).1 y n i) fitv)
    (fun x => FInv (RT W0 w.heap.size g m G F ob width (fun i => (RQ i).2)) (fun i => (RQ i).1) (x.1 + 1))
    (FInv (RT W0 w.heap.size g m G F ob width (fun i => (RQ i).2)) (fun i => (RQ i).1) fitv)
    ?seq ?j0 ?k ?j ?d ⟨_, _, HRI0.out⟩ ?a1 ?assign ?body ?done
  case assign =>
    intro q x W K hK
    simp only [fitEnc]
    gi_wp2
    exact hK
  case j0 =>
    rintro A A' ⟨P, F', h⟩ hc
    exact ⟨P, F', HFT.out.same h hc⟩
  case k =>
    rintro x A A' ⟨hx, P, F', hp, h, h2⟩ hc
    exact ⟨hx, P, F', hp, HFT.out.same h hc, h2⟩
  case j =>
    rintro x A A' ⟨P, F', h⟩ hc
    exact ⟨P, F', HFT.out.same h hc⟩
  case d =>
    rintro A A' ⟨P, F', h⟩ hc
    exact ⟨P, F', HFT.out.same h hc⟩
  case seq =>
    intro lp X hX hXB hY W hI hXW
    refine fit_seq (T := RT W0 w.heap.size g m G F ob width (fun i => (RQ i).2)) (RF := fun i => (RQ i).1) (IS := fun i => isR (RQ i).1 y n i) 3 (by omega) HFT.out hyl h1 h16 (by omega) hyr hfit (fun _ => rfl) ?_ lp X hX hXB hY W hI hXW
    rintro i hi hb W P F' ⟨va, vc, l, h⟩
    have e := HRB.out i hb fitv hi
    refine ⟨va, vc, l, ?_⟩
    rw [e]
    exact ⟨h.sim, fun h9 => absurd h9 hb, h.len, h.all, h.mem, h.ch, h.own, h.map, h.bx, h.row, h.fresh⟩
  case body =>
    rintro q ⟨i, r⟩ W ⟨hxf, P, F', hP, ⟨va, vc, l, hE⟩, hr, hrl⟩ hWl
    simp only at hxf hE hr hrl
    obtain ⟨x, hx⟩ : ∃ x, Ls[i]? = some x := ⟨_, List.getElem?_eq_getElem (by rw [HL0.out.len]; omega)⟩
    have hmem := List.mem_of_getElem? hx
    have hwo := HW.out x hmem
    have hlg := HLG.out i x hx
    have hR0 : (isR (RQ i).1 y n i).1.2 = 0 := by
      rcases hE.sim.rel with ⟨e, _⟩ | ⟨_, e⟩
      · exact e
      · omega
    have hlo := hE.out hR0
    have hSe : chF r (isR (RQ i).1 y n i).1 ((nats x.l).zip l) = RQ (i + 1) := by
      rw [HRS.out, hr, hlo, ← hlg]; rfl
    have hCHO : ∀ Wc, RI W0 w.heap.size g m G F ob width (isR (RQ i).1 y n i).1 (RQ i).2 Wc (.slice va width vc) P l F' → Calls Try.prog 32 #[.pointer (some ⟨m, 0, none⟩), .int .i64 r, .slice x.a width x.c, .slice va width vc] Wc fun e w' => ∃ v, e = .returned v ∧ CH Wc g m G P F' (RQ (i + 1)) width v w' := fun Wc h => by
      rw [← hSe]
      obtain ⟨k1, k2⟩ := h.word (HL0.out.words x hmem)
      have hz := h.ch.size
      refine mchoose_is h.mem h.sim hrl (x := nats x.l) (y := l) width x.c vc (by rw [nats_len, hwo.len]) h.len (by omega) (by rw [show ((nats x.l).map fun (r : Nat) => (r : Int)) = x.l from hwo.cast]; exact k1.ok.sl) ?_ k2 ?_ (fun q hq => h.sim.ext.lt (hwo.lt q hq)) h.all
      · have := h.row
        rw [refs_natInts] at this
        exact Sl.of_ints this (by omega)
      · intro k hk
        cases va with
        | none => simp [ablk] at hk
        | some p =>
          simp only [ablk, List.mem_singleton] at hk
          subst hk
          have h3 := (h.fresh p.block rfl).2.1
          simp only [List.mem_cons, not_or] at h3 ⊢
          exact ⟨⟨h3.1, h3.2.2⟩, (h.row.lt p.block rfl).2⟩
    have c_x := hE.cell (HL0.out.cells i x hx) HL0.out.apart.1
    unfold WV.val at c_x
    rw [hwo.len] at c_x
    have c_l := hE.cell HBL0.out hblN
    have c_m := hE.cell (HMB0.out.cell (i := 0) rfl) (HNIN.out _ (by omega) (by omega))
    have HCHO := Lib.hid hCHO; clear hCHO
    have HE := Lib.hid hE; clear hE
    clear hx hmem hwo hlg hR0 hlo hSe hr hrl hP
    obtain ⟨xa, xl, xc⟩ := x
    simp only at c_x HCHO
    have hil : i < nl := by omega
    gi_wp2
    refine Ord.St.doorR (fun _ => True) [.rd, .fl, .rd, .fl, .fl, .rd, .rd, .ef, .ef] [0, 0, 0, 0, 12, 28, 0, 127, 255] [0, 1, 2, 3, 4, 5, 6, 7, 8] mixed (by kernel_rfl) (by kernel_rfl) rfl ?_
    obtain ⟨Wc, hWc⟩ : ∃ Wc, Wc = W.drew := ⟨_, rfl⟩
    rw [← hWc]
    have hcur : Ch [] W Wc := by rw [hWc]; exact (Ch.refl _ _).drew
    clear hWc
    have hE := HE.out.same HFR.out (hcur.mono (by simp))
    replace c_x := (hcur.cell (cell_lt c_x) (by simp)).trans c_x
    replace c_l := (hcur.cell (cell_lt c_l) (by simp)).trans c_l
    replace c_m := (hcur.cell (cell_lt c_m) (by simp)).trans c_m
    have c_o := hE.bx.cell (i := 0) rfl
    have HCC := Lib.hid (HCHO.out Wc hE)
    have hWc : W0.heap.size + 2 ≤ Wc.heap.size := Nat.le_trans hWl hcur.size
    clear HE HCHO
    have HE := Lib.hid hE; clear hE
    have HCUR := Lib.hid hcur; clear hcur
    refine Ord.St.rd2 (T' := ?_) 0 [1, 2, 3, 4, 5, 6, 7, 8] _ _ rfl (by kernel_rfl) rfl rfl rfl rfl (fun K hk => ?_) ?_
    rotate_left
    · go_step; exact hk
    refine Ord.St.fl2 (T' := ?_) 1 [2, 3, 4, 5, 6, 7, 8] _ _ rfl (by kernel_rfl) rfl rfl rfl rfl (fun K w' hk => ?_) ?_
    rotate_left
    · go_step; exact hk
    refine Ord.St.rd2 (T' := ?_) 2 [3, 4, 5, 6, 7, 8] _ _ rfl (by kernel_rfl) rfl rfl rfl rfl (fun K hk => ?_) ?_
    rotate_left
    · go_step; exact hk
    refine Ord.St.fl2 (T' := ?_) 3 [4, 5, 6, 7, 8] _ _ rfl (by kernel_rfl) rfl rfl rfl rfl (fun K w' hk => ?_) ?_
    rotate_left
    · go_step; exact hk
    refine Ord.St.fl2 (T' := ?_) 4 [5, 6, 7, 8] _ _ rfl (by kernel_rfl) rfl rfl rfl rfl (fun K w' hk => ?_) ?_
    rotate_left
    · go_step; exact hk
    refine Ord.St.rd2 (T' := ?_) 5 [6, 7, 8] _ _ rfl (by kernel_rfl) rfl rfl rfl rfl (fun K hk => ?_) ?_
    rotate_left
    · go_step; exact hk
    refine Ord.St.rd2 (T' := ?_) 6 [7, 8] _ _ rfl (by kernel_rfl) rfl rfl rfl rfl (fun K hk => ?_) ?_
    rotate_left
    · go_step; exact hk
    refine Ord.St.ef 7 [8] _ rfl (by kernel_rfl) (fun K hK => ?_)
    go_wp2_with fail
    refine HCC.out.mono ?_
    rintro e w1 ⟨v, rfl, hch⟩
    obtain ⟨va1, vc1, rfl⟩ := hch.shape
    have hp := HE.out.put HFR.out hWc (by omega) hch
    have hob1' := HE.out.bx.ch hch.choose_spec.choose_spec.2.2.2.2.2.choose_spec.2.1 (by have h9 := HE.out.obF HFR.out; simpa using h9)
    have HPUT := Lib.hid hp; clear hp hch HCC
    clear c_o
    have c_o := hob1'.cell (i := 0) rfl
    have f_o := hob1'.frozen (i := 0)
    go_wp2_with fail
    refine ⟨rfl, hK _ _ ?_⟩; clear hK K
    refine Ord.St.ef 8 [] _ rfl (by kernel_rfl) (fun K hK => ?_)
    go_wp2_with fail
    refine ⟨rfl, hK _ _ ?_⟩; clear hK K
    refine Ord.St.nil ?_
    gi_wp2
    obtain ⟨P1, l1, F1, hr1, hb1⟩ := HPUT.out
    rw [hz0] at hb1
    exact ⟨(Books.of_ch HCUR.out (by omega) (by simp)).trans hb1, P1, F1, va1, vc1, l1, hr1⟩
  case done =>
    rintro W ⟨P, F', va, vc, l, hE⟩ hK _
    have c_o := hE.bx.cell (i := 0) rfl
    have HE := Lib.hid hE; clear hE
    rw [hz0] at hK
    have HK := Lib.hid hK; clear hK
    go_wp2
    refine ⟨by simp, .inl ⟨_, _, rfl, run_takeDeferred HK.out, ?_⟩⟩
    have hE2 := HE.out.same HFR.out (A' := W.putObj (w.heap.size + 6) (.deferred none)) (by rw [hz0]; exact ch_put (by simp))
    have hz9 := HC01.out.size
    refine ⟨_, results_tmp rfl _ _ _, .slice va width vc, rfl, P, l, hE2.sim, hE2.out, F', hE2.mem, (HC01.out.mono (by simp)).trans hE2.ch (fun k hk => ?_), fun k hk => (hE2.own k hk).imp id (fun e => by omega), hE2.map, by rw [hE2.len]; exact hE2.row, fun k hk => ?_⟩
    · simp only [List.nil_append, List.mem_cons] at hk ⊢
      rcases hk with hk | hk | hk
      · exact .inl (.inl hk)
      · exact .inr (by omega)
      · exact .inl (.inr hk)
    · obtain ⟨f1, f2, _⟩ := hE2.fresh k hk
      simp only [List.mem_cons, not_or] at f2
      exact ⟨f1, f2.2.2, f2.1⟩
end
end Go.Proofs.Ytndcgfnlgcincaa
namespace Go.Proofs.Ytndcgfnlgcincaa
open Go.RowKit Go.Mem Go.Aig
theorem infoRefs : (Try.prog.info? 25).map (fun i => (i.zero, i.size, i.bytes)) = some (some (.slice none 0 0), 1, 24) := by kernel_rfl
theorem slRows : SliceTy Try.prog 24 25 1 24 (.slice none 0 0) := ⟨Try.underlying24, infoRefs, rfl, by decide⟩
section
variable {w : World}
end
end Go.Proofs.Ytndcgfnlgcincaa
namespace Go.Proofs.Ytndcgfnlgcincaa
open Go.RowKit Go.Mem Go.Aig
structure Pco (w : World) (q : Nat) (ps : List (Option Addr × List Value × Nat)) : Prop where
  hd : ∀ (k : Nat) (p : Option Addr) (l : List Value) (c : Nat), ps[k]? = some (p, l, c) → w.cell? ⟨q, k, none⟩ = some (.slice p l.length c)
  cl : ∀ (k : Nat) (p : Option Addr) (l : List Value) (c : Nat), ps[k]? = some (p, l, c) → ∀ j u, l[j]? = some u → ∃ a, p = some a ∧ w.cell? (a.add j) = some u
  o1 : ∀ (k : Nat) (p : Option Addr) (l : List Value) (c : Nat), ps[k]? = some (p, l, c) → ∀ u ∈ l, u.oneCell' = true
def pcoL (ps : List (Option Addr × List Value × Nat)) : List Value := ps.flatMap fun x => x.2.1
theorem pcoL_succ {ps : List (Option Addr × List Value × Nat)} {k : Nat} {p : Option Addr} {l : List Value} {c : Nat} (h : ps[k]? = some (p, l, c)) : pcoL (ps.take (k + 1)) = pcoL (ps.take k) ++ l := by
  unfold pcoL
  rw [List.take_add_one, h]
  simp
theorem pcoL_le (ps : List (Option Addr × List Value × Nat)) (k : Nat) : (pcoL (ps.take k)).length ≤ (pcoL ps).length := by
  have e : pcoL ps = pcoL (ps.take k) ++ pcoL (ps.drop k) := by
    unfold pcoL; rw [← List.flatMap_append, List.take_append_drop]
  rw [e, List.length_append]; omega
theorem Pco.ch {w W : World} {q : Nat} {ps : List (Option Addr × List Value × Nat)} (h : Pco w q ps) (hc : Ch [] w W) : Pco W q ps :=
  ⟨fun k p l c hk => (hc.cell (p := ⟨q, k, none⟩) (cell_lt (h.hd k p l c hk)) (by simp)).trans (h.hd k p l c hk), fun k p l c hk j u hu => by
    obtain ⟨a, e, h2⟩ := h.cl k p l c hk j u hu
    exact ⟨a, e, (hc.cell (cell_lt h2) (by simp)).trans h2⟩, h.o1⟩
theorem run_append_nilx {P : Program} (w : World) (t ty e : TypeId) (i : TypeInfo) (ht : P.underlying t = some (.slice e)) (hi : P.info? e = some i) (base : Option Addr) (n cap c : Nat) (h : n ≤ cap) : (Builtin.append_ #[t, t] ty #[.slice base n cap, .slice none 0 c]).run P w = .ok (.slice base n cap) w := by
  cases base <;> simp [Builtin.append_, run_underlying ht, sizeOf, typeInfo, hi, Builtin.lenOf, h, Builtin.firstCells, storeCells]
theorem row.cap {w : World} {e : TypeId} {size : Nat} {a : Option Addr} {n c : Nat} {xs : List Value} (h : row w e size (.slice a n c) n xs) : n ≤ c := by
  rcases h.2 with ⟨e, _⟩ | ⟨g, cap, cur, e, _, _, h1, _⟩
  · cases e; exact Nat.le_refl _
  · cases e; exact h1
abbrev zRef : Value := .int .i64 0
abbrev zLst : Value := .slice none 0 0
section
variable {w : World}
theorem run_zerosRef (w : World) (ty : TypeId) (n : Nat) (h0 : 0 < n) (hn : n ≤ 1000000) : ∃ c W, (Builtin.append_ #[25, 3] ty #[.slice none 0 0, .int .i64 n]).run Try.prog w = .ok (.slice (some ⟨w.heap.size, 0, none⟩) n c) W ∧ row W 26 1 (.slice (some ⟨w.heap.size, 0, none⟩) 0 c) 0 [] ∧ Ch [] w W ∧ n ≤ c ∧ c ≤ maxLen := by
  obtain ⟨i, hi, hz, hs, hb⟩ := info_parts infoRef
  have hr := Go.Lib.run_append_nil_zeros (P := Try.prog) w 25 3 ty 26 i zRef .i64 .i64 Try.underlying25 Try.underlying3 hi hz n h0 (by rw [hs]; omega) (by omega) (by rw [hb]; omega)
  have h1 := grownCap_ge w n 0 26
  have h2 := grownCap_le_maxLen w n 0 26 (by unfold maxLen; omega)
  refine ⟨_, _, hr, ⟨rfl, .inr ⟨_, _, _, rfl, Nat.zero_le _, heap_alloc_new w.drew _, Nat.zero_le _, h2, ?_, by simp⟩⟩, ((Ch.refl [] w).drew).alloc _, h1, h2⟩
  simp [Value.cells, Builtin.zeroCells]
  omega
set_option maxRecDepth 100000 in
set_option maxHeartbeats 2000000 in
theorem GrowRef_nil (n : Nat) (h0 : 0 < n) (hn : n ≤ 1000000) : Calls Try.prog 73 #[.slice none 0 0, .int .i64 n] w fun e w' => ∃ v, e = .returned v ∧ row w' 26 1 v 0 [] ∧ (∀ q ∈ v.ownBlock.toList, w.heap.size ≤ q) ∧ Ch [] w w' := by
  obtain ⟨c, W, hr, hrow, hch, h1, h2⟩ := run_zerosRef w 25 n h0 hn
  have HROW := Lib.hid hrow; clear hrow
  have HCH := Lib.hid hch; clear hch
  go_enter Try.func73, Try.ntmps73
  have HR := Lib.hid hr; clear hr
  go_wp2_with (at_builtin; go_loud (refine Go.Lib.wpList_append_run w rfl _ _ _ _ rfl (.slice none 0 0) (.int .i64 n) rfl rfl _ _ HR.out ?_))
  go_ret
  exact ⟨_, rfl, HROW.out, by simp, HCH.out⟩
set_option maxRecDepth 100000 in
set_option maxHeartbeats 4000000 in
theorem ConcatRef_is {q : Nat} {ps : List (Option Addr × List Value × Nat)} (n c : Nat) (h : Pco w q ps) (hn : ps.length = n) (hnc : n ≤ 1000) (h1 : 0 < (pcoL ps).length) (h2 : (pcoL ps).length ≤ 1000000) :
    Calls Try.prog 57 #[.slice (some ⟨q, 0, none⟩) n c] w fun e w' => ∃ v, e = .returned v ∧ row w' 26 1 v (pcoL ps).length (pcoL ps) ∧ (∀ q ∈ v.ownBlock.toList, w.heap.size ≤ q) ∧ Ch [] w w' := by
  have HN := fun W => GrowRef_nil (w := W) (pcoL ps).length h1 h2
  have H := Lib.hid h; clear h
  go_enter Try.func57, Try.ntmps57
  go_wp2_with fail
  go_loopw [3, 11] (fun s i wr => ∃ k : Nat, k ≤ n ∧ i = .int .i64 k ∧ s = .int .i64 (pcoL (ps.take k)).length ∧ wr = w) (fun _ i _ => n - (intOf i).toNat)
  case atStart => exact ⟨0, by omega, rfl, by simp [pcoL], rfl⟩
  case round =>
    obtain ⟨k, hk, rfl, rfl, hww⟩ := hrel
    subst wr
    have hle := pcoL_le ps k
    by_cases hlt : k < n
    · obtain ⟨⟨p, l, lc⟩, hp⟩ : ∃ x, ps[k]? = some x := ⟨_, List.getElem?_eq_getElem (by omega)⟩
      have c0 := H.out.hd k p l lc hp
      have hsu := pcoL_succ hp
      have hle2 := pcoL_le ps (k + 1)
      rw [hsu, List.length_append] at hle2
      have HSU := Lib.hid hsu; clear hsu
      generalize hA : (pcoL (ps.take k)).length = A at *
      have hnn : decide ((A : Int) + l.length < 0) = false := decide_eq_false (by omega)
      go_wp2_with fail
      go_roundw
      case rel => exact ⟨k + 1, by omega, by go_num, by rw [HSU.out, List.length_append, hA]; push_cast; rfl, by trivial⟩
      case measure => simp [intOf]; omega
    · have hkn : k = n := by omega
      have hall : ps.take k = ps := List.take_of_length_le (by omega)
      rw [hall] at hle ⊢
      clear hall hkn
      have HNN := Lib.hid HN; clear HN
      go_wp2_with fail
      refine (HNN.out _).mono ?_
      rintro e w1 ⟨v, rfl, hrow, hlo, hch⟩
      have HROW := Lib.hid hrow; clear hrow
      have HLO := Lib.hid hlo; clear hlo
      have HCH := Lib.hid hch; clear hch hle
      clear hlt
      go_wp2_with fail
      go_loopw [6, 27] (fun o i wr => ∃ k : Nat, k ≤ n ∧ i = .int .i64 k ∧ Ch [] w wr ∧ row wr 26 1 o (pcoL (ps.take k)).length (pcoL (ps.take k)) ∧ ∀ q ∈ o.ownBlock.toList, w.heap.size ≤ q) (fun _ i _ => n - (intOf i).toNat)
      case atStart => exact ⟨0, by omega, rfl, HCH.out, by simpa [pcoL] using HROW.out, HLO.out⟩
      case round =>
        obtain ⟨k, hk, rfl, hc, hrow, hlo⟩ := hrel
        obtain ⟨oa, oc, rfl⟩ := row.shape hrow
        by_cases hlt : k < n
        · obtain ⟨⟨p, l, lc⟩, hp⟩ : ∃ x, ps[k]? = some x := ⟨_, List.getElem?_eq_getElem (by omega)⟩
          have hP := H.out.ch hc
          have c0 := hP.hd k p l lc hp
          have hcl := hP.cl k p l lc hp
          have h1o := hP.o1 k p l lc hp
          have hsu := pcoL_succ hp
          have hle2 := pcoL_le ps (k + 1)
          rw [hsu, List.length_append] at hle2
          have HSU := Lib.hid hsu; clear hsu
          have H1O := Lib.hid h1o; clear h1o
          generalize hA : pcoL (ps.take k) = A at *
          have HA := Lib.hid hA; clear hA
          have HRA := Lib.hid hrow; clear hrow
          have HC := Lib.hid hc; clear hc
          have HLO2 := Lib.hid hlo; clear hlo
          clear hp hP
          cases p with
          | none =>
            have hl0 : l = [] := by
              cases l with
              | nil => rfl
              | cons u l =>
                obtain ⟨a, e, _⟩ := hcl 0 u rfl
                cases e
            subst hl0
            clear hcl
            have hrn : (Builtin.append_ #[25, 25] 25 #[.slice oa A.length oc, .slice none 0 lc]).run Try.prog wr = .ok (.slice oa A.length oc) wr := by
              obtain ⟨i, hi, _⟩ := info_parts infoRef
              exact run_append_nilx wr _ _ _ i Try.underlying25 hi oa A.length oc lc (row.cap HRA.out)
            have HRN := Lib.hid hrn; clear hrn
            go_wp2_with (at_builtin; go_loud (refine Go.Lib.wpList_append_run wr rfl _ _ _ _ rfl (.slice oa A.length oc) (.slice none 0 lc) rfl rfl _ _ HRN.out ?_))
            go_roundw
            case rel =>
              refine ⟨k + 1, by omega, by go_num, HC.out, ?_, HLO2.out⟩
              rw [HSU.out, List.append_nil]
              exact HRA.out
            case measure => simp [intOf]; omega
          | some p =>
            have hcl2 : ∀ j u, l[j]? = some u → wr.cell? (p.add j) = some u := fun j u hu => by
              obtain ⟨a, e, h⟩ := hcl j u hu
              cases e; exact h
            have HCL := Lib.hid hcl2; clear hcl2 hcl
            go_wp2_with (at_builtin; go_loud (refine wpList_append_row slRefs rfl _ _ rfl (v := .slice oa A.length oc) (n := A.length) (xs := A) rfl HRA.out (ad := p) (m := l.length) (c := lc) (news := l) rfl (by simp) HCL.out H1O.out (by omega) (by omega) ?_; intro v' w4 hown4 hC4 hf4; have HO4 := Lib.hid hown4; clear hown4; have HC4 := Lib.hid hC4; clear hC4; have HF4 := Lib.hid hf4; clear hf4))
            go_roundw
            case rel =>
              obtain ⟨q1, q2⟩ := app_step HC.out (Ch.refl [] wr) HLO2.out HC4.out HF4.out
              refine ⟨k + 1, by omega, by go_num, q1, ?_, q2⟩
              rw [HSU.out, List.length_append]
              exact HO4.out
            case measure => simp [intOf]; omega
        · have hkn : k = n := by omega
          have hall : ps.take k = ps := List.take_of_length_le (by omega)
          rw [hall] at hrow hlo ⊢
          have HRA := Lib.hid hrow; clear hrow hall hkn
          have HC := Lib.hid hc; clear hc
          have HLO2 := Lib.hid hlo; clear hlo
          go_wp2_with fail
          go_ret
          exact ⟨_, rfl, HRA.out, HLO2.out, HC.out⟩
theorem run_zerosLst (w : World) (ty : TypeId) (n : Nat) (h0 : 0 < n) (hn : n ≤ 1000000) : ∃ c W, (Builtin.append_ #[24, 3] ty #[.slice none 0 0, .int .i64 n]).run Try.prog w = .ok (.slice (some ⟨w.heap.size, 0, none⟩) n c) W ∧ row W 25 1 (.slice (some ⟨w.heap.size, 0, none⟩) 0 c) 0 [] ∧ Ch [] w W ∧ n ≤ c ∧ c ≤ maxLen := by
  obtain ⟨i, hi, hz, hs, hb⟩ := info_parts infoRefs
  have hr := Go.Lib.run_append_nil_zeros (P := Try.prog) w 24 3 ty 25 i zLst .i64 .i64 Try.underlying24 Try.underlying3 hi hz n h0 (by rw [hs]; omega) (by omega) (by rw [hb]; omega)
  have h1 := grownCap_ge w n 0 25
  have h2 := grownCap_le_maxLen w n 0 25 (by unfold maxLen; omega)
  refine ⟨_, _, hr, ⟨rfl, .inr ⟨_, _, _, rfl, Nat.zero_le _, heap_alloc_new w.drew _, Nat.zero_le _, h2, ?_, by simp⟩⟩, ((Ch.refl [] w).drew).alloc _, h1, h2⟩
  simp [Value.cells, Builtin.zeroCells]
  omega
set_option maxRecDepth 100000 in
set_option maxHeartbeats 2000000 in
theorem GrowLst_nil (n : Nat) (h0 : 0 < n) (hn : n ≤ 1000000) : Calls Try.prog 71 #[.slice none 0 0, .int .i64 n] w fun e w' => ∃ v, e = .returned v ∧ row w' 25 1 v 0 [] ∧ (∀ q ∈ v.ownBlock.toList, w.heap.size ≤ q) ∧ Ch [] w w' := by
  obtain ⟨c, W, hr, hrow, hch, h1, h2⟩ := run_zerosLst w 24 n h0 hn
  have HROW := Lib.hid hrow; clear hrow
  have HCH := Lib.hid hch; clear hch
  go_enter Try.func71, Try.ntmps71
  have HR := Lib.hid hr; clear hr
  go_wp2_with (at_builtin; go_loud (refine Go.Lib.wpList_append_run w rfl _ _ _ _ rfl (.slice none 0 0) (.int .i64 n) rfl rfl _ _ HR.out ?_))
  go_ret
  exact ⟨_, rfl, HROW.out, by simp, HCH.out⟩
set_option maxRecDepth 100000 in
set_option maxHeartbeats 4000000 in
theorem ConcatLst_is {q : Nat} {ps : List (Option Addr × List Value × Nat)} (n c : Nat) (h : Pco w q ps) (hn : ps.length = n) (hnc : n ≤ 1000) (h1 : 0 < (pcoL ps).length) (h2 : (pcoL ps).length ≤ 1000000) :
    Calls Try.prog 55 #[.slice (some ⟨q, 0, none⟩) n c] w fun e w' => ∃ v, e = .returned v ∧ row w' 25 1 v (pcoL ps).length (pcoL ps) ∧ (∀ q ∈ v.ownBlock.toList, w.heap.size ≤ q) ∧ Ch [] w w' := by
  have HN := fun W => GrowLst_nil (w := W) (pcoL ps).length h1 h2
  have H := Lib.hid h; clear h
  go_enter Try.func55, Try.ntmps55
  go_wp2_with fail
  go_loopw [3, 11] (fun s i wr => ∃ k : Nat, k ≤ n ∧ i = .int .i64 k ∧ s = .int .i64 (pcoL (ps.take k)).length ∧ wr = w) (fun _ i _ => n - (intOf i).toNat)
  case atStart => exact ⟨0, by omega, rfl, by simp [pcoL], rfl⟩
  case round =>
    obtain ⟨k, hk, rfl, rfl, hww⟩ := hrel
    subst wr
    have hle := pcoL_le ps k
    by_cases hlt : k < n
    · obtain ⟨⟨p, l, lc⟩, hp⟩ : ∃ x, ps[k]? = some x := ⟨_, List.getElem?_eq_getElem (by omega)⟩
      have c0 := H.out.hd k p l lc hp
      have hsu := pcoL_succ hp
      have hle2 := pcoL_le ps (k + 1)
      rw [hsu, List.length_append] at hle2
      have HSU := Lib.hid hsu; clear hsu
      generalize hA : (pcoL (ps.take k)).length = A at *
      have hnn : decide ((A : Int) + l.length < 0) = false := decide_eq_false (by omega)
      go_wp2_with fail
      go_roundw
      case rel => exact ⟨k + 1, by omega, by go_num, by rw [HSU.out, List.length_append, hA]; push_cast; rfl, by trivial⟩
      case measure => simp [intOf]; omega
    · have hkn : k = n := by omega
      have hall : ps.take k = ps := List.take_of_length_le (by omega)
      rw [hall] at hle ⊢
      clear hall hkn
      have HNN := Lib.hid HN; clear HN
      go_wp2_with fail
      refine (HNN.out _).mono ?_
      rintro e w1 ⟨v, rfl, hrow, hlo, hch⟩
      have HROW := Lib.hid hrow; clear hrow
      have HLO := Lib.hid hlo; clear hlo
      have HCH := Lib.hid hch; clear hch hle
      clear hlt
      go_wp2_with fail
      go_loopw [6, 27] (fun o i wr => ∃ k : Nat, k ≤ n ∧ i = .int .i64 k ∧ Ch [] w wr ∧ row wr 25 1 o (pcoL (ps.take k)).length (pcoL (ps.take k)) ∧ ∀ q ∈ o.ownBlock.toList, w.heap.size ≤ q) (fun _ i _ => n - (intOf i).toNat)
      case atStart => exact ⟨0, by omega, rfl, HCH.out, by simpa [pcoL] using HROW.out, HLO.out⟩
      case round =>
        obtain ⟨k, hk, rfl, hc, hrow, hlo⟩ := hrel
        obtain ⟨oa, oc, rfl⟩ := row.shape hrow
        by_cases hlt : k < n
        · obtain ⟨⟨p, l, lc⟩, hp⟩ : ∃ x, ps[k]? = some x := ⟨_, List.getElem?_eq_getElem (by omega)⟩
          have hP := H.out.ch hc
          have c0 := hP.hd k p l lc hp
          have hcl := hP.cl k p l lc hp
          have h1o := hP.o1 k p l lc hp
          have hsu := pcoL_succ hp
          have hle2 := pcoL_le ps (k + 1)
          rw [hsu, List.length_append] at hle2
          have HSU := Lib.hid hsu; clear hsu
          have H1O := Lib.hid h1o; clear h1o
          generalize hA : pcoL (ps.take k) = A at *
          have HA := Lib.hid hA; clear hA
          have HRA := Lib.hid hrow; clear hrow
          have HC := Lib.hid hc; clear hc
          have HLO2 := Lib.hid hlo; clear hlo
          clear hp hP
          cases p with
          | none =>
            have hl0 : l = [] := by
              cases l with
              | nil => rfl
              | cons u l =>
                obtain ⟨a, e, _⟩ := hcl 0 u rfl
                cases e
            subst hl0
            clear hcl
            have hrn : (Builtin.append_ #[24, 24] 24 #[.slice oa A.length oc, .slice none 0 lc]).run Try.prog wr = .ok (.slice oa A.length oc) wr := by
              obtain ⟨i, hi, _⟩ := info_parts infoRefs
              exact run_append_nilx wr _ _ _ i Try.underlying24 hi oa A.length oc lc (row.cap HRA.out)
            have HRN := Lib.hid hrn; clear hrn
            go_wp2_with (at_builtin; go_loud (refine Go.Lib.wpList_append_run wr rfl _ _ _ _ rfl (.slice oa A.length oc) (.slice none 0 lc) rfl rfl _ _ HRN.out ?_))
            go_roundw
            case rel =>
              refine ⟨k + 1, by omega, by go_num, HC.out, ?_, HLO2.out⟩
              rw [HSU.out, List.append_nil]
              exact HRA.out
            case measure => simp [intOf]; omega
          | some p =>
            have hcl2 : ∀ j u, l[j]? = some u → wr.cell? (p.add j) = some u := fun j u hu => by
              obtain ⟨a, e, h⟩ := hcl j u hu
              cases e; exact h
            have HCL := Lib.hid hcl2; clear hcl2 hcl
            go_wp2_with (at_builtin; go_loud (refine wpList_append_row slRows rfl _ _ rfl (v := .slice oa A.length oc) (n := A.length) (xs := A) rfl HRA.out (ad := p) (m := l.length) (c := lc) (news := l) rfl (by simp) HCL.out H1O.out (by omega) (by omega) ?_; intro v' w4 hown4 hC4 hf4; have HO4 := Lib.hid hown4; clear hown4; have HC4 := Lib.hid hC4; clear hC4; have HF4 := Lib.hid hf4; clear hf4))
            go_roundw
            case rel =>
              obtain ⟨q1, q2⟩ := app_step HC.out (Ch.refl [] wr) HLO2.out HC4.out HF4.out
              refine ⟨k + 1, by omega, by go_num, q1, ?_, q2⟩
              rw [HSU.out, List.length_append]
              exact HO4.out
            case measure => simp [intOf]; omega
        · have hkn : k = n := by omega
          have hall : ps.take k = ps := List.take_of_length_le (by omega)
          rw [hall] at hrow hlo ⊢
          have HRA := Lib.hid hrow; clear hrow hall hkn
          have HC := Lib.hid hc; clear hc
          have HLO2 := Lib.hid hlo; clear hlo
          go_wp2_with fail
          go_ret
          exact ⟨_, rfl, HRA.out, HLO2.out, HC.out⟩
end
end Go.Proofs.Ytndcgfnlgcincaa
namespace Go.Aig
def bad26 (n0 : Nat) (x : List Int) : Bool := !right26 x.length || (x.length : Int) != n0
def chk26 (G : Gra) (idx refs : List Int) (ws : List (List Int)) : Nat :=
  if ws.any (bad26 (ws.headD []).length) then 260 else if badIn G (refs ++ ws.flatten ++ idx) then 200 else 0
end Go.Aig
namespace Go.Proofs.Ytndcgfnlgcincaa
open Go.RowKit Go.Mem Go.Aig
theorem run_append_copy {P : Program} (w : World) {t e : TypeId} {size bytes : Nat} {z : Value} (S : SliceTy P t e size bytes z) (ty : TypeId)
    (ra : Option Addr) (n : Nat) (olds : List Value) (hlo : olds.length = n * size) (holds : ∀ j u, olds[j]? = some u → ∃ b, ra = some b ∧ w.cell? (b.add j) = some u) (hn0 : ra = none → n = 0) (a : Addr) (m c : Nat) (h0 : 0 < m) (news : List Value) (hl : news.length = m * size) (hnews : ∀ j u, news[j]? = some u → w.cell? (a.add j) = some u) (h1 : ∀ u ∈ news, u.oneCell' = true)
    (hbytes : (n + m) * bytes ≤ 140737488355328) (h63 : n + m ≤ maxLen) :
    ∃ v' w', (Builtin.append_ #[t, t] ty #[.slice ra n n, .slice (some a) m c]).run P w = .ok v' w' ∧ row w' e size v' (n + m) (olds ++ news) ∧ Ch [] w w' ∧ (∀ k, v'.ownBlock = some k → w.heap.size ≤ k) := by
  cases ra with
  | none =>
    have hn := hn0 rfl
    subst hn
    have : olds = [] := List.length_eq_zero_iff.1 (by omega)
    subst this
    obtain ⟨v', w', hr, h2, h3, h4⟩ := run_append_row w S ty (.slice none 0 0) 0 [] ⟨by simp, .inl ⟨rfl, rfl⟩⟩ a m c news hl hnews h1 hbytes h63
    exact ⟨v', w', hr, h2, h3.mono (by simp), fun k hk => (h4 k hk).elim (fun e => by simp [Value.ownBlock] at e) id⟩
  | some b =>
    obtain ⟨i, hi, hz, hsize, hby⟩ := info_parts S.info
    obtain ⟨v', w', hr, h2, h3⟩ := run_append_arg_grows (P := P) (w := w) t ty e i z size bytes S.under hi hz hsize hby S.zs S.pos b n n olds hlo (fun j u hu => by
      obtain ⟨b', e, h⟩ := holds j u hu
      cases e; exact h) a m c news hl hnews (by omega) h63 hbytes
    exact ⟨v', w', hr, ⟨h2.1, h2.2.imp id (fun ⟨g, cap, cur, e, _, rest⟩ => ⟨g, cap, cur, e, Nat.zero_le _, rest⟩)⟩, (Ch.refl _ _).grown h3 (by simp), fun k hk => (h2.lt k hk).1⟩
theorem wpList_append_copy {P : Program} {w : World} {ops : Array Oper} {rest : List Oper} {o : Oper} {a : Act} {Q : Exit → Act → World → Prop} {t e : TypeId} {size bytes : Nat} {z : Value} (S : SliceTy P t e size bytes z) (hgd : o.guard = none) (s x : Operand)
    (ho : o.op = .call { callee := .builtin .append, args := #[s, x], argTypes := #[t, t] })
    {ra : Option Addr} {n : Nat} {olds : List Value} (hs : a.eval s = .slice ra n n) (hlo : olds.length = n * size) (holds : ∀ j u, olds[j]? = some u → ∃ b, ra = some b ∧ w.cell? (b.add j) = some u) (hn0 : ra = none → n = 0)
    {ad : Addr} {m c : Nat} {news : List Value} (h0 : 0 < m) (hx : a.eval x = .slice (some ad) m c) (hl : news.length = m * size) (hnews : ∀ j u, news[j]? = some u → w.cell? (ad.add j) = some u) (h1 : ∀ u ∈ news, u.oneCell' = true)
    (hbytes : (n + m) * bytes ≤ 140737488355328) (h63 : n + m ≤ 9223372036854775807)
    (h : ∀ v' w', row w' e size v' (n + m) (olds ++ news) → Ch [] w w' → (∀ k, v'.ownBlock = some k → w.heap.size ≤ k) → wpList P ops Q rest (a.put o.dst v') w') : wpList P ops Q (o :: rest) a w :=
  wpList_plain hgd fun K hK => by
    obtain ⟨v', w', hr, h2, h3, h4⟩ := run_append_copy (P := P) w S o.type ra n olds hlo holds hn0 ad m c h0 news hl hnews h1 hbytes (by unfold maxLen; omega)
    unfold Oper.wp execOp
    simp only [ho, resolve, invoke, builtin, Sem.run_bind, Sem.run_pure, Result.andThen_ok, List.map_toArray, List.map_cons, List.map_nil, hs, hx, hr]
    exact hK _ _ (h v' w' h2 h3 h4)
abbrev I64' (x : Int) : Prop := -9223372036854775808 ≤ x ∧ x ≤ 9223372036854775807
structure RS (w : World) (ra : Option Addr) (n c : Nat) (R : List Int) : Prop where
  len : R.length = n
  le : n ≤ c
  cells : ∀ j u, (intCells R)[j]? = some u → ∃ b, ra = some b ∧ w.cell? (b.add j) = some u
  max : n ≤ 1000000
theorem RS.ch {w w' : World} {ra : Option Addr} {n c : Nat} {R : List Int} (h : RS w ra n c R) (hc : Ch [] w w') : RS w' ra n c R :=
  ⟨h.len, h.le, fun j u hu => by
    obtain ⟨b, e, h2⟩ := h.cells j u hu
    exact ⟨b, e, (hc.cell (cell_lt h2) (by simp)).trans h2⟩, h.max⟩
theorem RS.zero {w : World} {n c : Nat} {R : List Int} (h : RS w none n c R) : n = 0 := by
  have := h.len
  cases R with
  | nil => exact this.symm
  | cons x R =>
    obtain ⟨b, e, _⟩ := h.cells 0 (.int .i64 x) rfl
    cases e
theorem fnvmcheck1 : Fnv 58 := fnv_of Try.func58 (by simp [Try.f58]) (by simp [Try.f58])
section
variable {w : World} {g : Nat} {G : Gra} {F : List Nat}
set_option maxRecDepth 100000 in
set_option maxHeartbeats 1000000 in
theorem mcheck1_is (h : GIn w g G F) {bx : Nat} (hb : w.cell? ⟨bx, 0, none⟩ = some (.pointer (some ⟨g, 0, none⟩))) (r : Int) (hr : r ≤ 9223372036854775807) :
    Calls Try.prog 58 (#[.int .i64 r] ++ #[.pointer (some ⟨bx, 0, none⟩)]) w fun e w' => e = .returned (.bool (!right G.nodes r)) ∧ w = w' := by
  show Calls Try.prog 58 #[.int .i64 r, .pointer (some ⟨bx, 0, none⟩)] w _
  have HR := Right_g h r hr
  clear h
  generalize right G.nodes r = q at *
  go_enter Try.func58, Try.ntmps58
  go_wp2_with fail
  refine HR.mono ?_
  rintro e w' ⟨rfl, rfl⟩
  go_wp2_with fail
  go_ret
  exact ⟨ret_bool rfl, rfl⟩
structure LS (w : World) (q n : Nat) (ls : List (Nat × Nat × List WV)) : Prop where
  len : ls.length = n
  hd : ∀ (j b c : Nat) (ws : List WV), ls[j]? = some (b, c, ws) → w.cell? ⟨q, j, none⟩ = some (.slice (some ⟨b, 0, none⟩) ws.length c)
  cells : ∀ (j b c : Nat) (ws : List WV), ls[j]? = some (b, c, ws) → ∀ (i : Nat) (x : WV), ws[i]? = some x → w.cell? ⟨b, i, none⟩ = some x.val ∧ WVok w x
def lsW (ls : List (Nat × Nat × List WV)) : List WV := ls.flatMap fun x => x.2.2
theorem LS.ch {w w' : World} {q n : Nat} {ls : List (Nat × Nat × List WV)} (h : LS w q n ls) (hc : Ch [] w w') : LS w' q n ls :=
  ⟨h.len, fun j b c ws hj => (hc.cell (cell_lt (h.hd j b c ws hj)) (by simp)).trans (h.hd j b c ws hj), fun j b c ws hj i x hx => ⟨(hc.cell (cell_lt (h.cells j b c ws hj i x hx).1) (by simp)).trans (h.cells j b c ws hj i x hx).1, (h.cells j b c ws hj i x hx).2.ch hc (by simp)⟩⟩
theorem lsW_succ {ls : List (Nat × Nat × List WV)} {j : Nat} {x : Nat × Nat × List WV} (h : ls[j]? = some x) : lsW (ls.take (j + 1)) = lsW (ls.take j) ++ x.2.2 := by
  unfold lsW
  rw [List.take_add_one, h]
  simp
theorem LS.pco {w : World} {q n : Nat} {ls : List (Nat × Nat × List WV)} (h : LS w q n ls) : Pco w q (ls.map fun x => (some ⟨x.1, 0, none⟩, x.2.2.map WV.val, x.2.1)) := by
  have key : ∀ (k : Nat) (p : Option Addr) (l : List Value) (c : Nat), (ls.map fun x => ((some ⟨x.1, 0, none⟩ : Option Addr), x.2.2.map WV.val, x.2.1))[k]? = some (p, l, c) → ∃ (b : Nat) (ws : List WV), ls[k]? = some (b, c, ws) ∧ p = some ⟨b, 0, none⟩ ∧ l = ws.map WV.val := fun k p l c hk => by
    rw [List.getElem?_map] at hk
    cases hx : ls[k]? with
    | none => rw [hx] at hk; cases hk
    | some x =>
      rw [hx] at hk
      obtain ⟨b, c', ws⟩ := x
      cases hk
      exact ⟨b, ws, rfl, rfl, rfl⟩
  refine ⟨fun k p l c hk => ?_, fun k p l c hk j u hu => ?_, fun k p l c hk u hu => ?_⟩
  · obtain ⟨b, ws, e, rfl, rfl⟩ := key k p l c hk
    rw [List.length_map]; exact h.hd k b c ws e
  · obtain ⟨b, ws, e, rfl, rfl⟩ := key k p l c hk
    rw [List.getElem?_map] at hu
    cases hx : ws[j]? with
    | none => rw [hx] at hu; cases hu
    | some x =>
      rw [hx] at hu
      cases hu
      refine ⟨_, rfl, ?_⟩
      rw [Addr.add_lit, Nat.zero_add]
      exact (h.cells k b c ws e j x hx).1
  · obtain ⟨b, ws, e, rfl, rfl⟩ := key k p l c hk
    obtain ⟨x, _, rfl⟩ := List.mem_map.1 hu
    rfl
theorem pco_lsW (ls : List (Nat × Nat × List WV)) : pcoL (ls.map fun x => ((some ⟨x.1, 0, none⟩ : Option Addr), x.2.2.map WV.val, x.2.1)) = (lsW ls).map WV.val := by
  unfold pcoL lsW
  rw [List.flatMap_map, List.map_flatMap]
structure PS (n0 : Nat) (R : List Int) (all P : List WV) (w : World) (ra : Option Addr) (rn rc : Nat) : Prop where
  rs : RS w ra rn rc (R ++ (P.map WV.l).flatten)
  good : ∀ x ∈ P, bad26 n0 x.l = false
theorem bad26_no {n0 : Nat} {x : List Int} (h : bad26 n0 x = false) : right26 x.length = true ∧ x.length = n0 ∧ 1 ≤ x.length ∧ x.length ≤ 16 := by
  unfold bad26 at h
  simp at h
  obtain ⟨h1, h2⟩ := h
  have h3 := h1
  unfold right26 at h3
  simp at h3
  exact ⟨h1, by omega, by omega, by omega⟩
theorem flat_le {n0 : Nat} : ∀ {P : List WV}, (∀ x ∈ P, bad26 n0 x.l = false) → ((P.map WV.l).flatten).length ≤ 16 * P.length
  | [], _ => by simp
  | x :: P, h => by
    have h1 := (bad26_no (h x (by simp))).2.2.2
    have h2 := flat_le (P := P) (fun y hy => h y (by simp [hy]))
    simp only [List.map_cons, List.flatten_cons, List.length_append, List.length_cons]
    omega
set_option maxRecDepth 100000 in
set_option maxHeartbeats 8000000 in
theorem mcheck_is (h : GIn w g G F) {q n c : Nat} {ls : List (Nat × Nat × List WV)} (hls : LS w q n ls) (hn : n ≤ 4) (h1 : 1 ≤ (lsW ls).length) (h2 : (lsW ls).length ≤ 1000)
    {ia : Option Addr} {il ic : Nat} {I : List Int} (hI : RS w ia il ic I) {ra : Option Addr} {rl rc : Nat} {R : List Int} (hR : RS w ra rl rc R) (hrl : rl ≤ 10000) (hil : il ≤ 1000)
    (hb : ∀ z ∈ I ++ R, I64' z) :
    Calls Try.prog 28 #[.pointer (some ⟨g, 0, none⟩), .slice ia il ic, .slice ra rl rc, .slice (some ⟨q, 0, none⟩) n c] w fun e w' => e = .returned (.int .i64 (chk26 G I R ((lsW ls).map WV.l))) ∧ Ch [] w w' := by
  have hCL := fun (W : World) (hW : Ch [] w W) => ConcatLst_is n c ((hls.ch hW).pco) (by rw [List.length_map]; exact hls.len) (by omega) (by rw [pco_lsW, List.length_map]; omega) (by rw [pco_lsW, List.length_map]; omega)
  simp only [pco_lsW, List.length_map] at hCL
  obtain ⟨x0, hx0⟩ : ∃ x, (lsW ls)[0]? = some x := ⟨_, List.getElem?_eq_getElem (by omega)⟩
  generalize hWC : chk26 G I R ((lsW ls).map WV.l) = WC
  have HWC := Lib.hid hWC; clear hWC
  have HCL := Lib.hid hCL; clear hCL
  have HLS := Lib.hid hls; clear hls
  have HI := Lib.hid hI; clear hI
  have hR0 := hR.len
  have HRR0 := Lib.hid (show R.length ≤ 10000 by omega); clear hR0
  have HRR := Lib.hid hR; clear hR
  have HB := Lib.hid hb; clear hb
  have H := Lib.hid h; clear h
  have HX0 := Lib.hid hx0; clear hx0
  go_enter Try.func28, Try.ntmps28
  go_wp2_with fail
  refine wp_scope_straight ?_
  go_upto_region 2 with fail
  refine wp_alw ?_
  intro W1 hW1
  have hbg := alw_blk (xs := [.pointer (some ⟨g, 0, none⟩)]) hW1
  have hc1 := alw_ch hW1
  clear hW1
  have HBG := Lib.hid hbg; clear hbg
  have HCC := Lib.hid (HCL.out W1 hc1)
  have HC1 := Lib.hid hc1; clear hc1 HCL
  go_wp2_with fail
  refine HCC.out.mono ?_
  rintro e w2 ⟨v, rfl, hrow, _, hc2⟩
  obtain ⟨vb, vcap, rfl⟩ := hrow.parts (by omega)
  have c0 := row_at2 hrow (k := 0) (v := x0.val) (by rw [List.getElem?_map, HX0.out]; rfl)
  have HC2 := Lib.hid (HC1.out.trans hc2 (by simp)); 
  have HBG2 := Lib.hid (HBG.out.ch hc2 (by simp)); clear hc2 hrow HCC HBG HC1
  unfold WV.val at c0
  go_wp2_with fail
  refine wp_label ?_
  go_wp2_with fail
  have hN0 : (((lsW ls).map WV.l).headD []).length = x0.l.length := by
    have := HX0.out
    cases hh : lsW ls with
    | nil => rw [hh] at this; cases this
    | cons y l => rw [hh] at this; cases this; rfl
  have hbad : ∀ x ∈ lsW ls, bad26 x0.l.length x.l = true → WC = 260 := fun x hx hb => by
    rw [← HWC.out]
    unfold chk26
    rw [hN0, if_pos (List.any_eq_true.2 ⟨x.l, List.mem_map.2 ⟨x, hx, rfl⟩, hb⟩)]
  have hgood : (∀ x ∈ lsW ls, bad26 x0.l.length x.l = false) → WC = if badIn G (R ++ ((lsW ls).map WV.l).flatten ++ I) then 200 else 0 := fun hg => by
    rw [← HWC.out]
    unfold chk26
    rw [hN0, if_neg (by
      rw [Bool.not_eq_true, List.any_eq_false]
      intro z hz
      obtain ⟨x, hx, rfl⟩ := List.mem_map.1 hz
      rw [hg x hx]; simp)]
  clear hN0
  have HBAD := Lib.hid hbad; clear hbad
  have HGOOD := Lib.hid hgood; clear hgood
  generalize hn0 : x0.l.length = n0 at *
  clear hn0 HX0 c0
  go_loopw [2, 9, 22] (fun r e i wr => e = .int .i64 0 ∧ ∃ (j : Nat) (ra : Option Addr) (rn rc : Nat), j ≤ n ∧ i = .int .i64 j ∧ r = .slice ra rn rc ∧ Ch [] w wr ∧ blk wr w.heap.size [.pointer (some ⟨g, 0, none⟩)] ∧ PS n0 R (lsW ls) (lsW (ls.take j)) wr ra rn rc) (fun _ _ i _ => n - (intOf i).toNat)
  case atStart => exact ⟨rfl, 0, ra, rl, rc, by omega, rfl, rfl, HC2.out, HBG2.out, by simpa [lsW] using HRR.out.ch HC2.out, by simp [lsW]⟩
  case round =>
    obtain ⟨rfl, j, ra, rn, rc, hj, rfl, rfl, hc, hbg, hps⟩ := hrel
    clear HC2 HBG2 HRR
    by_cases hlt : j < n
    · obtain ⟨⟨lb, lc, ws⟩, hl⟩ : ∃ x, ls[j]? = some x := ⟨_, List.getElem?_eq_getElem (by rw [HLS.out.len]; exact hlt)⟩
      have hsu := lsW_succ hl
      simp only at hsu
      have c0 := (HLS.out.ch hc).hd j lb lc ws hl
      have hpre : ∀ x ∈ ws, x ∈ lsW ls := fun x hx => List.mem_flatMap.2 ⟨_, List.mem_of_getElem? hl, hx⟩
      have hcnt : (lsW (ls.take j)).length + ws.length ≤ 1000 := by
        have : (lsW (ls.take (j + 1))).length ≤ (lsW ls).length := by
          have e : lsW ls = lsW (ls.take (j + 1)) ++ lsW (ls.drop (j + 1)) := by unfold lsW; rw [← List.flatMap_append, List.take_append_drop]
          rw [e, List.length_append]; omega
        rw [hsu, List.length_append] at this
        omega
      have HSU := Lib.hid hsu; clear hsu
      have HPRE := Lib.hid hpre; clear hpre
      have HC := Lib.hid hc; clear hc
      have HBG := Lib.hid hbg; clear hbg
      have HPS := Lib.hid hps; clear hps
      have HL := Lib.hid hl; clear hl
      go_wp2_with fail
      go_loopw [2, 9, 28] (fun r e i wr' => e = .int .i64 0 ∧ ∃ (k : Nat) (ra : Option Addr) (rn rc : Nat), k ≤ ws.length ∧ i = .int .i64 k ∧ r = .slice ra rn rc ∧ Ch [] w wr' ∧ blk wr' w.heap.size [.pointer (some ⟨g, 0, none⟩)] ∧ PS n0 R (lsW ls) (lsW (ls.take j) ++ ws.take k) wr' ra rn rc) (fun _ _ i _ => ws.length - (intOf i).toNat)
      case atStart => exact ⟨rfl, 0, ra, rn, rc, by omega, rfl, rfl, HC.out, HBG.out, by simpa using HPS.out⟩
      case round =>
        clear HC HBG HPS c0
        obtain ⟨rfl, k, ra, rn, rc, hk, rfl, rfl, hc, hbg, hps⟩ := hrel
        by_cases hlt2 : k < ws.length
        · obtain ⟨x, hx⟩ : ∃ x, ws[k]? = some x := ⟨_, List.getElem?_eq_getElem hlt2⟩
          obtain ⟨c0, hxo⟩ := (HLS.out.ch hc).cells j lb lc ws HL.out k x hx
          have hxl := hxo.len
          have hmem := HPRE.out x (List.mem_of_getElem? hx)
          unfold WV.val at c0
          have HR := fun W => mright_is (w := W) x.l.length
          have hrl' := hps.rs.len
          have hle := hps.rs.le
          have hrm := hps.rs.max
          by_cases hbx : bad26 n0 x.l = true
          · have hwc := HBAD.out x hmem hbx
            unfold bad26 at hbx
            have HWC2 := Lib.hid hwc; clear hwc
            have HC := Lib.hid hc; clear hc
            clear hps hbg hmem hxo
            cases hr : right26 x.l.length
            · simp only [hr] at HR
              have HR := Lib.hid HR
              clear hbx hr
              go_wp2_with fail
              refine (HR.out _).mono ?_
              rintro e w' ⟨rfl, rfl⟩
              go_wp2_with fail
              rw [Exit.noGoto_ret]
              go_ret
              exact ⟨by rw [HWC2.out]; rfl, HC.out⟩
            · simp only [hr] at HR
              have HR := Lib.hid HR
              rw [hr] at hbx
              have hq : ((x.l.length : Int) != (n0 : Int)) = true := by simpa using hbx
              clear hbx hr
              go_wp2_with fail
              refine (HR.out _).mono ?_
              rintro e w' ⟨rfl, rfl⟩
              go_wp2_with fail
              rw [Exit.noGoto_ret]
              go_ret
              exact ⟨by rw [HWC2.out]; rfl, HC.out⟩
          · have hb0 : bad26 n0 x.l = false := by simpa using hbx
            obtain ⟨b1, b2, b3, b4⟩ := bad26_no hb0
            simp only [b1] at HR
            have hq : ((x.l.length : Int) != (n0 : Int)) = false := by rw [b2]; simp
            obtain ⟨xb, xo, hxa, hxc⟩ := hxo.sl.at (by omega)
            have hfl := flat_le hps.good
            have hpl : (lsW (ls.take j) ++ ws.take k).length ≤ 1000 := by rw [List.length_append, List.length_take]; omega
            have hrnb : rn ≤ 26000 := by
              have h9 := hps.rs.len
              rw [List.length_append] at h9
              have h8 := HRR0.out
              omega
            obtain ⟨xa, xl, xc⟩ := x
            simp only at hxa hxc hxl hb0 b1 b2 b3 b4 hq c0 HR hfl hpl
            have HR := Lib.hid HR
            subst hxa
            have HPS := Lib.hid hps; clear hps
            have HC := Lib.hid hc; clear hc
            have HBG := Lib.hid hbg; clear hbg
            have HX := Lib.hid hx; clear hx
            have hnews : ∀ (i : Nat) (u : Value), (intCells xl)[i]? = some u → wr.cell? ((⟨xb, xo, none⟩ : Addr).add i) = some u := fun i u hu => by
              unfold intCells at hu
              rw [List.getElem?_map] at hu
              cases hz : xl[i]? with
              | none => rw [hz] at hu; cases hu
              | some z =>
                rw [hz] at hu
                cases hu
                rw [Addr.add_lit]
                exact hxc i z hz
            have HNW := Lib.hid hnews; clear hnews hxc
            have HB0 := Lib.hid hb0; clear hb0
            have B2 := Lib.hid b2; clear b2 b1 hbx hmem hxo
            go_wp2_with fail
            refine (HR.out _).mono ?_
            rintro e w' ⟨rfl, rfl⟩
            clear HR
            have hol : (intCells (R ++ ((lsW (ls.take j) ++ ws.take k).map WV.l).flatten)).length = rn * 1 := by rw [Nat.mul_one]; unfold intCells; rw [List.length_map]; exact HPS.out.rs.len
            have HOL := Lib.hid hol; clear hol
            have hzr : ra = none → rn = 0 := fun e => by subst e; exact HPS.out.rs.zero
            have HZR := Lib.hid hzr; clear hzr
            go_wp2_with (at_builtin; go_loud (refine wpList_append_copy slRefs rfl _ _ rfl (ra := ra) (n := rn) (olds := intCells (R ++ ((lsW (ls.take j) ++ ws.take k).map WV.l).flatten)) rfl HOL.out HPS.out.rs.cells HZR.out (ad := ⟨xb, xo, none⟩) (m := xl.length) (c := xc) (news := intCells xl) (by omega) rfl (by simp [intCells]) HNW.out (by intro u hu; obtain ⟨r, _, rfl⟩ := List.mem_map.1 hu; rfl) (by omega) (by omega) ?_; intro v' w5 hrow5 hc5 _; obtain ⟨va, vc, rfl⟩ := row.shape hrow5; have HROW5 := Lib.hid hrow5; clear hrow5; have HC5 := Lib.hid hc5; clear hc5))
            go_roundw
            case rel =>
              have hps := HPS.out
              have hrow5 := HROW5.out
              have e1 : intCells (R ++ ((lsW (ls.take j) ++ ws.take k).map WV.l).flatten) ++ intCells xl = intCells (R ++ ((lsW (ls.take j) ++ ws.take (k + 1)).map WV.l).flatten) := by
                rw [List.take_add_one, HX.out]
                simp [intCells]
              rw [e1] at hrow5
              refine ⟨rfl, k + 1, va, rn + xl.length, vc, by omega, by go_num, rfl, HC.out.trans HC5.out (by simp), HBG.out.ch HC5.out (by simp), ⟨?_, row.cap hrow5, fun i u hu => ?_, by omega⟩, fun z hz => ?_⟩
              · have h9 := hrow5.1
                rw [Nat.mul_one] at h9
                unfold intCells at h9
                rw [List.length_map] at h9
                exact h9
              · obtain ⟨vb', vc', e⟩ := hrow5.parts (by omega)
                cases e
                exact ⟨_, rfl, by rw [Addr.add_lit, Nat.zero_add]; exact row_at2 hrow5 hu⟩
              · rw [List.take_add_one, HX.out] at hz
                rcases List.mem_append.1 hz with hz | hz
                · exact hps.good z (List.mem_append_left _ hz)
                · rcases List.mem_append.1 hz with hz | hz
                  · exact hps.good z (List.mem_append_right _ hz)
                  · simp at hz
                    subst hz
                    exact HB0.out
            case measure => simp [intOf]; omega
        · have hkn : ws.take k = ws := List.take_of_length_le (by omega)
          rw [hkn] at hps
          have HPS := Lib.hid hps; clear hps hkn
          have HC := Lib.hid hc; clear hc
          have HBG := Lib.hid hbg; clear hbg
          go_wp2_with fail
          go_roundw
          case rel => exact ⟨rfl, j + 1, ra, rn, rc, by omega, by go_num, rfl, HC.out, HBG.out, by rw [HSU.out]; exact HPS.out⟩
          case measure => simp [intOf]; omega
    · have hjn : ls.take j = ls := List.take_of_length_le (by rw [HLS.out.len]; omega)
      rw [hjn] at hps
      have hwc := HGOOD.out hps.good
      have hlen := hps.rs.len
      have hle := hps.rs.le
      have hrb : rn ≤ 26000 := by
        have h8 := HRR0.out
        have h7 := flat_le hps.good
        have h6 := hlen
        rw [List.length_append] at h6
        omega
      have hbd : ∀ r ∈ R ++ ((lsW ls).map WV.l).flatten, r ≤ 9223372036854775807 := fun r hr => by
        rcases List.mem_append.1 hr with hr | hr
        · exact (HB.out r (List.mem_append_right _ hr)).2
        · obtain ⟨l, hl, hrl⟩ := List.mem_flatten.1 hr
          obtain ⟨x, hx, rfl⟩ := List.mem_map.1 hl
          obtain ⟨y, hy, hxy⟩ := List.mem_flatMap.1 hx
          obtain ⟨jj, hjj⟩ := List.getElem?_of_mem hy
          obtain ⟨b, c', ws⟩ := y
          obtain ⟨ii, hii⟩ := List.getElem?_of_mem hxy
          exact ((HLS.out.cells jj b c' ws hjj ii x hii).2.bd r hrl).2
      have HRB := Lib.hid hrb; clear hrb
      have HBD := Lib.hid hbd; clear hbd
      have HPS := Lib.hid hps; clear hps hjn
      have HC := Lib.hid hc; clear hc
      have c_g := hbg.cell (i := 0) rfl
      have HBG := Lib.hid hbg; clear hbg
      have HWC2 := Lib.hid hwc; clear hwc
      go_wp2_with fail
      refine calls_named fun W6 hW6 => ?_
      have hb6 := alw_blk (xs := [.slice ra rn rc, .slice ia il ic]) hW6
      have hc6 := alw_ch hW6
      clear hW6
      generalize hAA : R ++ ((lsW ls).map WV.l).flatten = AA at *
      have hil2 := HI.out.len
      have hpos : 1 ≤ AA.length := by
        obtain ⟨y, hy⟩ : ∃ y, (lsW ls)[0]? = some y := ⟨_, List.getElem?_eq_getElem (by omega)⟩
        have hm := List.mem_of_getElem? hy
        have h3 := (bad26_no (HPS.out.good y hm)).2.2.1
        have h4 := (List.sublist_flatten_of_mem (List.mem_map.2 ⟨y, hm, rfl⟩ : y.l ∈ (lsW ls).map WV.l)).length_le
        rw [← hAA, List.length_append]
        omega
      have hrs := HPS.out.rs
      rw [hAA] at hrs
      have hP : Pco W6 wr.heap.size [(ra, intCells AA, rc), (ia, intCells I, ic)] := by
        have e1 : (intCells AA).length = rn := by rw [show (intCells AA).length = AA.length by simp [intCells]]; exact hrs.len
        have e2 : (intCells I).length = il := by rw [show (intCells I).length = I.length by simp [intCells]]; exact hil2
        have o1 : ∀ (l : List Int), ∀ u ∈ intCells l, u.oneCell' = true := fun l u hu => by obtain ⟨r, _, rfl⟩ := List.mem_map.1 hu; rfl
        refine ⟨fun k p l c hk => ?_, fun k p l c hk => ?_, fun k p l c hk => ?_⟩ <;> rcases k with _ | _ | k
        · cases hk; rw [e1]; exact hb6.cell rfl
        · cases hk; rw [e2]; exact hb6.cell rfl
        · simp at hk
        · cases hk; exact (hrs.ch hc6).cells
        · cases hk; exact ((HI.out.ch HC.out).ch hc6).cells
        · simp at hk
        · cases hk; exact o1 _
        · cases hk; exact o1 _
        · simp at hk
      have hall : pcoL [(ra, intCells AA, rc), (ia, intCells I, ic)] = intCells (AA ++ I) := by simp [pcoL, intCells]
      have hmx := hrs.max
      have hal : (intCells (AA ++ I)).length = rn + il := by simp [intCells, hrs.len, hil2]
      have hCC := ConcatRef_is 2 2 hP rfl (by omega) (by rw [hall, hal]; have := hrs.len; omega) (by rw [hall, hal]; have := HRB.out; omega)
      rw [hall, hal] at hCC
      refine hCC.mono ?_
      rintro e W7 ⟨v, rfl, hrow, _, hc7⟩
      obtain ⟨va, vc, rfl⟩ := row.shape hrow
      have hSl : Sl W7 va (AA ++ I) := Sl.of_ints hrow (by have := HRB.out; omega)
      have hgin := H.out.same (HC.out.trans (hc6.trans hc7 (by simp)) (by simp)) (by simp)
      have hbg7 := (HBG.out.ch hc6 (by simp)).ch hc7 (by simp)
      have hCF := CFref_is (w := W7) vc 58 #[.pointer (some ⟨w.heap.size, 0, none⟩)] (fun r => !right G.nodes r) hSl (fun r hr => mcheck1_is hgin (hbg7.cell (i := 0) rfl) r (by
        rcases List.mem_append.1 hr with hr | hr
        · exact HBD.out r hr
        · exact (HB.out r (List.mem_append_left _ hr)).2)) fnvmcheck1
      have hlx : (AA ++ I).length = rn + il := by rw [List.length_append, hrs.len, hil2]
      rw [hlx] at hCF
      have e9 : (AA ++ I).any (fun r => !right G.nodes r) = badIn G (AA ++ I) := rfl
      rw [e9] at hCF
      have HCC := Lib.hid ((HC.out.trans hc6 (by simp)).trans hc7 (by simp))
      have HCF := Lib.hid hCF; clear hCF
      clear hrow hSl hgin hbg7 hc6 hc7 hP hb6 hCC c_g
      cases hb : badIn G (AA ++ I)
      · rw [hb] at HWC2 HCF
        have HCF := Lib.hid HCF.out
        go_wp2_with fail
        refine HCF.out.mono ?_
        rintro e w9 ⟨rfl, rfl⟩
        go_wp2_with fail
        rw [Exit.noGoto_ret]
        go_ret
        exact ⟨by rw [HWC2.out]; rfl, HCC.out⟩
      · rw [hb] at HWC2 HCF
        have HCF := Lib.hid HCF.out
        go_wp2_with fail
        refine HCF.out.mono ?_
        rintro e w9 ⟨rfl, rfl⟩
        go_wp2_with fail
        rw [Exit.noGoto_ret]
        go_ret
        exact ⟨by rw [HWC2.out]; rfl, HCC.out⟩
end
end Go.Proofs.Ytndcgfnlgcincaa
namespace Go.Aig
def fitG (n bits : Int) : Nat × Nat := if array26 n = false then (0, 261) else if right26 bits = false then (0, 260) else (fitN n.toNat bits.toNat, 0)
def chooseG (G : Gra) (c : Int) (x y : List Int) : Gra × List Nat × Nat := if chk26 G [] [c] [x, y] ≠ 0 then (G, [], chk26 G [] [c] [x, y]) else wres G (chF c.toNat (G, 0) ((nats x).zip (nats y)))
def isG (G : Gra) (y : List Int) (n : Nat) : Res := if chk26 G [] [] [y] ≠ 0 then (G, 0, chk26 G [] [] [y]) else rres G (isR (G, 0) (nats y) y.length n)
theorem badIn_app {G : Gra} {x y : List Int} : badIn G (x ++ y) = (badIn G x || badIn G y) := by unfold badIn; rw [List.any_append]
structure Chk26 (G : Gra) (idx refs : List Int) (n0 : Nat) (ws : List (List Int)) : Prop where
  wds : ∀ x ∈ ws, WOf G n0 x
  r1 : ws ≠ [] → 1 ≤ n0
  r2 : ws ≠ [] → n0 ≤ 16
  ix : WOf G idx.length idx
  rf : WOf G refs.length refs
theorem wof_of {G : Gra} {x : List Int} (h : badIn G x = false) : WOf G x.length x := by
  obtain ⟨h1, h2⟩ := badIn_no h
  exact ⟨rfl, h1, h2⟩
theorem chk26_ok {G : Gra} {idx refs : List Int} {ws : List (List Int)} (h : chk26 G idx refs ws = 0) : Chk26 G idx refs (ws.headD []).length ws := by
  unfold chk26 at h
  split at h
  · cases h
  · rename_i h1
    split at h
    · cases h
    · rename_i h2
      have h2 : badIn G (refs ++ ws.flatten ++ idx) = false := by simpa using h2
      rw [badIn_app, badIn_app, Bool.or_eq_false_iff, Bool.or_eq_false_iff] at h2
      obtain ⟨⟨h3, h4⟩, h5⟩ := h2
      have h6 : ∀ x ∈ ws, bad26 (ws.headD []).length x = false := fun x hx => by
        have := List.any_eq_false.1 (by simpa using h1) x hx
        simpa using this
      have h7 : ∀ x ∈ ws, badIn G x = false := fun x hx => by
        unfold badIn at h4 ⊢
        rw [List.any_eq_false] at h4 ⊢
        exact fun r hr => h4 r (List.mem_flatten.2 ⟨x, hx, hr⟩)
      refine ⟨fun x hx => ?_, fun hne => ?_, fun hne => ?_, wof_of h5, wof_of h3⟩
      · have h8 := wof_of (h7 x hx)
        exact ⟨(Go.Proofs.Ytndcgfnlgcincaa.bad26_no (h6 x hx)).2.1, h8.cast, h8.lt⟩
      · cases ws with
        | nil => exact absurd rfl hne
        | cons x ws => exact (Go.Proofs.Ytndcgfnlgcincaa.bad26_no (h6 x (by simp))).2.2.1
      · cases ws with
        | nil => exact absurd rfl hne
        | cons x ws => exact (Go.Proofs.Ytndcgfnlgcincaa.bad26_no (h6 x (by simp))).2.2.2
theorem chk26_lt (G : Gra) (idx refs : List Int) (ws : List (List Int)) : chk26 G idx refs ws ≤ 260 := by unfold chk26; split; omega; split <;> omega
end Go.Aig
namespace Go.Proofs.Ytndcgfnlgcincaa
open Go.RowKit Go.Mem Go.Aig
def PostW (w : World) (l : List Nat) (v : Value) (F' : List Nat) (w' : World) : Prop := row w' 26 1 v l.length (refsCells l) ∧ ∀ k, v.ownBlock = some k → w.heap.size ≤ k ∧ k ∉ F'
theorem RW.post {w W : World} {g m : Nat} {G : Gra} {F : List Nat} {S : Mk × List Nat} {v : Value} {W' : World} (h : RW W g m G F S v W') (hc : Ch [] w W) : ∃ P F', Sim G P S.1 ∧ MIn W' g m P F' ∧ Ch (m :: F) W W' ∧ (∀ k ∈ F', k ∈ F ∨ W.heap.size ≤ k) ∧ F'[2]? = F[2]? ∧ (S.1.2 = 0 → PostW w S.2 v F' W') := by
  obtain ⟨P, l, hs, ho, F', k1, k2, k3, k4, k5, k6⟩ := h
  refine ⟨P, F', hs, k1, k2, k3, k4, fun h0 => ?_⟩
  have e := ho h0
  subst e
  exact ⟨k5, fun k hk => ⟨Nat.le_trans hc.size (k6 k hk).1, (k6 k hk).2.1⟩⟩
theorem MB.gvo {w w1 w' : World} {g : Nat} {G : Gra} {F : List Nat} {S : Mk × List Nat} {v : Value} (hc : Ch [] w w1) (h : MB w1 g G F S.1 (PostW w1 S.2) mzW v w') : GVo w g (wres G S).1 [] F v (wres G S).2.1 w' := by
  obtain ⟨F', k1, k2, k3, k4, k5, k6⟩ := h
  refine GVo.since hc ?_
  unfold wres
  by_cases h0 : S.1.2 = 0
  · rw [if_pos h0] at k1
    rw [if_neg (by simp [h0])]
    exact ⟨F', k1, by simpa using k2, k3, k4, (k5 h0).1, (k5 h0).2⟩
  · rw [if_neg h0] at k1
    rw [if_pos h0, k6 h0]
    exact GVo.nil k1 (by simpa using k2) k3 k4
theorem wres_e (G : Gra) (S : Mk × List Nat) : (wres G S).2.2 = S.1.2 := by
  unfold wres
  by_cases h0 : S.1.2 = 0
  · rw [if_neg (by simp [h0])]; exact h0.symm
  · rw [if_pos h0]
theorem CH.rw {w : World} {g m : Nat} {G : Gra} {P : Mk} {F : List Nat} {S : Mk × List Nat} {n : Nat} {v : Value} {w' : World} (h : CH w g m G P F S n v w') : RW w g m G F S v w' := by
  obtain ⟨P', l, h1, h2, _, _, _, h6⟩ := h
  exact ⟨P', l, h1, h2, h6⟩
section
variable {w : World} {g m : Nat} {G : Gra} {F : List Nat}
set_option maxRecDepth 100000 in
set_option maxHeartbeats 2000000 in
theorem mFit_is [Nonempty Unit] (n bits : Int) : Calls Try.prog 16 #[.int .i64 n, .int .i64 bits] w fun e w' => e = .returned (.tuple #[.int .i64 (fitG n bits).1, .int .i64 (fitG n bits).2]) ∧ w = w' := by
  have HA := marray_is (w := w) n
  have HR := mright_is (w := w) bits
  unfold fitG
  cases ha : array26 n
  · rw [ha] at HA
    clear HR
    simp only [if_true]
    go_enter Try.func16, Try.ntmps16
    go_wp2_with fail
    refine HA.mono ?_
    rintro e w' ⟨rfl, rfl⟩
    go_wp2_with fail
    go_ret2
    exact ⟨rfl, rfl⟩
  · rw [ha] at HA
    cases hr : right26 bits
    · rw [hr] at HR
      simp only [Bool.true_eq_false, if_false, if_true]
      go_enter Try.func16, Try.ntmps16
      go_wp2_with fail
      refine HA.mono ?_
      rintro e w' ⟨rfl, rfl⟩
      go_wp2_with fail
      refine HR.mono ?_
      rintro e w' ⟨rfl, rfl⟩
      go_wp2_with fail
      go_ret2
      exact ⟨rfl, rfl⟩
    · rw [hr] at HR
      obtain ⟨n', rfl, hn⟩ : ∃ n' : Nat, n = n' ∧ n' ≤ 256 := by
        unfold array26 at ha; simp at ha; exact ⟨n.toNat, by omega, by omega⟩
      obtain ⟨b', rfl, hb⟩ : ∃ b' : Nat, bits = b' ∧ b' ≤ 16 := by
        unfold right26 at hr; simp at hr; exact ⟨bits.toNat, by omega, by omega⟩
      have HF := mfit_is (w := w) n' b' hb (by omega)
      simp only [Bool.true_eq_false, if_false, Int.toNat_natCast]
      generalize fitN n' b' = k at *
      clear ha hr
      go_enter Try.func16, Try.ntmps16
      go_wp2_with fail
      refine HA.mono ?_
      rintro e w' ⟨rfl, rfl⟩
      go_wp2_with fail
      refine HR.mono ?_
      rintro e w' ⟨rfl, rfl⟩
      go_wp2_with fail
      refine HF.mono ?_
      rintro e w' ⟨rfl, rfl⟩
      go_wp2_with fail
      go_ret2
      exact ⟨rfl, rfl⟩
theorem fnvmChoose1 : Fnv 43 := fnv_of Try.func43 (by simp [Try.f43]) (by simp [Try.f43])
set_option maxRecDepth 100000 in
set_option maxHeartbeats 2000000 in
theorem mChoose1_is {m bc bx b2 c n xc yc : Nat} {xa ya : Option Addr} {Rs : Value → World → Prop} (hC : Calls Try.prog 32 #[.pointer (some ⟨m, 0, none⟩), .int .i64 c, .slice xa n xc, .slice ya n yc] w fun e w' => ∃ v, e = .returned v ∧ Rs v w')
    (c1 : w.cell? ⟨bc, 0, none⟩ = some (.int .i64 c)) (c2 : w.cell? ⟨bx, 0, none⟩ = some (.slice xa n xc)) (c3 : w.cell? ⟨b2, 0, none⟩ = some (.slice ya n yc)) :
    Calls Try.prog 43 (#[.pointer (some ⟨m, 0, none⟩)] ++ #[.pointer (some ⟨bc, 0, none⟩), .pointer (some ⟨bx, 0, none⟩), .pointer (some ⟨b2, 0, none⟩)]) w fun e w' => ∃ v, e = .returned v ∧ Rs v w' := by
  show Calls Try.prog 43 #[.pointer (some ⟨m, 0, none⟩), .pointer (some ⟨bc, 0, none⟩), .pointer (some ⟨bx, 0, none⟩), .pointer (some ⟨b2, 0, none⟩)] w _
  go_enter Try.func43, Try.ntmps43
  go_wp2_with fail
  refine hC.mono ?_
  rintro e w1 ⟨v, rfl, h⟩
  go_wp2_with fail
  go_ret
  exact ⟨_, rfl, h⟩
end
end Go.Proofs.Ytndcgfnlgcincaa
namespace Go.Proofs.Ytndcgfnlgcincaa
open Go.RowKit Go.Mem Go.Aig
theorem RS.nil (w : World) : RS w none 0 0 [] := ⟨rfl, Nat.le_refl _, by simp [intCells], by omega⟩
theorem RS.blk {w : World} {b n : Nat} {R : List Int} (h : Go.Mem.blk w b (intCells R)) (hn : R.length = n) (hm : n ≤ 1000000) : RS w (some ⟨b, 0, none⟩) n n R :=
  ⟨hn, Nat.le_refl _, fun j u hu => ⟨_, rfl, by rw [Addr.add_lit, Nat.zero_add]; exact h.cell hu⟩, hm⟩
theorem LS.one {w : World} {q b n c : Nat} {ws : List WV} (hq : w.cell? ⟨q, 0, none⟩ = some (.slice (some ⟨b, 0, none⟩) n c)) (hn : ws.length = n) (hw : ∀ i x, ws[i]? = some x → w.cell? ⟨b, i, none⟩ = some x.val ∧ WVok w x) : LS w q 1 [(b, c, ws)] := by
  subst hn
  refine ⟨rfl, fun j b' c' ws' hj => ?_, fun j b' c' ws' hj => ?_⟩ <;> rcases j with _ | j
  · cases hj; exact hq
  · simp at hj
  · cases hj; exact hw
  · simp at hj
theorem lsW_one (b c : Nat) (ws : List WV) : lsW [(b, c, ws)] = ws := by simp [lsW]
theorem at2 {w : World} {b : Nat} {x y : WV} (hb : blk w b [x.val, y.val]) (hx : WVok w x) (hy : WVok w y) : ∀ (i : Nat) (z : WV), [x, y][i]? = some z → w.cell? ⟨b, i, none⟩ = some z.val ∧ WVok w z := fun i z hz => by
  rcases i with _ | _ | i
  · cases hz; exact ⟨hb.cell rfl, hx⟩
  · cases hz; exact ⟨hb.cell rfl, hy⟩
  · simp at hz
theorem at1 {w : World} {b : Nat} {x : WV} (hb : blk w b [x.val]) (hx : WVok w x) : ∀ (i : Nat) (z : WV), [x][i]? = some z → w.cell? ⟨b, i, none⟩ = some z.val ∧ WVok w z := fun i z hz => by
  rcases i with _ | i
  · cases hz; exact ⟨hb.cell rfl, hx⟩
  · simp at hz
theorem WVin.blks {w W : World} {F : List Nat} {x : WV} (h : WVin w F x) (hc : Ch [] w W) {m : Nat} (hm : w.heap.size ≤ m) : ∀ k ∈ ablk x.a, k ∉ m :: F ∧ k < W.heap.size := fun k hk => by
  have h1 := (h.apart k hk)
  have h2 := hc.size
  simp only [List.mem_cons, not_or]
  exact ⟨⟨by omega, h1.1⟩, by omega⟩
section
variable {w : World} {g : Nat} {G : Gra} {F : List Nat}
set_option maxRecDepth 100000 in
set_option maxHeartbeats 4000000 in
theorem mChoose_is (h : GIn w g G F) (c : Int) (hc : I64' c) {x y : WV} (hx : WVin w F x) (hy : WVin w F y) :
    Calls Try.prog 14 #[.pointer (some ⟨g, 0, none⟩), .int .i64 c, x.val, y.val] w fun e w' => ∃ v, e = .returned (.tuple #[v, .int .i64 (chooseG G c x.l y.l).2.2]) ∧ GVo w g (chooseG G c x.l y.l).1 [] F v (chooseG G c x.l y.l).2.1 w' := by
  have hpos := h.ok.wf.pos
  have hroom := h.ok.room
  have hmost := h.ok.most
  have hL := fun (W : World) (hW : Ch [] w W) => Len_g (h.same hW (by simp))
  have hok := chk26_ok (G := G) (idx := []) (refs := [c]) (ws := [x.l, y.l])
  have hlt := chk26_lt G [] [c] [x.l, y.l]
  obtain ⟨cc, hcc⟩ : ∃ cc, chk26 G [] [c] [x.l, y.l] = cc := ⟨_, rfl⟩
  have hchk := fun (W : World) (q lb : Nat) (rb : Nat) (hW : Ch [] w W) (hq : blk W q [.slice (some ⟨lb, 0, none⟩) 2 2]) (hl : blk W lb [x.val, y.val]) (hr : blk W rb [.int .i64 c]) =>
    mcheck_is (h.same hW (by simp)) (LS.one (c := 2) (hq.cell (i := 0) rfl) rfl (at2 hl (hx.ch hW).ok (hy.ch hW).ok)) (n := 1) (c := 1) (by omega) (by rw [lsW_one]; simp) (by rw [lsW_one]; simp) (RS.nil W) (RS.blk (n := 1) (R := [c]) hr rfl (by omega)) (by omega) (by omega) (by intro z hz; simp at hz; subst hz; exact hc)
  simp only [lsW_one, List.map_cons, List.map_nil, hcc] at hchk
  unfold chooseG
  rw [hcc] at hok hlt ⊢
  have hxlen := hx.ok.len
  have hylen := hy.ok.len
  have hbuild : cc = 0 → ∀ (W1 : World), Ch [] w W1 → blk W1 w.heap.size [.int .i64 c] → blk W1 (w.heap.size + 1) [x.val] → blk W1 (w.heap.size + 2) [y.val] →
      Calls Try.prog 29 #[.pointer (some ⟨g, 0, none⟩), .func (.func 43) #[] #[.pointer (some ⟨w.heap.size, 0, none⟩), .pointer (some ⟨w.heap.size + 1, 0, none⟩), .pointer (some ⟨w.heap.size + 2, 0, none⟩)]] W1 fun e w' => ∃ v, e = .returned (.tuple #[v, .int .i64 (chF c.toNat (G, 0) ((nats x.l).zip (nats y.l))).1.2]) ∧ MB W1 g G F (chF c.toNat (G, 0) ((nats x.l).zip (nats y.l))).1 (PostW W1 (chF c.toNat (G, 0) ((nats x.l).zip (nats y.l))).2) mzW v w' := fun h0 W1 hW1 k1 k2 k3 => by
    obtain ⟨o1, o2, o3, _, o5⟩ := hok h0
    have hxw := o1 x.l (by simp)
    have hyw := o1 y.l (by simp)
    have hc0 : ((c.toNat : Nat) : Int) = c := by have := o5.cast; simpa [natInts, nats] using this
    have hcl : c.toNat < 2 * G.nodes.length := o5.lt c.toNat (by simp [nats])
    refine mbuildW_is (h.same hW1 (by simp)) 43 _ fnvmChoose1 (chF c.toNat (G, 0) ((nats x.l).zip (nats y.l))).1 _ (fun W m hm hW hM => ?_)
    have hall := hW1.trans hW (by simp)
    have hm2 : w.heap.size ≤ m := Nat.le_trans hW1.size hm
    have hn0 : ([x.l, y.l].headD []).length = x.l.length := rfl
    have hCH := mchoose_is hM (Sim.start hM.gin.ok) (c := c.toNat) hcl (x := nats x.l) (y := nats y.l) (xa := x.a) (ya := y.a) x.l.length x.c y.c (by simp) (by rw [nats_len, hyw.len]; rfl) (by have := o3 (by simp); rw [hn0] at this; omega)
      (by rw [show ((nats x.l).map fun (r : Nat) => (r : Int)) = x.l from hxw.cast]; exact (hx.ch hall).ok.sl) (by rw [show ((nats y.l).map fun (r : Nat) => (r : Int)) = y.l from hyw.cast]; exact (hy.ch hall).ok.sl) (hx.blks hall hm2) (hy.blks hall hm2) hxw.lt hyw.lt
    rw [hc0] at hCH
    have hyl : y.l.length = x.l.length := hyw.len
    have h1 := mChoose1_is (c := c.toNat) (n := x.l.length) (xa := x.a) (ya := y.a) (xc := x.c) (yc := y.c) (bc := w.heap.size) (bx := w.heap.size + 1) (b2 := w.heap.size + 2) (Rs := fun v w' => CH W g m G (G, 0) F (chF c.toNat (G, 0) ((nats x.l).zip (nats y.l))) x.l.length v w') (by rw [hc0]; exact hCH) (by rw [hc0]; exact (k1.ch hW (by simp)).cell (i := 0) rfl) ((k2.ch hW (by simp)).cell (i := 0) rfl) (by have := (k3.ch hW (by simp)).cell (i := 0) (v := y.val) rfl; unfold WV.val at this; rw [hyl] at this; exact this)
    refine h1.mono ?_
    rintro e W' ⟨v, rfl, hch⟩
    obtain ⟨P, F', q1, q2, q3, q4, q5, q6⟩ := hch.rw.post hW
    exact ⟨v, P, F', rfl, q1, q2, q3, q4, q5, q6⟩
  obtain ⟨S, hS⟩ : ∃ S, chF c.toNat (G, 0) ((nats x.l).zip (nats y.l)) = S := ⟨_, rfl⟩
  simp only [hS] at hbuild
  rw [hS]
  obtain ⟨xa, xl, xc⟩ := x
  obtain ⟨ya, yl, yc⟩ := y
  simp only [WV.val] at *
  have HL := Lib.hid hL; clear hL
  have HCHK := Lib.hid hchk; clear hchk
  have HBU := Lib.hid hbuild; clear hbuild
  have H := Lib.hid h; clear h
  have hn0 : ((G.nodes.length : Int) == 0) = false := beqN (by omega)
  clear hok hcc hS hx hy hc
  generalize hWW : (if cc ≠ 0 then (G, [], cc) else wres G S : Gra × List Nat × Nat) = WW
  have HWW := Lib.hid hWW; clear hWW
  go_enter Try.func14, Try.ntmps14
  go_upto_region 1 with fail
  refine wp_named fun W0 hW0 => ?_
  have hc0 : Ch [] w W0 := by rw [hW0]; exact (((Ch.refl _ _).alloc _).alloc _).alloc _
  have hb0 : blk W0 w.heap.size [.int .i64 c] := by rw [hW0]; exact ((blk.new' _ _ (by simp)).alloc _).alloc _
  have hb1 : blk W0 (w.heap.size + 1) [.slice xa xl.length xc] := by rw [hW0]; exact (blk.new' _ _ (by simp)).alloc _
  have hb2 : blk W0 (w.heap.size + 2) [.slice ya yl.length yc] := by rw [hW0]; exact blk.new' _ _ (by simp)
  clear hW0
  have hLL := HL.out W0 hc0
  have d0 := hb0.cell (i := 0) rfl
  have d1 := hb1.cell (i := 0) rfl
  have d2 := hb2.cell (i := 0) rfl
  have l0 := hb0.lt
  have l1 := hb1.lt
  have l2 := hb2.lt
  have HC0 := Lib.hid hc0; clear hc0
  have HB0 := Lib.hid hb0; clear hb0
  have HB1 := Lib.hid hb1; clear hb1
  have HB2 := Lib.hid hb2; clear hb2
  go_wp2_with fail
  refine hLL.mono ?_
  rintro e w' ⟨rfl, rfl⟩
  clear hLL
  go_wp2_with fail
  refine calls_named fun W1 hW1 => ?_
  have hc1 : Ch [] W0 W1 := by rw [hW1]; exact (((Ch.refl _ _).alloc _).alloc _).alloc _
  have e0 : blk W1 W0.heap.size [.int .i64 c] := by rw [hW1]; exact ((blk.new' _ _ (by simp)).alloc _).alloc _
  have e1 : blk W1 (W0.heap.size + 1) [.slice xa xl.length xc, .slice ya yl.length yc] := by rw [hW1]; exact (blk.new' _ _ (by simp)).alloc _
  have e2 : blk W1 (W0.heap.size + 1 + 1) [.slice (some ⟨W0.heap.size + 1, 0, none⟩) 2 2] := by rw [hW1]; exact blk.new' _ _ (by simp)
  clear hW1
  refine (HCHK.out W1 _ _ _ (HC0.out.trans hc1 (by simp)) e2 e1 e0).mono ?_
  rintro e w2 ⟨rfl, hc2⟩
  have hc02 := hc1.trans hc2 (by simp)
  have HC2 := Lib.hid (HC0.out.trans hc02 (by simp))
  have HB0' := Lib.hid (HB0.out.ch hc02 (by simp))
  have HB1' := Lib.hid (HB1.out.ch hc02 (by simp))
  have HB2' := Lib.hid (HB2.out.ch hc02 (by simp))
  clear e0 e1 e2 hc1 hc2 hc02 d0 d1 d2 HB0 HB1 HB2 HCHK
  by_cases hz : cc = 0
  · have hBB := HBU.out hz w2 HC2.out HB0'.out HB1'.out HB2'.out
    have hww := HWW.out
    rw [if_neg (by simp [hz])] at hww
    subst hz
    have HBB := Lib.hid hBB; clear hBB HBU
    have HW2 := Lib.hid hww; clear hww
    go_wp2_with fail
    refine HBB.out.mono ?_
    rintro e w3 ⟨v, rfl, hmb⟩
    have hgv := MB.gvo HC2.out hmb
    rw [HW2.out] at hgv
    have HGV := Lib.hid hgv; clear hgv hmb
    go_wp2_with fail
    go_ret2
    exact ⟨_, by rw [← HW2.out, wres_e]; rfl, HGV.out⟩
  · have hq : ((cc : Int) != 0) = true := by simp; omega
    have hww := HWW.out
    rw [if_pos hz] at hww
    have HW2 := Lib.hid hww; clear hww
    have HZ := Lib.hid hz; clear hz
    go_wp2_with fail
    go_ret2
    exact ⟨_, by rw [← HW2.out]; rfl, by rw [← HW2.out]; exact GVo.none H.out HC2.out⟩
end
end Go.Proofs.Ytndcgfnlgcincaa
namespace Go.Aig
def readG (G : Gra) (L : List (List Int)) (y : List Int) : Gra × List Nat × Nat :=
  if array26 L.length = false then (G, [], 261) else if right26 y.length = false then (G, [], 260) else if chk26 G y [] L ≠ 0 then (G, [], chk26 G y [] L)
  else wres G (readF G (L.map nats) (nats y) y.length (L.headD []).length (fitN L.length y.length))
end Go.Aig
namespace Go.Proofs.Ytndcgfnlgcincaa
open Go.RowKit Go.Mem Go.Aig
structure WA (w : World) (F : List Nat) (la : Option Addr) (nl : Nat) (L : List WV) : Prop where
  len : L.length = nl
  at_ : 1 ≤ nl → ∃ lb, la = some ⟨lb, 0, none⟩ ∧ WL w F lb nl L
theorem WL.up {w W : World} {F : List Nat} {lb n m : Nat} {L : List WV} (h : WL w F lb n L) (hc : Ch [] w W) (hm : w.heap.size ≤ m) : WL W (m :: F) lb n L := by
  have h2 := h.ch hc
  have hlt := h.apart.2
  refine ⟨h2.len, h2.cells, fun x hx => ⟨(h2.words x hx).ok, fun k hk => ?_⟩, ?_, h2.apart.2⟩
  · exact (h.words x hx).blks hc hm k hk
  · simp only [List.mem_cons, not_or]
    exact ⟨by omega, h2.apart.1⟩
theorem RS.wv {w : World} {F : List Nat} {x : WV} (h : WVin w F x) (hle : x.l.length ≤ x.c) : RS w x.a x.l.length x.c x.l :=
  ⟨rfl, hle, fun j u hu => by
    unfold intCells at hu
    rw [List.getElem?_map] at hu
    cases hz : x.l[j]? with
    | none => rw [hz] at hu; cases hu
    | some z =>
      rw [hz] at hu
      cases hu
      obtain ⟨b, o, e, hc⟩ := h.ok.sl.cells j z hz
      exact ⟨_, e, by rw [Addr.add_lit]; exact hc⟩, h.ok.len⟩
theorem WL.ls {w : World} {F : List Nat} {q lb n c : Nat} {L : List WV} (h : WL w F lb n L) (hq : w.cell? ⟨q, 0, none⟩ = some (.slice (some ⟨lb, 0, none⟩) n c)) : LS w q 1 [(lb, c, L)] :=
  LS.one hq h.len (fun i x hx => ⟨h.cells i x hx, (h.words x (List.mem_of_getElem? hx)).ok⟩)
section
variable {w : World} {g : Nat} {G : Gra} {F : List Nat}
set_option maxRecDepth 100000 in
set_option maxHeartbeats 4000000 in
theorem mRead_is [Nonempty Unit] (h : GIn w g G F) {la : Option Addr} {nl lc : Nat} {Ls : List WV} (hA : WA w F la nl Ls) {y : WV} (hy : WVin w F y) (hyc : y.l.length ≤ y.c) :
    Calls Try.prog 10 #[.pointer (some ⟨g, 0, none⟩), .slice la nl lc, y.val] w fun e w' => ∃ v, e = .returned (.tuple #[v, .int .i64 (readG G (Ls.map WV.l) y.l).2.2]) ∧ GVo w g (readG G (Ls.map WV.l) y.l).1 [] F v (readG G (Ls.map WV.l) y.l).2.1 w' := by
  have hpos := h.ok.wf.pos
  have hroom := h.ok.room
  have hmost := h.ok.most
  have hL := fun (W : World) (hW : Ch [] w W) => Len_g (h.same hW (by simp))
  have hAr := fun (W : World) => marray_is (w := W) nl
  have hRr := fun (W : World) => mright_is (w := W) y.l.length
  have hok := chk26_ok (G := G) (idx := y.l) (refs := []) (ws := Ls.map WV.l)
  have hlt := chk26_lt G y.l [] (Ls.map WV.l)
  have hlen := hA.len
  have hll : (Ls.map WV.l).length = nl := by rw [List.length_map]; exact hlen
  unfold readG
  rw [hll]
  obtain ⟨cc, hcc⟩ : ∃ cc, chk26 G y.l [] (Ls.map WV.l) = cc := ⟨_, rfl⟩
  rw [hcc] at hok hlt ⊢
  obtain ⟨S, hS⟩ : ∃ S, readF G ((Ls.map WV.l).map nats) (nats y.l) y.l.length ((Ls.map WV.l).headD []).length (fitN nl y.l.length) = S := ⟨_, rfl⟩
  rw [hS]
  generalize hWW : (if array26 nl = false then (G, [], 261) else if right26 y.l.length = false then (G, [], 260) else if cc ≠ 0 then (G, [], cc) else wres G S : Gra × List Nat × Nat) = WW
  have hylen := hy.ok.len
  cases ha : array26 nl
  · rw [ha, if_pos rfl] at hWW
    simp only [ha] at hAr
    subst hWW
    obtain ⟨ya, yl, yc⟩ := y
    simp only [WV.val] at *
    clear hok hcc hS hRr hA
    have HL := Lib.hid hL; clear hL
    have HAR := Lib.hid hAr; clear hAr
    have H := Lib.hid h; clear h
    have hn0 : ((G.nodes.length : Int) == 0) = false := beqN (by omega)
    go_enter Try.func10, Try.ntmps10
    go_upto_region 1 with fail
    refine wp_named fun W0 hW0 => ?_
    have hc0 : Ch [] w W0 := by rw [hW0]; exact ((Ch.refl _ _).alloc _).alloc _
    have hb0 : blk W0 w.heap.size [.slice la nl lc] := by rw [hW0]; exact (blk.new' _ _ (by simp)).alloc _
    have d0 := hb0.cell (i := 0) rfl
    clear hW0 hb0
    have hLL := HL.out W0 hc0
    have HC0 := Lib.hid hc0; clear hc0
    go_wp2_with fail
    refine hLL.mono ?_
    rintro e w' ⟨rfl, rfl⟩
    clear hLL
    go_wp2_with fail
    refine (HAR.out _).mono ?_
    rintro e w' ⟨rfl, rfl⟩
    go_wp2_with fail
    go_ret2
    exact ⟨_, rfl, GVo.none H.out HC0.out⟩
  · rw [ha, if_neg (by simp)] at hWW
    simp only [ha] at hAr
    have hnl : 1 ≤ nl ∧ nl ≤ 256 := by unfold array26 at ha; simp at ha; omega
    obtain ⟨lb, rfl, hWL⟩ := hA.at_ hnl.1
    cases hr : right26 y.l.length
    · rw [hr, if_pos rfl] at hWW
      simp only [hr] at hRr
      subst hWW
      obtain ⟨ya, yl, yc⟩ := y
      simp only [WV.val] at *
      clear hok hcc hS hA hWL
      have HL := Lib.hid hL; clear hL
      have HAR := Lib.hid hAr; clear hAr
      have HRR := Lib.hid hRr; clear hRr
      have H := Lib.hid h; clear h
      have hn0 : ((G.nodes.length : Int) == 0) = false := beqN (by omega)
      go_enter Try.func10, Try.ntmps10
      go_upto_region 1 with fail
      refine wp_named fun W0 hW0 => ?_
      have hc0 : Ch [] w W0 := by rw [hW0]; exact ((Ch.refl _ _).alloc _).alloc _
      have hb0 : blk W0 w.heap.size [.slice (some ⟨lb, 0, none⟩) nl lc] := by rw [hW0]; exact (blk.new' _ _ (by simp)).alloc _
      have hb1 : blk W0 (w.heap.size + 1) [.slice ya yl.length yc] := by rw [hW0]; exact blk.new' _ _ (by simp)
      have d0 := hb0.cell (i := 0) rfl
      have d1 := hb1.cell (i := 0) rfl
      clear hW0 hb0 hb1
      have hLL := HL.out W0 hc0
      have HC0 := Lib.hid hc0; clear hc0
      go_wp2_with fail
      refine hLL.mono ?_
      rintro e w' ⟨rfl, rfl⟩
      clear hLL
      go_wp2_with fail
      refine (HAR.out _).mono ?_
      rintro e w' ⟨rfl, rfl⟩
      go_wp2_with fail
      refine (HRR.out _).mono ?_
      rintro e w' ⟨rfl, rfl⟩
      go_wp2_with fail
      go_ret2
      exact ⟨_, rfl, GVo.none H.out HC0.out⟩
    · rw [hr, if_neg (by simp)] at hWW
      simp only [hr] at hRr
      have hyb : 1 ≤ y.l.length ∧ y.l.length ≤ 16 := by unfold right26 at hr; simp at hr; omega
      have hchk := fun (W : World) (q : Nat) (hW : Ch [] w W) (hq : blk W q [.slice (some ⟨lb, 0, none⟩) nl lc]) =>
        mcheck_is (h.same hW (by simp)) ((hWL.ch hW).ls (hq.cell (i := 0) rfl)) (n := 1) (c := 1) (by omega) (by rw [lsW_one]; omega) (by rw [lsW_one]; omega) (RS.wv (hy.ch hW) hyc) (RS.nil W) (by omega) (by omega) (by intro z hz; simp at hz; exact hy.ok.bd z hz)
      simp only [lsW_one, hcc] at hchk
      have hbuild : cc = 0 → ∀ (W1 : World), Ch [] w W1 → blk W1 w.heap.size [.slice (some ⟨lb, 0, none⟩) nl lc] → blk W1 (w.heap.size + 1) [y.val] →
          Calls Try.prog 29 #[.pointer (some ⟨g, 0, none⟩), .func (.func 30) #[] #[.pointer (some ⟨w.heap.size, 0, none⟩), .pointer (some ⟨w.heap.size + 1, 0, none⟩)]] W1 fun e w' => ∃ v, e = .returned (.tuple #[v, .int .i64 S.1.2]) ∧ MB W1 g G F S.1 (PostW W1 S.2) mzW v w' := fun h0 W1 hW1 k1 k2 => by
        obtain ⟨o1, o2, o3, o4, _⟩ := hok h0
        have hne : Ls.map WV.l ≠ [] := fun e => by rw [e] at hll; simp at hll; omega
        refine mbuildW_is (h.same hW1 (by simp)) 30 _ fnvmRead1 S.1 _ (fun W m hm hW hM => ?_)
        have hall := hW1.trans hW (by simp)
        have hm2 : w.heap.size ≤ m := Nat.le_trans hW1.size hm
        have hyw : WVin W (m :: F) ⟨y.a, natInts (nats y.l), y.c⟩ := by
          rw [o4.cast]
          exact ⟨(hy.ch hall).ok, hy.blks hall hm2⟩
        have hc1 := (k1.ch hW (by simp)).cell (i := 0) rfl
        have hc2 := (k2.ch hW (by simp)).cell (i := 0) (v := y.val) rfl
        unfold WV.val at hc2
        have l1 := k1.lt
        have l2 := k2.lt
        have hnF : ∀ b, w.heap.size ≤ b → b < W1.heap.size → b ∉ m :: F := fun b hb hb2 hin => by
          simp only [List.mem_cons] at hin
          rcases hin with e | hin
          · omega
          · have := h.lt b hin; omega
        have h1 := mRead1_is hM (Ls := Ls) (lc := lc) (width := ((Ls.map WV.l).headD []).length) (hWL.up hall hm2) (fun x hx => o1 x.l (List.mem_map.2 ⟨x, hx, rfl⟩)) hnl (o3 hne) hyw (by rw [nats_len]) hyb.1 hyb.2 o4.lt rfl hc1 hc2 (hnF _ (by omega) l1) (hnF _ (by omega) l2)
        rw [show (Ls.map fun x => nats x.l) = (Ls.map WV.l).map nats by rw [List.map_map]; rfl, hS] at h1
        refine h1.mono ?_
        rintro e W' ⟨v, rfl, hrw⟩
        obtain ⟨P, F', q1, q2, q3, q4, q5, q6⟩ := hrw.post hW
        exact ⟨v, P, F', rfl, q1, q2, q3, q4, q5, q6⟩
      obtain ⟨ya, yl, yc⟩ := y
      simp only [WV.val] at *
      clear hok hcc hS hA hWL
      have HL := Lib.hid hL; clear hL
      have HAR := Lib.hid hAr; clear hAr
      have HRR := Lib.hid hRr; clear hRr
      have HCHK := Lib.hid hchk; clear hchk
      have HBU := Lib.hid hbuild; clear hbuild
      have H := Lib.hid h; clear h
      have HWW := Lib.hid hWW; clear hWW
      have hn0 : ((G.nodes.length : Int) == 0) = false := beqN (by omega)
      clear hy
      go_enter Try.func10, Try.ntmps10
      go_upto_region 1 with fail
      refine wp_named fun W0 hW0 => ?_
      have hc0 : Ch [] w W0 := by rw [hW0]; exact ((Ch.refl _ _).alloc _).alloc _
      have hb0 : blk W0 w.heap.size [.slice (some ⟨lb, 0, none⟩) nl lc] := by rw [hW0]; exact (blk.new' _ _ (by simp)).alloc _
      have hb1 : blk W0 (w.heap.size + 1) [.slice ya yl.length yc] := by rw [hW0]; exact blk.new' _ _ (by simp)
      have d0 := hb0.cell (i := 0) rfl
      have d1 := hb1.cell (i := 0) rfl
      have l0 := hb0.lt
      have l1 := hb1.lt
      clear hW0
      have hLL := HL.out W0 hc0
      have HC0 := Lib.hid hc0; clear hc0
      have HB0 := Lib.hid hb0; clear hb0
      have HB1 := Lib.hid hb1; clear hb1
      go_wp2_with fail
      refine hLL.mono ?_
      rintro e w' ⟨rfl, rfl⟩
      clear hLL
      go_wp2_with fail
      refine (HAR.out _).mono ?_
      rintro e w' ⟨rfl, rfl⟩
      go_wp2_with fail
      refine (HRR.out _).mono ?_
      rintro e w' ⟨rfl, rfl⟩
      go_wp2_with fail
      refine calls_named fun W1 hW1 => ?_
      have hc1 := alw_ch hW1
      have e1 := alw_blk (xs := [.slice (some ⟨lb, 0, none⟩) nl lc]) hW1
      clear hW1
      refine (HCHK.out W1 _ (HC0.out.trans hc1 (by simp)) e1).mono ?_
      rintro e w2 ⟨rfl, hc2⟩
      have hc02 := hc1.trans hc2 (by simp)
      have HC2 := Lib.hid (HC0.out.trans hc02 (by simp))
      have HB0' := Lib.hid (HB0.out.ch hc02 (by simp))
      have HB1' := Lib.hid (HB1.out.ch hc02 (by simp))
      clear e1 hc1 hc2 hc02 d0 d1 HB0 HB1 HCHK
      by_cases hz : cc = 0
      · have hBB := HBU.out hz w2 HC2.out HB0'.out HB1'.out
        have hww := HWW.out
        rw [if_neg (by simp [hz])] at hww
        subst hz
        have HBB := Lib.hid hBB; clear hBB HBU
        have HW2 := Lib.hid hww; clear hww
        go_wp2_with fail
        refine HBB.out.mono ?_
        rintro e w3 ⟨v, rfl, hmb⟩
        have hgv := MB.gvo HC2.out hmb
        rw [HW2.out] at hgv
        have HGV := Lib.hid hgv; clear hgv hmb
        go_wp2_with fail
        go_ret2
        exact ⟨_, by rw [← HW2.out, wres_e]; rfl, HGV.out⟩
      · have hq : ((cc : Int) != 0) = true := by simp; omega
        have hww := HWW.out
        rw [if_pos hz] at hww
        have HW2 := Lib.hid hww; clear hww
        have HZ := Lib.hid hz; clear hz
        go_wp2_with fail
        go_ret2
        exact ⟨_, by rw [← HW2.out]; rfl, by rw [← HW2.out]; exact GVo.none H.out HC2.out⟩
end
end Go.Proofs.Ytndcgfnlgcincaa
namespace Go.Aig
def bwd (l : List Nat) : List (Nat × Nat) := (List.range l.length).reverse.map fun i => (i, l.getD i 0)
theorem bwd_len (l : List Nat) : (bwd l).length = l.length := by simp [bwd]
theorem bwd_at {l : List Nat} {k j r : Nat} (hk : k + j + 1 = l.length) (hr : l[j]? = some r) : (bwd l)[k]? = some (j, r) := by
  unfold bwd
  rw [List.getElem?_map, List.getElem?_reverse (by simp; omega), List.length_range, List.getElem?_range (by omega), show l.length - 1 - k = j by omega]
  show some (j, l.getD j 0) = _
  rw [List.getD_eq_getElem?_getD, hr]
  rfl
end Go.Aig
namespace Go.Proofs.Ytndcgfnlgcincaa
open Go.RowKit Go.Mem Go.Aig
theorem fnvBwref1 : Fnv 69 := fnv_of Try.func69 (by simp [Try.f69]) (by simp [Try.f69])
set_option maxRecDepth 100000 in
set_option maxHeartbeats 2000000 in
theorem Bw_seq (w : World) (F : Fence) (n : Nat) (hf : F.fn 69) (hro : F.round = none) (hn : 1 ≤ n) {bx : Nat} {xa : Option Addr} {x : List Nat} (len xc : Nat) (hxl : x.length = len) (hbx : w.cell? ⟨bx, 0, none⟩ = some (.slice xa len xc)) (hx : Sl w xa (x.map fun (r : Nat) => (r : Int))) :
    SeqP F n Try.prog 69 #[.pointer (some ⟨bx, 0, none⟩)] fitEnc (bx :: ablk xa) (bwd x) w := by
  subst hxl
  intro lp J Jx W hK hJ hJx hY h0
  have hbd := hx.bd
  rw [List.length_map] at hbd
  show CallsIn F n Try.prog 69 #[.func (.yield lp) #[] #[], .pointer (some ⟨bx, 0, none⟩)] W _
  have HY := Lib.hid hY; clear hY
  have HJ := Lib.hid hJ; clear hJ
  have HJX := Lib.hid hJx; clear hJx
  have H0 := Lib.hid h0; clear h0
  have HK := Lib.hid hK; clear hK
  have HX := Lib.hid hx; clear hx
  have HBX := Lib.hid hbx; clear hbx
  have bx1 := keep_cell (HK.out bx (by simp)) HBX.out
  refine callsIn_of_wp Try.func69 rfl hf ?_ hro
  simp only [Try.ntmps69, List.size_toArray, List.length_cons, List.length_nil, Nat.reduceAdd, Nat.reduceSub, Array.replicate_succ, Array.replicate_zero, List.push_toArray, List.append_toArray, List.nil_append, List.cons_append]
  gi_wp2
  clear bx1
  gi_loopw [3] (fun i wr => ∃ j : Nat, j ≤ x.length ∧ i = .int .i64 ((j : Int) - 1) ∧ (∀ q ∈ bx :: ablk xa, wr.heap[q]? = w.heap[q]?) ∧ J ((bwd x).take (x.length - j)) wr) (fun i _ => (intOf i + 1).toNat)
  case atStart => exact ⟨x.length, Nat.le_refl _, rfl, HK.out, by rw [Nat.sub_self]; exact H0.out⟩
  case round =>
    obtain ⟨j, hj, rfl, hq, hjj⟩ := hrel
    by_cases hlt : j = 0
    · subst hlt
      have hkl : (bwd x).take (x.length - 0) = bwd x := List.take_of_length_le (by rw [bwd_len]; omega)
      rw [hkl] at hjj
      have HJ1 := Lib.hid hjj; clear hjj
      clear hkl
      gi_wp2
      go_end0
      exact ⟨⟨_, rfl⟩, .inl HJ1.out⟩
    · obtain ⟨i, rfl⟩ : ∃ i, j = i + 1 := ⟨j - 1, by omega⟩
      have ei : ((i + 1 : Nat) : Int) - 1 = (i : Int) := by omega
      rw [ei]
      obtain ⟨r, hr⟩ : ∃ r, x[i]? = some r := ⟨_, List.getElem?_eq_getElem (by omega)⟩
      obtain ⟨xb, xo, rfl, hxc⟩ := HX.out.cells i (r : Int) (by simp [hr])
      have d0 := keep_cell (hq xb (by simp [ablk])) hxc
      have e0 := keep_cell (hq bx (by simp)) HBX.out
      have hz : (bwd x)[x.length - (i + 1)]? = some (i, r) := bwd_at (by omega) hr
      have hsu : (bwd x).take (x.length - i) = (bwd x).take (x.length - (i + 1)) ++ [(i, r)] := by
        rw [show x.length - i = (x.length - (i + 1)) + 1 by omega, List.take_add_one, hz]; rfl
      obtain ⟨fn, tmps, assign, body, hy1, hR⟩ := HY.out _ (i, r) _ hjj (by rw [← hsu]; exact List.take_prefix _ _)
      simp only [fitEnc] at hy1
      have hge : decide ((i : Int) ≥ 0) = true := decide_eq_true (by omega)
      have HQ := Lib.hid hq; clear hq
      have HJ1 := Lib.hid hjj; clear hjj
      have HSU := Lib.hid hsu; clear hsu
      clear hr hxc hz ei hlt
      gi_wp2
      refine hR.mono ?_
      rintro e W2 (⟨rfl, hJ2, hk2⟩ | ⟨rfl, hJ2⟩)
      · have HJ2 := Lib.hid hJ2; clear hJ2
        have HK2 := Lib.hid hk2; clear hk2
        gi_wp2
        go_roundw
        case rel => exact ⟨i, by omega, by go_num, fun q hq => (HK2.out q hq).trans (HQ.out q hq), by rw [HSU.out]; exact HJ2.out⟩
        case measure => simp [intOf]
      · have HJ2 := Lib.hid hJ2; clear hJ2
        gi_wp2
        refine bodyPost_ret (results_none rfl _ _ _) rfl ?_
        exact ⟨⟨_, rfl⟩, .inr HJ2.out⟩
set_option maxRecDepth 100000 in
set_option maxHeartbeats 1000000 in
theorem Bwref_is {w : World} (xa : Option Addr) (n xc : Nat) :
    Calls Try.prog 42 #[.slice xa n xc] w fun e w' => e = .returned (.func (.func 69) #[] #[.pointer (some ⟨w.heap.size, 0, none⟩)]) ∧ w' = w.alloc (.cells #[.slice xa n xc] 25) := by
  go_enter Try.func42, Try.ntmps42
  go_wp2_with fail
  go_ret
  exact ⟨rfl, rfl⟩
end Go.Proofs.Ytndcgfnlgcincaa
namespace Go.Aig
def pickS (L : List (List Nat)) (q : Mk × List Nat) (p : Nat × Nat) : Mk × List Nat := chF p.2 q.1 ((L.getD p.1 []).zip q.2)
def pickF (L : List (List Nat)) (s : Mk × List Nat) (l : List (Nat × Nat)) : Mk × List Nat := l.foldl (pickS L) s
theorem pickF_snoc (L : List (List Nat)) (s : Mk × List Nat) (l : List (Nat × Nat)) (p : Nat × Nat) : pickF L s (l ++ [p]) = pickS L (pickF L s l) p := by unfold pickF; rw [List.foldl_append]; rfl
end Go.Aig
namespace Go.Proofs.Ytndcgfnlgcincaa
open Go.RowKit Go.Mem Go.Aig
attribute [local go_sem] Oper.semAt_some
theorem fnvmPick1 : Fnv 41 := fnv_of Try.func41 (by simp [Try.f41]) (by simp [Try.f41])
theorem CH.chs {W : World} {g m : Nat} {G : Gra} {P : Mk} {F' : List Nat} {S : Mk × List Nat} {n ob : Nat} {v u : Value} {w1 : World} (h : CH W g m G P F' S n v w1) : Ch (m :: ob :: F') W (w1.setCell ⟨ob, 0, none⟩ u) := by
  obtain ⟨_, _, _, _, _, _, _, F1, _, hc1, _⟩ := h
  have hcs : Ch [ob] w1 (w1.setCell ⟨ob, 0, none⟩ u) := (Ch.refl _ _).setCell (by simp) _
  exact (hc1.mono (F' := m :: ob :: F') (fun k hk => .inl (by simp only [List.nil_append, List.mem_cons] at hk ⊢; exact hk.imp id .inr))).trans hcs (fun k hk => .inl (by simp at hk; simp [hk]))
theorem CH.cong {W : World} {g m : Nat} {G : Gra} {P : Mk} {F' : List Nat} {S S' : Mk × List Nat} {n : Nat} {v : Value} {w1 : World} (h : CH W g m G P F' S n v w1) (e1 : S'.1 = S.1) (e2 : S.1.2 = 0 → S'.2 = S.2) : CH W g m G P F' S' n v w1 := by
  obtain ⟨P', l, h1, h2, h3⟩ := h
  exact ⟨P', l, by rw [e1]; exact h1, fun h0 => by rw [e1] at h0; rw [e2 h0]; exact h2 h0, h3⟩
def PInv (W0 : World) (lo g m : Nat) (G : Gra) (F : List Nat) (ob width : Nat) (Q : Mk × List Nat) (W : World) : Prop := ∃ va vc P l F', RI W0 lo g m G F ob width Q.1 Q.2 W (.slice va width vc) P l F'
theorem bwd_mem {l : List Nat} {p : Nat × Nat} (h : p ∈ bwd l) : p.1 < l.length ∧ p.2 ∈ l := by
  unfold bwd at h
  obtain ⟨i, hi, rfl⟩ := List.mem_map.1 h
  have h2 : i < l.length := by simpa using hi
  refine ⟨h2, ?_⟩
  show l.getD i 0 ∈ l
  rw [List.getD_eq_getElem?_getD, List.getElem?_eq_getElem h2]
  exact List.getElem_mem h2
section
variable {w : World} {g m : Nat} {G : Gra} {F : List Nat}
set_option maxRecDepth 100000 in
set_option maxHeartbeats 4000000 in
theorem mPick1_is (h : MIn w g m (G, 0) F) {Ls : List WV} {lb nl lc n gc width : Nat} {gs : List Nat} {ga : Option Addr} (hL : WL w (m :: F) lb nl Ls) (hW : ∀ x ∈ Ls, WOf G width x.l) (hnl : 1 ≤ nl ∧ nl ≤ 256) (hw : width ≤ 16)
    (hg : WVin w (m :: F) ⟨ga, natInts gs, gc⟩) (hgl : gs.length = n) (hn : n + 1 = nl) (hgr : ∀ r ∈ gs, r < 2 * G.nodes.length)
    {bl b2 : Nat} (hbl : w.cell? ⟨bl, 0, none⟩ = some (.slice (some ⟨lb, 0, none⟩) nl lc)) (hby : w.cell? ⟨b2, 0, none⟩ = some (.slice ga n gc)) (hblF : bl ∉ m :: F) (hbyF : b2 ∉ m :: F) :
    Calls Try.prog 41 (#[.pointer (some ⟨m, 0, none⟩)] ++ #[.pointer (some ⟨bl, 0, none⟩), .pointer (some ⟨b2, 0, none⟩)]) w fun e W' => ∃ v, e = .returned v ∧ RW w g m G F (pickF (Ls.map fun x => nats x.l) ((G, 0), (Ls.map fun x => nats x.l).getD n []) (bwd gs)) v W' := by
  show Calls Try.prog 41 #[.pointer (some ⟨m, 0, none⟩), .pointer (some ⟨bl, 0, none⟩), .pointer (some ⟨b2, 0, none⟩)] w _
  have hml := h.bk.lt
  have hFl := h.gin.lt
  have hok := h.gin.ok
  have hpos := hok.wf.pos
  obtain ⟨x0, hx0⟩ : ∃ x, Ls[n]? = some x := ⟨_, List.getElem?_eq_getElem (by rw [hL.len]; omega)⟩
  have hx0m := List.mem_of_getElem? hx0
  have hc00 := hL.cells n x0 hx0
  have hx0w := hW x0 hx0m
  have hx0v := hL.words x0 hx0m
  obtain ⟨LN, hLN⟩ : ∃ LN, LN = Ls.map fun x => nats x.l := ⟨_, rfl⟩
  rw [← hLN]
  have hLg : ∀ i x, Ls[i]? = some x → LN.getD i [] = nats x.l := fun i x hx => by rw [hLN, List.getD_eq_getElem?_getD, List.getElem?_map, hx]; rfl
  rw [hLg n x0 hx0]
  have hCl := fun (W : World) (hW : Ch [] w W) => Clref_w (hx0v.ch hW).ok width hx0w.len
  unfold WV.val at hc00
  rw [hx0w.len] at hc00
  have H := Lib.hid h; clear h
  have HL := Lib.hid hL; clear hL
  have HW := Lib.hid hW; clear hW
  have HGW := Lib.hid hg; clear hg
  have HLG := Lib.hid hLg; clear hLg
  have hbllt := cell_lt hbl
  have hbylt := cell_lt hby
  have hlblt := cell_lt hc00
  simp only at hbllt hbylt hlblt
  have HBL := Lib.hid hbl
  have HBY := Lib.hid hby
  have HOK := Lib.hid hok; clear hok
  have HX0 := Lib.hid hx0w; clear hx0w hx0v hx0m hx0
  have HCLN := Lib.hid hCl; clear hCl
  obtain ⟨x0a, x0l, x0c⟩ := x0
  simp only at hc00 HX0 HCLN
  obtain ⟨RQ, hRQ⟩ : ∃ RQ : List (Nat × Nat) → Mk × List Nat, ∀ l, RQ l = pickF LN ((G, 0), nats x0l) l := ⟨_, fun _ => rfl⟩
  have hR0 : RQ [] = ((G, 0), nats x0l) := by rw [hRQ]; rfl
  have hRS : ∀ l p, RQ (l ++ [p]) = pickS LN (RQ l) p := fun l p => by rw [hRQ, hRQ, pickF_snoc]
  rw [← hRQ]
  have HR0 := Lib.hid hR0; clear hR0
  have HRS := Lib.hid hRS; clear hRS
  clear hLN hRQ
  have en : (nl : Int) - 1 = (n : Int) := by omega
  refine (callsIn_wide (n := 4)).1 ?_
  refine callsIn_of_wp_marks Try.func41 rfl trivial ?_ rfl
  simp only [Try.ntmps41, List.size_toArray, List.length_cons, List.length_nil, Nat.reduceAdd, Nat.reduceSub, Array.replicate_succ, Array.replicate_zero, List.push_toArray, List.append_toArray, List.nil_append, List.cons_append]
  refine wpIn_wide.2 ?_
  go_wp2_with fail
  refine calls_named fun W1 hW1 => ?_
  have hc1 := alw_ch hW1
  have hbm := alw_blk (xs := [.pointer (some ⟨m, 0, none⟩)]) hW1
  clear hW1
  have hbl1 := (hc1.cell (cell_lt hbl) (by simp)).trans hbl
  have hby1 := (hc1.cell (cell_lt hby) (by simp)).trans hby
  clear hbl hby hc00
  refine (HCLN.out W1 hc1).mono ?_
  rintro e W2 ⟨v, rfl, hrow, hown, hc2⟩
  have e1 : (intCells x0l).length = width := by rw [show (intCells x0l).length = x0l.length by simp [intCells]]; exact HX0.out.len
  rw [e1] at hrow
  obtain ⟨va0, vc0, rfl⟩ := row.shape hrow
  have hbm2 := hbm.ch hc2 (by simp)
  have hbl2 := (hc2.cell (cell_lt hbl1) (by simp)).trans hbl1
  have hby2 := (hc2.cell (cell_lt hby1) (by simp)).trans hby1
  have hbml := hbm.lt
  clear hbm hbl1 hby1 e1
  have HROW := Lib.hid hrow; clear hrow
  have HOWN := Lib.hid hown; clear hown
  have HBM := Lib.hid hbm2; clear hbm2
  have HC1 := Lib.hid hc1; clear hc1
  have HC2 := Lib.hid hc2; clear hc2
  have HBL2 := Lib.hid hbl2; clear hbl2
  have HBY2 := Lib.hid hby2; clear hby2
  go_upto_region 2 with fail
  refine wp_named fun W3 hW3 => ?_
  have hc3 : Ch [] W2 W3 := by rw [hW3]; exact (Ch.refl _ _).alloc _
  have hbo : blk W3 W2.heap.size [.slice va0 width vc0] := by rw [hW3]; exact blk.new' _ _ (by simp)
  clear hW3
  have c_l := (hc3.cell (cell_lt HBL2.out) (by simp)).trans HBL2.out
  have c_y := (hc3.cell (cell_lt HBY2.out) (by simp)).trans HBY2.out
  generalize hob : W2.heap.size = ob at *
  have HOB0 := Lib.hid hob; clear hob
  have HC3 := Lib.hid hc3; clear hc3
  have HBO := Lib.hid hbo; clear hbo
  go_wp2_with fail
  refine (Bwref_is ga n gc).mono ?_
  rintro e W0 ⟨rfl, hW0⟩
  have hc0 : Ch [] W3 W0 := alw_ch hW0
  have hbw := alw_blk (xs := [.slice ga n gc]) hW0
  have hcw : Ch [] w W0 := ((HC1.out.trans HC2.out (by simp)).trans HC3.out (by simp)).trans hc0 (by simp)
  have hz3 := HC3.out.size
  have hz2 := HC2.out.size
  have hz1 := HC1.out.size
  have hbw1 := hbw.lt
  have hbo0 := HBO.out.ch hc0 (by simp)
  have hobl := HBO.out.lt
  have hr0 := ((HROW.out.ch HC3.out (by simp)).ch hc0 (by simp))
  have hbm0 := (HBM.out.ch HC3.out (by simp)).ch hc0 (by simp)
  have hobe := HOB0.out
  have hob1 : w.heap.size < ob := by omega
  have hob2 : ob < W0.heap.size := by have := hc0.size; omega
  have hbwn : W3.heap.size ≠ ob := by omega
  have hbwl : w.heap.size ≤ W3.heap.size := by omega
  clear hW0 c_l c_y hobe hz1 hz2 hz3
  go_wp2_with fail
  generalize W3.heap.size = bw at *
  have key : ∀ k, k < w.heap.size → k ∉ m :: F → k ∉ m :: ob :: F := fun k hk hn => by
    simp only [List.mem_cons, not_or] at hn ⊢
    exact ⟨hn.1, by omega, hn.2⟩
  have hFR : FR W0 m F ob := ⟨fun k hk => by
    have hz := hcw.size
    simp only [List.mem_cons] at hk
    rcases hk with rfl | hk
    · omega
    · have := hFl k hk; omega, hob2, by omega, fun hin => by have := hFl _ hin; omega⟩
  have hL0 : WL W0 (m :: ob :: F) lb nl Ls := by
    have h0 := HL.out.ch hcw
    exact ⟨h0.len, h0.cells, fun x hx => ⟨(h0.words x hx).ok, fun k hk => ⟨key k ((HL.out.words x hx).apart k hk).2 ((h0.words x hx).apart k hk).1, ((h0.words x hx).apart k hk).2⟩⟩, key _ HL.out.apart.2 h0.apart.1, h0.apart.2⟩
  have hG0 : WVin W0 (m :: ob :: F) ⟨ga, natInts gs, gc⟩ := ⟨(HGW.out.ch hcw).ok, fun k hk => ⟨key k (HGW.out.apart k hk).2 (HGW.out.apart k hk).1, ((HGW.out.ch hcw).apart k hk).2⟩⟩
  have hbl0 := (hcw.cell (cell_lt HBL.out) (by simp)).trans HBL.out
  have hblN : bl ∉ m :: ob :: F := key bl hbllt hblF
  have hnin : ∀ b, w.heap.size ≤ b → b ≠ ob → b ∉ m :: ob :: F := fun b hb hne => by
    simp only [List.mem_cons, not_or]
    exact ⟨by omega, hne, fun hin => by have := hFl _ hin; omega⟩
  have hRI0 : RI W0 w.heap.size g m G F ob width (RQ []).1 (RQ []).2 W0 (.slice va0 width vc0) (G, 0) (nats x0l) F := by
    rw [HR0.out]
    refine ⟨Sim.start HOK.out, fun _ => rfl, by rw [nats_len]; exact HX0.out.len, HX0.out.lt, H.out.same hcw (by simp), Ch.refl _ _, fun k hk => .inl hk, rfl, hbo0, ?_, fun k hk => ?_⟩
    · rw [refs_natInts, HX0.out.cast]; exact hr0
    · have h1 := HOWN.out k (by simpa using hk)
      have h2 := (HROW.out.lt k hk).2
      have h3 := HC1.out.size
      have h4 := HOB0.out
      have h5 := hcw.size
      refine ⟨by omega, ?_, by omega, by omega⟩
      simp only [List.mem_cons, not_or]
      exact ⟨by omega, by omega, fun hin => by have := hFl _ hin; omega⟩
  have hseq := Bw_seq W0 Fence.wide 3 trivial rfl (by omega) n gc hgl (hbw.cell (i := 0) rfl) hG0.ok.sl
  have hKn : ∀ k ∈ bw :: ablk ga, k ∉ m :: ob :: F ∧ k < W0.heap.size := fun k hk => by
    simp only [List.mem_cons] at hk
    rcases hk with rfl | hk
    · exact ⟨hnin _ hbwl hbwn, hbw1⟩
    · exact hG0.apart k hk
  have HKN := Lib.hid hKn; clear hKn
  have HFR := Lib.hid hFR; clear hFR
  have HL0 := Lib.hid hL0; clear hL0
  have HRI0 := Lib.hid hRI0; clear hRI0
  have HCW := Lib.hid hcw; clear hcw
  have HMB0 := Lib.hid hbm0; clear hbm0
  have HNIN := Lib.hid hnin; clear hnin
  have HBL0 := Lib.hid hbl0; clear hbl0
  clear hbo0 hr0 hbw hG0 key hc0
  refine (wpIn_wide (n := 4)).1 ?_
  refine wpIn_rangeFunc_P (n := 4) W0.heap.size rfl rfl (by omega) rfl trivial (fun args w => fnvBwref1 args w) hseq ?kb (fun _ => rfl)
    (fun pre W => PInv W0 w.heap.size g m G F ob width (RQ pre) W)
    (fun _ => False) ?hi (fun _ _ h _ => h) ⟨_, _, _, _, _, HRI0.out⟩ ?a1 ?assign ?body ?done (fun _ h _ _ => h.elim)
  case assign =>
    intro q x W K hK
    simp only [fitEnc]
    gi_wp2
    exact hK
  case kb => exact fun k hk => (HKN.out k hk).2
  case hi =>
    rintro pre A A' ⟨va, vc, P, l, F', h⟩ hc
    exact ⟨va, vc, P, l, F', h.same HFR.out hc⟩
  case body =>
    rintro q pre ⟨i, r⟩ W ⟨va, vc, P, l, F', hE⟩ hWl hpx
    have hpm := bwd_mem (List.IsPrefix.subset hpx (List.mem_append_right pre (List.mem_singleton.2 rfl)))
    simp only at hpm
    obtain ⟨hin, hrm⟩ := hpm
    rw [hgl] at hin
    have hrl : r < 2 * P.1.nodes.length := hE.sim.ext.lt (hgr r hrm)
    obtain ⟨x, hx⟩ : ∃ x, Ls[i]? = some x := ⟨_, List.getElem?_eq_getElem (by rw [HL0.out.len]; omega)⟩
    have hmem := List.mem_of_getElem? hx
    have hwo := HW.out x hmem
    have hlg := HLG.out i x hx
    have hlo := hE.out
    have hSe : RQ (pre ++ [(i, r)]) = chF r (RQ pre).1 ((nats x.l).zip (RQ pre).2) := by
      rw [HRS.out]; unfold pickS; rw [hlg]
    have hCHO : ∀ Wc, RI W0 w.heap.size g m G F ob width (RQ pre).1 (RQ pre).2 Wc (.slice va width vc) P l F' → Calls Try.prog 32 #[.pointer (some ⟨m, 0, none⟩), .int .i64 r, .slice x.a width x.c, .slice va width vc] Wc fun e w' => ∃ v, e = .returned v ∧ CH Wc g m G P F' (RQ (pre ++ [(i, r)])) width v w' := fun Wc h => by
      obtain ⟨k1, k2⟩ := h.word (HL0.out.words x hmem)
      have hz := h.ch.size
      refine (mchoose_is h.mem h.sim hrl (x := nats x.l) (y := l) width x.c vc (by rw [nats_len, hwo.len]) h.len (by omega) (by rw [show ((nats x.l).map fun (r : Nat) => (r : Int)) = x.l from hwo.cast]; exact k1.ok.sl) ?_ k2 ?_ (fun q hq => h.sim.ext.lt (hwo.lt q hq)) h.all).mono ?_
      · have := h.row
        rw [refs_natInts] at this
        exact Sl.of_ints this (by omega)
      · intro k hk
        cases va with
        | none => simp [ablk] at hk
        | some p =>
          simp only [ablk, List.mem_singleton] at hk
          subst hk
          have h3 := (h.fresh p.block rfl).2.1
          simp only [List.mem_cons, not_or] at h3 ⊢
          exact ⟨⟨h3.1, h3.2.2⟩, (h.row.lt p.block rfl).2⟩
      · rintro e w' ⟨v, rfl, hch⟩
        refine ⟨v, rfl, hch.cong ?_ ?_⟩
        · rw [hSe]
          by_cases h0 : (RQ pre).1.2 = 0
          · rw [← hlo h0]
          · rw [chF_bad0 h0, chF_bad0 h0]
        · intro h9
          rw [hSe]
          by_cases h0 : (RQ pre).1.2 = 0
          · rw [← hlo h0]
          · rw [chF_bad0 h0] at h9; exact absurd h9 h0
    have c_x := hE.cell (HL0.out.cells i x hx) HL0.out.apart.1
    unfold WV.val at c_x
    rw [hwo.len] at c_x
    have c_l := hE.cell HBL0.out hblN
    have c_m := hE.cell (HMB0.out.cell (i := 0) rfl) (HNIN.out _ (by omega) (by omega))
    have HCHO := Lib.hid hCHO; clear hCHO
    have HE := Lib.hid hE; clear hE
    clear hx hmem hwo hlg hlo hSe hrl hrm hpx
    obtain ⟨xa, xl, xc⟩ := x
    simp only at c_x HCHO
    have hil : i < nl := by omega
    clear hin
    gi_wp2
    refine Ord.St.doorR (fun _ => True) [.rd, .fl, .rd, .fl, .fl, .rd, .rd, .ef, .ef] [0, 0, 0, 0, 12, 28, 0, 127, 255] [0, 1, 2, 3, 4, 5, 6, 7, 8] mixed (by kernel_rfl) (by kernel_rfl) rfl ?_
    obtain ⟨Wc, hWc⟩ : ∃ Wc, Wc = W.drew := ⟨_, rfl⟩
    rw [← hWc]
    have hcur : Ch [] W Wc := by rw [hWc]; exact (Ch.refl _ _).drew
    clear hWc
    have hE := HE.out.same HFR.out (hcur.mono (by simp))
    replace c_x := (hcur.cell (cell_lt c_x) (by simp)).trans c_x
    replace c_l := (hcur.cell (cell_lt c_l) (by simp)).trans c_l
    replace c_m := (hcur.cell (cell_lt c_m) (by simp)).trans c_m
    have c_o := hE.bx.cell (i := 0) rfl
    have HCC := Lib.hid (HCHO.out Wc hE)
    have hWc : W0.heap.size + 2 ≤ Wc.heap.size := Nat.le_trans hWl hcur.size
    clear HE HCHO
    have HE := Lib.hid hE; clear hE
    have HCUR := Lib.hid hcur; clear hcur
    refine Ord.St.rd2 (T' := ?_) 0 [1, 2, 3, 4, 5, 6, 7, 8] _ _ rfl (by kernel_rfl) rfl rfl rfl rfl (fun K hk => ?_) ?_
    rotate_left
    · go_step; exact hk
    refine Ord.St.fl2 (T' := ?_) 1 [2, 3, 4, 5, 6, 7, 8] _ _ rfl (by kernel_rfl) rfl rfl rfl rfl (fun K w' hk => ?_) ?_
    rotate_left
    · go_step; exact hk
    refine Ord.St.rd2 (T' := ?_) 2 [3, 4, 5, 6, 7, 8] _ _ rfl (by kernel_rfl) rfl rfl rfl rfl (fun K hk => ?_) ?_
    rotate_left
    · go_step; exact hk
    refine Ord.St.fl2 (T' := ?_) 3 [4, 5, 6, 7, 8] _ _ rfl (by kernel_rfl) rfl rfl rfl rfl (fun K w' hk => ?_) ?_
    rotate_left
    · go_step; exact hk
    refine Ord.St.fl2 (T' := ?_) 4 [5, 6, 7, 8] _ _ rfl (by kernel_rfl) rfl rfl rfl rfl (fun K w' hk => ?_) ?_
    rotate_left
    · go_step; exact hk
    refine Ord.St.rd2 (T' := ?_) 5 [6, 7, 8] _ _ rfl (by kernel_rfl) rfl rfl rfl rfl (fun K hk => ?_) ?_
    rotate_left
    · go_step; exact hk
    refine Ord.St.rd2 (T' := ?_) 6 [7, 8] _ _ rfl (by kernel_rfl) rfl rfl rfl rfl (fun K hk => ?_) ?_
    rotate_left
    · go_step; exact hk
    refine Ord.St.ef 7 [8] _ rfl (by kernel_rfl) (fun K hK => ?_)
    go_wp2_with fail
    refine HCC.out.mono ?_
    rintro e w1 ⟨v, rfl, hch⟩
    obtain ⟨va1, vc1, rfl⟩ := hch.shape
    have hp := HE.out.put HFR.out hWc (by omega) hch
    have hob1' := HE.out.bx.ch hch.choose_spec.choose_spec.2.2.2.2.2.choose_spec.2.1 (by have h9 := HE.out.obF HFR.out; simpa using h9)
    have hchs := hch.chs (ob := ob) (u := .slice va1 width vc1)
    have HPUT := Lib.hid hp; clear hp hch HCC
    have HCHS := Lib.hid hchs; clear hchs
    clear c_o
    have c_o := hob1'.cell (i := 0) rfl
    have f_o := hob1'.frozen (i := 0)
    go_wp2_with fail
    refine ⟨rfl, hK _ _ ?_⟩; clear hK K
    refine Ord.St.ef 8 [] _ rfl (by kernel_rfl) (fun K hK => ?_)
    go_wp2_with fail
    refine ⟨rfl, hK _ _ ?_⟩; clear hK K
    refine Ord.St.nil ?_
    gi_wp2
    obtain ⟨P1, l1, F1, hr1, hb1⟩ := HPUT.out
    refine ⟨(Books.of_ch HCUR.out hWl (by simp)).trans hb1, ⟨va1, vc1, P1, l1, F1, hr1⟩, (Kept.of_ch HCUR.out (fun k hk => ⟨?_, by simp⟩)).trans (Kept.of_ch HCHS.out (fun k hk => ⟨?_, ?_⟩))⟩
    · have := (HKN.out k hk).2; omega
    · have := (HKN.out k hk).2; omega
    · obtain ⟨h5, h6⟩ := HKN.out k hk
      simp only [List.mem_cons, not_or] at h5 ⊢
      exact ⟨h5.1, h5.2.1, fun hin => (HE.out.own k hin).elim h5.2.2 (fun h7 => by omega)⟩
  case done =>
    rintro W ⟨va, vc, P, l, F', hE⟩ hK _
    have c_o := hE.bx.cell (i := 0) rfl
    have HE := Lib.hid hE; clear hE
    have HK := Lib.hid hK; clear hK
    clear hseq
    go_wp2
    refine ⟨by simp, .inl ⟨_, _, rfl, run_takeDeferred HK.out, ?_⟩⟩
    have hE2 := HE.out.same HFR.out (A' := W.putObj W0.heap.size (.deferred none)) (ch_put (by simp))
    have hz9 := HCW.out.size
    refine ⟨_, results_tmp rfl _ _ _, .slice va width vc, rfl, P, l, hE2.sim, hE2.out, F', hE2.mem, (HCW.out.mono (by simp)).trans hE2.ch (fun k hk => ?_), fun k hk => (hE2.own k hk).imp id (fun e => by omega), hE2.map, by rw [hE2.len]; exact hE2.row, fun k hk => ?_⟩
    · simp only [List.nil_append, List.mem_cons] at hk ⊢
      rcases hk with hk | hk | hk
      · exact .inl (.inl hk)
      · exact .inr (by omega)
      · exact .inl (.inr hk)
    · obtain ⟨f1, f2, _⟩ := hE2.fresh k hk
      simp only [List.mem_cons, not_or] at f2
      exact ⟨f1, f2.2.2, f2.1⟩
end
end Go.Proofs.Ytndcgfnlgcincaa
namespace Go.Aig
def pickG (G : Gra) (gs : List Int) (L : List (List Int)) : Gra × List Nat × Nat :=
  if array26 L.length = false then (G, [], 261) else if gs.length + 1 ≠ L.length then (G, [], 261) else if chk26 G [] gs L ≠ 0 then (G, [], chk26 G [] gs L)
  else wres G (pickF (L.map nats) ((G, 0), (L.map nats).getD gs.length []) (bwd (nats gs)))
end Go.Aig
namespace Go.Proofs.Ytndcgfnlgcincaa
open Go.RowKit Go.Mem Go.Aig
section
variable {w : World} {g : Nat} {G : Gra} {F : List Nat}
set_option maxRecDepth 100000 in
set_option maxHeartbeats 4000000 in
theorem mPick_is (h : GIn w g G F) {la : Option Addr} {nl lc : Nat} {Ls : List WV} (hA : WA w F la nl Ls) {y : WV} (hy : WVin w F y) (hyc : y.l.length ≤ y.c) :
    Calls Try.prog 13 #[.pointer (some ⟨g, 0, none⟩), y.val, .slice la nl lc] w fun e w' => ∃ v, e = .returned (.tuple #[v, .int .i64 (pickG G y.l (Ls.map WV.l)).2.2]) ∧ GVo w g (pickG G y.l (Ls.map WV.l)).1 [] F v (pickG G y.l (Ls.map WV.l)).2.1 w' := by
  have hpos := h.ok.wf.pos
  have hroom := h.ok.room
  have hmost := h.ok.most
  have hL := fun (W : World) (hW : Ch [] w W) => Len_g (h.same hW (by simp))
  have hAr := fun (W : World) => marray_is (w := W) nl
  have hok := chk26_ok (G := G) (idx := []) (refs := y.l) (ws := Ls.map WV.l)
  have hlt := chk26_lt G [] y.l (Ls.map WV.l)
  have hlen := hA.len
  have hll : (Ls.map WV.l).length = nl := by rw [List.length_map]; exact hlen
  unfold pickG
  rw [hll]
  obtain ⟨cc, hcc⟩ : ∃ cc, chk26 G [] y.l (Ls.map WV.l) = cc := ⟨_, rfl⟩
  rw [hcc] at hok hlt ⊢
  obtain ⟨S, hS⟩ : ∃ S, pickF ((Ls.map WV.l).map nats) ((G, 0), ((Ls.map WV.l).map nats).getD y.l.length []) (bwd (nats y.l)) = S := ⟨_, rfl⟩
  rw [hS]
  generalize hWW : (if array26 nl = false then (G, [], 261) else if y.l.length + 1 ≠ nl then (G, [], 261) else if cc ≠ 0 then (G, [], cc) else wres G S : Gra × List Nat × Nat) = WW
  have hylen := hy.ok.len
  cases ha : array26 nl
  · rw [ha, if_pos rfl] at hWW
    simp only [ha] at hAr
    subst hWW
    obtain ⟨ya, yl, yc⟩ := y
    simp only [WV.val] at *
    clear hok hcc hS hA
    have HL := Lib.hid hL; clear hL
    have HAR := Lib.hid hAr; clear hAr
    have H := Lib.hid h; clear h
    have hn0 : ((G.nodes.length : Int) == 0) = false := beqN (by omega)
    go_enter Try.func13, Try.ntmps13
    go_upto_region 1 with fail
    refine wp_named fun W0 hW0 => ?_
    have hc0 : Ch [] w W0 := by rw [hW0]; exact ((Ch.refl _ _).alloc _).alloc _
    have hb1 : blk W0 (w.heap.size + 1) [.slice la nl lc] := by rw [hW0]; exact blk.new' _ _ (by simp)
    have d0 := hb1.cell (i := 0) rfl
    clear hW0 hb1
    have hLL := HL.out W0 hc0
    have HC0 := Lib.hid hc0; clear hc0
    go_wp2_with fail
    refine hLL.mono ?_
    rintro e w' ⟨rfl, rfl⟩
    clear hLL
    go_wp2_with fail
    refine (HAR.out _).mono ?_
    rintro e w' ⟨rfl, rfl⟩
    go_wp2_with fail
    go_ret2
    exact ⟨_, rfl, GVo.none H.out HC0.out⟩
  · rw [ha, if_neg (by simp)] at hWW
    simp only [ha] at hAr
    have hnl : 1 ≤ nl ∧ nl ≤ 256 := by unfold array26 at ha; simp at ha; omega
    obtain ⟨lb, rfl, hWL⟩ := hA.at_ hnl.1
    by_cases hr : y.l.length + 1 ≠ nl
    · rw [if_pos hr] at hWW
      have hne : ((y.l.length : Int) != (nl : Int) - 1) = true := by simp; omega
      subst hWW
      obtain ⟨ya, yl, yc⟩ := y
      simp only [WV.val] at *
      clear hok hcc hS hA hWL
      have HL := Lib.hid hL; clear hL
      have HAR := Lib.hid hAr; clear hAr
      have H := Lib.hid h; clear h
      have hn0 : ((G.nodes.length : Int) == 0) = false := beqN (by omega)
      go_enter Try.func13, Try.ntmps13
      go_upto_region 1 with fail
      refine wp_named fun W0 hW0 => ?_
      have hc0 : Ch [] w W0 := by rw [hW0]; exact ((Ch.refl _ _).alloc _).alloc _
      have hb0 : blk W0 w.heap.size [.slice ya yl.length yc] := by rw [hW0]; exact (blk.new' _ _ (by simp)).alloc _
      have hb1 : blk W0 (w.heap.size + 1) [.slice (some ⟨lb, 0, none⟩) nl lc] := by rw [hW0]; exact blk.new' _ _ (by simp)
      have d0 := hb0.cell (i := 0) rfl
      have d1 := hb1.cell (i := 0) rfl
      clear hW0 hb0 hb1
      have hLL := HL.out W0 hc0
      have HC0 := Lib.hid hc0; clear hc0
      go_wp2_with fail
      refine hLL.mono ?_
      rintro e w' ⟨rfl, rfl⟩
      clear hLL
      go_wp2_with fail
      refine (HAR.out _).mono ?_
      rintro e w' ⟨rfl, rfl⟩
      go_wp2_with fail
      go_ret2
      exact ⟨_, rfl, GVo.none H.out HC0.out⟩
    · rw [if_neg hr] at hWW
      have hyl : y.l.length + 1 = nl := by omega
      have hne : ((y.l.length : Int) != (nl : Int) - 1) = false := by rw [bne_eq_false_iff_eq]; omega
      have hchk := fun (W : World) (q : Nat) (hW : Ch [] w W) (hq : blk W q [.slice (some ⟨lb, 0, none⟩) nl lc]) =>
        mcheck_is (h.same hW (by simp)) ((hWL.ch hW).ls (hq.cell (i := 0) rfl)) (n := 1) (c := 1) (by omega) (by rw [lsW_one]; omega) (by rw [lsW_one]; omega) (RS.nil W) (RS.wv (hy.ch hW) hyc) (by omega) (by omega) (by intro z hz; simp at hz; exact hy.ok.bd z hz)
      simp only [lsW_one, hcc] at hchk
      have hbuild : cc = 0 → ∀ (W1 : World), Ch [] w W1 → blk W1 w.heap.size [y.val] → blk W1 (w.heap.size + 1) [.slice (some ⟨lb, 0, none⟩) nl lc] →
          Calls Try.prog 29 #[.pointer (some ⟨g, 0, none⟩), .func (.func 41) #[] #[.pointer (some ⟨w.heap.size + 1, 0, none⟩), .pointer (some ⟨w.heap.size, 0, none⟩)]] W1 fun e w' => ∃ v, e = .returned (.tuple #[v, .int .i64 S.1.2]) ∧ MB W1 g G F S.1 (PostW W1 S.2) mzW v w' := fun h0 W1 hW1 k1 k2 => by
        obtain ⟨o1, o2, o3, _, o4⟩ := hok h0
        have hne : Ls.map WV.l ≠ [] := fun e => by rw [e] at hll; simp at hll; omega
        refine mbuildW_is (h.same hW1 (by simp)) 41 _ fnvmPick1 S.1 _ (fun W m hm hW hM => ?_)
        have hall := hW1.trans hW (by simp)
        have hm2 : w.heap.size ≤ m := Nat.le_trans hW1.size hm
        have hyw : WVin W (m :: F) ⟨y.a, natInts (nats y.l), y.c⟩ := by
          rw [o4.cast]
          exact ⟨(hy.ch hall).ok, hy.blks hall hm2⟩
        have hc1 := (k1.ch hW (by simp)).cell (i := 0) (v := y.val) rfl
        have hc2 := (k2.ch hW (by simp)).cell (i := 0) rfl
        unfold WV.val at hc1
        have l1 := k1.lt
        have l2 := k2.lt
        have hnF : ∀ b, w.heap.size ≤ b → b < W1.heap.size → b ∉ m :: F := fun b hb hb2 hin => by
          simp only [List.mem_cons] at hin
          rcases hin with e | hin
          · omega
          · have := h.lt b hin; omega
        have h1 := mPick1_is hM (Ls := Ls) (lc := lc) (width := ((Ls.map WV.l).headD []).length) (hWL.up hall hm2) (fun x hx => o1 x.l (List.mem_map.2 ⟨x, hx, rfl⟩)) hnl (o3 hne) hyw (by rw [nats_len]) hyl o4.lt hc2 hc1 (hnF _ (by omega) l2) (hnF _ (by omega) l1)
        rw [show (Ls.map fun x => nats x.l) = (Ls.map WV.l).map nats by rw [List.map_map]; rfl, hS] at h1
        refine h1.mono ?_
        rintro e W' ⟨v, rfl, hrw⟩
        obtain ⟨P, F', q1, q2, q3, q4, q5, q6⟩ := hrw.post hW
        exact ⟨v, P, F', rfl, q1, q2, q3, q4, q5, q6⟩
      obtain ⟨ya, yl, yc⟩ := y
      simp only [WV.val] at *
      clear hok hcc hS hA hWL
      have HL := Lib.hid hL; clear hL
      have HAR := Lib.hid hAr; clear hAr
      have HCHK := Lib.hid hchk; clear hchk
      have HBU := Lib.hid hbuild; clear hbuild
      have H := Lib.hid h; clear h
      have HWW := Lib.hid hWW; clear hWW
      have hn0 : ((G.nodes.length : Int) == 0) = false := beqN (by omega)
      clear hy
      go_enter Try.func13, Try.ntmps13
      go_upto_region 1 with fail
      refine wp_named fun W0 hW0 => ?_
      have hc0 : Ch [] w W0 := by rw [hW0]; exact ((Ch.refl _ _).alloc _).alloc _
      have hb0 : blk W0 w.heap.size [.slice ya yl.length yc] := by rw [hW0]; exact (blk.new' _ _ (by simp)).alloc _
      have hb1 : blk W0 (w.heap.size + 1) [.slice (some ⟨lb, 0, none⟩) nl lc] := by rw [hW0]; exact blk.new' _ _ (by simp)
      have d0 := hb0.cell (i := 0) rfl
      have d1 := hb1.cell (i := 0) rfl
      have l0 := hb0.lt
      have l1 := hb1.lt
      clear hW0
      have hLL := HL.out W0 hc0
      have HC0 := Lib.hid hc0; clear hc0
      have HB0 := Lib.hid hb0; clear hb0
      have HB1 := Lib.hid hb1; clear hb1
      go_wp2_with fail
      refine hLL.mono ?_
      rintro e w' ⟨rfl, rfl⟩
      clear hLL
      go_wp2_with fail
      refine (HAR.out _).mono ?_
      rintro e w' ⟨rfl, rfl⟩
      go_wp2_with fail
      refine calls_named fun W1 hW1 => ?_
      have hc1 := alw_ch hW1
      have e1 := alw_blk (xs := [.slice (some ⟨lb, 0, none⟩) nl lc]) hW1
      clear hW1
      refine (HCHK.out W1 _ (HC0.out.trans hc1 (by simp)) e1).mono ?_
      rintro e w2 ⟨rfl, hc2⟩
      have hc02 := hc1.trans hc2 (by simp)
      have HC2 := Lib.hid (HC0.out.trans hc02 (by simp))
      have HB0' := Lib.hid (HB0.out.ch hc02 (by simp))
      have HB1' := Lib.hid (HB1.out.ch hc02 (by simp))
      clear e1 hc1 hc2 hc02 d0 d1 HB0 HB1 HCHK
      by_cases hz : cc = 0
      · have hBB := HBU.out hz w2 HC2.out HB0'.out HB1'.out
        have hww := HWW.out
        rw [if_neg (by simp [hz])] at hww
        subst hz
        have HBB := Lib.hid hBB; clear hBB HBU
        have HW2 := Lib.hid hww; clear hww
        go_wp2_with fail
        refine HBB.out.mono ?_
        rintro e w3 ⟨v, rfl, hmb⟩
        have hgv := MB.gvo HC2.out hmb
        rw [HW2.out] at hgv
        have HGV := Lib.hid hgv; clear hgv hmb
        go_wp2_with fail
        go_ret2
        exact ⟨_, by rw [← HW2.out, wres_e]; rfl, HGV.out⟩
      · have hq : ((cc : Int) != 0) = true := by simp; omega
        have hww := HWW.out
        rw [if_pos hz] at hww
        have HW2 := Lib.hid hww; clear hww
        have HZ := Lib.hid hz; clear hz
        go_wp2_with fail
        go_ret2
        exact ⟨_, by rw [← HW2.out]; rfl, by rw [← HW2.out]; exact GVo.none H.out HC2.out⟩
end
end Go.Proofs.Ytndcgfnlgcincaa
namespace Go.Aig
def eqS (q : Mk × List Nat) (p : List Nat × List Nat) : Mk × List Nat := ((rstep q.1 (eqW q.1.1 p.1 p.2)).1, q.2 ++ [(rstep q.1 (eqW q.1.1 p.1 p.2)).2])
def eqsF (G : Gra) (l : List (List Nat × List Nat)) : Mk × List Nat := l.foldl eqS ((G, 0), [])
theorem eqsF_snoc (G : Gra) (l : List (List Nat × List Nat)) (p : List Nat × List Nat) : eqsF G (l ++ [p]) = eqS (eqsF G l) p := by unfold eqsF; rw [List.foldl_append]; rfl
def equalR (G : Gra) (l : List (List Nat × List Nat)) : Mk × Nat := rstep (eqsF G l).1 (rAll (eqsF G l).1.1 (eqsF G l).2)
end Go.Aig
namespace Go.Proofs.Ytndcgfnlgcincaa
open Go.RowKit Go.Mem Go.Aig
attribute [local go_sem] Oper.semAt_some
theorem doAll_r' {G : Gra} {l : List Nat} (hl : ∀ r ∈ l, r < 2 * G.nodes.length) : doAll G (l.map fun (r : Nat) => (r : Int)) = rAll G l := by
  unfold doAll
  rw [toNats, whole_all (by
    intro x hx
    obtain ⟨r, hr, rfl⟩ := List.mem_map.1 hx
    have := hl r hr
    simp [right]; omega)]
theorem fnvmEqual1 : Fnv 38 := fnv_of Try.func38 (by simp [Try.f38]) (by simp [Try.f38])
def RV (w : World) (g m : Nat) (G : Gra) (F : List Nat) (S : Mk × Nat) (v : Value) (w' : World) : Prop := ∃ (P : Mk) (r : Nat), v = .int .i64 r ∧ Sim G P S.1 ∧ (S.1.2 = 0 → r = S.2) ∧ MTo w g m P F w'
section
variable {w : World} {g m : Nat} {G : Gra} {F : List Nat}
set_option maxRecDepth 100000 in
set_option maxHeartbeats 4000000 in
theorem mEqual1_is (h : MIn w g m (G, 0) F) {As Bs : List WV} {la lb nl ac bc width : Nat} (hA : WL w (m :: F) la nl As) (hB : WL w (m :: F) lb nl Bs) (hWA : ∀ x ∈ As, WOf G width x.l) (hWB : ∀ x ∈ Bs, WOf G width x.l) (hnl : nl ≤ 256) (hw1 : 1 ≤ width) (hw : width ≤ 16)
    {b1 b2 b3 : Nat} (h1 : w.cell? ⟨b1, 0, none⟩ = some (.slice (some ⟨la, 0, none⟩) nl ac)) (h2 : w.cell? ⟨b2, 0, none⟩ = some (.pointer (some ⟨g, 0, none⟩))) (h3 : w.cell? ⟨b3, 0, none⟩ = some (.slice (some ⟨lb, 0, none⟩) nl bc)) (h2F : b2 ∉ m :: F) (h3F : b3 ∉ m :: F) :
    Calls Try.prog 38 (#[.pointer (some ⟨m, 0, none⟩)] ++ #[.pointer (some ⟨b1, 0, none⟩), .pointer (some ⟨b2, 0, none⟩), .pointer (some ⟨b3, 0, none⟩)]) w fun e W' => ∃ v, e = .returned v ∧ RV w g m G F (equalR G ((As.map fun x => nats x.l).zip (Bs.map fun x => nats x.l))) v W' := by
  show Calls Try.prog 38 #[.pointer (some ⟨m, 0, none⟩), .pointer (some ⟨b1, 0, none⟩), .pointer (some ⟨b2, 0, none⟩), .pointer (some ⟨b3, 0, none⟩)] w _
  have hml := h.bk.lt
  have hFl := h.gin.lt
  have hok := h.gin.ok
  obtain ⟨Z, hZ⟩ : ∃ Z, (As.map fun x => nats x.l).zip (Bs.map fun x => nats x.l) = Z := ⟨_, rfl⟩
  have hzl : Z.length = nl := by rw [← hZ, List.length_zip, List.length_map, List.length_map, hA.len, hB.len, Nat.min_self]
  have hzat : ∀ (k : Nat) (x y : WV), As[k]? = some x → Bs[k]? = some y → Z[k]? = some (nats x.l, nats y.l) := fun k x y hx hy => by
    rw [← hZ, List.getElem?_zip_eq_some]
    exact ⟨by rw [List.getElem?_map, hx]; rfl, by rw [List.getElem?_map, hy]; rfl⟩
  rw [hZ]
  clear hZ
  have H := Lib.hid h; clear h
  have HA := Lib.hid hA; clear hA
  have HB := Lib.hid hB; clear hB
  have HWA := Lib.hid hWA; clear hWA
  have HWB := Lib.hid hWB; clear hWB
  have HZL := Lib.hid hzl; clear hzl
  have HZAT := Lib.hid hzat; clear hzat
  have H1 := Lib.hid h1
  have H2 := Lib.hid h2; clear h2
  have H3 := Lib.hid h3; clear h3
  have HOK := Lib.hid hok; clear hok
  go_enter Try.func38, Try.ntmps38
  go_wp2_with fail
  clear h1
  go_loopw [6, 15] (fun lv i wr => ∃ (k : Nat) (P : Mk) (F' l : List Nat), k ≤ nl ∧ i = .int .i64 k ∧ l.length = k ∧ Sim G P (eqsF G (Z.take k)).1 ∧ ((eqsF G (Z.take k)).1.2 = 0 → l = (eqsF G (Z.take k)).2) ∧ (∀ r ∈ l, r < 2 * P.1.nodes.length) ∧ MIn wr g m P F' ∧ Ch (m :: F) w wr ∧ (∀ q ∈ F', q ∈ F ∨ w.heap.size ≤ q) ∧ F'[2]? = F[2]? ∧ row wr 26 1 lv k (refsCells l) ∧ (∀ q, lv.ownBlock = some q → w.heap.size ≤ q ∧ q ∉ F')) (fun _ i _ => nl - (intOf i).toNat)
  case atStart => exact ⟨0, (G, 0), F, [], Nat.zero_le _, rfl, rfl, Sim.start HOK.out, fun _ => rfl, by simp, H.out, Ch.refl _ _, fun q hq => .inl hq, rfl, ⟨rfl, .inl ⟨rfl, rfl⟩⟩, by simp [Value.ownBlock]⟩
  case round =>
    obtain ⟨k, P, F', l, hk, rfl, hll, hs, hout, hall, hm, hch, hown, hmap, hrow, hfr⟩ := hrel
    obtain ⟨va, vc, rfl⟩ := row.shape hrow
    have hcell : ∀ {b i : Nat} {v : Value}, w.cell? ⟨b, i, none⟩ = some v → b ∉ m :: F → wr.cell? ⟨b, i, none⟩ = some v := fun hx hb => (hch.cell (cell_lt hx) hb).trans hx
    have hword : ∀ {x : WV}, WVin w (m :: F) x → WVin wr F' x := fun hx => ⟨hx.ok.ch hch (fun p hp => (hx.apart p.block (ablk_of hp)).1), fun q hq => ⟨fun hin => by
      obtain ⟨k1, k2⟩ := hx.apart q hq
      simp only [List.mem_cons, not_or] at k1
      exact (hown q hin).elim k1.2 (fun e => by omega), Nat.lt_of_lt_of_le (hx.apart q hq).2 hch.size⟩⟩
    by_cases hlt : k < nl
    · obtain ⟨x, hx⟩ : ∃ x, As[k]? = some x := ⟨_, List.getElem?_eq_getElem (by rw [HA.out.len]; exact hlt)⟩
      obtain ⟨y, hy⟩ : ∃ y, Bs[k]? = some y := ⟨_, List.getElem?_eq_getElem (by rw [HB.out.len]; exact hlt)⟩
      have hxm := List.mem_of_getElem? hx
      have hym := List.mem_of_getElem? hy
      have hxw := HWA.out x hxm
      have hyw := HWB.out y hym
      have c_x := hcell (HA.out.cells k x hx) HA.out.apart.1
      have c_y := hcell (HB.out.cells k y hy) HB.out.apart.1
      have c_g := hcell H2.out h2F
      have c_b := hcell H3.out h3F
      have hsu : eqsF G (Z.take (k + 1)) = eqS (eqsF G (Z.take k)) (nats x.l, nats y.l) := by rw [List.take_add_one, HZAT.out k x y hx hy]; exact eqsF_snoc _ _ _
      have hxr : ∀ r ∈ nats x.l, r < 2 * P.1.nodes.length := fun r hr => hs.ext.lt (hxw.lt r hr)
      have hyr : ∀ r ∈ nats y.l, r < 2 * P.1.nodes.length := fun r hr => hs.ext.lt (hyw.lt r hr)
      have hfull := eqW_full hm.gin.ok (by rw [nats_len]; exact hxw.len) (by rw [nats_len]; exact hyw.len) hw1 (by omega) hxr hyr
      generalize eqsF G (Z.take k) = R at hs hout hsu
      have hst := hs.step hfull (Y := eqW R.1.1 (nats x.l) (nats y.l)) (fun _ e => by rw [e])
      have hEQ := fun (W : World) (hW : Ch [] wr W) => sEq_is (hm.gin.same hW (by simp)) ((hword (HA.out.words x hxm)).ch hW) ((hword (HB.out.words y hym)).ch hW)
      obtain ⟨X, hX⟩ : ∃ X, eqW P.1 (nats x.l) (nats y.l) = X := ⟨_, rfl⟩
      have hX2 := hX
      unfold eqW at hX2
      rw [hxw.cast, hyw.cast] at hX2
      simp only [hX2, WV.val] at hEQ
      rw [hX] at hst
      have hbk := hm.bk
      unfold WV.val at c_x c_y
      obtain ⟨xa, xl, xc⟩ := x
      obtain ⟨ya, yl, yc⟩ := y
      simp only at c_x c_y hEQ
      have HEQ := Lib.hid hEQ; clear hEQ
      have HST := Lib.hid hst; clear hst
      have HSU := Lib.hid hsu; clear hsu
      have HS := Lib.hid hs; clear hs
      have HM := Lib.hid hm; clear hm
      have HCH := Lib.hid hch; clear hch
      have HROW := Lib.hid hrow; clear hrow
      have HOUT := Lib.hid hout; clear hout
      have HBK := Lib.hid hbk; clear hbk
      have HFR := Lib.hid hfr; clear hfr
      have HALL := Lib.hid hall; clear hall
      clear hX hX2 hfull hxr hyr hxw hyw hxm hym hx hy hcell hword
      go_upto_region 5 with fail
      refine Ord.St.door (fun _ => True) [.rd, .fl, .rd, .fl, .fl, .rd, .ef, .fl, .fl, .fl, .fl, .fl] [0, 0, 0, 0, 12, 28, 63, 127, 255, 255, 511, 2047] [0, 1, 2, 3, 4, 5, 6, 7, 8, 9, 10, 11] mixed (by kernel_rfl) rfl ?_
      obtain ⟨Wc, hWc⟩ : ∃ Wc, Wc = wr.drew := ⟨_, rfl⟩
      rw [← hWc]
      have hcur : Ch [] wr Wc := by rw [hWc]; exact (Ch.refl _ _).drew
      have c_g2 : Wc.cell? ⟨b2, 0, none⟩ = some (.pointer (some ⟨g, 0, none⟩)) := by rw [hWc]; exact c_g
      have c_b2 : Wc.cell? ⟨b3, 0, none⟩ = some (.slice (some ⟨lb, 0, none⟩) nl bc) := by rw [hWc]; exact c_b
      have c_y2 : Wc.cell? ⟨lb, k, none⟩ = some (.slice ya yl.length yc) := by rw [hWc]; exact c_y
      clear hWc
      have han := HEQ.out Wc hcur
      have HAN1 := Lib.hid han; clear han HEQ
      have HCUR := Lib.hid hcur; clear hcur
      refine Ord.St.rd2 (T' := ?_) 0 [1, 2, 3, 4, 5, 6, 7, 8, 9, 10, 11] _ _ rfl (by kernel_rfl) rfl rfl rfl rfl (fun K hk => ?_) ?_
      rotate_left
      · go_step; exact hk
      refine Ord.St.fl2 (T' := ?_) 1 [2, 3, 4, 5, 6, 7, 8, 9, 10, 11] _ _ rfl (by kernel_rfl) rfl rfl rfl rfl (fun K w' hk => ?_) ?_
      rotate_left
      · go_step; exact hk
      refine Ord.St.rd2 (T' := ?_) 2 [3, 4, 5, 6, 7, 8, 9, 10, 11] _ _ rfl (by kernel_rfl) rfl rfl rfl rfl (fun K hk => ?_) ?_
      rotate_left
      · go_step; exact hk
      refine Ord.St.fl2 (T' := ?_) 3 [4, 5, 6, 7, 8, 9, 10, 11] _ _ rfl (by kernel_rfl) rfl rfl rfl rfl (fun K w' hk => ?_) ?_
      rotate_left
      · go_step; exact hk
      refine Ord.St.fl2 (T' := ?_) 4 [5, 6, 7, 8, 9, 10, 11] _ _ rfl (by kernel_rfl) rfl rfl rfl rfl (fun K w' hk => ?_) ?_
      rotate_left
      · go_step; exact hk
      refine Ord.St.rd2 (T' := ?_) 5 [6, 7, 8, 9, 10, 11] _ _ rfl (by kernel_rfl) rfl rfl rfl rfl (fun K hk => ?_) ?_
      rotate_left
      · go_step; exact hk
      refine Ord.St.ef 6 [7, 8, 9, 10, 11] _ rfl (by kernel_rfl) (fun K hK => ?_)
      go_wp2_with fail
      refine HAN1.out.mono ?_
      rintro e w5 ⟨rfl, hto⟩
      have hb5 := ((HBK.out.ch HCUR.out (by simp)).ch hto.choose_spec.2.1 HM.out.apart)
      have HTO := Lib.hid hto; clear hto
      have HNT := mnote_is hb5 X.2.1 X.2.2
      clear hb5
      go_wp2_with fail
      refine ⟨rfl, hK _ _ ?_⟩; clear hK K
      refine Ord.St.fl2 (T' := ?_) 7 [8, 9, 10, 11] _ _ rfl (by kernel_rfl) rfl rfl rfl rfl (fun K w' hk => ?_) ?_
      rotate_left
      · go_step; exact hk
      refine Ord.St.fl2 (T' := ?_) 8 [9, 10, 11] _ _ rfl (by kernel_rfl) rfl rfl rfl rfl (fun K w' hk => ?_) ?_
      rotate_left
      · go_step; exact hk
      refine Ord.St.fl2 (T' := ?_) 9 [10, 11] _ _ rfl (by kernel_rfl) rfl rfl rfl rfl (fun K w' hk => ?_) ?_
      rotate_left
      · go_step; exact hk
      refine Ord.St.fl2 (T' := ?_) 10 [11] _ _ rfl (by kernel_rfl) rfl rfl rfl rfl (fun K w' hk => ?_) ?_
      rotate_left
      · go_step; exact hk
      refine Ord.St.fl2 (T' := ?_) 11 [] _ _ rfl (by kernel_rfl) rfl rfl rfl rfl (fun K w' hk => ?_) ?_
      rotate_left
      · go_step; exact hk
      refine Ord.St.nil ?_
      go_wp2_with fail
      refine HNT.mono ?_
      rintro e w6 ⟨rfl, hb6, hc6⟩
      have hmc := HM.out.same HCUR.out (by simp)
      obtain ⟨F6, hm6, hc56, hown6, hmap6⟩ := MTo.of (P' := (mput P X).1) hmc HTO.out (fun _ => hb6) hc6
      have hc06 := (HCUR.out.mono (by simp)).trans hc56 (fun q hq => .inl hq)
      have hrl := HROW.out.lt
      have hrow6 := HROW.out.ch hc06 (by
        intro q hq hin
        simp only [List.mem_cons] at hin
        rcases hin with e | e
        · have := (HFR.out q hq).1; omega
        · exact (HFR.out q hq).2 e)
      have hch6 := HCH.out.trans hc06 (by
        intro q hq
        simp only [List.mem_cons] at hq ⊢
        rcases hq with e | hq
        · exact .inl (.inl e)
        · rcases hown q hq with e | e
          · exact .inl (.inr e)
          · exact .inr e)
      have hsz := HCUR.out.size
      have hsz0 := HCH.out.size
      have hfr6 : ∀ q, (Value.slice va k vc).ownBlock = some q → w.heap.size ≤ q ∧ q ∉ F6 := fun q hq => ⟨(HFR.out q hq).1, fun hin => (hown6 q hin).elim (HFR.out q hq).2 (fun e => by have := (hrl q hq).2; omega)⟩
      have hown6' : ∀ q ∈ F6, q ∈ F ∨ w.heap.size ≤ q := fun q hq => by
        rcases hown6 q hq with e | e
        · exact hown q e
        · exact .inr (by omega)
      have hF6l := hm6.gin.lt
      have hm6l := hm6.bk.lt
      clear hb6 hc6 hc56 hc06 hmc HTO hrl
      obtain ⟨W7, hW7⟩ : ∃ W7 : World, W7 = w6.alloc (.cells #[.int .i64 X.2.1] 26) := ⟨_, rfl⟩
      have hc7 : Ch [] w6 W7 := alw_ch hW7
      have hnb := alw_blk (xs := [.int .i64 X.2.1]) hW7
      have hrow7 := hrow6.ch hc7 (by simp)
      have hm7 := hm6.same hc7 (by simp)
      have HM7 := Lib.hid hm7; clear hm7 hm6
      have HROW7 := Lib.hid hrow7; clear hrow7 hrow6
      have HCH7 := Lib.hid (hch6.trans hc7 (by simp)); clear hch6
      have HNB := Lib.hid hnb; clear hnb
      have HW7 := Lib.hid hW7; clear hW7
      have HFR6 := Lib.hid hfr6; clear hfr6
      have hs7 := hc7.size
      clear hc7
      go_wp2_with (at_builtin; rw [← HW7.out]; go_loud (refine wpList_append_row slRefs rfl _ _ rfl (v := .slice va k vc) (n := k) (xs := refsCells l) rfl HROW7.out (ad := ⟨w6.heap.size, 0, none⟩) (m := 1) (c := 1) (news := [.int .i64 X.2.1]) rfl rfl (news_blk HNB.out) (by simp [Value.oneCell']) (by omega) (by omega) ?_; intro v' w8 hown8 hC8 hf8; have HO8 := Lib.hid hown8; clear hown8; have HC8 := Lib.hid hC8; clear hC8; have HF8 := Lib.hid hf8; clear hf8))
      go_roundw
      case rel =>
        obtain ⟨k1, k2, k3, k4, k5, k6, k7⟩ := HST.out
        have hcs : ∀ q ∈ (Value.slice va k vc).ownBlock.toList, w.heap.size ≤ q ∧ q ∉ F6 := fun q hq => HFR6.out q (by simpa using hq)
        refine ⟨k + 1, (mput P X).1, F6, l ++ [X.2.1], by omega, by go_num, by simp [hll], by rw [HSU.out]; exact k1, fun hz => ?_, fun r hr => ?_, HM7.out.same HC8.out (fun q hq hq2 => ?_), HCH7.out.trans HC8.out (fun q hq => .inr (hcs q hq).1), hown6', hmap6.trans hmap, ?_, fun q hq => ?_⟩
        · rw [HSU.out] at hz ⊢
          have hR0 : R.1.2 = 0 := by
            by_cases h0 : R.1.2 = 0
            · exact h0
            · exact absurd hz (k7 h0)
          rw [HOUT.out hR0]
          exact congrArg (fun z => R.2 ++ [z]) (k4 hz)
        · rcases List.mem_append.1 hr with hr | hr
          · exact k5.lt (HALL.out r hr)
          · rw [List.mem_singleton.1 hr]; exact k2
        · simp only [List.mem_cons] at hq
          rcases hq with e | hq
          · have := (hcs q hq2).1; omega
          · exact (hcs q hq2).2 hq
        · have := HO8.out
          simpa [refsCells] using this
        · rcases HF8.out q hq with e | e
          · exact HFR6.out q e
          · have h9 := HCH7.out.size
            exact ⟨by omega, fun hin => by have := hF6l q hin; omega⟩
      case measure => simp [intOf]; omega
    · have hkn : k = nl := by omega
      rw [hkn, List.take_of_length_le (by rw [HZL.out]; omega)] at hs hout
      have hAll := All_g hm.gin (a := va) (l := l.map fun (r : Nat) => (r : Int)) k vc (by rw [List.length_map]; exact hll) (by
        rw [refs_natInts] at hrow
        exact Sl.of_ints hrow (by omega)) (fun z hz => by
        obtain ⟨r, hr, rfl⟩ := List.mem_map.1 hz
        have := hall r hr
        have := hm.gin.ok.small
        omega) (fun p hp => by
        subst hp
        exact ⟨(hrow.lt p.block rfl).2, (hfr p.block rfl).2⟩)
      rw [doAll_r' hall] at hAll
      have hst := hs.step (rAll_full hm.gin.ok hall) (Y := rAll (eqsF G Z).1.1 (eqsF G Z).2) (fun e0 e1 => by rw [hout e0, e1])
      obtain ⟨X, hX⟩ : ∃ X, rAll P.1 l = X := ⟨_, rfl⟩
      rw [hX] at hAll hst
      have c_g := hcell H2.out h2F
      have hbk := hm.bk
      have HST := Lib.hid hst; clear hst
      have HAL := Lib.hid hAll; clear hAll
      have HM := Lib.hid hm; clear hm
      have HCH := Lib.hid hch; clear hch
      have HBK := Lib.hid hbk; clear hbk
      clear hs hout hrow hfr hall hX hcell hword hkn
      go_wp2_with fail
      refine HAL.out.mono ?_
      rintro e w5 ⟨rfl, hto⟩
      have hb5 := HBK.out.ch hto.choose_spec.2.1 HM.out.apart
      have HTO := Lib.hid hto; clear hto
      have HNT := mnote_is hb5 X.2.1 X.2.2
      clear hb5
      go_wp2_with fail
      refine HNT.mono ?_
      rintro e w6 ⟨rfl, hb6, hc6⟩
      have hmt := MTo.of (P' := (mput P X).1) HM.out HTO.out (fun _ => hb6) hc6
      have HMT := Lib.hid hmt; clear hmt hb6 hc6
      go_wp2_with fail
      go_ret
      obtain ⟨F6, q1, q2, q3, q4⟩ := HMT.out
      have hsz0 := HCH.out.size
      obtain ⟨k1, k2, k3, k4, k5, k6, k7⟩ := HST.out
      refine ⟨_, rfl, (mput P X).1, X.2.1, rfl, k1, k4, F6, q1, HCH.out.trans q2 (fun q hq => ?_), fun q hq => (q3 q hq).elim (hown q) (fun e => .inr (by omega)), q4.trans hmap⟩
      simp only [List.mem_cons] at hq ⊢
      rcases hq with e | hq
      · exact .inl (.inl e)
      · rcases hown q hq with e | e
        · exact .inl (.inr e)
        · exact .inr e
end
end Go.Proofs.Ytndcgfnlgcincaa
namespace Go.Aig
def equalG (G : Gra) (A B : List (List Int)) : Res :=
  if array26 A.length = false then (G, 0, 261) else if A.length ≠ B.length then (G, 0, 261) else if chk26 G [] [] (A ++ B) ≠ 0 then (G, 0, chk26 G [] [] (A ++ B))
  else rres G (equalR G ((A.map nats).zip (B.map nats)))
theorem rres_e (G : Gra) (S : Mk × Nat) : (rres G S).2.2 = S.1.2 := by
  unfold rres
  by_cases h0 : S.1.2 = 0
  · rw [if_neg (by simp [h0])]; exact h0.symm
  · rw [if_pos h0]
end Go.Aig
namespace Go.Proofs.Ytndcgfnlgcincaa
open Go.RowKit Go.Mem Go.Aig
def PostR (r : Nat) (v : Value) (_ : List Nat) (_ : World) : Prop := v = .int .i64 r
theorem RV.post {W : World} {g m : Nat} {G : Gra} {F : List Nat} {S : Mk × Nat} {v : Value} {W' : World} (h : RV W g m G F S v W') : ∃ P F', Sim G P S.1 ∧ MIn W' g m P F' ∧ Ch (m :: F) W W' ∧ (∀ k ∈ F', k ∈ F ∨ W.heap.size ≤ k) ∧ F'[2]? = F[2]? ∧ (S.1.2 = 0 → PostR S.2 v F' W') := by
  obtain ⟨P, r, rfl, hs, ho, F', k1, k2, k3, k4⟩ := h
  exact ⟨P, F', hs, k1, k2, k3, k4, fun h0 => by rw [ho h0]; rfl⟩
theorem MB.gto {w w1 w' : World} {g : Nat} {G : Gra} {F : List Nat} {S : Mk × Nat} {v : Value} (hc : Ch [] w w1) (h : MB w1 g G F S.1 (PostR S.2) mzR v w') : v = .int .i64 (rres G S).2.1 ∧ GTo w g (rres G S).1 F w' := by
  obtain ⟨F', k1, k2, k3, k4, k5, k6⟩ := h
  unfold rres
  by_cases h0 : S.1.2 = 0
  · rw [if_pos h0] at k1
    rw [if_neg (by simp [h0])]
    exact ⟨k5 h0, GTo.since hc (GTo.mk k1 k2 k3 k4)⟩
  · rw [if_neg h0] at k1
    rw [if_pos h0]
    exact ⟨k6 h0, GTo.since hc (GTo.mk k1 k2 k3 k4)⟩
theorem LS.two {w : World} {F : List Nat} {q la lb n ac bc : Nat} {As Bs : List WV} (hA : WL w F la n As) (hB : WL w F lb n Bs) (hq : blk w q [.slice (some ⟨la, 0, none⟩) n ac, .slice (some ⟨lb, 0, none⟩) n bc]) : LS w q 2 [(la, ac, As), (lb, bc, Bs)] := by
  have h1 := hA.len
  have h2 := hB.len
  subst h1
  refine ⟨rfl, fun j b' c' ws' hj => ?_, fun j b' c' ws' hj => ?_⟩ <;> rcases j with _ | _ | j
  · cases hj; exact hq.cell rfl
  · cases hj; rw [h2]; exact hq.cell rfl
  · simp at hj
  · cases hj; exact fun i x hx => ⟨hA.cells i x hx, (hA.words x (List.mem_of_getElem? hx)).ok⟩
  · cases hj; exact fun i x hx => ⟨hB.cells i x hx, (hB.words x (List.mem_of_getElem? hx)).ok⟩
  · simp at hj
theorem lsW_two (b c b' c' : Nat) (ws ws' : List WV) : lsW [(b, c, ws), (b', c', ws')] = ws ++ ws' := by simp [lsW]
section
variable {w : World} {g : Nat} {G : Gra} {F : List Nat}
set_option maxRecDepth 100000 in
set_option maxHeartbeats 4000000 in
theorem mEqual_is (h : GIn w g G F) {la lb : Option Addr} {nl ac n2 bc : Nat} {As Bs : List WV} (hA : WA w F la nl As) (hB : WA w F lb n2 Bs) (hn2 : n2 ≤ 1000000) :
    Calls Try.prog 12 #[.pointer (some ⟨g, 0, none⟩), .slice la nl ac, .slice lb n2 bc] w fun e w' => e = .returned (.tuple #[.int .i64 (equalG G (As.map WV.l) (Bs.map WV.l)).2.1, .int .i64 (equalG G (As.map WV.l) (Bs.map WV.l)).2.2]) ∧ GTo w g (equalG G (As.map WV.l) (Bs.map WV.l)).1 F w' := by
  have hpos := h.ok.wf.pos
  have hroom := h.ok.room
  have hmost := h.ok.most
  have hL := fun (W : World) (hW : Ch [] w W) => Len_g (h.same hW (by simp))
  have hAr := fun (W : World) => marray_is (w := W) nl
  have hok := chk26_ok (G := G) (idx := []) (refs := []) (ws := As.map WV.l ++ Bs.map WV.l)
  have hlt := chk26_lt G [] [] (As.map WV.l ++ Bs.map WV.l)
  have hla : (As.map WV.l).length = nl := by rw [List.length_map]; exact hA.len
  have hlb : (Bs.map WV.l).length = n2 := by rw [List.length_map]; exact hB.len
  unfold equalG
  rw [hla, hlb]
  obtain ⟨cc, hcc⟩ : ∃ cc, chk26 G [] [] (As.map WV.l ++ Bs.map WV.l) = cc := ⟨_, rfl⟩
  rw [hcc] at hok hlt ⊢
  obtain ⟨S, hS⟩ : ∃ S, equalR G (((As.map WV.l).map nats).zip ((Bs.map WV.l).map nats)) = S := ⟨_, rfl⟩
  rw [hS]
  generalize hWW : (if array26 nl = false then (G, 0, 261) else if nl ≠ n2 then (G, 0, 261) else if cc ≠ 0 then (G, 0, cc) else rres G S : Res) = WW
  cases ha : array26 nl
  · rw [ha, if_pos rfl] at hWW
    simp only [ha] at hAr
    subst hWW
    clear hok hcc hS hA hB
    have HL := Lib.hid hL; clear hL
    have HAR := Lib.hid hAr; clear hAr
    have H := Lib.hid h; clear h
    have hn0 : ((G.nodes.length : Int) == 0) = false := beqN (by omega)
    go_enter Try.func12, Try.ntmps12
    go_upto_region 1 with fail
    refine wp_named fun W0 hW0 => ?_
    have hc0 : Ch [] w W0 := by rw [hW0]; exact (((Ch.refl _ _).alloc _).alloc _).alloc _
    have hb0 : blk W0 w.heap.size [.pointer (some ⟨g, 0, none⟩)] := by rw [hW0]; exact ((blk.new' _ _ (by simp)).alloc _).alloc _
    have hb1 : blk W0 (w.heap.size + 1) [.slice la nl ac] := by rw [hW0]; exact (blk.new' _ _ (by simp)).alloc _
    have d0 := hb0.cell (i := 0) rfl
    have d1 := hb1.cell (i := 0) rfl
    clear hW0 hb0 hb1
    have hLL := HL.out W0 hc0
    have HC0 := Lib.hid hc0; clear hc0
    go_wp2_with fail
    refine hLL.mono ?_
    rintro e w' ⟨rfl, rfl⟩
    clear hLL
    go_wp2_with fail
    refine (HAR.out _).mono ?_
    rintro e w' ⟨rfl, rfl⟩
    go_wp2_with fail
    go_ret2
    exact ⟨rfl, GTo.same H.out HC0.out⟩
  · rw [ha, if_neg (by simp)] at hWW
    simp only [ha] at hAr
    have hnl : 1 ≤ nl ∧ nl ≤ 256 := by unfold array26 at ha; simp at ha; omega
    obtain ⟨la', rfl, hWA⟩ := hA.at_ hnl.1
    by_cases hr : nl ≠ n2
    · rw [if_pos hr] at hWW
      have hne : ((nl : Int) != (n2 : Int)) = true := by simp; omega
      subst hWW
      clear hok hcc hS hA hB hWA
      have HL := Lib.hid hL; clear hL
      have HAR := Lib.hid hAr; clear hAr
      have H := Lib.hid h; clear h
      have hn0 : ((G.nodes.length : Int) == 0) = false := beqN (by omega)
      go_enter Try.func12, Try.ntmps12
      go_upto_region 1 with fail
      refine wp_named fun W0 hW0 => ?_
      have hc0 : Ch [] w W0 := by rw [hW0]; exact (((Ch.refl _ _).alloc _).alloc _).alloc _
      have hb0 : blk W0 w.heap.size [.pointer (some ⟨g, 0, none⟩)] := by rw [hW0]; exact ((blk.new' _ _ (by simp)).alloc _).alloc _
      have hb1 : blk W0 (w.heap.size + 1) [.slice (some ⟨la', 0, none⟩) nl ac] := by rw [hW0]; exact (blk.new' _ _ (by simp)).alloc _
      have hb2 : blk W0 (w.heap.size + 2) [.slice lb n2 bc] := by rw [hW0]; exact blk.new' _ _ (by simp)
      have d0 := hb0.cell (i := 0) rfl
      have d1 := hb1.cell (i := 0) rfl
      have d2 := hb2.cell (i := 0) rfl
      clear hW0 hb0 hb1 hb2
      have hLL := HL.out W0 hc0
      have HC0 := Lib.hid hc0; clear hc0
      go_wp2_with fail
      refine hLL.mono ?_
      rintro e w' ⟨rfl, rfl⟩
      clear hLL
      go_wp2_with fail
      refine (HAR.out _).mono ?_
      rintro e w' ⟨rfl, rfl⟩
      go_wp2_with fail
      go_ret2
      exact ⟨rfl, GTo.same H.out HC0.out⟩
    · rw [if_neg hr] at hWW
      have hyl : nl = n2 := by omega
      have hne : ((nl : Int) != (n2 : Int)) = false := by rw [bne_eq_false_iff_eq]; omega
      subst hyl
      obtain ⟨lb', rfl, hWB⟩ := hB.at_ hnl.1
      have hchk := fun (W : World) (q : Nat) (hW : Ch [] w W) (hq : blk W q [.slice (some ⟨la', 0, none⟩) nl ac, .slice (some ⟨lb', 0, none⟩) nl bc]) =>
        mcheck_is (h.same hW (by simp)) (LS.two (hWA.ch hW) (hWB.ch hW) hq) (n := 2) (c := 2) (by omega) (by rw [lsW_two, List.length_append, hA.len]; omega) (by rw [lsW_two, List.length_append, hA.len, hB.len]; omega) (RS.nil W) (RS.nil W) (by omega) (by omega) (by intro z hz; simp at hz)
      simp only [lsW_two, List.map_append, hcc] at hchk
      have hbuild : cc = 0 → ∀ (W1 : World), Ch [] w W1 → blk W1 w.heap.size [.pointer (some ⟨g, 0, none⟩)] → blk W1 (w.heap.size + 1) [.slice (some ⟨la', 0, none⟩) nl ac] → blk W1 (w.heap.size + 2) [.slice (some ⟨lb', 0, none⟩) nl bc] →
          Calls Try.prog 37 #[.pointer (some ⟨g, 0, none⟩), .func (.func 38) #[] #[.pointer (some ⟨w.heap.size + 1, 0, none⟩), .pointer (some ⟨w.heap.size, 0, none⟩), .pointer (some ⟨w.heap.size + 2, 0, none⟩)]] W1 fun e w' => ∃ v, e = .returned (.tuple #[v, .int .i64 S.1.2]) ∧ MB W1 g G F S.1 (PostR S.2) mzR v w' := fun h0 W1 hW1 k0 k1 k2 => by
        obtain ⟨o1, o2, o3, _, _⟩ := hok h0
        have hne : As.map WV.l ++ Bs.map WV.l ≠ [] := fun e => by
          have := congrArg List.length e
          rw [List.length_append, hla] at this
          simp at this; omega
        refine mbuildR_is (h.same hW1 (by simp)) 38 _ fnvmEqual1 S.1 _ (fun W m hm hW hM => ?_)
        have hall := hW1.trans hW (by simp)
        have hm2 : w.heap.size ≤ m := Nat.le_trans hW1.size hm
        have hc0 := (k0.ch hW (by simp)).cell (i := 0) rfl
        have hc1 := (k1.ch hW (by simp)).cell (i := 0) rfl
        have hc2 := (k2.ch hW (by simp)).cell (i := 0) rfl
        have l0 := k0.lt
        have l1 := k1.lt
        have l2 := k2.lt
        have hnF : ∀ b, w.heap.size ≤ b → b < W1.heap.size → b ∉ m :: F := fun b hb hb2 hin => by
          simp only [List.mem_cons] at hin
          rcases hin with e | hin
          · omega
          · have := h.lt b hin; omega
        have h1 := mEqual1_is hM (As := As) (Bs := Bs) (ac := ac) (bc := bc) (hWA.up hall hm2) (hWB.up hall hm2) (fun x hx => o1 x.l (List.mem_append_left _ (List.mem_map.2 ⟨x, hx, rfl⟩))) (fun x hx => o1 x.l (List.mem_append_right _ (List.mem_map.2 ⟨x, hx, rfl⟩))) hnl.2 (o2 hne) (o3 hne) hc1 hc0 hc2 (hnF _ (by omega) l0) (hnF _ (by omega) l2)
        rw [show (As.map fun x => nats x.l) = (As.map WV.l).map nats by rw [List.map_map]; rfl, show (Bs.map fun x => nats x.l) = (Bs.map WV.l).map nats by rw [List.map_map]; rfl, hS] at h1
        refine h1.mono ?_
        rintro e W' ⟨v, rfl, hrw⟩
        obtain ⟨P, F', q1, q2, q3, q4, q5, q6⟩ := hrw.post
        exact ⟨v, P, F', rfl, q1, q2, q3, q4, q5, q6⟩
      clear hok hcc hS hA hB hWA hWB
      have HL := Lib.hid hL; clear hL
      have HAR := Lib.hid hAr; clear hAr
      have HCHK := Lib.hid hchk; clear hchk
      have HBU := Lib.hid hbuild; clear hbuild
      have H := Lib.hid h; clear h
      have HWW := Lib.hid hWW; clear hWW
      have hn0 : ((G.nodes.length : Int) == 0) = false := beqN (by omega)
      go_enter Try.func12, Try.ntmps12
      go_upto_region 1 with fail
      refine wp_named fun W0 hW0 => ?_
      have hc0 : Ch [] w W0 := by rw [hW0]; exact (((Ch.refl _ _).alloc _).alloc _).alloc _
      have hb0 : blk W0 w.heap.size [.pointer (some ⟨g, 0, none⟩)] := by rw [hW0]; exact ((blk.new' _ _ (by simp)).alloc _).alloc _
      have hb1 : blk W0 (w.heap.size + 1) [.slice (some ⟨la', 0, none⟩) nl ac] := by rw [hW0]; exact (blk.new' _ _ (by simp)).alloc _
      have hb2 : blk W0 (w.heap.size + 2) [.slice (some ⟨lb', 0, none⟩) nl bc] := by rw [hW0]; exact blk.new' _ _ (by simp)
      have d0 := hb0.cell (i := 0) rfl
      have d1 := hb1.cell (i := 0) rfl
      have d2 := hb2.cell (i := 0) rfl
      have l0 := hb0.lt
      have l1 := hb1.lt
      have l2 := hb2.lt
      clear hW0
      have hLL := HL.out W0 hc0
      have HC0 := Lib.hid hc0; clear hc0
      have HB0 := Lib.hid hb0; clear hb0
      have HB1 := Lib.hid hb1; clear hb1
      have HB2 := Lib.hid hb2; clear hb2
      go_wp2_with fail
      refine hLL.mono ?_
      rintro e w' ⟨rfl, rfl⟩
      clear hLL
      go_wp2_with fail
      refine (HAR.out _).mono ?_
      rintro e w' ⟨rfl, rfl⟩
      go_wp2_with fail
      refine calls_named fun W1 hW1 => ?_
      have hc1 := alw_ch hW1
      have e1 := alw_blk (xs := [.slice (some ⟨la', 0, none⟩) nl ac, .slice (some ⟨lb', 0, none⟩) nl bc]) hW1
      clear hW1
      refine (HCHK.out W1 _ (HC0.out.trans hc1 (by simp)) e1).mono ?_
      rintro e w2 ⟨rfl, hc2⟩
      have hc02 := hc1.trans hc2 (by simp)
      have HC2 := Lib.hid (HC0.out.trans hc02 (by simp))
      have hb0' := HB0.out.ch hc02 (by simp)
      have d0' := hb0'.cell (i := 0) rfl
      have HB0' := Lib.hid hb0'; clear hb0'
      have HB1' := Lib.hid (HB1.out.ch hc02 (by simp))
      have HB2' := Lib.hid (HB2.out.ch hc02 (by simp))
      clear e1 hc1 hc2 hc02 d0 d1 d2 HB0 HB1 HB2 HCHK
      by_cases hz : cc = 0
      · have hBB := HBU.out hz w2 HC2.out HB0'.out HB1'.out HB2'.out
        have hww := HWW.out
        rw [if_neg (by simp [hz])] at hww
        subst hz
        have HBB := Lib.hid hBB; clear hBB HBU
        have HW2 := Lib.hid hww; clear hww
        go_wp2_with fail
        refine HBB.out.mono ?_
        rintro e w3 ⟨v, rfl, hmb⟩
        obtain ⟨rfl, hgt⟩ := MB.gto HC2.out hmb
        rw [HW2.out] at hgt ⊢
        have HGT := Lib.hid hgt; clear hgt hmb
        go_wp2_with fail
        go_ret2
        exact ⟨by rw [← HW2.out, rres_e]; rfl, HGT.out⟩
      · have hq : ((cc : Int) != 0) = true := by simp; omega
        have hww := HWW.out
        rw [if_pos hz] at hww
        have HW2 := Lib.hid hww; clear hww
        have HZ := Lib.hid hz; clear hz
        go_wp2_with fail
        go_ret2
        exact ⟨by rw [← HW2.out]; rfl, by rw [← HW2.out]; exact GTo.same H.out HC2.out⟩
end
end Go.Proofs.Ytndcgfnlgcincaa
namespace Go.Aig
def writeS (c : Nat) (x : List Nat) (L : List (List Nat)) (y : List Nat) (n : Nat) (q : Mk × List (List Nat)) (i : Nat) : Mk × List (List Nat) :=
  let a := rstep (isR q.1 y n i).1 (and (isR q.1 y n i).1.1 c (isR q.1 y n i).2)
  let z := chF a.2 a.1 (x.zip (L.getD i []))
  (z.1, q.2.set i z.2)
def writeF (G : Gra) (c : Nat) (x : List Nat) (L : List (List Nat)) (y : List Nat) (n k : Nat) : Mk × List (List Nat) := (List.range k).foldl (writeS c x L y n) ((G, 0), L)
theorem writeF_succ (G : Gra) (c : Nat) (x : List Nat) (L : List (List Nat)) (y : List Nat) (n k : Nat) : writeF G c x L y n (k + 1) = writeS c x L y n (writeF G c x L y n k) k := by
  unfold writeF; rw [List.range_succ, List.foldl_append]; rfl
theorem writeS_bad {c : Nat} {x : List Nat} {L : List (List Nat)} {y : List Nat} {n : Nat} {q : Mk × List (List Nat)} {i : Nat} (h : (isR q.1 y n i).1.2 ≠ 0) : (writeS c x L y n q i).1 = (isR q.1 y n i).1 := by
  have e : (rstep (isR q.1 y n i).1 (and (isR q.1 y n i).1.1 c (isR q.1 y n i).2)).1 = (isR q.1 y n i).1 := by rw [rstep_bad h]
  show (chF _ (rstep (isR q.1 y n i).1 (and (isR q.1 y n i).1.1 c (isR q.1 y n i).2)).1 _).1 = _
  rw [chF_bad0 (by rw [e]; exact h), e]
theorem writeF_bad {G : Gra} {c : Nat} {x : List Nat} {L : List (List Nat)} {y : List Nat} {n k : Nat} (h : (isR (writeF G c x L y n k).1 y n k).1.2 ≠ 0) : ∀ j, k < j → (writeF G c x L y n j).1 = (isR (writeF G c x L y n k).1 y n k).1 := by
  intro j hj
  induction j with
  | zero => omega
  | succ j ih =>
    rw [writeF_succ]
    by_cases e : j = k
    · subst e; exact writeS_bad h
    · have h1 := ih (by omega)
      have h2 : (isR (writeF G c x L y n j).1 y n j).1 = (isR (writeF G c x L y n k).1 y n k).1 := by rw [h1, isR_bad h]
      rw [writeS_bad (by rw [h2]; exact h), h2]
end Go.Aig
namespace Go.Proofs.Ytndcgfnlgcincaa
open Go.RowKit Go.Mem Go.Aig
structure WI (W0 : World) (lo g m : Nat) (G : Gra) (F : List Nat) (ab nl cap width : Nat) (R : Mk) (outs : List (List Nat)) (W : World) (vs : List Value) (P : Mk) (ls : List (List Nat)) (F' : List Nat) : Prop where
  sim : Sim G P R
  out : R.2 = 0 → ls = outs
  mem : MIn W g m P F'
  ch : Ch (m :: ab :: F) W0 W
  own : ∀ k ∈ F', k ∈ F ∨ W0.heap.size + 2 ≤ k
  map : F'[2]? = F[2]?
  arr : row W 25 1 (.slice (some ⟨ab, 0, none⟩) nl cap) nl vs
  len : ls.length = nl
  words : ∀ (i : Nat) (v : Value), vs[i]? = some v → ∃ l, ls[i]? = some l ∧ l.length = width ∧ (∀ r ∈ l, r < 2 * P.1.nodes.length) ∧ row W 26 1 v width (refsCells l) ∧ ∀ k, v.ownBlock = some k → lo ≤ k ∧ k ∉ m :: ab :: F' ∧ k ≠ W0.heap.size ∧ k ≠ W0.heap.size + 1
section
variable {W0 : World} {lo g m : Nat} {G : Gra} {F : List Nat} {ab nl cap width : Nat} {R : Mk} {outs : List (List Nat)} {W A A' : World} {vs : List Value} {P : Mk} {ls : List (List Nat)} {F' : List Nat}
theorem WI.abF (h : WI W0 lo g m G F ab nl cap width R outs W vs P ls F') (e : FR W0 m F ab) : ab ∉ m :: F' := fun hin => by
  have := e.lt
  simp only [List.mem_cons] at hin
  rcases hin with hin | hin
  · exact e.obm hin
  · rcases h.own _ hin with h1 | h1
    · exact e.obF h1
    · omega
theorem WI.noB (h : WI W0 lo g m G F ab nl cap width R outs W vs P ls F') (e : FR W0 m F ab) : ∀ q ∈ m :: F', q ≠ W0.heap.size ∧ q ≠ W0.heap.size + 1 := fun q hq => by
  simp only [List.mem_cons] at hq
  rcases hq with rfl | hq
  · have := e.low q (by simp); omega
  · rcases h.own _ hq with h1 | h1
    · have := e.low q (by simp [h1]); omega
    · omega
theorem WI.same (h : WI W0 lo g m G F ab nl cap width R outs A vs P ls F') (e : FR W0 m F ab) (hc : Ch [W0.heap.size, W0.heap.size + 1] A A') : WI W0 lo g m G F ab nl cap width R outs A' vs P ls F' := by
  have ho := e.lt
  have hs := h.noB e
  refine ⟨h.sim, h.out, h.mem.same hc (fun k hk => by have := hs k hk; simp; omega), h.ch.trans hc (by intro k hk; simp at hk; omega), h.own, h.map, h.arr.ch hc (fun k hk => by cases hk; show ab ∉ _; simp; omega), h.len, fun i v hv => ?_⟩
  obtain ⟨l, h1, h2, h3, h4, h5⟩ := h.words i v hv
  exact ⟨l, h1, h2, h3, h4.ch hc (fun k hk => by have := (h5 k hk).2.2; simp; omega), h5⟩
theorem WI.cell (h : WI W0 lo g m G F ab nl cap width R outs W vs P ls F') {b i : Nat} {x : Value} (hx : W0.cell? ⟨b, i, none⟩ = some x) (hb : b ∉ m :: ab :: F) : W.cell? ⟨b, i, none⟩ = some x := (h.ch.cell (cell_lt hx) hb).trans hx
theorem WI.word (h : WI W0 lo g m G F ab nl cap width R outs W vs P ls F') {x : WV} (hx : WVin W0 (m :: ab :: F) x) : WVin W F' x ∧ ∀ k ∈ ablk x.a, k ∉ m :: F' ∧ k < W.heap.size := by
  have hz := h.ch.size
  have key : ∀ k ∈ ablk x.a, k ∉ m :: F' ∧ k < W.heap.size := fun k hk => by
    obtain ⟨h1, h2⟩ := hx.apart k hk
    simp only [List.mem_cons, not_or] at h1
    refine ⟨?_, by omega⟩
    simp only [List.mem_cons, not_or]
    exact ⟨h1.1, fun hin => (h.own k hin).elim h1.2.2 (fun e => by omega)⟩
  exact ⟨⟨hx.ok.ch h.ch (fun p hp => (hx.apart p.block (ablk_of hp)).1), fun k hk => ⟨fun hin => (key k hk).1 (by simp [hin]), (key k hk).2⟩⟩, key⟩
theorem WI.to (h : WI W0 lo g m G F ab nl cap width R outs W vs P ls F') (e : FR W0 m F ab) (hB : W0.heap.size + 2 ≤ W.heap.size) {P' R' : Mk} {W' : World} (ht : MTo W g m P' F' W') (hs : Sim G P' R') (hx : Ext P.1 P'.1) (hb : R.2 ≠ 0 → R'.2 ≠ 0) : ∃ F1, WI W0 lo g m G F ab nl cap width R' outs W' vs P' ls F1 := by
  obtain ⟨F1, h1, h2, h3, h4⟩ := ht
  have ho := e.lt
  have hz := h.ch.size
  refine ⟨F1, hs, fun h0 => h.out (by by_cases h9 : R.2 = 0; exact h9; exact absurd h0 (hb h9)), h1, h.ch.trans h2 (fun k hk => ?_), fun k hk => ?_, h4.trans h.map, h.arr.ch h2 (fun k hk => by cases hk; exact h.abF e), h.len, fun i v hv => ?_⟩
  · simp only [List.mem_cons] at hk ⊢
    rcases hk with hk | hk
    · exact .inl (.inl hk)
    · rcases h.own k hk with h5 | h5
      · exact .inl (.inr (.inr h5))
      · exact .inr (by omega)
  · rcases h3 k hk with h5 | h5
    · exact h.own k h5
    · exact .inr (by omega)
  · obtain ⟨l, w1, w2, w3, w4, w5⟩ := h.words i v hv
    refine ⟨l, w1, w2, fun r hr => hx.lt (w3 r hr), w4.ch h2 (fun k hk => ?_), fun k hk => ?_⟩
    · have := (w5 k hk).2.1
      simp only [List.mem_cons, not_or] at this ⊢
      exact ⟨this.1, this.2.2⟩
    · obtain ⟨f1, f2, f3⟩ := w5 k hk
      refine ⟨f1, ?_, f3⟩
      simp only [List.mem_cons, not_or] at f2 ⊢
      refine ⟨f2.1, f2.2.1, fun hin => (h3 k hin).elim f2.2.2 (fun h5 => ?_)⟩
      have := (w4.lt k hk).2
      omega
theorem WI.put (h : WI W0 lo g m G F ab nl cap width R outs W vs P ls F') (e : FR W0 m F ab) (hB : W0.heap.size + 2 ≤ W.heap.size) (hlo : lo ≤ W0.heap.size) {S : Mk × List Nat} {va : Option Addr} {vc : Nat} {w1 : World} (hc : CH W g m G P F' S width (.slice va width vc) w1) {i : Nat} (hi : i < nl) (hR : S.1.2 = 0 → R.2 = 0) :
    ∃ P1 ls1 F1, WI W0 lo g m G F ab nl cap width S.1 (outs.set i S.2) (w1.setCell ⟨ab, i, none⟩ (.slice va width vc)) (vs.set i (.slice va width vc)) P1 ls1 F1 ∧ Books W0.heap.size W (w1.setCell ⟨ab, i, none⟩ (.slice va width vc)) := by
  obtain ⟨P1, l1, hs, ho1, hl, hall, hx, F1, hm, hc1, hF1, hmap, hrow, hfr⟩ := hc
  have hob := e.lt
  have hz := h.ch.size
  have hnB := h.noB e
  rw [hl] at hrow
  have hcs : Ch [ab] w1 (w1.setCell ⟨ab, i, none⟩ (.slice va width vc)) := (Ch.refl _ _).setCell (by simp) _
  have hoF1 : ab ∉ m :: F1 := fun hin => by
    have h9 := h.abF e
    simp only [List.mem_cons, not_or] at hin h9
    rcases hin with hin | hin
    · exact h9.1 hin
    · rcases hF1 _ hin with h5 | h5
      · exact h9.2 h5
      · omega
  have harr := h.arr.ch hc1 (fun k hk => by cases hk; have h9 := h.abF e; simpa using h9)
  refine ⟨P1, ls.set i l1, F1, ⟨hs, fun h0 => by rw [ho1 h0, h.out (hR h0)], hm.same hcs (fun k hk => ?_), (h.ch.trans hc1 (fun k hk => ?_)).trans hcs (by simp), fun k hk => ?_, hmap.trans h.map, row.set harr _, by rw [List.length_set]; exact h.len, fun j v hv => ?_⟩, (Books.of_ch hc1 hB (fun k hk => hnB k (by simpa using hk))).trans (Books.of_ch hcs (by have := hc1.size; omega) (by simp; omega))⟩
  · intro hk2
    rw [List.mem_singleton.1 hk2] at hk
    exact hoF1 hk
  · simp only [List.nil_append, List.mem_cons] at hk ⊢
    rcases hk with hk | hk
    · exact .inl (.inl hk)
    · rcases h.own k hk with h5 | h5
      · exact .inl (.inr (.inr h5))
      · exact .inr (by omega)
  · rcases hF1 k hk with h5 | h5
    · exact h.own k h5
    · exact .inr (by omega)
  · by_cases hji : j = i
    · subst hji
      have hvl : vs.length = nl := by have := h.arr.1; omega
      rw [List.getElem?_set_self (by omega)] at hv
      cases hv
      refine ⟨l1, List.getElem?_set_self (by rw [h.len]; exact hi), hl, hall, hrow.ch hcs (fun k hk => ?_), fun k hk => ?_⟩
      · have := hfr k hk; simp; omega
      · obtain ⟨f1, f2, f3⟩ := hfr k hk
        refine ⟨by omega, ?_, by omega, by omega⟩
        simp only [List.mem_cons, not_or]
        exact ⟨f3, by omega, f2⟩
    · rw [List.getElem?_set_ne (fun e => hji e.symm)] at hv
      obtain ⟨l, w1', w2, w3, w4, w5⟩ := h.words j v hv
      refine ⟨l, by rw [List.getElem?_set_ne (fun e => hji e.symm)]; exact w1', w2, fun r hr => hx.lt (w3 r hr), (w4.ch hc1 (fun k hk => ?_)).ch hcs (fun k hk => ?_), fun k hk => ?_⟩
      · have := (w5 k hk).2.1
        simp only [List.mem_cons, not_or, List.nil_append] at this ⊢
        exact ⟨this.1, this.2.2⟩
      · have := (w5 k hk).2.1
        simp only [List.mem_cons, not_or] at this ⊢
        exact ⟨this.2.1, by simp⟩
      · obtain ⟨f1, f2, f3⟩ := w5 k hk
        refine ⟨f1, ?_, f3⟩
        simp only [List.mem_cons, not_or] at f2 ⊢
        refine ⟨f2.1, f2.2.1, fun hin => (hF1 k hin).elim f2.2.2 (fun h5 => ?_)⟩
        have := (w4.lt k hk).2
        omega
def WT (W0 : World) (lo g m : Nat) (G : Gra) (F : List Nat) (ab nl cap width : Nat) (O : Nat → List (List Nat)) (i : Nat) (R : Mk) (W : World) (P : Mk) (F' : List Nat) : Prop := ∃ vs ls, WI W0 lo g m G F ab nl cap width R (O i) W vs P ls F'
theorem WT.ft {O : Nat → List (List Nat)} {bn b2 bm nn n yc : Nat} {ya : Option Addr} {y : List Nat} (e : FR W0 m F ab) (hy : WVin W0 (m :: ab :: F) ⟨ya, natInts y, yc⟩) (cn : W0.cell? ⟨bn, 0, none⟩ = some (.int .i64 nn)) (cy : W0.cell? ⟨b2, 0, none⟩ = some (.slice ya n yc)) (cm : W0.cell? ⟨bm, 0, none⟩ = some (.pointer (some ⟨m, 0, none⟩)))
    (hn : bn ∉ m :: ab :: F) (h2 : b2 ∉ m :: ab :: F) (hm : bm ∉ m :: ab :: F) : FT g m G (WT W0 lo g m G F ab nl cap width O) bn b2 bm nn n yc W0.heap.size ya y where
  mem := by
    rintro i R W P F' ⟨vs, ls, h⟩
    refine ⟨h.mem, h.sim, (h.word hy).1, h.cell cn hn, h.cell cy h2, h.cell cm hm, fun hin => ?_, h.noB e⟩
    have h9 := cell_lt cm
    simp only at h9
    simp only [List.mem_cons, not_or] at hin hm
    rcases hin with hin | hin
    · exact hm.1 hin
    · rcases h.own _ hin with h5 | h5
      · exact hm.2.2 h5
      · omega
  toN := by
    rintro i R W P F' P' R' W' ⟨vs, ls, h⟩ hB ht hs hx hb
    obtain ⟨F1, h1⟩ := h.to e hB ht hs hx hb
    exact ⟨F1, vs, ls, h1⟩
  same := by
    rintro i R A A' P F' ⟨vs, ls, h⟩ hc
    exact ⟨vs, ls, h.same e hc⟩
end
end Go.Proofs.Ytndcgfnlgcincaa
namespace Go.Proofs.Ytndcgfnlgcincaa
open Go.RowKit Go.Mem Go.Aig
attribute [local go_sem] Oper.semAt_some
theorem fnvmWrite1 : Fnv 34 := fnv_of Try.func34 (by simp [Try.f34]) (by simp [Try.f34])
def WA1 (w : World) (g m : Nat) (G : Gra) (F : List Nat) (width : Nat) (S : Mk × List (List Nat)) (v : Value) (w' : World) : Prop :=
  ∃ P vs ls F', Sim G P S.1 ∧ (S.1.2 = 0 → ls = S.2) ∧ MIn w' g m P F' ∧ Ch (m :: F) w w' ∧ (∀ k ∈ F', k ∈ F ∨ w.heap.size ≤ k) ∧ F'[2]? = F[2]? ∧ row w' 25 1 v ls.length vs ∧ (∀ k, v.ownBlock = some k → w.heap.size ≤ k ∧ k ∉ F') ∧
    ∀ (i : Nat) (u : Value), vs[i]? = some u → ∃ l, ls[i]? = some l ∧ l.length = width ∧ (∀ r ∈ l, r < 2 * P.1.nodes.length) ∧ row w' 26 1 u width (refsCells l) ∧ ∀ k, u.ownBlock = some k → w.heap.size ≤ k ∧ k ∉ F' ∧ v.ownBlock ≠ some k
structure CpI (w : World) (m mb ob width : Nat) (Ls : List WV) (wr : World) (v : Value) (k : Nat) (vs : List Value) : Prop where
  ch : Ch [] w wr
  bx : blk wr ob [v]
  mbx : blk wr mb [.pointer (some ⟨m, 0, none⟩)]
  arr : row wr 25 1 v k vs
  own : ∀ q, v.ownBlock = some q → w.heap.size ≤ q ∧ q ≠ ob ∧ q ≠ mb
  words : ∀ (i : Nat) (u : Value), vs[i]? = some u → ∃ x, Ls[i]? = some x ∧ row wr 26 1 u width (intCells x.l) ∧ ∀ q, u.ownBlock = some q → w.heap.size ≤ q ∧ q ≠ ob ∧ q ≠ mb ∧ v.ownBlock ≠ some q
theorem CpI.snoc {w : World} {m mb ob width : Nat} {Ls : List WV} {wr w1 w2 : World} {v : Value} {k : Nat} {vs : List Value} (h : CpI w m mb ob width Ls wr v k vs) (hob : w.heap.size ≤ ob) (hne : ob ≠ mb) {x : WV} (hx : Ls[k]? = some x) {u : Value} {v' : Value} (hr : Ch [] wr w1)
    (hu : row w1 26 1 u width (intCells x.l)) (hown : ∀ q, u.ownBlock = some q → wr.heap.size ≤ q) (h4 : row w2 25 1 v' (k + 1) (vs ++ [u])) (hC : Ch v.ownBlock.toList w1 w2) (hf : ∀ q, v'.ownBlock = some q → v.ownBlock = some q ∨ w1.heap.size ≤ q) :
    CpI w m mb ob width Ls (w2.setCell ⟨ob, 0, none⟩ v') v' (k + 1) (vs ++ [u]) := by
  have hcs : Ch [ob] w2 (w2.setCell ⟨ob, 0, none⟩ v') := (Ch.refl _ _).setCell (by simp) _
  have hobl := h.bx.lt
  have hmbl := h.mbx.lt
  have hz := h.ch.size
  have hz1 := hr.size
  have hvk : vs.length = k := by have := h.arr.1; omega
  have hcv : ∀ q ∈ v.ownBlock.toList, w.heap.size ≤ q ∧ q ≠ ob ∧ q ≠ mb := fun q hq => h.own q (by simpa using hq)
  have hown' : ∀ q, v'.ownBlock = some q → w.heap.size ≤ q ∧ q ≠ ob ∧ q ≠ mb := fun q hq => by
    rcases hf q hq with e | e
    · exact h.own q e
    · exact ⟨by omega, by omega, by omega⟩
  refine ⟨((h.ch.trans hr (by simp)).trans hC (fun q hq => .inr (hcv q hq).1)).trans hcs (by simp; omega), ?_, ?_, h4.ch hcs (fun q hq => by have := (hown' q hq).2.1; simp; omega), hown', fun i z hz' => ?_⟩
  · have := ((h.bx.ch hr (by simp)).ch hC (fun hin => (hcv _ hin).2.1 rfl)).set (i := 0) v'
    exact this
  · exact ((h.mbx.ch hr (by simp)).ch hC (fun hin => (hcv _ hin).2.2 rfl)).ch hcs (by simp; omega)
  · by_cases hi : i < k
    · rw [List.getElem?_append_left (by omega)] at hz'
      obtain ⟨y, k1, k2, k3⟩ := h.words i z hz'
      refine ⟨y, k1, ((k2.ch hr (by simp)).ch hC (fun q hq hin => (k3 q hq).2.2.2 (by simpa using hin))).ch hcs (fun q hq => by have := (k3 q hq).2.1; simp; omega), fun q hq => ?_⟩
      obtain ⟨f1, f2, f3, f4⟩ := k3 q hq
      refine ⟨f1, f2, f3, fun e => ?_⟩
      rcases hf q e with e2 | e2
      · exact f4 e2
      · have := (k2.lt q hq).2; omega
    · have hik : i = k := by
        have := (List.getElem?_eq_some_iff.1 hz').1
        rw [List.length_append] at this
        simp at this; omega
      subst hik
      rw [List.getElem?_append_right (by omega), hvk, Nat.sub_self] at hz'
      cases hz'
      refine ⟨x, hx, (hu.ch hC (fun q hq hin => ?_)).ch hcs (fun q hq => ?_), fun q hq => ?_⟩
      · have h1 := hown q hq
        have h2 := (h.arr.lt q (by simpa using hin)).2
        omega
      · have h1 := hown q hq
        simp; omega
      · have h1 := hown q hq
        refine ⟨by omega, by omega, by omega, fun e => ?_⟩
        rcases hf q e with e2 | e2
        · have h2 := (h.arr.lt q e2).2; omega
        · have := (hu.lt q hq).2; omega
end Go.Proofs.Ytndcgfnlgcincaa
