/-
  Walk over does: acts, one after the other, by the graph and by the reference. Conditions: a slice of acts.
-/
import Derived.Test.YtnajonchjlplmaaQR13a
import Derived.Test.YtnajonchjlplmaaQR13b
import Derived.Test.YtnajonchjlplmaaQR13c
import Derived.Test.YtnajonchjlplmaaQC
namespace Go.Aig
theorem right_or (ns : List Nd) (l : List Int) : (∀ x ∈ l, right ns x = true) ∨ ∃ x ∈ l, right ns x = false := by
  cases h : l.any fun x => !right ns x
  · refine .inl fun x hx => ?_
    have := (List.any_eq_false.1 h) x hx
    simpa using this
  · obtain ⟨x, hx, hr⟩ := List.any_eq_true.1 h
    exact .inr ⟨x, hx, by simpa using hr⟩
end Go.Aig
namespace Go.Proofs.Ytnajonchjlplmaa
open Go.RowKit Go.Mem Go.Aig
/-- the graph behind an act -/
def actG (G : Gra) (kind : Nat) (A B C : Int) (L : List Int) : Gra :=
  if kind % 8 = 0 then (doInput G).1 else if kind % 8 = 1 then (doAnd G A B).1 else if kind % 8 = 2 then (doOr G A B).1 else if kind % 8 = 3 then (doXor G A B).1 else
  if kind % 8 = 4 then (doMux G A B C).1 else if kind % 8 = 5 then (doAll G L).1 else if kind % 8 = 6 then (doAny G L).1 else (doCut G C).1
theorem do_is {w : World} {g : Nat} {G : Gra} {F : List Nat} (h : GIn w g G F) {rb cap : Nat} (hr : RG w rb cap G) (hF : rb ∉ F) {la : Option Addr} {n lcap kind : Nat} {A B C : Int} {L : List Int} (ha : ActV w F la n lcap kind A B C L) :
    Calls Try.prog 61 #[.pointer (some ⟨g, 0, none⟩), .agg #[.int .i64 G.most, .slice (some ⟨rb, 0, none⟩) G.nodes.length cap], .agg #[.int .u8 kind, .int .i64 A, .int .i64 B, .int .i64 C, .slice la n lcap]] w (DoTo w g rb F (actG G kind A B C L)) := by
  unfold actG
  by_cases k0 : kind % 8 = 0
  · rw [if_pos k0]; exact do_Input_yes h hr hF ha k0
  rw [if_neg k0]
  by_cases k1 : kind % 8 = 1
  · rw [if_pos k1]
    rcases right_or G.nodes [A, B] with hr' | hr'
    · exact do_And_yes h hr hF ha k1 hr'
    · have e : doAnd G A B = (G, 0, 200) := by obtain ⟨x, hx, hxr⟩ := hr'; exact whole_no hx hxr
      rw [e]
      exact do_And_no h hr hF ha k1 hr'
  rw [if_neg k1]
  by_cases k2 : kind % 8 = 2
  · rw [if_pos k2]
    rcases right_or G.nodes [A, B] with hr' | hr'
    · exact do_Or_yes h hr hF ha k2 hr'
    · have e : doOr G A B = (G, 0, 200) := by obtain ⟨x, hx, hxr⟩ := hr'; exact whole_no hx hxr
      rw [e]
      exact do_Or_no h hr hF ha k2 hr'
  rw [if_neg k2]
  by_cases k3 : kind % 8 = 3
  · rw [if_pos k3]
    rcases right_or G.nodes [A, B] with hr' | hr'
    · exact do_Xor_yes h hr hF ha k3 hr'
    · have e : doXor G A B = (G, 0, 200) := by obtain ⟨x, hx, hxr⟩ := hr'; exact whole_no hx hxr
      rw [e]
      exact do_Xor_no h hr hF ha k3 hr'
  rw [if_neg k3]
  by_cases k4 : kind % 8 = 4
  · rw [if_pos k4]
    rcases right_or G.nodes [A, B, C] with hr' | hr'
    · exact do_Mux_yes h hr hF ha k4 hr'
    · have e : doMux G A B C = (G, 0, 200) := by obtain ⟨x, hx, hxr⟩ := hr'; exact whole_no hx hxr
      rw [e]
      exact do_Mux_no h hr hF ha k4 hr'
  rw [if_neg k4]
  by_cases k5 : kind % 8 = 5
  · rw [if_pos k5]
    rcases right_or G.nodes L with hr' | hr'
    · exact do_All_yes h hr hF ha k5 hr'
    · have e : doAll G L = (G, 0, 200) := by obtain ⟨x, hx, hxr⟩ := hr'; exact whole_no hx hxr
      rw [e]
      exact do_All_no h hr hF ha k5 hr'
  rw [if_neg k5]
  by_cases k6 : kind % 8 = 6
  · rw [if_pos k6]
    rcases right_or G.nodes L with hr' | hr'
    · exact do_Any_yes h hr hF ha k6 hr'
    · have e : doAny G L = (G, 0, 200) := by obtain ⟨x, hx, hxr⟩ := hr'; exact whole_no hx hxr
      rw [e]
      exact do_Any_no h hr hF ha k6 hr'
  rw [if_neg k6]
  exact do_Cut_yes h hr hF ha (by omega)
/-- an act: what it holds -/
structure ActD where
  k : Nat
  a : Int
  b : Int
  c : Int
  la : Option Addr
  n : Nat
  lc : Nat
  L : List Int
/-- a slice of acts -/
structure ActS (w : World) (a : Option Addr) (n cap : Nat) (l : List ActD) : Prop where
  len : l.length = n
  le : n ≤ cap
  max : cap ≤ 9223372036854775807
  cells : ∀ (i : Nat) (x : ActD), l[i]? = some x → ∃ b o, a = some ⟨b, o, none⟩ ∧ w.cell? ⟨b, o + i * 5, none⟩ = some (.int .u8 x.k) ∧ w.cell? ⟨b, o + i * 5 + 1, none⟩ = some (.int .i64 x.a) ∧ w.cell? ⟨b, o + i * 5 + 2, none⟩ = some (.int .i64 x.b) ∧ w.cell? ⟨b, o + i * 5 + 3, none⟩ = some (.int .i64 x.c) ∧ w.cell? ⟨b, o + i * 5 + 4, none⟩ = some (.slice x.la x.n x.lc)
  bd : ∀ x ∈ l, x.k ≤ 255 ∧ (-9223372036854775808 ≤ x.a ∧ x.a ≤ 9223372036854775807) ∧ (-9223372036854775808 ≤ x.b ∧ x.b ≤ 9223372036854775807) ∧ (-9223372036854775808 ≤ x.c ∧ x.c ≤ 9223372036854775807) ∧ (∀ z ∈ x.L, -9223372036854775808 ≤ z ∧ z ≤ 9223372036854775807) ∧ x.L.length = x.n ∧ x.n ≤ 9223372036854775807
  sl : ∀ x ∈ l, Sl w x.la x.L
  far : ∀ x ∈ l, 0 < x.n → ∀ p, x.la = some p → p.block < w.heap.size
section
set_option maxRecDepth 100000 in
set_option maxHeartbeats 8000000 in
theorem does_is {w : World} {a : Option Addr} {n cap : Nat} {l : List ActD} (hS : ActS w a n cap l) (hn : ∀ x ∈ l, x.n ≤ 1000000) (most : Int) (hm0 : -9223372036854775808 ≤ most) (hm1 : most ≤ 9223372036854775807) :
    Calls Try.prog 31 #[.int .i64 most, .slice a n cap] w fun e w' => e = .returned (.bool true) ∧ Ch [] w w' := by
  by_cases hbad : most < 1 ∨ 65536 < most
  · have hN := fun (W : World) => New_no (w := W) most hbad
    have hR := fun (W : World) => rNew_no W most hbad
    have HN := Lib.hid hN; clear hN
    have HR := Lib.hid hR; clear hR
    clear hbad hS hn
    go_enter Try.func31, Try.ntmps31
    go_wp2_with fail
    refine (HN.out _).mono ?_
    rintro e w' ⟨rfl, rfl⟩
    go_wp2_with fail
    refine (HR.out _).mono ?_
    rintro e w2 ⟨rfl, hc⟩
    have HC := Lib.hid hc; clear hc
    go_wp2_with fail
    go_ret
    exact ⟨rfl, HC.out.alloc _⟩
  · obtain ⟨m, rfl⟩ := Int.eq_ofNat_of_zero_le (show 0 ≤ most by omega)
    have hN := fun (W : World) => New_yes (w := W) m (by omega) (by omega)
    have hR := fun (W : World) => rNew_yes W m (by omega) (by omega)
    have HN := Lib.hid hN; clear hN
    have HR := Lib.hid hR; clear hR
    have hle := hS.le
    have hmx := hS.max
    have HS := Lib.hid hS; clear hS
    have HNN := Lib.hid hn; clear hn
    clear hbad
    go_enter Try.func31, Try.ntmps31
    go_wp2_with fail
    refine (HN.out _).mono ?_
    rintro e w1 ⟨g, F0, rfl, hg1, hF1, hc1⟩
    have HG1 := Lib.hid hg1; clear hg1
    have HF1 := Lib.hid hF1; clear hF1
    have HC1 := Lib.hid hc1; clear hc1 HN
    go_wp2_with fail
    refine (HR.out _).mono ?_
    rintro e w2 ⟨rb0, cap0, rfl, hr2, hc2, hlo2⟩
    have HR2 := Lib.hid hr2; clear hr2
    have HC2 := Lib.hid hc2; clear hc2 HR
    go_upto_region 3 with fail
    refine wp_alw ?_
    intro W3 hW3
    have b7 := alw_blk (xs := [.int .i64 (newG m).most, .slice (some ⟨rb0, 0, none⟩) (newG m).nodes.length cap0]) hW3
    have hc23 := alw_ch hW3
    clear hW3
    have hc3 := (HC1.out.trans HC2.out (by simp)).trans hc23 (by simp)
    have hg3 := (HG1.out.same HC2.out (by simp)).same hc23 (by simp)
    have hr3 := HR2.out.ch hc23 (by simp)
    have hgl := HG1.out.lt
    have hr0F : rb0 ∉ F0 := fun hin => by have := hgl _ hin; omega
    have hb7F : w2.heap.size ∉ F0 := fun hin => by have := hgl _ hin; have := HC2.out.size; omega
    have hb7r : rb0 ≠ w2.heap.size := by have := HR2.out.lt; omega
    have hb7w : w.heap.size ≤ w2.heap.size := by have := HC1.out.size; have := HC2.out.size; omega
    have hw1 := HC1.out.size
    have HF1w := Lib.hid HF1.out
    generalize w2.heap.size = b7a at *
    have B7 := Lib.hid b7; clear b7
    have HC3 := Lib.hid hc3; clear hc3 hc23
    have HG3 := Lib.hid hg3; clear hg3
    have HR3 := Lib.hid hr3; clear hr3
    generalize newG m = G0 at *
    clear HG1 HC1 HC2 HR2 hgl HF1
    go_wp2_with fail
    go_loopw [37] (fun i wr => ∃ (k : Nat) (G : Gra) (F : List Nat) (rb cp : Nat), k ≤ n ∧ i = .int .i64 k ∧ GIn wr g G F ∧ RG wr rb cp G ∧ rb ∉ F ∧ (∀ q ∈ F, w.heap.size ≤ q) ∧ w.heap.size ≤ rb ∧ rb ≠ b7a ∧ b7a ∉ F ∧ Ch [] w wr ∧ blk wr b7a [.int .i64 G.most, .slice (some ⟨rb, 0, none⟩) G.nodes.length cp]) (fun i _ => n - (intOf i).toNat)
    case atStart => exact ⟨0, G0, F0, rb0, cap0, by omega, rfl, HG3.out, HR3.out, hr0F, HF1w.out, by omega, hb7r, hb7F, HC3.out, B7.out⟩
    case round =>
      clear HG3 HR3 hr0F HF1w hb7r hb7F HC3 B7
      obtain ⟨k, G, F, rb, cp, hk, rfl, hg, hrg, hrF, hFw, hrw, hrb, hbF, hc, b7⟩ := hrel
      have y0 := b7.cell (i := 0) rfl
      have y1 := b7.cell (i := 1) rfl
      by_cases hlt : k < n
      · obtain ⟨x, hx⟩ : ∃ x, l[k]? = some x := ⟨_, List.getElem?_eq_getElem (by rw [HS.out.len]; exact hlt)⟩
        have hxm := List.mem_of_getElem? hx
        obtain ⟨xb, xo, rfl, d0, d1, d2, d3, d4⟩ := HS.out.cells k x hx
        have d0 := (hc.cell (cell_lt d0) (by simp)).trans d0
        have d1 := (hc.cell (cell_lt d1) (by simp)).trans d1
        have d2 := (hc.cell (cell_lt d2) (by simp)).trans d2
        have d3 := (hc.cell (cell_lt d3) (by simp)).trans d3
        have d4 := (hc.cell (cell_lt d4) (by simp)).trans d4
        obtain ⟨b0, b1, b2, b3, b4, b5, _⟩ := HS.out.bd x hxm
        have hcA : Ch [] wr (wr.alloc (.cells #[.int .u8 x.k, .int .i64 x.a, .int .i64 x.b, .int .i64 x.c, .slice x.la x.n x.lc] 67)) := (Ch.refl _ _).alloc _
        have hav : ActV (wr.alloc (.cells #[.int .u8 x.k, .int .i64 x.a, .int .i64 x.b, .int .i64 x.c, .slice x.la x.n x.lc] 67)) F x.la x.n x.lc x.k x.a x.b x.c x.L :=
          ⟨b0, b1, b2, b3, b4, ((HS.out.sl x hxm).ch hc (by simp)).ch hcA (by simp), b5, HNN.out x hxm, fun hn p hp => ⟨by have := HS.out.far x hxm hn p hp; have := hc.size; simp; omega, fun hin => by have := HS.out.far x hxm hn p hp; have := hFw _ hin; omega⟩⟩
        have hD := do_is (hg.same hcA (by simp)) (hrg.ch hcA (by simp)) hrF hav
        generalize actG G x.k x.a x.b x.c x.L = G' at *
        have HD := Lib.hid hD; clear hD hav
        have HC := Lib.hid hc; clear hc
        have HCA := Lib.hid hcA; clear hcA
        have HFW := Lib.hid hFw; clear hFw
        have hb7l := b7.lt
        have B7 := Lib.hid b7; clear b7
        have hgl := hg.lt
        have HGL := Lib.hid hgl; clear hgl
        clear hg hx hxm b0 b1 b2 b3 b4 b5
        go_wp2_with fail
        refine HD.out.mono ?_
        rintro e w4 ⟨rb', cp', F', rfl, hg4, hr4, hrF4, hc4, hF4, hfr4⟩
        have h4s : wr.heap.size < w4.heap.size := by have := hc4.size; simp at this; omega
        have hF4' : ∀ q ∈ F', q ∈ F ∨ wr.heap.size ≤ q := fun q hq => (hF4 q hq).imp id (fun e => by simp at e; omega)
        have hb7F' : b7a ∉ F' := fun hin => (hF4' _ hin).elim hbF (by omega)
        have hr4' : w.heap.size ≤ rb' ∧ rb' ≠ b7a := by
          rcases hfr4 with e | e
          · subst e; exact ⟨hrw, hrb⟩
          · simp at e; have := HC.out.size; omega
        have hcw4 : Ch [] w w4 := (HC.out.trans HCA.out (by simp)).trans hc4 (fun q hq => .inr (HFW.out q hq))
        have b7' := (B7.out.ch HCA.out (by simp)).ch hc4 hbF
        have hFW4 : ∀ q ∈ F', w.heap.size ≤ q := fun q hq => (hF4' q hq).elim (HFW.out q) (fun e => by have := HC.out.size; omega)
        have hc45 : Ch [] w4 (w4.alloc (.cells #[.int .i64 G'.most, .slice (some ⟨rb', 0, none⟩) G'.nodes.length cp'] 105)) := (Ch.refl _ _).alloc _
        have hT := told_is (hg4.same hc45 (by simp)) (hr4.ch hc45 (by simp)) hrF4
        have HT := Lib.hid hT; clear hT
        have HG4 := Lib.hid hg4; clear hg4
        have HR4 := Lib.hid hr4; clear hr4
        have HCW4 := Lib.hid hcw4; clear hcw4
        have HC45 := Lib.hid hc45; clear hc45
        have HFW4 := Lib.hid hFW4; clear hFW4
        have b11 : blk (w4.alloc (.cells #[.int .i64 G'.most, .slice (some ⟨rb', 0, none⟩) G'.nodes.length cp'] 105)) w4.heap.size [.int .i64 G'.most, .slice (some ⟨rb', 0, none⟩) G'.nodes.length cp'] := blk.new' [.int .i64 G'.most, .slice (some ⟨rb', 0, none⟩) G'.nodes.length cp'] 105 rfl
        have B11 := Lib.hid b11; clear b11
        have B7' := Lib.hid b7'; clear b7'
        clear hc4 hF4 hF4' hfr4 hrF hrw hrb hbF HD HC HCA B7 y0 y1 d0 d1 d2 d3 d4
        go_wp2_with fail
        refine HT.out.mono ?_
        rintro e w6 ⟨rfl, hc6⟩
        have hc46 := HC45.out.trans hc6 (by simp)
        have b7 := B7'.out.ch hc46 (by simp)
        have b11 := B11.out.ch hc6 (by simp)
        have y0 := b7.cell (i := 0) rfl
        have y1 := b7.cell (i := 1) rfl
        have f0 := b7.frozen (i := 0)
        have f1 := b7.frozen (i := 1)
        have v0 := b11.cell (i := 0) rfl
        have v1 := b11.cell (i := 1) rfl
        have B76 := Lib.hid b7; clear b7
        have HC46 := Lib.hid hc46; clear hc46 hc6 b11
        go_wp2_with fail
        have hcc := set2_ch (w := w6) (b := b7a) (u := .int .i64 G'.most) (v := .slice (some ⟨rb', 0, none⟩) G'.nodes.length cp') rfl
        have hb7' := (B76.out.set (i := 0) (.int .i64 G'.most)).set (i := 1) (.slice (some ⟨rb', 0, none⟩) G'.nodes.length cp')
        go_roundw
        case rel => exact ⟨k + 1, G', F', rb', cp', by omega, by go_num, (HG4.out.same HC46.out (by simp)).same hcc (fun q hq => by simp; intro e; subst e; exact hb7F' hq), (HR4.out.ch HC46.out (by simp)).ch hcc (by simpa using hr4'.2), hrF4, HFW4.out, hr4'.1, hr4'.2, hb7F', (HCW4.out.trans HC46.out (by simp)).trans hcc (fun q hq => .inr (by simp at hq; omega)), hb7'⟩
        case measure => simp [intOf]; omega
      · have hT := told_is hg hrg hrF
        have HT := Lib.hid hT; clear hT
        have HC := Lib.hid hc; clear hc hg hrg b7 hFw
        go_wp2_with fail
        refine HT.out.mono ?_
        rintro e w6 ⟨rfl, hc6⟩
        have HC6 := Lib.hid hc6; clear hc6
        go_wp2_with fail
        go_ret
        exact ⟨rfl, HC.out.trans HC6.out (by simp)⟩
end
end Go.Proofs.Ytnajonchjlplmaa
