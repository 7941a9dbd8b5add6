/-
  Walks over the reference's Any. Conditions: a graph that can be read, a slice of references of it.
-/
import Derived.Test.YtnajonchjlplmaaQR7
namespace Go.Proofs.Ytnajonchjlplmaa
open Go.RowKit Go.Mem Go.Aig
section
set_option maxRecDepth 100000 in
set_option maxHeartbeats 4000000 in
theorem rAny_is {w : World} {rb cap : Nat} {G : Gra} (h : RG w rb cap G) {a : Option Addr} {l : List Nat} (n acap : Nat) (hn : l.length = n) (hs : Sl w a (l.map fun (r : Nat) => (r : Int))) (hr : ∀ r ∈ l, r < 2 * G.nodes.length) (hm : n ≤ 1000000) :
    Calls Try.prog 81 #[.agg #[.int .i64 G.most, .slice (some ⟨rb, 0, none⟩) G.nodes.length cap], .slice a n acap] w (RTo w rb (rAny G l)) := by
  subst hn
  obtain ⟨hl, hp, hmo⟩ := h.len
  have hle := h.le
  have hmx := h.mx
  have hrb := h.lt
  have o1 := rAll_rok h.ok (negs_lt hr)
  have hA := fun (W : World) (hW : RG W rb cap G) (a : Option Addr) (c : Nat) (hS : Sl W a ((l.map neg).map fun (r : Nat) => (r : Int))) => rAll_is hW l.length c (by simp) hS (negs_lt hr) hm
  have hro : rAny G l = if (rAll G (l.map neg)).2.2 ≠ 0 then (G, 0, (rAll G (l.map neg)).2.2) else ((rAll G (l.map neg)).1, neg (rAll G (l.map neg)).2.1, 0) := rfl
  generalize rAll G (l.map neg) = X at *
  generalize rAny G l = RO at *
  have hX3 : X.2.1 < 2 * 65536 := by have := o1.ok.room; have := o1.ok.most; have := o1.lt; omega
  have hNr := fun (W : World) => rNot_is W X.2.1 (by omega)
  have HNR := Lib.hid hNr; clear hNr
  have E1 := Lib.hid o1.err; clear o1
  have HRO := Lib.hid hro; clear hro
  have HA1 := Lib.hid hA; clear hA
  have HS := Lib.hid hs; clear hs
  have HR := Lib.hid hr; clear hr
  have H := Lib.hid h; clear h
  go_enter Try.func81, Try.ntmps81
  go_wp2_with fail
  refine wp_alw ?_
  intro W0 hW0
  have hc0 : Ch [] w W0 := by rw [hW0]; exact ((Ch.refl _ _).alloc _).alloc _
  have b2 : blk W0 w.heap.size [.int .i64 G.most, .slice (some ⟨rb, 0, none⟩) G.nodes.length cap] := by rw [hW0]; exact (blk.new' (w := w) [.int .i64 G.most, .slice (some ⟨rb, 0, none⟩) G.nodes.length cap] 105 rfl).alloc _
  have b4 : blk W0 (w.heap.size + 1) [.int .i64 0, .slice none 0 0] := by rw [hW0]; exact blk.new' [.int .i64 0, .slice none 0 0] 105 (by simp)
  clear hW0
  have hr0 := H.out.ch hc0 (by simp)
  have hb4l := b4.lt
  have B2 := Lib.hid b2; clear b2
  have B4 := Lib.hid b4; clear b4
  have HC0 := Lib.hid hc0; clear hc0
  have HR0 := Lib.hid hr0; clear hr0
  go_loopw [7, 8] (fun o i wr => ∃ k : Nat, k ≤ l.length ∧ i = .int .i64 k ∧ Ch [] W0 wr ∧ row wr 3 1 o k (refsCells ((l.take k).map neg)) ∧ ∀ q ∈ o.ownBlock.toList, W0.heap.size ≤ q) (fun _ i _ => l.length - (intOf i).toNat)
  case atStart => exact ⟨0, by omega, rfl, Ch.refl _ _, ⟨rfl, .inl ⟨rfl, rfl⟩⟩, by simp⟩
  case round =>
    obtain ⟨k, hk, rfl, hc, hrow, hlo⟩ := hrel
    obtain ⟨oa, oc, rfl⟩ := row.shape hrow
    by_cases hlt : k < l.length
    · obtain ⟨x, hx⟩ : ∃ x, l[k]? = some x := ⟨_, List.getElem?_eq_getElem hlt⟩
      have hxb := HR.out x (List.mem_of_getElem? hx)
      have hsu : refsCells ((l.take (k + 1)).map neg) = refsCells ((l.take k).map neg) ++ [.int .i64 (neg x : Nat)] := by unfold refsCells; rw [List.take_add_one, hx]; simp
      obtain ⟨xb, xo, rfl, hcl⟩ := HS.out.cells k x (by rw [List.getElem?_map, hx]; rfl)
      have c0 := ((HC0.out.trans hc (by simp)).cell (cell_lt hcl) (by simp)).trans hcl
      have hNx := rNot_is wr x (by omega)
      have HNX := Lib.hid hNx; clear hNx
      have HSU := Lib.hid hsu; clear hsu hx hcl
      generalize neg x = nx at *
      have hcA : Ch [] wr (wr.alloc (.cells #[.int .i64 nx] 3)) := (Ch.refl _ _).alloc _
      have hrA := hrow.ch hcA (by simp)
      have hbA : blk (wr.alloc (.cells #[.int .i64 nx] 3)) wr.heap.size [.int .i64 nx] := blk.new' _ _ rfl
      have HRA := Lib.hid hrA; clear hrA hrow
      have HBA := Lib.hid hbA; clear hbA
      have HCA := Lib.hid hcA; clear hcA
      have HC := Lib.hid hc; clear hc
      have HLO := Lib.hid hlo; clear hlo
      go_wp2_with fail
      refine HNX.out.mono ?_
      rintro e w' ⟨rfl, rfl⟩
      go_wp2_with (at_builtin; go_loud (refine wpList_append_row slInts rfl _ _ rfl (v := .slice oa k oc) (n := k) (xs := refsCells ((l.take k).map neg)) rfl HRA.out (ad := ⟨wr.heap.size, 0, none⟩) (m := 1) (c := 1) (news := [.int .i64 nx]) rfl rfl (news_blk HBA.out) (by simp [Value.oneCell']) (by omega) (by omega) ?_; intro v' w4 hown4 hC4 hf4; have HO4 := Lib.hid hown4; clear hown4; have HC4 := Lib.hid hC4; clear hC4; have HF4 := Lib.hid hf4; clear hf4))
      go_roundw
      case rel =>
        obtain ⟨q1, q2⟩ := app_step HC.out HCA.out HLO.out HC4.out HF4.out
        refine ⟨k + 1, by omega, by go_num, q1, ?_, q2⟩
        rw [HSU.out]; exact HO4.out
      case measure => simp [intOf]; omega
    · have hkn : k = l.length := by omega
      rw [hkn, List.take_of_length_le (Nat.le_refl _)] at hrow
      rw [hkn] at hlo
      rw [hkn]
      have y0 := (B2.out.ch hc (by simp)).cell (i := 0) rfl
      have y1 := (B2.out.ch hc (by simp)).cell (i := 1) rfl
      have hsl := Sl.of_row' hrow (by simp) (by omega)
      have hA := HA1.out wr (HR0.out.ch hc (by simp)) oa oc hsl
      have hlr := hc.size
      have hcw := HC0.out.trans hc (by simp)
      have b4 := B4.out.ch hc (by simp)
      have b2 := B2.out.ch hc (by simp)
      have HA := Lib.hid hA; clear hA
      have B44 := Lib.hid b4; clear b4
      have B22 := Lib.hid b2; clear b2
      have HCW := Lib.hid hcw; clear hcw
      clear hkn hrow hlo hc hsl
      go_wp2_with fail
      refine HA.out.mono ?_
      rintro e w5 ⟨rb1, cap1, rfl, hrg, hch, hfr⟩
      have hfr1 : rb1 = rb ∨ w.heap.size + 1 < rb1 := by have := B44.out.lt; rcases hfr with e | e <;> omega
      have hnX := rg_ne hrg
      have hlo5 : w.heap.size + 1 < w5.heap.size := (B44.out.ch hch (by simp)).lt
      have HRG := Lib.hid hrg; clear hrg
      have HCH := Lib.hid hch; clear hch hfr HA y0 y1
      go_upto_region 7 with fail
      refine wp_alw ?_
      intro W6 hW6
      have hbX := alw_blk (xs := [.int .i64 X.1.most, .slice (some ⟨rb1, 0, none⟩) X.1.nodes.length cap1]) hW6
      have hc56 := alw_ch hW6
      have hrX := HRG.out.ch hc56 (by simp)
      have hc6 := (HCW.out.trans HCH.out (by simp)).trans hc56 (by simp)
      have b2 := (B22.out.ch HCH.out (by simp)).ch hc56 (by simp)
      have b4 := (B44.out.ch HCH.out (by simp)).ch hc56 (by simp)
      clear hW6 hc56 HRG HCH HCW B22 B44
      generalize w5.heap.size = b5 at *
      have x0 := hbX.cell (i := 0) rfl
      have x1 := hbX.cell (i := 1) rfl
      have y0 := b2.cell (i := 0) rfl
      have y1 := b2.cell (i := 1) rfl
      have v0 := b4.cell (i := 0) rfl
      have v1 := b4.cell (i := 1) rfl
      have f0 := b4.frozen (i := 0)
      have f1 := b4.frozen (i := 1)
      have RX := Lib.hid hrX; clear hrX
      have HC6 := Lib.hid hc6; clear hc6 b2 b4 hbX
      rcases E1.out with he | he
      · have q : ((X.2.2 : Int) != 0) = false := by simp [he]
        have hro := HRO.out
        rw [if_neg (by simp [he])] at hro
        have HRO2 := Lib.hid hro; clear hro he HRO
        go_wp2_with fail
        refine Ord.St.door (fun _ => True) [.rd, .fl, .fl, .ef, .fl, .fl] [0, 0, 2, 7, 15, 31] [0, 1, 2, 3, 4, 5] mixed (by kernel_rfl) rfl ?_
        refine Ord.St.rd2 (T' := ?_) 0 [1, 2, 3, 4, 5] _ _ rfl (by kernel_rfl) rfl rfl rfl rfl (fun K hk => ?_) ?_
        rotate_left
        · go_step; exact hk
        refine Ord.St.fl2 (T' := ?_) 1 [2, 3, 4, 5] _ _ rfl (by kernel_rfl) rfl rfl rfl rfl (fun K w' hk => ?_) ?_
        rotate_left
        · go_step; exact hk
        refine Ord.St.fl2 (T' := ?_) 2 [3, 4, 5] _ _ rfl (by kernel_rfl) rfl rfl rfl rfl (fun K w' hk => ?_) ?_
        rotate_left
        · go_step; refine (HNR.out _).mono ?_; rintro e w'' ⟨rfl, rfl⟩; exact hk
        refine Ord.St.ef 3 [4, 5] _ rfl (by kernel_rfl) (fun K hK => ?_)
        go_wp2_with fail
        refine ⟨rfl, hK _ _ ?_⟩; clear hK K
        refine Ord.St.fl2 (T' := ?_) 4 [5] _ _ rfl (by kernel_rfl) rfl rfl rfl rfl (fun K w' hk => ?_) ?_
        rotate_left
        · go_step; exact hk
        refine Ord.St.fl2 (T' := ?_) 5 [] _ _ rfl (by kernel_rfl) rfl rfl rfl rfl (fun K w' hk => ?_) ?_
        rotate_left
        · go_step; exact hk
        refine Ord.St.nil ?_
        go_wp2_with fail
        have hcc : Ch [w.heap.size + 1] W6 ((W6.setCell ⟨w.heap.size + 1, 0, none⟩ (.int .i64 X.1.most)).setCell ⟨w.heap.size + 1, 1, none⟩ (.slice (some ⟨rb1, 0, none⟩) X.1.nodes.length cap1)).drew := (((Ch.refl _ _).setCell (by simp) _).setCell (by simp) _).drew
        refine bodyPost_ret (v := .tuple #[.agg #[.int .i64 X.1.most, .slice (some ⟨rb1, 0, none⟩) X.1.nodes.length cap1], .int .i64 (neg X.2.1 : Nat), .int .i64 0]) (by simp [results, Try.results81, go_sem, v0, v1]) rfl ?_
        rw [HRO2.out]
        exact ⟨rb1, cap1, rfl, RX.out.ch hcc (by simp; omega), HC6.out.trans hcc (fun k hk => .inr (by simp at hk; omega)), by omega⟩
      · have q : ((X.2.2 : Int) != 0) = true := by simp [he]
        have hro := HRO.out
        rw [if_pos (by simp [he])] at hro
        have HRO2 := Lib.hid hro; clear hro he HRO
        go_wp2_with fail
        have hcc := set2_ch (w := W6) (b := w.heap.size + 1) (u := .int .i64 G.most) (v := .slice (some ⟨rb, 0, none⟩) G.nodes.length cap) rfl
        refine bodyPost_ret (v := .tuple #[.agg #[.int .i64 G.most, .slice (some ⟨rb, 0, none⟩) G.nodes.length cap], .int .i64 0, .int .i64 X.2.2]) (by simp [results, Try.results81, go_sem, v0, v1]) rfl ?_
        rw [HRO2.out]
        exact RTo.self H.out (HC6.out.trans hcc (fun k hk => .inr (by simp at hk; omega))) 0 X.2.2
end
end Go.Proofs.Ytnajonchjlplmaa
