/-
  Contracts of functions that MuxesMakes reaches, and plain facts (part B). Conditions: the hypotheses of each theorem.
-/
import Derived.Test.YtehljgigebhddaaGreatQA
import Derived.Laws.Cover3
import Derived.RangeFuncNested
import Derived.RangeFuncBound
import Derived.RangeFuncCalls
import Derived.RangeFuncLeaves
import Derived.Shelf.Abstract
import Derived.Shelf.RegionOpen
import Derived.WalkKit
import Derived.OwnWalkIn
import Derived.TacticsInMore
import Derived.LoopNIn
import Derived.LoopIn
import Derived.Laws.ResultCell
import Derived.Deep.Cut
namespace Go.Proofs.YtehljgigebhddaaGreat
open Go.RowKit Go.Mem Go.Aig

def GIn (w : World) (g : Nat) (G : Gra) (F : List Nat) : Prop := ∃ nb ncap iv mb, GM w g G nb ncap iv mb ∧ F = fp g nb mb iv
def GTo (w : World) (g : Nat) (G : Gra) (F : List Nat) (w' : World) : Prop := ∃ F', GIn w' g G F' ∧ Ch F w w' ∧ (∀ k ∈ F', k ∈ F ∨ w.heap.size ≤ k) ∧ F'[2]? = F[2]?
theorem GIn.ok {w : World} {g : Nat} {G : Gra} {F : List Nat} (h : GIn w g G F) : Ok G := by obtain ⟨_, _, _, _, h, _⟩ := h; exact h.ok
theorem GIn.same {w w' : World} {g : Nat} {G : Gra} {F F' : List Nat} (h : GIn w g G F) (hc : Ch F' w w') (hF : ∀ k ∈ F, k ∉ F') : GIn w' g G F := by
  obtain ⟨nb, ncap, iv, mb, h, rfl⟩ := h
  exact ⟨nb, ncap, iv, mb, h.ch hc hF, rfl⟩
theorem GIn.lt {w : World} {g : Nat} {G : Gra} {F : List Nat} (h : GIn w g G F) : ∀ k ∈ F, k < w.heap.size := by
  obtain ⟨nb, ncap, iv, mb, h, rfl⟩ := h
  obtain ⟨h1, h2, h3, h4⟩ := h.lt
  intro k hk
  simp only [fp, List.mem_cons, Option.mem_toList] at hk
  rcases hk with rfl | rfl | rfl | hk
  · exact h1
  · exact h2
  · exact h3
  · exact h4 k hk
theorem GTo.same {w w' : World} {g : Nat} {G : Gra} {F : List Nat} (h : GIn w g G F) (hc : Ch [] w w') : GTo w g G F w' :=
  ⟨F, h.same hc (by simp), hc.mono (by simp), fun _ hk => .inl hk, rfl⟩
theorem GTo.of {w w' : World} {g : Nat} {G : Gra} {nb nb' ncap' : Nat} {iv iv' : Value} {mb : Nat} (h : GM w' g G nb' ncap' iv' mb) (hc : Ch (fp g nb mb iv) w w') (hn : nb' = nb ∨ w.heap.size ≤ nb') (hi : ∀ k, iv'.ownBlock = some k → iv.ownBlock = some k ∨ w.heap.size ≤ k) : GTo w g G (fp g nb mb iv) w' := by
  refine ⟨_, ⟨_, _, _, _, h, rfl⟩, hc, fun k hk => ?_, rfl⟩
  simp only [fp, List.mem_cons, Option.mem_toList] at hk ⊢
  rcases hk with rfl | rfl | rfl | hk
  · simp
  · rcases hn with e | e
    · simp [e]
    · exact .inr e
  · simp
  · rcases hi k hk with e | e
    · simp [e]
    · exact .inr e

theorem fnvMake1 : Fnv 294 := fnv_of Tryz.func294 (by simp [Tryz.f294]) (by simp [Tryz.f294])
section
variable {w : World} {g : Nat} {G : Gra} {nb ncap : Nat} {iv : Value} {mb : Nat}
set_option maxRecDepth 100000 in
set_option maxHeartbeats 1000000 in
theorem make1_is (h : GM w g G nb ncap iv mb) {bx : Nat} (hb : w.cell? ⟨bx, 0, none⟩ = some (.pointer (some ⟨g, 0, none⟩))) (r : Int) (hr : r ≤ 9223372036854775807) :
    Calls Tryz.prog 294 (#[.int .i64 r] ++ #[.pointer (some ⟨bx, 0, none⟩)]) w fun e w' => e = .returned (.bool (!right G.nodes r)) ∧ w = w' := by
  show Calls Tryz.prog 294 #[.int .i64 r, .pointer (some ⟨bx, 0, none⟩)] w _
  have HR := Right_is h r hr
  clear h
  generalize right G.nodes r = q at *
  go_enter Tryz.func294, Tryz.ntmps294
  go_wp2_with fail
  refine HR.mono ?_
  rintro e w' ⟨rfl, rfl⟩
  go_wp2_with fail
  go_ret
  exact ⟨ret_bool rfl, rfl⟩

set_option maxRecDepth 100000 in
set_option maxHeartbeats 2000000 in
theorem make_is (h : GM w g G nb ncap iv mb) {a : Option Addr} {l : List Int} (cap : Nat) (hl : Sl w a l) (hlb : ∀ x ∈ l, x ≤ 9223372036854775807) (halt : ∀ p, a = some p → p.block < w.heap.size) (fid : Nat) (caps : Array Value) (hfn : Fnv fid) (f : Mk → Mk × Nat)
    (hf : (∀ x ∈ l, right G.nodes x = true) → ∀ W m, w.heap.size ≤ m → Ch [] w W → MS W g m (G, 0) nb ncap iv mb → Calls Tryz.prog fid (#[.pointer (some ⟨m, 0, none⟩)] ++ caps) W fun e w' => e = .returned (.int .i64 (f (G, 0)).2) ∧ ∃ nb' ncap', MStep W g m (f (G, 0)).1 nb iv mb nb' ncap' w')
    (hext : (∀ x ∈ l, right G.nodes x = true) → MOk (f (G, 0)).1 ∧ Ext G (f (G, 0)).1.1) :
    Calls Tryz.prog 211 #[.pointer (some ⟨g, 0, none⟩), .func (.func fid) #[] caps, .slice a l.length cap] w fun e w' => e = .returned (.tuple #[.int .i64 (whole G l f).2.1, .int .i64 (whole G l f).2.2]) ∧ GTo w g (whole G l f).1 (fp g nb mb iv) w' := by
  have hl0 := h.lt
  have hg := h.lt.1
  have hp : ∀ x, right G.nodes x = !(!right G.nodes x) := fun x => by simp
  have hW1 : Ch [] w (w.alloc (.cells #[.pointer (some ⟨g, 0, none⟩)] 42)) := (Ch.refl _ _).alloc _
  have H1 := h.ch hW1 (by simp)
  have b1 : (w.alloc (.cells #[.pointer (some ⟨g, 0, none⟩)] 42)).cell? ⟨w.heap.size, 0, none⟩ = some (.pointer (some ⟨g, 0, none⟩)) := by go_simp
  have HN := none_no H1
  have hl1 : Sl (w.alloc (.cells #[.pointer (some ⟨g, 0, none⟩)] 42)) a l := ⟨fun i x hx => by
    obtain ⟨b, o, hao, hc⟩ := hl.cells i x hx
    exact ⟨b, o, hao, (hW1.cell (p := ⟨b, o + i, none⟩) (halt ⟨b, o, none⟩ hao) (by simp)).trans hc⟩, hl.bd⟩
  have HC := CFref_is cap 294 #[.pointer (some ⟨w.heap.size, 0, none⟩)] (fun x => !right G.nodes x) hl1 (fun x hx => make1_is H1 b1 x (hlb x hx)) fnvMake1
  have H := Lib.hid h; clear h
  have HH1 := Lib.hid H1; clear H1
  clear hl1 b1 hl
  unfold whole
  cases hany : l.any fun x => !right G.nodes x
  · have hright : ∀ x ∈ l, right G.nodes x = true := by simpa using hany
    rw [hany] at HC
    rw [if_neg (by simp)]
    have HF := hf hright
    obtain ⟨ho, hx⟩ := hext hright
    have hoe := ho.err
    have HO := Lib.hid ho; clear ho
    have HX := Lib.hid hx; clear hx
    have HR := Lib.hid hright; clear hright
    clear hf hext
    have hgs := H.out.ok.room
    have hgm := H.out.ok.most
    have hgp := H.out.ok.wf.pos
    have h1m : G.nodes.length ≤ 65536 := by omega
    clear hgs hgm
    have cG := H.out.c
    obtain ⟨c0, c1, c2, c3⟩ := cG
    generalize hR : f (G, 0) = R at *
    clear hR
    dsimp only
    generalize hWW : (if R.1.2 ≠ 0 then (G, 0, R.1.2) else (R.1.1, R.2, 0) : Res) = WW
    have HWW := Lib.hid hWW; clear hWW
    have hms : MS ((w.alloc (.cells #[.pointer (some ⟨g, 0, none⟩)] 42)).alloc (.cells #[.pointer (some ⟨g, 0, none⟩), .int .i64 0] 350)) g (w.heap.size + 1) (G, 0) nb ncap iv mb := by
      have hc : Ch [] w ((w.alloc (.cells #[.pointer (some ⟨g, 0, none⟩)] 42)).alloc (.cells #[.pointer (some ⟨g, 0, none⟩), .int .i64 0] 350)) := hW1.alloc _
      refine ⟨H.out.ch hc (by simp), blk.new' _ _ (by simp), ?_, ⟨H.out.ok, .inl rfl⟩⟩
      intro hm
      have := GIn.lt ⟨nb, ncap, iv, mb, H.out, rfl⟩ _ hm
      omega
    have HM := Lib.hid hms; clear hms
    have HW2 := Lib.hid (hW1.alloc (.cells #[.pointer (some ⟨g, 0, none⟩), .int .i64 0] 350)); clear hW1
    have hcf : ∀ args w, (callFunc fid args).run Tryz.prog w = .ok (.enter fid args) w := hfn
    have HF2 := HF _ (w.heap.size + 1) (by omega) HW2.out HM.out
    clear HF
    go_enter Tryz.func211, Tryz.ntmps211
    go_wp2_with fail
    refine HN.mono ?_
    rintro e w' ⟨rfl, rfl⟩
    go_wp2_with fail
    refine HC.mono ?_
    rintro e w' ⟨rfl, rfl⟩
    go_wp2_with fail
    refine HF2.mono ?_
    rintro e w3 ⟨rfl, nb', ncap', hs⟩
    have hgm3 := hs.ms.gm
    have hz3 := hs.ch.size
    simp at hz3
    have hfre : nb' = nb ∨ w.heap.size ≤ nb' := by
      rcases hs.fresh with e | e
      · exact .inl e
      · simp at e; omega
    have m1 : w3.cell? ⟨w.heap.size + 1, 1, none⟩ = some (.int .i64 R.1.2) := hs.ms.bk.cell rfl
    have hmn : w.heap.size + 1 < w3.heap.size := hs.ms.bk.lt
    have hb0 : w3.cell? ⟨w.heap.size, 0, none⟩ = some (.pointer (some ⟨g, 0, none⟩)) := by
      rw [hs.ch.cell (by simp; omega) (by
        have := GIn.lt ⟨nb, ncap, iv, mb, H.out, rfl⟩
        have h1 := this nb (by simp [fp]); have h2 := this mb (by simp [fp])
        simp; omega)]
      go_simp
    have hchw : Ch (fp g nb mb iv) w w3 := (HW2.out.mono (by simp)).trans hs.ch (fun k hk => by
      simp only [List.mem_cons, List.not_mem_nil, or_false] at hk
      rcases hk with rfl | rfl | rfl | rfl
      · simp [fp]
      · simp [fp]
      · simp [fp]
      · right; omega)
    have HS := Lib.hid hs; clear hs
    have HG3 := Lib.hid hgm3; clear hgm3
    have HCW := Lib.hid hchw; clear hchw
    rcases hoe with he | he
    · rw [he] at m1
      have HE := Lib.hid he; clear he
      go_wp2_with fail
      go_ret2
      have hw := HWW.out
      rw [if_neg (by rw [HE.out]; simp)] at hw
      subst hw
      exact ⟨rfl, GTo.of HG3.out HCW.out hfre (fun k hk => .inl hk)⟩
    · rw [he] at m1
      have HE := Lib.hid he; clear he
      have hcut := Cut_is HG3.out G.nodes.length hgp HX.out.len
      have HCUT := Lib.hid hcut; clear hcut
      go_wp2_with fail
      refine HCUT.out.mono ?_
      rintro e w4 ⟨rfl, iv', hgm4, hob, hch⟩
      have hm4 : w4.cell? ⟨w.heap.size + 1, 1, none⟩ = some (.int .i64 201) := (hch.cell (p := ⟨w.heap.size + 1, 1, none⟩) hmn HS.out.ms.apart).trans m1
      clear m1
      have HG4 := Lib.hid hgm4; clear hgm4
      have HC4 := Lib.hid hch; clear hch
      have HOB := Lib.hid hob; clear hob
      go_wp2_with fail
      refine Ord.St.door (fun _ => True) [.fl, .fl, .fl, .rd, .fl, .fl] [0, 1, 3, 7, 0, 31] [0, 1, 2, 3, 4, 5] mixed (by kernel_rfl) rfl ?_
      refine Ord.St.fl2 (T' := ?_) 0 [1, 2, 3, 4, 5] _ _ rfl (by kernel_rfl) rfl rfl rfl rfl (fun K w' hk => ?_) ?_
      rotate_left
      · go_step; exact hk
      refine Ord.St.fl2 (T' := ?_) 1 [2, 3, 4, 5] _ _ rfl (by kernel_rfl) rfl rfl rfl rfl (fun K w' hk => ?_) ?_
      rotate_left
      · go_step; exact hk
      refine Ord.St.fl2 (T' := ?_) 2 [3, 4, 5] _ _ rfl (by kernel_rfl) rfl rfl rfl rfl (fun K w' hk => ?_) ?_
      rotate_left
      · go_step; exact hk
      refine Ord.St.rd2 (T' := ?_) 3 [4, 5] _ _ rfl (by kernel_rfl) rfl rfl rfl rfl (fun K hk => ?_) ?_
      rotate_left
      · go_step; exact hk
      refine Ord.St.fl2 (T' := ?_) 4 [5] _ _ rfl (by kernel_rfl) rfl rfl rfl rfl (fun K w' hk => ?_) ?_
      rotate_left
      · go_step; exact hk
      refine Ord.St.fl2 (T' := ?_) 5 [] _ _ rfl (by kernel_rfl) rfl rfl rfl rfl (fun K w' hk => ?_) ?_
      rotate_left
      · go_step; exact hk
      refine Ord.St.nil ?_
      go_wp2_with fail
      go_ret2
      have ht : ({ R.1.1 with nodes := R.1.1.nodes.take G.nodes.length } : Gra) = G := by
        obtain ⟨e1, more, e2⟩ := HX.out
        show ({ most := R.1.1.most, nodes := R.1.1.nodes.take G.nodes.length } : Gra) = G
        rw [e1, e2, List.take_left]
      have hg4 := HG4.out
      rw [ht] at hg4
      have hw := HWW.out
      rw [if_pos (by rw [HE.out]; simp), HE.out] at hw
      subst hw
      refine ⟨rfl, ?_⟩
      refine GTo.of (hg4.ch (F := []) ((Ch.refl _ _).drew) (by simp)) (HCW.out.trans HC4.out.drew ?_) hfre (fun k hk => .inl (by rw [HOB.out] at hk; exact hk))
      intro k hk
      simp only [fp, List.mem_cons, Option.mem_toList] at hk ⊢
      rcases hk with rfl | rfl | rfl | hk
      · simp
      · rcases hfre with e | e
        · simp [e]
        · exact .inr e
      · simp
      · simp [hk]
  · rw [hany] at HC
    rw [if_pos rfl]
    go_enter Tryz.func211, Tryz.ntmps211
    go_wp2_with fail
    refine HN.mono ?_
    rintro e w' ⟨rfl, rfl⟩
    go_wp2_with fail
    refine HC.mono ?_
    rintro e w' ⟨rfl, rfl⟩
    go_wp2_with fail
    go_ret2
    exact ⟨rfl, GTo.same ⟨_, _, _, _, H.out, rfl⟩ hW1⟩
end
end Go.Proofs.YtehljgigebhddaaGreat
namespace Go.Proofs.YtehljgigebhddaaGreat
open Go.RowKit Go.Mem Go.Aig

theorem right_nat {ns : List Nd} {x : Int} (h : right ns x = true) : ∃ r : Nat, x = r ∧ r < 2 * ns.length := by
  unfold right at h
  have := of_decide_eq_true h
  exact ⟨x.toNat, by omega, by omega⟩
def doAnd (G : Gra) (a b : Int) : Res := whole G [a, b] fun s => mand s a.toNat b.toNat
def doXor (G : Gra) (a b : Int) : Res := whole G [a, b] fun s => mmux s a.toNat (neg b.toNat) b.toNat
def doMux (G : Gra) (c a b : Int) : Res := whole G [c, a, b] fun s => mmux s c.toNat a.toNat b.toNat
def doAll (G : Gra) (l : List Int) : Res := whole G l fun s => mall s 1 (l.map Int.toNat)
def doAny (G : Gra) (l : List Int) : Res := whole G l fun s => many s (l.map Int.toNat)
theorem fnvAnd1 : Fnv 212 := fnv_of Tryz.func212 (by simp [Tryz.f212]) (by simp [Tryz.f212])
theorem fnvXor1 : Fnv 351 := fnv_of Tryz.func351 (by simp [Tryz.f351]) (by simp [Tryz.f351])
theorem fnvMux1 : Fnv 225 := fnv_of Tryz.func225 (by simp [Tryz.f225]) (by simp [Tryz.f225])
theorem fnvAll1 : Fnv 273 := fnv_of Tryz.func273 (by simp [Tryz.f273]) (by simp [Tryz.f273])
theorem fnvAny1 : Fnv 306 := fnv_of Tryz.func306 (by simp [Tryz.f306]) (by simp [Tryz.f306])
section
variable {w : World} {g : Nat} {nb ncap : Nat} {iv : Value} {mb : Nat}
theorem MS.ch {w' : World} {m : Nat} {s : Mk} (h : MS w g m s nb ncap iv mb) (hc : Ch [] w w') : MS w' g m s nb ncap iv mb :=
  ⟨h.gm.ch hc (by simp), h.bk.ch hc (by simp), h.apart, h.ok⟩
theorem MStep.of {w0 w' : World} {m : Nat} {s : Mk} {nb' ncap' : Nat} (h : MStep w g m s nb iv mb nb' ncap' w') (hc : Ch [] w0 w) : MStep w0 g m s nb iv mb nb' ncap' w' :=
  ⟨h.ms, h.fresh.imp id (fun e => by have := hc.size; omega), (hc.mono (by simp)).trans h.ch (fun k hk => .inl hk)⟩

set_option maxRecDepth 100000 in
set_option maxHeartbeats 1000000 in
theorem And1_is {m : Nat} {s : Mk} (h : MS w g m s nb ncap iv mb) {a b : Nat} (ha : a < 2 * s.1.nodes.length) (hb : b < 2 * s.1.nodes.length) {x y : Nat} (bx : w.cell? ⟨x, 0, none⟩ = some (.int .i64 a)) (by' : w.cell? ⟨y, 0, none⟩ = some (.int .i64 b)) :
    Calls Tryz.prog 212 (#[.pointer (some ⟨m, 0, none⟩)] ++ #[.pointer (some ⟨x, 0, none⟩), .pointer (some ⟨y, 0, none⟩)]) w fun e w' => e = .returned (.int .i64 (mand s a b).2) ∧ ∃ nb' ncap', MStep w g m (mand s a b).1 nb iv mb nb' ncap' w' := by
  show Calls Tryz.prog 212 #[.pointer (some ⟨m, 0, none⟩), .pointer (some ⟨x, 0, none⟩), .pointer (some ⟨y, 0, none⟩)] w _
  have HA := mand_is h ha hb
  clear h ha hb
  generalize mand s a b = R at *
  go_enter Tryz.func212, Tryz.ntmps212
  go_wp2_with fail
  refine HA.mono ?_
  rintro e w' ⟨rfl, nb', ncap', hs⟩
  go_wp2_with fail
  go_ret
  exact ⟨rfl, nb', ncap', hs⟩

set_option maxRecDepth 100000 in
set_option maxHeartbeats 1000000 in
theorem Mux1_is {m : Nat} {s : Mk} (h : MS w g m s nb ncap iv mb) {c a b : Nat} (hc : c < 2 * s.1.nodes.length) (ha : a < 2 * s.1.nodes.length) (hb : b < 2 * s.1.nodes.length) {z x y : Nat} (bz : w.cell? ⟨z, 0, none⟩ = some (.int .i64 c)) (bx : w.cell? ⟨x, 0, none⟩ = some (.int .i64 a)) (by' : w.cell? ⟨y, 0, none⟩ = some (.int .i64 b)) :
    Calls Tryz.prog 225 (#[.pointer (some ⟨m, 0, none⟩)] ++ #[.pointer (some ⟨z, 0, none⟩), .pointer (some ⟨x, 0, none⟩), .pointer (some ⟨y, 0, none⟩)]) w fun e w' => e = .returned (.int .i64 (mmux s c a b).2) ∧ ∃ nb' ncap', MStep w g m (mmux s c a b).1 nb iv mb nb' ncap' w' := by
  show Calls Tryz.prog 225 #[.pointer (some ⟨m, 0, none⟩), .pointer (some ⟨z, 0, none⟩), .pointer (some ⟨x, 0, none⟩), .pointer (some ⟨y, 0, none⟩)] w _
  have HA := mmux_is h hc ha hb
  clear h ha hb
  generalize mmux s c a b = R at *
  go_enter Tryz.func225, Tryz.ntmps225
  go_wp2_with fail
  refine HA.mono ?_
  rintro e w' ⟨rfl, nb', ncap', hs⟩
  go_wp2_with fail
  go_ret
  exact ⟨rfl, nb', ncap', hs⟩

set_option maxRecDepth 100000 in
set_option maxHeartbeats 1000000 in
theorem Xor1_is {m : Nat} {s : Mk} (h : MS w g m s nb ncap iv mb) {a b : Nat} (ha : a < 2 * s.1.nodes.length) (hb : b < 2 * s.1.nodes.length) {x y : Nat} (bx : w.cell? ⟨x, 0, none⟩ = some (.int .i64 a)) (by' : w.cell? ⟨y, 0, none⟩ = some (.int .i64 b)) :
    Calls Tryz.prog 351 (#[.pointer (some ⟨m, 0, none⟩)] ++ #[.pointer (some ⟨x, 0, none⟩), .pointer (some ⟨y, 0, none⟩)]) w fun e w' => e = .returned (.int .i64 (mmux s a (neg b) b).2) ∧ ∃ nb' ncap', MStep w g m (mmux s a (neg b) b).1 nb iv mb nb' ncap' w' := by
  show Calls Tryz.prog 351 #[.pointer (some ⟨m, 0, none⟩), .pointer (some ⟨x, 0, none⟩), .pointer (some ⟨y, 0, none⟩)] w _
  have bb := h.bd hb
  have HA : ∀ W, Ch [] w W → Calls Tryz.prog 226 #[.pointer (some ⟨m, 0, none⟩), .int .i64 a, .int .i64 (neg b : Nat), .int .i64 b] W fun e w' => e = .returned (.int .i64 (mmux s a (neg b) b).2) ∧ ∃ nb' ncap', MStep W g m (mmux s a (neg b) b).1 nb iv mb nb' ncap' w' := fun W hW => mmux_is (h.ch hW) ha (neg_lt hb) hb
  have HD := HA w.drew ((Ch.refl _ _).drew)
  clear h ha hb HA
  generalize mmux s a (neg b) b = R at *
  go_enter Tryz.func351, Tryz.ntmps351
  go_wp2_with fail
  refine Ord.St.door (fun _ => True) [.fl, .rd, .rd, .rd, .rd, .ef, .fl] [0, 0, 0, 4, 0, 31, 63] [0, 1, 2, 3, 4, 5, 6] mixed (by kernel_rfl) rfl ?_
  refine Ord.St.fl2 (T' := ?_) 0 [1, 2, 3, 4, 5, 6] _ _ rfl (by kernel_rfl) rfl rfl rfl rfl (fun K w' hk => ?_) ?_
  rotate_left
  · go_step; exact hk
  refine Ord.St.rd2 (T' := ?_) 1 [2, 3, 4, 5, 6] _ _ rfl (by kernel_rfl) rfl rfl rfl rfl (fun K hk => ?_) ?_
  rotate_left
  · go_step; exact hk
  refine Ord.St.rd2 (T' := ?_) 2 [3, 4, 5, 6] _ _ rfl (by kernel_rfl) rfl rfl rfl rfl (fun K hk => ?_) ?_
  rotate_left
  · go_step; exact hk
  refine Ord.St.rd2 (T' := ?_) 3 [4, 5, 6] _ _ rfl (by kernel_rfl) rfl rfl rfl rfl (fun K hk => ?_) ?_
  rotate_left
  · go_step; refine (Not_any _ _ (by omega)).mono ?_; rintro e w1 ⟨rfl, rfl⟩; exact hk
  refine Ord.St.rd2 (T' := ?_) 4 [5, 6] _ _ rfl (by kernel_rfl) rfl rfl rfl rfl (fun K hk => ?_) ?_
  rotate_left
  · go_step; exact hk
  refine Ord.St.ef 5 [6] _ rfl (by kernel_rfl) (fun K hK => ?_)
  go_wp2_with fail
  refine HD.mono ?_
  rintro e w' ⟨rfl, nb', ncap', hs⟩
  have HS := Lib.hid hs; clear hs
  go_wp2_with fail
  refine ⟨rfl, hK _ _ ?_⟩; clear hK K
  refine Ord.St.fl2 (T' := ?_) 6 [] _ _ rfl (by kernel_rfl) rfl rfl rfl rfl (fun K w' hk => ?_) ?_
  rotate_left
  · go_step; exact hk
  refine Ord.St.nil ?_
  go_wp2_with fail
  go_ret
  exact ⟨rfl, nb', ncap', HS.out.of ((Ch.refl _ _).drew)⟩
theorem GTo.back {w0 w w' : World} {g : Nat} {G : Gra} {F : List Nat} (h : GTo w g G F w') (hc : Ch [] w0 w) : GTo w0 g G F w' := by
  obtain ⟨F', h1, h2, h3, h4⟩ := h
  have := hc.size
  exact ⟨F', h1, (hc.mono (by simp)).trans h2 (fun k hk => .inl hk), fun k hk => (h3 k hk).imp id (fun e => by omega), h4⟩

set_option maxRecDepth 100000 in
set_option maxHeartbeats 2000000 in
theorem And_is {G : Gra} (h : GM w g G nb ncap iv mb) (a b : Int) (ba : a ≤ 9223372036854775807) (bb : b ≤ 9223372036854775807) :
    Calls Tryz.prog 103 #[.pointer (some ⟨g, 0, none⟩), .int .i64 a, .int .i64 b] w fun e w' => e = .returned (.tuple #[.int .i64 (doAnd G a b).2.1, .int .i64 (doAnd G a b).2.2]) ∧ GTo w g (doAnd G a b).1 (fp g nb mb iv) w' := by
  have hl0 := h.lt
  have hW : Ch [] w (((w.alloc (.cells #[.int .i64 a] 52)).alloc (.cells #[.int .i64 b] 52)).alloc (.cells #[.int .i64 a, .int .i64 b] 52)) := (((Ch.refl _ _).alloc _).alloc _).alloc _
  have hS : Sl (((w.alloc (.cells #[.int .i64 a] 52)).alloc (.cells #[.int .i64 b] 52)).alloc (.cells #[.int .i64 a, .int .i64 b] 52)) (some ⟨w.heap.size + 2, 0, none⟩) [a, b] := ⟨fun i x hx => by
    refine ⟨_, _, rfl, ?_⟩
    have hb := blk.new' (w := (w.alloc (.cells #[.int .i64 a] 52)).alloc (.cells #[.int .i64 b] 52)) (b := w.heap.size + 2) [.int .i64 a, .int .i64 b] 52 (by simp)
    refine hb.cell ?_
    match i, hx with
    | 0, hx => simpa using hx
    | 1, hx => simpa using hx, by simp⟩
  have b0 : (((w.alloc (.cells #[.int .i64 a] 52)).alloc (.cells #[.int .i64 b] 52)).alloc (.cells #[.int .i64 a, .int .i64 b] 52)).cell? ⟨w.heap.size, 0, none⟩ = some (.int .i64 a) := by go_simp
  have b1 : (((w.alloc (.cells #[.int .i64 a] 52)).alloc (.cells #[.int .i64 b] 52)).alloc (.cells #[.int .i64 a, .int .i64 b] 52)).cell? ⟨w.heap.size + 1, 0, none⟩ = some (.int .i64 b) := by go_simp
  have hz : (((w.alloc (.cells #[.int .i64 a] 52)).alloc (.cells #[.int .i64 b] 52)).alloc (.cells #[.int .i64 a, .int .i64 b] 52)).heap.size = w.heap.size + 3 := by simp
  have HM := make_is (h.ch hW (by simp)) (a := some ⟨w.heap.size + 2, 0, none⟩) (l := [a, b]) 2 hS (by simp [ba, bb]) (fun p hp => by cases hp; simp <;> omega) 212 #[.pointer (some ⟨w.heap.size, 0, none⟩), .pointer (some ⟨w.heap.size + 1, 0, none⟩)] fnvAnd1 (fun s => mand s a.toNat b.toNat) (fun hr W m hm hc hms => by
    obtain ⟨x, rfl, hx⟩ := right_nat (hr a (by simp))
    obtain ⟨y, rfl, hy⟩ := right_nat (hr b (by simp))
    exact And1_is hms hx hy ((hc.cell (by simp <;> omega) (by simp)).trans b0) ((hc.cell (by simp <;> omega) (by simp)).trans b1)) (fun hr => by
    obtain ⟨x, rfl, hx⟩ := right_nat (hr a (by simp))
    obtain ⟨y, rfl, hy⟩ := right_nat (hr b (by simp))
    have := mand_ok (s := (G, 0)) ⟨h.ok, .inl rfl⟩ hx hy
    exact ⟨this.1, this.2.1⟩)
  unfold doAnd
  clear hS b0 b1 hz
  generalize whole G [a, b] _ = R at *
  have H := Lib.hid h; clear h
  go_enter Tryz.func103, Tryz.ntmps103
  go_wp2_with fail
  refine HM.mono ?_
  rintro e w' ⟨rfl, hs⟩
  have HS := Lib.hid hs; clear hs
  go_wp2_with fail
  go_ret2
  exact ⟨rfl, HS.out.back hW⟩

set_option maxRecDepth 100000 in
set_option maxHeartbeats 2000000 in
theorem Xor_is {G : Gra} (h : GM w g G nb ncap iv mb) (a b : Int) (ba : a ≤ 9223372036854775807) (bb : b ≤ 9223372036854775807) :
    Calls Tryz.prog 342 #[.pointer (some ⟨g, 0, none⟩), .int .i64 a, .int .i64 b] w fun e w' => e = .returned (.tuple #[.int .i64 (doXor G a b).2.1, .int .i64 (doXor G a b).2.2]) ∧ GTo w g (doXor G a b).1 (fp g nb mb iv) w' := by
  have hl0 := h.lt
  have hW : Ch [] w (((w.alloc (.cells #[.int .i64 a] 52)).alloc (.cells #[.int .i64 b] 52)).alloc (.cells #[.int .i64 a, .int .i64 b] 52)) := (((Ch.refl _ _).alloc _).alloc _).alloc _
  have hS : Sl (((w.alloc (.cells #[.int .i64 a] 52)).alloc (.cells #[.int .i64 b] 52)).alloc (.cells #[.int .i64 a, .int .i64 b] 52)) (some ⟨w.heap.size + 2, 0, none⟩) [a, b] := ⟨fun i x hx => by
    refine ⟨_, _, rfl, ?_⟩
    have hb := blk.new' (w := (w.alloc (.cells #[.int .i64 a] 52)).alloc (.cells #[.int .i64 b] 52)) (b := w.heap.size + 2) [.int .i64 a, .int .i64 b] 52 (by simp)
    refine hb.cell ?_
    match i, hx with
    | 0, hx => simpa using hx
    | 1, hx => simpa using hx, by simp⟩
  have b0 : (((w.alloc (.cells #[.int .i64 a] 52)).alloc (.cells #[.int .i64 b] 52)).alloc (.cells #[.int .i64 a, .int .i64 b] 52)).cell? ⟨w.heap.size, 0, none⟩ = some (.int .i64 a) := by go_simp
  have b1 : (((w.alloc (.cells #[.int .i64 a] 52)).alloc (.cells #[.int .i64 b] 52)).alloc (.cells #[.int .i64 a, .int .i64 b] 52)).cell? ⟨w.heap.size + 1, 0, none⟩ = some (.int .i64 b) := by go_simp
  have hz : (((w.alloc (.cells #[.int .i64 a] 52)).alloc (.cells #[.int .i64 b] 52)).alloc (.cells #[.int .i64 a, .int .i64 b] 52)).heap.size = w.heap.size + 3 := by simp
  have HM := make_is (h.ch hW (by simp)) (a := some ⟨w.heap.size + 2, 0, none⟩) (l := [a, b]) 2 hS (by simp [ba, bb]) (fun p hp => by cases hp; simp <;> omega) 351 #[.pointer (some ⟨w.heap.size, 0, none⟩), .pointer (some ⟨w.heap.size + 1, 0, none⟩)] fnvXor1 (fun s => mmux s a.toNat (neg b.toNat) b.toNat) (fun hr W m hm hc hms => by
    obtain ⟨x, rfl, hx⟩ := right_nat (hr a (by simp))
    obtain ⟨y, rfl, hy⟩ := right_nat (hr b (by simp))
    exact Xor1_is hms hx hy ((hc.cell (by simp <;> omega) (by simp)).trans b0) ((hc.cell (by simp <;> omega) (by simp)).trans b1)) (fun hr => by
    obtain ⟨x, rfl, hx⟩ := right_nat (hr a (by simp))
    obtain ⟨y, rfl, hy⟩ := right_nat (hr b (by simp))
    have := mmux_ok (s := (G, 0)) ⟨h.ok, .inl rfl⟩ hx (neg_lt hy) hy
    exact ⟨this.1, this.2.1⟩)
  unfold doXor
  clear hS b0 b1 hz
  generalize whole G [a, b] _ = R at *
  have H := Lib.hid h; clear h
  go_enter Tryz.func342, Tryz.ntmps342
  go_wp2_with fail
  refine HM.mono ?_
  rintro e w' ⟨rfl, hs⟩
  have HS := Lib.hid hs; clear hs
  go_wp2_with fail
  go_ret2
  exact ⟨rfl, HS.out.back hW⟩

set_option maxRecDepth 100000 in
set_option maxHeartbeats 2000000 in
theorem Mux_is {G : Gra} (h : GM w g G nb ncap iv mb) (c a b : Int) (bc : c ≤ 9223372036854775807) (ba : a ≤ 9223372036854775807) (bb : b ≤ 9223372036854775807) :
    Calls Tryz.prog 115 #[.pointer (some ⟨g, 0, none⟩), .int .i64 c, .int .i64 a, .int .i64 b] w fun e w' => e = .returned (.tuple #[.int .i64 (doMux G c a b).2.1, .int .i64 (doMux G c a b).2.2]) ∧ GTo w g (doMux G c a b).1 (fp g nb mb iv) w' := by
  have hl0 := h.lt
  have hW : Ch [] w ((((w.alloc (.cells #[.int .i64 c] 52)).alloc (.cells #[.int .i64 a] 52)).alloc (.cells #[.int .i64 b] 52)).alloc (.cells #[.int .i64 c, .int .i64 a, .int .i64 b] 52)) := ((((Ch.refl _ _).alloc _).alloc _).alloc _).alloc _
  have hS : Sl ((((w.alloc (.cells #[.int .i64 c] 52)).alloc (.cells #[.int .i64 a] 52)).alloc (.cells #[.int .i64 b] 52)).alloc (.cells #[.int .i64 c, .int .i64 a, .int .i64 b] 52)) (some ⟨w.heap.size + 3, 0, none⟩) [c, a, b] := ⟨fun i x hx => by
    refine ⟨_, _, rfl, ?_⟩
    have hb := blk.new' (w := ((w.alloc (.cells #[.int .i64 c] 52)).alloc (.cells #[.int .i64 a] 52)).alloc (.cells #[.int .i64 b] 52)) (b := w.heap.size + 3) [.int .i64 c, .int .i64 a, .int .i64 b] 52 (by simp)
    refine hb.cell ?_
    match i, hx with
    | 0, hx => simpa using hx
    | 1, hx => simpa using hx
    | 2, hx => simpa using hx, by simp⟩
  have b0 : ((((w.alloc (.cells #[.int .i64 c] 52)).alloc (.cells #[.int .i64 a] 52)).alloc (.cells #[.int .i64 b] 52)).alloc (.cells #[.int .i64 c, .int .i64 a, .int .i64 b] 52)).cell? ⟨w.heap.size + 1, 0, none⟩ = some (.int .i64 a) := by go_simp
  have bz : ((((w.alloc (.cells #[.int .i64 c] 52)).alloc (.cells #[.int .i64 a] 52)).alloc (.cells #[.int .i64 b] 52)).alloc (.cells #[.int .i64 c, .int .i64 a, .int .i64 b] 52)).cell? ⟨w.heap.size, 0, none⟩ = some (.int .i64 c) := by go_simp
  have b1 : ((((w.alloc (.cells #[.int .i64 c] 52)).alloc (.cells #[.int .i64 a] 52)).alloc (.cells #[.int .i64 b] 52)).alloc (.cells #[.int .i64 c, .int .i64 a, .int .i64 b] 52)).cell? ⟨w.heap.size + 2, 0, none⟩ = some (.int .i64 b) := by go_simp
  have hz : ((((w.alloc (.cells #[.int .i64 c] 52)).alloc (.cells #[.int .i64 a] 52)).alloc (.cells #[.int .i64 b] 52)).alloc (.cells #[.int .i64 c, .int .i64 a, .int .i64 b] 52)).heap.size = w.heap.size + 4 := by simp
  have HM := make_is (h.ch hW (by simp)) (a := some ⟨w.heap.size + 3, 0, none⟩) (l := [c, a, b]) 3 hS (by simp [bc, ba, bb]) (fun p hp => by cases hp; simp <;> omega) 225 #[.pointer (some ⟨w.heap.size, 0, none⟩), .pointer (some ⟨w.heap.size + 1, 0, none⟩), .pointer (some ⟨w.heap.size + 2, 0, none⟩)] fnvMux1 (fun s => mmux s c.toNat a.toNat b.toNat) (fun hr W m hm hc hms => by
    obtain ⟨v, rfl, hv⟩ := right_nat (hr c (by simp))
    obtain ⟨x, rfl, hx⟩ := right_nat (hr a (by simp))
    obtain ⟨y, rfl, hy⟩ := right_nat (hr b (by simp))
    exact Mux1_is hms hv hx hy ((hc.cell (by simp <;> omega) (by simp)).trans bz) ((hc.cell (by simp <;> omega) (by simp)).trans b0) ((hc.cell (by simp <;> omega) (by simp)).trans b1)) (fun hr => by
    obtain ⟨v, rfl, hv⟩ := right_nat (hr c (by simp))
    obtain ⟨x, rfl, hx⟩ := right_nat (hr a (by simp))
    obtain ⟨y, rfl, hy⟩ := right_nat (hr b (by simp))
    have := mmux_ok (s := (G, 0)) ⟨h.ok, .inl rfl⟩ hv hx hy
    exact ⟨this.1, this.2.1⟩)
  unfold doMux
  clear hS b0 b1 bz hz
  generalize whole G [c, a, b] _ = R at *
  have H := Lib.hid h; clear h
  go_enter Tryz.func115, Tryz.ntmps115
  go_wp2_with fail
  refine HM.mono ?_
  rintro e w' ⟨rfl, hs⟩
  have HS := Lib.hid hs; clear hs
  go_wp2_with fail
  go_ret2
  exact ⟨rfl, HS.out.back hW⟩
end
end Go.Proofs.YtehljgigebhddaaGreat
namespace Go.Proofs.YtehljgigebhddaaGreat
open Go.RowKit Go.Mem Go.Aig

theorem mall_snoc (s : Mk) (out : Nat) (l : List Nat) (r : Nat) : mall s out (l ++ [r]) = mand (mall s out l).1 (mall s out l).2 r := by
  induction l generalizing s out with
  | nil => rfl
  | cons x l ih => exact ih _ _
theorem take_succ_map {α β : Type} (f : α → β) {l : List α} {k : Nat} {x : α} (h : l[k]? = some x) : (l.map f).take (k + 1) = (l.map f).take k ++ [f x] := by
  rw [List.take_add_one]; simp [h]
section
variable {w : World} {g : Nat} {nb ncap : Nat} {iv : Value} {mb : Nat}
theorem MStep.refl {m : Nat} {s : Mk} (h : MS w g m s nb ncap iv mb) : MStep w g m s nb iv mb nb ncap w := ⟨h, .inl rfl, Ch.refl _ _⟩

set_option maxRecDepth 100000 in
set_option maxHeartbeats 1000000 in
theorem All1_is {m : Nat} {s : Mk} (h : MS w g m s nb ncap iv mb) {a : Option Addr} {l : List Nat} (cap : Nat) (hS : Sl w a (l.map fun (r : Nat) => (r : Int))) (hap : ∀ p, a = some p → p.block < w.heap.size ∧ p.block ∉ [g, nb, mb, m]) (hr : ∀ r ∈ l, r < 2 * s.1.nodes.length) {x : Nat} (bx : w.cell? ⟨x, 0, none⟩ = some (.slice a l.length cap)) :
    Calls Tryz.prog 273 (#[.pointer (some ⟨m, 0, none⟩)] ++ #[.pointer (some ⟨x, 0, none⟩)]) w fun e w' => e = .returned (.int .i64 ((mall s 1 (l.map id)).2 : Nat)) ∧ ∃ nb' ncap', MStep w g m (mall s 1 (l.map id)).1 nb iv mb nb' ncap' w' := by
  show Calls Tryz.prog 273 #[.pointer (some ⟨m, 0, none⟩), .pointer (some ⟨x, 0, none⟩)] w _
  have hbd := hS.bd
  rw [List.length_map] at hbd
  have hsz : s.1.nodes.length ≤ 65536 := by have := h.ok.ok.room; have := h.ok.ok.most; omega
  have hpos := h.ok.ok.wf.pos
  have H := Lib.hid h; clear h
  have HS := Lib.hid hS; clear hS
  have HR := Lib.hid hr; clear hr
  have HA := Lib.hid hap; clear hap
  generalize hRF : mall s 1 (l.map id) = RF
  have HRF := Lib.hid hRF; clear hRF
  go_enter Tryz.func273, Tryz.ntmps273
  go_wp2_with fail
  go_loopw [4, 9] (fun o i wr => ∃ k : Nat, k ≤ l.length ∧ i = .int .i64 k ∧ o = .int .i64 (mall s 1 ((l.map id).take k)).2 ∧ ∃ nb' ncap', MStep w g m (mall s 1 ((l.map id).take k)).1 nb iv mb nb' ncap' wr) (fun _ i _ => l.length - (intOf i).toNat)
  case atStart => exact ⟨0, Nat.zero_le _, rfl, rfl, nb, ncap, MStep.refl H.out⟩
  case round =>
    obtain ⟨k, hk, rfl, rfl, nb', ncap', hs⟩ := hrel
    have hq : ∀ r ∈ (l.map id).take k, r < 2 * s.1.nodes.length := fun r hr => by
      obtain ⟨y, hy, rfl⟩ := List.mem_map.1 (List.mem_of_mem_take hr)
      exact HR.out y hy
    obtain ⟨ho, hx, hlo⟩ := mall_ok _ H.out.ok (show 1 < 2 * s.1.nodes.length by omega) hq
    have hlo' : (mall s 1 ((l.map id).take k)).2 ≤ 1000000 := by have := ho.ok.room; have := ho.ok.most; omega
    by_cases hlt : k < l.length
    · have hxk : l[k]? = some l[k] := List.getElem?_eq_getElem hlt
      have hm : l[k] ∈ l := List.getElem_mem hlt
      have hkr := HR.out _ hm
      generalize l[k] = y at *
      have hnext : mall s 1 ((l.map id).take (k + 1)) = mand (mall s 1 ((l.map id).take k)).1 (mall s 1 ((l.map id).take k)).2 (y) := by
        rw [take_succ_map _ hxk, mall_snoc]; rfl
      have HNX := Lib.hid hnext; clear hnext
      obtain ⟨b, o, rfl, hc⟩ := HS.out.cells k (y : Int) (by simp [hxk])
      obtain ⟨hab, han⟩ := HA.out _ rfl
      have c1 := (hs.ch.cell (p := ⟨b, o + k, none⟩) hab han).trans hc
      have HM := mand_is hs.ms (a := (mall s 1 ((l.map id).take k)).2) (b := y) hlo (hx.lt (hkr))
      have HS1 := Lib.hid hs; clear hs
      have HO := Lib.hid ho; clear ho
      clear hc han hab hx hlo
      generalize mall s 1 ((l.map id).take k) = R at *
      generalize hMR : mand R.1 R.2 (y) = R2 at *
      clear hMR
      go_wp2_with fail
      refine HM.mono ?_
      rintro e w' ⟨rfl, nb2, ncap2, hs2⟩
      have HS2 := Lib.hid hs2; clear hs2
      go_wp2_with fail
      go_roundw
      case rel =>
        refine ⟨k + 1, by omega, by go_num, by rw [HNX.out], nb2, ncap2, ?_⟩
        rw [HNX.out]
        exact HS1.out.trans HS2.out
      case measure => simp [intOf]; omega
    · have hkl : (l.map id).take k = l.map id := List.take_of_length_le (by simp; omega)
      rw [hkl, HRF.out] at hs hlo'
      rw [hkl, HRF.out]
      have HS1 := Lib.hid hs; clear hs
      clear ho hx hlo hq hkl
      go_wp2_with fail
      go_ret
      exact ⟨rfl, nb', ncap', HS1.out⟩

set_option maxRecDepth 100000 in
set_option maxHeartbeats 1000000 in
theorem Any1_is {m : Nat} {s : Mk} (h : MS w g m s nb ncap iv mb) {a : Option Addr} {l : List Nat} (cap : Nat) (hS : Sl w a (l.map fun (r : Nat) => (r : Int))) (hap : ∀ p, a = some p → p.block < w.heap.size ∧ p.block ∉ [g, nb, mb, m]) (hr : ∀ r ∈ l, r < 2 * s.1.nodes.length) {x : Nat} (bx : w.cell? ⟨x, 0, none⟩ = some (.slice a l.length cap)) :
    Calls Tryz.prog 306 (#[.pointer (some ⟨m, 0, none⟩)] ++ #[.pointer (some ⟨x, 0, none⟩)]) w fun e w' => e = .returned (.int .i64 (neg (mall s 1 (l.map neg)).2 : Nat)) ∧ ∃ nb' ncap', MStep w g m (mall s 1 (l.map neg)).1 nb iv mb nb' ncap' w' := by
  show Calls Tryz.prog 306 #[.pointer (some ⟨m, 0, none⟩), .pointer (some ⟨x, 0, none⟩)] w _
  have hbd := hS.bd
  rw [List.length_map] at hbd
  have hsz : s.1.nodes.length ≤ 65536 := by have := h.ok.ok.room; have := h.ok.ok.most; omega
  have hpos := h.ok.ok.wf.pos
  have H := Lib.hid h; clear h
  have HS := Lib.hid hS; clear hS
  have HR := Lib.hid hr; clear hr
  have HA := Lib.hid hap; clear hap
  generalize hRF : mall s 1 (l.map neg) = RF
  have HRF := Lib.hid hRF; clear hRF
  go_enter Tryz.func306, Tryz.ntmps306
  go_wp2_with fail
  go_loopw [4, 9] (fun o i wr => ∃ k : Nat, k ≤ l.length ∧ i = .int .i64 k ∧ o = .int .i64 (mall s 1 ((l.map neg).take k)).2 ∧ ∃ nb' ncap', MStep w g m (mall s 1 ((l.map neg).take k)).1 nb iv mb nb' ncap' wr) (fun _ i _ => l.length - (intOf i).toNat)
  case atStart => exact ⟨0, Nat.zero_le _, rfl, rfl, nb, ncap, MStep.refl H.out⟩
  case round =>
    obtain ⟨k, hk, rfl, rfl, nb', ncap', hs⟩ := hrel
    have hq : ∀ r ∈ (l.map neg).take k, r < 2 * s.1.nodes.length := fun r hr => by
      obtain ⟨y, hy, rfl⟩ := List.mem_map.1 (List.mem_of_mem_take hr)
      exact neg_lt (HR.out y hy)
    obtain ⟨ho, hx, hlo⟩ := mall_ok _ H.out.ok (show 1 < 2 * s.1.nodes.length by omega) hq
    have hlo' : (mall s 1 ((l.map neg).take k)).2 ≤ 1000000 := by have := ho.ok.room; have := ho.ok.most; omega
    by_cases hlt : k < l.length
    · have hxk : l[k]? = some l[k] := List.getElem?_eq_getElem hlt
      have hm : l[k] ∈ l := List.getElem_mem hlt
      have hkr := HR.out _ hm
      generalize l[k] = y at *
      have hnext : mall s 1 ((l.map neg).take (k + 1)) = mand (mall s 1 ((l.map neg).take k)).1 (mall s 1 ((l.map neg).take k)).2 (neg y) := by
        rw [take_succ_map _ hxk, mall_snoc]
      have HNX := Lib.hid hnext; clear hnext
      obtain ⟨b, o, rfl, hc⟩ := HS.out.cells k (y : Int) (by simp [hxk])
      obtain ⟨hab, han⟩ := HA.out _ rfl
      have c1 := (hs.ch.cell (p := ⟨b, o + k, none⟩) hab han).trans hc
      have HM := mand_is hs.ms (a := (mall s 1 ((l.map neg).take k)).2) (b := neg y) hlo (hx.lt (neg_lt hkr))
      have HS1 := Lib.hid hs; clear hs
      have HO := Lib.hid ho; clear ho
      clear hc han hab hx hlo
      generalize mall s 1 ((l.map neg).take k) = R at *
      generalize hMR : mand R.1 R.2 (neg y) = R2 at *
      clear hMR
      go_wp2_with fail
      refine (Not_any _ _ (by omega)).mono ?_
      rintro e w' ⟨rfl, rfl⟩
      go_wp2_with fail
      refine HM.mono ?_
      rintro e w' ⟨rfl, nb2, ncap2, hs2⟩
      have HS2 := Lib.hid hs2; clear hs2
      go_wp2_with fail
      go_roundw
      case rel =>
        refine ⟨k + 1, by omega, by go_num, by rw [HNX.out], nb2, ncap2, ?_⟩
        rw [HNX.out]
        exact HS1.out.trans HS2.out
      case measure => simp [intOf]; omega
    · have hkl : (l.map neg).take k = l.map neg := List.take_of_length_le (by simp; omega)
      rw [hkl, HRF.out] at hs hlo'
      rw [hkl, HRF.out]
      have HS1 := Lib.hid hs; clear hs
      clear ho hx hlo hq hkl
      go_wp2_with fail
      refine (Not_any _ _ (by omega)).mono ?_
      rintro e w' ⟨rfl, rfl⟩
      go_wp2_with fail
      go_ret
      exact ⟨rfl, nb', ncap', HS1.out⟩

set_option maxRecDepth 100000 in
set_option maxHeartbeats 2000000 in
theorem All_is {G : Gra} (h : GM w g G nb ncap iv mb) {a : Option Addr} {l : List Int} (cap : Nat) (hS : Sl w a l) (hb : ∀ x ∈ l, x ≤ 9223372036854775807) (hap : ∀ p, a = some p → p.block < w.heap.size ∧ p.block ∉ fp g nb mb iv) :
    Calls Tryz.prog 192 #[.pointer (some ⟨g, 0, none⟩), .slice a l.length cap] w fun e w' => e = .returned (.tuple #[.int .i64 (doAll G l).2.1, .int .i64 (doAll G l).2.2]) ∧ GTo w g (doAll G l).1 (fp g nb mb iv) w' := by
  have hl0 := h.lt
  have hW : Ch [] w (w.alloc (.cells #[.slice a l.length cap] 45)) := (Ch.refl _ _).alloc _
  have hcar : ∀ {W : World}, Ch [] w W → Sl W a l := fun {W} hc => ⟨fun i x hx => by
    obtain ⟨b, o, rfl, h1⟩ := hS.cells i x hx
    exact ⟨b, o, rfl, (hc.cell (p := ⟨b, o + i, none⟩) (hap _ rfl).1 (by simp)).trans h1⟩, hS.bd⟩
  have b0 : (w.alloc (.cells #[.slice a l.length cap] 45)).cell? ⟨w.heap.size, 0, none⟩ = some (.slice a l.length cap) := by go_simp
  have hnat : (∀ x ∈ l, right G.nodes x = true) → l = (l.map Int.toNat).map (fun (r : Nat) => (r : Int)) ∧ ∀ r ∈ l.map Int.toNat, r < 2 * G.nodes.length := fun hr => by
    refine ⟨?_, fun r hm => ?_⟩
    · rw [List.map_map]
      conv => lhs; rw [← List.map_id l]
      refine List.map_congr_left fun x hx => ?_
      obtain ⟨y, rfl, _⟩ := right_nat (hr x hx)
      simp
    · obtain ⟨x, hx, rfl⟩ := List.mem_map.1 hm
      obtain ⟨y, rfl, hy⟩ := right_nat (hr x hx)
      simpa using hy
  have HM := make_is (h.ch hW (by simp)) (a := a) (l := l) cap (hcar hW) hb (fun p hp => by have := (hap p hp).1; simp; omega) 273 #[.pointer (some ⟨w.heap.size, 0, none⟩)] fnvAll1 (fun s => mall s 1 ((l.map Int.toNat).map id)) (fun hr W m hm hc hms => by
    obtain ⟨hl, hlt⟩ := hnat hr
    have hlen : l.length = (l.map Int.toNat).length := by simp
    have bx := (hc.cell (p := ⟨w.heap.size, 0, none⟩) (by simp) (by simp)).trans b0
    have hSW : Sl W a l := hcar (hW.trans hc (by simp))
    generalize l.map Int.toNat = q at *
    rw [hl] at hSW
    rw [hlen] at bx
    have hz := hc.size
    simp at hz hm
    exact All1_is hms cap hSW (fun p hp => ⟨by have := (hap p hp).1; omega, by
      have h1 := hap p hp
      intro hk
      simp only [fp, List.mem_cons, not_or, List.not_mem_nil, or_false] at h1 hk
      rcases hk with e | e | e | e
      · exact h1.2.1 e
      · exact h1.2.2.1 e
      · exact h1.2.2.2.1 e
      · omega⟩) hlt bx) (fun hr => by
    obtain ⟨hl, hlt⟩ := hnat hr
    have := mall_ok (s := (G, 0)) (out := 1) ((l.map Int.toNat).map id) ⟨h.ok, .inl rfl⟩ (by have := h.ok.wf.pos; show 1 < 2 * G.nodes.length; omega) (fun r hm => by
      obtain ⟨y, hy, rfl⟩ := List.mem_map.1 hm
      exact hlt y hy)
    exact ⟨this.1, this.2.1⟩)
  unfold doAll
  clear hcar b0 hnat
  simp only [List.map_id] at HM
  generalize whole G l _ = R at *
  have H := Lib.hid h; clear h
  have HSS := Lib.hid hS; clear hS
  have HAP := Lib.hid hap; clear hap
  clear hb
  go_enter Tryz.func192, Tryz.ntmps192
  go_wp2_with fail
  refine HM.mono ?_
  rintro e w' ⟨rfl, hs⟩
  have HS := Lib.hid hs; clear hs
  go_wp2_with fail
  go_ret2
  exact ⟨rfl, HS.out.back hW⟩

set_option maxRecDepth 100000 in
set_option maxHeartbeats 2000000 in
theorem Any_is {G : Gra} (h : GM w g G nb ncap iv mb) {a : Option Addr} {l : List Int} (cap : Nat) (hS : Sl w a l) (hb : ∀ x ∈ l, x ≤ 9223372036854775807) (hap : ∀ p, a = some p → p.block < w.heap.size ∧ p.block ∉ fp g nb mb iv) :
    Calls Tryz.prog 232 #[.pointer (some ⟨g, 0, none⟩), .slice a l.length cap] w fun e w' => e = .returned (.tuple #[.int .i64 (doAny G l).2.1, .int .i64 (doAny G l).2.2]) ∧ GTo w g (doAny G l).1 (fp g nb mb iv) w' := by
  have hl0 := h.lt
  have hW : Ch [] w (w.alloc (.cells #[.slice a l.length cap] 45)) := (Ch.refl _ _).alloc _
  have hcar : ∀ {W : World}, Ch [] w W → Sl W a l := fun {W} hc => ⟨fun i x hx => by
    obtain ⟨b, o, rfl, h1⟩ := hS.cells i x hx
    exact ⟨b, o, rfl, (hc.cell (p := ⟨b, o + i, none⟩) (hap _ rfl).1 (by simp)).trans h1⟩, hS.bd⟩
  have b0 : (w.alloc (.cells #[.slice a l.length cap] 45)).cell? ⟨w.heap.size, 0, none⟩ = some (.slice a l.length cap) := by go_simp
  have hnat : (∀ x ∈ l, right G.nodes x = true) → l = (l.map Int.toNat).map (fun (r : Nat) => (r : Int)) ∧ ∀ r ∈ l.map Int.toNat, r < 2 * G.nodes.length := fun hr => by
    refine ⟨?_, fun r hm => ?_⟩
    · rw [List.map_map]
      conv => lhs; rw [← List.map_id l]
      refine List.map_congr_left fun x hx => ?_
      obtain ⟨y, rfl, _⟩ := right_nat (hr x hx)
      simp
    · obtain ⟨x, hx, rfl⟩ := List.mem_map.1 hm
      obtain ⟨y, rfl, hy⟩ := right_nat (hr x hx)
      simpa using hy
  have HM := make_is (h.ch hW (by simp)) (a := a) (l := l) cap (hcar hW) hb (fun p hp => by have := (hap p hp).1; simp; omega) 306 #[.pointer (some ⟨w.heap.size, 0, none⟩)] fnvAny1 (fun s => many s (l.map Int.toNat)) (fun hr W m hm hc hms => by
    obtain ⟨hl, hlt⟩ := hnat hr
    have hlen : l.length = (l.map Int.toNat).length := by simp
    have bx := (hc.cell (p := ⟨w.heap.size, 0, none⟩) (by simp) (by simp)).trans b0
    have hSW : Sl W a l := hcar (hW.trans hc (by simp))
    generalize l.map Int.toNat = q at *
    rw [hl] at hSW
    rw [hlen] at bx
    have hz := hc.size
    simp at hz hm
    exact Any1_is hms cap hSW (fun p hp => ⟨by have := (hap p hp).1; omega, by
      have h1 := hap p hp
      intro hk
      simp only [fp, List.mem_cons, not_or, List.not_mem_nil, or_false] at h1 hk
      rcases hk with e | e | e | e
      · exact h1.2.1 e
      · exact h1.2.2.1 e
      · exact h1.2.2.2.1 e
      · omega⟩) hlt bx) (fun hr => by
    obtain ⟨hl, hlt⟩ := hnat hr
    have := mall_ok (s := (G, 0)) (out := 1) ((l.map Int.toNat).map neg) ⟨h.ok, .inl rfl⟩ (by have := h.ok.wf.pos; show 1 < 2 * G.nodes.length; omega) (fun r hm => by
      obtain ⟨y, hy, rfl⟩ := List.mem_map.1 hm
      exact neg_lt (hlt y hy))
    exact ⟨this.1, this.2.1⟩)
  unfold doAny
  clear hcar b0 hnat
  generalize whole G l _ = R at *
  have H := Lib.hid h; clear h
  have HSS := Lib.hid hS; clear hS
  have HAP := Lib.hid hap; clear hap
  clear hb
  go_enter Tryz.func232, Tryz.ntmps232
  go_wp2_with fail
  refine HM.mono ?_
  rintro e w' ⟨rfl, hs⟩
  have HS := Lib.hid hs; clear hs
  go_wp2_with fail
  go_ret2
  exact ⟨rfl, HS.out.back hW⟩
end
end Go.Proofs.YtehljgigebhddaaGreat
namespace Go.Proofs.YtehljgigebhddaaGreat
open Go.RowKit Go.Mem Go.Aig

theorem inputsFrom_input (x : Nd) (hk : x.k = 2) : ∀ (ns : List Nd) (n : Nat), inputsFrom (ns ++ [x]) n = inputsFrom ns n ++ [2 * (n + ns.length)]
  | [], n => by simp [inputsFrom, hk]
  | y :: ns, n => by
    have e : 2 * (n + 1 + ns.length) = 2 * (n + (ns.length + 1)) := by omega
    simp only [List.cons_append, inputsFrom, inputsFrom_input x hk ns, List.length_cons, e]
    split <;> simp
theorem inputs_input {ns : List Nd} {x : Nd} (hk : x.k = 2) : inputs (ns ++ [x]) = inputs ns ++ [2 * ns.length] := by
  have := inputsFrom_input x hk ns 0
  simpa [inputs] using this
def doInput (G : Gra) : Res := put G ⟨2, 0, 0, 0⟩
theorem inputsFrom_le : ∀ (ns : List Nd) (n : Nat), (inputsFrom ns n).length ≤ ns.length
  | [], n => by simp [inputsFrom]
  | x :: ns, n => by
    have := inputsFrom_le ns (n + 1)
    unfold inputsFrom
    split <;> simp <;> omega
theorem inputs_le (ns : List Nd) : (inputs ns).length ≤ ns.length := inputsFrom_le ns 0
section
variable {w : World} {g : Nat} {G : Gra} {nb ncap : Nat} {iv : Value} {mb : Nat}

set_option maxRecDepth 100000 in
set_option maxHeartbeats 2000000 in
theorem Input_is (h : GM w g G nb ncap iv mb) :
    Calls Tryz.prog 113 #[.pointer (some ⟨g, 0, none⟩)] w fun e w' => e = .returned (.tuple #[.int .i64 (doInput G).2.1, .int .i64 (doInput G).2.2]) ∧ GTo w g (doInput G).1 (fp g nb mb iv) w' := by
  have HN := none_no h
  have hil := inputs_le G.nodes
  unfold doInput put
  by_cases hf : G.most ≤ G.nodes.length
  · rw [if_pos hf]
    have HP := put_no_of h 2 0 0 0 ⟨2, 0, 0, 0⟩ rfl rfl rfl rfl hf
    have H := Lib.hid h; clear h
    clear hf hil
    go_enter Tryz.func113, Tryz.ntmps113
    go_wp2_with fail
    refine HN.mono ?_
    rintro e w' ⟨rfl, rfl⟩
    go_wp2_with fail
    refine HP.mono ?_
    rintro e w1 ⟨rfl, hc⟩
    have HC := Lib.hid hc; clear hc
    go_wp2_with fail
    go_ret2
    exact ⟨rfl, GTo.same ⟨_, _, _, _, H.out, rfl⟩ HC.out⟩
  · rw [if_neg hf]
    have HP := put_yes_of h 2 0 0 0 ⟨2, 0, 0, 0⟩ rfl rfl rfl rfl (by omega)
    have hm := h.ok.most
    have H := Lib.hid h; clear h
    have hlb : G.nodes.length < 65536 := by omega
    have HF := Lib.hid hf; clear hf
    go_enter Tryz.func113, Tryz.ntmps113
    go_wp2_with fail
    refine HN.mono ?_
    rintro e w' ⟨rfl, rfl⟩
    go_wp2_with fail
    refine HP.mono ?_
    rintro e w1 ⟨rfl, nb', ncap', hs⟩
    have s3 : w1.cell? ⟨g, 3, none⟩ = some iv := hs.st.cell rfl
    have f3 : w1.frozen? ⟨g, 3, none⟩ = false := hs.st.frozen
    have hg1 : g < w1.heap.size := hs.st.lt
    have hch1 : Ch [g, nb] w w1 := hs.ch
    have hsz1 := hch1.size
    have hl0 := H.out.lt
    have hWA : Ch [] w1 (w1.alloc (.cells #[.int .i64 (2 * (G.nodes.length : Int))] 52)) := (Ch.refl _ _).alloc _
    have hI : row (w1.alloc (.cells #[.int .i64 (2 * (G.nodes.length : Int))] 52)) 52 1 iv (inputs G.nodes).length (refsCells (inputs G.nodes)) := by
      refine (H.out.ins.ch hch1 (fun k hk => ?_)).ch hWA (by simp)
      have h1 := H.out.gi; have h2 := H.out.ni
      simp only [List.mem_cons, List.not_mem_nil, or_false, not_or]
      exact ⟨by rintro rfl; exact h1 hk, by rintro rfl; exact h2 hk⟩
    have hB : blk (w1.alloc (.cells #[.int .i64 (2 * (G.nodes.length : Int))] 52)) w1.heap.size [.int .i64 (2 * (G.nodes.length : Int))] := blk.new _ _ _
    have HI := Lib.hid hI; clear hI
    have HB := Lib.hid hB; clear hB
    have HS := Lib.hid hs; clear hs
    have HWA := Lib.hid hWA; clear hWA
    have HC1 := Lib.hid hch1; clear hch1
    go_wp2_with (at_builtin; go_loud (refine wpList_append_row slRefs rfl _ _ rfl (v := iv) (n := (inputs G.nodes).length) (xs := refsCells (inputs G.nodes)) rfl HI.out (ad := ⟨w1.heap.size, 0, none⟩) (m := 1) (c := 1) (news := [.int .i64 (2 * (G.nodes.length : Int))]) rfl rfl (news_blk HB.out) (by simp [Value.oneCell']) (by omega) (by omega) ?_; intro v' w2 hown hC2 hfresh; obtain ⟨ib, icap, hv⟩ := row.parts hown (by omega); have k3 : w2.cell? ⟨g, 3, none⟩ = some iv := (hC2.cell (p := ⟨g, 3, none⟩) (by simp; omega) (by have := H.out.gi; simpa [eq_comm] using this)).trans (by go_simp); have k3f : w2.frozen? ⟨g, 3, none⟩ = false := (hC2.frozen (p := ⟨g, 3, none⟩) (by simp; omega) (by have := H.out.gi; simpa [eq_comm] using this)).trans (by go_simp); have HOWN := Lib.hid hown; clear hown; have HC2 := Lib.hid hC2; clear hC2; have HFR := Lib.hid hfresh; clear hfresh; have HV := Lib.hid hv; rw [hv]; clear hv))
    go_ret2
    have hz2 := HC2.out.size
    simp at hz2
    have hown := HOWN.out
    rw [HV.out] at hown
    have hfr : ib < w1.heap.size → iv.ownBlock = some ib := fun hlt => by
      rcases HFR.out ib (by rw [HV.out]; rfl) with e | e
      · exact e
      · simp at e; omega
    have hgi := H.out.gi
    have hni := H.out.ni
    have hmi := H.out.mi
    have hivl := H.out.lt.2.2.2
    have hm1 : mb < w1.heap.size := by omega
    have hnb' : nb' < w1.heap.size := (HS.out.nodes.lt nb' rfl).2
    have e1 : ib ≠ g := fun e => by subst e; exact hgi (hfr hg1)
    have e2 : ib ≠ mb := fun e => by subst e; exact hmi (hfr hm1)
    have e3 : ib ≠ nb' := fun e => by
      subst e
      have := hfr hnb'
      rcases HS.out.fresh with e | e
      · exact hni (e ▸ this)
      · have := hivl _ this; omega
    have hgn : g ≠ nb' := by
      rcases HS.out.fresh with e | e
      · rw [e]; exact H.out.gn
      · omega
    have hmn : mb ≠ nb' := by
      rcases HS.out.fresh with e | e
      · rw [e]; exact H.out.mn
      · omega
    have hgiv : g ∉ iv.ownBlock.toList := by simpa [eq_comm] using hgi
    have hmiv : mb ∉ iv.ownBlock.toList := by simpa [eq_comm] using hmi
    have hniv : nb' ∉ iv.ownBlock.toList := by
      simp only [Option.mem_toList]
      intro hk
      rcases HS.out.fresh with e | e
      · exact hni (e ▸ hk)
      · have := hivl _ hk; omega
    have hCall : Ch iv.ownBlock.toList w1 w2 := (HWA.out.mono (by simp)).trans HC2.out (fun k hk => .inl hk)
    have hIS := inputs_input (ns := G.nodes) (x := ⟨2, 0, 0, 0⟩) rfl
    have hset : Ch [g] w2 (w2.setCell ⟨g, 3, none⟩ (.slice (some ⟨ib, 0, none⟩) ((inputs G.nodes).length + 1) icap)) := (Ch.refl _ _).setCell (by simp) _
    refine ⟨ret_ii (by simp) rfl, GTo.of (nb' := nb') (ncap' := ncap') (iv' := .slice (some ⟨ib, 0, none⟩) ((inputs G.nodes).length + 1) icap) ?_ ?_ HS.out.fresh ?_⟩
    · refine ⟨?_, ?_, ?_, ?_, H.out.gm, hgn, hmn, ?_, ?_, ?_, ?_⟩
      · have := (HS.out.st.ch hCall hgiv).set (i := 3) (.slice (some ⟨ib, 0, none⟩) ((inputs G.nodes).length + 1) icap)
        simpa using this
      · have := (HS.out.nodes.ch hCall (fun k hk => by cases hk; exact hniv)).ch hset (fun k hk => by cases hk; simp [hgn.symm])
        simpa using this
      · obtain ⟨es, clock, h1, h2⟩ := H.out.mp
        refine ⟨es, clock, ?_, h2.other (by simp)⟩
        have g1 := HC1.out.block mb (by omega) (by simp [H.out.gm.symm, H.out.mn])
        have g2 := hCall.block mb hm1 hmiv
        have g3 := hset.block mb (by omega) (by simp [H.out.gm.symm])
        exact g3.trans (g2.trans (g1.trans h1))
      · show row _ _ 1 _ (inputs (G.nodes ++ [⟨2, 0, 0, 0⟩])).length (refsCells (inputs (G.nodes ++ [⟨2, 0, 0, 0⟩])))
        rw [hIS]
        have := hown.ch hset (fun k hk => by cases hk; simp [e1])
        simpa [refsCells] using this
      · simp [Value.ownBlock, e1]
      · simp [Value.ownBlock, e3]
      · simp [Value.ownBlock, e2]
      · exact ⟨H.out.ok.wf.input, by have := HF.out; simp; omega, H.out.ok.most⟩
    · refine ((HC1.out.mono (F' := fp g nb mb iv) ?_).trans ((hCall.mono (F' := g :: iv.ownBlock.toList) (fun k hk => .inl (by simp at hk ⊢; simp [hk]))).trans hset (fun k hk => .inl (by simp at hk ⊢; simp [hk]))) ?_)
      · intro k hk; left; simp [fp] at hk ⊢; rcases hk with e | e <;> simp [e]
      · intro k hk; left; simp [fp] at hk ⊢; rcases hk with e | e <;> simp [e]
    · intro k hk
      simp only [Value.ownBlock, Option.some.injEq] at hk
      subst hk
      rcases HFR.out ib (by rw [HV.out]; rfl) with e | e
      · exact .inl e
      · simp at e; exact .inr (by omega)
end
end Go.Proofs.YtehljgigebhddaaGreat
namespace Go.Proofs.YtehljgigebhddaaGreat
open Go.RowKit Go.Mem Go.Aig

def newG (n : Nat) : Gra := ⟨n, [⟨1, 0, 0, 0⟩]⟩
theorem newG_ok {n : Nat} (h1 : 1 ≤ n) (h2 : n ≤ 65536) : Ok (newG n) := by
  refine ⟨?_, by simpa [newG] using h1, h2⟩
  have key : ∀ (m : Nat) (x : Nd), (newG n).nodes[m]? = some x → m = 0 ∧ x = ⟨1, 0, 0, 0⟩ := fun m x h => by
    have := (List.getElem?_eq_some_iff.1 h).1
    have h0 : m = 0 := by simp [newG] at this; omega
    subst h0
    simp [newG] at h
    exact ⟨rfl, h.symm⟩
  refine ⟨rfl, fun m x h hm => ?_, fun m k x y hx hy _ _ _ _ => ?_, fun m x h => ?_⟩
  · have := key m x h; omega
  · rw [(key m x hx).1, (key k y hy).1]
  · obtain ⟨rfl, rfl⟩ := key m x h; exact Nat.le_refl _
section
variable {w : World}
set_option maxRecDepth 100000 in
set_option maxHeartbeats 1000000 in
theorem New_no (n : Int) (h : n < 1 ∨ 65536 < n) :
    Calls Tryz.prog 112 #[.int .i64 n] w fun e w' => e = .returned (.tuple #[.pointer none, .int .i64 2]) ∧ w = w' := by
  rcases h with h | h
  · have h1 : decide (n < 1) = true := decide_eq_true h
    go_enter Tryz.func112, Tryz.ntmps112
    go_wp2_with fail
    go_ret2
    exact ⟨rfl, rfl⟩
  · have h1 : decide (n < 1) = false := decide_eq_false (by omega)
    have h2 : decide (65536 < n) = true := decide_eq_true h
    go_enter Tryz.func112, Tryz.ntmps112
    go_wp2_with fail
    go_ret2
    exact ⟨rfl, rfl⟩

set_option maxRecDepth 100000 in
set_option maxHeartbeats 1000000 in
theorem New_yes (n : Nat) (h1 : 1 ≤ n) (h2 : n ≤ 65536) :
    Calls Tryz.prog 112 #[.int .i64 n] w fun e w' => ∃ g F, e = .returned (.tuple #[.pointer (some ⟨g, 0, none⟩), .int .i64 0]) ∧ GIn w' g (newG n) F ∧ (∀ k ∈ F, w.heap.size ≤ k) ∧ Ch [] w w' := by
  have d1 : decide ((n : Int) < 1) = false := decide_eq_false (by omega)
  have d2 : decide ((65536 : Int) < n) = false := decide_eq_false (by omega)
  have hmm := @run_makeMap Tryz.prog
  go_enter Tryz.func112, Tryz.ntmps112
  go_wp2_with fail
  go_ret2

  have c1 : Ch [] w (w.alloc (.cells #[.int .u8 1, .int .i64 0, .int .i64 0, .int .i64 0] 282)) := (Ch.refl _ _).alloc _
  have c2 := c1.alloc (.map #[] 0)
  have c3 := c2.alloc (.cells #[.int .i64 n, .slice (some ⟨w.heap.size, 0, none⟩) 1 1, .map (some (w.heap.size + 1)), .slice none 0 0] 47)
  have k2 : Ch [] (w.alloc (.cells #[.int .u8 1, .int .i64 0, .int .i64 0, .int .i64 0] 282)) _ := ((Ch.refl [] _).alloc (.map #[] 0)).alloc (.cells #[.int .i64 n, .slice (some ⟨w.heap.size, 0, none⟩) 1 1, .map (some (w.heap.size + 1)), .slice none 0 0] 47)
  refine ⟨w.heap.size + 2, fp (w.heap.size + 2) w.heap.size (w.heap.size + 1) (.slice none 0 0), rfl, ⟨w.heap.size, 1, .slice none 0 0, w.heap.size + 1, ?_, rfl⟩, by simp [fp], c3⟩
  refine ⟨blk.new' _ _ (by simp), ⟨rfl, .inr ⟨w.heap.size, 1, _, rfl, by omega, (k2.block _ (by simp) (by simp)).trans (heap_alloc_new w _), by simp [newG], by unfold maxLen; omega, rfl, rfl⟩⟩, ⟨#[], 0, (((Ch.refl [] _).alloc _).block _ (by simp) (by simp)).trans (by have := heap_alloc_new (w.alloc (.cells #[.int .u8 1, .int .i64 0, .int .i64 0, .int .i64 0] 282)) (.map #[] 0); simpa using this), ?_⟩, ⟨rfl, .inl ⟨rfl, rfl⟩⟩, by omega, by omega, by omega, by simp, by simp, by simp, newG_ok h1 h2⟩
  refine ⟨by simp, fun m x hx hk => ?_, by simp⟩
  have h1 := (List.getElem?_eq_some_iff.1 hx).1
  have h0 : m = 0 := by simp [newG] at h1; omega
  subst h0
  simp [newG] at hx
  subst hx
  simp at hk
end
end Go.Proofs.YtehljgigebhddaaGreat
namespace Go.Proofs.YtehljgigebhddaaGreat
open Go.RowKit Go.Mem Go.Aig
theorem eqSliceNil (w : World) (a : Option Addr) (n c : Nat) : (binOp .eql 45 (.slice a n c) (.slice none 0 0)).run Tryz.prog w = .ok (.bool a.isNone) w := by
  have h : Tryz.prog.underlying 45 = some (.slice 52) := Tryz.underlying45
  simp only [binOp]
  simp [run_equal_slice_nil w _ _ a n c h]
attribute [go_sem] eqSliceNil
section
variable {w : World}
variable {g : Nat} {G : Gra} {nb ncap : Nat} {iv : Value} {mb : Nat}
end
end Go.Proofs.YtehljgigebhddaaGreat
namespace Go.Proofs.YtehljgigebhddaaGreat
open Go.RowKit Go.Mem Go.Aig Go.Shelf
attribute [local go_sem] Oper.semAt_some

section
variable {w : World} {g : Nat} {G : Gra} {nb ncap : Nat} {iv : Value} {mb : Nat}
end
end Go.Proofs.YtehljgigebhddaaGreat
namespace Go.Proofs.YtehljgigebhddaaGreat
open Go.RowKit Go.Mem Go.Aig
section
variable {w : World}
theorem row.set {e : TypeId} {b n cap i : Nat} {xs : List Value} (h : row w e 1 (.slice (some ⟨b, 0, none⟩) n cap) n xs) (v : Value) : row (w.setCell ⟨b, i, none⟩ v) e 1 (.slice (some ⟨b, 0, none⟩) n cap) n (xs.set i v) := by
  refine ⟨by rw [List.length_set]; exact h.1, ?_⟩
  rcases h.2 with ⟨e1, _⟩ | ⟨g, cap', cur, e1, h0, hg, hle, hm, hs, ht⟩
  · cases e1
  · cases e1
    refine .inr ⟨b, cap, cur.setIfInBounds i v, rfl, h0, ?_, hle, hm, by simpa using hs, ?_⟩
    · simp only [World.setCell, Array.getElem?_modify]
      rw [if_pos trivial, hg]
      simp
    · rw [Array.toList_setIfInBounds, List.take_set, ht]
end
end Go.Proofs.YtehljgigebhddaaGreat
namespace Go.Proofs.YtehljgigebhddaaGreat
open Go.RowKit Go.Mem Go.Aig Go.Shelf
attribute [local go_sem] Oper.semAt_some
theorem infoInt : (Tryz.prog.info? 3).map (fun i => (i.zero, i.size, i.bytes)) = some (some (.int .i64 0), 1, 8) := by kernel_rfl
section
variable {w : World} {g : Nat} {G : Gra} {nb ncap : Nat} {iv : Value} {mb : Nat}
end
end Go.Proofs.YtehljgigebhddaaGreat
namespace Go.Proofs.YtehljgigebhddaaGreat
open Go.RowKit Go.Mem Go.Aig
theorem cell_lt {w : World} {p : Addr} {v : Value} (h : w.cell? p = some v) : p.block < w.heap.size := by
  rcases Nat.lt_or_ge p.block w.heap.size with h1 | h1
  · exact h1
  · simp [World.cell?, Array.getElem?_eq_none h1] at h
theorem Sl.ch {F : List Nat} {w w' : World} {a : Option Addr} {xs : List Int} (h : Sl w a xs) (hc : Ch F w w') (hF : ∀ p, a = some p → p.block ∉ F) : Sl w' a xs :=
  ⟨fun i x hx => by
    obtain ⟨b, o, rfl, hcell⟩ := h.cells i x hx
    exact ⟨b, o, rfl, (hc.cell (p := ⟨b, o + i, none⟩) (cell_lt hcell) (hF ⟨b, o, none⟩ rfl)).trans hcell⟩, h.bd⟩
theorem take_eq_succ {xs ys : List Int} {k : Nat} {x y : Int} (h : xs.take k = ys.take k) (hx : xs[k]? = some x) (hy : ys[k]? = some y) (e : x = y) : xs.take (k + 1) = ys.take (k + 1) := by
  rw [List.take_add_one, List.take_add_one, h, hx, hy, e]
section
variable {w : World}
set_option maxRecDepth 100000 in
set_option maxHeartbeats 1000000 in
theorem Eqint_is {a b : Option Addr} {xs ys : List Int} (ca cb : Nat) (hx : Sl w a xs) (hy : Sl w b ys) :
    Calls Tryz.prog 220 #[.slice a xs.length ca, .slice b ys.length cb] w fun e w' => e = .returned (.bool (decide (xs = ys))) ∧ Ch [] w w' := by
  have hbx := hx.bd
  have hby := hy.bd
  have HX := Lib.hid hx; clear hx
  have HY := Lib.hid hy; clear hy
  by_cases hl : xs.length = ys.length
  · have hne : ((xs.length : Int) != (ys.length : Int)) = false := by simp [hl]
    generalize hd : decide (xs = ys) = d
    have HD := Lib.hid hd; clear hd
    have HL := Lib.hid hl; clear hl
    go_enter Tryz.func220, Tryz.ntmps220
    go_wp2_with fail
    go_loopw [13] (fun i wr => ∃ k : Nat, k ≤ xs.length ∧ i = .int .i64 k ∧ xs.take k = ys.take k ∧ Ch [] w wr) (fun i _ => xs.length - (intOf i).toNat)
    case atStart => exact ⟨0, Nat.zero_le _, rfl, rfl, Ch.refl _ _⟩
    case round =>
      obtain ⟨k, hk, rfl, ht, hc⟩ := hrel
      have HT := Lib.hid ht; clear ht
      by_cases hlt : k < xs.length
      · have hlt2 : k < ys.length := by have := HL.out; omega
        have hxk : xs[k]? = some xs[k] := List.getElem?_eq_getElem hlt
        have hyk : ys[k]? = some ys[k] := List.getElem?_eq_getElem hlt2
        obtain ⟨b1, o1, rfl, c1⟩ := (HX.out.ch hc (by simp)).cells k _ hxk
        obtain ⟨b2, o2, rfl, c2⟩ := (HY.out.ch hc (by simp)).cells k _ hyk
        generalize xs[k] = x at *
        generalize ys[k] = y at *
        have HXK := Lib.hid hxk; clear hxk
        have HYK := Lib.hid hyk; clear hyk
        have HC := Lib.hid hc; clear hc
        by_cases hxy : x = y
        · have hb : (x != y) = false := by simp [hxy]
          have HE := Lib.hid hxy; clear hxy
          go_wp2_with fail
          refine Ord.St.door (fun _ => True) [.fl, .fl, .fl, .rd, .fl, .fl, .fl, .rd, .fl] [0, 0, 3, 7, 0, 0, 48, 112, 255] [0, 1, 2, 3, 4, 5, 6, 7, 8] mixed (by kernel_rfl) rfl ?_
          refine Ord.St.fl2 (T' := ?_) 0 [1, 2, 3, 4, 5, 6, 7, 8] _ _ rfl (by kernel_rfl) rfl rfl rfl rfl (fun K w' hk => ?_) ?_
          rotate_left
          · go_step; exact hk
          refine Ord.St.fl2 (T' := ?_) 1 [2, 3, 4, 5, 6, 7, 8] _ _ rfl (by kernel_rfl) rfl rfl rfl rfl (fun K w' hk => ?_) ?_
          rotate_left
          · go_step; exact hk
          refine Ord.St.fl2 (T' := ?_) 2 [3, 4, 5, 6, 7, 8] _ _ rfl (by kernel_rfl) rfl rfl rfl rfl (fun K w' hk => ?_) ?_
          rotate_left
          · go_step; exact hk
          refine Ord.St.rd2 (T' := ?_) 3 [4, 5, 6, 7, 8] _ _ rfl (by kernel_rfl) rfl rfl rfl rfl (fun K hk => ?_) ?_
          rotate_left
          · go_step; exact hk
          refine Ord.St.fl2 (T' := ?_) 4 [5, 6, 7, 8] _ _ rfl (by kernel_rfl) rfl rfl rfl rfl (fun K w' hk => ?_) ?_
          rotate_left
          · go_step; exact hk
          refine Ord.St.fl2 (T' := ?_) 5 [6, 7, 8] _ _ rfl (by kernel_rfl) rfl rfl rfl rfl (fun K w' hk => ?_) ?_
          rotate_left
          · go_step; exact hk
          refine Ord.St.fl2 (T' := ?_) 6 [7, 8] _ _ rfl (by kernel_rfl) rfl rfl rfl rfl (fun K w' hk => ?_) ?_
          rotate_left
          · go_step; exact hk
          refine Ord.St.rd2 (T' := ?_) 7 [8] _ _ rfl (by kernel_rfl) rfl rfl rfl rfl (fun K hk => ?_) ?_
          rotate_left
          · go_step; exact hk
          refine Ord.St.fl2 (T' := ?_) 8 [] _ _ rfl (by kernel_rfl) rfl rfl rfl rfl (fun K w' hk => ?_) ?_
          rotate_left
          · go_step; exact hk
          refine Ord.St.nil ?_
          go_wp2_with fail
          go_roundw
          case rel => exact ⟨k + 1, by omega, by go_num, take_eq_succ HT.out HXK.out HYK.out HE.out, HC.out.drew⟩
          case measure => simp [intOf]; omega
        · have hb : (x != y) = true := by simp [hxy]
          have hdf : d = false := by
            rw [← HD.out]
            refine decide_eq_false fun e => hxy ?_
            have h1 := HXK.out
            rw [e, HYK.out] at h1
            cases h1; rfl
          have HDF := Lib.hid hdf; clear hdf
          clear hxy
          go_wp2_with fail
          refine Ord.St.door (fun _ => True) [.fl, .fl, .fl, .rd, .fl, .fl, .fl, .rd, .fl] [0, 0, 3, 7, 0, 0, 48, 112, 255] [0, 1, 2, 3, 4, 5, 6, 7, 8] mixed (by kernel_rfl) rfl ?_
          refine Ord.St.fl2 (T' := ?_) 0 [1, 2, 3, 4, 5, 6, 7, 8] _ _ rfl (by kernel_rfl) rfl rfl rfl rfl (fun K w' hk => ?_) ?_
          rotate_left
          · go_step; exact hk
          refine Ord.St.fl2 (T' := ?_) 1 [2, 3, 4, 5, 6, 7, 8] _ _ rfl (by kernel_rfl) rfl rfl rfl rfl (fun K w' hk => ?_) ?_
          rotate_left
          · go_step; exact hk
          refine Ord.St.fl2 (T' := ?_) 2 [3, 4, 5, 6, 7, 8] _ _ rfl (by kernel_rfl) rfl rfl rfl rfl (fun K w' hk => ?_) ?_
          rotate_left
          · go_step; exact hk
          refine Ord.St.rd2 (T' := ?_) 3 [4, 5, 6, 7, 8] _ _ rfl (by kernel_rfl) rfl rfl rfl rfl (fun K hk => ?_) ?_
          rotate_left
          · go_step; exact hk
          refine Ord.St.fl2 (T' := ?_) 4 [5, 6, 7, 8] _ _ rfl (by kernel_rfl) rfl rfl rfl rfl (fun K w' hk => ?_) ?_
          rotate_left
          · go_step; exact hk
          refine Ord.St.fl2 (T' := ?_) 5 [6, 7, 8] _ _ rfl (by kernel_rfl) rfl rfl rfl rfl (fun K w' hk => ?_) ?_
          rotate_left
          · go_step; exact hk
          refine Ord.St.fl2 (T' := ?_) 6 [7, 8] _ _ rfl (by kernel_rfl) rfl rfl rfl rfl (fun K w' hk => ?_) ?_
          rotate_left
          · go_step; exact hk
          refine Ord.St.rd2 (T' := ?_) 7 [8] _ _ rfl (by kernel_rfl) rfl rfl rfl rfl (fun K hk => ?_) ?_
          rotate_left
          · go_step; exact hk
          refine Ord.St.fl2 (T' := ?_) 8 [] _ _ rfl (by kernel_rfl) rfl rfl rfl rfl (fun K w' hk => ?_) ?_
          rotate_left
          · go_step; exact hk
          refine Ord.St.nil ?_
          go_wp2_with fail
          go_ret
          rw [HDF.out]
          exact ⟨rfl, HC.out.drew⟩
      · have hdt : d = true := by
          rw [← HD.out]
          have h1 := HT.out
          rw [List.take_of_length_le (by omega), List.take_of_length_le (by have := HL.out; omega)] at h1
          exact decide_eq_true h1
        have HDT := Lib.hid hdt; clear hdt
        have HC := Lib.hid hc; clear hc
        go_wp2_with fail
        go_ret
        rw [HDT.out]
        exact ⟨rfl, HC.out⟩
  · have hne : ((xs.length : Int) != (ys.length : Int)) = true := by rw [bne_iff_ne]; omega
    have hd : decide (xs = ys) = false := decide_eq_false fun e => hl (by rw [e])
    rw [hd]
    clear hd
    go_enter Tryz.func220, Tryz.ntmps220
    go_wp2_with fail
    go_ret
    exact ⟨rfl, Ch.refl _ _⟩
set_option maxRecDepth 100000 in
set_option maxHeartbeats 1000000 in
theorem Eqref_is {a b : Option Addr} {xs ys : List Int} (ca cb : Nat) (hx : Sl w a xs) (hy : Sl w b ys) :
    Calls Tryz.prog 56 #[.slice a xs.length ca, .slice b ys.length cb] w fun e w' => e = .returned (.bool (decide (xs = ys))) ∧ Ch [] w w' := by
  have hbx := hx.bd
  have hby := hy.bd
  have HX := Lib.hid hx; clear hx
  have HY := Lib.hid hy; clear hy
  by_cases hl : xs.length = ys.length
  · have hne : ((xs.length : Int) != (ys.length : Int)) = false := by simp [hl]
    generalize hd : decide (xs = ys) = d
    have HD := Lib.hid hd; clear hd
    have HL := Lib.hid hl; clear hl
    go_enter Tryz.func56, Tryz.ntmps56
    go_wp2_with fail
    go_loopw [13] (fun i wr => ∃ k : Nat, k ≤ xs.length ∧ i = .int .i64 k ∧ xs.take k = ys.take k ∧ Ch [] w wr) (fun i _ => xs.length - (intOf i).toNat)
    case atStart => exact ⟨0, Nat.zero_le _, rfl, rfl, Ch.refl _ _⟩
    case round =>
      obtain ⟨k, hk, rfl, ht, hc⟩ := hrel
      have HT := Lib.hid ht; clear ht
      by_cases hlt : k < xs.length
      · have hlt2 : k < ys.length := by have := HL.out; omega
        have hxk : xs[k]? = some xs[k] := List.getElem?_eq_getElem hlt
        have hyk : ys[k]? = some ys[k] := List.getElem?_eq_getElem hlt2
        obtain ⟨b1, o1, rfl, c1⟩ := (HX.out.ch hc (by simp)).cells k _ hxk
        obtain ⟨b2, o2, rfl, c2⟩ := (HY.out.ch hc (by simp)).cells k _ hyk
        generalize xs[k] = x at *
        generalize ys[k] = y at *
        have HXK := Lib.hid hxk; clear hxk
        have HYK := Lib.hid hyk; clear hyk
        have HC := Lib.hid hc; clear hc
        by_cases hxy : x = y
        · have hb : (x != y) = false := by simp [hxy]
          have HE := Lib.hid hxy; clear hxy
          go_wp2_with fail
          refine Ord.St.door (fun _ => True) [.fl, .fl, .fl, .rd, .fl, .fl, .fl, .rd, .fl] [0, 0, 3, 7, 0, 0, 48, 112, 255] [0, 1, 2, 3, 4, 5, 6, 7, 8] mixed (by kernel_rfl) rfl ?_
          refine Ord.St.fl2 (T' := ?_) 0 [1, 2, 3, 4, 5, 6, 7, 8] _ _ rfl (by kernel_rfl) rfl rfl rfl rfl (fun K w' hk => ?_) ?_
          rotate_left
          · go_step; exact hk
          refine Ord.St.fl2 (T' := ?_) 1 [2, 3, 4, 5, 6, 7, 8] _ _ rfl (by kernel_rfl) rfl rfl rfl rfl (fun K w' hk => ?_) ?_
          rotate_left
          · go_step; exact hk
          refine Ord.St.fl2 (T' := ?_) 2 [3, 4, 5, 6, 7, 8] _ _ rfl (by kernel_rfl) rfl rfl rfl rfl (fun K w' hk => ?_) ?_
          rotate_left
          · go_step; exact hk
          refine Ord.St.rd2 (T' := ?_) 3 [4, 5, 6, 7, 8] _ _ rfl (by kernel_rfl) rfl rfl rfl rfl (fun K hk => ?_) ?_
          rotate_left
          · go_step; exact hk
          refine Ord.St.fl2 (T' := ?_) 4 [5, 6, 7, 8] _ _ rfl (by kernel_rfl) rfl rfl rfl rfl (fun K w' hk => ?_) ?_
          rotate_left
          · go_step; exact hk
          refine Ord.St.fl2 (T' := ?_) 5 [6, 7, 8] _ _ rfl (by kernel_rfl) rfl rfl rfl rfl (fun K w' hk => ?_) ?_
          rotate_left
          · go_step; exact hk
          refine Ord.St.fl2 (T' := ?_) 6 [7, 8] _ _ rfl (by kernel_rfl) rfl rfl rfl rfl (fun K w' hk => ?_) ?_
          rotate_left
          · go_step; exact hk
          refine Ord.St.rd2 (T' := ?_) 7 [8] _ _ rfl (by kernel_rfl) rfl rfl rfl rfl (fun K hk => ?_) ?_
          rotate_left
          · go_step; exact hk
          refine Ord.St.fl2 (T' := ?_) 8 [] _ _ rfl (by kernel_rfl) rfl rfl rfl rfl (fun K w' hk => ?_) ?_
          rotate_left
          · go_step; exact hk
          refine Ord.St.nil ?_
          go_wp2_with fail
          go_roundw
          case rel => exact ⟨k + 1, by omega, by go_num, take_eq_succ HT.out HXK.out HYK.out HE.out, HC.out.drew⟩
          case measure => simp [intOf]; omega
        · have hb : (x != y) = true := by simp [hxy]
          have hdf : d = false := by
            rw [← HD.out]
            refine decide_eq_false fun e => hxy ?_
            have h1 := HXK.out
            rw [e, HYK.out] at h1
            cases h1; rfl
          have HDF := Lib.hid hdf; clear hdf
          clear hxy
          go_wp2_with fail
          refine Ord.St.door (fun _ => True) [.fl, .fl, .fl, .rd, .fl, .fl, .fl, .rd, .fl] [0, 0, 3, 7, 0, 0, 48, 112, 255] [0, 1, 2, 3, 4, 5, 6, 7, 8] mixed (by kernel_rfl) rfl ?_
          refine Ord.St.fl2 (T' := ?_) 0 [1, 2, 3, 4, 5, 6, 7, 8] _ _ rfl (by kernel_rfl) rfl rfl rfl rfl (fun K w' hk => ?_) ?_
          rotate_left
          · go_step; exact hk
          refine Ord.St.fl2 (T' := ?_) 1 [2, 3, 4, 5, 6, 7, 8] _ _ rfl (by kernel_rfl) rfl rfl rfl rfl (fun K w' hk => ?_) ?_
          rotate_left
          · go_step; exact hk
          refine Ord.St.fl2 (T' := ?_) 2 [3, 4, 5, 6, 7, 8] _ _ rfl (by kernel_rfl) rfl rfl rfl rfl (fun K w' hk => ?_) ?_
          rotate_left
          · go_step; exact hk
          refine Ord.St.rd2 (T' := ?_) 3 [4, 5, 6, 7, 8] _ _ rfl (by kernel_rfl) rfl rfl rfl rfl (fun K hk => ?_) ?_
          rotate_left
          · go_step; exact hk
          refine Ord.St.fl2 (T' := ?_) 4 [5, 6, 7, 8] _ _ rfl (by kernel_rfl) rfl rfl rfl rfl (fun K w' hk => ?_) ?_
          rotate_left
          · go_step; exact hk
          refine Ord.St.fl2 (T' := ?_) 5 [6, 7, 8] _ _ rfl (by kernel_rfl) rfl rfl rfl rfl (fun K w' hk => ?_) ?_
          rotate_left
          · go_step; exact hk
          refine Ord.St.fl2 (T' := ?_) 6 [7, 8] _ _ rfl (by kernel_rfl) rfl rfl rfl rfl (fun K w' hk => ?_) ?_
          rotate_left
          · go_step; exact hk
          refine Ord.St.rd2 (T' := ?_) 7 [8] _ _ rfl (by kernel_rfl) rfl rfl rfl rfl (fun K hk => ?_) ?_
          rotate_left
          · go_step; exact hk
          refine Ord.St.fl2 (T' := ?_) 8 [] _ _ rfl (by kernel_rfl) rfl rfl rfl rfl (fun K w' hk => ?_) ?_
          rotate_left
          · go_step; exact hk
          refine Ord.St.nil ?_
          go_wp2_with fail
          go_ret
          rw [HDF.out]
          exact ⟨rfl, HC.out.drew⟩
      · have hdt : d = true := by
          rw [← HD.out]
          have h1 := HT.out
          rw [List.take_of_length_le (by omega), List.take_of_length_le (by have := HL.out; omega)] at h1
          exact decide_eq_true h1
        have HDT := Lib.hid hdt; clear hdt
        have HC := Lib.hid hc; clear hc
        go_wp2_with fail
        go_ret
        rw [HDT.out]
        exact ⟨rfl, HC.out⟩
  · have hne : ((xs.length : Int) != (ys.length : Int)) = true := by rw [bne_iff_ne]; omega
    have hd : decide (xs = ys) = false := decide_eq_false fun e => hl (by rw [e])
    rw [hd]
    clear hd
    go_enter Tryz.func56, Tryz.ntmps56
    go_wp2_with fail
    go_ret
    exact ⟨rfl, Ch.refl _ _⟩
end
end Go.Proofs.YtehljgigebhddaaGreat
namespace Go.Aig
def nodeAt (ns : List Nd) (r : Int) : Option Nd := if 0 ≤ r then ns[r.toNat / 2]? else none
def kindOf (ns : List Nd) (r : Int) : Nat := match nodeAt ns r with | some x => x.k | none => 0
def isAndAt (ns : List Nd) (r : Int) : Bool := kindOf ns r == 3
def lOf (ns : List Nd) (r : Int) : Nat := match nodeAt ns r with | some x => if x.k = 3 then x.l else 0 | none => 0
def rOf (ns : List Nd) (r : Int) : Nat := match nodeAt ns r with | some x => if x.k = 3 then x.r else 0 | none => 0
theorem nodeAt_none {ns : List Nd} {r : Int} (h : nodeAt ns r = none) : right ns r = false := by
  unfold nodeAt at h
  unfold right
  refine decide_eq_false ?_
  rintro ⟨h0, h1⟩
  rw [if_pos h0, List.getElem?_eq_none_iff] at h
  omega
theorem nodeAt_some {ns : List Nd} {r : Int} {x : Nd} (h : nodeAt ns r = some x) : 0 ≤ r ∧ ns[r.toNat / 2]? = some x := by
  unfold nodeAt at h
  split at h
  · exact ⟨by assumption, h⟩
  · cases h
def doCut (G : Gra) (n : Int) : Gra × Nat := if n < 1 ∨ (G.nodes.length : Int) < n then (G, 2) else ({ G with nodes := G.nodes.take n.toNat }, 0)
end Go.Aig
namespace Go.Proofs.YtehljgigebhddaaGreat
open Go.RowKit Go.Mem Go.Aig
theorem GTo.gin {w w' : World} {g : Nat} {G : Gra} {F : List Nat} (h : GTo w g G F w') : ∃ F', GIn w' g G F' ∧ Ch F w w' ∧ (∀ k ∈ F', k ∈ F ∨ w.heap.size ≤ k) ∧ F'[2]? = F[2]? := h
theorem Ch.drewN {F : List Nat} {w : World} (n : Nat) : Ch F w (w.drewN n) := ⟨rfl, rfl, rfl, Nat.le_refl _, fun _ _ _ => rfl⟩
section
variable {w : World} {g : Nat} {G : Gra} {F : List Nat}
theorem Len_g (h : GIn w g G F) : Calls Tryz.prog 49 #[.pointer (some ⟨g, 0, none⟩)] w fun e w' => e = .returned (.int .i64 G.nodes.length) ∧ w = w' := by
  obtain ⟨_, _, _, _, h, rfl⟩ := h; exact Len_is h
theorem Room_g (h : GIn w g G F) : Calls Tryz.prog 202 #[.pointer (some ⟨g, 0, none⟩)] w fun e w' => e = .returned (.int .i64 (G.most - G.nodes.length : Nat)) ∧ Ch [] w w' := by
  obtain ⟨_, _, _, _, h, rfl⟩ := h
  refine (Room_is h).mono ?_
  rintro e w' ⟨rfl, n, rfl⟩
  exact ⟨rfl, Ch.drewN n⟩
theorem Right_g (h : GIn w g G F) (r : Int) (hr : r ≤ 9223372036854775807) : Calls Tryz.prog 241 #[.pointer (some ⟨g, 0, none⟩), .int .i64 r] w fun e w' => e = .returned (.bool (right G.nodes r)) ∧ w = w' := by
  obtain ⟨_, _, _, _, h, rfl⟩ := h; exact Right_is h r hr
theorem Kind_g (h : GIn w g G F) (r : Int) (hr : r ≤ 9223372036854775807) : Calls Tryz.prog 204 #[.pointer (some ⟨g, 0, none⟩), .int .i64 r] w fun e w' => e = .returned (.int .u8 (kindOf G.nodes r)) ∧ w = w' := by
  obtain ⟨_, _, _, _, h, rfl⟩ := h
  unfold kindOf
  cases hn : nodeAt G.nodes r with
  | none => exact Kind_no h r hr (nodeAt_none hn)
  | some x =>
    obtain ⟨h0, h1⟩ := nodeAt_some hn
    obtain ⟨n, rfl⟩ := Int.eq_ofNat_of_zero_le h0
    exact Kind_is h h1
set_option maxRecDepth 100000 in
set_option maxHeartbeats 400000 in
theorem Sides_off {nb ncap mb : Nat} {iv : Value} (h : GM w g G nb ncap iv mb) (r : Int) (hr : r ≤ 9223372036854775807) (hn : right G.nodes r = false) :
    Calls Tryz.prog 203 #[.pointer (some ⟨g, 0, none⟩), .int .i64 r] w fun e w' => e = .returned (.tuple #[.int .i64 0, .int .i64 0, .bool false]) ∧ Ch [] w w' := by
  have HK := Kind_no h r hr hn
  clear h
  go_enter Tryz.func203, Tryz.ntmps203
  go_wp2_with fail
  refine HK.mono ?_
  rintro e w' ⟨rfl, rfl⟩
  go_wp2_with fail
  go_ret3
  exact ⟨rfl, Ch.refl _ _⟩
theorem Sides_g (h : GIn w g G F) (r : Int) (hr : r ≤ 9223372036854775807) : Calls Tryz.prog 203 #[.pointer (some ⟨g, 0, none⟩), .int .i64 r] w fun e w' => e = .returned (.tuple #[.int .i64 (lOf G.nodes r), .int .i64 (rOf G.nodes r), .bool (isAndAt G.nodes r)]) ∧ Ch [] w w' := by
  obtain ⟨_, _, _, _, h, rfl⟩ := h
  unfold lOf rOf isAndAt kindOf
  cases hn : nodeAt G.nodes r with
  | none => exact Sides_off h r hr (nodeAt_none hn)
  | some x =>
    obtain ⟨h0, h1⟩ := nodeAt_some hn
    obtain ⟨n, rfl⟩ := Int.eq_ofNat_of_zero_le h0
    by_cases hk : x.k = 3
    · simp only [hk, if_true]
      exact Sides_is h h1 hk
    · have e : (x.k == 3) = false := by simp [hk]
      simp only [hk, if_false, e]
      exact Sides_no h h1 hk
theorem Input_g (h : GIn w g G F) : Calls Tryz.prog 113 #[.pointer (some ⟨g, 0, none⟩)] w fun e w' => e = .returned (.tuple #[.int .i64 (doInput G).2.1, .int .i64 (doInput G).2.2]) ∧ GTo w g (doInput G).1 F w' := by
  obtain ⟨_, _, _, _, h, rfl⟩ := h; exact Input_is h
theorem And_g (h : GIn w g G F) (a b : Int) (ba : a ≤ 9223372036854775807) (bb : b ≤ 9223372036854775807) : Calls Tryz.prog 103 #[.pointer (some ⟨g, 0, none⟩), .int .i64 a, .int .i64 b] w fun e w' => e = .returned (.tuple #[.int .i64 (doAnd G a b).2.1, .int .i64 (doAnd G a b).2.2]) ∧ GTo w g (doAnd G a b).1 F w' := by
  obtain ⟨_, _, _, _, h, rfl⟩ := h; exact And_is h a b ba bb
theorem Xor_g (h : GIn w g G F) (a b : Int) (ba : a ≤ 9223372036854775807) (bb : b ≤ 9223372036854775807) : Calls Tryz.prog 342 #[.pointer (some ⟨g, 0, none⟩), .int .i64 a, .int .i64 b] w fun e w' => e = .returned (.tuple #[.int .i64 (doXor G a b).2.1, .int .i64 (doXor G a b).2.2]) ∧ GTo w g (doXor G a b).1 F w' := by
  obtain ⟨_, _, _, _, h, rfl⟩ := h; exact Xor_is h a b ba bb
theorem Mux_g (h : GIn w g G F) (c a b : Int) (bc : c ≤ 9223372036854775807) (ba : a ≤ 9223372036854775807) (bb : b ≤ 9223372036854775807) : Calls Tryz.prog 115 #[.pointer (some ⟨g, 0, none⟩), .int .i64 c, .int .i64 a, .int .i64 b] w fun e w' => e = .returned (.tuple #[.int .i64 (doMux G c a b).2.1, .int .i64 (doMux G c a b).2.2]) ∧ GTo w g (doMux G c a b).1 F w' := by
  obtain ⟨_, _, _, _, h, rfl⟩ := h; exact Mux_is h c a b bc ba bb
theorem All_g (h : GIn w g G F) {a : Option Addr} {l : List Int} (n cap : Nat) (hn : l.length = n) (hS : Sl w a l) (hb : ∀ x ∈ l, x ≤ 9223372036854775807) (hap : ∀ p, a = some p → p.block < w.heap.size ∧ p.block ∉ F) : Calls Tryz.prog 192 #[.pointer (some ⟨g, 0, none⟩), .slice a n cap] w fun e w' => e = .returned (.tuple #[.int .i64 (doAll G l).2.1, .int .i64 (doAll G l).2.2]) ∧ GTo w g (doAll G l).1 F w' := by
  subst hn
  obtain ⟨_, _, _, _, h, rfl⟩ := h; exact All_is h cap hS hb hap
theorem Any_g (h : GIn w g G F) {a : Option Addr} {l : List Int} (n cap : Nat) (hn : l.length = n) (hS : Sl w a l) (hb : ∀ x ∈ l, x ≤ 9223372036854775807) (hap : ∀ p, a = some p → p.block < w.heap.size ∧ p.block ∉ F) : Calls Tryz.prog 232 #[.pointer (some ⟨g, 0, none⟩), .slice a n cap] w fun e w' => e = .returned (.tuple #[.int .i64 (doAny G l).2.1, .int .i64 (doAny G l).2.2]) ∧ GTo w g (doAny G l).1 F w' := by
  subst hn
  obtain ⟨_, _, _, _, h, rfl⟩ := h; exact Any_is h cap hS hb hap
theorem Cut_g (h : GIn w g G F) (n : Int) (h1 : n ≤ 9223372036854775807) (h0 : -9223372036854775808 ≤ n) : Calls Tryz.prog 230 #[.pointer (some ⟨g, 0, none⟩), .int .i64 n] w fun e w' => e = .returned (.int .i64 (doCut G n).2) ∧ GTo w g (doCut G n).1 F w' := by
  obtain ⟨nb, ncap, iv, mb, h, rfl⟩ := h
  unfold doCut
  by_cases hn : n < 1 ∨ (G.nodes.length : Int) < n
  · rw [if_pos hn]
    refine (Cut_arg h n hn h1 h0).mono ?_
    rintro e w' ⟨rfl, hc⟩
    exact ⟨rfl, GTo.same ⟨_, _, _, _, h, rfl⟩ hc⟩
  · rw [if_neg hn]
    obtain ⟨m, rfl⟩ := Int.eq_ofNat_of_zero_le (show 0 ≤ n by omega)
    refine (Cut_is h m (by omega) (by omega)).mono ?_
    rintro e w' ⟨rfl, iv', hg, hb, hc⟩
    exact ⟨rfl, GTo.of hg hc (.inl rfl) (fun k hk => .inl (by rw [← hb]; exact hk))⟩
end
structure Own (w0 w : World) (g : Nat) (G : Gra) (F : List Nat) : Prop where
  gin : GIn w g G F
  own : ∀ k ∈ F, w0.heap.size ≤ k
  ch : Ch [] w0 w
theorem Own.same {w0 w w' : World} {g : Nat} {G : Gra} {F : List Nat} (h : Own w0 w g G F) (hc : Ch [] w w') : Own w0 w' g G F :=
  ⟨h.gin.same hc (by simp), h.own, h.ch.trans hc (by simp)⟩
end Go.Proofs.YtehljgigebhddaaGreat
namespace Go.Ord
section
variable {P : Program} {l : List Oper} {ks : List Kd} {A : List Nat} {C : World → Prop} {Q : Act → World → Prop}
def chkB (ops : Array Oper) (ks : List Kd) (R R' : List Nat) (i : Nat) : Bool := R.contains i && readyIn ops R i && decide (R.erase i = R') && decide (kd ks i = .ef)
theorem chkB_spec {ops : Array Oper} {R R' : List Nat} {i : Nat} (h : chkB ops ks R R' i = true) : i ∈ R ∧ readyIn ops R i = true ∧ R.erase i = R' ∧ kd ks i = .ef := by
  simp only [chkB, Bool.and_eq_true, decide_eq_true_eq] at h
  exact ⟨by simpa using h.1.1.1, h.1.1.2, h.1.2, h.2⟩
theorem ef_op {R R' : List Nat} {a : Act} {w : World} (i : Nat) (o : Oper) (hil : l[i]? = some o) (hchk : chkB l.toArray ks R R' i = true)
    (h : ∀ K : Act → World → Prop, (∀ a w, C w → St P l ks A C Q R' a w → K a w) → wpList P l.toArray (only K) [o] a w) (hn : R.Nodup) (hu : Up l.toArray R) (hlt : ∀ k ∈ R, k < l.toArray.size) (hs : Stat l.toArray ks A) :
    wpOp P l.toArray (only Q) i (fun a' w' => post ks A l.toArray.size C i w w' ∧ allOrd l.toArray (wpOp P l.toArray (only Q)) ks A C Q (R.length - 1) (R.erase i) a' w') a w := by
  have hi : l.toArray[i]? = some o := by simpa using hil
  have ⟨hm, hri, hR, hk⟩ := chkB_spec hchk
  have h1 := h (fun a w => C w ∧ St P l ks A C Q R' a w) (fun _ _ hc hh => ⟨hc, hh⟩)
  unfold wpOp
  simp only [hi]
  unfold wpList at h1
  have key : ∀ a' w', (wpList P l.toArray (only (fun a w => C w ∧ St P l ks A C Q R' a w)) [] a' w') → post ks A l.toArray.size C i w w' ∧ allOrd l.toArray (wpOp P l.toArray (only Q)) ks A C Q (R.length - 1) (R.erase i) a' w' := by
    intro a' w' hh
    refine ⟨?_, ?_⟩
    · unfold post; rw [if_pos hk]; intro _; exact hh.2.1
    subst hR
    have := hh.2.2 (hn.erase _) (hu.erase hn hri) (fun k hk => hlt k (List.mem_of_mem_erase hk)) hs
    rwa [List.length_erase_of_mem hm] at this
  split
  · rename_i hw
    rw [if_pos hw] at h1
    have h1 := h1.resolve_right fun hh => only_lets _ hh.2
    left
    have h2 := Oper.wp_mono (K' := fun a' w' => post ks A l.toArray.size C i w w' ∧ allOrd l.toArray (wpOp P l.toArray (only Q)) ks A C Q (R.length - 1) (R.erase i) a' w') key h1
    unfold Oper.wp at h2 ⊢
    generalize (execOp a.eval o).run P w = r at h2 ⊢
    cases r with
    | ok n w' =>
      cases n <;> simp only [Oper.upon] at h2 ⊢
      case value u => exact h2
      case skip => exact h2
      case defer d => exact h2
      case enter f args =>
        refine Calls.mono h2 fun e w'' he => ?_
        cases e with
        | returned u => exact he
        | panicked c => cases he.1
        | outgrown => exact (only_lets _ he).elim
      case row row args => exact h2
    | halt x w' =>
      cases x <;> simp only [Oper.upon] at h2 ⊢
      case panic u => cases h2.1
  · rename_i hw
    rw [if_neg hw] at h1
    exact key _ _ h1
def chkR (ops : Array Oper) (R rs : List Nat) : Bool := decide (R.filter (readyIn ops R) = rs)
theorem St.two {R : List Nat} {a : Act} {w : World} (i j : Nat) (Ri Rj : List Nat) (oi oj : Oper) (hir : chkR l.toArray R [i, j] = true) (hil : l[i]? = some oi) (hjl : l[j]? = some oj) (hci : chkB l.toArray ks R Ri i = true) (hcj : chkB l.toArray ks R Rj j = true)
    (h1 : ∀ K : Act → World → Prop, (∀ a w, C w → St P l ks A C Q Ri a w → K a w) → wpList P l.toArray (only K) [oi] a w)
    (h2 : ∀ K : Act → World → Prop, (∀ a w, C w → St P l ks A C Q Rj a w → K a w) → wpList P l.toArray (only K) [oj] a w) : St P l ks A C Q R a w := by
  intro hn hu hlt hs
  have hm : i ∈ R := (chkB_spec hci).1
  have hlen : R.length = R.length - 1 + 1 := by have := List.length_pos_of_mem hm; omega
  rw [hlen]
  refine branch (rs := [i, j]) (by unfold chkR at hir; simpa using hir) fun k hk => ?_
  simp only [List.mem_cons, List.not_mem_nil, or_false] at hk
  rcases hk with rfl | rfl
  · exact ef_op _ oi hil hci h1 hn hu hlt hs
  · exact ef_op _ oj hjl hcj h2 hn hu hlt hs
theorem St.alw {R : List Nat} {a : Act} {w : World} {o : Obj} (h : ∀ W, W = w.alloc o → St P l ks A C Q R a W) : St P l ks A C Q R a (w.alloc o) := h _ rfl
end
end Go.Ord
namespace Go.Proofs.YtehljgigebhddaaGreat
open Go.RowKit Go.Mem Go.Aig
structure Sv (w : World) (a : Option Addr) (xs : List Value) : Prop where
  cells : ∀ (i : Nat) (v : Value), xs[i]? = some v → ∃ b o, a = some ⟨b, o, none⟩ ∧ w.cell? ⟨b, o + i, none⟩ = some v
  bd : xs.length ≤ 9223372036854775807
theorem row.sv {w : World} {e : TypeId} {v : Value} {n : Nat} {xs : List Value} {a : Option Addr} {m c : Nat} (h : row w e 1 v n xs) (hv : v = .slice a m c) (hn : n ≤ 1000000) : Sv w a xs := by
  subst hv
  have h1 := h.1
  refine ⟨fun i x hx => ?_, by omega⟩
  rcases h.2 with ⟨e1, e2⟩ | ⟨b, cap, cur, e1, _⟩
  · have := (List.getElem?_eq_some_iff.1 hx).1
    omega
  · cases e1
    refine ⟨b, 0, rfl, ?_⟩
    have := h.cells (g := b) rfl i x hx
    rw [Addr.add_lit] at this
    simpa using this
theorem min_nat (n k m : Nat) (h : min n k = m) (ats : Array TypeId) (ty : TypeId) : Builtin.min_ ats ty #[.int .i64 (n : Int), .int .i64 (k : Int)] = pure (.int .i64 (m : Int)) := by
  have e : (if (k : Int) < n then (k : Int) else n) = m := by split <;> omega
  rw [← e]
  simp [Builtin.min_, Builtin.min2]
theorem alw_ch {W w : World} {o : Obj} (h : W = w.alloc o) : Ch [] w W := h ▸ (Ch.refl _ _).alloc _
theorem alw_blk {W w : World} {xs : List Value} {T : TypeId} (h : W = w.alloc (.cells xs.toArray T)) : blk W w.heap.size xs := h ▸ blk.new' _ _ rfl
end Go.Proofs.YtehljgigebhddaaGreat
namespace Go.Proofs.YtehljgigebhddaaGreat
open Go.RowKit Go.Mem Go.Aig
def rnCells (x : Nd) : List Value := [.int .i64 x.k, .int .i64 x.l, .int .i64 x.r]
def rCells : List Nd → List Value
  | [] => []
  | x :: ns => rnCells x ++ rCells ns
theorem rCells_length : ∀ ns : List Nd, (rCells ns).length = ns.length * 3
  | [] => rfl
  | x :: ns => by simp [rCells, rCells_length ns, rnCells]; omega
theorem rCells_append : ∀ (ns ms : List Nd), rCells (ns ++ ms) = rCells ns ++ rCells ms
  | [], _ => rfl
  | x :: ns, ms => by simp [rCells, rCells_append ns ms]
theorem rCells_get : ∀ {ns : List Nd} {n : Nat} {x : Nd} {j : Nat} {v : Value}, ns[n]? = some x → (rnCells x)[j]? = some v → (rCells ns)[n * 3 + j]? = some v
  | [], n, x, j, v, h, _ => by simp at h
  | y :: ns, 0, x, j, v, h, hv => by
    simp at h; subst h
    have : j < 3 := by have := (List.getElem?_eq_some_iff.1 hv).1; simpa [rnCells] using this
    simp only [rCells]
    rw [List.getElem?_append_left (by simp [rnCells]; omega)]
    simpa using hv
  | y :: ns, n + 1, x, j, v, h, hv => by
    simp only [rCells]
    rw [List.getElem?_append_right (by simp [rnCells]; omega)]
    have := rCells_get (ns := ns) (n := n) (x := x) (by simpa using h) hv
    rw [← this]
    congr 1
    simp [rnCells]
    omega
theorem rCells_one : ∀ (ns : List Nd) (u : Value), u ∈ rCells ns → u.oneCell' = true
  | [], u, h => by cases h
  | x :: ns, u, h => by
    rcases List.mem_append.1 h with h | h
    · simp [rnCells] at h
      rcases h with rfl | rfl | rfl <;> rfl
    · exact rCells_one ns u h
structure RG (w : World) (rb cap : Nat) (G : Gra) : Prop where
  cells : ∀ j u, (rCells G.nodes)[j]? = some u → w.cell? ⟨rb, j, none⟩ = some u
  lt : rb < w.heap.size
  le : G.nodes.length ≤ cap
  mx : cap ≤ 9223372036854775807
  ok : Ok G
theorem RG.ch {F : List Nat} {a w : World} {rb cap : Nat} {G : Gra} (h : RG a rb cap G) (hc : Ch F a w) (hF : rb ∉ F) : RG w rb cap G :=
  ⟨fun j u hu => (hc.cell (p := ⟨rb, j, none⟩) h.lt hF).trans (h.cells j u hu), Nat.lt_of_lt_of_le h.lt hc.size, h.le, h.mx, h.ok⟩
theorem RG.node {w : World} {rb cap : Nat} {G : Gra} (h : RG w rb cap G) {n : Nat} {x : Nd} (hx : G.nodes[n]? = some x) :
    w.cell? ⟨rb, n * 3, none⟩ = some (.int .i64 x.k) ∧ w.cell? ⟨rb, n * 3 + 1, none⟩ = some (.int .i64 x.l) ∧ w.cell? ⟨rb, n * 3 + 2, none⟩ = some (.int .i64 x.r) :=
  ⟨h.cells (n * 3 + 0) _ (rCells_get hx (j := 0) rfl), h.cells _ _ (rCells_get hx (j := 1) rfl), h.cells _ _ (rCells_get hx (j := 2) rfl)⟩
theorem RG.len {w : World} {rb cap : Nat} {G : Gra} (h : RG w rb cap G) : G.nodes.length ≤ 65536 ∧ 0 < G.nodes.length ∧ G.most ≤ 65536 := by
  have := h.ok.room; have := h.ok.most; have := h.ok.wf.pos; omega
def RTo (w : World) (rb : Nat) (R : Res) (e : Ending) (w' : World) : Prop := ∃ rb' cap', e = .returned (.tuple #[.agg #[.int .i64 R.1.most, .slice (some ⟨rb', 0, none⟩) R.1.nodes.length cap'], .int .i64 R.2.1, .int .i64 R.2.2]) ∧ RG w' rb' cap' R.1 ∧ Ch [] w w' ∧ (rb' = rb ∨ w.heap.size ≤ rb')
theorem infoRNode : (Tryz.prog.info? 247).map (fun i => (i.zero, i.size, i.bytes)) = some (some (.agg #[.int .i64 0, .int .i64 0, .int .i64 0]), 3, 24) := by kernel_rfl
theorem slRNodes : SliceTy Tryz.prog 121 247 3 24 (.agg #[.int .i64 0, .int .i64 0, .int .i64 0]) := ⟨Tryz.underlying121, infoRNode, rfl, by decide⟩
section
set_option maxRecDepth 100000 in
set_option maxHeartbeats 400000 in
theorem rNot_is (w : World) (r : Nat) (hr : r ≤ 9223372036854775806) : Calls Tryz.prog 274 #[.int .i64 r] w fun e w' => e = .returned (.int .i64 (neg r : Nat)) ∧ w = w' := by
  by_cases h : r % 2 = 0
  · have e : neg r = r + 1 := by unfold neg; rw [if_pos h]
    have q : ((r : Int) % 2 == 0) = true := by simp; omega
    rw [e]
    clear e h
    go_enter Tryz.func274, Tryz.ntmps274
    go_wp2_with fail
    go_ret
    exact ⟨ret_int (by omega), rfl⟩
  · have e : neg r = r - 1 := by unfold neg; rw [if_neg h]
    have q : ((r : Int) % 2 == 0) = false := by simp; omega
    have h1 : 1 ≤ r := by omega
    rw [e]
    clear e h
    go_enter Tryz.func274, Tryz.ntmps274
    go_wp2_with fail
    go_ret
    exact ⟨ret_int (by omega), rfl⟩
set_option maxRecDepth 100000 in
set_option maxHeartbeats 400000 in
theorem rRight_is {w : World} {rb cap : Nat} {G : Gra} (h : RG w rb cap G) (r : Int) : Calls Tryz.prog 195 #[.agg #[.int .i64 G.most, .slice (some ⟨rb, 0, none⟩) G.nodes.length cap], .int .i64 r] w fun e w' => e = .returned (.bool (right G.nodes r)) ∧ Ch [] w w' := by
  obtain ⟨hl, hp, hm⟩ := h.len
  have hle := h.le
  have hmx := h.mx
  clear h
  unfold right
  by_cases h0 : 0 ≤ r
  · by_cases h1 : r < 2 * G.nodes.length
    · have e : decide (0 ≤ r ∧ r < 2 * (G.nodes.length : Int)) = true := decide_eq_true ⟨h0, h1⟩
      rw [e]
      generalize G.nodes.length = n at *
      clear e
      go_enter Tryz.func195, Tryz.ntmps195
      go_wp2_with fail
      go_ret
      exact ⟨by simp [*], (Ch.refl _ _).alloc _⟩
    · have e : decide (0 ≤ r ∧ r < 2 * (G.nodes.length : Int)) = false := decide_eq_false (fun h => h1 h.2)
      rw [e]
      generalize G.nodes.length = n at *
      clear e
      go_enter Tryz.func195, Tryz.ntmps195
      go_wp2_with fail
      go_ret
      exact ⟨by simp [*], (Ch.refl _ _).alloc _⟩
  · have e : decide (0 ≤ r ∧ r < 2 * (G.nodes.length : Int)) = false := decide_eq_false (fun h => h0 h.1)
    rw [e]
    generalize G.nodes.length = n at *
    clear e
    go_enter Tryz.func195, Tryz.ntmps195
    go_wp2_with fail
    go_ret
    exact ⟨by simp [*], (Ch.refl _ _).alloc _⟩
set_option maxRecDepth 100000 in
set_option maxHeartbeats 400000 in
theorem rNew_no (w : World) (most : Int) (h : most < 1 ∨ 65536 < most) : Calls Tryz.prog 193 #[.int .i64 most] w fun e w' => e = .returned (.tuple #[.agg #[.int .i64 0, .slice none 0 0], .int .i64 2]) ∧ Ch [] w w' := by
  rcases h with h | h
  · go_enter Tryz.func193, Tryz.ntmps193
    go_wp2_with fail
    exact bodyPost_ret (v := .tuple #[.agg #[.int .i64 0, .slice none 0 0], .int .i64 2]) (by simp [results, Tryz.results193, go_sem]) rfl ⟨rfl, ((Ch.refl _ _).alloc _)⟩
  · have h1 : ¬ most < 1 := by omega
    go_enter Tryz.func193, Tryz.ntmps193
    go_wp2_with fail
    exact bodyPost_ret (v := .tuple #[.agg #[.int .i64 0, .slice none 0 0], .int .i64 2]) (by simp [results, Tryz.results193, go_sem]) rfl ⟨rfl, ((Ch.refl _ _).alloc _)⟩
set_option maxRecDepth 100000 in
set_option maxHeartbeats 400000 in
theorem rNew_yes (w : World) (most : Nat) (h1 : 1 ≤ most) (h2 : most ≤ 65536) : Calls Tryz.prog 193 #[.int .i64 most] w fun e w' => ∃ rb cap, e = .returned (.tuple #[.agg #[.int .i64 (newG most).most, .slice (some ⟨rb, 0, none⟩) (newG most).nodes.length cap], .int .i64 0]) ∧ RG w' rb cap (newG most) ∧ Ch [] w w' ∧ w.heap.size ≤ rb := by
  have HO := Lib.hid (newG_ok h1 h2)
  go_enter Tryz.func193, Tryz.ntmps193
  go_wp2_with fail
  have hb : blk ((w.alloc (.cells #[.int .i64 most, .slice (some ⟨w.heap.size + 1, 0, none⟩) 1 1] 123)).alloc (.cells #[.int .i64 1, .int .i64 0, .int .i64 0] 247)) (w.heap.size + 1) (rCells (newG most).nodes) := blk.new' (rCells (newG most).nodes) 247 (by simp)
  exact bodyPost_ret (v := .tuple #[.agg #[.int .i64 most, .slice (some ⟨w.heap.size + 1, 0, none⟩) 1 1], .int .i64 0]) (by simp [results, Tryz.results193, go_sem]) rfl ⟨_, 1, rfl, ⟨fun j u hu => hb.cell hu, hb.lt, Nat.le_refl _, by omega, HO.out⟩, ((Ch.refl _ _).alloc _).alloc _, by omega⟩
theorem row_new0 {w W : World} {e : TypeId} {size : Nat} (h : W = w.alloc (.cells #[] e)) : row W e size (.slice (some ⟨w.heap.size, 0, none⟩) 0 0) 0 [] :=
  ⟨by simp, .inr ⟨_, 0, #[], rfl, Nat.zero_le _, by rw [h]; exact heap_alloc_new w _, Nat.le_refl _, by unfold maxLen; omega, by simp, by simp⟩⟩
theorem new_lo {W0 w : World} (h : Ch [] W0 w) : ∀ k ∈ (Value.slice (some ⟨w.heap.size, 0, none⟩) 0 0).ownBlock.toList, W0.heap.size ≤ k := by
  intro k hk
  simp at hk
  subst hk
  exact h.size
theorem new_ne {w : World} {b : Nat} {xs : List Value} (h : blk w b xs) : ∀ k, (Value.slice (some ⟨w.heap.size, 0, none⟩) 0 0).ownBlock = some k → k ≠ b := by
  intro k hk
  simp at hk
  have := h.lt
  omega
theorem row_ne {w : World} {e : TypeId} {size : Nat} {v : Value} {n : Nat} {xs : List Value} (h : row w e size v n xs) : ∀ k, v.ownBlock = some k → k ≠ w.heap.size := fun k hk => by
  have := (h.lt k hk).2
  omega
theorem grow_ne {w : World} {b : Nat} {xs : List Value} {v v' : Value} (h : blk w b xs) (hx : ∀ k, v.ownBlock = some k → k ≠ b) (hf : ∀ k, v'.ownBlock = some k → v.ownBlock = some k ∨ w.heap.size ≤ k) : ∀ k, v'.ownBlock = some k → k ≠ b := fun k hk =>
  (hf k hk).elim (hx k) (fun e => by have := h.lt; omega)
theorem grow_lo {W0 w : World} {v v' : Value} (h : Ch [] W0 w) (hl : ∀ k ∈ v.ownBlock.toList, W0.heap.size ≤ k) (hf : ∀ k, v'.ownBlock = some k → v.ownBlock = some k ∨ w.heap.size ≤ k) : ∀ k ∈ v'.ownBlock.toList, W0.heap.size ≤ k := fun k hk =>
  (hf k (by simpa using hk)).elim (fun e => hl k (by simpa using e)) (fun e => Nat.le_trans h.size e)
theorem not_own {v : Value} {b : Nat} (hx : ∀ k, v.ownBlock = some k → k ≠ b) : b ∉ v.ownBlock.toList := fun hin => hx b (Option.mem_toList.1 hin) rfl
theorem row_cap {w : World} {e : TypeId} {size : Nat} {a : Option Addr} {n c m : Nat} {xs : List Value} (h : row w e size (.slice a n c) m xs) : m ≤ c ∧ c ≤ 9223372036854775807 := by
  rcases h.2 with ⟨e1, h0⟩ | ⟨g', cap', cur, e1, _, _, h1, h2, _⟩
  · cases e1; omega
  · cases e1; exact ⟨h1, by unfold maxLen at h2; exact h2⟩
theorem wp_alw {P : Program} {c : Code} {Q : Exit → Act → World → Prop} {a : Act} {w : World} (h : ∀ W, W = w → Code.wp P c Q a W) : Code.wp P c Q a w := h w rfl
set_option maxRecDepth 100000 in
set_option maxHeartbeats 1000000 in
theorem rPut_no {w : World} {rb cap : Nat} {G : Gra} (h : RG w rb cap G) (x : Nd) (hm : G.most ≤ G.nodes.length) : Calls Tryz.prog 194 #[.agg #[.int .i64 G.most, .slice (some ⟨rb, 0, none⟩) G.nodes.length cap], .agg #[.int .i64 x.k, .int .i64 x.l, .int .i64 x.r]] w (RTo w rb (put G x)) := by
  have e : put G x = (G, 0, 201) := by unfold put; rw [if_pos hm]
  rw [e]
  have H := Lib.hid h; clear h
  have hd : decide (G.most ≤ G.nodes.length) = true := decide_eq_true hm
  clear e
  go_enter Tryz.func194, Tryz.ntmps194
  go_wp2_with fail
  have hc : Ch [] w (((w.alloc (.cells #[.int .i64 G.most, .slice (some ⟨rb, 0, none⟩) G.nodes.length cap] 123)).alloc (.cells #[.int .i64 x.k, .int .i64 x.l, .int .i64 x.r] 247)).alloc (.cells #[.int .i64 G.most, .slice (some ⟨rb, 0, none⟩) G.nodes.length cap] 123)) := (((Ch.refl _ _).alloc _).alloc _).alloc _
  exact bodyPost_ret (v := .tuple #[.agg #[.int .i64 G.most, .slice (some ⟨rb, 0, none⟩) G.nodes.length cap], .int .i64 0, .int .i64 201]) (by simp [results, Tryz.results194, go_sem]) rfl ⟨rb, cap, rfl, H.out.ch hc (by simp), hc, .inl rfl⟩
set_option maxRecDepth 100000 in
set_option maxHeartbeats 1000000 in
theorem rPut_yes {w : World} {rb cap : Nat} {G : Gra} (h : RG w rb cap G) (x : Nd) (hm : G.nodes.length < G.most) (ho2 : Ok { G with nodes := G.nodes ++ [x] }) : Calls Tryz.prog 194 #[.agg #[.int .i64 G.most, .slice (some ⟨rb, 0, none⟩) G.nodes.length cap], .agg #[.int .i64 x.k, .int .i64 x.l, .int .i64 x.r]] w (RTo w rb (put G x)) := by
  have e : put G x = ({ G with nodes := G.nodes ++ [x] }, 2 * G.nodes.length, 0) := by unfold put; rw [if_neg (by omega)]
  rw [e]
  have HO2 := Lib.hid ho2; clear ho2
  have H := Lib.hid h; clear h
  have hd : decide (G.most ≤ G.nodes.length) = false := decide_eq_false (by omega)
  clear e
  go_enter Tryz.func194, Tryz.ntmps194
  go_wp2_with fail
  refine wp_alw ?_
  intro W0 hW0
  have hc0 : Ch [] w W0 := by rw [hW0]; exact (((Ch.refl _ _).alloc _).alloc _).alloc _
  have b2 : blk W0 w.heap.size [.int .i64 G.most, .slice (some ⟨rb, 0, none⟩) G.nodes.length cap] := by rw [hW0]; exact ((blk.new' (w := w) [.int .i64 G.most, .slice (some ⟨rb, 0, none⟩) G.nodes.length cap] 123 rfl).alloc _).alloc _
  have b3 : blk W0 (w.heap.size + 1) [.int .i64 x.k, .int .i64 x.l, .int .i64 x.r] := by rw [hW0]; exact (blk.new' [.int .i64 x.k, .int .i64 x.l, .int .i64 x.r] 247 (by simp)).alloc _
  have b4 : blk W0 (w.heap.size + 1 + 1) [.int .i64 0, .slice none 0 0] := by rw [hW0]; exact blk.new' [.int .i64 0, .slice none 0 0] 123 (by simp)
  clear hW0
  have H0 := H.out.ch hc0 (by simp)
  have hrb := H.out.lt
  obtain ⟨hl, hp, hmo⟩ := H0.len
  have hle := H0.le
  have hmx := H0.mx
  have B2 := Lib.hid b2; clear b2
  have B3 := Lib.hid b3; clear b3
  have B4 := Lib.hid b4; clear b4
  have HC0 := Lib.hid hc0; clear hc0
  have HH := Lib.hid H0; clear H0 H hd
  obtain ⟨n, hn⟩ : ∃ n, G.nodes.length = n := ⟨_, rfl⟩
  have HN := Lib.hid hn
  rw [hn] at hl hp hle hm
  have hs0 := HC0.out.size
  refine Ord.St.door (fun w' => Ch [] W0 w') [.ef, .fl, .ho, .ef, .ho, .ef, .ef, .fl, .ef] [0, 0, 2, 7, 0, 16, 63, 127, 255] [0, 1, 2, 3, 4, 5, 6, 7, 8] mixed (by kernel_rfl) rfl ?_
  obtain ⟨Wc, hWc⟩ : ∃ Wc, Wc = W0.drew := ⟨_, rfl⟩
  rw [← hWc]
  have hcur : Ch [] W0 Wc := by rw [hWc]; exact (Ch.refl _ _).drew
  clear hWc
  refine Ord.St.fl2 (T' := ?_) 1 [0, 2, 3, 4, 5, 6, 7, 8] _ _ rfl (by kernel_rfl) rfl rfl rfl rfl (fun K w' hk => ?_) ?_
  rotate_left
  · go_step; exact hk
  refine Ord.St.ho2 (T' := ?_) 2 [0, 3, 4, 5, 6, 7, 8] _ _ rfl (by kernel_rfl) rfl rfl rfl rfl ?_ (fun K w' hw' hk => ?_) ?_
  rotate_left
  · trivial
  · have y1 := (B2.out.ch hw' (by simp)).cell (i := 1) rfl; have z0 := (B3.out.ch hw' (by simp)).cell (i := 0) rfl; have z1 := (B3.out.ch hw' (by simp)).cell (i := 1) rfl; have z2 := (B3.out.ch hw' (by simp)).cell (i := 2) rfl; go_step; exact hk
  refine Ord.St.ho2 (T' := ?_) 4 [0, 3, 5, 6, 7, 8] _ _ rfl (by kernel_rfl) rfl rfl rfl rfl ?_ (fun K w' hw' hk => ?_) ?_
  rotate_left
  · trivial
  · have y1 := (B2.out.ch hw' (by simp)).cell (i := 1) rfl; have z0 := (B3.out.ch hw' (by simp)).cell (i := 0) rfl; have z1 := (B3.out.ch hw' (by simp)).cell (i := 1) rfl; have z2 := (B3.out.ch hw' (by simp)).cell (i := 2) rfl; go_step; exact hk
  refine Ord.St.two 0 5 [3, 5, 6, 7, 8] [0, 3, 6, 7, 8] _ _ (by kernel_rfl) rfl rfl (by kernel_rfl) (by kernel_rfl) (fun K hK => ?_) (fun K hK => ?_)
  · go_wp2_with fail
    refine ⟨rfl, hK _ _ ?_ ?_⟩
    · exact hcur.alloc _
    clear hK K
    refine Ord.St.alw ?_; intro Wn hWn
    have hrow := row_new0 (e := 247) (size := 3) hWn
    have hlo := new_lo hcur
    try have hx := new_ne hb5
    try replace hb5 := hb5.ch (alw_ch hWn) (by simp)
    replace hcur := hcur.trans (alw_ch hWn) (by simp)
    clear hWn
    refine Ord.St.two 3 5 [5, 6, 7, 8] [3, 6, 7, 8] _ _ (by kernel_rfl) rfl rfl (by kernel_rfl) (by kernel_rfl) (fun K hK => ?_) (fun K hK => ?_)
    · have hnews : ∀ j u, (rCells G.nodes)[j]? = some u → _ := (HH.out.ch hcur (by simp)).cells
      have HNW := Lib.hid hnews; clear hnews
      have HROW := Lib.hid hrow; clear hrow
      go_wp2_with (at_builtin; go_loud (refine wpList_append_row slRNodes rfl _ _ rfl (v := .slice (some ⟨_, 0, none⟩) 0 0) (n := 0) (xs := []) rfl HROW.out (ad := ⟨rb, 0, none⟩) (m := n) (c := cap) (news := rCells G.nodes) rfl (by rw [rCells_length, HN.out]) (by intro j u hu; rw [Addr.add_lit, Nat.zero_add]; exact HNW.out j u hu) (rCells_one _) (by omega) (by omega) ?_; intro v1 wA hr1 hcA hfA; rw [Nat.zero_add, List.nil_append] at hr1; obtain ⟨ba, rca, rfl⟩ := row.parts hr1 (by omega)))
      refine ⟨rfl, hK _ _ ?_ ?_⟩
      · exact hcur.trans hcA (fun k hk => .inr (hlo k hk))
      clear hK K
      have hrow := hr1
      try have hx2 := grow_ne hb5 hx hfA
      try replace hb5 := hb5.ch hcA (not_own hx)
      try clear hx
      try have hx := hx2
      have hlo2 := grow_lo hcur hlo hfA
      replace hcur := hcur.trans hcA (fun k hk => .inr (hlo k hk))
      clear hlo
      have hlo := hlo2
      clear hcA hfA hr1 HROW HNW hlo2
      refine Ord.St.efC 5 [6, 7, 8] _ rfl (by kernel_rfl) (fun K hK => ?_)
      go_wp2_with fail
      refine ⟨rfl, hK _ _ ?_ ?_⟩
      · exact hcur.alloc _
      clear hK K
      refine Ord.St.alw ?_; intro Wn hWn
      have hb5 := alw_blk (xs := [.int .i64 x.k, .int .i64 x.l, .int .i64 x.r]) hWn
      try have hx := row_ne hrow
      try replace hrow := hrow.ch (alw_ch hWn) (by simp)
      replace hcur := hcur.trans (alw_ch hWn) (by simp)
      clear hWn
      refine Ord.St.ef 6 [7, 8] _ rfl (by kernel_rfl) (fun K hK => ?_)
      have HROW := Lib.hid hrow; clear hrow
      have HX := Lib.hid hx; clear hx
      have HB5 := Lib.hid hb5; clear hb5
      have HLO := Lib.hid hlo; clear hlo
      have HCUR := Lib.hid hcur; clear hcur
      go_wp2_with (at_builtin; go_loud (refine wpList_append_row slRNodes rfl _ _ rfl (v := .slice (some ⟨ba, 0, none⟩) n rca) (n := n) (xs := rCells G.nodes) rfl HROW.out (ad := ⟨_, 0, none⟩) (m := 1) (c := 1) (news := [.int .i64 x.k, .int .i64 x.l, .int .i64 x.r]) rfl rfl (news_blk HB5.out) (by simp [Value.oneCell']) (by omega) (by omega) ?_; intro v2 wB hr2 hcB hfB; obtain ⟨bb, rcb, rfl⟩ := row.parts hr2 (by omega); have hlo2 := grow_lo HCUR.out HLO.out hfB; have hcur := HCUR.out.trans hcB (fun k hk => .inr (HLO.out k hk))))
      refine ⟨rfl, hK _ _ ?_⟩; clear hK K
      clear hcB hfB
      have b2 := B2.out.ch hcur (by simp)
      have b4 := B4.out.ch hcur (by simp)
      have hne2 : bb ≠ w.heap.size := by have := hlo2 bb (by simp); have := B2.out.lt; omega
      have hne4 : bb ≠ w.heap.size + 1 + 1 := by have := hlo2 bb (by simp); have := B4.out.lt; omega
      have hwb : w.heap.size ≤ bb := by have := hlo2 bb (by simp); omega
      have y1 := b2.cell (i := 1) rfl
      have f1 := b2.frozen (i := 1)
      have BB2 := Lib.hid b2; clear b2
      have BB4 := Lib.hid b4; clear b4
      have HR2 := Lib.hid hr2; clear hr2
      clear hlo2
      refine Ord.St.fl2 (T' := ?_) 7 [8] _ _ rfl (by kernel_rfl) rfl rfl rfl rfl (fun K w' hk => ?_) ?_
      rotate_left
      · go_step; exact hk
      refine Ord.St.ef 8 [] _ rfl (by kernel_rfl) (fun K hK => ?_)
      go_wp2_with fail
      refine ⟨rfl, hK _ _ ?_⟩; clear hK K
      refine Ord.St.nil ?_
      go_wp2_with fail
      refine wp_alw ?_
      intro W5 hW5
      have b2 : blk W5 w.heap.size [.int .i64 G.most, .slice (some ⟨bb, 0, none⟩) (n + 1) rcb] := by rw [hW5]; exact BB2.out.set _
      have hc5 : Ch [w.heap.size] wB W5 := by rw [hW5]; exact (Ch.refl _ _).setCell (by simp) _
      have b4 := BB4.out.ch hc5 (by simp; omega)
      have hr5 := HR2.out.ch hc5 (by intro k hk; simp at hk; subst hk; simpa using hne2)
      have hc05 : Ch [] w W5 := (HC0.out.trans hcur (by simp)).trans hc5 (by simp)
      have y0 := b2.cell (i := 0) rfl
      have y1 := b2.cell (i := 1) rfl
      have z0 := b4.cell (i := 0) rfl
      have z1 := b4.cell (i := 1) rfl
      have f0 := b4.frozen (i := 0)
      have f1' := b4.frozen (i := 1)
      have BB2' := Lib.hid b2; clear b2
      have BB4' := Lib.hid b4; clear b4
      have HR5 := Lib.hid hr5; clear hr5
      have HC5 := Lib.hid hc05; clear hc05 hc5
      clear hW5 BB2 BB4 HR2 f1
      refine Ord.St.door (fun w' => w'.cell? ⟨w.heap.size, 1, none⟩ = some (.slice (some ⟨bb, 0, none⟩) (n + 1) rcb)) [.rd, .fl, .ho, .fl, .fl, .fl, .ef, .fl, .fl] [0, 0, 2, 6, 14, 30, 1, 127, 255] [0, 1, 2, 3, 4, 5, 6, 7, 8] mixed (by kernel_rfl) rfl ?_
      refine Ord.St.rd2 (T' := ?_) 0 [1, 2, 3, 4, 5, 6, 7, 8] _ _ rfl (by kernel_rfl) rfl rfl rfl rfl (fun K hk => ?_) ?_
      rotate_left
      · go_step; exact hk
      refine Ord.St.fl2 (T' := ?_) 1 [2, 3, 4, 5, 6, 7, 8] _ _ rfl (by kernel_rfl) rfl rfl rfl rfl (fun K w' hk => ?_) ?_
      rotate_left
      · go_step; exact hk
      refine Ord.St.ho2 (T' := ?_) 2 [3, 4, 5, 6, 7, 8] _ _ rfl (by kernel_rfl) rfl rfl rfl rfl ?_ (fun K w' hw' hk => ?_) ?_
      rotate_left
      · trivial
      · skip; go_step; exact hk
      refine Ord.St.fl2 (T' := ?_) 3 [4, 5, 6, 7, 8] _ _ rfl (by kernel_rfl) rfl rfl rfl rfl (fun K w' hk => ?_) ?_
      rotate_left
      · go_step; exact hk
      refine Ord.St.fl2 (T' := ?_) 4 [5, 6, 7, 8] _ _ rfl (by kernel_rfl) rfl rfl rfl rfl (fun K w' hk => ?_) ?_
      rotate_left
      · go_step; exact hk
      refine Ord.St.fl2 (T' := ?_) 5 [6, 7, 8] _ _ rfl (by kernel_rfl) rfl rfl rfl rfl (fun K w' hk => ?_) ?_
      rotate_left
      · go_step; exact hk
      refine Ord.St.efC 6 [7, 8] _ rfl (by kernel_rfl) (fun K hK => ?_)
      go_wp2_with fail
      refine ⟨rfl, hK _ _ ?_ ?_⟩
      · go_simp
      clear hK K
      refine Ord.St.fl2 (T' := ?_) 7 [8] _ _ rfl (by kernel_rfl) rfl rfl rfl rfl (fun K w' hk => ?_) ?_
      rotate_left
      · go_step; exact hk
      refine Ord.St.fl2 (T' := ?_) 8 [] _ _ rfl (by kernel_rfl) rfl rfl rfl rfl (fun K w' hk => ?_) ?_
      rotate_left
      · go_step; exact hk
      refine Ord.St.nil ?_
      go_wp2_with fail
      have hc9 : Ch [w.heap.size + 1 + 1] W5 ((W5.setCell ⟨w.heap.size + 1 + 1, 0, none⟩ (.int .i64 G.most)).setCell ⟨w.heap.size + 1 + 1, 1, none⟩ (.slice (some ⟨bb, 0, none⟩) (n + 1) rcb)).drew := (((Ch.refl _ _).setCell (by simp) _).setCell (by simp) _).drew
      have hr9 := HR5.out.ch hc9 (by intro k hk; simp at hk; subst hk; simpa using hne4)
      have hcap := row_cap hr9
      refine bodyPost_ret (v := .tuple #[.agg #[.int .i64 G.most, .slice (some ⟨bb, 0, none⟩) (n + 1) rcb], .int .i64 (2 * n), .int .i64 0]) (by simp [results, Tryz.results194, go_sem, z0, z1]) rfl ?_
      refine ⟨bb, rcb, ?_, ⟨fun j u hu => ?_, ?_, ?_, hcap.2, HO2.out⟩, HC5.out.trans hc9 (fun k hk => .inr (by simp at hk; omega)), .inr hwb⟩
      · simp [HN.out]
      · rw [rCells_append] at hu; have := hr9.cells (g := bb) rfl j u (by simpa [rCells, rnCells] using hu); rwa [Addr.add_lit, Nat.zero_add] at this
      · exact (hr9.lt bb rfl).2
      · simpa [HN.out] using hcap.1
    · go_wp2_with fail
      refine ⟨rfl, hK _ _ ?_ ?_⟩
      · exact hcur.alloc _
      clear hK K
      refine Ord.St.alw ?_; intro Wn hWn
      have hb5 := alw_blk (xs := [.int .i64 x.k, .int .i64 x.l, .int .i64 x.r]) hWn
      try have hx := row_ne hrow
      try replace hrow := hrow.ch (alw_ch hWn) (by simp)
      replace hcur := hcur.trans (alw_ch hWn) (by simp)
      clear hWn
      refine Ord.St.efC 3 [6, 7, 8] _ rfl (by kernel_rfl) (fun K hK => ?_)
      have hnews : ∀ j u, (rCells G.nodes)[j]? = some u → _ := (HH.out.ch hcur (by simp)).cells
      have HNW := Lib.hid hnews; clear hnews
      have HROW := Lib.hid hrow; clear hrow
      go_wp2_with (at_builtin; go_loud (refine wpList_append_row slRNodes rfl _ _ rfl (v := .slice (some ⟨_, 0, none⟩) 0 0) (n := 0) (xs := []) rfl HROW.out (ad := ⟨rb, 0, none⟩) (m := n) (c := cap) (news := rCells G.nodes) rfl (by rw [rCells_length, HN.out]) (by intro j u hu; rw [Addr.add_lit, Nat.zero_add]; exact HNW.out j u hu) (rCells_one _) (by omega) (by omega) ?_; intro v1 wA hr1 hcA hfA; rw [Nat.zero_add, List.nil_append] at hr1; obtain ⟨ba, rca, rfl⟩ := row.parts hr1 (by omega)))
      refine ⟨rfl, hK _ _ ?_ ?_⟩
      · exact hcur.trans hcA (fun k hk => .inr (hlo k hk))
      clear hK K
      have hrow := hr1
      try have hx2 := grow_ne hb5 hx hfA
      try replace hb5 := hb5.ch hcA (not_own hx)
      try clear hx
      try have hx := hx2
      have hlo2 := grow_lo hcur hlo hfA
      replace hcur := hcur.trans hcA (fun k hk => .inr (hlo k hk))
      clear hlo
      have hlo := hlo2
      clear hcA hfA hr1 HROW HNW hlo2
      refine Ord.St.ef 6 [7, 8] _ rfl (by kernel_rfl) (fun K hK => ?_)
      have HROW := Lib.hid hrow; clear hrow
      have HX := Lib.hid hx; clear hx
      have HB5 := Lib.hid hb5; clear hb5
      have HLO := Lib.hid hlo; clear hlo
      have HCUR := Lib.hid hcur; clear hcur
      go_wp2_with (at_builtin; go_loud (refine wpList_append_row slRNodes rfl _ _ rfl (v := .slice (some ⟨ba, 0, none⟩) n rca) (n := n) (xs := rCells G.nodes) rfl HROW.out (ad := ⟨_, 0, none⟩) (m := 1) (c := 1) (news := [.int .i64 x.k, .int .i64 x.l, .int .i64 x.r]) rfl rfl (news_blk HB5.out) (by simp [Value.oneCell']) (by omega) (by omega) ?_; intro v2 wB hr2 hcB hfB; obtain ⟨bb, rcb, rfl⟩ := row.parts hr2 (by omega); have hlo2 := grow_lo HCUR.out HLO.out hfB; have hcur := HCUR.out.trans hcB (fun k hk => .inr (HLO.out k hk))))
      refine ⟨rfl, hK _ _ ?_⟩; clear hK K
      clear hcB hfB
      have b2 := B2.out.ch hcur (by simp)
      have b4 := B4.out.ch hcur (by simp)
      have hne2 : bb ≠ w.heap.size := by have := hlo2 bb (by simp); have := B2.out.lt; omega
      have hne4 : bb ≠ w.heap.size + 1 + 1 := by have := hlo2 bb (by simp); have := B4.out.lt; omega
      have hwb : w.heap.size ≤ bb := by have := hlo2 bb (by simp); omega
      have y1 := b2.cell (i := 1) rfl
      have f1 := b2.frozen (i := 1)
      have BB2 := Lib.hid b2; clear b2
      have BB4 := Lib.hid b4; clear b4
      have HR2 := Lib.hid hr2; clear hr2
      clear hlo2
      refine Ord.St.fl2 (T' := ?_) 7 [8] _ _ rfl (by kernel_rfl) rfl rfl rfl rfl (fun K w' hk => ?_) ?_
      rotate_left
      · go_step; exact hk
      refine Ord.St.ef 8 [] _ rfl (by kernel_rfl) (fun K hK => ?_)
      go_wp2_with fail
      refine ⟨rfl, hK _ _ ?_⟩; clear hK K
      refine Ord.St.nil ?_
      go_wp2_with fail
      refine wp_alw ?_
      intro W5 hW5
      have b2 : blk W5 w.heap.size [.int .i64 G.most, .slice (some ⟨bb, 0, none⟩) (n + 1) rcb] := by rw [hW5]; exact BB2.out.set _
      have hc5 : Ch [w.heap.size] wB W5 := by rw [hW5]; exact (Ch.refl _ _).setCell (by simp) _
      have b4 := BB4.out.ch hc5 (by simp; omega)
      have hr5 := HR2.out.ch hc5 (by intro k hk; simp at hk; subst hk; simpa using hne2)
      have hc05 : Ch [] w W5 := (HC0.out.trans hcur (by simp)).trans hc5 (by simp)
      have y0 := b2.cell (i := 0) rfl
      have y1 := b2.cell (i := 1) rfl
      have z0 := b4.cell (i := 0) rfl
      have z1 := b4.cell (i := 1) rfl
      have f0 := b4.frozen (i := 0)
      have f1' := b4.frozen (i := 1)
      have BB2' := Lib.hid b2; clear b2
      have BB4' := Lib.hid b4; clear b4
      have HR5 := Lib.hid hr5; clear hr5
      have HC5 := Lib.hid hc05; clear hc05 hc5
      clear hW5 BB2 BB4 HR2 f1
      refine Ord.St.door (fun w' => w'.cell? ⟨w.heap.size, 1, none⟩ = some (.slice (some ⟨bb, 0, none⟩) (n + 1) rcb)) [.rd, .fl, .ho, .fl, .fl, .fl, .ef, .fl, .fl] [0, 0, 2, 6, 14, 30, 1, 127, 255] [0, 1, 2, 3, 4, 5, 6, 7, 8] mixed (by kernel_rfl) rfl ?_
      refine Ord.St.rd2 (T' := ?_) 0 [1, 2, 3, 4, 5, 6, 7, 8] _ _ rfl (by kernel_rfl) rfl rfl rfl rfl (fun K hk => ?_) ?_
      rotate_left
      · go_step; exact hk
      refine Ord.St.fl2 (T' := ?_) 1 [2, 3, 4, 5, 6, 7, 8] _ _ rfl (by kernel_rfl) rfl rfl rfl rfl (fun K w' hk => ?_) ?_
      rotate_left
      · go_step; exact hk
      refine Ord.St.ho2 (T' := ?_) 2 [3, 4, 5, 6, 7, 8] _ _ rfl (by kernel_rfl) rfl rfl rfl rfl ?_ (fun K w' hw' hk => ?_) ?_
      rotate_left
      · trivial
      · skip; go_step; exact hk
      refine Ord.St.fl2 (T' := ?_) 3 [4, 5, 6, 7, 8] _ _ rfl (by kernel_rfl) rfl rfl rfl rfl (fun K w' hk => ?_) ?_
      rotate_left
      · go_step; exact hk
      refine Ord.St.fl2 (T' := ?_) 4 [5, 6, 7, 8] _ _ rfl (by kernel_rfl) rfl rfl rfl rfl (fun K w' hk => ?_) ?_
      rotate_left
      · go_step; exact hk
      refine Ord.St.fl2 (T' := ?_) 5 [6, 7, 8] _ _ rfl (by kernel_rfl) rfl rfl rfl rfl (fun K w' hk => ?_) ?_
      rotate_left
      · go_step; exact hk
      refine Ord.St.efC 6 [7, 8] _ rfl (by kernel_rfl) (fun K hK => ?_)
      go_wp2_with fail
      refine ⟨rfl, hK _ _ ?_ ?_⟩
      · go_simp
      clear hK K
      refine Ord.St.fl2 (T' := ?_) 7 [8] _ _ rfl (by kernel_rfl) rfl rfl rfl rfl (fun K w' hk => ?_) ?_
      rotate_left
      · go_step; exact hk
      refine Ord.St.fl2 (T' := ?_) 8 [] _ _ rfl (by kernel_rfl) rfl rfl rfl rfl (fun K w' hk => ?_) ?_
      rotate_left
      · go_step; exact hk
      refine Ord.St.nil ?_
      go_wp2_with fail
      have hc9 : Ch [w.heap.size + 1 + 1] W5 ((W5.setCell ⟨w.heap.size + 1 + 1, 0, none⟩ (.int .i64 G.most)).setCell ⟨w.heap.size + 1 + 1, 1, none⟩ (.slice (some ⟨bb, 0, none⟩) (n + 1) rcb)).drew := (((Ch.refl _ _).setCell (by simp) _).setCell (by simp) _).drew
      have hr9 := HR5.out.ch hc9 (by intro k hk; simp at hk; subst hk; simpa using hne4)
      have hcap := row_cap hr9
      refine bodyPost_ret (v := .tuple #[.agg #[.int .i64 G.most, .slice (some ⟨bb, 0, none⟩) (n + 1) rcb], .int .i64 (2 * n), .int .i64 0]) (by simp [results, Tryz.results194, go_sem, z0, z1]) rfl ?_
      refine ⟨bb, rcb, ?_, ⟨fun j u hu => ?_, ?_, ?_, hcap.2, HO2.out⟩, HC5.out.trans hc9 (fun k hk => .inr (by simp at hk; omega)), .inr hwb⟩
      · simp [HN.out]
      · rw [rCells_append] at hu; have := hr9.cells (g := bb) rfl j u (by simpa [rCells, rnCells] using hu); rwa [Addr.add_lit, Nat.zero_add] at this
      · exact (hr9.lt bb rfl).2
      · simpa [HN.out] using hcap.1
  · go_wp2_with fail
    refine ⟨rfl, hK _ _ ?_ ?_⟩
    · exact hcur.alloc _
    clear hK K
    refine Ord.St.alw ?_; intro Wn hWn
    have hb5 := alw_blk (xs := [.int .i64 x.k, .int .i64 x.l, .int .i64 x.r]) hWn
    try have hx := row_ne hrow
    try replace hrow := hrow.ch (alw_ch hWn) (by simp)
    replace hcur := hcur.trans (alw_ch hWn) (by simp)
    clear hWn
    refine Ord.St.efC 0 [3, 6, 7, 8] _ rfl (by kernel_rfl) (fun K hK => ?_)
    go_wp2_with fail
    refine ⟨rfl, hK _ _ ?_ ?_⟩
    · exact hcur.alloc _
    clear hK K
    refine Ord.St.alw ?_; intro Wn hWn
    have hrow := row_new0 (e := 247) (size := 3) hWn
    have hlo := new_lo hcur
    try have hx := new_ne hb5
    try replace hb5 := hb5.ch (alw_ch hWn) (by simp)
    replace hcur := hcur.trans (alw_ch hWn) (by simp)
    clear hWn
    refine Ord.St.efC 3 [6, 7, 8] _ rfl (by kernel_rfl) (fun K hK => ?_)
    have hnews : ∀ j u, (rCells G.nodes)[j]? = some u → _ := (HH.out.ch hcur (by simp)).cells
    have HNW := Lib.hid hnews; clear hnews
    have HROW := Lib.hid hrow; clear hrow
    go_wp2_with (at_builtin; go_loud (refine wpList_append_row slRNodes rfl _ _ rfl (v := .slice (some ⟨_, 0, none⟩) 0 0) (n := 0) (xs := []) rfl HROW.out (ad := ⟨rb, 0, none⟩) (m := n) (c := cap) (news := rCells G.nodes) rfl (by rw [rCells_length, HN.out]) (by intro j u hu; rw [Addr.add_lit, Nat.zero_add]; exact HNW.out j u hu) (rCells_one _) (by omega) (by omega) ?_; intro v1 wA hr1 hcA hfA; rw [Nat.zero_add, List.nil_append] at hr1; obtain ⟨ba, rca, rfl⟩ := row.parts hr1 (by omega)))
    refine ⟨rfl, hK _ _ ?_ ?_⟩
    · exact hcur.trans hcA (fun k hk => .inr (hlo k hk))
    clear hK K
    have hrow := hr1
    try have hx2 := grow_ne hb5 hx hfA
    try replace hb5 := hb5.ch hcA (not_own hx)
    try clear hx
    try have hx := hx2
    have hlo2 := grow_lo hcur hlo hfA
    replace hcur := hcur.trans hcA (fun k hk => .inr (hlo k hk))
    clear hlo
    have hlo := hlo2
    clear hcA hfA hr1 HROW HNW hlo2
    refine Ord.St.ef 6 [7, 8] _ rfl (by kernel_rfl) (fun K hK => ?_)
    have HROW := Lib.hid hrow; clear hrow
    have HX := Lib.hid hx; clear hx
    have HB5 := Lib.hid hb5; clear hb5
    have HLO := Lib.hid hlo; clear hlo
    have HCUR := Lib.hid hcur; clear hcur
    go_wp2_with (at_builtin; go_loud (refine wpList_append_row slRNodes rfl _ _ rfl (v := .slice (some ⟨ba, 0, none⟩) n rca) (n := n) (xs := rCells G.nodes) rfl HROW.out (ad := ⟨_, 0, none⟩) (m := 1) (c := 1) (news := [.int .i64 x.k, .int .i64 x.l, .int .i64 x.r]) rfl rfl (news_blk HB5.out) (by simp [Value.oneCell']) (by omega) (by omega) ?_; intro v2 wB hr2 hcB hfB; obtain ⟨bb, rcb, rfl⟩ := row.parts hr2 (by omega); have hlo2 := grow_lo HCUR.out HLO.out hfB; have hcur := HCUR.out.trans hcB (fun k hk => .inr (HLO.out k hk))))
    refine ⟨rfl, hK _ _ ?_⟩; clear hK K
    clear hcB hfB
    have b2 := B2.out.ch hcur (by simp)
    have b4 := B4.out.ch hcur (by simp)
    have hne2 : bb ≠ w.heap.size := by have := hlo2 bb (by simp); have := B2.out.lt; omega
    have hne4 : bb ≠ w.heap.size + 1 + 1 := by have := hlo2 bb (by simp); have := B4.out.lt; omega
    have hwb : w.heap.size ≤ bb := by have := hlo2 bb (by simp); omega
    have y1 := b2.cell (i := 1) rfl
    have f1 := b2.frozen (i := 1)
    have BB2 := Lib.hid b2; clear b2
    have BB4 := Lib.hid b4; clear b4
    have HR2 := Lib.hid hr2; clear hr2
    clear hlo2
    refine Ord.St.fl2 (T' := ?_) 7 [8] _ _ rfl (by kernel_rfl) rfl rfl rfl rfl (fun K w' hk => ?_) ?_
    rotate_left
    · go_step; exact hk
    refine Ord.St.ef 8 [] _ rfl (by kernel_rfl) (fun K hK => ?_)
    go_wp2_with fail
    refine ⟨rfl, hK _ _ ?_⟩; clear hK K
    refine Ord.St.nil ?_
    go_wp2_with fail
    refine wp_alw ?_
    intro W5 hW5
    have b2 : blk W5 w.heap.size [.int .i64 G.most, .slice (some ⟨bb, 0, none⟩) (n + 1) rcb] := by rw [hW5]; exact BB2.out.set _
    have hc5 : Ch [w.heap.size] wB W5 := by rw [hW5]; exact (Ch.refl _ _).setCell (by simp) _
    have b4 := BB4.out.ch hc5 (by simp; omega)
    have hr5 := HR2.out.ch hc5 (by intro k hk; simp at hk; subst hk; simpa using hne2)
    have hc05 : Ch [] w W5 := (HC0.out.trans hcur (by simp)).trans hc5 (by simp)
    have y0 := b2.cell (i := 0) rfl
    have y1 := b2.cell (i := 1) rfl
    have z0 := b4.cell (i := 0) rfl
    have z1 := b4.cell (i := 1) rfl
    have f0 := b4.frozen (i := 0)
    have f1' := b4.frozen (i := 1)
    have BB2' := Lib.hid b2; clear b2
    have BB4' := Lib.hid b4; clear b4
    have HR5 := Lib.hid hr5; clear hr5
    have HC5 := Lib.hid hc05; clear hc05 hc5
    clear hW5 BB2 BB4 HR2 f1
    refine Ord.St.door (fun w' => w'.cell? ⟨w.heap.size, 1, none⟩ = some (.slice (some ⟨bb, 0, none⟩) (n + 1) rcb)) [.rd, .fl, .ho, .fl, .fl, .fl, .ef, .fl, .fl] [0, 0, 2, 6, 14, 30, 1, 127, 255] [0, 1, 2, 3, 4, 5, 6, 7, 8] mixed (by kernel_rfl) rfl ?_
    refine Ord.St.rd2 (T' := ?_) 0 [1, 2, 3, 4, 5, 6, 7, 8] _ _ rfl (by kernel_rfl) rfl rfl rfl rfl (fun K hk => ?_) ?_
    rotate_left
    · go_step; exact hk
    refine Ord.St.fl2 (T' := ?_) 1 [2, 3, 4, 5, 6, 7, 8] _ _ rfl (by kernel_rfl) rfl rfl rfl rfl (fun K w' hk => ?_) ?_
    rotate_left
    · go_step; exact hk
    refine Ord.St.ho2 (T' := ?_) 2 [3, 4, 5, 6, 7, 8] _ _ rfl (by kernel_rfl) rfl rfl rfl rfl ?_ (fun K w' hw' hk => ?_) ?_
    rotate_left
    · trivial
    · skip; go_step; exact hk
    refine Ord.St.fl2 (T' := ?_) 3 [4, 5, 6, 7, 8] _ _ rfl (by kernel_rfl) rfl rfl rfl rfl (fun K w' hk => ?_) ?_
    rotate_left
    · go_step; exact hk
    refine Ord.St.fl2 (T' := ?_) 4 [5, 6, 7, 8] _ _ rfl (by kernel_rfl) rfl rfl rfl rfl (fun K w' hk => ?_) ?_
    rotate_left
    · go_step; exact hk
    refine Ord.St.fl2 (T' := ?_) 5 [6, 7, 8] _ _ rfl (by kernel_rfl) rfl rfl rfl rfl (fun K w' hk => ?_) ?_
    rotate_left
    · go_step; exact hk
    refine Ord.St.efC 6 [7, 8] _ rfl (by kernel_rfl) (fun K hK => ?_)
    go_wp2_with fail
    refine ⟨rfl, hK _ _ ?_ ?_⟩
    · go_simp
    clear hK K
    refine Ord.St.fl2 (T' := ?_) 7 [8] _ _ rfl (by kernel_rfl) rfl rfl rfl rfl (fun K w' hk => ?_) ?_
    rotate_left
    · go_step; exact hk
    refine Ord.St.fl2 (T' := ?_) 8 [] _ _ rfl (by kernel_rfl) rfl rfl rfl rfl (fun K w' hk => ?_) ?_
    rotate_left
    · go_step; exact hk
    refine Ord.St.nil ?_
    go_wp2_with fail
    have hc9 : Ch [w.heap.size + 1 + 1] W5 ((W5.setCell ⟨w.heap.size + 1 + 1, 0, none⟩ (.int .i64 G.most)).setCell ⟨w.heap.size + 1 + 1, 1, none⟩ (.slice (some ⟨bb, 0, none⟩) (n + 1) rcb)).drew := (((Ch.refl _ _).setCell (by simp) _).setCell (by simp) _).drew
    have hr9 := HR5.out.ch hc9 (by intro k hk; simp at hk; subst hk; simpa using hne4)
    have hcap := row_cap hr9
    refine bodyPost_ret (v := .tuple #[.agg #[.int .i64 G.most, .slice (some ⟨bb, 0, none⟩) (n + 1) rcb], .int .i64 (2 * n), .int .i64 0]) (by simp [results, Tryz.results194, go_sem, z0, z1]) rfl ?_
    refine ⟨bb, rcb, ?_, ⟨fun j u hu => ?_, ?_, ?_, hcap.2, HO2.out⟩, HC5.out.trans hc9 (fun k hk => .inr (by simp at hk; omega)), .inr hwb⟩
    · simp [HN.out]
    · rw [rCells_append] at hu; have := hr9.cells (g := bb) rfl j u (by simpa [rCells, rnCells] using hu); rwa [Addr.add_lit, Nat.zero_add] at this
    · exact (hr9.lt bb rfl).2
    · simpa [HN.out] using hcap.1
  go_wp2_with fail

end
end Go.Proofs.YtehljgigebhddaaGreat
namespace Go.Proofs.YtehljgigebhddaaGreat
open Go.RowKit Go.Mem Go.Aig
theorem rPut_is {w : World} {rb cap : Nat} {G : Gra} (h : RG w rb cap G) (x : Nd) (ho : G.nodes.length < G.most → Ok { G with nodes := G.nodes ++ [x] }) : Calls Tryz.prog 194 #[.agg #[.int .i64 G.most, .slice (some ⟨rb, 0, none⟩) G.nodes.length cap], .agg #[.int .i64 x.k, .int .i64 x.l, .int .i64 x.r]] w (RTo w rb (put G x)) := by
  rcases Nat.lt_or_ge G.nodes.length G.most with hm | hm
  · exact rPut_yes h x hm (ho hm)
  · exact rPut_no h x hm
theorem neg_eq {a b : Nat} : a = neg b ↔ b = neg a := by unfold neg; constructor <;> intro h <;> (repeat' split at h) <;> (repeat' split) <;> omega
theorem and_sort (G : Gra) {a b l r : Nat} (hl : min a b = l) (hr : max a b = r) :
    ((l = 0 ∨ l = neg r) → and G a b = (G, 0, 0)) ∧ (¬ (l = 0 ∨ l = neg r) → (l = 1 ∨ l = r) → and G a b = (G, r, 0)) ∧
    (¬ (l = 0 ∨ l = neg r) → ¬ (l = 1 ∨ l = r) → andIs a b = .node l r ∧ (∀ n, findAnd G.nodes l r = some n → and G a b = (G, 2 * n, 0)) ∧ (findAnd G.nodes l r = none → and G a b = put G ⟨3, l, r, 1 + max (dep G.nodes a) (dep G.nodes b)⟩)) := by
  have e1 : (a = neg b) ↔ (l = neg r) := by
    rcases Nat.le_total a b with h | h
    · rw [Nat.min_eq_left h] at hl; rw [Nat.max_eq_right h] at hr; subst hl; subst hr; exact Iff.rfl
    · rw [Nat.min_eq_right h] at hl; rw [Nat.max_eq_left h] at hr; subst hl; subst hr; exact neg_eq
  have e2 : (a = b) ↔ (l = r) := by omega
  have hi : andIs a b = if l = 0 ∨ l = neg r then .known 0 else if l = 1 ∨ l = r then .known r else .node l r := by
    unfold andIs
    rw [hl, hr]
    simp only [e1, e2]
  refine ⟨fun h => ?_, fun h h2 => ?_, fun h h2 => ?_⟩
  · unfold Aig.and; rw [hi, if_pos h]
  · unfold Aig.and; rw [hi, if_neg h, if_pos h2]
  · rw [if_neg h, if_neg h2] at hi
    refine ⟨hi, fun n hn => ?_, fun hn => ?_⟩
    · unfold Aig.and; rw [hi]; simp only [hn]
    · unfold Aig.and; rw [hi]; simp only [hn]
theorem findAnd_at {ns : List Nd} {l r k : Nat} {x : Nd} (hx : ns[k]? = some x) (h : isAnd l r x = true) (hno : ∀ (j : Nat) y, j < k → ns[j]? = some y → isAnd l r y = false) : findAnd ns l r = some k := by
  unfold findAnd
  obtain ⟨hlt, e⟩ := List.getElem?_eq_some_iff.1 hx
  rw [List.findIdx?_eq_some_iff_getElem]
  exact ⟨hlt, by rw [e]; exact h, fun j hj => by simp [hno j _ hj (List.getElem?_eq_getElem (by omega))]⟩
theorem findAnd_no {ns : List Nd} {l r : Nat} (hno : ∀ (j : Nat) y, j < ns.length → ns[j]? = some y → isAnd l r y = false) : findAnd ns l r = none := by
  unfold findAnd
  rw [List.findIdx?_eq_none_iff]
  intro y hy
  obtain ⟨j, hj⟩ := List.mem_iff_getElem?.1 hy
  exact hno j y (List.getElem?_eq_some_iff.1 hj).1 hj
theorem RTo.self {w w' : World} {rb cap : Nat} {G : Gra} (h : RG w rb cap G) (hc : Ch [] w w') (r e : Nat) : RTo w rb (G, r, e) (.returned (.tuple #[.agg #[.int .i64 G.most, .slice (some ⟨rb, 0, none⟩) G.nodes.length cap], .int .i64 r, .int .i64 e])) w' :=
  ⟨rb, cap, rfl, h.ch hc (by simp), hc, .inl rfl⟩
section
set_option maxRecDepth 100000 in
set_option maxHeartbeats 2000000 in
theorem rAnd_le {w : World} {rb cap : Nat} {G : Gra} (h : RG w rb cap G) {a b : Nat} (ha : a < 2 * G.nodes.length) (hb : b < 2 * G.nodes.length) (hab : decide (b < a) = false) : Calls Tryz.prog 196 #[.agg #[.int .i64 G.most, .slice (some ⟨rb, 0, none⟩) G.nodes.length cap], .int .i64 a, .int .i64 b] w (RTo w rb (and G a b)) := by
  obtain ⟨hl, hp, hmo⟩ := h.len
  have hle := h.le
  have hmx := h.mx
  have hrb := h.lt
  have hs := and_sort G (a := a) (b := b) (l := a) (r := b) (by have := of_decide_eq_false hab; omega) (by have := of_decide_eq_false hab; omega)
  have hlr : a ≤ b := by have := of_decide_eq_false hab; omega
  have hNot := fun (W : World) => rNot_is W b (by omega)
  have HNOT := Lib.hid hNot; clear hNot
  have hc2 : Ch [] w ((w.alloc (.cells #[.int .i64 G.most, .slice (some ⟨rb, 0, none⟩) G.nodes.length cap] 123)).alloc (.cells #[.int .i64 G.most, .slice (some ⟨rb, 0, none⟩) G.nodes.length cap] 123)) := ((Ch.refl _ _).alloc _).alloc _
  have HC2 := Lib.hid hc2; clear hc2
  have H := Lib.hid h; clear h
  by_cases h0 : a = 0
  · have hq := hs.1 (.inl h0)
    have q0 : ((a : Int) == 0) = true := by simp [h0]
    rw [hq]
    have HF := Lib.hid (RTo.self H.out HC2.out 0 0)
    clear hs hq h0
    go_enter Tryz.func196, Tryz.ntmps196
    go_wp2_with fail
    exact bodyPost_ret (v := .tuple #[.agg #[.int .i64 G.most, .slice (some ⟨rb, 0, none⟩) G.nodes.length cap], .int .i64 0, .int .i64 0]) (by simp [results, Tryz.results196, go_sem]) rfl HF.out
  have q0 : ((a : Int) == 0) = false := by simp; omega
  by_cases h1 : a = neg b
  · have hq := hs.1 (.inr h1)
    have q1 : ((a : Int) == (neg b : Nat)) = true := by rw [← h1]; simp
    rw [hq]
    have HF := Lib.hid (RTo.self H.out HC2.out 0 0)
    clear hs hq h0 h1
    go_enter Tryz.func196, Tryz.ntmps196
    go_wp2_with fail
    refine (HNOT.out _).mono ?_
    rintro e w' ⟨rfl, rfl⟩
    generalize neg b = nr at *
    go_wp2_with fail
    exact bodyPost_ret (v := .tuple #[.agg #[.int .i64 G.most, .slice (some ⟨rb, 0, none⟩) G.nodes.length cap], .int .i64 0, .int .i64 0]) (by simp [results, Tryz.results196, go_sem]) rfl HF.out
  have q1 : ((a : Int) == (neg b : Nat)) = false := by simp; omega
  have hno : ¬ (a = 0 ∨ a = neg b) := by simp [h0, h1]
  clear h0 h1
  by_cases h2 : a = 1
  · have hq := hs.2.1 hno (.inl h2)
    have q2 : ((a : Int) == 1) = true := by simp [h2]
    rw [hq]
    have HF := Lib.hid (RTo.self H.out HC2.out b 0)
    clear hs hq h2 hno
    go_enter Tryz.func196, Tryz.ntmps196
    go_wp2_with fail
    refine (HNOT.out _).mono ?_
    rintro e w' ⟨rfl, rfl⟩
    generalize neg b = nr at *
    go_wp2_with fail
    exact bodyPost_ret (v := .tuple #[.agg #[.int .i64 G.most, .slice (some ⟨rb, 0, none⟩) G.nodes.length cap], .int .i64 b, .int .i64 0]) (by simp [results, Tryz.results196, go_sem]) rfl HF.out
  have q2 : ((a : Int) == 1) = false := by simp; omega
  by_cases h3 : a = b
  · have hq := hs.2.1 hno (.inr h3)
    have q3 : ((a : Int) == (b : Int)) = true := by simp [h3]
    rw [hq]
    have HF := Lib.hid (RTo.self H.out HC2.out b 0)
    clear hs hq h2 hno h3
    go_enter Tryz.func196, Tryz.ntmps196
    go_wp2_with fail
    refine (HNOT.out _).mono ?_
    rintro e w' ⟨rfl, rfl⟩
    generalize neg b = nr at *
    go_wp2_with fail
    exact bodyPost_ret (v := .tuple #[.agg #[.int .i64 G.most, .slice (some ⟨rb, 0, none⟩) G.nodes.length cap], .int .i64 b, .int .i64 0]) (by simp [results, Tryz.results196, go_sem]) rfl HF.out
  have q3 : ((a : Int) == (b : Int)) = false := by simp; omega
  obtain ⟨hi, hfs, hfn⟩ := hs.2.2 hno (by simp [h2, h3])
  have hok : findAnd G.nodes a b = none → G.nodes.length < G.most → Ok { G with nodes := G.nodes ++ [⟨3, a, b, 1 + max (dep G.nodes a) (dep G.nodes b)⟩] } := fun hf hm => ⟨H.out.ok.wf.and hi ha hb hf, by simp; omega, H.out.ok.most⟩
  generalize 1 + max (dep G.nodes a) (dep G.nodes b) = dd at *
  have HOK := Lib.hid hok; clear hok
  have HFS := Lib.hid hfs; clear hfs
  have HFN := Lib.hid hfn; clear hfn
  clear hs hno h2 h3 hi
  go_enter Tryz.func196, Tryz.ntmps196
  go_wp2_with fail
  refine (HNOT.out _).mono ?_
  rintro e w' ⟨rfl, rfl⟩
  generalize neg b = nr at *
  go_wp2_with fail
  refine wp_alw ?_
  intro W0 hW0
  have hc0 : Ch [] w W0 := by rw [hW0]; exact ((Ch.refl _ _).alloc _).alloc _
  have b2 : blk W0 w.heap.size [.int .i64 G.most, .slice (some ⟨rb, 0, none⟩) G.nodes.length cap] := by rw [hW0]; exact (blk.new' (w := w) [.int .i64 G.most, .slice (some ⟨rb, 0, none⟩) G.nodes.length cap] 123 rfl).alloc _
  have b4 : blk W0 (w.heap.size + 1) [.int .i64 0, .slice none 0 0] := by rw [hW0]; exact blk.new' [.int .i64 0, .slice none 0 0] 123 (by simp)
  clear hW0 HNOT HC2
  have H0 := H.out.ch hc0 (by simp)
  have y0 := b2.cell (i := 0) rfl
  have y1 := b2.cell (i := 1) rfl
  have z0 := b4.cell (i := 0) rfl
  have z1 := b4.cell (i := 1) rfl
  have f0 := b4.frozen (i := 0)
  have f1 := b4.frozen (i := 1)
  have B2 := Lib.hid b2; clear b2
  have B4 := Lib.hid b4; clear b4
  have HC0 := Lib.hid hc0; clear hc0
  have HH := Lib.hid H0; clear H0
  go_loop [9] (fun i => ∃ k : Nat, k ≤ G.nodes.length ∧ i = .int .i64 k ∧ ∀ (j : Nat) (x : Nd), j < k → G.nodes[j]? = some x → isAnd a b x = false) (fun i => G.nodes.length - (intOf i).toNat)
  case atStart => exact ⟨0, Nat.zero_le _, rfl, fun j x hj => by omega⟩
  case round =>
    obtain ⟨k, hk, rfl, hno⟩ := hrel
    have HNO := Lib.hid hno; clear hno
    by_cases hlt : k < G.nodes.length
    · obtain ⟨x, hx⟩ : ∃ x, G.nodes[k]? = some x := ⟨_, List.getElem?_eq_getElem hlt⟩
      obtain ⟨c0, c1, c2⟩ := HH.out.node hx
      have HX := Lib.hid hx; clear hx
      have hstep : isAnd a b x = false → ∀ (j : Nat) (y : Nd), j < k + 1 → G.nodes[j]? = some y → isAnd a b y = false := fun hf j y hj hy => by
        by_cases e : j = k
        · subst e; rw [HX.out] at hy; cases hy; exact hf
        · exact HNO.out j y (by omega) hy
      have HST := Lib.hid hstep; clear hstep
      by_cases hk3 : x.k = 3
      · have p0 : ((x.k : Int) == 3) = true := by simp [hk3]
        by_cases hxl : x.l = a
        · have p1 : ((x.l : Int) == (a : Int)) = true := by simp [hxl]
          by_cases hxr : x.r = b
          · have p2 : ((x.r : Int) == (b : Int)) = true := by simp [hxr]
            have hq := HFS.out k (findAnd_at HX.out (by simp [isAnd, hk3, hxl, hxr]) HNO.out)
            rw [hq]
            have HQ := Lib.hid hq
            clear hk3 hxl hxr hq
            go_wp2_with fail
            have hc9 : Ch [w.heap.size + 1] W0 ((W0.setCell ⟨w.heap.size + 1, 0, none⟩ (.int .i64 G.most)).setCell ⟨w.heap.size + 1, 1, none⟩ (.slice (some ⟨rb, 0, none⟩) G.nodes.length cap)) := ((Ch.refl _ _).setCell (by simp) _).setCell (by simp) _
            refine bodyPost_ret (v := .tuple #[.agg #[.int .i64 G.most, .slice (some ⟨rb, 0, none⟩) G.nodes.length cap], .int .i64 (2 * k), .int .i64 0]) (by simp [results, Tryz.results196, go_sem, z0, z1]) rfl ?_
            have := RTo.self H.out (HC0.out.trans hc9 (fun k hk => .inr (by simp at hk; omega))) (2 * k) 0
            simpa using this
          · have p2 : ((x.r : Int) == (b : Int)) = false := by simp; omega
            have hf := HST.out (by simp [isAnd, hxr])
            have HF := Lib.hid hf; clear hf HST
            clear hk3 hxl hxr
            go_wp2_with fail
            go_round
            case rel => exact ⟨k + 1, by omega, by go_num, HF.out⟩
            case measure => simp [intOf]; omega
        · have p1 : ((x.l : Int) == (a : Int)) = false := by simp; omega
          have hf := HST.out (by simp [isAnd, hxl])
          have HF := Lib.hid hf; clear hf HST
          clear hk3 hxl
          go_wp2_with fail
          go_round
          case rel => exact ⟨k + 1, by omega, by go_num, HF.out⟩
          case measure => simp [intOf]; omega
      · have p0 : ((x.k : Int) == 3) = false := by simp; omega
        have hf := HST.out (by simp [isAnd, hk3])
        have HF := Lib.hid hf; clear hf HST
        clear hk3
        go_wp2_with fail
        go_round
        case rel => exact ⟨k + 1, by omega, by go_num, HF.out⟩
        case measure => simp [intOf]; omega
    · have hkn : k = G.nodes.length := by omega
      have hnone := findAnd_no (ns := G.nodes) (l := a) (r := b) (fun j y hj hy => HNO.out j y (by omega) hy)
      have hq := HFN.out hnone
      have HQ := Lib.hid hq
      have hP : Calls Tryz.prog 194 #[.agg #[.int .i64 G.most, .slice (some ⟨rb, 0, none⟩) G.nodes.length cap], .agg #[.int .i64 3, .int .i64 a, .int .i64 b]] W0 (RTo W0 rb (put G ⟨3, a, b, dd⟩)) := rPut_is HH.out ⟨3, a, b, dd⟩ (HOK.out hnone)
      have HP := Lib.hid hP; clear hP
      clear hq hnone hkn
      generalize put G ⟨3, a, b, dd⟩ = RR at *
      go_wp2_with fail
      refine HP.out.mono ?_
      rintro e w5 ⟨rb', cap', rfl, hrg, hch, hfr⟩
      have y0 := hch.cell (cell_lt z0) (by simp)
      have y1 := hch.cell (cell_lt z1) (by simp)
      rw [z0] at y0
      rw [z1] at y1
      have g0 := (B4.out.ch hch (by simp)).frozen (i := 0)
      have g1 := (B4.out.ch hch (by simp)).frozen (i := 1)
      have hne : rb' ≠ w.heap.size + 1 := by
        rcases hfr with e | e
        · omega
        · have := B4.out.lt; omega
      have HRG := Lib.hid hrg; clear hrg
      have HCH := Lib.hid hch; clear hch
      clear z0 z1 f0 f1
      go_wp2_with fail
      have hc9 : Ch [w.heap.size + 1] w5 ((w5.setCell ⟨w.heap.size + 1, 0, none⟩ (.int .i64 RR.1.most)).setCell ⟨w.heap.size + 1, 1, none⟩ (.slice (some ⟨rb', 0, none⟩) RR.1.nodes.length cap')) := ((Ch.refl _ _).setCell (by simp) _).setCell (by simp) _
      refine bodyPost_ret (v := .tuple #[.agg #[.int .i64 RR.1.most, .slice (some ⟨rb', 0, none⟩) RR.1.nodes.length cap'], .int .i64 RR.2.1, .int .i64 RR.2.2]) (by simp [results, Tryz.results196, go_sem, y0, y1]) rfl ?_
      have hs0 := HC0.out.size
      rw [HQ.out]
      exact ⟨rb', cap', rfl, HRG.out.ch hc9 (by simpa using hne), (HC0.out.trans HCH.out (by simp)).trans hc9 (fun k hk => .inr (by simp at hk; omega)), hfr.imp id (fun e => by omega)⟩
set_option maxRecDepth 100000 in
set_option maxHeartbeats 2000000 in
theorem rAnd_gt {w : World} {rb cap : Nat} {G : Gra} (h : RG w rb cap G) {a b : Nat} (ha : a < 2 * G.nodes.length) (hb : b < 2 * G.nodes.length) (hab : decide (b < a) = true) : Calls Tryz.prog 196 #[.agg #[.int .i64 G.most, .slice (some ⟨rb, 0, none⟩) G.nodes.length cap], .int .i64 a, .int .i64 b] w (RTo w rb (and G a b)) := by
  obtain ⟨hl, hp, hmo⟩ := h.len
  have hle := h.le
  have hmx := h.mx
  have hrb := h.lt
  have hs := and_sort G (a := a) (b := b) (l := b) (r := a) (by have := of_decide_eq_true hab; omega) (by have := of_decide_eq_true hab; omega)
  have hlr : b ≤ a := by have := of_decide_eq_true hab; omega
  have hNot := fun (W : World) => rNot_is W a (by omega)
  have HNOT := Lib.hid hNot; clear hNot
  have hc2 : Ch [] w ((w.alloc (.cells #[.int .i64 G.most, .slice (some ⟨rb, 0, none⟩) G.nodes.length cap] 123)).alloc (.cells #[.int .i64 G.most, .slice (some ⟨rb, 0, none⟩) G.nodes.length cap] 123)) := ((Ch.refl _ _).alloc _).alloc _
  have HC2 := Lib.hid hc2; clear hc2
  have H := Lib.hid h; clear h
  by_cases h0 : b = 0
  · have hq := hs.1 (.inl h0)
    have q0 : ((b : Int) == 0) = true := by simp [h0]
    rw [hq]
    have HF := Lib.hid (RTo.self H.out HC2.out 0 0)
    clear hs hq h0
    go_enter Tryz.func196, Tryz.ntmps196
    go_wp2_with fail
    exact bodyPost_ret (v := .tuple #[.agg #[.int .i64 G.most, .slice (some ⟨rb, 0, none⟩) G.nodes.length cap], .int .i64 0, .int .i64 0]) (by simp [results, Tryz.results196, go_sem]) rfl HF.out
  have q0 : ((b : Int) == 0) = false := by simp; omega
  by_cases h1 : b = neg a
  · have hq := hs.1 (.inr h1)
    have q1 : ((b : Int) == (neg a : Nat)) = true := by rw [← h1]; simp
    rw [hq]
    have HF := Lib.hid (RTo.self H.out HC2.out 0 0)
    clear hs hq h0 h1
    go_enter Tryz.func196, Tryz.ntmps196
    go_wp2_with fail
    refine (HNOT.out _).mono ?_
    rintro e w' ⟨rfl, rfl⟩
    generalize neg a = nr at *
    go_wp2_with fail
    exact bodyPost_ret (v := .tuple #[.agg #[.int .i64 G.most, .slice (some ⟨rb, 0, none⟩) G.nodes.length cap], .int .i64 0, .int .i64 0]) (by simp [results, Tryz.results196, go_sem]) rfl HF.out
  have q1 : ((b : Int) == (neg a : Nat)) = false := by simp; omega
  have hno : ¬ (b = 0 ∨ b = neg a) := by simp [h0, h1]
  clear h0 h1
  by_cases h2 : b = 1
  · have hq := hs.2.1 hno (.inl h2)
    have q2 : ((b : Int) == 1) = true := by simp [h2]
    rw [hq]
    have HF := Lib.hid (RTo.self H.out HC2.out a 0)
    clear hs hq h2 hno
    go_enter Tryz.func196, Tryz.ntmps196
    go_wp2_with fail
    refine (HNOT.out _).mono ?_
    rintro e w' ⟨rfl, rfl⟩
    generalize neg a = nr at *
    go_wp2_with fail
    exact bodyPost_ret (v := .tuple #[.agg #[.int .i64 G.most, .slice (some ⟨rb, 0, none⟩) G.nodes.length cap], .int .i64 a, .int .i64 0]) (by simp [results, Tryz.results196, go_sem]) rfl HF.out
  have q2 : ((b : Int) == 1) = false := by simp; omega
  by_cases h3 : b = a
  · have hq := hs.2.1 hno (.inr h3)
    have q3 : ((b : Int) == (a : Int)) = true := by simp [h3]
    rw [hq]
    have HF := Lib.hid (RTo.self H.out HC2.out a 0)
    clear hs hq h2 hno h3
    go_enter Tryz.func196, Tryz.ntmps196
    go_wp2_with fail
    refine (HNOT.out _).mono ?_
    rintro e w' ⟨rfl, rfl⟩
    generalize neg a = nr at *
    go_wp2_with fail
    exact bodyPost_ret (v := .tuple #[.agg #[.int .i64 G.most, .slice (some ⟨rb, 0, none⟩) G.nodes.length cap], .int .i64 a, .int .i64 0]) (by simp [results, Tryz.results196, go_sem]) rfl HF.out
  have q3 : ((b : Int) == (a : Int)) = false := by simp; omega
  obtain ⟨hi, hfs, hfn⟩ := hs.2.2 hno (by simp [h2, h3])
  have hok : findAnd G.nodes b a = none → G.nodes.length < G.most → Ok { G with nodes := G.nodes ++ [⟨3, b, a, 1 + max (dep G.nodes a) (dep G.nodes b)⟩] } := fun hf hm => ⟨H.out.ok.wf.and hi ha hb hf, by simp; omega, H.out.ok.most⟩
  generalize 1 + max (dep G.nodes a) (dep G.nodes b) = dd at *
  have HOK := Lib.hid hok; clear hok
  have HFS := Lib.hid hfs; clear hfs
  have HFN := Lib.hid hfn; clear hfn
  clear hs hno h2 h3 hi
  go_enter Tryz.func196, Tryz.ntmps196
  go_wp2_with fail
  refine (HNOT.out _).mono ?_
  rintro e w' ⟨rfl, rfl⟩
  generalize neg a = nr at *
  go_wp2_with fail
  refine wp_alw ?_
  intro W0 hW0
  have hc0 : Ch [] w W0 := by rw [hW0]; exact ((Ch.refl _ _).alloc _).alloc _
  have b2 : blk W0 w.heap.size [.int .i64 G.most, .slice (some ⟨rb, 0, none⟩) G.nodes.length cap] := by rw [hW0]; exact (blk.new' (w := w) [.int .i64 G.most, .slice (some ⟨rb, 0, none⟩) G.nodes.length cap] 123 rfl).alloc _
  have b4 : blk W0 (w.heap.size + 1) [.int .i64 0, .slice none 0 0] := by rw [hW0]; exact blk.new' [.int .i64 0, .slice none 0 0] 123 (by simp)
  clear hW0 HNOT HC2
  have H0 := H.out.ch hc0 (by simp)
  have y0 := b2.cell (i := 0) rfl
  have y1 := b2.cell (i := 1) rfl
  have z0 := b4.cell (i := 0) rfl
  have z1 := b4.cell (i := 1) rfl
  have f0 := b4.frozen (i := 0)
  have f1 := b4.frozen (i := 1)
  have B2 := Lib.hid b2; clear b2
  have B4 := Lib.hid b4; clear b4
  have HC0 := Lib.hid hc0; clear hc0
  have HH := Lib.hid H0; clear H0
  go_loop [9] (fun i => ∃ k : Nat, k ≤ G.nodes.length ∧ i = .int .i64 k ∧ ∀ (j : Nat) (x : Nd), j < k → G.nodes[j]? = some x → isAnd b a x = false) (fun i => G.nodes.length - (intOf i).toNat)
  case atStart => exact ⟨0, Nat.zero_le _, rfl, fun j x hj => by omega⟩
  case round =>
    obtain ⟨k, hk, rfl, hno⟩ := hrel
    have HNO := Lib.hid hno; clear hno
    by_cases hlt : k < G.nodes.length
    · obtain ⟨x, hx⟩ : ∃ x, G.nodes[k]? = some x := ⟨_, List.getElem?_eq_getElem hlt⟩
      obtain ⟨c0, c1, c2⟩ := HH.out.node hx
      have HX := Lib.hid hx; clear hx
      have hstep : isAnd b a x = false → ∀ (j : Nat) (y : Nd), j < k + 1 → G.nodes[j]? = some y → isAnd b a y = false := fun hf j y hj hy => by
        by_cases e : j = k
        · subst e; rw [HX.out] at hy; cases hy; exact hf
        · exact HNO.out j y (by omega) hy
      have HST := Lib.hid hstep; clear hstep
      by_cases hk3 : x.k = 3
      · have p0 : ((x.k : Int) == 3) = true := by simp [hk3]
        by_cases hxl : x.l = b
        · have p1 : ((x.l : Int) == (b : Int)) = true := by simp [hxl]
          by_cases hxr : x.r = a
          · have p2 : ((x.r : Int) == (a : Int)) = true := by simp [hxr]
            have hq := HFS.out k (findAnd_at HX.out (by simp [isAnd, hk3, hxl, hxr]) HNO.out)
            rw [hq]
            have HQ := Lib.hid hq
            clear hk3 hxl hxr hq
            go_wp2_with fail
            have hc9 : Ch [w.heap.size + 1] W0 ((W0.setCell ⟨w.heap.size + 1, 0, none⟩ (.int .i64 G.most)).setCell ⟨w.heap.size + 1, 1, none⟩ (.slice (some ⟨rb, 0, none⟩) G.nodes.length cap)) := ((Ch.refl _ _).setCell (by simp) _).setCell (by simp) _
            refine bodyPost_ret (v := .tuple #[.agg #[.int .i64 G.most, .slice (some ⟨rb, 0, none⟩) G.nodes.length cap], .int .i64 (2 * k), .int .i64 0]) (by simp [results, Tryz.results196, go_sem, z0, z1]) rfl ?_
            have := RTo.self H.out (HC0.out.trans hc9 (fun k hk => .inr (by simp at hk; omega))) (2 * k) 0
            simpa using this
          · have p2 : ((x.r : Int) == (a : Int)) = false := by simp; omega
            have hf := HST.out (by simp [isAnd, hxr])
            have HF := Lib.hid hf; clear hf HST
            clear hk3 hxl hxr
            go_wp2_with fail
            go_round
            case rel => exact ⟨k + 1, by omega, by go_num, HF.out⟩
            case measure => simp [intOf]; omega
        · have p1 : ((x.l : Int) == (b : Int)) = false := by simp; omega
          have hf := HST.out (by simp [isAnd, hxl])
          have HF := Lib.hid hf; clear hf HST
          clear hk3 hxl
          go_wp2_with fail
          go_round
          case rel => exact ⟨k + 1, by omega, by go_num, HF.out⟩
          case measure => simp [intOf]; omega
      · have p0 : ((x.k : Int) == 3) = false := by simp; omega
        have hf := HST.out (by simp [isAnd, hk3])
        have HF := Lib.hid hf; clear hf HST
        clear hk3
        go_wp2_with fail
        go_round
        case rel => exact ⟨k + 1, by omega, by go_num, HF.out⟩
        case measure => simp [intOf]; omega
    · have hkn : k = G.nodes.length := by omega
      have hnone := findAnd_no (ns := G.nodes) (l := b) (r := a) (fun j y hj hy => HNO.out j y (by omega) hy)
      have hq := HFN.out hnone
      have HQ := Lib.hid hq
      have hP : Calls Tryz.prog 194 #[.agg #[.int .i64 G.most, .slice (some ⟨rb, 0, none⟩) G.nodes.length cap], .agg #[.int .i64 3, .int .i64 b, .int .i64 a]] W0 (RTo W0 rb (put G ⟨3, b, a, dd⟩)) := rPut_is HH.out ⟨3, b, a, dd⟩ (HOK.out hnone)
      have HP := Lib.hid hP; clear hP
      clear hq hnone hkn
      generalize put G ⟨3, b, a, dd⟩ = RR at *
      go_wp2_with fail
      refine HP.out.mono ?_
      rintro e w5 ⟨rb', cap', rfl, hrg, hch, hfr⟩
      have y0 := hch.cell (cell_lt z0) (by simp)
      have y1 := hch.cell (cell_lt z1) (by simp)
      rw [z0] at y0
      rw [z1] at y1
      have g0 := (B4.out.ch hch (by simp)).frozen (i := 0)
      have g1 := (B4.out.ch hch (by simp)).frozen (i := 1)
      have hne : rb' ≠ w.heap.size + 1 := by
        rcases hfr with e | e
        · omega
        · have := B4.out.lt; omega
      have HRG := Lib.hid hrg; clear hrg
      have HCH := Lib.hid hch; clear hch
      clear z0 z1 f0 f1
      go_wp2_with fail
      have hc9 : Ch [w.heap.size + 1] w5 ((w5.setCell ⟨w.heap.size + 1, 0, none⟩ (.int .i64 RR.1.most)).setCell ⟨w.heap.size + 1, 1, none⟩ (.slice (some ⟨rb', 0, none⟩) RR.1.nodes.length cap')) := ((Ch.refl _ _).setCell (by simp) _).setCell (by simp) _
      refine bodyPost_ret (v := .tuple #[.agg #[.int .i64 RR.1.most, .slice (some ⟨rb', 0, none⟩) RR.1.nodes.length cap'], .int .i64 RR.2.1, .int .i64 RR.2.2]) (by simp [results, Tryz.results196, go_sem, y0, y1]) rfl ?_
      have hs0 := HC0.out.size
      rw [HQ.out]
      exact ⟨rb', cap', rfl, HRG.out.ch hc9 (by simpa using hne), (HC0.out.trans HCH.out (by simp)).trans hc9 (fun k hk => .inr (by simp at hk; omega)), hfr.imp id (fun e => by omega)⟩
theorem rAnd_is {w : World} {rb cap : Nat} {G : Gra} (h : RG w rb cap G) {a b : Nat} (ha : a < 2 * G.nodes.length) (hb : b < 2 * G.nodes.length) : Calls Tryz.prog 196 #[.agg #[.int .i64 G.most, .slice (some ⟨rb, 0, none⟩) G.nodes.length cap], .int .i64 a, .int .i64 b] w (RTo w rb (and G a b)) := by
  cases hd : decide (b < a)
  · exact rAnd_le h ha hb hd
  · exact rAnd_gt h ha hb hd
end
end Go.Proofs.YtehljgigebhddaaGreat
namespace Go.Aig
def rOr (G : Gra) (a b : Nat) : Res := if (and G (neg a) (neg b)).2.2 ≠ 0 then (G, 0, (and G (neg a) (neg b)).2.2) else ((and G (neg a) (neg b)).1, neg (and G (neg a) (neg b)).2.1, 0)
theorem rOr_ok {G : Gra} (h : Ok G) {a b : Nat} (ha : a < 2 * G.nodes.length) (hb : b < 2 * G.nodes.length) :
    Ok (rOr G a b).1 ∧ Ext G (rOr G a b).1 ∧ (rOr G a b).2.1 < 2 * (rOr G a b).1.nodes.length ∧ ((rOr G a b).2.2 = 0 ∨ (rOr G a b).2.2 = 201) := by
  obtain ⟨h1, h2, h3, h4⟩ := and_ok h (neg_lt ha) (neg_lt hb)
  have := h.wf.pos
  unfold rOr
  split
  · exact ⟨h, .refl _, by show 0 < 2 * G.nodes.length; omega, h4⟩
  · exact ⟨h1, h2, neg_lt h3, .inl rfl⟩
end Go.Aig
namespace Go.Proofs.YtehljgigebhddaaGreat
open Go.RowKit Go.Mem Go.Aig
theorem rto_ne {w : World} {rb rb' b : Nat} {xs : List Value} (h : blk w b xs) (hr : rb ≠ b) (hf : rb' = rb ∨ w.heap.size ≤ rb') : rb' ≠ b := by
  have := h.lt
  rcases hf with e | e <;> omega
theorem set2_ch {w W : World} {b : Nat} {u v : Value} (h : W = (w.setCell ⟨b, 0, none⟩ u).setCell ⟨b, 1, none⟩ v) : Ch [b] w W := by rw [h]; exact ((Ch.refl [b] _).setCell (by simp) _).setCell (by simp) _
theorem rg_ne {w : World} {rb cap : Nat} {G : Gra} (h : RG w rb cap G) : rb ≠ w.heap.size := by have := h.lt; omega
section
set_option maxRecDepth 100000 in
set_option maxHeartbeats 2000000 in
theorem rOr_is {w : World} {rb cap : Nat} {G : Gra} (h : RG w rb cap G) {a b : Nat} (ha : a < 2 * G.nodes.length) (hb : b < 2 * G.nodes.length) : Calls Tryz.prog 355 #[.agg #[.int .i64 G.most, .slice (some ⟨rb, 0, none⟩) G.nodes.length cap], .int .i64 a, .int .i64 b] w (RTo w rb (rOr G a b)) := by
  obtain ⟨hl, hp, hmo⟩ := h.len
  have hle := h.le
  have hmx := h.mx
  have hrb := h.lt
  obtain ⟨o1, o2, o3, o4⟩ := and_ok h.ok (neg_lt ha) (neg_lt hb)
  have hNa := fun (W : World) => rNot_is W a (by omega)
  have hNb := fun (W : World) => rNot_is W b (by omega)
  have HNA := Lib.hid hNa; clear hNa
  have HNB := Lib.hid hNb; clear hNb
  have hAnd := fun (W : World) (hW : Ch [] w W) => rAnd_is (h.ch hW (by simp)) (neg_lt ha) (neg_lt hb)
  have hro : rOr G a b = if (Aig.and G (neg a) (neg b)).2.2 ≠ 0 then (G, 0, (Aig.and G (neg a) (neg b)).2.2) else ((Aig.and G (neg a) (neg b)).1, neg (Aig.and G (neg a) (neg b)).2.1, 0) := rfl
  generalize Aig.and G (neg a) (neg b) = R at *
  generalize neg a = na at *
  generalize neg b = nb at *
  generalize rOr G a b = RO at *
  have hR3 : R.2.1 < 2 * 65536 := by have := o1.room; have := o1.most; omega
  have hNr := fun (W : World) => rNot_is W R.2.1 (by omega)
  have HNR := Lib.hid hNr; clear hNr
  have HRO := Lib.hid hro; clear hro
  have HAND := Lib.hid hAnd; clear hAnd
  have H := Lib.hid h; clear h
  have O4 := Lib.hid o4; clear o4
  clear o1 o2 o3 ha hb
  go_enter Tryz.func355, Tryz.ntmps355
  go_wp2_with fail
  refine wp_alw ?_
  intro W0 hW0
  have hc0 : Ch [] w W0 := by rw [hW0]; exact ((Ch.refl _ _).alloc _).alloc _
  have b2 : blk W0 w.heap.size [.int .i64 G.most, .slice (some ⟨rb, 0, none⟩) G.nodes.length cap] := by rw [hW0]; exact (blk.new' (w := w) [.int .i64 G.most, .slice (some ⟨rb, 0, none⟩) G.nodes.length cap] 123 rfl).alloc _
  have b4 : blk W0 (w.heap.size + 1) [.int .i64 0, .slice none 0 0] := by rw [hW0]; exact blk.new' [.int .i64 0, .slice none 0 0] 123 (by simp)
  clear hW0
  have B2 := Lib.hid b2; clear b2
  have B4 := Lib.hid b4; clear b4
  have HC0 := Lib.hid hc0; clear hc0
  refine Ord.St.door (fun w' => Ch [] W0 w') [.ho, .fl, .fl, .fl, .fl, .ef, .fl, .fl, .fl, .fl, .ef, .ef, .fl, .fl] [0, 0, 2, 0, 14, 31, 63, 127, 127, 127, 0, 1279, 3583, 8191] [0, 1, 2, 3, 4, 5, 6, 7, 8, 9, 10, 11, 12, 13] mixed (by kernel_rfl) rfl ?_
  obtain ⟨Wc, hWc⟩ : ∃ Wc, Wc = W0.drew := ⟨_, rfl⟩
  rw [← hWc]
  have hcur : Ch [] W0 Wc := by rw [hWc]; exact (Ch.refl _ _).drew
  clear hWc
  refine Ord.St.ho2 (T' := ?_) 0 [1, 2, 3, 4, 5, 6, 7, 8, 9, 10, 11, 12, 13] _ _ rfl (by kernel_rfl) rfl rfl rfl rfl ?_ (fun K w' hw' hk => ?_) ?_
  rotate_left
  · trivial
  · have y0 := (B2.out.ch hw' (by simp)).cell (i := 0) rfl; have y1 := (B2.out.ch hw' (by simp)).cell (i := 1) rfl; go_step; exact hk
  refine Ord.St.fl2 (T' := ?_) 1 [2, 3, 4, 5, 6, 7, 8, 9, 10, 11, 12, 13] _ _ rfl (by kernel_rfl) rfl rfl rfl rfl (fun K w' hk => ?_) ?_
  rotate_left
  · go_step; exact hk
  refine Ord.St.fl2 (T' := ?_) 2 [3, 4, 5, 6, 7, 8, 9, 10, 11, 12, 13] _ _ rfl (by kernel_rfl) rfl rfl rfl rfl (fun K w' hk => ?_) ?_
  rotate_left
  · go_step; refine (HNA.out _).mono ?_; rintro e w'' ⟨rfl, rfl⟩; exact hk
  refine Ord.St.fl2 (T' := ?_) 3 [4, 5, 6, 7, 8, 9, 10, 11, 12, 13] _ _ rfl (by kernel_rfl) rfl rfl rfl rfl (fun K w' hk => ?_) ?_
  rotate_left
  · go_step; exact hk
  refine Ord.St.fl2 (T' := ?_) 4 [5, 6, 7, 8, 9, 10, 11, 12, 13] _ _ rfl (by kernel_rfl) rfl rfl rfl rfl (fun K w' hk => ?_) ?_
  rotate_left
  · go_step; refine (HNB.out _).mono ?_; rintro e w'' ⟨rfl, rfl⟩; exact hk
  refine Ord.St.two 5 10 [6, 7, 8, 9, 10, 11, 12, 13] [5, 6, 7, 8, 9, 11, 12, 13] _ _ (by kernel_rfl) rfl rfl (by kernel_rfl) (by kernel_rfl) (fun K hK => ?_) (fun K hK => ?_)
  · have HA := Lib.hid (HAND.out _ (HC0.out.trans hcur (by simp)))
    go_wp2_with fail
    refine HA.out.mono ?_
    rintro e w5 ⟨rb', cap', rfl, hrg, hch, hfr⟩
    go_wp2_with fail
    refine ⟨rfl, hK _ _ ?_ ?_⟩
    · exact hcur.trans hch (by simp)
    clear hK K
    try have hne := rto_ne hb9 (by have := HC0.out.size; have := hs9; omega) hfr
    try replace hb9 := hb9.ch hch (by simp)
    try have hlo9 := hs9
    have hfr0 : rb' = rb ∨ w.heap.size ≤ rb' := hfr.imp id (fun e => by have := HC0.out.size; have := hcur.size; omega)
    have hfr4 := rto_ne (B4.out.ch hcur (by simp)) (by omega) hfr
    replace hcur := hcur.trans hch (by simp)
    clear hch hfr HA
    refine Ord.St.fl2 (T' := ?_) 6 [7, 8, 9, 10, 11, 12, 13] _ _ rfl (by kernel_rfl) rfl rfl rfl rfl (fun K w' hk => ?_) ?_
    rotate_left
    · go_step; exact hk
    refine Ord.St.fl2 (T' := ?_) 7 [8, 9, 10, 11, 12, 13] _ _ rfl (by kernel_rfl) rfl rfl rfl rfl (fun K w' hk => ?_) ?_
    rotate_left
    · go_step; exact hk
    refine Ord.St.fl2 (T' := ?_) 8 [9, 10, 11, 12, 13] _ _ rfl (by kernel_rfl) rfl rfl rfl rfl (fun K w' hk => ?_) ?_
    rotate_left
    · go_step; exact hk
    refine Ord.St.fl2 (T' := ?_) 9 [10, 11, 12, 13] _ _ rfl (by kernel_rfl) rfl rfl rfl rfl (fun K w' hk => ?_) ?_
    rotate_left
    · go_step; exact hk
    refine Ord.St.efC 10 [11, 12, 13] _ rfl (by kernel_rfl) (fun K hK => ?_)
    go_wp2_with fail
    refine ⟨rfl, hK _ _ ?_ ?_⟩
    · exact hcur.alloc _
    clear hK K
    refine Ord.St.alw ?_; intro Wn hWn
    have hb9 := alw_blk (xs := [.int .i64 0, .slice none 0 0]) hWn
    have hs9 := hcur.size
    try have hne := rg_ne hrg
    try replace hrg := hrg.ch (alw_ch hWn) (by simp)
    replace hcur := hcur.trans (alw_ch hWn) (by simp)
    clear hWn
    first | (have _t := hrg; clear _t; generalize w5.heap.size = b9 at *) | generalize Wc.heap.size = b9 at *
    refine Ord.St.ef 11 [12, 13] _ rfl (by kernel_rfl) (fun K hK => ?_)
    have z0 := hb9.cell (i := 0) rfl
    have z1 := hb9.cell (i := 1) rfl
    have g0 := hb9.frozen (i := 0)
    have g1 := hb9.frozen (i := 1)
    have HRG := Lib.hid hrg; clear hrg
    have HB9 := Lib.hid hb9; clear hb9
    go_wp2_with fail
    refine ⟨rfl, hK _ _ ?_⟩; clear hK K
    refine Ord.St.fl2 (T' := ?_) 12 [13] _ _ rfl (by kernel_rfl) rfl rfl rfl rfl (fun K w' hk => ?_) ?_
    rotate_left
    · go_step; exact hk
    refine Ord.St.fl2 (T' := ?_) 13 [] _ _ rfl (by kernel_rfl) rfl rfl rfl rfl (fun K w' hk => ?_) ?_
    rotate_left
    · go_step; exact hk
    refine Ord.St.nil ?_
    go_upto_region 2 with fail
    refine wp_alw ?_
    intro W6 hW6
    have hb9 : blk W6 b9 [.int .i64 R.1.most, .slice (some ⟨rb', 0, none⟩) R.1.nodes.length cap'] := by rw [hW6]; exact (HB9.out.set (i := 0) _).set (i := 1) _
    have hc9 := set2_ch hW6
    have hc6 := hcur.trans hc9 (fun k hk => .inr (by simp at hk; omega))
    have hr6 := HRG.out.ch hc9 (by simpa using hne)
    have b2 := B2.out.ch hc6 (by simp)
    have b4 := B4.out.ch hc6 (by simp)
    have c06 := HC0.out.trans hc6 (by simp)
    have x0 := hb9.cell (i := 0) rfl
    have x1 := hb9.cell (i := 1) rfl
    have y0 := b2.cell (i := 0) rfl
    have y1 := b2.cell (i := 1) rfl
    have v0 := b4.cell (i := 0) rfl
    have v1 := b4.cell (i := 1) rfl
    have f0 := b4.frozen (i := 0)
    have f1 := b4.frozen (i := 1)
    have HR6 := Lib.hid hr6; clear hr6
    have C06 := Lib.hid c06; clear c06
    have FR0 := Lib.hid hfr0; clear hfr0
    clear hW6 HRG HB9 hb9 hc9 hc6 z0 z1 g0 g1 b2 b4 hcur
    rcases O4.out with he | he
    · have q : ((R.2.2 : Int) != 0) = false := by simp [he]
      have hro := HRO.out
      rw [if_neg (by simp [he])] at hro
      have HRO2 := Lib.hid hro; clear hro he
      go_wp2_with fail
      refine Ord.St.door (fun _ => True) [.rd, .fl, .fl, .ef, .fl, .fl] [0, 0, 2, 7, 15, 31] [0, 1, 2, 3, 4, 5] mixed (by kernel_rfl) rfl ?_
      refine Ord.St.rd2 (T' := ?_) 0 [1, 2, 3, 4, 5] _ _ rfl (by kernel_rfl) rfl rfl rfl rfl (fun K hk => ?_) ?_
      rotate_left
      · go_step; exact hk
      refine Ord.St.fl2 (T' := ?_) 1 [2, 3, 4, 5] _ _ rfl (by kernel_rfl) rfl rfl rfl rfl (fun K w' hk => ?_) ?_
      rotate_left
      · go_step; exact hk
      refine Ord.St.fl2 (T' := ?_) 2 [3, 4, 5] _ _ rfl (by kernel_rfl) rfl rfl rfl rfl (fun K w' hk => ?_) ?_
      rotate_left
      · go_step; refine (HNR.out _).mono ?_; rintro e w'' ⟨rfl, rfl⟩; exact hk
      refine Ord.St.ef 3 [4, 5] _ rfl (by kernel_rfl) (fun K hK => ?_)
      go_wp2_with fail
      refine ⟨rfl, hK _ _ ?_⟩; clear hK K
      refine Ord.St.fl2 (T' := ?_) 4 [5] _ _ rfl (by kernel_rfl) rfl rfl rfl rfl (fun K w' hk => ?_) ?_
      rotate_left
      · go_step; exact hk
      refine Ord.St.fl2 (T' := ?_) 5 [] _ _ rfl (by kernel_rfl) rfl rfl rfl rfl (fun K w' hk => ?_) ?_
      rotate_left
      · go_step; exact hk
      refine Ord.St.nil ?_
      go_wp2_with fail
      have hcc : Ch [w.heap.size + 1] W6 ((W6.setCell ⟨w.heap.size + 1, 0, none⟩ (.int .i64 R.1.most)).setCell ⟨w.heap.size + 1, 1, none⟩ (.slice (some ⟨rb', 0, none⟩) R.1.nodes.length cap')).drew := (((Ch.refl _ _).setCell (by simp) _).setCell (by simp) _).drew
      refine bodyPost_ret (v := .tuple #[.agg #[.int .i64 R.1.most, .slice (some ⟨rb', 0, none⟩) R.1.nodes.length cap'], .int .i64 (neg R.2.1 : Nat), .int .i64 0]) (by simp [results, Tryz.results355, go_sem, v0, v1]) rfl ?_
      rw [HRO2.out]
      exact ⟨rb', cap', rfl, HR6.out.ch hcc (by simpa using hfr4), C06.out.trans hcc (fun k hk => .inr (by simp at hk; omega)), FR0.out⟩
    · have q : ((R.2.2 : Int) != 0) = true := by simp [he]
      have hro := HRO.out
      rw [if_pos (by simp [he])] at hro
      have HRO2 := Lib.hid hro; clear hro he
      go_wp2_with fail
      have hcc : Ch [w.heap.size + 1] W6 ((W6.setCell ⟨w.heap.size + 1, 0, none⟩ (.int .i64 G.most)).setCell ⟨w.heap.size + 1, 1, none⟩ (.slice (some ⟨rb, 0, none⟩) G.nodes.length cap)) := ((Ch.refl _ _).setCell (by simp) _).setCell (by simp) _
      refine bodyPost_ret (v := .tuple #[.agg #[.int .i64 G.most, .slice (some ⟨rb, 0, none⟩) G.nodes.length cap], .int .i64 0, .int .i64 R.2.2]) (by simp [results, Tryz.results355, go_sem, v0, v1]) rfl ?_
      rw [HRO2.out]
      exact RTo.self H.out (C06.out.trans hcc (fun k hk => .inr (by simp at hk; omega))) 0 R.2.2
  · go_wp2_with fail
    refine ⟨rfl, hK _ _ ?_ ?_⟩
    · exact hcur.alloc _
    clear hK K
    refine Ord.St.alw ?_; intro Wn hWn
    have hb9 := alw_blk (xs := [.int .i64 0, .slice none 0 0]) hWn
    have hs9 := hcur.size
    try have hne := rg_ne hrg
    try replace hrg := hrg.ch (alw_ch hWn) (by simp)
    replace hcur := hcur.trans (alw_ch hWn) (by simp)
    clear hWn
    first | (have _t := hrg; clear _t; generalize w5.heap.size = b9 at *) | generalize Wc.heap.size = b9 at *
    refine Ord.St.ef 5 [6, 7, 8, 9, 11, 12, 13] _ rfl (by kernel_rfl) (fun K hK => ?_)
    have HA := Lib.hid (HAND.out _ (HC0.out.trans hcur (by simp)))
    go_wp2_with fail
    refine HA.out.mono ?_
    rintro e w5 ⟨rb', cap', rfl, hrg, hch, hfr⟩
    go_wp2_with fail
    refine ⟨rfl, hK _ _ ?_⟩; clear hK K
    try have hne := rto_ne hb9 (by have := HC0.out.size; have := hs9; omega) hfr
    try replace hb9 := hb9.ch hch (by simp)
    try have hlo9 := hs9
    have hfr0 : rb' = rb ∨ w.heap.size ≤ rb' := hfr.imp id (fun e => by have := HC0.out.size; have := hcur.size; omega)
    have hfr4 := rto_ne (B4.out.ch hcur (by simp)) (by omega) hfr
    replace hcur := hcur.trans hch (by simp)
    clear hch hfr HA
    refine Ord.St.fl2 (T' := ?_) 6 [7, 8, 9, 11, 12, 13] _ _ rfl (by kernel_rfl) rfl rfl rfl rfl (fun K w' hk => ?_) ?_
    rotate_left
    · go_step; exact hk
    refine Ord.St.fl2 (T' := ?_) 7 [8, 9, 11, 12, 13] _ _ rfl (by kernel_rfl) rfl rfl rfl rfl (fun K w' hk => ?_) ?_
    rotate_left
    · go_step; exact hk
    refine Ord.St.fl2 (T' := ?_) 8 [9, 11, 12, 13] _ _ rfl (by kernel_rfl) rfl rfl rfl rfl (fun K w' hk => ?_) ?_
    rotate_left
    · go_step; exact hk
    refine Ord.St.fl2 (T' := ?_) 9 [11, 12, 13] _ _ rfl (by kernel_rfl) rfl rfl rfl rfl (fun K w' hk => ?_) ?_
    rotate_left
    · go_step; exact hk
    refine Ord.St.ef 11 [12, 13] _ rfl (by kernel_rfl) (fun K hK => ?_)
    have z0 := hb9.cell (i := 0) rfl
    have z1 := hb9.cell (i := 1) rfl
    have g0 := hb9.frozen (i := 0)
    have g1 := hb9.frozen (i := 1)
    have HRG := Lib.hid hrg; clear hrg
    have HB9 := Lib.hid hb9; clear hb9
    go_wp2_with fail
    refine ⟨rfl, hK _ _ ?_⟩; clear hK K
    refine Ord.St.fl2 (T' := ?_) 12 [13] _ _ rfl (by kernel_rfl) rfl rfl rfl rfl (fun K w' hk => ?_) ?_
    rotate_left
    · go_step; exact hk
    refine Ord.St.fl2 (T' := ?_) 13 [] _ _ rfl (by kernel_rfl) rfl rfl rfl rfl (fun K w' hk => ?_) ?_
    rotate_left
    · go_step; exact hk
    refine Ord.St.nil ?_
    go_upto_region 2 with fail
    refine wp_alw ?_
    intro W6 hW6
    have hb9 : blk W6 b9 [.int .i64 R.1.most, .slice (some ⟨rb', 0, none⟩) R.1.nodes.length cap'] := by rw [hW6]; exact (HB9.out.set (i := 0) _).set (i := 1) _
    have hc9 := set2_ch hW6
    have hc6 := hcur.trans hc9 (fun k hk => .inr (by simp at hk; omega))
    have hr6 := HRG.out.ch hc9 (by simpa using hne)
    have b2 := B2.out.ch hc6 (by simp)
    have b4 := B4.out.ch hc6 (by simp)
    have c06 := HC0.out.trans hc6 (by simp)
    have x0 := hb9.cell (i := 0) rfl
    have x1 := hb9.cell (i := 1) rfl
    have y0 := b2.cell (i := 0) rfl
    have y1 := b2.cell (i := 1) rfl
    have v0 := b4.cell (i := 0) rfl
    have v1 := b4.cell (i := 1) rfl
    have f0 := b4.frozen (i := 0)
    have f1 := b4.frozen (i := 1)
    have HR6 := Lib.hid hr6; clear hr6
    have C06 := Lib.hid c06; clear c06
    have FR0 := Lib.hid hfr0; clear hfr0
    clear hW6 HRG HB9 hb9 hc9 hc6 z0 z1 g0 g1 b2 b4 hcur
    rcases O4.out with he | he
    · have q : ((R.2.2 : Int) != 0) = false := by simp [he]
      have hro := HRO.out
      rw [if_neg (by simp [he])] at hro
      have HRO2 := Lib.hid hro; clear hro he
      go_wp2_with fail
      refine Ord.St.door (fun _ => True) [.rd, .fl, .fl, .ef, .fl, .fl] [0, 0, 2, 7, 15, 31] [0, 1, 2, 3, 4, 5] mixed (by kernel_rfl) rfl ?_
      refine Ord.St.rd2 (T' := ?_) 0 [1, 2, 3, 4, 5] _ _ rfl (by kernel_rfl) rfl rfl rfl rfl (fun K hk => ?_) ?_
      rotate_left
      · go_step; exact hk
      refine Ord.St.fl2 (T' := ?_) 1 [2, 3, 4, 5] _ _ rfl (by kernel_rfl) rfl rfl rfl rfl (fun K w' hk => ?_) ?_
      rotate_left
      · go_step; exact hk
      refine Ord.St.fl2 (T' := ?_) 2 [3, 4, 5] _ _ rfl (by kernel_rfl) rfl rfl rfl rfl (fun K w' hk => ?_) ?_
      rotate_left
      · go_step; refine (HNR.out _).mono ?_; rintro e w'' ⟨rfl, rfl⟩; exact hk
      refine Ord.St.ef 3 [4, 5] _ rfl (by kernel_rfl) (fun K hK => ?_)
      go_wp2_with fail
      refine ⟨rfl, hK _ _ ?_⟩; clear hK K
      refine Ord.St.fl2 (T' := ?_) 4 [5] _ _ rfl (by kernel_rfl) rfl rfl rfl rfl (fun K w' hk => ?_) ?_
      rotate_left
      · go_step; exact hk
      refine Ord.St.fl2 (T' := ?_) 5 [] _ _ rfl (by kernel_rfl) rfl rfl rfl rfl (fun K w' hk => ?_) ?_
      rotate_left
      · go_step; exact hk
      refine Ord.St.nil ?_
      go_wp2_with fail
      have hcc : Ch [w.heap.size + 1] W6 ((W6.setCell ⟨w.heap.size + 1, 0, none⟩ (.int .i64 R.1.most)).setCell ⟨w.heap.size + 1, 1, none⟩ (.slice (some ⟨rb', 0, none⟩) R.1.nodes.length cap')).drew := (((Ch.refl _ _).setCell (by simp) _).setCell (by simp) _).drew
      refine bodyPost_ret (v := .tuple #[.agg #[.int .i64 R.1.most, .slice (some ⟨rb', 0, none⟩) R.1.nodes.length cap'], .int .i64 (neg R.2.1 : Nat), .int .i64 0]) (by simp [results, Tryz.results355, go_sem, v0, v1]) rfl ?_
      rw [HRO2.out]
      exact ⟨rb', cap', rfl, HR6.out.ch hcc (by simpa using hfr4), C06.out.trans hcc (fun k hk => .inr (by simp at hk; omega)), FR0.out⟩
    · have q : ((R.2.2 : Int) != 0) = true := by simp [he]
      have hro := HRO.out
      rw [if_pos (by simp [he])] at hro
      have HRO2 := Lib.hid hro; clear hro he
      go_wp2_with fail
      have hcc : Ch [w.heap.size + 1] W6 ((W6.setCell ⟨w.heap.size + 1, 0, none⟩ (.int .i64 G.most)).setCell ⟨w.heap.size + 1, 1, none⟩ (.slice (some ⟨rb, 0, none⟩) G.nodes.length cap)) := ((Ch.refl _ _).setCell (by simp) _).setCell (by simp) _
      refine bodyPost_ret (v := .tuple #[.agg #[.int .i64 G.most, .slice (some ⟨rb, 0, none⟩) G.nodes.length cap], .int .i64 0, .int .i64 R.2.2]) (by simp [results, Tryz.results355, go_sem, v0, v1]) rfl ?_
      rw [HRO2.out]
      exact RTo.self H.out (C06.out.trans hcc (fun k hk => .inr (by simp at hk; omega))) 0 R.2.2
end
end Go.Proofs.YtehljgigebhddaaGreat
namespace Go.Aig
def rThen (G : Gra) (X : Res) (Y : Res) : Res := if X.2.2 ≠ 0 then (G, 0, X.2.2) else Y
def rMux (G : Gra) (c a b : Nat) : Res :=
  rThen G (and G c a) (rThen G (and (and G c a).1 (neg c) b) (rThen G (rOr (and (and G c a).1 (neg c) b).1 (and G c a).2.1 (and (and G c a).1 (neg c) b).2.1) ((rOr (and (and G c a).1 (neg c) b).1 (and G c a).2.1 (and (and G c a).1 (neg c) b).2.1).1, (rOr (and (and G c a).1 (neg c) b).1 (and G c a).2.1 (and (and G c a).1 (neg c) b).2.1).2.1, 0)))
def rXor (G : Gra) (a b : Nat) : Res := rMux G a (neg b) b
structure ROk (G : Gra) (R : Res) : Prop where
  ok : Ok R.1
  ext : Ext G R.1
  lt : R.2.1 < 2 * R.1.nodes.length
  err : R.2.2 = 0 ∨ R.2.2 = 201
theorem and_rok {G : Gra} (h : Ok G) {a b : Nat} (ha : a < 2 * G.nodes.length) (hb : b < 2 * G.nodes.length) : ROk G (and G a b) := by
  obtain ⟨h1, h2, h3, h4⟩ := and_ok h ha hb
  exact ⟨h1, h2, h3, h4⟩
theorem rOr_rok {G : Gra} (h : Ok G) {a b : Nat} (ha : a < 2 * G.nodes.length) (hb : b < 2 * G.nodes.length) : ROk G (rOr G a b) := by
  obtain ⟨h1, h2, h3, h4⟩ := rOr_ok h ha hb
  exact ⟨h1, h2, h3, h4⟩
theorem rThen_rok {G : Gra} (h : Ok G) {X Y : Res} (hX : ROk G X) (hY : ROk X.1 Y ∨ ROk G Y) : ROk G (rThen G X Y) := by
  have := h.wf.pos
  unfold rThen
  split
  · exact ⟨h, .refl _, by show 0 < 2 * G.nodes.length; omega, hX.err⟩
  · rcases hY with h | h
    · exact ⟨h.ok, hX.ext.trans h.ext, h.lt, h.err⟩
    · exact h
theorem ROk.zero {G : Gra} {R : Res} (h : ROk G R) : ROk G (R.1, R.2.1, 0) := ⟨h.ok, h.ext, h.lt, .inl rfl⟩
theorem rMux_rok {G : Gra} (h : Ok G) {c a b : Nat} (hc : c < 2 * G.nodes.length) (ha : a < 2 * G.nodes.length) (hb : b < 2 * G.nodes.length) : ROk G (rMux G c a b) := by
  have h1 := and_rok h hc ha
  have h2 := and_rok h1.ok (h1.ext.lt (neg_lt hc)) (h1.ext.lt hb)
  have h3 := rOr_rok h2.ok (h2.ext.lt h1.lt) h2.lt
  have e12 := h1.ext.trans h2.ext
  unfold rMux
  refine rThen_rok h h1 (.inr ?_)
  refine rThen_rok h ⟨h2.ok, e12, h2.lt, h2.err⟩ (.inr ?_)
  have h4 : ROk G (rOr (and (and G c a).1 (neg c) b).1 (and G c a).2.1 (and (and G c a).1 (neg c) b).2.1) := ⟨h3.ok, e12.trans h3.ext, h3.lt, h3.err⟩
  exact rThen_rok h h4 (.inr h4.zero)
end Go.Aig
namespace Go.Proofs.YtehljgigebhddaaGreat
open Go.RowKit Go.Mem Go.Aig
theorem rThen_bad {G : Gra} {X Y : Res} (h : X.2.2 = 201) : rThen G X Y = (G, 0, X.2.2) := by unfold rThen; rw [if_pos (by rw [h]; simp)]
theorem rThen_good {G : Gra} {X Y : Res} (h : X.2.2 = 0) : rThen G X Y = Y := by unfold rThen; rw [if_neg (by rw [h]; simp)]
section
set_option maxRecDepth 100000 in
set_option maxHeartbeats 4000000 in
theorem rMux_is {w : World} {rb cap : Nat} {G : Gra} (h : RG w rb cap G) {c a b : Nat} (hc : c < 2 * G.nodes.length) (ha : a < 2 * G.nodes.length) (hb : b < 2 * G.nodes.length) : Calls Tryz.prog 346 #[.agg #[.int .i64 G.most, .slice (some ⟨rb, 0, none⟩) G.nodes.length cap], .int .i64 c, .int .i64 a, .int .i64 b] w (RTo w rb (rMux G c a b)) := by
  obtain ⟨hl, hp, hmo⟩ := h.len
  have hle := h.le
  have hmx := h.mx
  have hrb := h.lt
  have o1 := and_rok h.ok hc ha
  have o2 := and_rok o1.ok (o1.ext.lt (neg_lt hc)) (o1.ext.lt hb)
  have o3 := rOr_rok o2.ok (o2.ext.lt o1.lt) o2.lt
  have hN := fun (W : World) => rNot_is W c (by omega)
  have HN := Lib.hid hN; clear hN
  have hA1 := fun (W : World) (hW : Ch [] w W) => rAnd_is (h.ch hW (by simp)) hc ha
  have hA2 := fun (W : World) (r k : Nat) (hr : RG W r k (Aig.and G c a).1) => rAnd_is hr (o1.ext.lt (neg_lt hc)) (o1.ext.lt hb)
  have hA3 := fun (W : World) (r k : Nat) (hr : RG W r k (Aig.and (Aig.and G c a).1 (neg c) b).1) => rOr_is hr (o2.ext.lt o1.lt) o2.lt
  have hro : rMux G c a b = rThen G (Aig.and G c a) (rThen G (Aig.and (Aig.and G c a).1 (neg c) b) (rThen G (rOr (Aig.and (Aig.and G c a).1 (neg c) b).1 (Aig.and G c a).2.1 (Aig.and (Aig.and G c a).1 (neg c) b).2.1) ((rOr (Aig.and (Aig.and G c a).1 (neg c) b).1 (Aig.and G c a).2.1 (Aig.and (Aig.and G c a).1 (neg c) b).2.1).1, (rOr (Aig.and (Aig.and G c a).1 (neg c) b).1 (Aig.and G c a).2.1 (Aig.and (Aig.and G c a).1 (neg c) b).2.1).2.1, 0))) := rfl
  generalize Aig.and G c a = X at *
  generalize neg c = nc at *
  generalize Aig.and X.1 nc b = Y at *
  generalize rOr Y.1 X.2.1 Y.2.1 = Z at *
  generalize rMux G c a b = RO at *
  have E1 := Lib.hid o1.err
  have E2 := Lib.hid o2.err
  have E3 := Lib.hid o3.err
  clear o1 o2 o3
  have HRO := Lib.hid hro; clear hro
  have HA1 := Lib.hid hA1; clear hA1
  have HA2 := Lib.hid hA2; clear hA2
  have HA3 := Lib.hid hA3; clear hA3
  have H := Lib.hid h; clear h
  go_enter Tryz.func346, Tryz.ntmps346
  go_wp2_with fail
  have hcx : Ch [] w ((w.alloc (.cells #[.int .i64 G.most, .slice (some ⟨rb, 0, none⟩) G.nodes.length cap] 123)).alloc (.cells #[.int .i64 0, .slice none 0 0] 123)) := ((Ch.refl _ _).alloc _).alloc _
  have hb2 : blk ((w.alloc (.cells #[.int .i64 G.most, .slice (some ⟨rb, 0, none⟩) G.nodes.length cap] 123)).alloc (.cells #[.int .i64 0, .slice none 0 0] 123)) w.heap.size [.int .i64 G.most, .slice (some ⟨rb, 0, none⟩) G.nodes.length cap] := (blk.new' (w := w) [.int .i64 G.most, .slice (some ⟨rb, 0, none⟩) G.nodes.length cap] 123 rfl).alloc _
  have hb4 : blk ((w.alloc (.cells #[.int .i64 G.most, .slice (some ⟨rb, 0, none⟩) G.nodes.length cap] 123)).alloc (.cells #[.int .i64 0, .slice none 0 0] 123)) (w.heap.size + 1) [.int .i64 0, .slice none 0 0] := blk.new' [.int .i64 0, .slice none 0 0] 123 (by simp)
  have HA := Lib.hid (HA1.out _ hcx)
  have HCX := Lib.hid hcx; clear hcx
  have HB2 := Lib.hid hb2; clear hb2
  have HB4 := Lib.hid hb4; clear hb4
  refine HA.out.mono ?_
  rintro e w5 ⟨rb1, cap1, rfl, hrg, hch, hfr⟩
  have hr1 : rb1 = rb ∨ w.heap.size + 1 < rb1 := hfr.imp id (fun e => by have := HB4.out.lt; omega)
  have HRG := Lib.hid hrg; clear hrg
  have HCH := Lib.hid hch; clear hch
  clear HA HA1 hfr
  go_upto_region 2 with fail
  refine wp_alw ?_
  intro W6 hW6
  have hbX := alw_blk (xs := [.int .i64 X.1.most, .slice (some ⟨rb1, 0, none⟩) X.1.nodes.length cap1]) hW6
  have hnX := rg_ne HRG.out
  have hrX := HRG.out.ch (alw_ch hW6) (by simp)
  have hc56 := alw_ch hW6
  have hc6 := (HCX.out.trans HCH.out (by simp)).trans hc56 (by simp)
  have b2 := (HB2.out.ch HCH.out (by simp)).ch hc56 (by simp)
  have b4 := (HB4.out.ch HCH.out (by simp)).ch hc56 (by simp)
  have hlo5 : w.heap.size + 1 < w5.heap.size := (HB4.out.ch HCH.out (by simp)).lt
  clear hW6 hc56 HRG HCH HCX HB2 HB4
  generalize w5.heap.size = b5 at *
  have x0 := hbX.cell (i := 0) rfl
  have x1 := hbX.cell (i := 1) rfl
  have y0 := b2.cell (i := 0) rfl
  have y1 := b2.cell (i := 1) rfl
  have v0 := b4.cell (i := 0) rfl
  have v1 := b4.cell (i := 1) rfl
  have f0 := b4.frozen (i := 0)
  have f1 := b4.frozen (i := 1)
  have BX := Lib.hid hbX; clear hbX
  have B2 := Lib.hid b2; clear b2
  have B4 := Lib.hid b4; clear b4
  have RX := Lib.hid hrX; clear hrX
  have HC6 := Lib.hid hc6; clear hc6
  rcases E1.out with he | he
  rotate_left
  · have q : ((X.2.2 : Int) != 0) = true := by simp [he]
    have hro := HRO.out
    rw [rThen_bad he] at hro
    have HRO2 := Lib.hid hro; clear hro he HRO
    go_wp2_with fail
    have hcc := set2_ch (w := W6) (b := w.heap.size + 1) (u := .int .i64 G.most) (v := .slice (some ⟨rb, 0, none⟩) G.nodes.length cap) rfl
    refine bodyPost_ret (v := .tuple #[.agg #[.int .i64 G.most, .slice (some ⟨rb, 0, none⟩) G.nodes.length cap], .int .i64 0, .int .i64 X.2.2]) (by simp [results, Tryz.results346, go_sem, v0, v1]) rfl ?_
    rw [HRO2.out]
    exact RTo.self H.out (HC6.out.trans hcc (fun k hk => .inr (by simp at hk; omega))) 0 X.2.2
  · have q : ((X.2.2 : Int) != 0) = false := by simp [he]
    have hro := HRO.out
    rw [rThen_good he] at hro
    have HRO2 := Lib.hid hro; clear hro he HRO
    go_wp2_with fail
    clear x0 x1 y0 y1 v0 v1 f0 f1 q
    refine Ord.St.door (fun w' => Ch [] W6 w') [.ho, .fl, .fl, .fl, .ef, .fl, .fl, .fl, .fl, .ef, .ef, .fl, .fl] [0, 0, 2, 0, 15, 31, 63, 63, 63, 0, 639, 1791, 4095] [0, 1, 2, 3, 4, 5, 6, 7, 8, 9, 10, 11, 12] mixed (by kernel_rfl) rfl ?_
    obtain ⟨Wc, hWc⟩ : ∃ Wc, Wc = W6.drew := ⟨_, rfl⟩
    rw [← hWc]
    have hcur : Ch [] W6 Wc := by rw [hWc]; exact (Ch.refl _ _).drew
    clear hWc
    refine Ord.St.ho2 (T' := ?_) 0 [1, 2, 3, 4, 5, 6, 7, 8, 9, 10, 11, 12] _ _ rfl (by kernel_rfl) rfl rfl rfl rfl ?_ (fun K w' hw' hk => ?_) ?_
    rotate_left
    · trivial
    · have y0 := (BX.out.ch hw' (by simp)).cell (i := 0) rfl; have y1 := (BX.out.ch hw' (by simp)).cell (i := 1) rfl; go_step; exact hk
    refine Ord.St.fl2 (T' := ?_) 1 [2, 3, 4, 5, 6, 7, 8, 9, 10, 11, 12] _ _ rfl (by kernel_rfl) rfl rfl rfl rfl (fun K w' hk => ?_) ?_
    rotate_left
    · go_step; exact hk
    refine Ord.St.fl2 (T' := ?_) 2 [3, 4, 5, 6, 7, 8, 9, 10, 11, 12] _ _ rfl (by kernel_rfl) rfl rfl rfl rfl (fun K w' hk => ?_) ?_
    rotate_left
    · go_step; refine (HN.out _).mono ?_; rintro e w'' ⟨rfl, rfl⟩; exact hk
    refine Ord.St.fl2 (T' := ?_) 3 [4, 5, 6, 7, 8, 9, 10, 11, 12] _ _ rfl (by kernel_rfl) rfl rfl rfl rfl (fun K w' hk => ?_) ?_
    rotate_left
    · go_step; exact hk
    refine Ord.St.two 4 9 [5, 6, 7, 8, 9, 10, 11, 12] [4, 5, 6, 7, 8, 10, 11, 12] _ _ (by kernel_rfl) rfl rfl (by kernel_rfl) (by kernel_rfl) (fun K hK => ?_) (fun K hK => ?_)
    · have HA := Lib.hid (HA2.out _ _ _ (RX.out.ch hcur (by simp)))
      go_wp2_with fail
      refine HA.out.mono ?_
      rintro e w7 ⟨rb2, cap2, rfl, hrg, hch, hfr⟩
      go_wp2_with fail
      refine ⟨rfl, hK _ _ ?_ ?_⟩
      · exact hcur.trans hch (by simp)
      clear hK K
      try have hne := rto_ne hb9 (by have := hs9; have := RX.out.lt; omega) hfr
      try replace hb9 := hb9.ch hch (by simp)
      have hfr4 : rb2 ≠ w.heap.size + 1 := by have := B4.out.lt; have := hcur.size; rcases hfr with e | e <;> omega
      have hr2 : rb2 = rb ∨ w.heap.size + 1 < rb2 := by have := B4.out.lt; have := hcur.size; rcases hfr with e | e <;> omega
      replace hcur := hcur.trans hch (by simp)
      clear hch hfr HA
      refine Ord.St.fl2 (T' := ?_) 5 [6, 7, 8, 9, 10, 11, 12] _ _ rfl (by kernel_rfl) rfl rfl rfl rfl (fun K w' hk => ?_) ?_
      rotate_left
      · go_step; exact hk
      refine Ord.St.fl2 (T' := ?_) 6 [7, 8, 9, 10, 11, 12] _ _ rfl (by kernel_rfl) rfl rfl rfl rfl (fun K w' hk => ?_) ?_
      rotate_left
      · go_step; exact hk
      refine Ord.St.fl2 (T' := ?_) 7 [8, 9, 10, 11, 12] _ _ rfl (by kernel_rfl) rfl rfl rfl rfl (fun K w' hk => ?_) ?_
      rotate_left
      · go_step; exact hk
      refine Ord.St.fl2 (T' := ?_) 8 [9, 10, 11, 12] _ _ rfl (by kernel_rfl) rfl rfl rfl rfl (fun K w' hk => ?_) ?_
      rotate_left
      · go_step; exact hk
      refine Ord.St.efC 9 [10, 11, 12] _ rfl (by kernel_rfl) (fun K hK => ?_)
      go_wp2_with fail
      refine ⟨rfl, hK _ _ ?_ ?_⟩
      · exact hcur.alloc _
      clear hK K
      refine Ord.St.alw ?_; intro Wn hWn
      have hb9 := alw_blk (xs := [.int .i64 0, .slice none 0 0]) hWn
      have hs9 := hcur.size
      try have hne := rg_ne hrg
      try replace hrg := hrg.ch (alw_ch hWn) (by simp)
      replace hcur := hcur.trans (alw_ch hWn) (by simp)
      clear hWn
      first | (have _t := hrg; clear _t; generalize w7.heap.size = b9 at *) | generalize Wc.heap.size = b9 at *
      refine Ord.St.ef 10 [11, 12] _ rfl (by kernel_rfl) (fun K hK => ?_)
      have z0 := hb9.cell (i := 0) rfl
      have z1 := hb9.cell (i := 1) rfl
      have g0 := hb9.frozen (i := 0)
      have g1 := hb9.frozen (i := 1)
      have HRG := Lib.hid hrg; clear hrg
      have HB9 := Lib.hid hb9; clear hb9
      go_wp2_with fail
      refine ⟨rfl, hK _ _ ?_⟩; clear hK K
      refine Ord.St.fl2 (T' := ?_) 11 [12] _ _ rfl (by kernel_rfl) rfl rfl rfl rfl (fun K w' hk => ?_) ?_
      rotate_left
      · go_step; exact hk
      refine Ord.St.fl2 (T' := ?_) 12 [] _ _ rfl (by kernel_rfl) rfl rfl rfl rfl (fun K w' hk => ?_) ?_
      rotate_left
      · go_step; exact hk
      refine Ord.St.nil ?_
      go_upto_region 5 with fail
      refine wp_alw ?_
      intro W8 hW8
      have hbY : blk W8 b9 [.int .i64 Y.1.most, .slice (some ⟨rb2, 0, none⟩) Y.1.nodes.length cap2] := by rw [hW8]; exact (HB9.out.set (i := 0) _).set (i := 1) _
      have hc9 := set2_ch hW8
      have hc68 := hcur.trans hc9 (fun k hk => .inr (by simp at hk; omega))
      have hrY := HRG.out.ch hc9 (by simpa using hne)
      have b2 := B2.out.ch hc68 (by simp)
      have b4 := B4.out.ch hc68 (by simp)
      have hc8 := HC6.out.trans hc68 (by simp)
      have x0 := hbY.cell (i := 0) rfl
      have x1 := hbY.cell (i := 1) rfl
      have y0 := b2.cell (i := 0) rfl
      have y1 := b2.cell (i := 1) rfl
      have v0 := b4.cell (i := 0) rfl
      have v1 := b4.cell (i := 1) rfl
      have f0 := b4.frozen (i := 0)
      have f1 := b4.frozen (i := 1)
      have RY := Lib.hid hrY; clear hrY
      have HC8 := Lib.hid hc8; clear hc8
      have BB2 := Lib.hid b2; clear b2
      have BB4 := Lib.hid b4; clear b4
      clear hW8 HRG HB9 hbY hc9 hc68 z0 z1 g0 g1 hcur BX B2 B4 RX
      rcases E2.out with he | he
      rotate_left
      · have q : ((Y.2.2 : Int) != 0) = true := by simp [he]
        have hro := HRO2.out
        rw [rThen_bad he] at hro
        have HRO3 := Lib.hid hro; clear hro he HRO2
        go_wp2_with fail
        have hcc := set2_ch (w := W8) (b := w.heap.size + 1) (u := .int .i64 G.most) (v := .slice (some ⟨rb, 0, none⟩) G.nodes.length cap) rfl
        refine bodyPost_ret (v := .tuple #[.agg #[.int .i64 G.most, .slice (some ⟨rb, 0, none⟩) G.nodes.length cap], .int .i64 0, .int .i64 Y.2.2]) (by simp [results, Tryz.results346, go_sem, v0, v1]) rfl ?_
        rw [HRO3.out]
        exact RTo.self H.out (HC8.out.trans hcc (fun k hk => .inr (by simp at hk; omega))) 0 Y.2.2
      · have q : ((Y.2.2 : Int) != 0) = false := by simp [he]
        have hro := HRO2.out
        rw [rThen_good he] at hro
        have HRO3 := Lib.hid hro; clear hro he HRO2
        have HA := Lib.hid (HA3.out _ _ _ RY.out)
        go_wp2_with fail
        refine HA.out.mono ?_
        rintro e w9 ⟨rb3, cap3, rfl, hrg, hch, hfr⟩
        have b2 := BB2.out.ch hch (by simp)
        have b4 := BB4.out.ch hch (by simp)
        have hr3 : rb3 = rb ∨ w.heap.size + 1 < rb3 := by have := BB4.out.lt; rcases hfr with e | e <;> omega
        have hc09 := HC8.out.trans hch (by simp)
        clear x0 x1 y0 y1 v0 v1 f0 f1 q hch hfr HA
        have HC9 := Lib.hid hc09; clear hc09
        have HRG := Lib.hid hrg; clear hrg
        go_upto_region 8 with fail
        refine wp_alw ?_
        intro Wx hWx
        have hbZ := alw_blk (xs := [.int .i64 Z.1.most, .slice (some ⟨rb3, 0, none⟩) Z.1.nodes.length cap3]) hWx
        have hrZ := HRG.out.ch (alw_ch hWx) (by simp)
        replace b2 := b2.ch (alw_ch hWx) (by simp)
        replace b4 := b4.ch (alw_ch hWx) (by simp)
        have hcx := HC9.out.trans (alw_ch hWx) (by simp)
        clear hWx HC9 HRG
        generalize w9.heap.size = bx at *
        have x0 := hbZ.cell (i := 0) rfl
        have x1 := hbZ.cell (i := 1) rfl
        have y0 := b2.cell (i := 0) rfl
        have y1 := b2.cell (i := 1) rfl
        have v0 := b4.cell (i := 0) rfl
        have v1 := b4.cell (i := 1) rfl
        have f0 := b4.frozen (i := 0)
        have f1 := b4.frozen (i := 1)
        have HCX := Lib.hid hcx; clear hcx
        have RZ := Lib.hid hrZ; clear hrZ
        clear b2 b4 hbZ
        rcases E3.out with he | he
        · have q : ((Z.2.2 : Int) != 0) = false := by simp [he]
          have hro := HRO3.out
          rw [rThen_good he] at hro
          have HRO4 := Lib.hid hro; clear hro he HRO3
          go_wp2_with fail
          have hcc := set2_ch (w := Wx) (b := w.heap.size + 1) (u := .int .i64 Z.1.most) (v := .slice (some ⟨rb3, 0, none⟩) Z.1.nodes.length cap3) rfl
          refine bodyPost_ret (v := .tuple #[.agg #[.int .i64 Z.1.most, .slice (some ⟨rb3, 0, none⟩) Z.1.nodes.length cap3], .int .i64 Z.2.1, .int .i64 0]) (by simp [results, Tryz.results346, go_sem, v0, v1]) rfl ?_
          rw [HRO4.out]
          exact ⟨rb3, cap3, rfl, RZ.out.ch hcc (by simp; omega), HCX.out.trans hcc (fun k hk => .inr (by simp at hk; omega)), by omega⟩
        · have q : ((Z.2.2 : Int) != 0) = true := by simp [he]
          have hro := HRO3.out
          rw [rThen_bad he] at hro
          have HRO4 := Lib.hid hro; clear hro he HRO3
          go_wp2_with fail
          have hcc := set2_ch (w := Wx) (b := w.heap.size + 1) (u := .int .i64 G.most) (v := .slice (some ⟨rb, 0, none⟩) G.nodes.length cap) rfl
          refine bodyPost_ret (v := .tuple #[.agg #[.int .i64 G.most, .slice (some ⟨rb, 0, none⟩) G.nodes.length cap], .int .i64 0, .int .i64 Z.2.2]) (by simp [results, Tryz.results346, go_sem, v0, v1]) rfl ?_
          rw [HRO4.out]
          exact RTo.self H.out (HCX.out.trans hcc (fun k hk => .inr (by simp at hk; omega))) 0 Z.2.2
    · go_wp2_with fail
      refine ⟨rfl, hK _ _ ?_ ?_⟩
      · exact hcur.alloc _
      clear hK K
      refine Ord.St.alw ?_; intro Wn hWn
      have hb9 := alw_blk (xs := [.int .i64 0, .slice none 0 0]) hWn
      have hs9 := hcur.size
      try have hne := rg_ne hrg
      try replace hrg := hrg.ch (alw_ch hWn) (by simp)
      replace hcur := hcur.trans (alw_ch hWn) (by simp)
      clear hWn
      first | (have _t := hrg; clear _t; generalize w7.heap.size = b9 at *) | generalize Wc.heap.size = b9 at *
      refine Ord.St.ef 4 [5, 6, 7, 8, 10, 11, 12] _ rfl (by kernel_rfl) (fun K hK => ?_)
      have HA := Lib.hid (HA2.out _ _ _ (RX.out.ch hcur (by simp)))
      go_wp2_with fail
      refine HA.out.mono ?_
      rintro e w7 ⟨rb2, cap2, rfl, hrg, hch, hfr⟩
      go_wp2_with fail
      refine ⟨rfl, hK _ _ ?_⟩; clear hK K
      try have hne := rto_ne hb9 (by have := hs9; have := RX.out.lt; omega) hfr
      try replace hb9 := hb9.ch hch (by simp)
      have hfr4 : rb2 ≠ w.heap.size + 1 := by have := B4.out.lt; have := hcur.size; rcases hfr with e | e <;> omega
      have hr2 : rb2 = rb ∨ w.heap.size + 1 < rb2 := by have := B4.out.lt; have := hcur.size; rcases hfr with e | e <;> omega
      replace hcur := hcur.trans hch (by simp)
      clear hch hfr HA
      refine Ord.St.fl2 (T' := ?_) 5 [6, 7, 8, 10, 11, 12] _ _ rfl (by kernel_rfl) rfl rfl rfl rfl (fun K w' hk => ?_) ?_
      rotate_left
      · go_step; exact hk
      refine Ord.St.fl2 (T' := ?_) 6 [7, 8, 10, 11, 12] _ _ rfl (by kernel_rfl) rfl rfl rfl rfl (fun K w' hk => ?_) ?_
      rotate_left
      · go_step; exact hk
      refine Ord.St.fl2 (T' := ?_) 7 [8, 10, 11, 12] _ _ rfl (by kernel_rfl) rfl rfl rfl rfl (fun K w' hk => ?_) ?_
      rotate_left
      · go_step; exact hk
      refine Ord.St.fl2 (T' := ?_) 8 [10, 11, 12] _ _ rfl (by kernel_rfl) rfl rfl rfl rfl (fun K w' hk => ?_) ?_
      rotate_left
      · go_step; exact hk
      refine Ord.St.ef 10 [11, 12] _ rfl (by kernel_rfl) (fun K hK => ?_)
      have z0 := hb9.cell (i := 0) rfl
      have z1 := hb9.cell (i := 1) rfl
      have g0 := hb9.frozen (i := 0)
      have g1 := hb9.frozen (i := 1)
      have HRG := Lib.hid hrg; clear hrg
      have HB9 := Lib.hid hb9; clear hb9
      go_wp2_with fail
      refine ⟨rfl, hK _ _ ?_⟩; clear hK K
      refine Ord.St.fl2 (T' := ?_) 11 [12] _ _ rfl (by kernel_rfl) rfl rfl rfl rfl (fun K w' hk => ?_) ?_
      rotate_left
      · go_step; exact hk
      refine Ord.St.fl2 (T' := ?_) 12 [] _ _ rfl (by kernel_rfl) rfl rfl rfl rfl (fun K w' hk => ?_) ?_
      rotate_left
      · go_step; exact hk
      refine Ord.St.nil ?_
      go_upto_region 5 with fail
      refine wp_alw ?_
      intro W8 hW8
      have hbY : blk W8 b9 [.int .i64 Y.1.most, .slice (some ⟨rb2, 0, none⟩) Y.1.nodes.length cap2] := by rw [hW8]; exact (HB9.out.set (i := 0) _).set (i := 1) _
      have hc9 := set2_ch hW8
      have hc68 := hcur.trans hc9 (fun k hk => .inr (by simp at hk; omega))
      have hrY := HRG.out.ch hc9 (by simpa using hne)
      have b2 := B2.out.ch hc68 (by simp)
      have b4 := B4.out.ch hc68 (by simp)
      have hc8 := HC6.out.trans hc68 (by simp)
      have x0 := hbY.cell (i := 0) rfl
      have x1 := hbY.cell (i := 1) rfl
      have y0 := b2.cell (i := 0) rfl
      have y1 := b2.cell (i := 1) rfl
      have v0 := b4.cell (i := 0) rfl
      have v1 := b4.cell (i := 1) rfl
      have f0 := b4.frozen (i := 0)
      have f1 := b4.frozen (i := 1)
      have RY := Lib.hid hrY; clear hrY
      have HC8 := Lib.hid hc8; clear hc8
      have BB2 := Lib.hid b2; clear b2
      have BB4 := Lib.hid b4; clear b4
      clear hW8 HRG HB9 hbY hc9 hc68 z0 z1 g0 g1 hcur BX B2 B4 RX
      rcases E2.out with he | he
      rotate_left
      · have q : ((Y.2.2 : Int) != 0) = true := by simp [he]
        have hro := HRO2.out
        rw [rThen_bad he] at hro
        have HRO3 := Lib.hid hro; clear hro he HRO2
        go_wp2_with fail
        have hcc := set2_ch (w := W8) (b := w.heap.size + 1) (u := .int .i64 G.most) (v := .slice (some ⟨rb, 0, none⟩) G.nodes.length cap) rfl
        refine bodyPost_ret (v := .tuple #[.agg #[.int .i64 G.most, .slice (some ⟨rb, 0, none⟩) G.nodes.length cap], .int .i64 0, .int .i64 Y.2.2]) (by simp [results, Tryz.results346, go_sem, v0, v1]) rfl ?_
        rw [HRO3.out]
        exact RTo.self H.out (HC8.out.trans hcc (fun k hk => .inr (by simp at hk; omega))) 0 Y.2.2
      · have q : ((Y.2.2 : Int) != 0) = false := by simp [he]
        have hro := HRO2.out
        rw [rThen_good he] at hro
        have HRO3 := Lib.hid hro; clear hro he HRO2
        have HA := Lib.hid (HA3.out _ _ _ RY.out)
        go_wp2_with fail
        refine HA.out.mono ?_
        rintro e w9 ⟨rb3, cap3, rfl, hrg, hch, hfr⟩
        have b2 := BB2.out.ch hch (by simp)
        have b4 := BB4.out.ch hch (by simp)
        have hr3 : rb3 = rb ∨ w.heap.size + 1 < rb3 := by have := BB4.out.lt; rcases hfr with e | e <;> omega
        have hc09 := HC8.out.trans hch (by simp)
        clear x0 x1 y0 y1 v0 v1 f0 f1 q hch hfr HA
        have HC9 := Lib.hid hc09; clear hc09
        have HRG := Lib.hid hrg; clear hrg
        go_upto_region 8 with fail
        refine wp_alw ?_
        intro Wx hWx
        have hbZ := alw_blk (xs := [.int .i64 Z.1.most, .slice (some ⟨rb3, 0, none⟩) Z.1.nodes.length cap3]) hWx
        have hrZ := HRG.out.ch (alw_ch hWx) (by simp)
        replace b2 := b2.ch (alw_ch hWx) (by simp)
        replace b4 := b4.ch (alw_ch hWx) (by simp)
        have hcx := HC9.out.trans (alw_ch hWx) (by simp)
        clear hWx HC9 HRG
        generalize w9.heap.size = bx at *
        have x0 := hbZ.cell (i := 0) rfl
        have x1 := hbZ.cell (i := 1) rfl
        have y0 := b2.cell (i := 0) rfl
        have y1 := b2.cell (i := 1) rfl
        have v0 := b4.cell (i := 0) rfl
        have v1 := b4.cell (i := 1) rfl
        have f0 := b4.frozen (i := 0)
        have f1 := b4.frozen (i := 1)
        have HCX := Lib.hid hcx; clear hcx
        have RZ := Lib.hid hrZ; clear hrZ
        clear b2 b4 hbZ
        rcases E3.out with he | he
        · have q : ((Z.2.2 : Int) != 0) = false := by simp [he]
          have hro := HRO3.out
          rw [rThen_good he] at hro
          have HRO4 := Lib.hid hro; clear hro he HRO3
          go_wp2_with fail
          have hcc := set2_ch (w := Wx) (b := w.heap.size + 1) (u := .int .i64 Z.1.most) (v := .slice (some ⟨rb3, 0, none⟩) Z.1.nodes.length cap3) rfl
          refine bodyPost_ret (v := .tuple #[.agg #[.int .i64 Z.1.most, .slice (some ⟨rb3, 0, none⟩) Z.1.nodes.length cap3], .int .i64 Z.2.1, .int .i64 0]) (by simp [results, Tryz.results346, go_sem, v0, v1]) rfl ?_
          rw [HRO4.out]
          exact ⟨rb3, cap3, rfl, RZ.out.ch hcc (by simp; omega), HCX.out.trans hcc (fun k hk => .inr (by simp at hk; omega)), by omega⟩
        · have q : ((Z.2.2 : Int) != 0) = true := by simp [he]
          have hro := HRO3.out
          rw [rThen_bad he] at hro
          have HRO4 := Lib.hid hro; clear hro he HRO3
          go_wp2_with fail
          have hcc := set2_ch (w := Wx) (b := w.heap.size + 1) (u := .int .i64 G.most) (v := .slice (some ⟨rb, 0, none⟩) G.nodes.length cap) rfl
          refine bodyPost_ret (v := .tuple #[.agg #[.int .i64 G.most, .slice (some ⟨rb, 0, none⟩) G.nodes.length cap], .int .i64 0, .int .i64 Z.2.2]) (by simp [results, Tryz.results346, go_sem, v0, v1]) rfl ?_
          rw [HRO4.out]
          exact RTo.self H.out (HCX.out.trans hcc (fun k hk => .inr (by simp at hk; omega))) 0 Z.2.2
end
end Go.Proofs.YtehljgigebhddaaGreat
namespace Go.Proofs.YtehljgigebhddaaGreat
open Go.RowKit Go.Mem Go.Aig
theorem slInts : SliceTy Tryz.prog 26 3 1 8 (.int .i64 0) := ⟨Tryz.underlying26, infoInt, rfl, by decide⟩
theorem app_step {W0 w W W4 : World} {v v' : Value} (h0 : Ch [] W0 w) (h1 : Ch [] w W) (hlo : ∀ q ∈ v.ownBlock.toList, W0.heap.size ≤ q) (hC : Ch v.ownBlock.toList W W4) (hf : ∀ k, v'.ownBlock = some k → v.ownBlock = some k ∨ W.heap.size ≤ k) :
    Ch [] W0 W4 ∧ ∀ q ∈ v'.ownBlock.toList, W0.heap.size ≤ q := by
  refine ⟨(h0.trans h1 (by simp)).trans hC (fun k hk => .inr (hlo k hk)), fun q hq => ?_⟩
  rcases hf q (by simpa using hq) with e | e
  · exact hlo q (by simpa using e)
  · have := h0.size; have := h1.size; omega
theorem Sl.of_row' {w : World} {e : TypeId} {a : Option Addr} {n cap : Nat} {l : List Nat} (h : row w e 1 (.slice a n cap) n (refsCells l)) (hl : l.length = n) (hn : n ≤ 1000000) : Sl w a (l.map fun (r : Nat) => (r : Int)) := by
  refine ⟨fun i x hx => ?_, by simp; omega⟩
  rw [List.getElem?_map] at hx
  cases hr : l[i]? with
  | none => rw [hr] at hx; cases hx
  | some r =>
    rw [hr] at hx
    simp at hx
    subst hx
    obtain ⟨gb, go, hge, gc⟩ := (row.sv h rfl hn).cells i (.int .i64 r) (by simp [refsCells, hr])
    exact ⟨gb, go, hge, gc⟩
section
set_option maxRecDepth 100000 in
set_option maxHeartbeats 2000000 in
theorem rXor_is {w : World} {rb cap : Nat} {G : Gra} (h : RG w rb cap G) {a b : Nat} (ha : a < 2 * G.nodes.length) (hb : b < 2 * G.nodes.length) : Calls Tryz.prog 352 #[.agg #[.int .i64 G.most, .slice (some ⟨rb, 0, none⟩) G.nodes.length cap], .int .i64 a, .int .i64 b] w (RTo w rb (rXor G a b)) := by
  obtain ⟨hl, hp, hmo⟩ := h.len
  have hle := h.le
  have hmx := h.mx
  have hrb := h.lt
  have hN := fun (W : World) => rNot_is W b (by omega)
  have HN := Lib.hid hN; clear hN
  have hA1 := fun (W : World) (hW : Ch [] w W) => rMux_is (h.ch hW (by simp)) ha (neg_lt hb) hb
  have hro : rXor G a b = rMux G a (neg b) b := rfl
  rw [hro]
  clear hro
  generalize rMux G a (neg b) b = X at *
  generalize neg b = nb at *
  have HA1 := Lib.hid hA1; clear hA1
  have H := Lib.hid h; clear h
  go_enter Tryz.func352, Tryz.ntmps352
  go_wp2_with fail
  refine wp_alw ?_
  intro W0 hW0
  have hc0 : Ch [] w W0 := by rw [hW0]; exact ((Ch.refl _ _).alloc _).alloc _
  have b2 : blk W0 w.heap.size [.int .i64 G.most, .slice (some ⟨rb, 0, none⟩) G.nodes.length cap] := by rw [hW0]; exact (blk.new' (w := w) [.int .i64 G.most, .slice (some ⟨rb, 0, none⟩) G.nodes.length cap] 123 rfl).alloc _
  have b4 : blk W0 (w.heap.size + 1) [.int .i64 0, .slice none 0 0] := by rw [hW0]; exact blk.new' [.int .i64 0, .slice none 0 0] 123 (by simp)
  clear hW0
  have y0 := b2.cell (i := 0) rfl
  have y1 := b2.cell (i := 1) rfl
  have B4 := Lib.hid b4; clear b4
  have HC0 := Lib.hid hc0; clear hc0 b2
  refine Ord.St.door (fun _ => True) [.rd, .fl, .fl, .fl, .fl, .ef, .fl, .fl, .fl, .ef, .fl, .fl] [0, 0, 0, 4, 0, 31, 63, 63, 63, 511, 1023, 2047] [0, 1, 2, 3, 4, 5, 6, 7, 8, 9, 10, 11] mixed (by kernel_rfl) rfl ?_
  refine Ord.St.rd2 (T' := ?_) 0 [1, 2, 3, 4, 5, 6, 7, 8, 9, 10, 11] _ _ rfl (by kernel_rfl) rfl rfl rfl rfl (fun K hk => ?_) ?_
  rotate_left
  · go_step; exact hk
  refine Ord.St.fl2 (T' := ?_) 1 [2, 3, 4, 5, 6, 7, 8, 9, 10, 11] _ _ rfl (by kernel_rfl) rfl rfl rfl rfl (fun K w' hk => ?_) ?_
  rotate_left
  · go_step; exact hk
  refine Ord.St.fl2 (T' := ?_) 2 [3, 4, 5, 6, 7, 8, 9, 10, 11] _ _ rfl (by kernel_rfl) rfl rfl rfl rfl (fun K w' hk => ?_) ?_
  rotate_left
  · go_step; exact hk
  refine Ord.St.fl2 (T' := ?_) 3 [4, 5, 6, 7, 8, 9, 10, 11] _ _ rfl (by kernel_rfl) rfl rfl rfl rfl (fun K w' hk => ?_) ?_
  rotate_left
  · go_step; refine (HN.out _).mono ?_; rintro e w'' ⟨rfl, rfl⟩; exact hk
  refine Ord.St.fl2 (T' := ?_) 4 [5, 6, 7, 8, 9, 10, 11] _ _ rfl (by kernel_rfl) rfl rfl rfl rfl (fun K w' hk => ?_) ?_
  rotate_left
  · go_step; exact hk
  refine Ord.St.ef 5 [6, 7, 8, 9, 10, 11] _ rfl (by kernel_rfl) (fun K hK => ?_)
  have HA := Lib.hid (HA1.out _ (HC0.out.drew))
  go_wp2_with fail
  refine HA.out.mono ?_
  rintro e w5 ⟨rb1, cap1, rfl, hrg, hch, hfr⟩
  have hr1 : rb1 = rb ∨ w.heap.size + 1 < rb1 := hfr.imp id (fun e => by have := B4.out.lt; simp at e; omega)
  have hc5 := HC0.out.drew.trans hch (by simp)
  have b5 := B4.out.drew.ch hch (by simp)
  have v0 := b5.cell (i := 0) rfl
  have v1 := b5.cell (i := 1) rfl
  have f0 := b5.frozen (i := 0)
  have f1 := b5.frozen (i := 1)
  have HC5 := Lib.hid hc5; clear hc5
  have HRG := Lib.hid hrg; clear hrg
  clear hch hfr b5 HA y0 y1
  go_wp2_with fail
  refine ⟨rfl, hK _ _ ?_⟩; clear hK K
  refine Ord.St.fl2 (T' := ?_) 6 [7, 8, 9, 10, 11] _ _ rfl (by kernel_rfl) rfl rfl rfl rfl (fun K w' hk => ?_) ?_
  rotate_left
  · go_step; exact hk
  refine Ord.St.fl2 (T' := ?_) 7 [8, 9, 10, 11] _ _ rfl (by kernel_rfl) rfl rfl rfl rfl (fun K w' hk => ?_) ?_
  rotate_left
  · go_step; exact hk
  refine Ord.St.fl2 (T' := ?_) 8 [9, 10, 11] _ _ rfl (by kernel_rfl) rfl rfl rfl rfl (fun K w' hk => ?_) ?_
  rotate_left
  · go_step; exact hk
  refine Ord.St.ef 9 [10, 11] _ rfl (by kernel_rfl) (fun K hK => ?_)
  go_wp2_with fail
  refine ⟨rfl, hK _ _ ?_⟩; clear hK K
  refine Ord.St.fl2 (T' := ?_) 10 [11] _ _ rfl (by kernel_rfl) rfl rfl rfl rfl (fun K w' hk => ?_) ?_
  rotate_left
  · go_step; exact hk
  refine Ord.St.fl2 (T' := ?_) 11 [] _ _ rfl (by kernel_rfl) rfl rfl rfl rfl (fun K w' hk => ?_) ?_
  rotate_left
  · go_step; exact hk
  refine Ord.St.nil ?_
  go_wp2_with fail
  have hcc := set2_ch (w := w5) (b := w.heap.size + 1) (u := .int .i64 X.1.most) (v := .slice (some ⟨rb1, 0, none⟩) X.1.nodes.length cap1) rfl
  refine bodyPost_ret (v := .tuple #[.agg #[.int .i64 X.1.most, .slice (some ⟨rb1, 0, none⟩) X.1.nodes.length cap1], .int .i64 X.2.1, .int .i64 X.2.2]) (by simp [results, Tryz.results352, go_sem, v0, v1]) rfl ?_
  exact ⟨rb1, cap1, rfl, HRG.out.ch hcc (by simp; omega), HC5.out.trans hcc (fun k hk => .inr (by simp at hk; omega)), by omega⟩
end
end Go.Proofs.YtehljgigebhddaaGreat
namespace Go.Aig
def rAllFrom (G0 : Gra) : Gra → Nat → List Nat → Res
  | now, out, [] => (now, out, 0)
  | now, out, r :: l => if (and now out r).2.2 ≠ 0 then (G0, 0, (and now out r).2.2) else rAllFrom G0 (and now out r).1 (and now out r).2.1 l
def rAll (G : Gra) (l : List Nat) : Res := rAllFrom G G 1 l
def rAny (G : Gra) (l : List Nat) : Res := if (rAll G (l.map neg)).2.2 ≠ 0 then (G, 0, (rAll G (l.map neg)).2.2) else ((rAll G (l.map neg)).1, neg (rAll G (l.map neg)).2.1, 0)
theorem rAllFrom_rok {G0 : Gra} (h0 : Ok G0) : ∀ (l : List Nat) {G : Gra} {out : Nat}, Ok G → Ext G0 G → out < 2 * G.nodes.length → (∀ r ∈ l, r < 2 * G.nodes.length) → ROk G0 (rAllFrom G0 G out l)
  | [], G, out, h, he, ho, _ => ⟨h, he, ho, .inl rfl⟩
  | r :: l, G, out, h, he, ho, hl => by
    have h1 := and_rok h ho (hl r (by simp))
    have := h0.wf.pos
    unfold rAllFrom
    split
    · exact ⟨h0, .refl _, by show 0 < 2 * G0.nodes.length; omega, h1.err⟩
    · exact rAllFrom_rok h0 l h1.ok (he.trans h1.ext) h1.lt (fun x hx => h1.ext.lt (hl x (by simp [hx])))
theorem rAll_rok {G : Gra} (h : Ok G) {l : List Nat} (hl : ∀ r ∈ l, r < 2 * G.nodes.length) : ROk G (rAll G l) := rAllFrom_rok h l h (.refl _) (by have := h.wf.pos; omega) hl
theorem negs_lt {n : Nat} {l : List Nat} (hl : ∀ r ∈ l, r < 2 * n) : ∀ r ∈ l.map neg, r < 2 * n := fun r hr => by
  obtain ⟨q, hq, rfl⟩ := List.mem_map.1 hr
  exact neg_lt (hl q hq)
theorem rAny_rok {G : Gra} (h : Ok G) {l : List Nat} (hl : ∀ r ∈ l, r < 2 * G.nodes.length) : ROk G (rAny G l) := by
  have h1 := rAll_rok h (negs_lt hl)
  have := h.wf.pos
  unfold rAny
  split
  · exact ⟨h, .refl _, by show 0 < 2 * G.nodes.length; omega, h1.err⟩
  · exact ⟨h1.ok, h1.ext, neg_lt h1.lt, .inl rfl⟩
theorem rAllFrom_step {G0 now : Gra} {out r : Nat} {l : List Nat} : rAllFrom G0 now out (r :: l) = if (and now out r).2.2 ≠ 0 then (G0, 0, (and now out r).2.2) else rAllFrom G0 (and now out r).1 (and now out r).2.1 l := rfl
end Go.Aig
namespace Go.Proofs.YtehljgigebhddaaGreat
open Go.RowKit Go.Mem Go.Aig
def intCells (l : List Int) : List Value := l.map fun z => .int .i64 z
section
end
end Go.Proofs.YtehljgigebhddaaGreat
namespace Go.Proofs.YtehljgigebhddaaGreat
open Go.RowKit Go.Mem Go.Aig
section
set_option maxRecDepth 100000 in
set_option maxHeartbeats 4000000 in
theorem rAll_is {w : World} {rb cap : Nat} {G : Gra} (h : RG w rb cap G) {a : Option Addr} {l : List Nat} (n acap : Nat) (hn : l.length = n) (hs : Sl w a (l.map fun (r : Nat) => (r : Int))) (hr : ∀ r ∈ l, r < 2 * G.nodes.length) (hm : n ≤ 1000000) :
    Calls Tryz.prog 357 #[.agg #[.int .i64 G.most, .slice (some ⟨rb, 0, none⟩) G.nodes.length cap], .slice a n acap] w (RTo w rb (rAll G l)) := by
  subst hn
  obtain ⟨hl, hp, hmo⟩ := h.len
  have hle := h.le
  have hmx := h.mx
  have hrb := h.lt
  have hgok := Lib.hid h.ok
  have hall : rAll G l = rAllFrom G G 1 l := rfl
  generalize rAll G l = RO at *
  have HALL := Lib.hid hall; clear hall
  have HS := Lib.hid hs; clear hs
  have HR := Lib.hid hr; clear hr
  have H := Lib.hid h; clear h
  go_enter Tryz.func357, Tryz.ntmps357
  go_wp2_with fail
  refine wp_alw ?_
  intro W0 hW0
  have hc0 : Ch [] w W0 := by rw [hW0]; exact (((Ch.refl _ _).alloc _).alloc _).alloc _
  have b2 : blk W0 w.heap.size [.int .i64 G.most, .slice (some ⟨rb, 0, none⟩) G.nodes.length cap] := by rw [hW0]; exact ((blk.new' (w := w) [.int .i64 G.most, .slice (some ⟨rb, 0, none⟩) G.nodes.length cap] 123 rfl).alloc _).alloc _
  have b4 : blk W0 (w.heap.size + 1) [.int .i64 0, .slice none 0 0] := by rw [hW0]; exact (blk.new' [.int .i64 0, .slice none 0 0] 123 (by simp)).alloc _
  have b7 : blk W0 (w.heap.size + 1 + 1) [.int .i64 G.most, .slice (some ⟨rb, 0, none⟩) G.nodes.length cap] := by rw [hW0]; exact blk.new' [.int .i64 G.most, .slice (some ⟨rb, 0, none⟩) G.nodes.length cap] 123 (by simp)
  clear hW0
  have hr0 := H.out.ch hc0 (by simp)
  have B2 := Lib.hid b2; clear b2
  have B4 := Lib.hid b4; clear b4
  have B7 := Lib.hid b7; clear b7
  have HC0 := Lib.hid hc0; clear hc0
  have HR0 := Lib.hid hr0; clear hr0
  go_loopw [8, 9] (fun o i wr => ∃ (k : Nat) (now : Gra) (out rbk capk : Nat), k ≤ l.length ∧ i = .int .i64 k ∧ o = .int .i64 out ∧ out < 2 * now.nodes.length ∧ Ext G now ∧ RO = rAllFrom G now out (l.drop k) ∧ Ch [] w wr ∧ RG wr rbk capk now ∧ (rbk = rb ∨ w.heap.size + 1 + 1 < rbk) ∧
    blk wr w.heap.size [.int .i64 G.most, .slice (some ⟨rb, 0, none⟩) G.nodes.length cap] ∧ blk wr (w.heap.size + 1) [.int .i64 0, .slice none 0 0] ∧ blk wr (w.heap.size + 1 + 1) [.int .i64 now.most, .slice (some ⟨rbk, 0, none⟩) now.nodes.length capk]) (fun _ i _ => l.length - (intOf i).toNat)
  case atStart => exact ⟨0, G, 1, rb, cap, by omega, rfl, rfl, by omega, .refl _, HALL.out, HC0.out, HR0.out, .inl rfl, B2.out, B4.out, B7.out⟩
  case round =>
    clear B2 B4 B7 HC0 HR0 HALL
    obtain ⟨k, now, out, rbk, capk, hk, rfl, rfl, hout, hext, hro, hc, hrg, hfr, b2, b4, b7⟩ := hrel
    by_cases hlt : k < l.length
    · obtain ⟨r, hx⟩ : ∃ r, l[k]? = some r := ⟨_, List.getElem?_eq_getElem hlt⟩
      have hrm := HR.out r (List.mem_of_getElem? hx)
      have hdrop : l.drop k = r :: l.drop (k + 1) := by
        rw [List.drop_eq_getElem_cons hlt]
        rw [List.getElem?_eq_getElem hlt] at hx
        cases hx; rfl
      obtain ⟨xb, xo, rfl, hcl⟩ := HS.out.cells k r (by rw [List.getElem?_map, hx]; rfl)
      have c0 := (hc.cell (cell_lt hcl) (by simp)).trans hcl
      rw [hdrop, rAllFrom_step] at hro
      have o1 := and_rok hrg.ok hout (hext.lt hrm)
      have hA := fun (W : World) (hW : Ch [] wr W) => rAnd_is (hrg.ch hW (by simp)) hout (hext.lt hrm)
      generalize Aig.and now out r = X at *
      have E1 := Lib.hid o1.err
      have XO := Lib.hid o1; clear o1
      have HRO := Lib.hid hro; clear hro hx hdrop hcl
      have HA1 := Lib.hid hA; clear hA
      have hrgl := hrg.lt
      have hb7l := b7.lt
      have HRG := Lib.hid hrg; clear hrg
      have B2 := Lib.hid b2; clear b2
      have B4 := Lib.hid b4; clear b4
      have B7 := Lib.hid b7; clear b7
      have HC := Lib.hid hc; clear hc
      have C0 := Lib.hid c0; clear c0
      go_wp2_with fail
      refine Ord.St.door (fun w' => Ch [] wr w') [.ho, .fl, .fl, .fl, .fl, .ho, .ef, .fl, .fl, .fl, .fl, .ef, .ef, .fl, .fl] [0, 0, 0, 0, 12, 28, 63, 127, 255, 255, 255, 0, 2559, 7167, 16383] [0, 1, 2, 3, 4, 5, 6, 7, 8, 9, 10, 11, 12, 13, 14] mixed (by kernel_rfl) rfl ?_
      obtain ⟨Wc, hWc⟩ : ∃ Wc, Wc = wr.drew := ⟨_, rfl⟩
      rw [← hWc]
      have hcur : Ch [] wr Wc := by rw [hWc]; exact (Ch.refl _ _).drew
      clear hWc
      refine Ord.St.ho2 (T' := ?_) 0 [1, 2, 3, 4, 5, 6, 7, 8, 9, 10, 11, 12, 13, 14] _ _ rfl (by kernel_rfl) rfl rfl rfl rfl ?_ (fun K w' hw' hk => ?_) ?_
      rotate_left
      · trivial
      · have y0 := (B7.out.ch hw' (by simp)).cell (i := 0) rfl; have y1 := (B7.out.ch hw' (by simp)).cell (i := 1) rfl; have a0 := (hw'.cell (cell_lt C0.out) (by simp)).trans C0.out; go_step; exact hk
      refine Ord.St.fl2 (T' := ?_) 1 [2, 3, 4, 5, 6, 7, 8, 9, 10, 11, 12, 13, 14] _ _ rfl (by kernel_rfl) rfl rfl rfl rfl (fun K w' hk => ?_) ?_
      rotate_left
      · go_step; exact hk
      refine Ord.St.fl2 (T' := ?_) 2 [3, 4, 5, 6, 7, 8, 9, 10, 11, 12, 13, 14] _ _ rfl (by kernel_rfl) rfl rfl rfl rfl (fun K w' hk => ?_) ?_
      rotate_left
      · go_step; exact hk
      refine Ord.St.fl2 (T' := ?_) 3 [4, 5, 6, 7, 8, 9, 10, 11, 12, 13, 14] _ _ rfl (by kernel_rfl) rfl rfl rfl rfl (fun K w' hk => ?_) ?_
      rotate_left
      · go_step; exact hk
      refine Ord.St.fl2 (T' := ?_) 4 [5, 6, 7, 8, 9, 10, 11, 12, 13, 14] _ _ rfl (by kernel_rfl) rfl rfl rfl rfl (fun K w' hk => ?_) ?_
      rotate_left
      · go_step; exact hk
      refine Ord.St.ho2 (T' := ?_) 5 [6, 7, 8, 9, 10, 11, 12, 13, 14] _ _ rfl (by kernel_rfl) rfl rfl rfl rfl ?_ (fun K w' hw' hk => ?_) ?_
      rotate_left
      · trivial
      · have y0 := (B7.out.ch hw' (by simp)).cell (i := 0) rfl; have y1 := (B7.out.ch hw' (by simp)).cell (i := 1) rfl; have a0 := (hw'.cell (cell_lt C0.out) (by simp)).trans C0.out; go_step; exact hk
      refine Ord.St.two 6 11 [7, 8, 9, 10, 11, 12, 13, 14] [6, 7, 8, 9, 10, 12, 13, 14] _ _ (by kernel_rfl) rfl rfl (by kernel_rfl) (by kernel_rfl) (fun K hK => ?_) (fun K hK => ?_)
      · have HA := Lib.hid (HA1.out _ hcur)
        go_wp2_with fail
        refine HA.out.mono ?_
        rintro e w5 ⟨rb1, cap1, rfl, hrg1, hch, hfr1⟩
        go_wp2_with fail
        refine ⟨rfl, hK _ _ ?_ ?_⟩
        · exact hcur.trans hch (by simp)
        clear hK K
        try have hne := rto_ne hb9 (by have := hs9; omega) hfr1
        try replace hb9 := hb9.ch hch (by simp)
        have hfr2 : rb1 = rb ∨ w.heap.size + 1 + 1 < rb1 := by have := hcur.size; rcases hfr1 with e | e <;> omega
        replace hcur := hcur.trans hch (by simp)
        clear hch hfr1 HA
        refine Ord.St.fl2 (T' := ?_) 7 [8, 9, 10, 11, 12, 13, 14] _ _ rfl (by kernel_rfl) rfl rfl rfl rfl (fun K w' hk => ?_) ?_
        rotate_left
        · go_step; exact hk
        refine Ord.St.fl2 (T' := ?_) 8 [9, 10, 11, 12, 13, 14] _ _ rfl (by kernel_rfl) rfl rfl rfl rfl (fun K w' hk => ?_) ?_
        rotate_left
        · go_step; exact hk
        refine Ord.St.fl2 (T' := ?_) 9 [10, 11, 12, 13, 14] _ _ rfl (by kernel_rfl) rfl rfl rfl rfl (fun K w' hk => ?_) ?_
        rotate_left
        · go_step; exact hk
        refine Ord.St.fl2 (T' := ?_) 10 [11, 12, 13, 14] _ _ rfl (by kernel_rfl) rfl rfl rfl rfl (fun K w' hk => ?_) ?_
        rotate_left
        · go_step; exact hk
        refine Ord.St.efC 11 [12, 13, 14] _ rfl (by kernel_rfl) (fun K hK => ?_)
        go_wp2_with fail
        refine ⟨rfl, hK _ _ ?_ ?_⟩
        · exact hcur.alloc _
        clear hK K
        refine Ord.St.alw ?_; intro Wn hWn
        have hb9 := alw_blk (xs := [.int .i64 0, .slice none 0 0]) hWn
        have hs9 := hcur.size
        try have hne := rg_ne hrg1
        try replace hrg1 := hrg1.ch (alw_ch hWn) (by simp)
        replace hcur := hcur.trans (alw_ch hWn) (by simp)
        clear hWn
        first | (have _t := hrg1; clear _t; generalize w5.heap.size = b9 at *) | generalize Wc.heap.size = b9 at *
        refine Ord.St.ef 12 [13, 14] _ rfl (by kernel_rfl) (fun K hK => ?_)
        have z0 := hb9.cell (i := 0) rfl
        have z1 := hb9.cell (i := 1) rfl
        have g0 := hb9.frozen (i := 0)
        have g1 := hb9.frozen (i := 1)
        have HRG1 := Lib.hid hrg1; clear hrg1
        have HB9 := Lib.hid hb9; clear hb9
        go_wp2_with fail
        refine ⟨rfl, hK _ _ ?_⟩; clear hK K
        refine Ord.St.fl2 (T' := ?_) 13 [14] _ _ rfl (by kernel_rfl) rfl rfl rfl rfl (fun K w' hk => ?_) ?_
        rotate_left
        · go_step; exact hk
        refine Ord.St.fl2 (T' := ?_) 14 [] _ _ rfl (by kernel_rfl) rfl rfl rfl rfl (fun K w' hk => ?_) ?_
        rotate_left
        · go_step; exact hk
        refine Ord.St.nil ?_
        go_upto_region 6 with fail
        refine wp_alw ?_
        intro W8 hW8
        have hbY : blk W8 b9 [.int .i64 X.1.most, .slice (some ⟨rb1, 0, none⟩) X.1.nodes.length cap1] := by rw [hW8]; exact (HB9.out.set (i := 0) _).set (i := 1) _
        have hc9 := set2_ch hW8
        have hc68 : Ch [] wr W8 := hcur.trans hc9 (fun k hk => .inr (by simp at hk; omega))
        have hrY := HRG1.out.ch hc9 (by simpa using hne)
        have b2 := B2.out.ch hc68 (by simp)
        have b4 := B4.out.ch hc68 (by simp)
        have b7 := B7.out.ch hc68 (by simp)
        have hc8 := HC.out.trans hc68 (by simp)
        have x0 := hbY.cell (i := 0) rfl
        have x1 := hbY.cell (i := 1) rfl
        have y0 := b2.cell (i := 0) rfl
        have y1 := b2.cell (i := 1) rfl
        have v0 := b4.cell (i := 0) rfl
        have v1 := b4.cell (i := 1) rfl
        have f0 := b4.frozen (i := 0)
        have f1 := b4.frozen (i := 1)
        have u0 := b7.cell (i := 0) rfl
        have u1 := b7.cell (i := 1) rfl
        have p0 := b7.frozen (i := 0)
        have p1 := b7.frozen (i := 1)
        have RY := Lib.hid hrY; clear hrY
        have HC8 := Lib.hid hc8; clear hc8
        have BB2 := Lib.hid b2; clear b2
        have BB4 := Lib.hid b4; clear b4
        have BB7 := Lib.hid b7; clear b7
        clear hW8 HRG1 HB9 hbY hc9 hc68 z0 z1 g0 g1 hcur B7 B2 B4 HRG
        rcases E1.out with he | he
        · have q : ((X.2.2 : Int) != 0) = false := by simp [he]
          have hro := HRO.out
          rw [if_neg (by simp [he])] at hro
          have HRO2 := Lib.hid hro; clear hro he HRO
          go_wp2_with fail
          have hcc := set2_ch (w := W8) (b := w.heap.size + 1 + 1) (u := .int .i64 X.1.most) (v := .slice (some ⟨rb1, 0, none⟩) X.1.nodes.length cap1) rfl
          have hb7' := (BB7.out.set (i := 0) (.int .i64 X.1.most)).set (i := 1) (.slice (some ⟨rb1, 0, none⟩) X.1.nodes.length cap1)
          go_roundw
          case rel => exact ⟨k + 1, X.1, X.2.1, rb1, cap1, by omega, by go_num, rfl, XO.out.lt, hext.trans XO.out.ext, HRO2.out, HC8.out.trans hcc (fun k hk => .inr (by simp at hk; omega)), RY.out.ch hcc (by simp; omega), hfr2, BB2.out.ch hcc (by simp; omega), BB4.out.ch hcc (by simp), hb7'⟩
          case measure => simp [intOf]; omega
        · have q : ((X.2.2 : Int) != 0) = true := by simp [he]
          have hro := HRO.out
          rw [if_pos (by simp [he])] at hro
          have HRO2 := Lib.hid hro; clear hro he HRO
          go_wp2_with fail
          have hcc := set2_ch (w := W8) (b := w.heap.size + 1) (u := .int .i64 G.most) (v := .slice (some ⟨rb, 0, none⟩) G.nodes.length cap) rfl
          refine bodyPost_ret (v := .tuple #[.agg #[.int .i64 G.most, .slice (some ⟨rb, 0, none⟩) G.nodes.length cap], .int .i64 0, .int .i64 X.2.2]) (by simp [results, Tryz.results357, go_sem, v0, v1]) rfl ?_
          rw [HRO2.out]
          exact RTo.self H.out (HC8.out.trans hcc (fun k hk => .inr (by simp at hk; omega))) 0 X.2.2
      · go_wp2_with fail
        refine ⟨rfl, hK _ _ ?_ ?_⟩
        · exact hcur.alloc _
        clear hK K
        refine Ord.St.alw ?_; intro Wn hWn
        have hb9 := alw_blk (xs := [.int .i64 0, .slice none 0 0]) hWn
        have hs9 := hcur.size
        try have hne := rg_ne hrg1
        try replace hrg1 := hrg1.ch (alw_ch hWn) (by simp)
        replace hcur := hcur.trans (alw_ch hWn) (by simp)
        clear hWn
        first | (have _t := hrg1; clear _t; generalize w5.heap.size = b9 at *) | generalize Wc.heap.size = b9 at *
        refine Ord.St.ef 6 [7, 8, 9, 10, 12, 13, 14] _ rfl (by kernel_rfl) (fun K hK => ?_)
        have HA := Lib.hid (HA1.out _ hcur)
        go_wp2_with fail
        refine HA.out.mono ?_
        rintro e w5 ⟨rb1, cap1, rfl, hrg1, hch, hfr1⟩
        go_wp2_with fail
        refine ⟨rfl, hK _ _ ?_⟩; clear hK K
        try have hne := rto_ne hb9 (by have := hs9; omega) hfr1
        try replace hb9 := hb9.ch hch (by simp)
        have hfr2 : rb1 = rb ∨ w.heap.size + 1 + 1 < rb1 := by have := hcur.size; rcases hfr1 with e | e <;> omega
        replace hcur := hcur.trans hch (by simp)
        clear hch hfr1 HA
        refine Ord.St.fl2 (T' := ?_) 7 [8, 9, 10, 12, 13, 14] _ _ rfl (by kernel_rfl) rfl rfl rfl rfl (fun K w' hk => ?_) ?_
        rotate_left
        · go_step; exact hk
        refine Ord.St.fl2 (T' := ?_) 8 [9, 10, 12, 13, 14] _ _ rfl (by kernel_rfl) rfl rfl rfl rfl (fun K w' hk => ?_) ?_
        rotate_left
        · go_step; exact hk
        refine Ord.St.fl2 (T' := ?_) 9 [10, 12, 13, 14] _ _ rfl (by kernel_rfl) rfl rfl rfl rfl (fun K w' hk => ?_) ?_
        rotate_left
        · go_step; exact hk
        refine Ord.St.fl2 (T' := ?_) 10 [12, 13, 14] _ _ rfl (by kernel_rfl) rfl rfl rfl rfl (fun K w' hk => ?_) ?_
        rotate_left
        · go_step; exact hk
        refine Ord.St.ef 12 [13, 14] _ rfl (by kernel_rfl) (fun K hK => ?_)
        have z0 := hb9.cell (i := 0) rfl
        have z1 := hb9.cell (i := 1) rfl
        have g0 := hb9.frozen (i := 0)
        have g1 := hb9.frozen (i := 1)
        have HRG1 := Lib.hid hrg1; clear hrg1
        have HB9 := Lib.hid hb9; clear hb9
        go_wp2_with fail
        refine ⟨rfl, hK _ _ ?_⟩; clear hK K
        refine Ord.St.fl2 (T' := ?_) 13 [14] _ _ rfl (by kernel_rfl) rfl rfl rfl rfl (fun K w' hk => ?_) ?_
        rotate_left
        · go_step; exact hk
        refine Ord.St.fl2 (T' := ?_) 14 [] _ _ rfl (by kernel_rfl) rfl rfl rfl rfl (fun K w' hk => ?_) ?_
        rotate_left
        · go_step; exact hk
        refine Ord.St.nil ?_
        go_upto_region 6 with fail
        refine wp_alw ?_
        intro W8 hW8
        have hbY : blk W8 b9 [.int .i64 X.1.most, .slice (some ⟨rb1, 0, none⟩) X.1.nodes.length cap1] := by rw [hW8]; exact (HB9.out.set (i := 0) _).set (i := 1) _
        have hc9 := set2_ch hW8
        have hc68 : Ch [] wr W8 := hcur.trans hc9 (fun k hk => .inr (by simp at hk; omega))
        have hrY := HRG1.out.ch hc9 (by simpa using hne)
        have b2 := B2.out.ch hc68 (by simp)
        have b4 := B4.out.ch hc68 (by simp)
        have b7 := B7.out.ch hc68 (by simp)
        have hc8 := HC.out.trans hc68 (by simp)
        have x0 := hbY.cell (i := 0) rfl
        have x1 := hbY.cell (i := 1) rfl
        have y0 := b2.cell (i := 0) rfl
        have y1 := b2.cell (i := 1) rfl
        have v0 := b4.cell (i := 0) rfl
        have v1 := b4.cell (i := 1) rfl
        have f0 := b4.frozen (i := 0)
        have f1 := b4.frozen (i := 1)
        have u0 := b7.cell (i := 0) rfl
        have u1 := b7.cell (i := 1) rfl
        have p0 := b7.frozen (i := 0)
        have p1 := b7.frozen (i := 1)
        have RY := Lib.hid hrY; clear hrY
        have HC8 := Lib.hid hc8; clear hc8
        have BB2 := Lib.hid b2; clear b2
        have BB4 := Lib.hid b4; clear b4
        have BB7 := Lib.hid b7; clear b7
        clear hW8 HRG1 HB9 hbY hc9 hc68 z0 z1 g0 g1 hcur B7 B2 B4 HRG
        rcases E1.out with he | he
        · have q : ((X.2.2 : Int) != 0) = false := by simp [he]
          have hro := HRO.out
          rw [if_neg (by simp [he])] at hro
          have HRO2 := Lib.hid hro; clear hro he HRO
          go_wp2_with fail
          have hcc := set2_ch (w := W8) (b := w.heap.size + 1 + 1) (u := .int .i64 X.1.most) (v := .slice (some ⟨rb1, 0, none⟩) X.1.nodes.length cap1) rfl
          have hb7' := (BB7.out.set (i := 0) (.int .i64 X.1.most)).set (i := 1) (.slice (some ⟨rb1, 0, none⟩) X.1.nodes.length cap1)
          go_roundw
          case rel => exact ⟨k + 1, X.1, X.2.1, rb1, cap1, by omega, by go_num, rfl, XO.out.lt, hext.trans XO.out.ext, HRO2.out, HC8.out.trans hcc (fun k hk => .inr (by simp at hk; omega)), RY.out.ch hcc (by simp; omega), hfr2, BB2.out.ch hcc (by simp; omega), BB4.out.ch hcc (by simp), hb7'⟩
          case measure => simp [intOf]; omega
        · have q : ((X.2.2 : Int) != 0) = true := by simp [he]
          have hro := HRO.out
          rw [if_pos (by simp [he])] at hro
          have HRO2 := Lib.hid hro; clear hro he HRO
          go_wp2_with fail
          have hcc := set2_ch (w := W8) (b := w.heap.size + 1) (u := .int .i64 G.most) (v := .slice (some ⟨rb, 0, none⟩) G.nodes.length cap) rfl
          refine bodyPost_ret (v := .tuple #[.agg #[.int .i64 G.most, .slice (some ⟨rb, 0, none⟩) G.nodes.length cap], .int .i64 0, .int .i64 X.2.2]) (by simp [results, Tryz.results357, go_sem, v0, v1]) rfl ?_
          rw [HRO2.out]
          exact RTo.self H.out (HC8.out.trans hcc (fun k hk => .inr (by simp at hk; omega))) 0 X.2.2
    · have hkn : k = l.length := by omega
      rw [List.drop_eq_nil_of_le (by omega)] at hro
      have x0 := b7.cell (i := 0) rfl
      have x1 := b7.cell (i := 1) rfl
      have v0 := b4.cell (i := 0) rfl
      have v1 := b4.cell (i := 1) rfl
      have f0 := b4.frozen (i := 0)
      have f1 := b4.frozen (i := 1)
      have HRO := Lib.hid hro
      have HRG := Lib.hid hrg
      have HC := Lib.hid hc
      clear hkn hro hrg hc b2 b4 b7
      go_wp2_with fail
      have hcc := set2_ch (w := wr) (b := w.heap.size + 1) (u := .int .i64 now.most) (v := .slice (some ⟨rbk, 0, none⟩) now.nodes.length capk) rfl
      refine bodyPost_ret (v := .tuple #[.agg #[.int .i64 now.most, .slice (some ⟨rbk, 0, none⟩) now.nodes.length capk], .int .i64 out, .int .i64 0]) (by simp [results, Tryz.results357, go_sem, v0, v1]) rfl ?_
      rw [HRO.out]
      exact ⟨rbk, capk, rfl, HRG.out.ch hcc (by simp; omega), HC.out.trans hcc (fun k hk => .inr (by simp at hk; omega)), by omega⟩
end
end Go.Proofs.YtehljgigebhddaaGreat
namespace Go.Proofs.YtehljgigebhddaaGreat
open Go.RowKit Go.Mem Go.Aig
section
set_option maxRecDepth 100000 in
set_option maxHeartbeats 4000000 in
theorem rAny_is {w : World} {rb cap : Nat} {G : Gra} (h : RG w rb cap G) {a : Option Addr} {l : List Nat} (n acap : Nat) (hn : l.length = n) (hs : Sl w a (l.map fun (r : Nat) => (r : Int))) (hr : ∀ r ∈ l, r < 2 * G.nodes.length) (hm : n ≤ 1000000) :
    Calls Tryz.prog 354 #[.agg #[.int .i64 G.most, .slice (some ⟨rb, 0, none⟩) G.nodes.length cap], .slice a n acap] w (RTo w rb (rAny G l)) := by
  subst hn
  obtain ⟨hl, hp, hmo⟩ := h.len
  have hle := h.le
  have hmx := h.mx
  have hrb := h.lt
  have o1 := rAll_rok h.ok (negs_lt hr)
  have hA := fun (W : World) (hW : RG W rb cap G) (a : Option Addr) (c : Nat) (hS : Sl W a ((l.map neg).map fun (r : Nat) => (r : Int))) => rAll_is hW l.length c (by simp) hS (negs_lt hr) hm
  have hro : rAny G l = if (rAll G (l.map neg)).2.2 ≠ 0 then (G, 0, (rAll G (l.map neg)).2.2) else ((rAll G (l.map neg)).1, neg (rAll G (l.map neg)).2.1, 0) := rfl
  generalize rAll G (l.map neg) = X at *
  generalize rAny G l = RO at *
  have hX3 : X.2.1 < 2 * 65536 := by have := o1.ok.room; have := o1.ok.most; have := o1.lt; omega
  have hNr := fun (W : World) => rNot_is W X.2.1 (by omega)
  have HNR := Lib.hid hNr; clear hNr
  have E1 := Lib.hid o1.err; clear o1
  have HRO := Lib.hid hro; clear hro
  have HA1 := Lib.hid hA; clear hA
  have HS := Lib.hid hs; clear hs
  have HR := Lib.hid hr; clear hr
  have H := Lib.hid h; clear h
  go_enter Tryz.func354, Tryz.ntmps354
  go_wp2_with fail
  refine wp_alw ?_
  intro W0 hW0
  have hc0 : Ch [] w W0 := by rw [hW0]; exact ((Ch.refl _ _).alloc _).alloc _
  have b2 : blk W0 w.heap.size [.int .i64 G.most, .slice (some ⟨rb, 0, none⟩) G.nodes.length cap] := by rw [hW0]; exact (blk.new' (w := w) [.int .i64 G.most, .slice (some ⟨rb, 0, none⟩) G.nodes.length cap] 123 rfl).alloc _
  have b4 : blk W0 (w.heap.size + 1) [.int .i64 0, .slice none 0 0] := by rw [hW0]; exact blk.new' [.int .i64 0, .slice none 0 0] 123 (by simp)
  clear hW0
  have hr0 := H.out.ch hc0 (by simp)
  have hb4l := b4.lt
  have B2 := Lib.hid b2; clear b2
  have B4 := Lib.hid b4; clear b4
  have HC0 := Lib.hid hc0; clear hc0
  have HR0 := Lib.hid hr0; clear hr0
  go_loopw [7, 8] (fun o i wr => ∃ k : Nat, k ≤ l.length ∧ i = .int .i64 k ∧ Ch [] W0 wr ∧ row wr 3 1 o k (refsCells ((l.take k).map neg)) ∧ ∀ q ∈ o.ownBlock.toList, W0.heap.size ≤ q) (fun _ i _ => l.length - (intOf i).toNat)
  case atStart => exact ⟨0, by omega, rfl, Ch.refl _ _, ⟨rfl, .inl ⟨rfl, rfl⟩⟩, by simp⟩
  case round =>
    obtain ⟨k, hk, rfl, hc, hrow, hlo⟩ := hrel
    obtain ⟨oa, oc, rfl⟩ := row.shape hrow
    by_cases hlt : k < l.length
    · obtain ⟨x, hx⟩ : ∃ x, l[k]? = some x := ⟨_, List.getElem?_eq_getElem hlt⟩
      have hxb := HR.out x (List.mem_of_getElem? hx)
      have hsu : refsCells ((l.take (k + 1)).map neg) = refsCells ((l.take k).map neg) ++ [.int .i64 (neg x : Nat)] := by unfold refsCells; rw [List.take_add_one, hx]; simp
      obtain ⟨xb, xo, rfl, hcl⟩ := HS.out.cells k x (by rw [List.getElem?_map, hx]; rfl)
      have c0 := ((HC0.out.trans hc (by simp)).cell (cell_lt hcl) (by simp)).trans hcl
      have hNx := rNot_is wr x (by omega)
      have HNX := Lib.hid hNx; clear hNx
      have HSU := Lib.hid hsu; clear hsu hx hcl
      generalize neg x = nx at *
      have hcA : Ch [] wr (wr.alloc (.cells #[.int .i64 nx] 3)) := (Ch.refl _ _).alloc _
      have hrA := hrow.ch hcA (by simp)
      have hbA : blk (wr.alloc (.cells #[.int .i64 nx] 3)) wr.heap.size [.int .i64 nx] := blk.new' _ _ rfl
      have HRA := Lib.hid hrA; clear hrA hrow
      have HBA := Lib.hid hbA; clear hbA
      have HCA := Lib.hid hcA; clear hcA
      have HC := Lib.hid hc; clear hc
      have HLO := Lib.hid hlo; clear hlo
      go_wp2_with fail
      refine HNX.out.mono ?_
      rintro e w' ⟨rfl, rfl⟩
      go_wp2_with (at_builtin; go_loud (refine wpList_append_row slInts rfl _ _ rfl (v := .slice oa k oc) (n := k) (xs := refsCells ((l.take k).map neg)) rfl HRA.out (ad := ⟨wr.heap.size, 0, none⟩) (m := 1) (c := 1) (news := [.int .i64 nx]) rfl rfl (news_blk HBA.out) (by simp [Value.oneCell']) (by omega) (by omega) ?_; intro v' w4 hown4 hC4 hf4; have HO4 := Lib.hid hown4; clear hown4; have HC4 := Lib.hid hC4; clear hC4; have HF4 := Lib.hid hf4; clear hf4))
      go_roundw
      case rel =>
        obtain ⟨q1, q2⟩ := app_step HC.out HCA.out HLO.out HC4.out HF4.out
        refine ⟨k + 1, by omega, by go_num, q1, ?_, q2⟩
        rw [HSU.out]; exact HO4.out
      case measure => simp [intOf]; omega
    · have hkn : k = l.length := by omega
      rw [hkn, List.take_of_length_le (Nat.le_refl _)] at hrow
      rw [hkn] at hlo
      rw [hkn]
      have y0 := (B2.out.ch hc (by simp)).cell (i := 0) rfl
      have y1 := (B2.out.ch hc (by simp)).cell (i := 1) rfl
      have hsl := Sl.of_row' hrow (by simp) (by omega)
      have hA := HA1.out wr (HR0.out.ch hc (by simp)) oa oc hsl
      have hlr := hc.size
      have hcw := HC0.out.trans hc (by simp)
      have b4 := B4.out.ch hc (by simp)
      have b2 := B2.out.ch hc (by simp)
      have HA := Lib.hid hA; clear hA
      have B44 := Lib.hid b4; clear b4
      have B22 := Lib.hid b2; clear b2
      have HCW := Lib.hid hcw; clear hcw
      clear hkn hrow hlo hc hsl
      go_wp2_with fail
      refine HA.out.mono ?_
      rintro e w5 ⟨rb1, cap1, rfl, hrg, hch, hfr⟩
      have hfr1 : rb1 = rb ∨ w.heap.size + 1 < rb1 := by have := B44.out.lt; rcases hfr with e | e <;> omega
      have hnX := rg_ne hrg
      have hlo5 : w.heap.size + 1 < w5.heap.size := (B44.out.ch hch (by simp)).lt
      have HRG := Lib.hid hrg; clear hrg
      have HCH := Lib.hid hch; clear hch hfr HA y0 y1
      go_upto_region 7 with fail
      refine wp_alw ?_
      intro W6 hW6
      have hbX := alw_blk (xs := [.int .i64 X.1.most, .slice (some ⟨rb1, 0, none⟩) X.1.nodes.length cap1]) hW6
      have hc56 := alw_ch hW6
      have hrX := HRG.out.ch hc56 (by simp)
      have hc6 := (HCW.out.trans HCH.out (by simp)).trans hc56 (by simp)
      have b2 := (B22.out.ch HCH.out (by simp)).ch hc56 (by simp)
      have b4 := (B44.out.ch HCH.out (by simp)).ch hc56 (by simp)
      clear hW6 hc56 HRG HCH HCW B22 B44
      generalize w5.heap.size = b5 at *
      have x0 := hbX.cell (i := 0) rfl
      have x1 := hbX.cell (i := 1) rfl
      have y0 := b2.cell (i := 0) rfl
      have y1 := b2.cell (i := 1) rfl
      have v0 := b4.cell (i := 0) rfl
      have v1 := b4.cell (i := 1) rfl
      have f0 := b4.frozen (i := 0)
      have f1 := b4.frozen (i := 1)
      have RX := Lib.hid hrX; clear hrX
      have HC6 := Lib.hid hc6; clear hc6 b2 b4 hbX
      rcases E1.out with he | he
      · have q : ((X.2.2 : Int) != 0) = false := by simp [he]
        have hro := HRO.out
        rw [if_neg (by simp [he])] at hro
        have HRO2 := Lib.hid hro; clear hro he HRO
        go_wp2_with fail
        refine Ord.St.door (fun _ => True) [.rd, .fl, .fl, .ef, .fl, .fl] [0, 0, 2, 7, 15, 31] [0, 1, 2, 3, 4, 5] mixed (by kernel_rfl) rfl ?_
        refine Ord.St.rd2 (T' := ?_) 0 [1, 2, 3, 4, 5] _ _ rfl (by kernel_rfl) rfl rfl rfl rfl (fun K hk => ?_) ?_
        rotate_left
        · go_step; exact hk
        refine Ord.St.fl2 (T' := ?_) 1 [2, 3, 4, 5] _ _ rfl (by kernel_rfl) rfl rfl rfl rfl (fun K w' hk => ?_) ?_
        rotate_left
        · go_step; exact hk
        refine Ord.St.fl2 (T' := ?_) 2 [3, 4, 5] _ _ rfl (by kernel_rfl) rfl rfl rfl rfl (fun K w' hk => ?_) ?_
        rotate_left
        · go_step; refine (HNR.out _).mono ?_; rintro e w'' ⟨rfl, rfl⟩; exact hk
        refine Ord.St.ef 3 [4, 5] _ rfl (by kernel_rfl) (fun K hK => ?_)
        go_wp2_with fail
        refine ⟨rfl, hK _ _ ?_⟩; clear hK K
        refine Ord.St.fl2 (T' := ?_) 4 [5] _ _ rfl (by kernel_rfl) rfl rfl rfl rfl (fun K w' hk => ?_) ?_
        rotate_left
        · go_step; exact hk
        refine Ord.St.fl2 (T' := ?_) 5 [] _ _ rfl (by kernel_rfl) rfl rfl rfl rfl (fun K w' hk => ?_) ?_
        rotate_left
        · go_step; exact hk
        refine Ord.St.nil ?_
        go_wp2_with fail
        have hcc : Ch [w.heap.size + 1] W6 ((W6.setCell ⟨w.heap.size + 1, 0, none⟩ (.int .i64 X.1.most)).setCell ⟨w.heap.size + 1, 1, none⟩ (.slice (some ⟨rb1, 0, none⟩) X.1.nodes.length cap1)).drew := (((Ch.refl _ _).setCell (by simp) _).setCell (by simp) _).drew
        refine bodyPost_ret (v := .tuple #[.agg #[.int .i64 X.1.most, .slice (some ⟨rb1, 0, none⟩) X.1.nodes.length cap1], .int .i64 (neg X.2.1 : Nat), .int .i64 0]) (by simp [results, Tryz.results354, go_sem, v0, v1]) rfl ?_
        rw [HRO2.out]
        exact ⟨rb1, cap1, rfl, RX.out.ch hcc (by simp; omega), HC6.out.trans hcc (fun k hk => .inr (by simp at hk; omega)), by omega⟩
      · have q : ((X.2.2 : Int) != 0) = true := by simp [he]
        have hro := HRO.out
        rw [if_pos (by simp [he])] at hro
        have HRO2 := Lib.hid hro; clear hro he HRO
        go_wp2_with fail
        have hcc := set2_ch (w := W6) (b := w.heap.size + 1) (u := .int .i64 G.most) (v := .slice (some ⟨rb, 0, none⟩) G.nodes.length cap) rfl
        refine bodyPost_ret (v := .tuple #[.agg #[.int .i64 G.most, .slice (some ⟨rb, 0, none⟩) G.nodes.length cap], .int .i64 0, .int .i64 X.2.2]) (by simp [results, Tryz.results354, go_sem, v0, v1]) rfl ?_
        rw [HRO2.out]
        exact RTo.self H.out (HC6.out.trans hcc (fun k hk => .inr (by simp at hk; omega))) 0 X.2.2
end
end Go.Proofs.YtehljgigebhddaaGreat
namespace Go.Proofs.YtehljgigebhddaaGreat
open Go.RowKit Go.Mem Go.Aig
section
end
theorem Sl.of_ints {w : World} {e : TypeId} {a : Option Addr} {n cap : Nat} {l : List Int} (h : row w e 1 (.slice a n cap) n (intCells l)) (hn : n ≤ 1000000) : Sl w a l := by
  have hlen : l.length = n := by have := h.1; simpa [intCells] using this
  refine ⟨fun i x hx => ?_, by omega⟩
  obtain ⟨gb, go, hge, gc⟩ := (row.sv h rfl hn).cells i (.int .i64 x) (by simp [intCells, hx])
  exact ⟨gb, go, hge, gc⟩
theorem Eqref_same {w : World} {a b : Option Addr} {n : Nat} {l : List Int} (ca cb : Nat) (hn : l.length = n) (hx : Sl w a l) (hy : Sl w b l) : Calls Tryz.prog 56 #[.slice a n ca, .slice b n cb] w fun e w' => e = .returned (.bool true) ∧ Ch [] w w' := by
  subst hn
  have := Eqref_is ca cb hx hy
  rw [decide_eq_true rfl] at this
  exact this
theorem Eqint_same {w : World} {a b : Option Addr} {n : Nat} {l : List Int} (ca cb : Nat) (hn : l.length = n) (hx : Sl w a l) (hy : Sl w b l) : Calls Tryz.prog 220 #[.slice a n ca, .slice b n cb] w fun e w' => e = .returned (.bool true) ∧ Ch [] w w' := by
  subst hn
  have := Eqint_is ca cb hx hy
  rw [decide_eq_true rfl] at this
  exact this
end Go.Proofs.YtehljgigebhddaaGreat
namespace Go.Aig
theorem and_err {G : Gra} {a b : Nat} (h : (and G a b).2.2 ≠ 0) : and G a b = (G, 0, (and G a b).2.2) := by
  unfold and at h ⊢
  split
  · rename_i r hi; rw [hi] at h; exact absurd rfl h
  · rename_i l r hi
    rw [hi] at h
    dsimp only at h
    cases hf : findAnd G.nodes l r with
    | some n => rw [hf] at h; exact absurd rfl h
    | none =>
      rw [hf] at h
      dsimp only at h ⊢
      unfold put at h ⊢
      split
      · rfl
      · rename_i hm; rw [if_neg hm] at h; exact absurd rfl h
theorem any_no {ns : List Nd} {l : List Int} (h : ∀ x ∈ l, right ns x = true) : (l.any fun r => !right ns r) = false := by
  rw [List.any_eq_false]
  intro x hx
  rw [h x hx]; simp
theorem whole_ok {G : Gra} {l : List Int} (h : ∀ x ∈ l, right G.nodes x = true) (f : Mk → Mk × Nat) : whole G l f = if (f (G, 0)).1.2 ≠ 0 then (G, 0, (f (G, 0)).1.2) else ((f (G, 0)).1.1, (f (G, 0)).2, 0) := by
  unfold whole
  rw [any_no h, if_neg (by simp)]
theorem mand_zero (G : Gra) (a b : Nat) : mand (G, 0) a b = (((and G a b).1, (and G a b).2.2), (and G a b).2.1) := by unfold mand; rw [if_neg (by simp)]
theorem mand_bad {s : Mk} (h : s.2 ≠ 0) (a b : Nat) : mand s a b = (s, 0) := by unfold mand; rw [if_pos h]
theorem mand_fine {s : Mk} (h : s.2 = 0) (a b : Nat) : mand s a b = (((and s.1 a b).1, (and s.1 a b).2.2), (and s.1 a b).2.1) := by unfold mand; rw [if_neg (by simp [h])]
theorem whole_and {G : Gra} {l : List Int} (h : ∀ x ∈ l, right G.nodes x = true) (a b : Nat) : whole G l (fun s => mand s a b) = and G a b := by
  rw [whole_ok h, mand_zero]
  dsimp only
  split
  · rename_i he; exact (and_err he).symm
  · rename_i he
    simp only [ne_eq, Decidable.not_not] at he
    rw [← he]
theorem mall_bad : ∀ (l : List Nat) {s : Mk} (out : Nat), s.2 ≠ 0 → (mall s out l).1 = s
  | [], _, _, _ => rfl
  | r :: l, s, out, h => by
    unfold mall
    rw [mand_bad h]
    exact mall_bad l 0 h
theorem mall_from (G0 : Gra) : ∀ (l : List Nat) (G : Gra) (out : Nat), (if (mall (G, 0) out l).1.2 ≠ 0 then (G0, 0, (mall (G, 0) out l).1.2) else ((mall (G, 0) out l).1.1, (mall (G, 0) out l).2, 0) : Res) = rAllFrom G0 G out l
  | [], G, out => by simp [mall, rAllFrom]
  | r :: l, G, out => by
    unfold mall rAllFrom
    rw [mand_zero]
    dsimp only
    by_cases he : (and G out r).2.2 ≠ 0
    · rw [if_pos he]
      rw [mall_bad l _ (s := ((and G out r).1, (and G out r).2.2)) he, if_pos he]
    · rw [if_neg he]
      have he' : (and G out r).2.2 = 0 := by simpa using he
      rw [he']
      exact mall_from G0 l _ _
theorem whole_all {G : Gra} {l : List Int} (h : ∀ x ∈ l, right G.nodes x = true) (ns : List Nat) : whole G l (fun s => mall s 1 ns) = rAll G ns := by
  rw [whole_ok h]
  exact mall_from G ns G 1
theorem whole_any {G : Gra} {l : List Int} (h : ∀ x ∈ l, right G.nodes x = true) (ns : List Nat) : whole G l (fun s => many s ns) = rAny G ns := by
  rw [whole_ok h]
  unfold many rAny rAll
  rw [← mall_from G (ns.map neg) G 1]
  by_cases he : (mall (G, 0) 1 (ns.map neg)).1.2 ≠ 0
  · simp only [if_pos he]
  · simp only [if_neg he]; simp
theorem whole_mux {G : Gra} {l : List Int} (h : ∀ x ∈ l, right G.nodes x = true) (c a b : Nat) : whole G l (fun s => mmux s c a b) = rMux G c a b := by
  rw [whole_ok h]
  unfold mmux rMux mor
  dsimp only
  rw [mand_zero]
  dsimp only
  generalize and G c a = X
  unfold rThen
  by_cases h1 : X.2.2 ≠ 0
  · rw [if_pos h1]
    simp only [mand_bad (s := (X.1, X.2.2)) h1]
    rw [if_pos h1]
  · rw [if_neg h1]
    have e1 : X.2.2 = 0 := by simpa using h1
    simp only [mand_fine (s := (X.1, X.2.2)) e1]
    generalize and X.1 (neg c) b = Y
    by_cases h2 : Y.2.2 ≠ 0
    · rw [if_pos h2]
      simp only [mand_bad (s := (Y.1, Y.2.2)) h2]
      rw [if_pos h2]
    · rw [if_neg h2]
      have e2 : Y.2.2 = 0 := by simpa using h2
      simp only [mand_fine (s := (Y.1, Y.2.2)) e2]
      unfold rOr
      by_cases h3 : (and Y.1 (neg X.2.1) (neg Y.2.1)).2.2 ≠ 0
      · simp only [if_pos h3]
      · simp only [if_neg h3]; simp
theorem right_nat {ns : List Nd} {x : Int} (h : right ns x = true) : ∃ r : Nat, x = r ∧ r < 2 * ns.length := by
  unfold right at h
  have := of_decide_eq_true h
  exact ⟨x.toNat, by omega, by omega⟩
end Go.Aig
namespace Go.Proofs.YtehljgigebhddaaGreat
open Go.RowKit Go.Mem Go.Aig
section
end
end Go.Proofs.YtehljgigebhddaaGreat
namespace Go.Aig
def rstep (s : Mk) (R : Res) : Mk × Nat := if s.2 ≠ 0 then (s, 0) else if R.2.2 ≠ 0 then ((s.1, R.2.2), 0) else ((R.1, 0), R.2.1)
def mput (s : Mk) (R : Res) : Mk × Nat := ((R.1, if s.2 = 0 then R.2.2 else s.2), R.2.1)
structure RFull (G : Gra) (R : Res) : Prop where
  ok : ROk G R
  keep : R.2.2 ≠ 0 → R = (G, 0, 201)
theorem and_full {G : Gra} (h : Ok G) {a b : Nat} (ha : a < 2 * G.nodes.length) (hb : b < 2 * G.nodes.length) : RFull G (and G a b) := by
  refine ⟨and_rok h ha hb, fun he => ?_⟩
  have h1 := and_err he
  have h2 := (and_rok h ha hb).err
  rw [h1]
  rcases h2 with e | e
  · exact absurd e he
  · rw [e]
theorem rMux_full {G : Gra} (h : Ok G) {c a b : Nat} (hc : c < 2 * G.nodes.length) (ha : a < 2 * G.nodes.length) (hb : b < 2 * G.nodes.length) : RFull G (rMux G c a b) := by
  have h1 := and_rok h hc ha
  have h2 := and_rok h1.ok (h1.ext.lt (neg_lt hc)) (h1.ext.lt hb)
  have h3 := rOr_rok h2.ok (h2.ext.lt h1.lt) h2.lt
  have hk : ∀ X Y : Res, (X.2.2 = 0 ∨ X.2.2 = 201) → (Y.2.2 ≠ 0 → Y = (G, 0, 201)) → (rThen G X Y).2.2 ≠ 0 → rThen G X Y = (G, 0, 201) := fun X Y hX hY he => by
    unfold rThen at he ⊢
    split
    · rcases hX with e | e
      · rename_i h3; exact absurd e h3
      · rw [e]
    · rename_i h3; rw [if_neg h3] at he; exact hY he
  refine ⟨rMux_rok h hc ha hb, ?_⟩
  unfold rMux
  refine hk _ _ h1.err (hk _ _ h2.err (hk _ _ h3.err ?_))
  intro he; exact absurd rfl he
theorem rXor_full {G : Gra} (h : Ok G) {a b : Nat} (ha : a < 2 * G.nodes.length) (hb : b < 2 * G.nodes.length) : RFull G (rXor G a b) := rMux_full h ha (neg_lt hb) hb
theorem rAllFrom_err (G0 : Gra) (h0 : Ok G0) : ∀ (l : List Nat) {G : Gra} {out : Nat}, Ok G → out < 2 * G.nodes.length → (∀ r ∈ l, r < 2 * G.nodes.length) → (rAllFrom G0 G out l).2.2 ≠ 0 → rAllFrom G0 G out l = (G0, 0, 201)
  | [], G, out, _, _, _, he => absurd rfl he
  | r :: l, G, out, h, ho, hl, he => by
    have h1 := and_rok h ho (hl r (by simp))
    unfold rAllFrom at he ⊢
    split
    · rcases h1.err with e | e
      · rename_i h3; exact absurd e h3
      · rw [e]
    · rename_i h3
      rw [if_neg h3] at he
      exact rAllFrom_err G0 h0 l h1.ok h1.lt (fun x hx => h1.ext.lt (hl x (by simp [hx]))) he
theorem rAll_full {G : Gra} (h : Ok G) {l : List Nat} (hl : ∀ r ∈ l, r < 2 * G.nodes.length) : RFull G (rAll G l) :=
  ⟨rAll_rok h hl, rAllFrom_err G h l h (by have := h.wf.pos; omega) hl⟩
theorem rAny_full {G : Gra} (h : Ok G) {l : List Nat} (hl : ∀ r ∈ l, r < 2 * G.nodes.length) : RFull G (rAny G l) := by
  refine ⟨rAny_rok h hl, fun he => ?_⟩
  have h2 := (rAll_rok h (negs_lt hl)).err
  unfold rAny at he ⊢
  split
  · rcases h2 with e | e
    · rename_i h3; exact absurd e h3
    · rw [e]
  · rename_i h3; rw [if_neg h3] at he; exact absurd rfl he
theorem put_full {G : Gra} (h : Ok G) : RFull G (put G ⟨2, 0, 0, 0⟩) := by
  have hp := h.wf.pos
  unfold put
  split
  · exact ⟨⟨h, .refl _, by show 0 < 2 * G.nodes.length; omega, .inr rfl⟩, fun _ => rfl⟩
  · rename_i hm
    exact ⟨⟨⟨h.wf.input, by simp; omega, h.most⟩, ⟨rfl, _, rfl⟩, by simp, .inl rfl⟩, fun he => absurd rfl he⟩
structure Sim (G0 : Gra) (P R : Mk) : Prop where
  ok : Ok P.1
  ext : Ext G0 P.1
  rel : (R.2 = 0 ∧ P = R) ∨ (R.2 = 201 ∧ P.2 = 201)
  rok : Ok R.1
  rext : Ext G0 R.1
theorem Sim.start {G : Gra} (h : Ok G) : Sim G (G, 0) (G, 0) := ⟨h, .refl _, .inl ⟨rfl, rfl⟩, h, .refl _⟩
theorem rstep_bad {s : Mk} (h : s.2 ≠ 0) (R : Res) : rstep s R = (s, 0) := by unfold rstep; rw [if_pos h]
theorem rstep_no {s : Mk} (h : s.2 = 0) {R : Res} (hR : R.2.2 ≠ 0) : rstep s R = ((s.1, R.2.2), 0) := by unfold rstep; rw [if_neg (by simp [h]), if_pos hR]
theorem rstep_ok {s : Mk} (h : s.2 = 0) {R : Res} (hR : R.2.2 = 0) : rstep s R = ((R.1, 0), R.2.1) := by unfold rstep; rw [if_neg (by simp [h]), if_neg (by simp [hR])]
theorem mput_bad {s : Mk} (h : s.2 ≠ 0) (R : Res) : mput s R = ((R.1, s.2), R.2.1) := by unfold mput; rw [if_neg h]
theorem mput_ok {s : Mk} (h : s.2 = 0) (R : Res) : mput s R = ((R.1, R.2.2), R.2.1) := by unfold mput; rw [if_pos h]
theorem Sim.step {G0 : Gra} {P R : Mk} (h : Sim G0 P R) {X Y : Res} (hX : RFull P.1 X) (he : R.2 = 0 → P = R → X = Y) :
    Sim G0 (mput P X).1 (rstep R Y).1 ∧ (mput P X).2 < 2 * (mput P X).1.1.nodes.length ∧ (rstep R Y).2 < 2 * (rstep R Y).1.1.nodes.length ∧ ((rstep R Y).1.2 = 0 → (mput P X).2 = (rstep R Y).2) ∧ Ext P.1 (mput P X).1.1 ∧ Ext R.1 (rstep R Y).1.1 ∧ (R.2 ≠ 0 → (rstep R Y).1.2 ≠ 0) := by
  have hrp := h.rok.wf.pos
  rcases h.rel with ⟨e0, e1⟩ | ⟨e0, e1⟩
  · have e2 := he e0 e1
    subst e2; subst e1
    by_cases hx : X.2.2 = 0
    · rw [rstep_ok e0 hx, mput_ok e0, hx]
      exact ⟨⟨hX.ok.ok, h.ext.trans hX.ok.ext, .inl ⟨rfl, rfl⟩, hX.ok.ok, h.ext.trans hX.ok.ext⟩, hX.ok.lt, hX.ok.lt, fun _ => rfl, hX.ok.ext, hX.ok.ext, fun hz => absurd e0 hz⟩
    · rw [rstep_no e0 hx, mput_ok e0, hX.keep hx]
      show Sim G0 (P.1, 201) (P.1, 201) ∧ 0 < 2 * P.1.nodes.length ∧ 0 < 2 * P.1.nodes.length ∧ ((201 : Nat) = 0 → (0 : Nat) = 0) ∧ Ext P.1 P.1 ∧ Ext P.1 P.1 ∧ (P.2 ≠ 0 → (201 : Nat) ≠ 0)
      exact ⟨⟨h.ok, h.ext, .inr ⟨rfl, rfl⟩, h.rok, h.rext⟩, by omega, by omega, fun _ => rfl, .refl _, .refl _, fun _ => by omega⟩
  · rw [rstep_bad (by omega), mput_bad (by omega)]
    exact ⟨⟨hX.ok.ok, h.ext.trans hX.ok.ext, .inr ⟨e0, e1⟩, h.rok, h.rext⟩, hX.ok.lt, by show 0 < 2 * R.1.nodes.length; omega, fun hz => absurd (show R.2 = 0 from hz) (by omega), hX.ok.ext, .refl _, fun hz => hz⟩
/-! ### the operations of the reference on a state -/
def sAnd (s : Mk) (a b : Nat) : Mk × Nat := rstep s (and s.1 a b)
def sOr (s : Mk) (a b : Nat) : Mk × Nat := rstep s (rOr s.1 a b)
def sXor (s : Mk) (a b : Nat) : Mk × Nat := rstep s (rXor s.1 a b)
def sMux (s : Mk) (c a b : Nat) : Mk × Nat := rstep s (rMux s.1 c a b)
def sAny (s : Mk) (l : List Nat) : Mk × Nat := rstep s (rAny s.1 l)
def sPut (s : Mk) : Mk × Nat := rstep s (put s.1 ⟨2, 0, 0, 0⟩)
def eachS (op : Mk → Nat → Nat → Mk × Nat) (q : Mk × List Nat) (p : Nat × Nat) : Mk × List Nat := ((op q.1 p.1 p.2).1, q.2 ++ [(op q.1 p.1 p.2).2])
def eachF (op : Mk → Nat → Nat → Mk × Nat) (s : Mk) (l : List (Nat × Nat)) : Mk × List Nat := l.foldl (eachS op) (s, [])
def sumS (n : Nat) (q : Mk × List Nat × Nat) (p : Nat × Nat) : Mk × List Nat × Nat :=
  let x := sXor q.1 p.1 p.2
  let r := sXor x.1 x.2 q.2.2
  if q.2.1.length + 1 < n then
    let both := sAnd r.1 p.1 p.2
    let more := sAnd both.1 x.2 q.2.2
    let next := sOr more.1 both.2 more.2
    (next.1, q.2.1 ++ [r.2], next.2)
  else (r.1, q.2.1 ++ [r.2], q.2.2)
def sumF (n : Nat) (s : Mk) (l : List (Nat × Nat)) (c : Nat) : Mk × List Nat × Nat := l.foldl (sumS n) (s, [], c)
def ltS (q : Mk × Nat) (p : Nat × Nat) : Mk × Nat := sMux (sXor q.1 p.1 p.2).1 (sXor q.1 p.1 p.2).2 p.2 q.2
def ltF (s : Mk) (l : List (Nat × Nat)) : Mk × Nat := l.foldl ltS (s, 0)
def inS (q : Mk × List Nat) : Mk × List Nat := ((sPut q.1).1, q.2 ++ [(sPut q.1).2])
def inF (s : Mk) : Nat → Mk × List Nat
  | 0 => (s, [])
  | n + 1 => inS (inF s n)
end Go.Aig
