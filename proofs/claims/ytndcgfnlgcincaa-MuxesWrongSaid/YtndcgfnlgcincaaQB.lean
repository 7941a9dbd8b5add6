/-
  Contracts of functions that MuxesWrong reaches, and plain facts (part B). Conditions: the hypotheses of each theorem.
-/
import Derived.Test.YtndcgfnlgcincaaQA
import Derived.Laws.Cover3
import Derived.RangeFuncNested
import Derived.RangeFuncBound
import Derived.RangeFuncCalls
import Derived.RangeFuncLeaves
import Derived.Shelf.Abstract
import Derived.Shelf.RegionOpen
import Derived.WalkKit
import Derived.OwnWalkIn
import Derived.TacticsInMore
import Derived.LoopNIn
import Derived.LoopIn
import Derived.Laws.ResultCell
import Derived.Deep.Cut
import Derived.RangeFuncFrom
import Derived.Laws.BitsAllLaws
import Derived.Test.YtndcgfnlgcincaaRows
import Derived.ProofKit
import Derived.OpenShut
import Derived.ChangeOld
import Derived.Below
import Derived.Carry
import Derived.Deep.Slices
import Derived.Deep.Fields
namespace Go.Proofs.Ytndcgfnlgcincaa
open Go.RowKit Go.Mem Go.Aig

def GIn (w : World) (g : Nat) (G : Gra) (F : List Nat) : Prop := ∃ nb ncap iv mb, GM w g G nb ncap iv mb ∧ F = fp g nb mb iv
def GTo (w : World) (g : Nat) (G : Gra) (F : List Nat) (w' : World) : Prop := ∃ F', GIn w' g G F' ∧ Ch F w w' ∧ (∀ k ∈ F', k ∈ F ∨ w.heap.size ≤ k) ∧ F'[2]? = F[2]?
theorem GIn.ok {w : World} {g : Nat} {G : Gra} {F : List Nat} (h : GIn w g G F) : Ok G := by obtain ⟨_, _, _, _, h, _⟩ := h; exact h.ok
theorem GIn.same {w w' : World} {g : Nat} {G : Gra} {F F' : List Nat} (h : GIn w g G F) (hc : Ch F' w w') (hF : ∀ k ∈ F, k ∉ F') : GIn w' g G F := by
  obtain ⟨nb, ncap, iv, mb, h, rfl⟩ := h
  exact ⟨nb, ncap, iv, mb, h.ch hc hF, rfl⟩
theorem GIn.lt {w : World} {g : Nat} {G : Gra} {F : List Nat} (h : GIn w g G F) : ∀ k ∈ F, k < w.heap.size := by
  obtain ⟨nb, ncap, iv, mb, h, rfl⟩ := h
  obtain ⟨h1, h2, h3, h4⟩ := h.lt
  intro k hk
  simp only [fp, List.mem_cons, Option.mem_toList] at hk
  rcases hk with rfl | rfl | rfl | hk
  · exact h1
  · exact h2
  · exact h3
  · exact h4 k hk
theorem GTo.same {w w' : World} {g : Nat} {G : Gra} {F : List Nat} (h : GIn w g G F) (hc : Ch [] w w') : GTo w g G F w' :=
  ⟨F, h.same hc (by simp), hc.mono (by simp), fun _ hk => .inl hk, rfl⟩
theorem GTo.of {w w' : World} {g : Nat} {G : Gra} {nb nb' ncap' : Nat} {iv iv' : Value} {mb : Nat} (h : GM w' g G nb' ncap' iv' mb) (hc : Ch (fp g nb mb iv) w w') (hn : nb' = nb ∨ w.heap.size ≤ nb') (hi : ∀ k, iv'.ownBlock = some k → iv.ownBlock = some k ∨ w.heap.size ≤ k) : GTo w g G (fp g nb mb iv) w' := by
  refine ⟨_, ⟨_, _, _, _, h, rfl⟩, hc, fun k hk => ?_, rfl⟩
  simp only [fp, List.mem_cons, Option.mem_toList] at hk ⊢
  rcases hk with rfl | rfl | rfl | hk
  · simp
  · rcases hn with e | e
    · simp [e]
    · exact .inr e
  · simp
  · rcases hi k hk with e | e
    · simp [e]
    · exact .inr e

theorem fnvMake1 : Fnv 78 := fnv_of Try.func78 (by simp [Try.f78]) (by simp [Try.f78])
section
variable {w : World} {g : Nat} {G : Gra} {nb ncap : Nat} {iv : Value} {mb : Nat}
set_option maxRecDepth 100000 in
set_option maxHeartbeats 1000000 in
theorem make1_is (h : GM w g G nb ncap iv mb) {bx : Nat} (hb : w.cell? ⟨bx, 0, none⟩ = some (.pointer (some ⟨g, 0, none⟩))) (r : Int) (hr : r ≤ 9223372036854775807) :
    Calls Try.prog 78 (#[.int .i64 r] ++ #[.pointer (some ⟨bx, 0, none⟩)]) w fun e w' => e = .returned (.bool (!right G.nodes r)) ∧ w = w' := by
  show Calls Try.prog 78 #[.int .i64 r, .pointer (some ⟨bx, 0, none⟩)] w _
  have HR := Right_is h r hr
  clear h
  generalize right G.nodes r = q at *
  go_enter Try.func78, Try.ntmps78
  go_wp2_with fail
  refine HR.mono ?_
  rintro e w' ⟨rfl, rfl⟩
  go_wp2_with fail
  go_ret
  exact ⟨ret_bool rfl, rfl⟩

set_option maxRecDepth 100000 in
set_option maxHeartbeats 2000000 in
theorem make_is (h : GM w g G nb ncap iv mb) {a : Option Addr} {l : List Int} (cap : Nat) (hl : Sl w a l) (hlb : ∀ x ∈ l, x ≤ 9223372036854775807) (halt : ∀ p, a = some p → p.block < w.heap.size) (fid : Nat) (caps : Array Value) (hfn : Fnv fid) (f : Mk → Mk × Nat)
    (hf : (∀ x ∈ l, right G.nodes x = true) → ∀ W m, w.heap.size ≤ m → Ch [] w W → MS W g m (G, 0) nb ncap iv mb → Calls Try.prog fid (#[.pointer (some ⟨m, 0, none⟩)] ++ caps) W fun e w' => e = .returned (.int .i64 (f (G, 0)).2) ∧ ∃ nb' ncap', MStep W g m (f (G, 0)).1 nb iv mb nb' ncap' w')
    (hext : (∀ x ∈ l, right G.nodes x = true) → MOk (f (G, 0)).1 ∧ Ext G (f (G, 0)).1.1) :
    Calls Try.prog 63 #[.pointer (some ⟨g, 0, none⟩), .func (.func fid) #[] caps, .slice a l.length cap] w fun e w' => e = .returned (.tuple #[.int .i64 (whole G l f).2.1, .int .i64 (whole G l f).2.2]) ∧ GTo w g (whole G l f).1 (fp g nb mb iv) w' := by
  have hl0 := h.lt
  have hg := h.lt.1
  have hp : ∀ x, right G.nodes x = !(!right G.nodes x) := fun x => by simp
  have hW1 : Ch [] w (w.alloc (.cells #[.pointer (some ⟨g, 0, none⟩)] 23)) := (Ch.refl _ _).alloc _
  have H1 := h.ch hW1 (by simp)
  have b1 : (w.alloc (.cells #[.pointer (some ⟨g, 0, none⟩)] 23)).cell? ⟨w.heap.size, 0, none⟩ = some (.pointer (some ⟨g, 0, none⟩)) := by go_simp
  have HN := none_no H1
  have hl1 : Sl (w.alloc (.cells #[.pointer (some ⟨g, 0, none⟩)] 23)) a l := ⟨fun i x hx => by
    obtain ⟨b, o, hao, hc⟩ := hl.cells i x hx
    exact ⟨b, o, hao, (hW1.cell (p := ⟨b, o + i, none⟩) (halt ⟨b, o, none⟩ hao) (by simp)).trans hc⟩, hl.bd⟩
  have HC := CFref_is cap 78 #[.pointer (some ⟨w.heap.size, 0, none⟩)] (fun x => !right G.nodes x) hl1 (fun x hx => make1_is H1 b1 x (hlb x hx)) fnvMake1
  have H := Lib.hid h; clear h
  have HH1 := Lib.hid H1; clear H1
  clear hl1 b1 hl
  unfold whole
  cases hany : l.any fun x => !right G.nodes x
  · have hright : ∀ x ∈ l, right G.nodes x = true := by simpa using hany
    rw [hany] at HC
    rw [if_neg (by simp)]
    have HF := hf hright
    obtain ⟨ho, hx⟩ := hext hright
    have hoe := ho.err
    have HO := Lib.hid ho; clear ho
    have HX := Lib.hid hx; clear hx
    have HR := Lib.hid hright; clear hright
    clear hf hext
    have hgs := H.out.ok.room
    have hgm := H.out.ok.most
    have hgp := H.out.ok.wf.pos
    have h1m : G.nodes.length ≤ 65536 := by omega
    clear hgs hgm
    have cG := H.out.c
    obtain ⟨c0, c1, c2, c3⟩ := cG
    generalize hR : f (G, 0) = R at *
    clear hR
    dsimp only
    generalize hWW : (if R.1.2 ≠ 0 then (G, 0, R.1.2) else (R.1.1, R.2, 0) : Res) = WW
    have HWW := Lib.hid hWW; clear hWW
    have hms : MS ((w.alloc (.cells #[.pointer (some ⟨g, 0, none⟩)] 23)).alloc (.cells #[.pointer (some ⟨g, 0, none⟩), .int .i64 0] 125)) g (w.heap.size + 1) (G, 0) nb ncap iv mb := by
      have hc : Ch [] w ((w.alloc (.cells #[.pointer (some ⟨g, 0, none⟩)] 23)).alloc (.cells #[.pointer (some ⟨g, 0, none⟩), .int .i64 0] 125)) := hW1.alloc _
      refine ⟨H.out.ch hc (by simp), blk.new' _ _ (by simp), ?_, ⟨H.out.ok, .inl rfl⟩⟩
      intro hm
      have := GIn.lt ⟨nb, ncap, iv, mb, H.out, rfl⟩ _ hm
      omega
    have HM := Lib.hid hms; clear hms
    have HW2 := Lib.hid (hW1.alloc (.cells #[.pointer (some ⟨g, 0, none⟩), .int .i64 0] 125)); clear hW1
    have hcf : ∀ args w, (callFunc fid args).run Try.prog w = .ok (.enter fid args) w := hfn
    have HF2 := HF _ (w.heap.size + 1) (by omega) HW2.out HM.out
    clear HF
    go_enter Try.func63, Try.ntmps63
    go_wp2_with fail
    refine HN.mono ?_
    rintro e w' ⟨rfl, rfl⟩
    go_wp2_with fail
    refine HC.mono ?_
    rintro e w' ⟨rfl, rfl⟩
    go_wp2_with fail
    refine HF2.mono ?_
    rintro e w3 ⟨rfl, nb', ncap', hs⟩
    have hgm3 := hs.ms.gm
    have hz3 := hs.ch.size
    simp at hz3
    have hfre : nb' = nb ∨ w.heap.size ≤ nb' := by
      rcases hs.fresh with e | e
      · exact .inl e
      · simp at e; omega
    have m1 : w3.cell? ⟨w.heap.size + 1, 1, none⟩ = some (.int .i64 R.1.2) := hs.ms.bk.cell rfl
    have hmn : w.heap.size + 1 < w3.heap.size := hs.ms.bk.lt
    have hb0 : w3.cell? ⟨w.heap.size, 0, none⟩ = some (.pointer (some ⟨g, 0, none⟩)) := by
      rw [hs.ch.cell (by simp; omega) (by
        have := GIn.lt ⟨nb, ncap, iv, mb, H.out, rfl⟩
        have h1 := this nb (by simp [fp]); have h2 := this mb (by simp [fp])
        simp; omega)]
      go_simp
    have hchw : Ch (fp g nb mb iv) w w3 := (HW2.out.mono (by simp)).trans hs.ch (fun k hk => by
      simp only [List.mem_cons, List.not_mem_nil, or_false] at hk
      rcases hk with rfl | rfl | rfl | rfl
      · simp [fp]
      · simp [fp]
      · simp [fp]
      · right; omega)
    have HS := Lib.hid hs; clear hs
    have HG3 := Lib.hid hgm3; clear hgm3
    have HCW := Lib.hid hchw; clear hchw
    rcases hoe with he | he
    · rw [he] at m1
      have HE := Lib.hid he; clear he
      go_wp2_with fail
      go_ret2
      have hw := HWW.out
      rw [if_neg (by rw [HE.out]; simp)] at hw
      subst hw
      exact ⟨rfl, GTo.of HG3.out HCW.out hfre (fun k hk => .inl hk)⟩
    · rw [he] at m1
      have HE := Lib.hid he; clear he
      have hcut := Cut_is HG3.out G.nodes.length hgp HX.out.len
      have HCUT := Lib.hid hcut; clear hcut
      go_wp2_with fail
      refine HCUT.out.mono ?_
      rintro e w4 ⟨rfl, iv', hgm4, hob, hch⟩
      have hm4 : w4.cell? ⟨w.heap.size + 1, 1, none⟩ = some (.int .i64 201) := (hch.cell (p := ⟨w.heap.size + 1, 1, none⟩) hmn HS.out.ms.apart).trans m1
      clear m1
      have HG4 := Lib.hid hgm4; clear hgm4
      have HC4 := Lib.hid hch; clear hch
      have HOB := Lib.hid hob; clear hob
      go_wp2_with fail
      refine Ord.St.door (fun _ => True) [.fl, .fl, .fl, .rd, .fl, .fl] [0, 1, 3, 7, 0, 31] [0, 1, 2, 3, 4, 5] mixed (by kernel_rfl) rfl ?_
      refine Ord.St.fl2 (T' := ?_) 0 [1, 2, 3, 4, 5] _ _ rfl (by kernel_rfl) rfl rfl rfl rfl (fun K w' hk => ?_) ?_
      rotate_left
      · go_step; exact hk
      refine Ord.St.fl2 (T' := ?_) 1 [2, 3, 4, 5] _ _ rfl (by kernel_rfl) rfl rfl rfl rfl (fun K w' hk => ?_) ?_
      rotate_left
      · go_step; exact hk
      refine Ord.St.fl2 (T' := ?_) 2 [3, 4, 5] _ _ rfl (by kernel_rfl) rfl rfl rfl rfl (fun K w' hk => ?_) ?_
      rotate_left
      · go_step; exact hk
      refine Ord.St.rd2 (T' := ?_) 3 [4, 5] _ _ rfl (by kernel_rfl) rfl rfl rfl rfl (fun K hk => ?_) ?_
      rotate_left
      · go_step; exact hk
      refine Ord.St.fl2 (T' := ?_) 4 [5] _ _ rfl (by kernel_rfl) rfl rfl rfl rfl (fun K w' hk => ?_) ?_
      rotate_left
      · go_step; exact hk
      refine Ord.St.fl2 (T' := ?_) 5 [] _ _ rfl (by kernel_rfl) rfl rfl rfl rfl (fun K w' hk => ?_) ?_
      rotate_left
      · go_step; exact hk
      refine Ord.St.nil ?_
      go_wp2_with fail
      go_ret2
      have ht : ({ R.1.1 with nodes := R.1.1.nodes.take G.nodes.length } : Gra) = G := by
        obtain ⟨e1, more, e2⟩ := HX.out
        show ({ most := R.1.1.most, nodes := R.1.1.nodes.take G.nodes.length } : Gra) = G
        rw [e1, e2, List.take_left]
      have hg4 := HG4.out
      rw [ht] at hg4
      have hw := HWW.out
      rw [if_pos (by rw [HE.out]; simp), HE.out] at hw
      subst hw
      refine ⟨rfl, ?_⟩
      refine GTo.of (hg4.ch (F := []) ((Ch.refl _ _).drew) (by simp)) (HCW.out.trans HC4.out.drew ?_) hfre (fun k hk => .inl (by rw [HOB.out] at hk; exact hk))
      intro k hk
      simp only [fp, List.mem_cons, Option.mem_toList] at hk ⊢
      rcases hk with rfl | rfl | rfl | hk
      · simp
      · rcases hfre with e | e
        · simp [e]
        · exact .inr e
      · simp
      · simp [hk]
  · rw [hany] at HC
    rw [if_pos rfl]
    go_enter Try.func63, Try.ntmps63
    go_wp2_with fail
    refine HN.mono ?_
    rintro e w' ⟨rfl, rfl⟩
    go_wp2_with fail
    refine HC.mono ?_
    rintro e w' ⟨rfl, rfl⟩
    go_wp2_with fail
    go_ret2
    exact ⟨rfl, GTo.same ⟨_, _, _, _, H.out, rfl⟩ hW1⟩
end
end Go.Proofs.Ytndcgfnlgcincaa
namespace Go.Proofs.Ytndcgfnlgcincaa
open Go.RowKit Go.Mem Go.Aig

theorem right_nat {ns : List Nd} {x : Int} (h : right ns x = true) : ∃ r : Nat, x = r ∧ r < 2 * ns.length := by
  unfold right at h
  have := of_decide_eq_true h
  exact ⟨x.toNat, by omega, by omega⟩
def doAnd (G : Gra) (a b : Int) : Res := whole G [a, b] fun s => mand s a.toNat b.toNat
def doXor (G : Gra) (a b : Int) : Res := whole G [a, b] fun s => mmux s a.toNat (neg b.toNat) b.toNat
def doMux (G : Gra) (c a b : Int) : Res := whole G [c, a, b] fun s => mmux s c.toNat a.toNat b.toNat
def doAll (G : Gra) (l : List Int) : Res := whole G l fun s => mall s 1 (l.map Int.toNat)
def doAny (G : Gra) (l : List Int) : Res := whole G l fun s => many s (l.map Int.toNat)
theorem fnvAnd1 : Fnv 64 := fnv_of Try.func64 (by simp [Try.f64]) (by simp [Try.f64])
theorem fnvXor1 : Fnv 91 := fnv_of Try.func91 (by simp [Try.f91]) (by simp [Try.f91])
theorem fnvMux1 : Fnv 76 := fnv_of Try.func76 (by simp [Try.f76]) (by simp [Try.f76])
theorem fnvAll1 : Fnv 68 := fnv_of Try.func68 (by simp [Try.f68]) (by simp [Try.f68])
theorem fnvAny1 : Fnv 90 := fnv_of Try.func90 (by simp [Try.f90]) (by simp [Try.f90])
section
variable {w : World} {g : Nat} {nb ncap : Nat} {iv : Value} {mb : Nat}
theorem MS.ch {w' : World} {m : Nat} {s : Mk} (h : MS w g m s nb ncap iv mb) (hc : Ch [] w w') : MS w' g m s nb ncap iv mb :=
  ⟨h.gm.ch hc (by simp), h.bk.ch hc (by simp), h.apart, h.ok⟩
theorem MStep.of {w0 w' : World} {m : Nat} {s : Mk} {nb' ncap' : Nat} (h : MStep w g m s nb iv mb nb' ncap' w') (hc : Ch [] w0 w) : MStep w0 g m s nb iv mb nb' ncap' w' :=
  ⟨h.ms, h.fresh.imp id (fun e => by have := hc.size; omega), (hc.mono (by simp)).trans h.ch (fun k hk => .inl hk)⟩

set_option maxRecDepth 100000 in
set_option maxHeartbeats 1000000 in
theorem And1_is {m : Nat} {s : Mk} (h : MS w g m s nb ncap iv mb) {a b : Nat} (ha : a < 2 * s.1.nodes.length) (hb : b < 2 * s.1.nodes.length) {x y : Nat} (bx : w.cell? ⟨x, 0, none⟩ = some (.int .i64 a)) (by' : w.cell? ⟨y, 0, none⟩ = some (.int .i64 b)) :
    Calls Try.prog 64 (#[.pointer (some ⟨m, 0, none⟩)] ++ #[.pointer (some ⟨x, 0, none⟩), .pointer (some ⟨y, 0, none⟩)]) w fun e w' => e = .returned (.int .i64 (mand s a b).2) ∧ ∃ nb' ncap', MStep w g m (mand s a b).1 nb iv mb nb' ncap' w' := by
  show Calls Try.prog 64 #[.pointer (some ⟨m, 0, none⟩), .pointer (some ⟨x, 0, none⟩), .pointer (some ⟨y, 0, none⟩)] w _
  have HA := mand_is h ha hb
  clear h ha hb
  generalize mand s a b = R at *
  go_enter Try.func64, Try.ntmps64
  go_wp2_with fail
  refine HA.mono ?_
  rintro e w' ⟨rfl, nb', ncap', hs⟩
  go_wp2_with fail
  go_ret
  exact ⟨rfl, nb', ncap', hs⟩

set_option maxRecDepth 100000 in
set_option maxHeartbeats 1000000 in
theorem Mux1_is {m : Nat} {s : Mk} (h : MS w g m s nb ncap iv mb) {c a b : Nat} (hc : c < 2 * s.1.nodes.length) (ha : a < 2 * s.1.nodes.length) (hb : b < 2 * s.1.nodes.length) {z x y : Nat} (bz : w.cell? ⟨z, 0, none⟩ = some (.int .i64 c)) (bx : w.cell? ⟨x, 0, none⟩ = some (.int .i64 a)) (by' : w.cell? ⟨y, 0, none⟩ = some (.int .i64 b)) :
    Calls Try.prog 76 (#[.pointer (some ⟨m, 0, none⟩)] ++ #[.pointer (some ⟨z, 0, none⟩), .pointer (some ⟨x, 0, none⟩), .pointer (some ⟨y, 0, none⟩)]) w fun e w' => e = .returned (.int .i64 (mmux s c a b).2) ∧ ∃ nb' ncap', MStep w g m (mmux s c a b).1 nb iv mb nb' ncap' w' := by
  show Calls Try.prog 76 #[.pointer (some ⟨m, 0, none⟩), .pointer (some ⟨z, 0, none⟩), .pointer (some ⟨x, 0, none⟩), .pointer (some ⟨y, 0, none⟩)] w _
  have HA := mmux_is h hc ha hb
  clear h ha hb
  generalize mmux s c a b = R at *
  go_enter Try.func76, Try.ntmps76
  go_wp2_with fail
  refine HA.mono ?_
  rintro e w' ⟨rfl, nb', ncap', hs⟩
  go_wp2_with fail
  go_ret
  exact ⟨rfl, nb', ncap', hs⟩

set_option maxRecDepth 100000 in
set_option maxHeartbeats 1000000 in
theorem Xor1_is {m : Nat} {s : Mk} (h : MS w g m s nb ncap iv mb) {a b : Nat} (ha : a < 2 * s.1.nodes.length) (hb : b < 2 * s.1.nodes.length) {x y : Nat} (bx : w.cell? ⟨x, 0, none⟩ = some (.int .i64 a)) (by' : w.cell? ⟨y, 0, none⟩ = some (.int .i64 b)) :
    Calls Try.prog 91 (#[.pointer (some ⟨m, 0, none⟩)] ++ #[.pointer (some ⟨x, 0, none⟩), .pointer (some ⟨y, 0, none⟩)]) w fun e w' => e = .returned (.int .i64 (mmux s a (neg b) b).2) ∧ ∃ nb' ncap', MStep w g m (mmux s a (neg b) b).1 nb iv mb nb' ncap' w' := by
  show Calls Try.prog 91 #[.pointer (some ⟨m, 0, none⟩), .pointer (some ⟨x, 0, none⟩), .pointer (some ⟨y, 0, none⟩)] w _
  have bb := h.bd hb
  have HA : ∀ W, Ch [] w W → Calls Try.prog 77 #[.pointer (some ⟨m, 0, none⟩), .int .i64 a, .int .i64 (neg b : Nat), .int .i64 b] W fun e w' => e = .returned (.int .i64 (mmux s a (neg b) b).2) ∧ ∃ nb' ncap', MStep W g m (mmux s a (neg b) b).1 nb iv mb nb' ncap' w' := fun W hW => mmux_is (h.ch hW) ha (neg_lt hb) hb
  have HD := HA w.drew ((Ch.refl _ _).drew)
  clear h ha hb HA
  generalize mmux s a (neg b) b = R at *
  go_enter Try.func91, Try.ntmps91
  go_wp2_with fail
  refine Ord.St.door (fun _ => True) [.fl, .rd, .rd, .rd, .rd, .ef, .fl] [0, 0, 0, 4, 0, 31, 63] [0, 1, 2, 3, 4, 5, 6] mixed (by kernel_rfl) rfl ?_
  refine Ord.St.fl2 (T' := ?_) 0 [1, 2, 3, 4, 5, 6] _ _ rfl (by kernel_rfl) rfl rfl rfl rfl (fun K w' hk => ?_) ?_
  rotate_left
  · go_step; exact hk
  refine Ord.St.rd2 (T' := ?_) 1 [2, 3, 4, 5, 6] _ _ rfl (by kernel_rfl) rfl rfl rfl rfl (fun K hk => ?_) ?_
  rotate_left
  · go_step; exact hk
  refine Ord.St.rd2 (T' := ?_) 2 [3, 4, 5, 6] _ _ rfl (by kernel_rfl) rfl rfl rfl rfl (fun K hk => ?_) ?_
  rotate_left
  · go_step; exact hk
  refine Ord.St.rd2 (T' := ?_) 3 [4, 5, 6] _ _ rfl (by kernel_rfl) rfl rfl rfl rfl (fun K hk => ?_) ?_
  rotate_left
  · go_step; refine (Not_any _ _ (by omega)).mono ?_; rintro e w1 ⟨rfl, rfl⟩; exact hk
  refine Ord.St.rd2 (T' := ?_) 4 [5, 6] _ _ rfl (by kernel_rfl) rfl rfl rfl rfl (fun K hk => ?_) ?_
  rotate_left
  · go_step; exact hk
  refine Ord.St.ef 5 [6] _ rfl (by kernel_rfl) (fun K hK => ?_)
  go_wp2_with fail
  refine HD.mono ?_
  rintro e w' ⟨rfl, nb', ncap', hs⟩
  have HS := Lib.hid hs; clear hs
  go_wp2_with fail
  refine ⟨rfl, hK _ _ ?_⟩; clear hK K
  refine Ord.St.fl2 (T' := ?_) 6 [] _ _ rfl (by kernel_rfl) rfl rfl rfl rfl (fun K w' hk => ?_) ?_
  rotate_left
  · go_step; exact hk
  refine Ord.St.nil ?_
  go_wp2_with fail
  go_ret
  exact ⟨rfl, nb', ncap', HS.out.of ((Ch.refl _ _).drew)⟩
theorem GTo.back {w0 w w' : World} {g : Nat} {G : Gra} {F : List Nat} (h : GTo w g G F w') (hc : Ch [] w0 w) : GTo w0 g G F w' := by
  obtain ⟨F', h1, h2, h3, h4⟩ := h
  have := hc.size
  exact ⟨F', h1, (hc.mono (by simp)).trans h2 (fun k hk => .inl hk), fun k hk => (h3 k hk).imp id (fun e => by omega), h4⟩

set_option maxRecDepth 100000 in
set_option maxHeartbeats 2000000 in
theorem And_is {G : Gra} (h : GM w g G nb ncap iv mb) (a b : Int) (ba : a ≤ 9223372036854775807) (bb : b ≤ 9223372036854775807) :
    Calls Try.prog 35 #[.pointer (some ⟨g, 0, none⟩), .int .i64 a, .int .i64 b] w fun e w' => e = .returned (.tuple #[.int .i64 (doAnd G a b).2.1, .int .i64 (doAnd G a b).2.2]) ∧ GTo w g (doAnd G a b).1 (fp g nb mb iv) w' := by
  have hl0 := h.lt
  have hW : Ch [] w (((w.alloc (.cells #[.int .i64 a] 26)).alloc (.cells #[.int .i64 b] 26)).alloc (.cells #[.int .i64 a, .int .i64 b] 26)) := (((Ch.refl _ _).alloc _).alloc _).alloc _
  have hS : Sl (((w.alloc (.cells #[.int .i64 a] 26)).alloc (.cells #[.int .i64 b] 26)).alloc (.cells #[.int .i64 a, .int .i64 b] 26)) (some ⟨w.heap.size + 2, 0, none⟩) [a, b] := ⟨fun i x hx => by
    refine ⟨_, _, rfl, ?_⟩
    have hb := blk.new' (w := (w.alloc (.cells #[.int .i64 a] 26)).alloc (.cells #[.int .i64 b] 26)) (b := w.heap.size + 2) [.int .i64 a, .int .i64 b] 26 (by simp)
    refine hb.cell ?_
    match i, hx with
    | 0, hx => simpa using hx
    | 1, hx => simpa using hx, by simp⟩
  have b0 : (((w.alloc (.cells #[.int .i64 a] 26)).alloc (.cells #[.int .i64 b] 26)).alloc (.cells #[.int .i64 a, .int .i64 b] 26)).cell? ⟨w.heap.size, 0, none⟩ = some (.int .i64 a) := by go_simp
  have b1 : (((w.alloc (.cells #[.int .i64 a] 26)).alloc (.cells #[.int .i64 b] 26)).alloc (.cells #[.int .i64 a, .int .i64 b] 26)).cell? ⟨w.heap.size + 1, 0, none⟩ = some (.int .i64 b) := by go_simp
  have hz : (((w.alloc (.cells #[.int .i64 a] 26)).alloc (.cells #[.int .i64 b] 26)).alloc (.cells #[.int .i64 a, .int .i64 b] 26)).heap.size = w.heap.size + 3 := by simp
  have HM := make_is (h.ch hW (by simp)) (a := some ⟨w.heap.size + 2, 0, none⟩) (l := [a, b]) 2 hS (by simp [ba, bb]) (fun p hp => by cases hp; simp <;> omega) 64 #[.pointer (some ⟨w.heap.size, 0, none⟩), .pointer (some ⟨w.heap.size + 1, 0, none⟩)] fnvAnd1 (fun s => mand s a.toNat b.toNat) (fun hr W m hm hc hms => by
    obtain ⟨x, rfl, hx⟩ := right_nat (hr a (by simp))
    obtain ⟨y, rfl, hy⟩ := right_nat (hr b (by simp))
    exact And1_is hms hx hy ((hc.cell (by simp <;> omega) (by simp)).trans b0) ((hc.cell (by simp <;> omega) (by simp)).trans b1)) (fun hr => by
    obtain ⟨x, rfl, hx⟩ := right_nat (hr a (by simp))
    obtain ⟨y, rfl, hy⟩ := right_nat (hr b (by simp))
    have := mand_ok (s := (G, 0)) ⟨h.ok, .inl rfl⟩ hx hy
    exact ⟨this.1, this.2.1⟩)
  unfold doAnd
  clear hS b0 b1 hz
  generalize whole G [a, b] _ = R at *
  have H := Lib.hid h; clear h
  go_enter Try.func35, Try.ntmps35
  go_wp2_with fail
  refine HM.mono ?_
  rintro e w' ⟨rfl, hs⟩
  have HS := Lib.hid hs; clear hs
  go_wp2_with fail
  go_ret2
  exact ⟨rfl, HS.out.back hW⟩

set_option maxRecDepth 100000 in
set_option maxHeartbeats 2000000 in
theorem Xor_is {G : Gra} (h : GM w g G nb ncap iv mb) (a b : Int) (ba : a ≤ 9223372036854775807) (bb : b ≤ 9223372036854775807) :
    Calls Try.prog 89 #[.pointer (some ⟨g, 0, none⟩), .int .i64 a, .int .i64 b] w fun e w' => e = .returned (.tuple #[.int .i64 (doXor G a b).2.1, .int .i64 (doXor G a b).2.2]) ∧ GTo w g (doXor G a b).1 (fp g nb mb iv) w' := by
  have hl0 := h.lt
  have hW : Ch [] w (((w.alloc (.cells #[.int .i64 a] 26)).alloc (.cells #[.int .i64 b] 26)).alloc (.cells #[.int .i64 a, .int .i64 b] 26)) := (((Ch.refl _ _).alloc _).alloc _).alloc _
  have hS : Sl (((w.alloc (.cells #[.int .i64 a] 26)).alloc (.cells #[.int .i64 b] 26)).alloc (.cells #[.int .i64 a, .int .i64 b] 26)) (some ⟨w.heap.size + 2, 0, none⟩) [a, b] := ⟨fun i x hx => by
    refine ⟨_, _, rfl, ?_⟩
    have hb := blk.new' (w := (w.alloc (.cells #[.int .i64 a] 26)).alloc (.cells #[.int .i64 b] 26)) (b := w.heap.size + 2) [.int .i64 a, .int .i64 b] 26 (by simp)
    refine hb.cell ?_
    match i, hx with
    | 0, hx => simpa using hx
    | 1, hx => simpa using hx, by simp⟩
  have b0 : (((w.alloc (.cells #[.int .i64 a] 26)).alloc (.cells #[.int .i64 b] 26)).alloc (.cells #[.int .i64 a, .int .i64 b] 26)).cell? ⟨w.heap.size, 0, none⟩ = some (.int .i64 a) := by go_simp
  have b1 : (((w.alloc (.cells #[.int .i64 a] 26)).alloc (.cells #[.int .i64 b] 26)).alloc (.cells #[.int .i64 a, .int .i64 b] 26)).cell? ⟨w.heap.size + 1, 0, none⟩ = some (.int .i64 b) := by go_simp
  have hz : (((w.alloc (.cells #[.int .i64 a] 26)).alloc (.cells #[.int .i64 b] 26)).alloc (.cells #[.int .i64 a, .int .i64 b] 26)).heap.size = w.heap.size + 3 := by simp
  have HM := make_is (h.ch hW (by simp)) (a := some ⟨w.heap.size + 2, 0, none⟩) (l := [a, b]) 2 hS (by simp [ba, bb]) (fun p hp => by cases hp; simp <;> omega) 91 #[.pointer (some ⟨w.heap.size, 0, none⟩), .pointer (some ⟨w.heap.size + 1, 0, none⟩)] fnvXor1 (fun s => mmux s a.toNat (neg b.toNat) b.toNat) (fun hr W m hm hc hms => by
    obtain ⟨x, rfl, hx⟩ := right_nat (hr a (by simp))
    obtain ⟨y, rfl, hy⟩ := right_nat (hr b (by simp))
    exact Xor1_is hms hx hy ((hc.cell (by simp <;> omega) (by simp)).trans b0) ((hc.cell (by simp <;> omega) (by simp)).trans b1)) (fun hr => by
    obtain ⟨x, rfl, hx⟩ := right_nat (hr a (by simp))
    obtain ⟨y, rfl, hy⟩ := right_nat (hr b (by simp))
    have := mmux_ok (s := (G, 0)) ⟨h.ok, .inl rfl⟩ hx (neg_lt hy) hy
    exact ⟨this.1, this.2.1⟩)
  unfold doXor
  clear hS b0 b1 hz
  generalize whole G [a, b] _ = R at *
  have H := Lib.hid h; clear h
  go_enter Try.func89, Try.ntmps89
  go_wp2_with fail
  refine HM.mono ?_
  rintro e w' ⟨rfl, hs⟩
  have HS := Lib.hid hs; clear hs
  go_wp2_with fail
  go_ret2
  exact ⟨rfl, HS.out.back hW⟩

set_option maxRecDepth 100000 in
set_option maxHeartbeats 2000000 in
theorem Mux_is {G : Gra} (h : GM w g G nb ncap iv mb) (c a b : Int) (bc : c ≤ 9223372036854775807) (ba : a ≤ 9223372036854775807) (bb : b ≤ 9223372036854775807) :
    Calls Try.prog 62 #[.pointer (some ⟨g, 0, none⟩), .int .i64 c, .int .i64 a, .int .i64 b] w fun e w' => e = .returned (.tuple #[.int .i64 (doMux G c a b).2.1, .int .i64 (doMux G c a b).2.2]) ∧ GTo w g (doMux G c a b).1 (fp g nb mb iv) w' := by
  have hl0 := h.lt
  have hW : Ch [] w ((((w.alloc (.cells #[.int .i64 c] 26)).alloc (.cells #[.int .i64 a] 26)).alloc (.cells #[.int .i64 b] 26)).alloc (.cells #[.int .i64 c, .int .i64 a, .int .i64 b] 26)) := ((((Ch.refl _ _).alloc _).alloc _).alloc _).alloc _
  have hS : Sl ((((w.alloc (.cells #[.int .i64 c] 26)).alloc (.cells #[.int .i64 a] 26)).alloc (.cells #[.int .i64 b] 26)).alloc (.cells #[.int .i64 c, .int .i64 a, .int .i64 b] 26)) (some ⟨w.heap.size + 3, 0, none⟩) [c, a, b] := ⟨fun i x hx => by
    refine ⟨_, _, rfl, ?_⟩
    have hb := blk.new' (w := ((w.alloc (.cells #[.int .i64 c] 26)).alloc (.cells #[.int .i64 a] 26)).alloc (.cells #[.int .i64 b] 26)) (b := w.heap.size + 3) [.int .i64 c, .int .i64 a, .int .i64 b] 26 (by simp)
    refine hb.cell ?_
    match i, hx with
    | 0, hx => simpa using hx
    | 1, hx => simpa using hx
    | 2, hx => simpa using hx, by simp⟩
  have b0 : ((((w.alloc (.cells #[.int .i64 c] 26)).alloc (.cells #[.int .i64 a] 26)).alloc (.cells #[.int .i64 b] 26)).alloc (.cells #[.int .i64 c, .int .i64 a, .int .i64 b] 26)).cell? ⟨w.heap.size + 1, 0, none⟩ = some (.int .i64 a) := by go_simp
  have bz : ((((w.alloc (.cells #[.int .i64 c] 26)).alloc (.cells #[.int .i64 a] 26)).alloc (.cells #[.int .i64 b] 26)).alloc (.cells #[.int .i64 c, .int .i64 a, .int .i64 b] 26)).cell? ⟨w.heap.size, 0, none⟩ = some (.int .i64 c) := by go_simp
  have b1 : ((((w.alloc (.cells #[.int .i64 c] 26)).alloc (.cells #[.int .i64 a] 26)).alloc (.cells #[.int .i64 b] 26)).alloc (.cells #[.int .i64 c, .int .i64 a, .int .i64 b] 26)).cell? ⟨w.heap.size + 2, 0, none⟩ = some (.int .i64 b) := by go_simp
  have hz : ((((w.alloc (.cells #[.int .i64 c] 26)).alloc (.cells #[.int .i64 a] 26)).alloc (.cells #[.int .i64 b] 26)).alloc (.cells #[.int .i64 c, .int .i64 a, .int .i64 b] 26)).heap.size = w.heap.size + 4 := by simp
  have HM := make_is (h.ch hW (by simp)) (a := some ⟨w.heap.size + 3, 0, none⟩) (l := [c, a, b]) 3 hS (by simp [bc, ba, bb]) (fun p hp => by cases hp; simp <;> omega) 76 #[.pointer (some ⟨w.heap.size, 0, none⟩), .pointer (some ⟨w.heap.size + 1, 0, none⟩), .pointer (some ⟨w.heap.size + 2, 0, none⟩)] fnvMux1 (fun s => mmux s c.toNat a.toNat b.toNat) (fun hr W m hm hc hms => by
    obtain ⟨v, rfl, hv⟩ := right_nat (hr c (by simp))
    obtain ⟨x, rfl, hx⟩ := right_nat (hr a (by simp))
    obtain ⟨y, rfl, hy⟩ := right_nat (hr b (by simp))
    exact Mux1_is hms hv hx hy ((hc.cell (by simp <;> omega) (by simp)).trans bz) ((hc.cell (by simp <;> omega) (by simp)).trans b0) ((hc.cell (by simp <;> omega) (by simp)).trans b1)) (fun hr => by
    obtain ⟨v, rfl, hv⟩ := right_nat (hr c (by simp))
    obtain ⟨x, rfl, hx⟩ := right_nat (hr a (by simp))
    obtain ⟨y, rfl, hy⟩ := right_nat (hr b (by simp))
    have := mmux_ok (s := (G, 0)) ⟨h.ok, .inl rfl⟩ hv hx hy
    exact ⟨this.1, this.2.1⟩)
  unfold doMux
  clear hS b0 b1 bz hz
  generalize whole G [c, a, b] _ = R at *
  have H := Lib.hid h; clear h
  go_enter Try.func62, Try.ntmps62
  go_wp2_with fail
  refine HM.mono ?_
  rintro e w' ⟨rfl, hs⟩
  have HS := Lib.hid hs; clear hs
  go_wp2_with fail
  go_ret2
  exact ⟨rfl, HS.out.back hW⟩
end
end Go.Proofs.Ytndcgfnlgcincaa
namespace Go.Proofs.Ytndcgfnlgcincaa
open Go.RowKit Go.Mem Go.Aig

theorem mall_snoc (s : Mk) (out : Nat) (l : List Nat) (r : Nat) : mall s out (l ++ [r]) = mand (mall s out l).1 (mall s out l).2 r := by
  induction l generalizing s out with
  | nil => rfl
  | cons x l ih => exact ih _ _
theorem take_succ_map {α β : Type} (f : α → β) {l : List α} {k : Nat} {x : α} (h : l[k]? = some x) : (l.map f).take (k + 1) = (l.map f).take k ++ [f x] := by
  rw [List.take_add_one]; simp [h]
section
variable {w : World} {g : Nat} {nb ncap : Nat} {iv : Value} {mb : Nat}
theorem MStep.refl {m : Nat} {s : Mk} (h : MS w g m s nb ncap iv mb) : MStep w g m s nb iv mb nb ncap w := ⟨h, .inl rfl, Ch.refl _ _⟩

set_option maxRecDepth 100000 in
set_option maxHeartbeats 1000000 in
theorem All1_is {m : Nat} {s : Mk} (h : MS w g m s nb ncap iv mb) {a : Option Addr} {l : List Nat} (cap : Nat) (hS : Sl w a (l.map fun (r : Nat) => (r : Int))) (hap : ∀ p, a = some p → p.block < w.heap.size ∧ p.block ∉ [g, nb, mb, m]) (hr : ∀ r ∈ l, r < 2 * s.1.nodes.length) {x : Nat} (bx : w.cell? ⟨x, 0, none⟩ = some (.slice a l.length cap)) :
    Calls Try.prog 68 (#[.pointer (some ⟨m, 0, none⟩)] ++ #[.pointer (some ⟨x, 0, none⟩)]) w fun e w' => e = .returned (.int .i64 ((mall s 1 (l.map id)).2 : Nat)) ∧ ∃ nb' ncap', MStep w g m (mall s 1 (l.map id)).1 nb iv mb nb' ncap' w' := by
  show Calls Try.prog 68 #[.pointer (some ⟨m, 0, none⟩), .pointer (some ⟨x, 0, none⟩)] w _
  have hbd := hS.bd
  rw [List.length_map] at hbd
  have hsz : s.1.nodes.length ≤ 65536 := by have := h.ok.ok.room; have := h.ok.ok.most; omega
  have hpos := h.ok.ok.wf.pos
  have H := Lib.hid h; clear h
  have HS := Lib.hid hS; clear hS
  have HR := Lib.hid hr; clear hr
  have HA := Lib.hid hap; clear hap
  generalize hRF : mall s 1 (l.map id) = RF
  have HRF := Lib.hid hRF; clear hRF
  go_enter Try.func68, Try.ntmps68
  go_wp2_with fail
  go_loopw [4, 9] (fun o i wr => ∃ k : Nat, k ≤ l.length ∧ i = .int .i64 k ∧ o = .int .i64 (mall s 1 ((l.map id).take k)).2 ∧ ∃ nb' ncap', MStep w g m (mall s 1 ((l.map id).take k)).1 nb iv mb nb' ncap' wr) (fun _ i _ => l.length - (intOf i).toNat)
  case atStart => exact ⟨0, Nat.zero_le _, rfl, rfl, nb, ncap, MStep.refl H.out⟩
  case round =>
    obtain ⟨k, hk, rfl, rfl, nb', ncap', hs⟩ := hrel
    have hq : ∀ r ∈ (l.map id).take k, r < 2 * s.1.nodes.length := fun r hr => by
      obtain ⟨y, hy, rfl⟩ := List.mem_map.1 (List.mem_of_mem_take hr)
      exact HR.out y hy
    obtain ⟨ho, hx, hlo⟩ := mall_ok _ H.out.ok (show 1 < 2 * s.1.nodes.length by omega) hq
    have hlo' : (mall s 1 ((l.map id).take k)).2 ≤ 1000000 := by have := ho.ok.room; have := ho.ok.most; omega
    by_cases hlt : k < l.length
    · have hxk : l[k]? = some l[k] := List.getElem?_eq_getElem hlt
      have hm : l[k] ∈ l := List.getElem_mem hlt
      have hkr := HR.out _ hm
      generalize l[k] = y at *
      have hnext : mall s 1 ((l.map id).take (k + 1)) = mand (mall s 1 ((l.map id).take k)).1 (mall s 1 ((l.map id).take k)).2 (y) := by
        rw [take_succ_map _ hxk, mall_snoc]; rfl
      have HNX := Lib.hid hnext; clear hnext
      obtain ⟨b, o, rfl, hc⟩ := HS.out.cells k (y : Int) (by simp [hxk])
      obtain ⟨hab, han⟩ := HA.out _ rfl
      have c1 := (hs.ch.cell (p := ⟨b, o + k, none⟩) hab han).trans hc
      have HM := mand_is hs.ms (a := (mall s 1 ((l.map id).take k)).2) (b := y) hlo (hx.lt (hkr))
      have HS1 := Lib.hid hs; clear hs
      have HO := Lib.hid ho; clear ho
      clear hc han hab hx hlo
      generalize mall s 1 ((l.map id).take k) = R at *
      generalize hMR : mand R.1 R.2 (y) = R2 at *
      clear hMR
      go_wp2_with fail
      refine HM.mono ?_
      rintro e w' ⟨rfl, nb2, ncap2, hs2⟩
      have HS2 := Lib.hid hs2; clear hs2
      go_wp2_with fail
      go_roundw
      case rel =>
        refine ⟨k + 1, by omega, by go_num, by rw [HNX.out], nb2, ncap2, ?_⟩
        rw [HNX.out]
        exact HS1.out.trans HS2.out
      case measure => simp [intOf]; omega
    · have hkl : (l.map id).take k = l.map id := List.take_of_length_le (by simp; omega)
      rw [hkl, HRF.out] at hs hlo'
      rw [hkl, HRF.out]
      have HS1 := Lib.hid hs; clear hs
      clear ho hx hlo hq hkl
      go_wp2_with fail
      go_ret
      exact ⟨rfl, nb', ncap', HS1.out⟩

set_option maxRecDepth 100000 in
set_option maxHeartbeats 1000000 in
theorem Any1_is {m : Nat} {s : Mk} (h : MS w g m s nb ncap iv mb) {a : Option Addr} {l : List Nat} (cap : Nat) (hS : Sl w a (l.map fun (r : Nat) => (r : Int))) (hap : ∀ p, a = some p → p.block < w.heap.size ∧ p.block ∉ [g, nb, mb, m]) (hr : ∀ r ∈ l, r < 2 * s.1.nodes.length) {x : Nat} (bx : w.cell? ⟨x, 0, none⟩ = some (.slice a l.length cap)) :
    Calls Try.prog 90 (#[.pointer (some ⟨m, 0, none⟩)] ++ #[.pointer (some ⟨x, 0, none⟩)]) w fun e w' => e = .returned (.int .i64 (neg (mall s 1 (l.map neg)).2 : Nat)) ∧ ∃ nb' ncap', MStep w g m (mall s 1 (l.map neg)).1 nb iv mb nb' ncap' w' := by
  show Calls Try.prog 90 #[.pointer (some ⟨m, 0, none⟩), .pointer (some ⟨x, 0, none⟩)] w _
  have hbd := hS.bd
  rw [List.length_map] at hbd
  have hsz : s.1.nodes.length ≤ 65536 := by have := h.ok.ok.room; have := h.ok.ok.most; omega
  have hpos := h.ok.ok.wf.pos
  have H := Lib.hid h; clear h
  have HS := Lib.hid hS; clear hS
  have HR := Lib.hid hr; clear hr
  have HA := Lib.hid hap; clear hap
  generalize hRF : mall s 1 (l.map neg) = RF
  have HRF := Lib.hid hRF; clear hRF
  go_enter Try.func90, Try.ntmps90
  go_wp2_with fail
  go_loopw [4, 9] (fun o i wr => ∃ k : Nat, k ≤ l.length ∧ i = .int .i64 k ∧ o = .int .i64 (mall s 1 ((l.map neg).take k)).2 ∧ ∃ nb' ncap', MStep w g m (mall s 1 ((l.map neg).take k)).1 nb iv mb nb' ncap' wr) (fun _ i _ => l.length - (intOf i).toNat)
  case atStart => exact ⟨0, Nat.zero_le _, rfl, rfl, nb, ncap, MStep.refl H.out⟩
  case round =>
    obtain ⟨k, hk, rfl, rfl, nb', ncap', hs⟩ := hrel
    have hq : ∀ r ∈ (l.map neg).take k, r < 2 * s.1.nodes.length := fun r hr => by
      obtain ⟨y, hy, rfl⟩ := List.mem_map.1 (List.mem_of_mem_take hr)
      exact neg_lt (HR.out y hy)
    obtain ⟨ho, hx, hlo⟩ := mall_ok _ H.out.ok (show 1 < 2 * s.1.nodes.length by omega) hq
    have hlo' : (mall s 1 ((l.map neg).take k)).2 ≤ 1000000 := by have := ho.ok.room; have := ho.ok.most; omega
    by_cases hlt : k < l.length
    · have hxk : l[k]? = some l[k] := List.getElem?_eq_getElem hlt
      have hm : l[k] ∈ l := List.getElem_mem hlt
      have hkr := HR.out _ hm
      generalize l[k] = y at *
      have hnext : mall s 1 ((l.map neg).take (k + 1)) = mand (mall s 1 ((l.map neg).take k)).1 (mall s 1 ((l.map neg).take k)).2 (neg y) := by
        rw [take_succ_map _ hxk, mall_snoc]
      have HNX := Lib.hid hnext; clear hnext
      obtain ⟨b, o, rfl, hc⟩ := HS.out.cells k (y : Int) (by simp [hxk])
      obtain ⟨hab, han⟩ := HA.out _ rfl
      have c1 := (hs.ch.cell (p := ⟨b, o + k, none⟩) hab han).trans hc
      have HM := mand_is hs.ms (a := (mall s 1 ((l.map neg).take k)).2) (b := neg y) hlo (hx.lt (neg_lt hkr))
      have HS1 := Lib.hid hs; clear hs
      have HO := Lib.hid ho; clear ho
      clear hc han hab hx hlo
      generalize mall s 1 ((l.map neg).take k) = R at *
      generalize hMR : mand R.1 R.2 (neg y) = R2 at *
      clear hMR
      go_wp2_with fail
      refine (Not_any _ _ (by omega)).mono ?_
      rintro e w' ⟨rfl, rfl⟩
      go_wp2_with fail
      refine HM.mono ?_
      rintro e w' ⟨rfl, nb2, ncap2, hs2⟩
      have HS2 := Lib.hid hs2; clear hs2
      go_wp2_with fail
      go_roundw
      case rel =>
        refine ⟨k + 1, by omega, by go_num, by rw [HNX.out], nb2, ncap2, ?_⟩
        rw [HNX.out]
        exact HS1.out.trans HS2.out
      case measure => simp [intOf]; omega
    · have hkl : (l.map neg).take k = l.map neg := List.take_of_length_le (by simp; omega)
      rw [hkl, HRF.out] at hs hlo'
      rw [hkl, HRF.out]
      have HS1 := Lib.hid hs; clear hs
      clear ho hx hlo hq hkl
      go_wp2_with fail
      refine (Not_any _ _ (by omega)).mono ?_
      rintro e w' ⟨rfl, rfl⟩
      go_wp2_with fail
      go_ret
      exact ⟨rfl, nb', ncap', HS1.out⟩

set_option maxRecDepth 100000 in
set_option maxHeartbeats 2000000 in
theorem All_is {G : Gra} (h : GM w g G nb ncap iv mb) {a : Option Addr} {l : List Int} (cap : Nat) (hS : Sl w a l) (hb : ∀ x ∈ l, x ≤ 9223372036854775807) (hap : ∀ p, a = some p → p.block < w.heap.size ∧ p.block ∉ fp g nb mb iv) :
    Calls Try.prog 40 #[.pointer (some ⟨g, 0, none⟩), .slice a l.length cap] w fun e w' => e = .returned (.tuple #[.int .i64 (doAll G l).2.1, .int .i64 (doAll G l).2.2]) ∧ GTo w g (doAll G l).1 (fp g nb mb iv) w' := by
  have hl0 := h.lt
  have hW : Ch [] w (w.alloc (.cells #[.slice a l.length cap] 25)) := (Ch.refl _ _).alloc _
  have hcar : ∀ {W : World}, Ch [] w W → Sl W a l := fun {W} hc => ⟨fun i x hx => by
    obtain ⟨b, o, rfl, h1⟩ := hS.cells i x hx
    exact ⟨b, o, rfl, (hc.cell (p := ⟨b, o + i, none⟩) (hap _ rfl).1 (by simp)).trans h1⟩, hS.bd⟩
  have b0 : (w.alloc (.cells #[.slice a l.length cap] 25)).cell? ⟨w.heap.size, 0, none⟩ = some (.slice a l.length cap) := by go_simp
  have hnat : (∀ x ∈ l, right G.nodes x = true) → l = (l.map Int.toNat).map (fun (r : Nat) => (r : Int)) ∧ ∀ r ∈ l.map Int.toNat, r < 2 * G.nodes.length := fun hr => by
    refine ⟨?_, fun r hm => ?_⟩
    · rw [List.map_map]
      conv => lhs; rw [← List.map_id l]
      refine List.map_congr_left fun x hx => ?_
      obtain ⟨y, rfl, _⟩ := right_nat (hr x hx)
      simp
    · obtain ⟨x, hx, rfl⟩ := List.mem_map.1 hm
      obtain ⟨y, rfl, hy⟩ := right_nat (hr x hx)
      simpa using hy
  have HM := make_is (h.ch hW (by simp)) (a := a) (l := l) cap (hcar hW) hb (fun p hp => by have := (hap p hp).1; simp; omega) 68 #[.pointer (some ⟨w.heap.size, 0, none⟩)] fnvAll1 (fun s => mall s 1 ((l.map Int.toNat).map id)) (fun hr W m hm hc hms => by
    obtain ⟨hl, hlt⟩ := hnat hr
    have hlen : l.length = (l.map Int.toNat).length := by simp
    have bx := (hc.cell (p := ⟨w.heap.size, 0, none⟩) (by simp) (by simp)).trans b0
    have hSW : Sl W a l := hcar (hW.trans hc (by simp))
    generalize l.map Int.toNat = q at *
    rw [hl] at hSW
    rw [hlen] at bx
    have hz := hc.size
    simp at hz hm
    exact All1_is hms cap hSW (fun p hp => ⟨by have := (hap p hp).1; omega, by
      have h1 := hap p hp
      intro hk
      simp only [fp, List.mem_cons, not_or, List.not_mem_nil, or_false] at h1 hk
      rcases hk with e | e | e | e
      · exact h1.2.1 e
      · exact h1.2.2.1 e
      · exact h1.2.2.2.1 e
      · omega⟩) hlt bx) (fun hr => by
    obtain ⟨hl, hlt⟩ := hnat hr
    have := mall_ok (s := (G, 0)) (out := 1) ((l.map Int.toNat).map id) ⟨h.ok, .inl rfl⟩ (by have := h.ok.wf.pos; show 1 < 2 * G.nodes.length; omega) (fun r hm => by
      obtain ⟨y, hy, rfl⟩ := List.mem_map.1 hm
      exact hlt y hy)
    exact ⟨this.1, this.2.1⟩)
  unfold doAll
  clear hcar b0 hnat
  simp only [List.map_id] at HM
  generalize whole G l _ = R at *
  have H := Lib.hid h; clear h
  have HSS := Lib.hid hS; clear hS
  have HAP := Lib.hid hap; clear hap
  clear hb
  go_enter Try.func40, Try.ntmps40
  go_wp2_with fail
  refine HM.mono ?_
  rintro e w' ⟨rfl, hs⟩
  have HS := Lib.hid hs; clear hs
  go_wp2_with fail
  go_ret2
  exact ⟨rfl, HS.out.back hW⟩

set_option maxRecDepth 100000 in
set_option maxHeartbeats 2000000 in
theorem Any_is {G : Gra} (h : GM w g G nb ncap iv mb) {a : Option Addr} {l : List Int} (cap : Nat) (hS : Sl w a l) (hb : ∀ x ∈ l, x ≤ 9223372036854775807) (hap : ∀ p, a = some p → p.block < w.heap.size ∧ p.block ∉ fp g nb mb iv) :
    Calls Try.prog 85 #[.pointer (some ⟨g, 0, none⟩), .slice a l.length cap] w fun e w' => e = .returned (.tuple #[.int .i64 (doAny G l).2.1, .int .i64 (doAny G l).2.2]) ∧ GTo w g (doAny G l).1 (fp g nb mb iv) w' := by
  have hl0 := h.lt
  have hW : Ch [] w (w.alloc (.cells #[.slice a l.length cap] 25)) := (Ch.refl _ _).alloc _
  have hcar : ∀ {W : World}, Ch [] w W → Sl W a l := fun {W} hc => ⟨fun i x hx => by
    obtain ⟨b, o, rfl, h1⟩ := hS.cells i x hx
    exact ⟨b, o, rfl, (hc.cell (p := ⟨b, o + i, none⟩) (hap _ rfl).1 (by simp)).trans h1⟩, hS.bd⟩
  have b0 : (w.alloc (.cells #[.slice a l.length cap] 25)).cell? ⟨w.heap.size, 0, none⟩ = some (.slice a l.length cap) := by go_simp
  have hnat : (∀ x ∈ l, right G.nodes x = true) → l = (l.map Int.toNat).map (fun (r : Nat) => (r : Int)) ∧ ∀ r ∈ l.map Int.toNat, r < 2 * G.nodes.length := fun hr => by
    refine ⟨?_, fun r hm => ?_⟩
    · rw [List.map_map]
      conv => lhs; rw [← List.map_id l]
      refine List.map_congr_left fun x hx => ?_
      obtain ⟨y, rfl, _⟩ := right_nat (hr x hx)
      simp
    · obtain ⟨x, hx, rfl⟩ := List.mem_map.1 hm
      obtain ⟨y, rfl, hy⟩ := right_nat (hr x hx)
      simpa using hy
  have HM := make_is (h.ch hW (by simp)) (a := a) (l := l) cap (hcar hW) hb (fun p hp => by have := (hap p hp).1; simp; omega) 90 #[.pointer (some ⟨w.heap.size, 0, none⟩)] fnvAny1 (fun s => many s (l.map Int.toNat)) (fun hr W m hm hc hms => by
    obtain ⟨hl, hlt⟩ := hnat hr
    have hlen : l.length = (l.map Int.toNat).length := by simp
    have bx := (hc.cell (p := ⟨w.heap.size, 0, none⟩) (by simp) (by simp)).trans b0
    have hSW : Sl W a l := hcar (hW.trans hc (by simp))
    generalize l.map Int.toNat = q at *
    rw [hl] at hSW
    rw [hlen] at bx
    have hz := hc.size
    simp at hz hm
    exact Any1_is hms cap hSW (fun p hp => ⟨by have := (hap p hp).1; omega, by
      have h1 := hap p hp
      intro hk
      simp only [fp, List.mem_cons, not_or, List.not_mem_nil, or_false] at h1 hk
      rcases hk with e | e | e | e
      · exact h1.2.1 e
      · exact h1.2.2.1 e
      · exact h1.2.2.2.1 e
      · omega⟩) hlt bx) (fun hr => by
    obtain ⟨hl, hlt⟩ := hnat hr
    have := mall_ok (s := (G, 0)) (out := 1) ((l.map Int.toNat).map neg) ⟨h.ok, .inl rfl⟩ (by have := h.ok.wf.pos; show 1 < 2 * G.nodes.length; omega) (fun r hm => by
      obtain ⟨y, hy, rfl⟩ := List.mem_map.1 hm
      exact neg_lt (hlt y hy))
    exact ⟨this.1, this.2.1⟩)
  unfold doAny
  clear hcar b0 hnat
  generalize whole G l _ = R at *
  have H := Lib.hid h; clear h
  have HSS := Lib.hid hS; clear hS
  have HAP := Lib.hid hap; clear hap
  clear hb
  go_enter Try.func85, Try.ntmps85
  go_wp2_with fail
  refine HM.mono ?_
  rintro e w' ⟨rfl, hs⟩
  have HS := Lib.hid hs; clear hs
  go_wp2_with fail
  go_ret2
  exact ⟨rfl, HS.out.back hW⟩
end
end Go.Proofs.Ytndcgfnlgcincaa
namespace Go.Proofs.Ytndcgfnlgcincaa
open Go.RowKit Go.Mem Go.Aig

theorem inputsFrom_input (x : Nd) (hk : x.k = 2) : ∀ (ns : List Nd) (n : Nat), inputsFrom (ns ++ [x]) n = inputsFrom ns n ++ [2 * (n + ns.length)]
  | [], n => by simp [inputsFrom, hk]
  | y :: ns, n => by
    have e : 2 * (n + 1 + ns.length) = 2 * (n + (ns.length + 1)) := by omega
    simp only [List.cons_append, inputsFrom, inputsFrom_input x hk ns, List.length_cons, e]
    split <;> simp
theorem inputs_input {ns : List Nd} {x : Nd} (hk : x.k = 2) : inputs (ns ++ [x]) = inputs ns ++ [2 * ns.length] := by
  have := inputsFrom_input x hk ns 0
  simpa [inputs] using this
def doInput (G : Gra) : Res := put G ⟨2, 0, 0, 0⟩
theorem inputsFrom_le : ∀ (ns : List Nd) (n : Nat), (inputsFrom ns n).length ≤ ns.length
  | [], n => by simp [inputsFrom]
  | x :: ns, n => by
    have := inputsFrom_le ns (n + 1)
    unfold inputsFrom
    split <;> simp <;> omega
theorem inputs_le (ns : List Nd) : (inputs ns).length ≤ ns.length := inputsFrom_le ns 0
section
variable {w : World} {g : Nat} {G : Gra} {nb ncap : Nat} {iv : Value} {mb : Nat}

set_option maxRecDepth 100000 in
set_option maxHeartbeats 2000000 in
theorem Input_is (h : GM w g G nb ncap iv mb) :
    Calls Try.prog 51 #[.pointer (some ⟨g, 0, none⟩)] w fun e w' => e = .returned (.tuple #[.int .i64 (doInput G).2.1, .int .i64 (doInput G).2.2]) ∧ GTo w g (doInput G).1 (fp g nb mb iv) w' := by
  have HN := none_no h
  have hil := inputs_le G.nodes
  unfold doInput put
  by_cases hf : G.most ≤ G.nodes.length
  · rw [if_pos hf]
    have HP := put_no_of h 2 0 0 0 ⟨2, 0, 0, 0⟩ rfl rfl rfl rfl hf
    have H := Lib.hid h; clear h
    clear hf hil
    go_enter Try.func51, Try.ntmps51
    go_wp2_with fail
    refine HN.mono ?_
    rintro e w' ⟨rfl, rfl⟩
    go_wp2_with fail
    refine HP.mono ?_
    rintro e w1 ⟨rfl, hc⟩
    have HC := Lib.hid hc; clear hc
    go_wp2_with fail
    go_ret2
    exact ⟨rfl, GTo.same ⟨_, _, _, _, H.out, rfl⟩ HC.out⟩
  · rw [if_neg hf]
    have HP := put_yes_of h 2 0 0 0 ⟨2, 0, 0, 0⟩ rfl rfl rfl rfl (by omega)
    have hm := h.ok.most
    have H := Lib.hid h; clear h
    have hlb : G.nodes.length < 65536 := by omega
    have HF := Lib.hid hf; clear hf
    go_enter Try.func51, Try.ntmps51
    go_wp2_with fail
    refine HN.mono ?_
    rintro e w' ⟨rfl, rfl⟩
    go_wp2_with fail
    refine HP.mono ?_
    rintro e w1 ⟨rfl, nb', ncap', hs⟩
    have s3 : w1.cell? ⟨g, 3, none⟩ = some iv := hs.st.cell rfl
    have f3 : w1.frozen? ⟨g, 3, none⟩ = false := hs.st.frozen
    have hg1 : g < w1.heap.size := hs.st.lt
    have hch1 : Ch [g, nb] w w1 := hs.ch
    have hsz1 := hch1.size
    have hl0 := H.out.lt
    have hWA : Ch [] w1 (w1.alloc (.cells #[.int .i64 (2 * (G.nodes.length : Int))] 26)) := (Ch.refl _ _).alloc _
    have hI : row (w1.alloc (.cells #[.int .i64 (2 * (G.nodes.length : Int))] 26)) 26 1 iv (inputs G.nodes).length (refsCells (inputs G.nodes)) := by
      refine (H.out.ins.ch hch1 (fun k hk => ?_)).ch hWA (by simp)
      have h1 := H.out.gi; have h2 := H.out.ni
      simp only [List.mem_cons, List.not_mem_nil, or_false, not_or]
      exact ⟨by rintro rfl; exact h1 hk, by rintro rfl; exact h2 hk⟩
    have hB : blk (w1.alloc (.cells #[.int .i64 (2 * (G.nodes.length : Int))] 26)) w1.heap.size [.int .i64 (2 * (G.nodes.length : Int))] := blk.new _ _ _
    have HI := Lib.hid hI; clear hI
    have HB := Lib.hid hB; clear hB
    have HS := Lib.hid hs; clear hs
    have HWA := Lib.hid hWA; clear hWA
    have HC1 := Lib.hid hch1; clear hch1
    go_wp2_with (at_builtin; go_loud (refine wpList_append_row slRefs rfl _ _ rfl (v := iv) (n := (inputs G.nodes).length) (xs := refsCells (inputs G.nodes)) rfl HI.out (ad := ⟨w1.heap.size, 0, none⟩) (m := 1) (c := 1) (news := [.int .i64 (2 * (G.nodes.length : Int))]) rfl rfl (news_blk HB.out) (by simp [Value.oneCell']) (by omega) (by omega) ?_; intro v' w2 hown hC2 hfresh; obtain ⟨ib, icap, hv⟩ := row.parts hown (by omega); have k3 : w2.cell? ⟨g, 3, none⟩ = some iv := (hC2.cell (p := ⟨g, 3, none⟩) (by simp; omega) (by have := H.out.gi; simpa [eq_comm] using this)).trans (by go_simp); have k3f : w2.frozen? ⟨g, 3, none⟩ = false := (hC2.frozen (p := ⟨g, 3, none⟩) (by simp; omega) (by have := H.out.gi; simpa [eq_comm] using this)).trans (by go_simp); have HOWN := Lib.hid hown; clear hown; have HC2 := Lib.hid hC2; clear hC2; have HFR := Lib.hid hfresh; clear hfresh; have HV := Lib.hid hv; rw [hv]; clear hv))
    go_ret2
    have hz2 := HC2.out.size
    simp at hz2
    have hown := HOWN.out
    rw [HV.out] at hown
    have hfr : ib < w1.heap.size → iv.ownBlock = some ib := fun hlt => by
      rcases HFR.out ib (by rw [HV.out]; rfl) with e | e
      · exact e
      · simp at e; omega
    have hgi := H.out.gi
    have hni := H.out.ni
    have hmi := H.out.mi
    have hivl := H.out.lt.2.2.2
    have hm1 : mb < w1.heap.size := by omega
    have hnb' : nb' < w1.heap.size := (HS.out.nodes.lt nb' rfl).2
    have e1 : ib ≠ g := fun e => by subst e; exact hgi (hfr hg1)
    have e2 : ib ≠ mb := fun e => by subst e; exact hmi (hfr hm1)
    have e3 : ib ≠ nb' := fun e => by
      subst e
      have := hfr hnb'
      rcases HS.out.fresh with e | e
      · exact hni (e ▸ this)
      · have := hivl _ this; omega
    have hgn : g ≠ nb' := by
      rcases HS.out.fresh with e | e
      · rw [e]; exact H.out.gn
      · omega
    have hmn : mb ≠ nb' := by
      rcases HS.out.fresh with e | e
      · rw [e]; exact H.out.mn
      · omega
    have hgiv : g ∉ iv.ownBlock.toList := by simpa [eq_comm] using hgi
    have hmiv : mb ∉ iv.ownBlock.toList := by simpa [eq_comm] using hmi
    have hniv : nb' ∉ iv.ownBlock.toList := by
      simp only [Option.mem_toList]
      intro hk
      rcases HS.out.fresh with e | e
      · exact hni (e ▸ hk)
      · have := hivl _ hk; omega
    have hCall : Ch iv.ownBlock.toList w1 w2 := (HWA.out.mono (by simp)).trans HC2.out (fun k hk => .inl hk)
    have hIS := inputs_input (ns := G.nodes) (x := ⟨2, 0, 0, 0⟩) rfl
    have hset : Ch [g] w2 (w2.setCell ⟨g, 3, none⟩ (.slice (some ⟨ib, 0, none⟩) ((inputs G.nodes).length + 1) icap)) := (Ch.refl _ _).setCell (by simp) _
    refine ⟨ret_ii (by simp) rfl, GTo.of (nb' := nb') (ncap' := ncap') (iv' := .slice (some ⟨ib, 0, none⟩) ((inputs G.nodes).length + 1) icap) ?_ ?_ HS.out.fresh ?_⟩
    · refine ⟨?_, ?_, ?_, ?_, H.out.gm, hgn, hmn, ?_, ?_, ?_, ?_⟩
      · have := (HS.out.st.ch hCall hgiv).set (i := 3) (.slice (some ⟨ib, 0, none⟩) ((inputs G.nodes).length + 1) icap)
        simpa using this
      · have := (HS.out.nodes.ch hCall (fun k hk => by cases hk; exact hniv)).ch hset (fun k hk => by cases hk; simp [hgn.symm])
        simpa using this
      · obtain ⟨es, clock, h1, h2⟩ := H.out.mp
        refine ⟨es, clock, ?_, h2.other (by simp)⟩
        have g1 := HC1.out.block mb (by omega) (by simp [H.out.gm.symm, H.out.mn])
        have g2 := hCall.block mb hm1 hmiv
        have g3 := hset.block mb (by omega) (by simp [H.out.gm.symm])
        exact g3.trans (g2.trans (g1.trans h1))
      · show row _ _ 1 _ (inputs (G.nodes ++ [⟨2, 0, 0, 0⟩])).length (refsCells (inputs (G.nodes ++ [⟨2, 0, 0, 0⟩])))
        rw [hIS]
        have := hown.ch hset (fun k hk => by cases hk; simp [e1])
        simpa [refsCells] using this
      · simp [Value.ownBlock, e1]
      · simp [Value.ownBlock, e3]
      · simp [Value.ownBlock, e2]
      · exact ⟨H.out.ok.wf.input, by have := HF.out; simp; omega, H.out.ok.most⟩
    · refine ((HC1.out.mono (F' := fp g nb mb iv) ?_).trans ((hCall.mono (F' := g :: iv.ownBlock.toList) (fun k hk => .inl (by simp at hk ⊢; simp [hk]))).trans hset (fun k hk => .inl (by simp at hk ⊢; simp [hk]))) ?_)
      · intro k hk; left; simp [fp] at hk ⊢; rcases hk with e | e <;> simp [e]
      · intro k hk; left; simp [fp] at hk ⊢; rcases hk with e | e <;> simp [e]
    · intro k hk
      simp only [Value.ownBlock, Option.some.injEq] at hk
      subst hk
      rcases HFR.out ib (by rw [HV.out]; rfl) with e | e
      · exact .inl e
      · simp at e; exact .inr (by omega)
end
end Go.Proofs.Ytndcgfnlgcincaa
namespace Go.Proofs.Ytndcgfnlgcincaa
open Go.RowKit Go.Mem Go.Aig

def newG (n : Nat) : Gra := ⟨n, [⟨1, 0, 0, 0⟩]⟩
theorem newG_ok {n : Nat} (h1 : 1 ≤ n) (h2 : n ≤ 65536) : Ok (newG n) := by
  refine ⟨?_, by simpa [newG] using h1, h2⟩
  have key : ∀ (m : Nat) (x : Nd), (newG n).nodes[m]? = some x → m = 0 ∧ x = ⟨1, 0, 0, 0⟩ := fun m x h => by
    have := (List.getElem?_eq_some_iff.1 h).1
    have h0 : m = 0 := by simp [newG] at this; omega
    subst h0
    simp [newG] at h
    exact ⟨rfl, h.symm⟩
  refine ⟨rfl, fun m x h hm => ?_, fun m k x y hx hy _ _ _ _ => ?_, fun m x h => ?_⟩
  · have := key m x h; omega
  · rw [(key m x hx).1, (key k y hy).1]
  · obtain ⟨rfl, rfl⟩ := key m x h; exact Nat.le_refl _
section
variable {w : World}
set_option maxRecDepth 100000 in
set_option maxHeartbeats 1000000 in
theorem New_yes (n : Nat) (h1 : 1 ≤ n) (h2 : n ≤ 65536) :
    Calls Try.prog 17 #[.int .i64 n] w fun e w' => ∃ g F, e = .returned (.tuple #[.pointer (some ⟨g, 0, none⟩), .int .i64 0]) ∧ GIn w' g (newG n) F ∧ (∀ k ∈ F, w.heap.size ≤ k) ∧ Ch [] w w' := by
  have d1 : decide ((n : Int) < 1) = false := decide_eq_false (by omega)
  have d2 : decide ((65536 : Int) < n) = false := decide_eq_false (by omega)
  have hmm := @run_makeMap Try.prog
  go_enter Try.func17, Try.ntmps17
  go_wp2_with fail
  go_ret2

  have c1 : Ch [] w (w.alloc (.cells #[.int .u8 1, .int .i64 0, .int .i64 0, .int .i64 0] 91)) := (Ch.refl _ _).alloc _
  have c2 := c1.alloc (.map #[] 0)
  have c3 := c2.alloc (.cells #[.int .i64 n, .slice (some ⟨w.heap.size, 0, none⟩) 1 1, .map (some (w.heap.size + 1)), .slice none 0 0] 64)
  have k2 : Ch [] (w.alloc (.cells #[.int .u8 1, .int .i64 0, .int .i64 0, .int .i64 0] 91)) _ := ((Ch.refl [] _).alloc (.map #[] 0)).alloc (.cells #[.int .i64 n, .slice (some ⟨w.heap.size, 0, none⟩) 1 1, .map (some (w.heap.size + 1)), .slice none 0 0] 64)
  refine ⟨w.heap.size + 2, fp (w.heap.size + 2) w.heap.size (w.heap.size + 1) (.slice none 0 0), rfl, ⟨w.heap.size, 1, .slice none 0 0, w.heap.size + 1, ?_, rfl⟩, by simp [fp], c3⟩
  refine ⟨blk.new' _ _ (by simp), ⟨rfl, .inr ⟨w.heap.size, 1, _, rfl, by omega, (k2.block _ (by simp) (by simp)).trans (heap_alloc_new w _), by simp [newG], by unfold maxLen; omega, rfl, rfl⟩⟩, ⟨#[], 0, (((Ch.refl [] _).alloc _).block _ (by simp) (by simp)).trans (by have := heap_alloc_new (w.alloc (.cells #[.int .u8 1, .int .i64 0, .int .i64 0, .int .i64 0] 91)) (.map #[] 0); simpa using this), ?_⟩, ⟨rfl, .inl ⟨rfl, rfl⟩⟩, by omega, by omega, by omega, by simp, by simp, by simp, newG_ok h1 h2⟩
  refine ⟨by simp, fun m x hx hk => ?_, by simp⟩
  have h1 := (List.getElem?_eq_some_iff.1 hx).1
  have h0 : m = 0 := by simp [newG] at h1; omega
  subst h0
  simp [newG] at hx
  subst hx
  simp at hk
end
end Go.Proofs.Ytndcgfnlgcincaa
namespace Go.Proofs.Ytndcgfnlgcincaa
open Go.RowKit Go.Mem Go.Aig
theorem eqSliceNil (w : World) (a : Option Addr) (n c : Nat) : (binOp .eql 25 (.slice a n c) (.slice none 0 0)).run Try.prog w = .ok (.bool a.isNone) w := by
  have h : Try.prog.underlying 25 = some (.slice 26) := Try.underlying25
  simp only [binOp]
  simp [run_equal_slice_nil w _ _ a n c h]
attribute [go_sem] eqSliceNil
section
variable {w : World}
variable {g : Nat} {G : Gra} {nb ncap : Nat} {iv : Value} {mb : Nat}
end
end Go.Proofs.Ytndcgfnlgcincaa
namespace Go.Proofs.Ytndcgfnlgcincaa
open Go.RowKit Go.Mem Go.Aig Go.Shelf
attribute [local go_sem] Oper.semAt_some

section
variable {w : World} {g : Nat} {G : Gra} {nb ncap : Nat} {iv : Value} {mb : Nat}
end
end Go.Proofs.Ytndcgfnlgcincaa
namespace Go.Proofs.Ytndcgfnlgcincaa
open Go.RowKit Go.Mem Go.Aig
section
variable {w : World}
theorem row.set {e : TypeId} {b n cap i : Nat} {xs : List Value} (h : row w e 1 (.slice (some ⟨b, 0, none⟩) n cap) n xs) (v : Value) : row (w.setCell ⟨b, i, none⟩ v) e 1 (.slice (some ⟨b, 0, none⟩) n cap) n (xs.set i v) := by
  refine ⟨by rw [List.length_set]; exact h.1, ?_⟩
  rcases h.2 with ⟨e1, _⟩ | ⟨g, cap', cur, e1, h0, hg, hle, hm, hs, ht⟩
  · cases e1
  · cases e1
    refine .inr ⟨b, cap, cur.setIfInBounds i v, rfl, h0, ?_, hle, hm, by simpa using hs, ?_⟩
    · simp only [World.setCell, Array.getElem?_modify]
      rw [if_pos trivial, hg]
      simp
    · rw [Array.toList_setIfInBounds, List.take_set, ht]
end
end Go.Proofs.Ytndcgfnlgcincaa
namespace Go.Proofs.Ytndcgfnlgcincaa
open Go.RowKit Go.Mem Go.Aig Go.Shelf
attribute [local go_sem] Oper.semAt_some
section
variable {w : World} {g : Nat} {G : Gra} {nb ncap : Nat} {iv : Value} {mb : Nat}
end
end Go.Proofs.Ytndcgfnlgcincaa
namespace Go.Proofs.Ytndcgfnlgcincaa
open Go.RowKit Go.Mem Go.Aig
theorem cell_lt {w : World} {p : Addr} {v : Value} (h : w.cell? p = some v) : p.block < w.heap.size := by
  rcases Nat.lt_or_ge p.block w.heap.size with h1 | h1
  · exact h1
  · simp [World.cell?, Array.getElem?_eq_none h1] at h
theorem Sl.ch {F : List Nat} {w w' : World} {a : Option Addr} {xs : List Int} (h : Sl w a xs) (hc : Ch F w w') (hF : ∀ p, a = some p → p.block ∉ F) : Sl w' a xs :=
  ⟨fun i x hx => by
    obtain ⟨b, o, rfl, hcell⟩ := h.cells i x hx
    exact ⟨b, o, rfl, (hc.cell (p := ⟨b, o + i, none⟩) (cell_lt hcell) (hF ⟨b, o, none⟩ rfl)).trans hcell⟩, h.bd⟩
theorem take_eq_succ {xs ys : List Int} {k : Nat} {x y : Int} (h : xs.take k = ys.take k) (hx : xs[k]? = some x) (hy : ys[k]? = some y) (e : x = y) : xs.take (k + 1) = ys.take (k + 1) := by
  rw [List.take_add_one, List.take_add_one, h, hx, hy, e]
section
variable {w : World}
set_option maxRecDepth 100000 in
set_option maxHeartbeats 1000000 in
theorem Eqref_is {a b : Option Addr} {xs ys : List Int} (ca cb : Nat) (hx : Sl w a xs) (hy : Sl w b ys) :
    Calls Try.prog 21 #[.slice a xs.length ca, .slice b ys.length cb] w fun e w' => e = .returned (.bool (decide (xs = ys))) ∧ Ch [] w w' := by
  have hbx := hx.bd
  have hby := hy.bd
  have HX := Lib.hid hx; clear hx
  have HY := Lib.hid hy; clear hy
  by_cases hl : xs.length = ys.length
  · have hne : ((xs.length : Int) != (ys.length : Int)) = false := by simp [hl]
    generalize hd : decide (xs = ys) = d
    have HD := Lib.hid hd; clear hd
    have HL := Lib.hid hl; clear hl
    go_enter Try.func21, Try.ntmps21
    go_wp2_with fail
    go_loopw [13] (fun i wr => ∃ k : Nat, k ≤ xs.length ∧ i = .int .i64 k ∧ xs.take k = ys.take k ∧ Ch [] w wr) (fun i _ => xs.length - (intOf i).toNat)
    case atStart => exact ⟨0, Nat.zero_le _, rfl, rfl, Ch.refl _ _⟩
    case round =>
      obtain ⟨k, hk, rfl, ht, hc⟩ := hrel
      have HT := Lib.hid ht; clear ht
      by_cases hlt : k < xs.length
      · have hlt2 : k < ys.length := by have := HL.out; omega
        have hxk : xs[k]? = some xs[k] := List.getElem?_eq_getElem hlt
        have hyk : ys[k]? = some ys[k] := List.getElem?_eq_getElem hlt2
        obtain ⟨b1, o1, rfl, c1⟩ := (HX.out.ch hc (by simp)).cells k _ hxk
        obtain ⟨b2, o2, rfl, c2⟩ := (HY.out.ch hc (by simp)).cells k _ hyk
        generalize xs[k] = x at *
        generalize ys[k] = y at *
        have HXK := Lib.hid hxk; clear hxk
        have HYK := Lib.hid hyk; clear hyk
        have HC := Lib.hid hc; clear hc
        by_cases hxy : x = y
        · have hb : (x != y) = false := by simp [hxy]
          have HE := Lib.hid hxy; clear hxy
          go_wp2_with fail
          refine Ord.St.door (fun _ => True) [.fl, .fl, .fl, .rd, .fl, .fl, .fl, .rd, .fl] [0, 0, 3, 7, 0, 0, 48, 112, 255] [0, 1, 2, 3, 4, 5, 6, 7, 8] mixed (by kernel_rfl) rfl ?_
          refine Ord.St.fl2 (T' := ?_) 0 [1, 2, 3, 4, 5, 6, 7, 8] _ _ rfl (by kernel_rfl) rfl rfl rfl rfl (fun K w' hk => ?_) ?_
          rotate_left
          · go_step; exact hk
          refine Ord.St.fl2 (T' := ?_) 1 [2, 3, 4, 5, 6, 7, 8] _ _ rfl (by kernel_rfl) rfl rfl rfl rfl (fun K w' hk => ?_) ?_
          rotate_left
          · go_step; exact hk
          refine Ord.St.fl2 (T' := ?_) 2 [3, 4, 5, 6, 7, 8] _ _ rfl (by kernel_rfl) rfl rfl rfl rfl (fun K w' hk => ?_) ?_
          rotate_left
          · go_step; exact hk
          refine Ord.St.rd2 (T' := ?_) 3 [4, 5, 6, 7, 8] _ _ rfl (by kernel_rfl) rfl rfl rfl rfl (fun K hk => ?_) ?_
          rotate_left
          · go_step; exact hk
          refine Ord.St.fl2 (T' := ?_) 4 [5, 6, 7, 8] _ _ rfl (by kernel_rfl) rfl rfl rfl rfl (fun K w' hk => ?_) ?_
          rotate_left
          · go_step; exact hk
          refine Ord.St.fl2 (T' := ?_) 5 [6, 7, 8] _ _ rfl (by kernel_rfl) rfl rfl rfl rfl (fun K w' hk => ?_) ?_
          rotate_left
          · go_step; exact hk
          refine Ord.St.fl2 (T' := ?_) 6 [7, 8] _ _ rfl (by kernel_rfl) rfl rfl rfl rfl (fun K w' hk => ?_) ?_
          rotate_left
          · go_step; exact hk
          refine Ord.St.rd2 (T' := ?_) 7 [8] _ _ rfl (by kernel_rfl) rfl rfl rfl rfl (fun K hk => ?_) ?_
          rotate_left
          · go_step; exact hk
          refine Ord.St.fl2 (T' := ?_) 8 [] _ _ rfl (by kernel_rfl) rfl rfl rfl rfl (fun K w' hk => ?_) ?_
          rotate_left
          · go_step; exact hk
          refine Ord.St.nil ?_
          go_wp2_with fail
          go_roundw
          case rel => exact ⟨k + 1, by omega, by go_num, take_eq_succ HT.out HXK.out HYK.out HE.out, HC.out.drew⟩
          case measure => simp [intOf]; omega
        · have hb : (x != y) = true := by simp [hxy]
          have hdf : d = false := by
            rw [← HD.out]
            refine decide_eq_false fun e => hxy ?_
            have h1 := HXK.out
            rw [e, HYK.out] at h1
            cases h1; rfl
          have HDF := Lib.hid hdf; clear hdf
          clear hxy
          go_wp2_with fail
          refine Ord.St.door (fun _ => True) [.fl, .fl, .fl, .rd, .fl, .fl, .fl, .rd, .fl] [0, 0, 3, 7, 0, 0, 48, 112, 255] [0, 1, 2, 3, 4, 5, 6, 7, 8] mixed (by kernel_rfl) rfl ?_
          refine Ord.St.fl2 (T' := ?_) 0 [1, 2, 3, 4, 5, 6, 7, 8] _ _ rfl (by kernel_rfl) rfl rfl rfl rfl (fun K w' hk => ?_) ?_
          rotate_left
          · go_step; exact hk
          refine Ord.St.fl2 (T' := ?_) 1 [2, 3, 4, 5, 6, 7, 8] _ _ rfl (by kernel_rfl) rfl rfl rfl rfl (fun K w' hk => ?_) ?_
          rotate_left
          · go_step; exact hk
          refine Ord.St.fl2 (T' := ?_) 2 [3, 4, 5, 6, 7, 8] _ _ rfl (by kernel_rfl) rfl rfl rfl rfl (fun K w' hk => ?_) ?_
          rotate_left
          · go_step; exact hk
          refine Ord.St.rd2 (T' := ?_) 3 [4, 5, 6, 7, 8] _ _ rfl (by kernel_rfl) rfl rfl rfl rfl (fun K hk => ?_) ?_
          rotate_left
          · go_step; exact hk
          refine Ord.St.fl2 (T' := ?_) 4 [5, 6, 7, 8] _ _ rfl (by kernel_rfl) rfl rfl rfl rfl (fun K w' hk => ?_) ?_
          rotate_left
          · go_step; exact hk
          refine Ord.St.fl2 (T' := ?_) 5 [6, 7, 8] _ _ rfl (by kernel_rfl) rfl rfl rfl rfl (fun K w' hk => ?_) ?_
          rotate_left
          · go_step; exact hk
          refine Ord.St.fl2 (T' := ?_) 6 [7, 8] _ _ rfl (by kernel_rfl) rfl rfl rfl rfl (fun K w' hk => ?_) ?_
          rotate_left
          · go_step; exact hk
          refine Ord.St.rd2 (T' := ?_) 7 [8] _ _ rfl (by kernel_rfl) rfl rfl rfl rfl (fun K hk => ?_) ?_
          rotate_left
          · go_step; exact hk
          refine Ord.St.fl2 (T' := ?_) 8 [] _ _ rfl (by kernel_rfl) rfl rfl rfl rfl (fun K w' hk => ?_) ?_
          rotate_left
          · go_step; exact hk
          refine Ord.St.nil ?_
          go_wp2_with fail
          go_ret
          rw [HDF.out]
          exact ⟨rfl, HC.out.drew⟩
      · have hdt : d = true := by
          rw [← HD.out]
          have h1 := HT.out
          rw [List.take_of_length_le (by omega), List.take_of_length_le (by have := HL.out; omega)] at h1
          exact decide_eq_true h1
        have HDT := Lib.hid hdt; clear hdt
        have HC := Lib.hid hc; clear hc
        go_wp2_with fail
        go_ret
        rw [HDT.out]
        exact ⟨rfl, HC.out⟩
  · have hne : ((xs.length : Int) != (ys.length : Int)) = true := by rw [bne_iff_ne]; omega
    have hd : decide (xs = ys) = false := decide_eq_false fun e => hl (by rw [e])
    rw [hd]
    clear hd
    go_enter Try.func21, Try.ntmps21
    go_wp2_with fail
    go_ret
    exact ⟨rfl, Ch.refl _ _⟩
end
end Go.Proofs.Ytndcgfnlgcincaa
namespace Go.Aig
def doCut (G : Gra) (n : Int) : Gra × Nat := if n < 1 ∨ (G.nodes.length : Int) < n then (G, 2) else ({ G with nodes := G.nodes.take n.toNat }, 0)
end Go.Aig
namespace Go.Proofs.Ytndcgfnlgcincaa
open Go.RowKit Go.Mem Go.Aig
theorem GTo.gin {w w' : World} {g : Nat} {G : Gra} {F : List Nat} (h : GTo w g G F w') : ∃ F', GIn w' g G F' ∧ Ch F w w' ∧ (∀ k ∈ F', k ∈ F ∨ w.heap.size ≤ k) ∧ F'[2]? = F[2]? := h
section
variable {w : World} {g : Nat} {G : Gra} {F : List Nat}
theorem Len_g (h : GIn w g G F) : Calls Try.prog 6 #[.pointer (some ⟨g, 0, none⟩)] w fun e w' => e = .returned (.int .i64 G.nodes.length) ∧ w = w' := by
  obtain ⟨_, _, _, _, h, rfl⟩ := h; exact Len_is h
theorem Right_g (h : GIn w g G F) (r : Int) (hr : r ≤ 9223372036854775807) : Calls Try.prog 59 #[.pointer (some ⟨g, 0, none⟩), .int .i64 r] w fun e w' => e = .returned (.bool (right G.nodes r)) ∧ w = w' := by
  obtain ⟨_, _, _, _, h, rfl⟩ := h; exact Right_is h r hr
theorem Input_g (h : GIn w g G F) : Calls Try.prog 51 #[.pointer (some ⟨g, 0, none⟩)] w fun e w' => e = .returned (.tuple #[.int .i64 (doInput G).2.1, .int .i64 (doInput G).2.2]) ∧ GTo w g (doInput G).1 F w' := by
  obtain ⟨_, _, _, _, h, rfl⟩ := h; exact Input_is h
theorem And_g (h : GIn w g G F) (a b : Int) (ba : a ≤ 9223372036854775807) (bb : b ≤ 9223372036854775807) : Calls Try.prog 35 #[.pointer (some ⟨g, 0, none⟩), .int .i64 a, .int .i64 b] w fun e w' => e = .returned (.tuple #[.int .i64 (doAnd G a b).2.1, .int .i64 (doAnd G a b).2.2]) ∧ GTo w g (doAnd G a b).1 F w' := by
  obtain ⟨_, _, _, _, h, rfl⟩ := h; exact And_is h a b ba bb
theorem Xor_g (h : GIn w g G F) (a b : Int) (ba : a ≤ 9223372036854775807) (bb : b ≤ 9223372036854775807) : Calls Try.prog 89 #[.pointer (some ⟨g, 0, none⟩), .int .i64 a, .int .i64 b] w fun e w' => e = .returned (.tuple #[.int .i64 (doXor G a b).2.1, .int .i64 (doXor G a b).2.2]) ∧ GTo w g (doXor G a b).1 F w' := by
  obtain ⟨_, _, _, _, h, rfl⟩ := h; exact Xor_is h a b ba bb
theorem Mux_g (h : GIn w g G F) (c a b : Int) (bc : c ≤ 9223372036854775807) (ba : a ≤ 9223372036854775807) (bb : b ≤ 9223372036854775807) : Calls Try.prog 62 #[.pointer (some ⟨g, 0, none⟩), .int .i64 c, .int .i64 a, .int .i64 b] w fun e w' => e = .returned (.tuple #[.int .i64 (doMux G c a b).2.1, .int .i64 (doMux G c a b).2.2]) ∧ GTo w g (doMux G c a b).1 F w' := by
  obtain ⟨_, _, _, _, h, rfl⟩ := h; exact Mux_is h c a b bc ba bb
theorem All_g (h : GIn w g G F) {a : Option Addr} {l : List Int} (n cap : Nat) (hn : l.length = n) (hS : Sl w a l) (hb : ∀ x ∈ l, x ≤ 9223372036854775807) (hap : ∀ p, a = some p → p.block < w.heap.size ∧ p.block ∉ F) : Calls Try.prog 40 #[.pointer (some ⟨g, 0, none⟩), .slice a n cap] w fun e w' => e = .returned (.tuple #[.int .i64 (doAll G l).2.1, .int .i64 (doAll G l).2.2]) ∧ GTo w g (doAll G l).1 F w' := by
  subst hn
  obtain ⟨_, _, _, _, h, rfl⟩ := h; exact All_is h cap hS hb hap
theorem Any_g (h : GIn w g G F) {a : Option Addr} {l : List Int} (n cap : Nat) (hn : l.length = n) (hS : Sl w a l) (hb : ∀ x ∈ l, x ≤ 9223372036854775807) (hap : ∀ p, a = some p → p.block < w.heap.size ∧ p.block ∉ F) : Calls Try.prog 85 #[.pointer (some ⟨g, 0, none⟩), .slice a n cap] w fun e w' => e = .returned (.tuple #[.int .i64 (doAny G l).2.1, .int .i64 (doAny G l).2.2]) ∧ GTo w g (doAny G l).1 F w' := by
  subst hn
  obtain ⟨_, _, _, _, h, rfl⟩ := h; exact Any_is h cap hS hb hap
theorem Cut_g (h : GIn w g G F) (n : Int) (h1 : n ≤ 9223372036854775807) (h0 : -9223372036854775808 ≤ n) : Calls Try.prog 60 #[.pointer (some ⟨g, 0, none⟩), .int .i64 n] w fun e w' => e = .returned (.int .i64 (doCut G n).2) ∧ GTo w g (doCut G n).1 F w' := by
  obtain ⟨nb, ncap, iv, mb, h, rfl⟩ := h
  unfold doCut
  by_cases hn : n < 1 ∨ (G.nodes.length : Int) < n
  · rw [if_pos hn]
    refine (Cut_arg h n hn h1 h0).mono ?_
    rintro e w' ⟨rfl, hc⟩
    exact ⟨rfl, GTo.same ⟨_, _, _, _, h, rfl⟩ hc⟩
  · rw [if_neg hn]
    obtain ⟨m, rfl⟩ := Int.eq_ofNat_of_zero_le (show 0 ≤ n by omega)
    refine (Cut_is h m (by omega) (by omega)).mono ?_
    rintro e w' ⟨rfl, iv', hg, hb, hc⟩
    exact ⟨rfl, GTo.of hg hc (.inl rfl) (fun k hk => .inl (by rw [← hb]; exact hk))⟩
end
structure Own (w0 w : World) (g : Nat) (G : Gra) (F : List Nat) : Prop where
  gin : GIn w g G F
  own : ∀ k ∈ F, w0.heap.size ≤ k
  ch : Ch [] w0 w
theorem Own.same {w0 w w' : World} {g : Nat} {G : Gra} {F : List Nat} (h : Own w0 w g G F) (hc : Ch [] w w') : Own w0 w' g G F :=
  ⟨h.gin.same hc (by simp), h.own, h.ch.trans hc (by simp)⟩
end Go.Proofs.Ytndcgfnlgcincaa
namespace Go.Ord
section
variable {P : Program} {l : List Oper} {ks : List Kd} {A : List Nat} {C : World → Prop} {Q : Act → World → Prop}
def chkB (ops : Array Oper) (ks : List Kd) (R R' : List Nat) (i : Nat) : Bool := R.contains i && readyIn ops R i && decide (R.erase i = R') && decide (kd ks i = .ef)
theorem chkB_spec {ops : Array Oper} {R R' : List Nat} {i : Nat} (h : chkB ops ks R R' i = true) : i ∈ R ∧ readyIn ops R i = true ∧ R.erase i = R' ∧ kd ks i = .ef := by
  simp only [chkB, Bool.and_eq_true, decide_eq_true_eq] at h
  exact ⟨by simpa using h.1.1.1, h.1.1.2, h.1.2, h.2⟩
theorem ef_op {R R' : List Nat} {a : Act} {w : World} (i : Nat) (o : Oper) (hil : l[i]? = some o) (hchk : chkB l.toArray ks R R' i = true)
    (h : ∀ K : Act → World → Prop, (∀ a w, C w → St P l ks A C Q R' a w → K a w) → wpList P l.toArray (only K) [o] a w) (hn : R.Nodup) (hu : Up l.toArray R) (hlt : ∀ k ∈ R, k < l.toArray.size) (hs : Stat l.toArray ks A) :
    wpOp P l.toArray (only Q) i (fun a' w' => post ks A l.toArray.size C i w w' ∧ allOrd l.toArray (wpOp P l.toArray (only Q)) ks A C Q (R.length - 1) (R.erase i) a' w') a w := by
  have hi : l.toArray[i]? = some o := by simpa using hil
  have ⟨hm, hri, hR, hk⟩ := chkB_spec hchk
  have h1 := h (fun a w => C w ∧ St P l ks A C Q R' a w) (fun _ _ hc hh => ⟨hc, hh⟩)
  unfold wpOp
  simp only [hi]
  unfold wpList at h1
  have key : ∀ a' w', (wpList P l.toArray (only (fun a w => C w ∧ St P l ks A C Q R' a w)) [] a' w') → post ks A l.toArray.size C i w w' ∧ allOrd l.toArray (wpOp P l.toArray (only Q)) ks A C Q (R.length - 1) (R.erase i) a' w' := by
    intro a' w' hh
    refine ⟨?_, ?_⟩
    · unfold post; rw [if_pos hk]; intro _; exact hh.2.1
    subst hR
    have := hh.2.2 (hn.erase _) (hu.erase hn hri) (fun k hk => hlt k (List.mem_of_mem_erase hk)) hs
    rwa [List.length_erase_of_mem hm] at this
  split
  · rename_i hw
    rw [if_pos hw] at h1
    have h1 := h1.resolve_right fun hh => only_lets _ hh.2
    left
    have h2 := Oper.wp_mono (K' := fun a' w' => post ks A l.toArray.size C i w w' ∧ allOrd l.toArray (wpOp P l.toArray (only Q)) ks A C Q (R.length - 1) (R.erase i) a' w') key h1
    unfold Oper.wp at h2 ⊢
    generalize (execOp a.eval o).run P w = r at h2 ⊢
    cases r with
    | ok n w' =>
      cases n <;> simp only [Oper.upon] at h2 ⊢
      case value u => exact h2
      case skip => exact h2
      case defer d => exact h2
      case enter f args =>
        refine Calls.mono h2 fun e w'' he => ?_
        cases e with
        | returned u => exact he
        | panicked c => cases he.1
        | outgrown => exact (only_lets _ he).elim
      case row row args => exact h2
    | halt x w' =>
      cases x <;> simp only [Oper.upon] at h2 ⊢
      case panic u => cases h2.1
  · rename_i hw
    rw [if_neg hw] at h1
    exact key _ _ h1
def chkR (ops : Array Oper) (R rs : List Nat) : Bool := decide (R.filter (readyIn ops R) = rs)
theorem St.two {R : List Nat} {a : Act} {w : World} (i j : Nat) (Ri Rj : List Nat) (oi oj : Oper) (hir : chkR l.toArray R [i, j] = true) (hil : l[i]? = some oi) (hjl : l[j]? = some oj) (hci : chkB l.toArray ks R Ri i = true) (hcj : chkB l.toArray ks R Rj j = true)
    (h1 : ∀ K : Act → World → Prop, (∀ a w, C w → St P l ks A C Q Ri a w → K a w) → wpList P l.toArray (only K) [oi] a w)
    (h2 : ∀ K : Act → World → Prop, (∀ a w, C w → St P l ks A C Q Rj a w → K a w) → wpList P l.toArray (only K) [oj] a w) : St P l ks A C Q R a w := by
  intro hn hu hlt hs
  have hm : i ∈ R := (chkB_spec hci).1
  have hlen : R.length = R.length - 1 + 1 := by have := List.length_pos_of_mem hm; omega
  rw [hlen]
  refine branch (rs := [i, j]) (by unfold chkR at hir; simpa using hir) fun k hk => ?_
  simp only [List.mem_cons, List.not_mem_nil, or_false] at hk
  rcases hk with rfl | rfl
  · exact ef_op _ oi hil hci h1 hn hu hlt hs
  · exact ef_op _ oj hjl hcj h2 hn hu hlt hs
theorem St.alw {R : List Nat} {a : Act} {w : World} {o : Obj} (h : ∀ W, W = w.alloc o → St P l ks A C Q R a W) : St P l ks A C Q R a (w.alloc o) := h _ rfl
end
end Go.Ord
namespace Go.Proofs.Ytndcgfnlgcincaa
open Go.RowKit Go.Mem Go.Aig
structure Sv (w : World) (a : Option Addr) (xs : List Value) : Prop where
  cells : ∀ (i : Nat) (v : Value), xs[i]? = some v → ∃ b o, a = some ⟨b, o, none⟩ ∧ w.cell? ⟨b, o + i, none⟩ = some v
  bd : xs.length ≤ 9223372036854775807
theorem row.sv {w : World} {e : TypeId} {v : Value} {n : Nat} {xs : List Value} {a : Option Addr} {m c : Nat} (h : row w e 1 v n xs) (hv : v = .slice a m c) (hn : n ≤ 1000000) : Sv w a xs := by
  subst hv
  have h1 := h.1
  refine ⟨fun i x hx => ?_, by omega⟩
  rcases h.2 with ⟨e1, e2⟩ | ⟨b, cap, cur, e1, _⟩
  · have := (List.getElem?_eq_some_iff.1 hx).1
    omega
  · cases e1
    refine ⟨b, 0, rfl, ?_⟩
    have := h.cells (g := b) rfl i x hx
    rw [Addr.add_lit] at this
    simpa using this
theorem min_nat (n k m : Nat) (h : min n k = m) (ats : Array TypeId) (ty : TypeId) : Builtin.min_ ats ty #[.int .i64 (n : Int), .int .i64 (k : Int)] = pure (.int .i64 (m : Int)) := by
  have e : (if (k : Int) < n then (k : Int) else n) = m := by split <;> omega
  rw [← e]
  simp [Builtin.min_, Builtin.min2]
theorem alw_ch {W w : World} {o : Obj} (h : W = w.alloc o) : Ch [] w W := h ▸ (Ch.refl _ _).alloc _
theorem alw_blk {W w : World} {xs : List Value} {T : TypeId} (h : W = w.alloc (.cells xs.toArray T)) : blk W w.heap.size xs := h ▸ blk.new' _ _ rfl
end Go.Proofs.Ytndcgfnlgcincaa
namespace Go.Proofs.Ytndcgfnlgcincaa
open Go.RowKit Go.Mem Go.Aig
section
theorem wp_alw {P : Program} {c : Code} {Q : Exit → Act → World → Prop} {a : Act} {w : World} (h : ∀ W, W = w → Code.wp P c Q a W) : Code.wp P c Q a w := h w rfl
end
end Go.Proofs.Ytndcgfnlgcincaa
namespace Go.Aig
def rOr (G : Gra) (a b : Nat) : Res := if (and G (neg a) (neg b)).2.2 ≠ 0 then (G, 0, (and G (neg a) (neg b)).2.2) else ((and G (neg a) (neg b)).1, neg (and G (neg a) (neg b)).2.1, 0)
theorem rOr_ok {G : Gra} (h : Ok G) {a b : Nat} (ha : a < 2 * G.nodes.length) (hb : b < 2 * G.nodes.length) :
    Ok (rOr G a b).1 ∧ Ext G (rOr G a b).1 ∧ (rOr G a b).2.1 < 2 * (rOr G a b).1.nodes.length ∧ ((rOr G a b).2.2 = 0 ∨ (rOr G a b).2.2 = 201) := by
  obtain ⟨h1, h2, h3, h4⟩ := and_ok h (neg_lt ha) (neg_lt hb)
  have := h.wf.pos
  unfold rOr
  split
  · exact ⟨h, .refl _, by show 0 < 2 * G.nodes.length; omega, h4⟩
  · exact ⟨h1, h2, neg_lt h3, .inl rfl⟩
end Go.Aig
namespace Go.Proofs.Ytndcgfnlgcincaa
open Go.RowKit Go.Mem Go.Aig
section
end
end Go.Proofs.Ytndcgfnlgcincaa
namespace Go.Aig
def rThen (G : Gra) (X : Res) (Y : Res) : Res := if X.2.2 ≠ 0 then (G, 0, X.2.2) else Y
def rMux (G : Gra) (c a b : Nat) : Res :=
  rThen G (and G c a) (rThen G (and (and G c a).1 (neg c) b) (rThen G (rOr (and (and G c a).1 (neg c) b).1 (and G c a).2.1 (and (and G c a).1 (neg c) b).2.1) ((rOr (and (and G c a).1 (neg c) b).1 (and G c a).2.1 (and (and G c a).1 (neg c) b).2.1).1, (rOr (and (and G c a).1 (neg c) b).1 (and G c a).2.1 (and (and G c a).1 (neg c) b).2.1).2.1, 0)))
def rXor (G : Gra) (a b : Nat) : Res := rMux G a (neg b) b
structure ROk (G : Gra) (R : Res) : Prop where
  ok : Ok R.1
  ext : Ext G R.1
  lt : R.2.1 < 2 * R.1.nodes.length
  err : R.2.2 = 0 ∨ R.2.2 = 201
theorem and_rok {G : Gra} (h : Ok G) {a b : Nat} (ha : a < 2 * G.nodes.length) (hb : b < 2 * G.nodes.length) : ROk G (and G a b) := by
  obtain ⟨h1, h2, h3, h4⟩ := and_ok h ha hb
  exact ⟨h1, h2, h3, h4⟩
theorem rOr_rok {G : Gra} (h : Ok G) {a b : Nat} (ha : a < 2 * G.nodes.length) (hb : b < 2 * G.nodes.length) : ROk G (rOr G a b) := by
  obtain ⟨h1, h2, h3, h4⟩ := rOr_ok h ha hb
  exact ⟨h1, h2, h3, h4⟩
theorem rThen_rok {G : Gra} (h : Ok G) {X Y : Res} (hX : ROk G X) (hY : ROk X.1 Y ∨ ROk G Y) : ROk G (rThen G X Y) := by
  have := h.wf.pos
  unfold rThen
  split
  · exact ⟨h, .refl _, by show 0 < 2 * G.nodes.length; omega, hX.err⟩
  · rcases hY with h | h
    · exact ⟨h.ok, hX.ext.trans h.ext, h.lt, h.err⟩
    · exact h
theorem ROk.zero {G : Gra} {R : Res} (h : ROk G R) : ROk G (R.1, R.2.1, 0) := ⟨h.ok, h.ext, h.lt, .inl rfl⟩
theorem rMux_rok {G : Gra} (h : Ok G) {c a b : Nat} (hc : c < 2 * G.nodes.length) (ha : a < 2 * G.nodes.length) (hb : b < 2 * G.nodes.length) : ROk G (rMux G c a b) := by
  have h1 := and_rok h hc ha
  have h2 := and_rok h1.ok (h1.ext.lt (neg_lt hc)) (h1.ext.lt hb)
  have h3 := rOr_rok h2.ok (h2.ext.lt h1.lt) h2.lt
  have e12 := h1.ext.trans h2.ext
  unfold rMux
  refine rThen_rok h h1 (.inr ?_)
  refine rThen_rok h ⟨h2.ok, e12, h2.lt, h2.err⟩ (.inr ?_)
  have h4 : ROk G (rOr (and (and G c a).1 (neg c) b).1 (and G c a).2.1 (and (and G c a).1 (neg c) b).2.1) := ⟨h3.ok, e12.trans h3.ext, h3.lt, h3.err⟩
  exact rThen_rok h h4 (.inr h4.zero)
end Go.Aig
namespace Go.Proofs.Ytndcgfnlgcincaa
open Go.RowKit Go.Mem Go.Aig
section
end
end Go.Proofs.Ytndcgfnlgcincaa
namespace Go.Proofs.Ytndcgfnlgcincaa
open Go.RowKit Go.Mem Go.Aig
theorem app_step {W0 w W W4 : World} {v v' : Value} (h0 : Ch [] W0 w) (h1 : Ch [] w W) (hlo : ∀ q ∈ v.ownBlock.toList, W0.heap.size ≤ q) (hC : Ch v.ownBlock.toList W W4) (hf : ∀ k, v'.ownBlock = some k → v.ownBlock = some k ∨ W.heap.size ≤ k) :
    Ch [] W0 W4 ∧ ∀ q ∈ v'.ownBlock.toList, W0.heap.size ≤ q := by
  refine ⟨(h0.trans h1 (by simp)).trans hC (fun k hk => .inr (hlo k hk)), fun q hq => ?_⟩
  rcases hf q (by simpa using hq) with e | e
  · exact hlo q (by simpa using e)
  · have := h0.size; have := h1.size; omega
theorem Sl.of_row' {w : World} {e : TypeId} {a : Option Addr} {n cap : Nat} {l : List Nat} (h : row w e 1 (.slice a n cap) n (refsCells l)) (hl : l.length = n) (hn : n ≤ 1000000) : Sl w a (l.map fun (r : Nat) => (r : Int)) := by
  refine ⟨fun i x hx => ?_, by simp; omega⟩
  rw [List.getElem?_map] at hx
  cases hr : l[i]? with
  | none => rw [hr] at hx; cases hx
  | some r =>
    rw [hr] at hx
    simp at hx
    subst hx
    obtain ⟨gb, go, hge, gc⟩ := (row.sv h rfl hn).cells i (.int .i64 r) (by simp [refsCells, hr])
    exact ⟨gb, go, hge, gc⟩
section
end
end Go.Proofs.Ytndcgfnlgcincaa
namespace Go.Aig
def rAllFrom (G0 : Gra) : Gra → Nat → List Nat → Res
  | now, out, [] => (now, out, 0)
  | now, out, r :: l => if (and now out r).2.2 ≠ 0 then (G0, 0, (and now out r).2.2) else rAllFrom G0 (and now out r).1 (and now out r).2.1 l
def rAll (G : Gra) (l : List Nat) : Res := rAllFrom G G 1 l
def rAny (G : Gra) (l : List Nat) : Res := if (rAll G (l.map neg)).2.2 ≠ 0 then (G, 0, (rAll G (l.map neg)).2.2) else ((rAll G (l.map neg)).1, neg (rAll G (l.map neg)).2.1, 0)
theorem rAllFrom_rok {G0 : Gra} (h0 : Ok G0) : ∀ (l : List Nat) {G : Gra} {out : Nat}, Ok G → Ext G0 G → out < 2 * G.nodes.length → (∀ r ∈ l, r < 2 * G.nodes.length) → ROk G0 (rAllFrom G0 G out l)
  | [], G, out, h, he, ho, _ => ⟨h, he, ho, .inl rfl⟩
  | r :: l, G, out, h, he, ho, hl => by
    have h1 := and_rok h ho (hl r (by simp))
    have := h0.wf.pos
    unfold rAllFrom
    split
    · exact ⟨h0, .refl _, by show 0 < 2 * G0.nodes.length; omega, h1.err⟩
    · exact rAllFrom_rok h0 l h1.ok (he.trans h1.ext) h1.lt (fun x hx => h1.ext.lt (hl x (by simp [hx])))
theorem rAll_rok {G : Gra} (h : Ok G) {l : List Nat} (hl : ∀ r ∈ l, r < 2 * G.nodes.length) : ROk G (rAll G l) := rAllFrom_rok h l h (.refl _) (by have := h.wf.pos; omega) hl
theorem negs_lt {n : Nat} {l : List Nat} (hl : ∀ r ∈ l, r < 2 * n) : ∀ r ∈ l.map neg, r < 2 * n := fun r hr => by
  obtain ⟨q, hq, rfl⟩ := List.mem_map.1 hr
  exact neg_lt (hl q hq)
theorem rAny_rok {G : Gra} (h : Ok G) {l : List Nat} (hl : ∀ r ∈ l, r < 2 * G.nodes.length) : ROk G (rAny G l) := by
  have h1 := rAll_rok h (negs_lt hl)
  have := h.wf.pos
  unfold rAny
  split
  · exact ⟨h, .refl _, by show 0 < 2 * G.nodes.length; omega, h1.err⟩
  · exact ⟨h1.ok, h1.ext, neg_lt h1.lt, .inl rfl⟩
end Go.Aig
namespace Go.Proofs.Ytndcgfnlgcincaa
open Go.RowKit Go.Mem Go.Aig
def intCells (l : List Int) : List Value := l.map fun z => .int .i64 z
section
end
end Go.Proofs.Ytndcgfnlgcincaa
namespace Go.Proofs.Ytndcgfnlgcincaa
open Go.RowKit Go.Mem Go.Aig
section
end
theorem Sl.of_ints {w : World} {e : TypeId} {a : Option Addr} {n cap : Nat} {l : List Int} (h : row w e 1 (.slice a n cap) n (intCells l)) (hn : n ≤ 1000000) : Sl w a l := by
  have hlen : l.length = n := by have := h.1; simpa [intCells] using this
  refine ⟨fun i x hx => ?_, by omega⟩
  obtain ⟨gb, go, hge, gc⟩ := (row.sv h rfl hn).cells i (.int .i64 x) (by simp [intCells, hx])
  exact ⟨gb, go, hge, gc⟩
end Go.Proofs.Ytndcgfnlgcincaa
namespace Go.Aig
theorem and_err {G : Gra} {a b : Nat} (h : (and G a b).2.2 ≠ 0) : and G a b = (G, 0, (and G a b).2.2) := by
  unfold and at h ⊢
  split
  · rename_i r hi; rw [hi] at h; exact absurd rfl h
  · rename_i l r hi
    rw [hi] at h
    dsimp only at h
    cases hf : findAnd G.nodes l r with
    | some n => rw [hf] at h; exact absurd rfl h
    | none =>
      rw [hf] at h
      dsimp only at h ⊢
      unfold put at h ⊢
      split
      · rfl
      · rename_i hm; rw [if_neg hm] at h; exact absurd rfl h
theorem any_no {ns : List Nd} {l : List Int} (h : ∀ x ∈ l, right ns x = true) : (l.any fun r => !right ns r) = false := by
  rw [List.any_eq_false]
  intro x hx
  rw [h x hx]; simp
theorem whole_ok {G : Gra} {l : List Int} (h : ∀ x ∈ l, right G.nodes x = true) (f : Mk → Mk × Nat) : whole G l f = if (f (G, 0)).1.2 ≠ 0 then (G, 0, (f (G, 0)).1.2) else ((f (G, 0)).1.1, (f (G, 0)).2, 0) := by
  unfold whole
  rw [any_no h, if_neg (by simp)]
theorem mand_zero (G : Gra) (a b : Nat) : mand (G, 0) a b = (((and G a b).1, (and G a b).2.2), (and G a b).2.1) := by unfold mand; rw [if_neg (by simp)]
theorem mand_bad {s : Mk} (h : s.2 ≠ 0) (a b : Nat) : mand s a b = (s, 0) := by unfold mand; rw [if_pos h]
theorem mand_fine {s : Mk} (h : s.2 = 0) (a b : Nat) : mand s a b = (((and s.1 a b).1, (and s.1 a b).2.2), (and s.1 a b).2.1) := by unfold mand; rw [if_neg (by simp [h])]
theorem whole_and {G : Gra} {l : List Int} (h : ∀ x ∈ l, right G.nodes x = true) (a b : Nat) : whole G l (fun s => mand s a b) = and G a b := by
  rw [whole_ok h, mand_zero]
  dsimp only
  split
  · rename_i he; exact (and_err he).symm
  · rename_i he
    simp only [ne_eq, Decidable.not_not] at he
    rw [← he]
theorem mall_bad : ∀ (l : List Nat) {s : Mk} (out : Nat), s.2 ≠ 0 → (mall s out l).1 = s
  | [], _, _, _ => rfl
  | r :: l, s, out, h => by
    unfold mall
    rw [mand_bad h]
    exact mall_bad l 0 h
theorem mall_from (G0 : Gra) : ∀ (l : List Nat) (G : Gra) (out : Nat), (if (mall (G, 0) out l).1.2 ≠ 0 then (G0, 0, (mall (G, 0) out l).1.2) else ((mall (G, 0) out l).1.1, (mall (G, 0) out l).2, 0) : Res) = rAllFrom G0 G out l
  | [], G, out => by simp [mall, rAllFrom]
  | r :: l, G, out => by
    unfold mall rAllFrom
    rw [mand_zero]
    dsimp only
    by_cases he : (and G out r).2.2 ≠ 0
    · rw [if_pos he]
      rw [mall_bad l _ (s := ((and G out r).1, (and G out r).2.2)) he, if_pos he]
    · rw [if_neg he]
      have he' : (and G out r).2.2 = 0 := by simpa using he
      rw [he']
      exact mall_from G0 l _ _
theorem whole_all {G : Gra} {l : List Int} (h : ∀ x ∈ l, right G.nodes x = true) (ns : List Nat) : whole G l (fun s => mall s 1 ns) = rAll G ns := by
  rw [whole_ok h]
  exact mall_from G ns G 1
theorem whole_any {G : Gra} {l : List Int} (h : ∀ x ∈ l, right G.nodes x = true) (ns : List Nat) : whole G l (fun s => many s ns) = rAny G ns := by
  rw [whole_ok h]
  unfold many rAny rAll
  rw [← mall_from G (ns.map neg) G 1]
  by_cases he : (mall (G, 0) 1 (ns.map neg)).1.2 ≠ 0
  · simp only [if_pos he]
  · simp only [if_neg he]; simp
theorem whole_mux {G : Gra} {l : List Int} (h : ∀ x ∈ l, right G.nodes x = true) (c a b : Nat) : whole G l (fun s => mmux s c a b) = rMux G c a b := by
  rw [whole_ok h]
  unfold mmux rMux mor
  dsimp only
  rw [mand_zero]
  dsimp only
  generalize and G c a = X
  unfold rThen
  by_cases h1 : X.2.2 ≠ 0
  · rw [if_pos h1]
    simp only [mand_bad (s := (X.1, X.2.2)) h1]
    rw [if_pos h1]
  · rw [if_neg h1]
    have e1 : X.2.2 = 0 := by simpa using h1
    simp only [mand_fine (s := (X.1, X.2.2)) e1]
    generalize and X.1 (neg c) b = Y
    by_cases h2 : Y.2.2 ≠ 0
    · rw [if_pos h2]
      simp only [mand_bad (s := (Y.1, Y.2.2)) h2]
      rw [if_pos h2]
    · rw [if_neg h2]
      have e2 : Y.2.2 = 0 := by simpa using h2
      simp only [mand_fine (s := (Y.1, Y.2.2)) e2]
      unfold rOr
      by_cases h3 : (and Y.1 (neg X.2.1) (neg Y.2.1)).2.2 ≠ 0
      · simp only [if_pos h3]
      · simp only [if_neg h3]; simp
end Go.Aig
namespace Go.Proofs.Ytndcgfnlgcincaa
open Go.RowKit Go.Mem Go.Aig
section
end
end Go.Proofs.Ytndcgfnlgcincaa
namespace Go.Aig
def rstep (s : Mk) (R : Res) : Mk × Nat := if s.2 ≠ 0 then (s, 0) else if R.2.2 ≠ 0 then ((s.1, R.2.2), 0) else ((R.1, 0), R.2.1)
def mput (s : Mk) (R : Res) : Mk × Nat := ((R.1, if s.2 = 0 then R.2.2 else s.2), R.2.1)
structure RFull (G : Gra) (R : Res) : Prop where
  ok : ROk G R
  keep : R.2.2 ≠ 0 → R = (G, 0, 201)
theorem and_full {G : Gra} (h : Ok G) {a b : Nat} (ha : a < 2 * G.nodes.length) (hb : b < 2 * G.nodes.length) : RFull G (and G a b) := by
  refine ⟨and_rok h ha hb, fun he => ?_⟩
  have h1 := and_err he
  have h2 := (and_rok h ha hb).err
  rw [h1]
  rcases h2 with e | e
  · exact absurd e he
  · rw [e]
theorem rMux_full {G : Gra} (h : Ok G) {c a b : Nat} (hc : c < 2 * G.nodes.length) (ha : a < 2 * G.nodes.length) (hb : b < 2 * G.nodes.length) : RFull G (rMux G c a b) := by
  have h1 := and_rok h hc ha
  have h2 := and_rok h1.ok (h1.ext.lt (neg_lt hc)) (h1.ext.lt hb)
  have h3 := rOr_rok h2.ok (h2.ext.lt h1.lt) h2.lt
  have hk : ∀ X Y : Res, (X.2.2 = 0 ∨ X.2.2 = 201) → (Y.2.2 ≠ 0 → Y = (G, 0, 201)) → (rThen G X Y).2.2 ≠ 0 → rThen G X Y = (G, 0, 201) := fun X Y hX hY he => by
    unfold rThen at he ⊢
    split
    · rcases hX with e | e
      · rename_i h3; exact absurd e h3
      · rw [e]
    · rename_i h3; rw [if_neg h3] at he; exact hY he
  refine ⟨rMux_rok h hc ha hb, ?_⟩
  unfold rMux
  refine hk _ _ h1.err (hk _ _ h2.err (hk _ _ h3.err ?_))
  intro he; exact absurd rfl he
theorem rXor_full {G : Gra} (h : Ok G) {a b : Nat} (ha : a < 2 * G.nodes.length) (hb : b < 2 * G.nodes.length) : RFull G (rXor G a b) := rMux_full h ha (neg_lt hb) hb
theorem rAllFrom_err (G0 : Gra) (h0 : Ok G0) : ∀ (l : List Nat) {G : Gra} {out : Nat}, Ok G → out < 2 * G.nodes.length → (∀ r ∈ l, r < 2 * G.nodes.length) → (rAllFrom G0 G out l).2.2 ≠ 0 → rAllFrom G0 G out l = (G0, 0, 201)
  | [], G, out, _, _, _, he => absurd rfl he
  | r :: l, G, out, h, ho, hl, he => by
    have h1 := and_rok h ho (hl r (by simp))
    unfold rAllFrom at he ⊢
    split
    · rcases h1.err with e | e
      · rename_i h3; exact absurd e h3
      · rw [e]
    · rename_i h3
      rw [if_neg h3] at he
      exact rAllFrom_err G0 h0 l h1.ok h1.lt (fun x hx => h1.ext.lt (hl x (by simp [hx]))) he
theorem rAll_full {G : Gra} (h : Ok G) {l : List Nat} (hl : ∀ r ∈ l, r < 2 * G.nodes.length) : RFull G (rAll G l) :=
  ⟨rAll_rok h hl, rAllFrom_err G h l h (by have := h.wf.pos; omega) hl⟩
theorem rAny_full {G : Gra} (h : Ok G) {l : List Nat} (hl : ∀ r ∈ l, r < 2 * G.nodes.length) : RFull G (rAny G l) := by
  refine ⟨rAny_rok h hl, fun he => ?_⟩
  have h2 := (rAll_rok h (negs_lt hl)).err
  unfold rAny at he ⊢
  split
  · rcases h2 with e | e
    · rename_i h3; exact absurd e h3
    · rw [e]
  · rename_i h3; rw [if_neg h3] at he; exact absurd rfl he
theorem put_full {G : Gra} (h : Ok G) : RFull G (put G ⟨2, 0, 0, 0⟩) := by
  have hp := h.wf.pos
  unfold put
  split
  · exact ⟨⟨h, .refl _, by show 0 < 2 * G.nodes.length; omega, .inr rfl⟩, fun _ => rfl⟩
  · rename_i hm
    exact ⟨⟨⟨h.wf.input, by simp; omega, h.most⟩, ⟨rfl, _, rfl⟩, by simp, .inl rfl⟩, fun he => absurd rfl he⟩
structure Sim (G0 : Gra) (P R : Mk) : Prop where
  ok : Ok P.1
  ext : Ext G0 P.1
  rel : (R.2 = 0 ∧ P = R) ∨ (R.2 = 201 ∧ P.2 = 201)
  rok : Ok R.1
  rext : Ext G0 R.1
theorem Sim.start {G : Gra} (h : Ok G) : Sim G (G, 0) (G, 0) := ⟨h, .refl _, .inl ⟨rfl, rfl⟩, h, .refl _⟩
theorem rstep_bad {s : Mk} (h : s.2 ≠ 0) (R : Res) : rstep s R = (s, 0) := by unfold rstep; rw [if_pos h]
theorem rstep_no {s : Mk} (h : s.2 = 0) {R : Res} (hR : R.2.2 ≠ 0) : rstep s R = ((s.1, R.2.2), 0) := by unfold rstep; rw [if_neg (by simp [h]), if_pos hR]
theorem rstep_ok {s : Mk} (h : s.2 = 0) {R : Res} (hR : R.2.2 = 0) : rstep s R = ((R.1, 0), R.2.1) := by unfold rstep; rw [if_neg (by simp [h]), if_neg (by simp [hR])]
theorem mput_bad {s : Mk} (h : s.2 ≠ 0) (R : Res) : mput s R = ((R.1, s.2), R.2.1) := by unfold mput; rw [if_neg h]
theorem mput_ok {s : Mk} (h : s.2 = 0) (R : Res) : mput s R = ((R.1, R.2.2), R.2.1) := by unfold mput; rw [if_pos h]
theorem Sim.step {G0 : Gra} {P R : Mk} (h : Sim G0 P R) {X Y : Res} (hX : RFull P.1 X) (he : R.2 = 0 → P = R → X = Y) :
    Sim G0 (mput P X).1 (rstep R Y).1 ∧ (mput P X).2 < 2 * (mput P X).1.1.nodes.length ∧ (rstep R Y).2 < 2 * (rstep R Y).1.1.nodes.length ∧ ((rstep R Y).1.2 = 0 → (mput P X).2 = (rstep R Y).2) ∧ Ext P.1 (mput P X).1.1 ∧ Ext R.1 (rstep R Y).1.1 ∧ (R.2 ≠ 0 → (rstep R Y).1.2 ≠ 0) := by
  have hrp := h.rok.wf.pos
  rcases h.rel with ⟨e0, e1⟩ | ⟨e0, e1⟩
  · have e2 := he e0 e1
    subst e2; subst e1
    by_cases hx : X.2.2 = 0
    · rw [rstep_ok e0 hx, mput_ok e0, hx]
      exact ⟨⟨hX.ok.ok, h.ext.trans hX.ok.ext, .inl ⟨rfl, rfl⟩, hX.ok.ok, h.ext.trans hX.ok.ext⟩, hX.ok.lt, hX.ok.lt, fun _ => rfl, hX.ok.ext, hX.ok.ext, fun hz => absurd e0 hz⟩
    · rw [rstep_no e0 hx, mput_ok e0, hX.keep hx]
      show Sim G0 (P.1, 201) (P.1, 201) ∧ 0 < 2 * P.1.nodes.length ∧ 0 < 2 * P.1.nodes.length ∧ ((201 : Nat) = 0 → (0 : Nat) = 0) ∧ Ext P.1 P.1 ∧ Ext P.1 P.1 ∧ (P.2 ≠ 0 → (201 : Nat) ≠ 0)
      exact ⟨⟨h.ok, h.ext, .inr ⟨rfl, rfl⟩, h.rok, h.rext⟩, by omega, by omega, fun _ => rfl, .refl _, .refl _, fun _ => by omega⟩
  · rw [rstep_bad (by omega), mput_bad (by omega)]
    exact ⟨⟨hX.ok.ok, h.ext.trans hX.ok.ext, .inr ⟨e0, e1⟩, h.rok, h.rext⟩, hX.ok.lt, by show 0 < 2 * R.1.nodes.length; omega, fun hz => absurd (show R.2 = 0 from hz) (by omega), hX.ok.ext, .refl _, fun hz => hz⟩
def sXor (s : Mk) (a b : Nat) : Mk × Nat := rstep s (rXor s.1 a b)
def sMux (s : Mk) (c a b : Nat) : Mk × Nat := rstep s (rMux s.1 c a b)
def sAny (s : Mk) (l : List Nat) : Mk × Nat := rstep s (rAny s.1 l)
def sPut (s : Mk) : Mk × Nat := rstep s (put s.1 ⟨2, 0, 0, 0⟩)
def eachS (op : Mk → Nat → Nat → Mk × Nat) (q : Mk × List Nat) (p : Nat × Nat) : Mk × List Nat := ((op q.1 p.1 p.2).1, q.2 ++ [(op q.1 p.1 p.2).2])
def eachF (op : Mk → Nat → Nat → Mk × Nat) (s : Mk) (l : List (Nat × Nat)) : Mk × List Nat := l.foldl (eachS op) (s, [])
def ltS (q : Mk × Nat) (p : Nat × Nat) : Mk × Nat := sMux (sXor q.1 p.1 p.2).1 (sXor q.1 p.1 p.2).2 p.2 q.2
def ltF (s : Mk) (l : List (Nat × Nat)) : Mk × Nat := l.foldl ltS (s, 0)
def inS (q : Mk × List Nat) : Mk × List Nat := ((sPut q.1).1, q.2 ++ [(sPut q.1).2])
def inF (s : Mk) : Nat → Mk × List Nat
  | 0 => (s, [])
  | n + 1 => inS (inF s n)
end Go.Aig
namespace Go.Proofs.Ytndcgfnlgcincaa
open Go.RowKit Go.Mem Go.Aig
theorem doAnd_r {G : Gra} {a b : Nat} (ha : a < 2 * G.nodes.length) (hb : b < 2 * G.nodes.length) : doAnd G a b = and G a b := by
  unfold doAnd
  rw [whole_and (by simp [right]; omega)]; rfl
theorem doXor_r {G : Gra} {a b : Nat} (ha : a < 2 * G.nodes.length) (hb : b < 2 * G.nodes.length) : doXor G a b = rXor G a b := by
  unfold doXor rXor
  rw [whole_mux (by simp [right]; omega)]; rfl
theorem doMux_r {G : Gra} {c a b : Nat} (hc : c < 2 * G.nodes.length) (ha : a < 2 * G.nodes.length) (hb : b < 2 * G.nodes.length) : doMux G c a b = rMux G c a b := by
  unfold doMux
  rw [whole_mux (by simp [right]; omega)]; rfl
theorem toNats (l : List Nat) : (l.map fun (r : Nat) => (r : Int)).map Int.toNat = l := by
  induction l with
  | nil => rfl
  | cons a l ih => simp only [List.map_cons, ih]; rfl
theorem doAny_r {G : Gra} {l : List Nat} (hl : ∀ r ∈ l, r < 2 * G.nodes.length) : doAny G (l.map fun (r : Nat) => (r : Int)) = rAny G l := by
  unfold doAny
  rw [toNats, whole_any (by
    intro x hx
    obtain ⟨r, hr, rfl⟩ := List.mem_map.1 hx
    have := hl r hr
    simp [right]; omega)]
structure MIn (w : World) (g m : Nat) (P : Mk) (F : List Nat) : Prop where
  gin : GIn w g P.1 F
  bk : blk w m [.pointer (some ⟨g, 0, none⟩), .int .i64 P.2]
  apart : m ∉ F
def MTo (w : World) (g m : Nat) (P : Mk) (F : List Nat) (w' : World) : Prop := ∃ F', MIn w' g m P F' ∧ Ch (m :: F) w w' ∧ (∀ k ∈ F', k ∈ F ∨ w.heap.size ≤ k) ∧ F'[2]? = F[2]?
theorem MIn.same {w w' : World} {g m : Nat} {P : Mk} {F F' : List Nat} (h : MIn w g m P F) (hc : Ch F' w w') (hF : ∀ k ∈ m :: F, k ∉ F') : MIn w' g m P F :=
  ⟨h.gin.same hc (fun k hk => hF k (by simp [hk])), h.bk.ch hc (hF m (by simp)), h.apart⟩
theorem MTo.of {w w1 w' : World} {g m : Nat} {P P' : Mk} {F : List Nat} (h : MIn w g m P F) (ht : GTo w g P'.1 F w1) (hb : blk w1 m [.pointer (some ⟨g, 0, none⟩), .int .i64 P.2] → blk w' m [.pointer (some ⟨g, 0, none⟩), .int .i64 P'.2]) (hc : Ch [m] w1 w') : MTo w g m P' F w' := by
  obtain ⟨F', h1, h2, h3, h4⟩ := ht
  have hm := h.bk.lt
  have hmF : m ∉ F' := fun hk => (h3 m hk).elim h.apart (by omega)
  exact ⟨F', ⟨h1.same hc (fun k hk e => hmF (by simp at e; exact e ▸ hk)), hb (h.bk.ch h2 h.apart), hmF⟩, (h2.mono (fun k hk => .inl (by simp [hk]))).trans hc (fun k hk => .inl (by simp at hk; simp [hk])), h3, h4⟩
section
variable {w : World} {g m : Nat}
set_option maxRecDepth 100000 in
set_option maxHeartbeats 1000000 in
theorem sput_is {e : Nat} (hb : blk w m [.pointer (some ⟨g, 0, none⟩), .int .i64 e]) (r : Nat) (f : Nat) :
    Calls Try.prog 50 #[.pointer (some ⟨m, 0, none⟩), .int .i64 r, .int .i64 f] w fun x w' => x = .returned (.int .i64 r) ∧ blk w' m [.pointer (some ⟨g, 0, none⟩), .int .i64 ((if e = 0 then f else e : Nat) : Int)] ∧ Ch [m] w w' := by
  have m1 := hb.cell (i := 1) rfl
  have m1f := hb.frozen (i := 1)
  have HB := Lib.hid hb; clear hb
  by_cases he : e = 0
  · subst he
    rw [if_pos rfl]
    go_enter Try.func50, Try.ntmps50
    go_wp2_with fail
    go_ret
    exact ⟨rfl, HB.out.set (i := 1) _, (Ch.refl _ _).setCell (by simp) _⟩
  · have hq : ((e : Int) == 0) = false := beqN (by omega)
    rw [if_neg he]
    go_enter Try.func50, Try.ntmps50
    go_wp2_with fail
    go_ret
    exact ⟨rfl, HB.out, Ch.refl _ _⟩
set_option maxRecDepth 100000 in
set_option maxHeartbeats 1000000 in
theorem sxor_is {P : Mk} {F : List Nat} (h : MIn w g m P F) {a b : Nat} (ha : a < 2 * P.1.nodes.length) (hb : b < 2 * P.1.nodes.length) :
    Calls Try.prog 84 #[.pointer (some ⟨m, 0, none⟩), .int .i64 a, .int .i64 b] w fun e w' => e = .returned (.int .i64 (mput P (rXor P.1 a b)).2) ∧ MTo w g m (mput P (rXor P.1 a b)).1 F w' := by
  have hl := h.gin.ok.room
  have hl2 := h.gin.ok.most
  have HX := Xor_g h.gin a b (by omega) (by omega)
  rw [doXor_r ha hb] at HX
  have m0 := h.bk.cell (i := 0) rfl
  have H := Lib.hid h; clear h
  clear hl hl2
  generalize hR : rXor P.1 a b = R at *
  clear hR
  go_enter Try.func84, Try.ntmps84
  go_wp2_with fail
  refine HX.mono ?_
  rintro e w1 ⟨rfl, ht⟩
  have hb1 := H.out.bk.ch ht.gin.choose_spec.2.1 H.out.apart
  have HP := sput_is hb1 R.2.1 R.2.2
  have HT := Lib.hid ht; clear ht
  clear hb1
  go_wp2_with fail
  refine HP.mono ?_
  rintro e w2 ⟨rfl, hb2, hc2⟩
  have HB := Lib.hid hb2; clear hb2
  have HC := Lib.hid hc2; clear hc2
  go_wp2_with fail
  go_ret
  exact ⟨rfl, MTo.of H.out HT.out (fun _ => HB.out) HC.out⟩
end
end Go.Proofs.Ytndcgfnlgcincaa
namespace Go
open Go.RowKit Go.Mem
section
variable {F : Fence} {n : Nat} {P : Program}
def Kept (K : List Nat) (W W' : World) : Prop := ∀ k ∈ K, W'.heap[k]? = W.heap[k]?
def Books (B : Nat) (W W' : World) : Prop := W'.heap[B]? = W.heap[B]? ∧ W'.heap[B + 1]? = W.heap[B + 1]?
theorem Kept.of_ch {K L : List Nat} {W W' : World} (hc : Ch L W W') (h : ∀ k ∈ K, k < W.heap.size ∧ k ∉ L) : Kept K W W' := fun k hk => hc.block k (h k hk).1 (h k hk).2
theorem Books.of_ch {B : Nat} {L : List Nat} {W W' : World} (hc : Ch L W W') (hB : B + 2 ≤ W.heap.size) (h : ∀ k ∈ L, k ≠ B ∧ k ≠ B + 1) : Books B W W' :=
  ⟨hc.block B (by omega) (fun hk => (h B hk).1 rfl), hc.block (B + 1) (by omega) (fun hk => (h (B + 1) hk).2 rfl)⟩
def SeqP {α : Type} (F : Fence) (n : Nat) (P : Program) (g : Nat) (lb : Array Value) (encs : α → Array Value) (K : List Nat) (xs : List α) (w : World) : Prop :=
  ∀ (l : Nat) (J : List α → World → Prop) (Jx : World → Prop) (W : World), (∀ k ∈ K, W.heap[k]? = w.heap[k]?) → (∀ s A A', J s A → Ch [] A A' → J s A') → (∀ A A', Jx A → Ch [] A A' → Jx A') →
    (∀ pre x W1, J pre W1 → (pre ++ [x]) <+: xs → YieldAt F (n - 1) P l (encs x) W1 fun e W' => (e = .returned (.bool true) ∧ J (pre ++ [x]) W' ∧ Kept K W1 W') ∨ (e = .returned (.bool false) ∧ Jx W')) →
    J [] W →
    CallsIn F n P g (#[.func (.yield l) #[] #[]] ++ lb) W fun e W' => (∃ v, e = .returned v) ∧ (J xs W' ∨ Jx W')

theorem ch_put {A : World} {l : Nat} {o' : Obj} {L : List Nat} (hl : l ∈ L) : Ch L A (A.putObj l o') := ⟨rfl, rfl, rfl, by simp, fun k _ hn => World.putObj_heap_other (fun e => by subst e; exact hn hl)⟩

theorem wpIn_rangeFunc_P {α : Type} {g : Operand} {ps : Array Tmp} {assign body : Code} {Q : Exit → Act → World → Prop} {a : Act} {w : World} (B : Nat) (hB : w.heap.size = B)
    (hro : F.round = none) (h1 : 1 ≤ n) {gf : Nat} {lb : Array Value} (hg : a.eval g = .func (.func gf) #[] lb) (hFg : F.fn gf) (eg : ∀ args w, (callFunc gf args).run P w = .ok (.enter gf args) w)
    {encs : α → Array Value} {K : List Nat} {xs : List α} (hseq : SeqP F (n - 1) P gf lb encs K xs w) (hK : ∀ k ∈ K, k < B) (hps : ∀ x, (encs x).size = ps.size)
    (I : List α → World → Prop) (Ix : World → Prop) (hI : ∀ s A A', I s A → Ch [B, B + 1] A A' → I s A') (hIx : ∀ A A', Ix A → Ch [B, B + 1] A A' → Ix A') (h0 : I [] w) (a₁ : α → Act)
    (hassign : ∀ (l : Nat) (x : α) (W : World) (K : Act → World → Prop), K (a₁ x) W →
      assign.wpIn (F.inRound l) (n - 1 - 1) P (Exit.then K (fun _ _ _ => False)) { tmps := (ps.zip (encs x)).foldl (fun t (p, v) => t.setIfInBounds p v) a.tmps, defers := [] } W)
    (hbody : ∀ (l : Nat) (pre : List α) (x : α) (W : World), I pre W → B + 2 ≤ W.heap.size → (pre ++ [x]) <+: xs → body.wpIn (F.inRound l) (n - 1 - 1) P (fun e _ W' => Books B W W' ∧ ((e = .normal ∧ I (pre ++ [x]) W' ∧ Kept K W W') ∨ (e = .ret ∧ Ix W'))) (a₁ x) W)
    (hdone : ∀ (W : World), I xs W → W.heap[B]? = some (.deferred (some [])) → B + 2 ≤ W.heap.size → Q .normal { a with defers := { target := .collected B, args := #[] } :: a.defers } W)
    (hstop : ∀ (W : World), Ix W → W.heap[B]? = some (.deferred (some [])) → B + 2 ≤ W.heap.size → (Code.ret).wpIn F n P Q { a with defers := { target := .collected B, args := #[] } :: a.defers } W) :
    (Code.rangeFunc g ps assign body).wpIn F n P Q a w := by
  subst hB
  refine wpIn_rangeFunc fun fn hfn => ?_
  rw [hro]
  let rec0 : LoopState → Option Code → Loop := fun st pe => { state := st, pending := pe, fn, tmps := a.tmps, params := ps, assign, body, defers := w.heap.size }
  obtain ⟨W1, hW1⟩ : ∃ W1, (w.alloc (.deferred (some []))).alloc (.loop (rec0 .ready none)) = W1 := ⟨_, rfl⟩
  have hz1 : W1.heap.size = w.heap.size + 2 := by rw [← hW1]; simp
  have hL1 : W1.heap[w.heap.size + 1]? = some (.loop (rec0 .ready none)) := by
    rw [← hW1]; have := World.alloc_heap_new (w.alloc (.deferred (some []))) (.loop (rec0 .ready none)); rwa [World.size_alloc] at this
  have hK1 : W1.heap[w.heap.size]? = some (.deferred (some [])) := by
    rw [← hW1]; exact (Below.heap_alloc _ _ _ (by simp)).trans (World.alloc_heap_new w _)
  have hc1 : Ch [] w W1 := by rw [← hW1]; exact ((Ch.refl _ _).alloc _).alloc _
  have hI1 : I [] W1 := hI _ _ _ h0 (hc1.mono (by simp))
  refine ⟨w.heap.size + 1, [{ target := .collected w.heap.size, args := #[] }], W1, { target := .fn (.func gf) lb, args := #[.func (.yield (w.heap.size + 1)) #[] #[]] }, W1, gf,
    #[.func (.yield (w.heap.size + 1)) #[] #[]] ++ lb, W1, ?_, ?_, ?_, ?_, fun _ => h1, ?_⟩
  · rw [← hW1]; exact run_enterLoop_outer _ _ _ _ _
  · simp only [resolve, hg]
    simp [go_sem]
  · intro f' hf'; simp [Target.leads] at hf'; subst hf'; exact hFg
  · simp [invoke, go_sem, eg]
  · have hKne : ∀ k ∈ K, k ≠ w.heap.size + 1 := fun k hk => by have := hK k hk; omega
    refine (hseq (w.heap.size + 1) (fun pre W => I pre W ∧ w.heap.size + 2 ≤ W.heap.size ∧ W.heap[w.heap.size + 1]? = some (.loop (rec0 .ready none)) ∧ W.heap[w.heap.size]? = some (.deferred (some [])))
      (fun W => Ix W ∧ w.heap.size + 2 ≤ W.heap.size ∧ W.heap[w.heap.size + 1]? = some (.loop (rec0 .done (some .ret))) ∧ W.heap[w.heap.size]? = some (.deferred (some []))) W1 (fun k hk => hc1.block k (hK k hk) (by simp))
      (fun s A A' hs hc => ⟨hI s A A' hs.1 (hc.mono (by simp)), Nat.le_trans hs.2.1 hc.size, (hc.block _ (by have := hs.2.1; omega) (by simp)).trans hs.2.2.1, (hc.block _ (by have := hs.2.1; omega) (by simp)).trans hs.2.2.2⟩)
      (fun A A' hs hc => ⟨hIx A A' hs.1 (hc.mono (by simp)), Nat.le_trans hs.2.1 hc.size, (hc.block _ (by have := hs.2.1; omega) (by simp)).trans hs.2.2.1, (hc.block _ (by have := hs.2.1; omega) (by simp)).trans hs.2.2.2⟩)
      ?_ ⟨hI1, by omega, hL1, hK1⟩).mono ?_
    · rintro pre x W ⟨hi, hz, hl, hk⟩ hpre
      have hlt : w.heap.size + 1 < W.heap.size := by omega
      refine ⟨fn, _, assign, body, run_yield (P := P) (args := encs x) hl (hps x), roundIn_of_wpIn hfn (hassign _ x W _ ⟨_, run_beginRound hl rfl, ?_⟩)⟩
      have hl2 : (W.putObj (w.heap.size + 1) (.loop (rec0 .busy none))).heap[w.heap.size + 1]? = some (.loop (rec0 .busy none)) := World.putObj_heap_same hlt
      have hk2 : (W.putObj (w.heap.size + 1) (.loop (rec0 .busy none))).heap[w.heap.size]? = some (.deferred (some [])) := (World.putObj_heap_other (by omega)).trans hk
      have hK2 : ∀ k ∈ K, (W.putObj (w.heap.size + 1) (.loop (rec0 .busy none))).heap[k]? = W.heap[k]? := fun k hk => World.putObj_heap_other (hKne k hk)
      refine wpIn_mono (hbody _ pre x _ (hI _ _ _ hi (ch_put (by simp))) (by simp; omega) hpre) ?_
      rintro e a3 W3 ⟨⟨hb0, hb1⟩, (⟨rfl, hi3, hk3⟩ | ⟨rfl, hi3⟩)⟩
      · have hl3 := hb1.trans hl2
        have hlt3 := (Array.getElem?_eq_some_iff.1 hl3).1
        refine ⟨_, _, run_endRound (P := P) none hl3, .inl ⟨rfl, ⟨hI _ _ _ hi3 (ch_put (by simp)), by simp; omega, World.putObj_heap_same hlt3, (World.putObj_heap_other (by omega)).trans (hb0.trans hk2)⟩, fun k hk => ?_⟩⟩
        exact (World.putObj_heap_other (hKne k hk)).trans ((hk3 k hk).trans (hK2 k hk))
      · have hl3 := hb1.trans hl2
        have hlt3 := (Array.getElem?_eq_some_iff.1 hl3).1
        refine ⟨_, _, run_endRound (P := P) (some .ret) hl3, .inr ⟨rfl, hIx _ _ hi3 (ch_put (by simp)), by simp; omega, World.putObj_heap_same hlt3, (World.putObj_heap_other (by omega)).trans (hb0.trans hk2)⟩⟩
    · rintro e W2 ⟨⟨v, rfl⟩, (⟨hi, hz, hl, hk⟩ | ⟨hi, hz, hl, hk⟩)⟩
      · exact ⟨none, _, run_endLoop (P := P) hl (by simp [rec0]), hdone _ (hI _ _ _ hi (ch_put (by simp))) ((World.putObj_heap_other (by omega)).trans hk) (by simp; omega)⟩
      · exact ⟨some .ret, _, run_endLoop (P := P) hl (by simp [rec0]), hstop _ (hIx _ _ hi (ch_put (by simp))) ((World.putObj_heap_other (by omega)).trans hk) (by simp; omega)⟩
end
end Go
namespace Go.Proofs.Ytndcgfnlgcincaa
open Go.RowKit Go.Mem Go.Aig
def ablk (a : Option Addr) : List Nat := match a with | some p => [p.block] | none => []
theorem ablk_of {a : Option Addr} {p : Addr} (h : a = some p) : p.block ∈ ablk a := by subst h; simp [ablk]
theorem keep_cell {w W : World} {k o : Nat} (h : W.heap[k]? = w.heap[k]?) {v : Value} (hv : w.cell? ⟨k, o, none⟩ = some v) : W.cell? ⟨k, o, none⟩ = some v := (World.cell?_of_block h).trans hv
theorem Sl.keep {w W : World} {a : Option Addr} {l : List Int} (h : Sl w a l) (hk : ∀ k ∈ ablk a, W.heap[k]? = w.heap[k]?) : Sl W a l :=
  ⟨fun i x hx => by
    obtain ⟨b, o, rfl, hc⟩ := h.cells i x hx
    exact ⟨b, o, rfl, keep_cell (hk b (by simp [ablk])) hc⟩, h.bd⟩
def pairEnc (p : Nat × Nat) : Array Value := #[.int .i64 p.1, .int .i64 p.2]
theorem sfnvpairs1 : Fnv 88 := fnv_of Try.func88 (by simp [Try.f88]) (by simp [Try.f88])
set_option maxRecDepth 100000 in
set_option maxHeartbeats 2000000 in
theorem spairs_seq (w : World) (F : Fence) (n : Nat) (hf : F.fn 88) (hro : F.round = none) (hn : 1 ≤ n) {bx b2 : Nat} {xa ya : Option Addr} {x y : List Nat} (len xc yc : Nat) (hxl : x.length = len) (hyl : y.length = len) (hbx : w.cell? ⟨bx, 0, none⟩ = some (.slice xa len xc)) (hby : w.cell? ⟨b2, 0, none⟩ = some (.slice ya len yc))
    (hx : Sl w xa (x.map fun (r : Nat) => (r : Int))) (hy : Sl w ya (y.map fun (r : Nat) => (r : Int))) :
    SeqP F n Try.prog 88 #[.pointer (some ⟨bx, 0, none⟩), .pointer (some ⟨b2, 0, none⟩)] pairEnc (bx :: b2 :: (ablk xa ++ ablk ya)) (x.zip y) w := by
  subst hxl
  intro lp J Jx W hK hJ hJx hY h0
  have hbd := hx.bd
  rw [List.length_map] at hbd
  show CallsIn F n Try.prog 88 #[.func (.yield lp) #[] #[], .pointer (some ⟨bx, 0, none⟩), .pointer (some ⟨b2, 0, none⟩)] W _
  have HY := Lib.hid hY; clear hY
  have HJ := Lib.hid hJ; clear hJ
  have HJX := Lib.hid hJx; clear hJx
  have H0 := Lib.hid h0; clear h0
  have HK := Lib.hid hK; clear hK
  have HX := Lib.hid hx; clear hx
  have HYS := Lib.hid hy; clear hy
  have HBX := Lib.hid hbx; clear hbx
  have HBY := Lib.hid hby; clear hby
  have HYL := Lib.hid hyl; clear hyl
  have bx1 := keep_cell (HK.out bx (by simp)) HBX.out
  refine callsIn_of_wp Try.func88 rfl hf ?_ hro
  simp only [Try.ntmps88, List.size_toArray, List.length_cons, List.length_nil, Nat.reduceAdd, Nat.reduceSub, Array.replicate_succ, Array.replicate_zero, List.push_toArray, List.append_toArray, List.nil_append, List.cons_append]
  gi_wp2
  clear bx1
  gi_loopw [8] (fun i wr => ∃ k : Nat, k ≤ x.length ∧ i = .int .i64 k ∧ (∀ q ∈ bx :: b2 :: (ablk xa ++ ablk ya), wr.heap[q]? = w.heap[q]?) ∧ J ((x.zip y).take k) wr) (fun i _ => x.length - (intOf i).toNat)
  case atStart => exact ⟨0, Nat.zero_le _, rfl, HK.out, H0.out⟩
  case round =>
    obtain ⟨k, hk, rfl, hq, hj⟩ := hrel
    by_cases hlt : k < x.length
    · have hxk : x[k]? = some x[k] := List.getElem?_eq_getElem hlt
      have hyk : y[k]? = some (y[k]'(by rw [HYL.out]; exact hlt)) := List.getElem?_eq_getElem (by rw [HYL.out]; exact hlt)
      generalize x[k] = r at hxk
      generalize y[k]'(by rw [HYL.out]; exact hlt) = s at hyk
      obtain ⟨xb, xo, rfl, hxc⟩ := HX.out.cells k (r : Int) (by simp [hxk])
      obtain ⟨yb, yo, rfl, hyc⟩ := HYS.out.cells k (s : Int) (by simp [hyk])
      have d0 := keep_cell (hq xb (by simp [ablk])) hxc
      have d1 := keep_cell (hq yb (by simp [ablk])) hyc
      have e0 := keep_cell (hq b2 (by simp)) HBY.out
      have hz : (x.zip y)[k]? = some (r, s) := by rw [List.getElem?_zip_eq_some]; exact ⟨hxk, hyk⟩
      have hsu : (x.zip y).take (k + 1) = (x.zip y).take k ++ [(r, s)] := by rw [List.take_add_one, hz]; rfl
      obtain ⟨fn, tmps, assign, body, hy1, hR⟩ := HY.out _ (r, s) _ hj (by rw [← hsu]; exact List.take_prefix _ _)
      simp only [pairEnc] at hy1
      have HQ := Lib.hid hq; clear hq
      have HJ1 := Lib.hid hj; clear hj
      have HSU := Lib.hid hsu; clear hsu
      clear hxk hyk hxc hyc hz
      gi_wp2
      refine hR.mono ?_
      rintro e W2 (⟨rfl, hJ2, hk2⟩ | ⟨rfl, hJ2⟩)
      · have HJ2 := Lib.hid hJ2; clear hJ2
        have HK2 := Lib.hid hk2; clear hk2
        gi_wp2
        go_roundw
        case rel => exact ⟨k + 1, by omega, by go_num, fun q hq => (HK2.out q hq).trans (HQ.out q hq), by rw [HSU.out]; exact HJ2.out⟩
        case measure => simp [intOf]; omega
      · have HJ2 := Lib.hid hJ2; clear hJ2
        gi_wp2
        refine bodyPost_ret (results_none rfl _ _ _) rfl ?_
        exact ⟨⟨_, rfl⟩, .inr HJ2.out⟩
    · have hkl : (x.zip y).take k = x.zip y := List.take_of_length_le (by rw [List.length_zip, HYL.out]; omega)
      rw [hkl] at hj
      have HJ1 := Lib.hid hj; clear hj
      clear hkl
      gi_wp2
      go_end0
      exact ⟨⟨_, rfl⟩, .inl HJ1.out⟩
set_option maxRecDepth 100000 in
set_option maxHeartbeats 1000000 in
theorem spairs_is {w : World} (xa ya : Option Addr) (n xc n' yc : Nat) :
    Calls Try.prog 83 #[.slice xa n xc, .slice ya n' yc] w fun e w' => e = .returned (.func (.func 88) #[] #[.pointer (some ⟨w.heap.size, 0, none⟩), .pointer (some ⟨w.heap.size + 1, 0, none⟩)]) ∧ w' = (w.alloc (.cells #[.slice xa n xc] 25)).alloc (.cells #[.slice ya n' yc] 25) := by
  go_enter Try.func83, Try.ntmps83
  go_wp2_with fail
  go_ret
  exact ⟨rfl, rfl⟩
end Go.Proofs.Ytndcgfnlgcincaa
namespace Go.Aig
def wres (G : Gra) (R : Mk × List Nat) : Gra × List Nat × Nat := if R.1.2 ≠ 0 then (G, [], R.1.2) else (R.1.1, R.2, 0)
def rres (G : Gra) (R : Mk × Nat) : Res := if R.1.2 ≠ 0 then (G, 0, R.1.2) else (R.1.1, R.2, 0)
theorem Ext.back {G G' : Gra} (h : Ext G G') : ({ G' with nodes := G'.nodes.take G.nodes.length } : Gra) = G := by
  obtain ⟨e1, more, e2⟩ := h
  show ({ most := G'.most, nodes := G'.nodes.take G.nodes.length } : Gra) = G
  rw [e1, e2, List.take_left]
theorem doCut_back {G G' : Gra} (hG : Ok G) (h : Ext G G') : doCut G' G.nodes.length = (G, 0) := by
  have := h.len
  have := hG.wf.pos
  unfold doCut
  rw [if_neg (by omega)]
  simp only [Int.toNat_natCast]
  rw [h.back]
end Go.Aig
namespace Go.Proofs.Ytndcgfnlgcincaa
open Go.RowKit Go.Mem Go.Aig
def GVo (w : World) (g : Nat) (G : Gra) (X F : List Nat) (v : Value) (l : List Nat) (w' : World) : Prop :=
  ∃ F', GIn w' g G F' ∧ Ch (X ++ F) w w' ∧ (∀ k ∈ F', k ∈ F ∨ w.heap.size ≤ k) ∧ F'[2]? = F[2]? ∧ row w' 26 1 v l.length (refsCells l) ∧ ∀ k, v.ownBlock = some k → w.heap.size ≤ k ∧ k ∉ F'
def MVo (w : World) (g m : Nat) (P : Mk) (X F : List Nat) (v : Value) (l : List Nat) (w' : World) : Prop :=
  ∃ F', MIn w' g m P F' ∧ Ch (m :: (X ++ F)) w w' ∧ (∀ k ∈ F', k ∈ F ∨ w.heap.size ≤ k) ∧ F'[2]? = F[2]? ∧ row w' 26 1 v l.length (refsCells l) ∧ ∀ k, v.ownBlock = some k → w.heap.size ≤ k ∧ k ∉ F' ∧ k ≠ m
theorem GVo.nil {w w' : World} {g : Nat} {G : Gra} {X F F' : List Nat} (h1 : GIn w' g G F') (h2 : Ch (X ++ F) w w') (h3 : ∀ k ∈ F', k ∈ F ∨ w.heap.size ≤ k) (h4 : F'[2]? = F[2]?) : GVo w g G X F (.slice none 0 0) [] w' :=
  ⟨F', h1, h2, h3, h4, ⟨rfl, .inl ⟨rfl, rfl⟩⟩, by simp [Value.ownBlock]⟩
theorem GTo.mk {w w' : World} {g : Nat} {G : Gra} {F F' : List Nat} (h1 : GIn w' g G F') (h2 : Ch F w w') (h3 : ∀ k ∈ F', k ∈ F ∨ w.heap.size ≤ k) (h4 : F'[2]? = F[2]?) : GTo w g G F w' := ⟨F', h1, h2, h3, h4⟩
section
variable {w : World} {g : Nat} {G : Gra} {F : List Nat}
set_option maxRecDepth 100000 in
set_option maxHeartbeats 2000000 in
theorem sbuildW_is (h : GIn w g G F) (fid : Nat) (caps : Array Value) (hfn : Fnv fid) (R : Mk × List Nat) (X : List Nat)
    (hf : ∀ W m, w.heap.size ≤ m → Ch [] w W → MIn W g m (G, 0) F → Calls Try.prog fid (#[.pointer (some ⟨m, 0, none⟩)] ++ caps) W fun e W' => ∃ v P l, e = .returned v ∧ Sim G P R.1 ∧ (R.1.2 = 0 → l = R.2) ∧ MVo W g m P X F v l W') :
    Calls Try.prog 48 #[.pointer (some ⟨g, 0, none⟩), .func (.func fid) #[] caps] w fun e w' => ∃ v, e = .returned (.tuple #[v, .int .i64 (wres G R).2.2]) ∧ GVo w g (wres G R).1 X F v (wres G R).2.1 w' := by
  have HL := Len_g h
  have hg := h.lt
  have hok := h.ok
  have hroom := h.ok.room
  have hmost := h.ok.most
  have hms : MIn (w.alloc (.cells #[.pointer (some ⟨g, 0, none⟩), .int .i64 0] 118)) g w.heap.size (G, 0) F := ⟨h.same ((Ch.refl [] _).alloc _) (by simp), blk.new' _ _ rfl, fun hm => by have := hg _ hm; omega⟩
  have HF := hf _ w.heap.size (Nat.le_refl _) ((Ch.refl _ _).alloc _) hms
  have hcf : ∀ args w, (callFunc fid args).run Try.prog w = .ok (.enter fid args) w := hfn
  have H := Lib.hid h; clear h
  have HG := Lib.hid hg; clear hg
  have HOK := Lib.hid hok; clear hok
  clear hf hms
  generalize hWW : wres G R = WW
  have HWW := Lib.hid hWW; clear hWW
  go_enter Try.func48, Try.ntmps48
  go_wp2_with fail
  refine HL.mono ?_
  rintro e w' ⟨rfl, rfl⟩
  go_wp2_with fail
  refine HF.mono ?_
  rintro e w1 ⟨v, P, l, rfl, hsim, hl, F', hm, hc, hF', hF2, hrow, hown⟩
  obtain ⟨va, vc, rfl⟩ := row.shape hrow
  have m1 := hm.bk.cell (i := 1) rfl
  have hc0 : Ch (X ++ F) w w1 := (((Ch.refl (X ++ F) w).alloc (.cells #[.pointer (some ⟨g, 0, none⟩), .int .i64 0] 118))).trans hc (fun k hk => by
    simp only [List.mem_cons] at hk
    rcases hk with rfl | hk
    · right; omega
    · exact .inl hk)
  have hz := hc0.size
  have hF0 : ∀ k ∈ F', k ∈ F ∨ w.heap.size ≤ k := fun k hk => (hF' k hk).imp id (fun e => by simp at e; omega)
  have hrel := hsim.rel
  have hext := hsim.ext
  have HROW := Lib.hid hrow; clear hrow
  have HC0 := Lib.hid hc0; clear hc0
  have HF0 := Lib.hid hF0; clear hF0
  have HOWN := Lib.hid hown; clear hown
  have HM := Lib.hid hm; clear hm
  have HEXT := Lib.hid hext; clear hext
  clear hc hF' hsim
  rcases hrel with ⟨he, rfl⟩ | ⟨he, hp⟩
  · have hw : wres G R = (R.1.1, R.2, 0) := by unfold wres; rw [if_neg (by simp [he])]
    have hww := HWW.out
    rw [hw] at hww
    subst hww
    rw [he] at m1
    have hl := hl he
    subst hl
    clear hw HOK
    have HE := Lib.hid he; clear he
    go_wp2_with fail
    go_ret2
    exact ⟨_, rfl, F', HM.out.gin, HC0.out, HF0.out, hF2, HROW.out, fun k hk => ⟨by have := (HOWN.out k hk).1; simp at this; omega, (HOWN.out k hk).2.1⟩⟩
  · have hw : wres G R = (G, [], 201) := by unfold wres; rw [if_pos (by simp [he]), he]
    have hww := HWW.out
    rw [hw] at hww
    subst hww
    rw [hp] at m1
    have hcut := Cut_g HM.out.gin G.nodes.length (by omega) (by omega)
    rw [doCut_back HOK.out HEXT.out] at hcut
    have hmlt := HM.out.bk.lt
    have hmF := HM.out.apart
    clear hw hl
    have HE := Lib.hid he; clear he
    have HP := Lib.hid hp; clear hp
    have HMF := Lib.hid hmF; clear hmF
    go_wp2_with fail
    refine hcut.mono ?_
    rintro e w4 ⟨rfl, F4, hg4, hc4, hF4, hF42⟩
    have hm4 : w4.cell? ⟨w.heap.size, 1, none⟩ = some (.int .i64 201) := (hc4.cell (p := ⟨w.heap.size, 1, none⟩) hmlt HMF.out).trans m1
    clear m1
    have HG4 := Lib.hid hg4; clear hg4
    have HC4 := Lib.hid hc4; clear hc4
    have HF4 := Lib.hid hF4; clear hF4
    go_wp2_with fail
    refine Ord.St.door (fun _ => True) [.fl, .fl, .fl, .fl, .rd, .fl, .fl] [0, 0, 2, 6, 14, 1, 63] [0, 1, 2, 3, 4, 5, 6] mixed (by kernel_rfl) rfl ?_
    refine Ord.St.fl2 (T' := ?_) 0 [1, 2, 3, 4, 5, 6] _ _ rfl (by kernel_rfl) rfl rfl rfl rfl (fun K w' hk => ?_) ?_
    rotate_left
    · go_step; exact hk
    refine Ord.St.fl2 (T' := ?_) 1 [2, 3, 4, 5, 6] _ _ rfl (by kernel_rfl) rfl rfl rfl rfl (fun K w' hk => ?_) ?_
    rotate_left
    · go_step; exact hk
    refine Ord.St.fl2 (T' := ?_) 2 [3, 4, 5, 6] _ _ rfl (by kernel_rfl) rfl rfl rfl rfl (fun K w' hk => ?_) ?_
    rotate_left
    · go_step; exact hk
    refine Ord.St.fl2 (T' := ?_) 3 [4, 5, 6] _ _ rfl (by kernel_rfl) rfl rfl rfl rfl (fun K w' hk => ?_) ?_
    rotate_left
    · go_step; exact hk
    refine Ord.St.rd2 (T' := ?_) 4 [5, 6] _ _ rfl (by kernel_rfl) rfl rfl rfl rfl (fun K hk => ?_) ?_
    rotate_left
    · go_step; exact hk
    refine Ord.St.fl2 (T' := ?_) 5 [6] _ _ rfl (by kernel_rfl) rfl rfl rfl rfl (fun K w' hk => ?_) ?_
    rotate_left
    · go_step; exact hk
    refine Ord.St.fl2 (T' := ?_) 6 [] _ _ rfl (by kernel_rfl) rfl rfl rfl rfl (fun K w' hk => ?_) ?_
    rotate_left
    · go_step; exact hk
    refine Ord.St.nil ?_
    go_wp2_with fail
    go_ret2
    refine ⟨_, rfl, GVo.nil (F' := F4) (HG4.out.same (F' := []) (Ch.refl _ _).drew (by simp)) (HC0.out.trans HC4.out.drew (fun k hk => (HF0.out k hk).imp (fun e => List.mem_append_right _ e) id)) (fun k hk => ?_) (hF42.trans hF2)⟩
    rcases HF4.out k hk with e | e
    · exact HF0.out k e
    · exact .inr (by omega)
set_option maxRecDepth 100000 in
set_option maxHeartbeats 2000000 in
theorem sbuildR_is (h : GIn w g G F) (fid : Nat) (caps : Array Value) (hfn : Fnv fid) (R : Mk × Nat)
    (hf : ∀ W m, w.heap.size ≤ m → Ch [] w W → MIn W g m (G, 0) F → Calls Try.prog fid (#[.pointer (some ⟨m, 0, none⟩)] ++ caps) W fun e W' => ∃ (P : Mk) (r : Nat), e = .returned (.int .i64 r) ∧ Sim G P R.1 ∧ (R.1.2 = 0 → r = R.2) ∧ MTo W g m P F W') :
    Calls Try.prog 81 #[.pointer (some ⟨g, 0, none⟩), .func (.func fid) #[] caps] w fun e w' => e = .returned (.tuple #[.int .i64 (rres G R).2.1, .int .i64 (rres G R).2.2]) ∧ GTo w g (rres G R).1 F w' := by
  have HL := Len_g h
  have hg := h.lt
  have hok := h.ok
  have hroom := h.ok.room
  have hmost := h.ok.most
  have hms : MIn (w.alloc (.cells #[.pointer (some ⟨g, 0, none⟩), .int .i64 0] 118)) g w.heap.size (G, 0) F := ⟨h.same ((Ch.refl [] _).alloc _) (by simp), blk.new' _ _ rfl, fun hm => by have := hg _ hm; omega⟩
  have HF := hf _ w.heap.size (Nat.le_refl _) ((Ch.refl _ _).alloc _) hms
  have hcf : ∀ args w, (callFunc fid args).run Try.prog w = .ok (.enter fid args) w := hfn
  have H := Lib.hid h; clear h
  have HG := Lib.hid hg; clear hg
  have HOK := Lib.hid hok; clear hok
  clear hf hms
  generalize hWW : rres G R = WW
  have HWW := Lib.hid hWW; clear hWW
  go_enter Try.func81, Try.ntmps81
  go_wp2_with fail
  refine HL.mono ?_
  rintro e w' ⟨rfl, rfl⟩
  go_wp2_with fail
  refine HF.mono ?_
  rintro e w1 ⟨P, r, rfl, hsim, hl, F', hm, hc, hF', hF2⟩
  have m1 := hm.bk.cell (i := 1) rfl
  have hc0 : Ch F w w1 := (((Ch.refl F w).alloc (.cells #[.pointer (some ⟨g, 0, none⟩), .int .i64 0] 118))).trans hc (fun k hk => by
    simp only [List.mem_cons] at hk
    rcases hk with rfl | hk
    · right; omega
    · exact .inl hk)
  have hz := hc0.size
  have hF0 : ∀ k ∈ F', k ∈ F ∨ w.heap.size ≤ k := fun k hk => (hF' k hk).imp id (fun e => by simp at e; omega)
  have hrel := hsim.rel
  have hext := hsim.ext
  have HC0 := Lib.hid hc0; clear hc0
  have HF0 := Lib.hid hF0; clear hF0
  have HM := Lib.hid hm; clear hm
  have HEXT := Lib.hid hext; clear hext
  clear hc hF' hsim
  rcases hrel with ⟨he, rfl⟩ | ⟨he, hp⟩
  · have hw : rres G R = (R.1.1, R.2, 0) := by unfold rres; rw [if_neg (by simp [he])]
    have hww := HWW.out
    rw [hw] at hww
    subst hww
    rw [he] at m1
    have hl := hl he
    subst hl
    clear hw HOK
    have HE := Lib.hid he; clear he
    go_wp2_with fail
    go_ret2
    exact ⟨rfl, F', HM.out.gin, HC0.out, HF0.out, hF2⟩
  · have hw : rres G R = (G, 0, 201) := by unfold rres; rw [if_pos (by simp [he]), he]
    have hww := HWW.out
    rw [hw] at hww
    subst hww
    rw [hp] at m1
    have hcut := Cut_g HM.out.gin G.nodes.length (by omega) (by omega)
    rw [doCut_back HOK.out HEXT.out] at hcut
    have hmlt := HM.out.bk.lt
    have hmF := HM.out.apart
    clear hw hl
    have HE := Lib.hid he; clear he
    have HP := Lib.hid hp; clear hp
    have HMF := Lib.hid hmF; clear hmF
    go_wp2_with fail
    refine hcut.mono ?_
    rintro e w4 ⟨rfl, F4, hg4, hc4, hF4, hF42⟩
    have hm4 : w4.cell? ⟨w.heap.size, 1, none⟩ = some (.int .i64 201) := (hc4.cell (p := ⟨w.heap.size, 1, none⟩) hmlt HMF.out).trans m1
    clear m1
    have HG4 := Lib.hid hg4; clear hg4
    have HC4 := Lib.hid hc4; clear hc4
    have HF4 := Lib.hid hF4; clear hF4
    go_wp2_with fail
    refine Ord.St.door (fun _ => True) [.fl, .fl, .fl, .fl, .rd, .fl, .fl] [0, 0, 2, 6, 14, 1, 63] [0, 1, 2, 3, 4, 5, 6] mixed (by kernel_rfl) rfl ?_
    refine Ord.St.fl2 (T' := ?_) 0 [1, 2, 3, 4, 5, 6] _ _ rfl (by kernel_rfl) rfl rfl rfl rfl (fun K w' hk => ?_) ?_
    rotate_left
    · go_step; exact hk
    refine Ord.St.fl2 (T' := ?_) 1 [2, 3, 4, 5, 6] _ _ rfl (by kernel_rfl) rfl rfl rfl rfl (fun K w' hk => ?_) ?_
    rotate_left
    · go_step; exact hk
    refine Ord.St.fl2 (T' := ?_) 2 [3, 4, 5, 6] _ _ rfl (by kernel_rfl) rfl rfl rfl rfl (fun K w' hk => ?_) ?_
    rotate_left
    · go_step; exact hk
    refine Ord.St.fl2 (T' := ?_) 3 [4, 5, 6] _ _ rfl (by kernel_rfl) rfl rfl rfl rfl (fun K w' hk => ?_) ?_
    rotate_left
    · go_step; exact hk
    refine Ord.St.rd2 (T' := ?_) 4 [5, 6] _ _ rfl (by kernel_rfl) rfl rfl rfl rfl (fun K hk => ?_) ?_
    rotate_left
    · go_step; exact hk
    refine Ord.St.fl2 (T' := ?_) 5 [6] _ _ rfl (by kernel_rfl) rfl rfl rfl rfl (fun K w' hk => ?_) ?_
    rotate_left
    · go_step; exact hk
    refine Ord.St.fl2 (T' := ?_) 6 [] _ _ rfl (by kernel_rfl) rfl rfl rfl rfl (fun K w' hk => ?_) ?_
    rotate_left
    · go_step; exact hk
    refine Ord.St.nil ?_
    go_wp2_with fail
    go_ret2
    refine ⟨rfl, GTo.mk (F' := F4) (HG4.out.same (F' := []) (Ch.refl _ _).drew (by simp)) (HC0.out.trans HC4.out.drew HF0.out) (fun k hk => ?_) (hF42.trans hF2)⟩
    rcases HF4.out k hk with e | e
    · exact HF0.out k e
    · exact .inr (by omega)
end
end Go.Proofs.Ytndcgfnlgcincaa
namespace Go.Aig
def rightW (n : Int) : Bool := decide (1 ≤ n) && decide (n ≤ 17)
def badIn (G : Gra) (x : List Int) : Bool := x.any fun r => !right G.nodes r
def badAs (n0 : Nat) (x : List Int) : Bool := !rightW x.length || (x.length : Int) != n0
def chk (G : Gra) (ws : List (List Int)) : Nat :=
  if ws.any (badAs (ws.headD []).length) then 230 else if ws.any (badIn G) then 200 else 0
end Go.Aig
namespace Go.Proofs.Ytndcgfnlgcincaa
open Go.RowKit Go.Mem Go.Aig
structure WV where
  a : Option Addr
  l : List Int
  c : Nat
def WV.val (x : WV) : Value := .slice x.a x.l.length x.c
structure WVok (w : World) (x : WV) : Prop where
  sl : Sl w x.a x.l
  bd : ∀ r ∈ x.l, -9223372036854775808 ≤ r ∧ r ≤ 9223372036854775807
  len : x.l.length ≤ 1000000
theorem WVok.ch {F : List Nat} {w w' : World} {x : WV} (h : WVok w x) (hc : Ch F w w') (hF : ∀ p, x.a = some p → p.block ∉ F) : WVok w' x := ⟨h.sl.ch hc hF, h.bd, h.len⟩
section
variable {w : World} {g : Nat} {G : Gra} {F : List Nat}
set_option maxRecDepth 100000 in
set_option maxHeartbeats 1000000 in
theorem sright_is (n : Int) : Calls Try.prog 47 #[.int .i64 n] w fun e w' => e = .returned (.bool (rightW n)) ∧ w = w' := by
  unfold rightW
  by_cases h : 1 ≤ n
  · have h1 : decide ((1 : Int) ≤ n) = true := decide_eq_true h
    go_enter Try.func47, Try.ntmps47
    go_wp2_with fail
    go_ret
    exact ⟨by rw [h1]; rfl, rfl⟩
  · have h1 : decide ((1 : Int) ≤ n) = false := decide_eq_false h
    go_enter Try.func47, Try.ntmps47
    go_wp2_with fail
    go_ret
    exact ⟨rfl, rfl⟩
theorem fnvscheck1 : Fnv 87 := fnv_of Try.func87 (by simp [Try.f87]) (by simp [Try.f87])
set_option maxRecDepth 100000 in
set_option maxHeartbeats 1000000 in
theorem scheck1_is (h : GIn w g G F) {bx : Nat} (hb : w.cell? ⟨bx, 0, none⟩ = some (.pointer (some ⟨g, 0, none⟩))) (r : Int) (hr : r ≤ 9223372036854775807) :
    Calls Try.prog 87 (#[.int .i64 r] ++ #[.pointer (some ⟨bx, 0, none⟩)]) w fun e w' => e = .returned (.bool (!right G.nodes r)) ∧ w = w' := by
  show Calls Try.prog 87 #[.int .i64 r, .pointer (some ⟨bx, 0, none⟩)] w _
  have HR := Right_g h r hr
  clear h
  generalize right G.nodes r = q at *
  go_enter Try.func87, Try.ntmps87
  go_wp2_with fail
  refine HR.mono ?_
  rintro e w' ⟨rfl, rfl⟩
  go_wp2_with fail
  go_ret
  exact ⟨ret_bool rfl, rfl⟩
set_option maxRecDepth 100000 in
set_option maxHeartbeats 4000000 in
theorem scheck_is (h : GIn w g G F) {b : Nat} {ws : List WV} (n c : Nat) (hn : ws.length = n) (hn0 : n ≤ 2) (hc : ∀ i x, ws[i]? = some x → w.cell? ⟨b, i, none⟩ = some x.val) (hS : ∀ x ∈ ws, WVok w x) :
    Calls Try.prog 80 #[.pointer (some ⟨g, 0, none⟩), .slice (some ⟨b, 0, none⟩) n c] w fun e w' => e = .returned (.int .i64 (chk G (ws.map WV.l))) ∧ Ch [] w w' := by
  subst hn
  have hW1 : Ch [] w (w.alloc (.cells #[.pointer (some ⟨g, 0, none⟩)] 23)) := (Ch.refl _ _).alloc _
  have H1 := h.same hW1 (by simp)
  have HL := Len_g H1
  have b1 : (w.alloc (.cells #[.pointer (some ⟨g, 0, none⟩)] 23)).cell? ⟨w.heap.size, 0, none⟩ = some (.pointer (some ⟨g, 0, none⟩)) := by go_simp
  have hpos := h.ok.wf.pos
  have HCF : ∀ x ∈ ws, Calls Try.prog 56 #[.slice x.a x.l.length x.c, .func (.func 87) #[] #[.pointer (some ⟨w.heap.size, 0, none⟩)]] (w.alloc (.cells #[.pointer (some ⟨g, 0, none⟩)] 23)) fun e w' => e = .returned (.bool (badIn G x.l)) ∧ (w.alloc (.cells #[.pointer (some ⟨g, 0, none⟩)] 23)) = w' := fun x hx =>
    CFref_is x.c 87 #[.pointer (some ⟨w.heap.size, 0, none⟩)] (fun r => !right G.nodes r) ((hS x hx).ch hW1 (by simp)).sl (fun r hr => scheck1_is H1 b1 r ((hS x hx).bd r hr).2) fnvscheck1
  have hcc : ∀ i x, ws[i]? = some x → (w.alloc (.cells #[.pointer (some ⟨g, 0, none⟩)] 23)).cell? ⟨b, i, none⟩ = some (.slice x.a x.l.length x.c) := fun i x hx => (hW1.cell (p := ⟨b, i, none⟩) (cell_lt (hc i x hx)) (by simp)).trans (hc i x hx)
  have hlen : ∀ x ∈ ws, x.l.length ≤ 1000000 := fun x hx => (hS x hx).len
  have hroom := h.ok.room
  have hmost := h.ok.most
  have hp0 : ((G.nodes.length : Int) == 0) = false := beqN (by omega)
  have HCC := Lib.hid hcc; clear hcc
  have HCF := Lib.hid HCF
  clear hc hS h H1 b1
  generalize hWC : chk G (ws.map WV.l) = WC
  have HWC := Lib.hid hWC; clear hWC
  have HW1 := Lib.hid hW1; clear hW1
  have HLEN := Lib.hid hlen; clear hlen
  go_enter Try.func80, Try.ntmps80
  go_wp2_with fail
  refine wp_scope_straight ?_
  go_wp2_with fail
  refine HL.mono ?_
  rintro e w' ⟨rfl, rfl⟩
  go_wp2_with fail
  refine wp_label ?_
  go_wp2_with fail
  go_loopw [5, 13] (fun e i wr => ∃ k : Nat, k ≤ ws.length ∧ i = .int .i64 k ∧ wr = w.alloc (.cells #[.pointer (some ⟨g, 0, none⟩)] 23) ∧ ((ws.map WV.l).take k).any (badAs ((ws.map WV.l).headD []).length) = false ∧ e = .int .i64 (if ((ws.map WV.l).take k).any (badIn G) then 200 else 0 : Nat)) (fun _ i _ => ws.length - (intOf i).toNat)
  case atStart => exact ⟨0, by omega, rfl, rfl, rfl, rfl⟩
  case round =>
    obtain ⟨k, hk, rfl, rfl, hno, rfl⟩ := hrel
    generalize hE : (if ((ws.map WV.l).take k).any (badIn G) then 200 else 0 : Nat) = E
    have HE := Lib.hid hE; clear hE
    by_cases hlt : k < ws.length
    · obtain ⟨x, hx⟩ : ∃ x, ws[k]? = some x := ⟨_, List.getElem?_eq_getElem hlt⟩
      obtain ⟨x0, hx0⟩ : ∃ x0, ws[0]? = some x0 := ⟨_, List.getElem?_eq_getElem (by omega)⟩
      have c0 := HCC.out 0 x0 hx0
      have c1 := HCC.out k x hx
      have hh0 : ((ws.map WV.l).headD []).length = x0.l.length := by
        cases ws with
        | nil => cases hx0
        | cons y ws => simp at hx0; subst hx0; rfl
      rw [hh0] at hno
      have hxm : (ws.map WV.l)[k]? = some x.l := by simp [hx]
      have hmem : x ∈ ws := List.mem_of_getElem? hx
      have HR := sright_is (w := w.alloc (.cells #[.pointer (some ⟨g, 0, none⟩)] 23)) x.l.length
      have HC := HCF.out x hmem
      have hxl := HLEN.out x hmem
      have hx0l := HLEN.out x0 (List.mem_of_getElem? hx0)
      have HNO := Lib.hid hno; clear hno
      have HH0 := Lib.hid hh0; clear hh0
      have HXM := Lib.hid hxm; clear hxm
      have hchk : badAs x0.l.length x.l = true → chk G (ws.map WV.l) = 230 := fun hb => by
        unfold chk
        rw [HH0.out, if_pos (List.any_eq_true.2 ⟨x.l, List.mem_of_getElem? HXM.out, hb⟩)]
      clear hx hx0 hmem
      by_cases hr : rightW x.l.length = true
      · rw [hr] at HR
        by_cases hll : x.l.length = x0.l.length
        · have hq : ((x.l.length : Int) != (x0.l.length : Int)) = false := by rw [hll]; simp
          have hgood : badAs x0.l.length x.l = false := by unfold badAs; rw [hr, hq]; rfl
          have h1 : ((ws.map WV.l).take (k + 1)).any (badAs x0.l.length) = false := by
            rw [List.take_add_one, HXM.out, List.any_append, HNO.out]; simp [hgood]
          have h2 : (if ((ws.map WV.l).take (k + 1)).any (badIn G) then 200 else 0 : Nat) = if badIn G x.l then 200 else E := by
            rw [List.take_add_one, HXM.out, List.any_append, ← HE.out]
            cases hb : badIn G x.l <;> simp [hb]
          have H1 := Lib.hid h1; clear h1
          have H2 := Lib.hid h2; clear h2
          clear hchk hgood hll hr
          cases hb : badIn G x.l
          · rw [hb] at HC
            have HB := Lib.hid hb; clear hb
            go_wp2_with fail
            refine HR.mono ?_
            rintro e w' ⟨rfl, rfl⟩
            go_wp2_with fail
            refine HC.mono ?_
            rintro e w' ⟨rfl, rfl⟩
            go_wp2_with fail
            go_roundw
            case rel => exact ⟨k + 1, by omega, by go_num, by first | trivial | rfl, by rw [HH0.out]; exact H1.out, by rw [H2.out, HB.out]; rfl⟩
            case measure => simp [intOf]; omega
          · rw [hb] at HC
            have HB := Lib.hid hb; clear hb
            go_wp2_with fail
            refine HR.mono ?_
            rintro e w' ⟨rfl, rfl⟩
            go_wp2_with fail
            refine HC.mono ?_
            rintro e w' ⟨rfl, rfl⟩
            go_wp2_with fail
            go_roundw
            case rel => exact ⟨k + 1, by omega, by go_num, by first | trivial | rfl, by rw [HH0.out]; exact H1.out, by rw [H2.out, HB.out]; rfl⟩
            case measure => simp [intOf]; omega
        · have hq : ((x.l.length : Int) != (x0.l.length : Int)) = true := by simp; omega
          have hbad := hchk (by unfold badAs; rw [hq]; simp)
          have HBAD := Lib.hid hbad; clear hbad hchk hr
          clear HC hll
          go_wp2_with fail
          refine HR.mono ?_
          rintro e w' ⟨rfl, rfl⟩
          go_wp2_with fail
          rw [Exit.noGoto_ret]
          go_ret
          have hwc := HWC.out
          rw [HBAD.out] at hwc
          subst hwc
          exact ⟨rfl, HW1.out⟩
      · have hr0 : rightW x.l.length = false := by simpa using hr
        have hbad := hchk (by unfold badAs; rw [hr0]; rfl)
        have HBAD := Lib.hid hbad; clear hbad hchk hr
        rw [hr0] at HR
        clear HC hr0
        go_wp2_with fail
        refine HR.mono ?_
        rintro e w' ⟨rfl, rfl⟩
        go_wp2_with fail
        rw [Exit.noGoto_ret]
        go_ret
        have hwc := HWC.out
        rw [HBAD.out] at hwc
        subst hwc
        exact ⟨rfl, HW1.out⟩
    · have hwc := HWC.out
      have he := HE.out
      rw [List.take_of_length_le (by rw [List.length_map]; omega)] at hno he
      unfold chk at hwc
      rw [hno, if_neg (by simp), he] at hwc
      subst hwc
      clear HWC hno he
      go_wp2_with fail
      rw [Exit.noGoto_ret]
      go_ret
      exact ⟨rfl, HW1.out⟩
end
end Go.Proofs.Ytndcgfnlgcincaa
namespace Go.Ord
open Go
def noDefer (o : Oper) : Bool := match o.op with | .defer _ => false | _ => true
theorem noDefer_ne {o : Oper} (h : noDefer o = true) : ∀ c, o.op ≠ .defer c := fun c e => by unfold noDefer at h; rw [e] at h; cases h
theorem wide_in {l n : Nat} {P : Program} {o : Oper} (hq : noDefer o = true) {a : Act} {w : World} {K : Act → World → Prop} {Q : Exit → Act → World → Prop} (h : o.wp P a w K Q) : o.wpIn (Fence.wide.inRound l) n P a w K Q := by
  refine ⟨fun f _ => trivial, ?_⟩
  rw [Oper.semAt_eq _ _ _ (noDefer_ne hq)]
  unfold Oper.wp at h
  cases hr : (execOp a.eval o).run P w with
  | ok x w' =>
    rw [hr] at h
    cases x with
    | enter f args => exact ⟨(fun hd => by cases hd), CallsIn.inRound l ((callsIn_wide (n := n - 1)).2 h)⟩
    | row row args => exact ⟨(fun hd => by cases hd), fun c cs _ => let ⟨v, w1, r, s⟩ := h c cs; ⟨v, w1, r, (stepsIn_wide (P := P)).2 s⟩⟩
    | round => exact h.elim
    | _ => exact h
  | halt x w' =>
    rw [hr] at h
    cases x <;> exact h
theorem any_wide {l n : Nat} {P : Program} {ops : Array Oper} {Q : Exit → Act → World → Prop} {md : Region.Mode} (hnl : ¬ LetsOut Q) (hq : ∀ o ∈ ops.toList, noDefer o = true) : ∀ (m : Nat) (listed : Array Bool) (a : Act) (w : World), wpAny P md ops Q m listed a w → wpAnyIn (Fence.wide.inRound l) n P md ops Q m listed a w := by
  intro m
  induction m with
  | zero => intro listed a w h; exact h
  | succ m ih =>
    intro listed a w h
    refine ⟨h.1, fun i hi => ?_⟩
    have h2 := h.2 i hi
    refine wpOpIn_mono (fun a w => ih _ a w) ?_
    unfold wpOp at h2
    unfold wpOpIn
    cases ho : ops[i]? with
    | none => simpa [ho] using h2
    | some o =>
      have hqo : noDefer o = true := hq o (by
        have := Array.mem_of_getElem? ho
        exact Array.mem_def.1 this)
      simp only [ho] at h2 ⊢
      split
      · rename_i hw; simp only [hw, if_true] at h2; exact wide_in hqo (h2.resolve_right fun h => hnl h.2)
      · rename_i hw
        simp only [hw] at h2
        exact ⟨fun f _ => trivial, h2⟩
section
variable {n : Nat} {P : Program} {l : List Oper} {Q' : Exit → Act → World → Prop}
theorem St.doorR {lp id : Nat} {a : Act} {w : World} (C : World → Prop) (ks : List Kd) (A : List Nat) (R : List Nat) (hm : P.follows .mixedOrders = true) (hqq : l.all noDefer = true) (hs : stat l.toArray ks A = true) (hR : List.range l.length = R)
    (h : St P l ks A C (Q' .normal) R a w.drew) : (Code.region id l.toArray true).wpIn (Fence.wide.inRound lp) n P Q' a w := by
  refine wpIn_mono (Q := only (Q' .normal)) ?_ (fun e a w ⟨he, hq⟩ => he ▸ hq)
  refine wpIn_region_any hm ?_
  subst hR
  have h2 := h List.nodup_range (fun k o e hk _ _ _ => List.mem_range.2 (by have := lt_size hk; simpa using this)) (by simp) (stat_spec hs)
  have := wpAny_of_all (P := P) (C := C) (stat_spec hs) (Q' .normal) l.length (List.range l.length) (Array.replicate l.length false) a w.drew List.nodup_range (by simp) (by simp) (by simp)
    (fun k hk => by simp at hk; simp [hk]) (by simpa using h2)
  have h3 := any_wide (l := lp) (n := n) (only_lets _) (fun o ho => List.all_eq_true.1 hqq o (by simpa using ho)) _ _ _ _ this
  simpa using h3
end
end Go.Ord
namespace Go.Aig
def rop (f : Gra → Nat → Nat → Res) (s : Mk) (a b : Nat) : Mk × Nat := rstep s (f s.1 a b)
def Full2 (f : Gra → Nat → Nat → Res) : Prop := ∀ (G : Gra), Ok G → ∀ a b, a < 2 * G.nodes.length → b < 2 * G.nodes.length → RFull G (f G a b)
theorem full_xor : Full2 rXor := fun _ h _ _ ha hb => rXor_full h ha hb
theorem eachF_snoc (op : Mk → Nat → Nat → Mk × Nat) (s : Mk) (l : List (Nat × Nat)) (p : Nat × Nat) : eachF op s (l ++ [p]) = eachS op (eachF op s l) p := by
  unfold eachF; rw [List.foldl_append]; rfl
theorem zip_lt {x y : List Nat} {n : Nat} (hx : ∀ r ∈ x, r < n) (hy : ∀ r ∈ y, r < n) : ∀ p ∈ x.zip y, p.1 < n ∧ p.2 < n := fun p hp => by
  obtain ⟨a, b⟩ := p
  exact ⟨hx _ (List.of_mem_zip hp).1, hy _ (List.of_mem_zip hp).2⟩
end Go.Aig
namespace Go.Proofs.Ytndcgfnlgcincaa
open Go.RowKit Go.Mem Go.Aig
structure EF (w : World) (m : Nat) (X F : List Nat) (B ob mb : Nat) : Prop where
  low : ∀ k ∈ m :: (X ++ F), k < w.heap.size
  ob1 : w.heap.size ≤ ob
  ob2 : ob < B
  mb1 : w.heap.size ≤ mb
  mb2 : mb < B
  ne : ob ≠ mb
  mX : m ∉ X
  XF : ∀ k ∈ X, k ∉ F
structure EI (w : World) (g m : Nat) (G : Gra) (X F : List Nat) (B ob mb n : Nat) (R : Mk) (out : List Nat) (W : World) (v : Value) (P : Mk) (l : List Nat) (F' : List Nat) : Prop where
  sim : Sim G P R
  out : R.2 = 0 → l = out
  len : l.length = n
  all : ∀ r ∈ l, r < 2 * P.1.nodes.length
  mem : MIn W g m P F'
  ch : Ch (m :: (X ++ F)) w W
  own : ∀ k ∈ F', k ∈ F ∨ B + 2 ≤ k
  map : F'[2]? = F[2]?
  ob : blk W ob [v]
  mb : blk W mb [.pointer (some ⟨m, 0, none⟩)]
  row : row W 26 1 v l.length (refsCells l)
  fresh : ∀ k, v.ownBlock = some k → B + 2 ≤ k ∧ k ∉ F'
def Kok (w : World) (m : Nat) (X F : List Nat) (B ob : Nat) (K : List Nat) : Prop := ∀ k ∈ K, (k < w.heap.size ∧ k ∉ m :: (X ++ F)) ∨ (w.heap.size ≤ k ∧ k < B ∧ k ≠ ob)
theorem _root_.Go.Books.trans {B : Nat} {a b c : World} (h : Books B a b) (h' : Books B b c) : Books B a c := ⟨h'.1.trans h.1, h'.2.trans h.2⟩
theorem _root_.Go.Kept.trans {K : List Nat} {a b c : World} (h : Kept K a b) (h' : Kept K b c) : Kept K a c := fun k hk => (h' k hk).trans (h k hk)
theorem Kok.ch0 {w A A' : World} {m : Nat} {X F : List Nat} {B ob : Nat} {K : List Nat} (h : Kok w m X F B ob K) (hw : w.heap.size ≤ B) (hz : B + 2 ≤ A.heap.size) (hc : Ch [] A A') : Kept K A A' :=
  Kept.of_ch hc fun k hk => ⟨by rcases h k hk with e | e <;> omega, by simp⟩
section
variable {w : World} {g m : Nat} {G : Gra} {X F : List Nat} {B ob mb n : Nat} {R : Mk} {out : List Nat} {A A' : World} {v : Value} {P : Mk} {l F' : List Nat}
theorem EI.sep (h : EI w g m G X F B ob mb n R out A v P l F') (e : EF w m X F B ob mb) : ∀ k ∈ m :: (X ++ F'), (k ∈ m :: (X ++ F) ∧ k < w.heap.size) ∨ (k ∈ F' ∧ B + 2 ≤ k) := fun k hk => by
  simp only [List.mem_cons, List.mem_append] at hk
  rcases hk with rfl | hk | hk
  · exact .inl ⟨by simp, e.low _ (by simp)⟩
  · exact .inl ⟨by simp [hk], e.low _ (by simp [hk])⟩
  · rcases h.own k hk with h1 | h1
    · exact .inl ⟨by simp [h1], e.low _ (by simp [h1])⟩
    · exact .inr ⟨hk, h1⟩
theorem EI.same (h : EI w g m G X F B ob mb n R out A v P l F') (e : EF w m X F B ob mb) (hc : Ch [B, B + 1] A A') : EI w g m G X F B ob mb n R out A' v P l F' := by
  have ho := e.ob1; have ho2 := e.ob2; have hm1 := e.mb1; have hm2 := e.mb2
  have hs := h.sep e
  refine ⟨h.sim, h.out, h.len, h.all, h.mem.same hc ?_, h.ch.trans hc (by intro k hk; simp at hk; omega), h.own, h.map, h.ob.ch hc (by simp; omega), h.mb.ch hc (by simp; omega), h.row.ch hc ?_, h.fresh⟩
  · intro k hk
    have := hs k (by simp only [List.mem_cons, List.mem_append] at hk ⊢; rcases hk with e | e <;> simp [e])
    simp; omega
  · intro k hk
    have := (h.fresh k hk).1
    simp; omega
theorem EI.ch0 (h : EI w g m G X F B ob mb n R out A v P l F') (e : EF w m X F B ob mb) (hc : Ch [] A A') : EI w g m G X F B ob mb n R out A' v P l F' := h.same e (hc.mono (by simp))
theorem EI.more (h : EI w g m G X F B ob mb n R out A v P l F') (e : EF w m X F B ob mb) (hz : B + 2 ≤ A.heap.size) {P' R' : Mk} {F1 : List Nat} (hm : MIn A' g m P' F1) (hc : Ch (m :: (X ++ F')) A A') (hF : ∀ k ∈ F1, k ∈ F' ∨ A.heap.size ≤ k) (hmap : F1[2]? = F'[2]?)
    (hs : Sim G P' R') (hext : Ext P.1 P'.1) (hr : R.2 ≠ 0 → R'.2 ≠ 0) : Books B A A' ∧ EI w g m G X F B ob mb n R' out A' v P' l F1 ∧ ∀ K, Kok w m X F B ob K → Kept K A A' := by
  have ho := e.ob1; have ho2 := e.ob2; have hm1 := e.mb1; have hm2 := e.mb2
  have hsep := h.sep e
  have hown : ∀ k, v.ownBlock = some k → k < A.heap.size := fun k hk => (h.row.lt k hk).2
  have hcz := hc.size
  refine ⟨Books.of_ch hc hz (fun k hk => by have := hsep k hk; omega), ⟨hs, fun hz => h.out ?_, h.len, fun r hr => hext.lt (h.all r hr), hm, h.ch.trans hc (fun k hk => (hsep k hk).imp (fun e => e.1) (fun e => by omega)), fun k hk => ?_, hmap.trans h.map, h.ob.ch hc (fun hk => by have := hsep _ hk; omega), h.mb.ch hc (fun hk => by have := hsep _ hk; omega), h.row.ch hc (fun k hk hk2 => ?_), fun k hk => ⟨(h.fresh k hk).1, fun hk2 => ?_⟩⟩, fun K hK => Kept.of_ch hc (fun k hk => ?_)⟩
  · by_cases h0 : R.2 = 0
    · exact h0
    · exact absurd hz (hr h0)
  · rcases hF k hk with h1 | h1
    · exact h.own k h1
    · exact .inr (by omega)
  · have h1 := h.fresh k hk
    rcases hsep k hk2 with h2 | h2
    · omega
    · exact h1.2 h2.1
  · rcases hF k hk2 with h1 | h1
    · exact (h.fresh k hk).2 h1
    · have := hown k hk; omega
  · rcases hK k hk with ⟨h1, h2⟩ | ⟨h1, h2, h3⟩
    · have h4 := h.ch.size
      refine ⟨by omega, fun hk2 => ?_⟩
      rcases hsep k hk2 with h5 | h5
      · exact h2 h5.1
      · omega
    · refine ⟨by omega, fun hk2 => ?_⟩
      have := hsep k hk2; omega
theorem EI.app {va : Option Addr} {vc : Nat} (h : EI w g m G X F B ob mb n R out A (.slice va l.length vc) P l F') (e : EF w m X F B ob mb) (hz : B + 2 ≤ A.heap.size) {r : Nat} {o : Obj} {w4 : World} {gb gc : Nat} (hrow : Go.Mem.row w4 26 1 (.slice (some ⟨gb, 0, none⟩) (l.length + 1) gc) (l.length + 1) (refsCells l ++ [.int .i64 r]))
    (hc4 : Ch (Value.slice va l.length vc).ownBlock.toList (A.alloc o) w4) (hf4 : ∀ k, (Value.slice (some ⟨gb, 0, none⟩) (l.length + 1) gc).ownBlock = some k → (Value.slice va l.length vc).ownBlock = some k ∨ (A.alloc o).heap.size ≤ k) (hr : r < 2 * P.1.nodes.length) {out' : List Nat} (hout : R.2 = 0 → out' = out ++ [r]) :
    Books B A (w4.setCell ⟨ob, 0, none⟩ (.slice (some ⟨gb, 0, none⟩) (l.length + 1) gc)) ∧ EI w g m G X F B ob mb (n + 1) R out' (w4.setCell ⟨ob, 0, none⟩ (.slice (some ⟨gb, 0, none⟩) (l.length + 1) gc)) (.slice (some ⟨gb, 0, none⟩) (l.length + 1) gc) P (l ++ [r]) F' ∧ ∀ K, Kok w m X F B ob K → Kept K A (w4.setCell ⟨ob, 0, none⟩ (.slice (some ⟨gb, 0, none⟩) (l.length + 1) gc)) := by
  have ho := e.ob1; have ho2 := e.ob2; have hm1 := e.mb1; have hm2 := e.mb2
  have hsep := h.sep e
  have hfresh := h.fresh
  have hownlt : ∀ k, (Value.slice va l.length vc).ownBlock = some k → k < A.heap.size := fun k hk => (h.row.lt k hk).2
  have hA : Ch (Value.slice va l.length vc).ownBlock.toList A w4 := ((Ch.refl _ A).alloc o).trans hc4 (fun k hk => .inl hk)
  have hA5 : Ch ((Value.slice va l.length vc).ownBlock.toList ++ [ob]) A (w4.setCell ⟨ob, 0, none⟩ (.slice (some ⟨gb, 0, none⟩) (l.length + 1) gc)) := (hA.mono (fun k hk => .inl (List.mem_append_left _ hk))).setCell (.inl (by simp)) _
  have hL : ∀ k ∈ (Value.slice va l.length vc).ownBlock.toList ++ [ob], (B + 2 ≤ k ∧ k ∉ F') ∨ k = ob := fun k hk => by
    simp only [List.mem_append, Option.mem_toList, List.mem_singleton] at hk
    exact hk.imp (fun e => hfresh k e) id
  have hgb : (B + 2 ≤ gb ∧ gb ∉ F') := by
    rcases hf4 gb rfl with h1 | h1
    · exact hfresh gb h1
    · rw [World.size_alloc] at h1
      exact ⟨by omega, fun hk => by have := GIn.lt h.mem.gin gb hk; omega⟩
  have hnot : ∀ k ∈ m :: (X ++ F'), k ∉ (Value.slice va l.length vc).ownBlock.toList ++ [ob] := fun k hk hk2 => by
    have h1 := hsep k hk
    rcases hL k hk2 with h2 | h2
    · rcases h1 with h1 | h1
      · omega
      · exact h2.2 h1.1
    · omega
  refine ⟨Books.of_ch hA5 hz (fun k hk => by have := hL k hk; omega), ⟨h.sim, fun hz0 => ?_, by simp [h.len], fun q hq => ?_, h.mem.same hA5 (fun k hk => hnot k (by simp only [List.mem_cons, List.mem_append] at hk ⊢; rcases hk with e | e <;> simp [e])), h.ch.trans hA5 (fun k hk => .inr (by have := hL k hk; omega)), h.own, h.map, (h.ob.ch hA (fun hk => by have := (hfresh ob (by simpa using hk)).1; omega)).set (i := 0) _, (h.mb.ch hA (fun hk => by have := (hfresh mb (by simpa using hk)).1; omega)).other (by exact e.ne.symm) _, ?_, fun k hk => ?_⟩, fun K hK => Kept.of_ch hA5 (fun k hk => ?_)⟩
  · rw [hout hz0, h.out hz0]
  · simp only [List.mem_append, List.mem_singleton] at hq
    rcases hq with hq | rfl
    · exact h.all q hq
    · exact hr
  · rw [show refsCells (l ++ [r]) = refsCells l ++ [.int .i64 r] from by simp [refsCells], List.length_append]
    refine hrow.ch (F := [ob]) ((Ch.refl _ _).setCell (by simp) _) (fun k hk => ?_)
    cases hk
    simp; omega
  · cases hk
    exact hgb
  · have h4 := h.ch.size
    rcases hK k hk with ⟨h1, h2⟩ | ⟨h1, h2, h3⟩
    · refine ⟨by omega, fun hk2 => ?_⟩
      have := hL k hk2; omega
    · refine ⟨by omega, fun hk2 => ?_⟩
      have := hL k hk2; omega
theorem EI.done (h : EI w g m G X F B ob mb n R out A v P l F') (e : EF w m X F B ob mb) (o : Obj) : MVo w g m P X F v l (A.putObj B o) := by
  have ho := e.ob1; have ho2 := e.ob2
  have hcD : Ch [B] A (A.putObj B o) := ch_put (by simp)
  have hsep := h.sep e
  refine ⟨F', h.mem.same hcD (fun k hk => ?_), h.ch.trans hcD (fun k hk => by simp at hk; omega), fun k hk => (h.own k hk).imp id (fun e => by omega), h.map, h.row.ch hcD (fun k hk => by have := (h.fresh k hk).1; simp; omega), fun k hk => ?_⟩
  · have := hsep k (by simp only [List.mem_cons, List.mem_append] at hk ⊢; rcases hk with e | e <;> simp [e])
    simp; omega
  · obtain ⟨f1, f2⟩ := h.fresh k hk
    have := e.low m (by simp)
    exact ⟨by omega, f2, by omega⟩
end
theorem MVo.to {w w' : World} {g m : Nat} {P : Mk} {F : List Nat} {v : Value} {l : List Nat} (h : MVo w g m P [] F v l w') : MTo w g m P F w' := by
  obtain ⟨F', h1, h2, h3, h4, _⟩ := h
  exact ⟨F', h1, h2, h3, h4⟩
section
variable {w : World} {g m : Nat} {G : Gra} {X F : List Nat} {B ob mb : Nat} {R : Mk} {out : Nat} {A A' : World} {P : Mk} {r : Nat} {F' : List Nat}
end
def EIe (w : World) (g m : Nat) (G : Gra) (X F : List Nat) (B ob mb n : Nat) (R : Mk) (out : List Nat) (W : World) : Prop := ∃ v P l F', EI w g m G X F B ob mb n R out W v P l F'
theorem wp_named {P : Program} {c : Code} {Q : Exit → Act → World → Prop} {a : Act} {w : World} (h : ∀ W, W = w → c.wp P Q a W) : c.wp P Q a w := h w rfl
end Go.Proofs.Ytndcgfnlgcincaa
namespace Go.Proofs.Ytndcgfnlgcincaa
open Go.RowKit Go.Mem Go.Aig
attribute [local go_sem] Oper.semAt_some
section
variable {w : World} {g m : Nat} {G : Gra} {F : List Nat}
end
end Go.Proofs.Ytndcgfnlgcincaa
namespace Go.Aig
theorem rstep_zero {s : Mk} {R : Res} (h : (rstep s R).1.2 = 0) : s.2 = 0 := by
  by_cases hs : s.2 = 0
  · exact hs
  · rw [rstep_bad hs] at h; exact h
end Go.Aig
namespace Go.Proofs.Ytndcgfnlgcincaa
open Go.RowKit Go.Mem Go.Aig
attribute [local go_sem] Oper.semAt_some
section
variable {w : World} {g m : Nat} {G : Gra} {F : List Nat}
end
end Go.Proofs.Ytndcgfnlgcincaa
namespace Go.Aig
def neF (s : Mk) (l : List (Nat × Nat)) : Mk × Nat := sAny (eachF (rop rXor) s l).1 (eachF (rop rXor) s l).2
end Go.Aig
namespace Go.Proofs.Ytndcgfnlgcincaa
open Go.RowKit Go.Mem Go.Aig
attribute [local go_sem] Oper.semAt_some
theorem fnvsNe1 : Fnv 82 := fnv_of Try.func82 (by simp [Try.f82]) (by simp [Try.f82])
section
variable {w : World} {g m : Nat} {G : Gra} {F : List Nat}
set_option maxRecDepth 100000 in
set_option maxHeartbeats 4000000 in
theorem sNe1_is (h : MIn w g m (G, 0) F)
    {x y : List Nat} {xa ya : Option Addr} (len xc yc : Nat) (hxl : x.length = len) (hyl : y.length = len) (hlen : len ≤ 1000) {bx b2 bg : Nat} (hbx : w.cell? ⟨bx, 0, none⟩ = some (.slice xa len xc)) (hby : w.cell? ⟨b2, 0, none⟩ = some (.slice ya len yc)) (hbg : w.cell? ⟨bg, 0, none⟩ = some (.pointer (some ⟨g, 0, none⟩)))
    (hbgF : bg ∉ m :: F) (hx : Sl w xa (x.map fun (r : Nat) => (r : Int))) (hy : Sl w ya (y.map fun (r : Nat) => (r : Int))) (hxa : ∀ k ∈ ablk xa, k ∉ m :: F ∧ k < w.heap.size) (hya : ∀ k ∈ ablk ya, k ∉ m :: F ∧ k < w.heap.size)
    (hxr : ∀ r ∈ x, r < 2 * G.nodes.length) (hyr : ∀ r ∈ y, r < 2 * G.nodes.length) :
    Calls Try.prog 82 (#[.pointer (some ⟨m, 0, none⟩)] ++ #[.pointer (some ⟨bx, 0, none⟩), .pointer (some ⟨b2, 0, none⟩), .pointer (some ⟨bg, 0, none⟩)]) w fun e W' => ∃ (P : Mk) (r : Nat), e = .returned (.int .i64 r) ∧ Sim G P (neF (G, 0) (x.zip y)).1 ∧ ((neF (G, 0) (x.zip y)).1.2 = 0 → r = (neF (G, 0) (x.zip y)).2) ∧ MTo w g m P F W' := by
  show Calls Try.prog 82 #[.pointer (some ⟨m, 0, none⟩), .pointer (some ⟨bx, 0, none⟩), .pointer (some ⟨b2, 0, none⟩), .pointer (some ⟨bg, 0, none⟩)] w _
  have hml := h.bk.lt
  have hFl := h.gin.lt
  have hok := h.gin.ok
  have hbflt := cell_lt hbg
  have hbxlt := cell_lt hbx
  have hbylt := cell_lt hby
  simp only at hbflt hbxlt hbylt
  have HPAIR := fun W => spairs_is (w := W) xa ya len xc len yc
  have H := Lib.hid h; clear h
  have HX := Lib.hid hx; clear hx
  have HY := Lib.hid hy; clear hy
  refine (callsIn_wide (n := 4)).1 ?_
  refine callsIn_of_wp_marks Try.func82 rfl trivial ?_ rfl
  simp only [Try.ntmps82, List.size_toArray, List.length_cons, List.length_nil, Nat.reduceAdd, Nat.reduceSub, Array.replicate_succ, Array.replicate_zero, List.push_toArray, List.append_toArray, List.nil_append, List.cons_append]
  refine wpIn_wide.2 ?_
  go_wp2_with fail
  refine (HPAIR _).mono ?_
  rintro e w' ⟨rfl, rfl⟩
  go_wp2_with fail
  refine wp_named fun W0 hW0 => ?_
  have hc0 : Ch [] w W0 := by rw [hW0]; exact ((((Ch.refl _ _).alloc _).alloc _).alloc _).alloc _
  have hz0 : W0.heap.size = w.heap.size + 4 := by rw [hW0]; simp
  have hbm : blk W0 w.heap.size [.pointer (some ⟨m, 0, none⟩)] := by rw [hW0]; exact (((blk.new' _ _ (by simp)).alloc _).alloc _).alloc _
  have hbo : blk W0 (w.heap.size + 1) [.slice none 0 0] := by rw [hW0]; exact ((blk.new' _ _ (by simp)).alloc _).alloc _
  have hb2 : blk W0 (w.heap.size + 2) [.slice xa len xc] := by rw [hW0]; exact (blk.new' _ _ (by simp)).alloc _
  have hb3 : blk W0 (w.heap.size + 3) [.slice ya len yc] := by rw [hW0]; exact blk.new' _ _ (by simp)
  clear hW0
  have hEF : EF w m [] F (w.heap.size + 4) (w.heap.size + 1) w.heap.size := ⟨fun k hk => by
    simp only [List.mem_cons, List.nil_append] at hk
    rcases hk with rfl | hk
    · exact hml
    · exact hFl k hk, by omega, by omega, by omega, by omega, by omega, by simp, by simp⟩
  refine (wpIn_wide (n := 4)).1 ?_
  have hseq := spairs_seq W0 Fence.wide 3 trivial rfl (by omega) len xc yc hxl hyl (hb2.cell (i := 0) rfl) (hb3.cell (i := 0) rfl) (HX.out.keep fun k hk => hc0.block k (hxa k hk).2 (by simp)) (HY.out.keep fun k hk => hc0.block k (hya k hk).2 (by simp))
  have hKok : Kok w m [] F (w.heap.size + 4) (w.heap.size + 1) ((w.heap.size + 2) :: (w.heap.size + 3) :: (ablk xa ++ ablk ya)) := fun k hk => by
    simp only [List.mem_cons, List.mem_append] at hk
    rcases hk with rfl | rfl | hk | hk
    · exact .inr ⟨by omega, by omega, by omega⟩
    · exact .inr ⟨by omega, by omega, by omega⟩
    · exact .inl ⟨(hxa k hk).2, (hxa k hk).1⟩
    · exact .inl ⟨(hya k hk).2, (hya k hk).1⟩
  refine wpIn_rangeFunc_P (n := 4) (w.heap.size + 4) hz0 rfl (by omega) rfl trivial (fun args w => sfnvpairs1 args w) hseq ?kb (fun _ => rfl)
    (fun pre W => EIe w g m G [] F (w.heap.size + 4) (w.heap.size + 1) w.heap.size pre.length (eachF (rop rXor) (G, 0) pre).1 (eachF (rop rXor) (G, 0) pre).2 W)
    (fun _ => False) ?hi (fun _ _ h _ => h) ?h0 ?a1 ?assign ?body ?done (fun _ h _ _ => h.elim)
  case assign =>
    intro q x W K hK
    simp only [pairEnc]
    gi_wp2
    exact hK
  case kb =>
    intro k hk
    simp only [List.mem_cons, List.mem_append] at hk
    rcases hk with rfl | rfl | hk | hk
    · omega
    · omega
    · have := (hxa k hk).2; omega
    · have := (hya k hk).2; omega
  case hi =>
    rintro pre A A' ⟨v, P, l, F', h⟩ hc
    exact ⟨v, P, l, F', h.same hEF hc⟩
  case h0 =>
    refine ⟨.slice none 0 0, (G, 0), [], F, Sim.start hok, fun _ => rfl, rfl, by simp, H.out.same hc0 (by simp), hc0.mono (by simp), fun k hk => .inl hk, rfl, hbo, hbm, ⟨rfl, .inl ⟨rfl, rfl⟩⟩, by simp [Value.ownBlock]⟩
  case body =>
    rintro q pre ⟨a, b⟩ W ⟨v, P, l, F', hE⟩ hWl hpx
    obtain ⟨va, vc, rfl⟩ := row.shape hE.row
    have hpm := List.IsPrefix.subset hpx (List.mem_append_right pre (List.mem_singleton.2 rfl))
    obtain ⟨ha0, hb0⟩ := zip_lt hxr hyr _ hpm
    have ha := hE.sim.ext.lt ha0
    have hb := hE.sim.ext.lt hb0
    have hst := hE.sim.step (rXor_full hE.mem.gin.ok ha hb) (fun _ e => by rw [e])
    obtain ⟨Q, hQ⟩ : ∃ Q, Q = rXor P.1 a b := ⟨_, rfl⟩
    rw [← hQ] at hst
    have HQ := Lib.hid hQ; clear hQ
    have hln : l.length ≤ 1000 := by
      have h1 := hE.len
      have h2 := hpx.length_le
      rw [List.length_append, List.length_zip] at h2
      simp at h2
      omega
    have hbo := hE.ob
    have hbm := hE.mb
    have hbk := hE.mem.bk
    have hsep := hE.sep hEF
    have HE := Lib.hid hE; clear hE
    have HPX := Lib.hid hpx; clear hpx
    have HST := Lib.hid hst; clear hst
    have HSEP := Lib.hid hsep; clear hsep
    have HA := Lib.hid ha; clear ha
    have HB := Lib.hid hb; clear hb
    clear hpm ha0 hb0 hb2 hb3 hseq HPAIR
    gi_wp2
    refine Ord.St.doorR (fun w' => w'.cell? ⟨w.heap.size + 1, 0, none⟩ = some (.slice va l.length vc)) [.ho, .rd, .fl, .fl, .ef, .ef, .ef, .ef] [0, 0, 0, 0, 14, 30, 63, 127] [0, 1, 2, 3, 4, 5, 6, 7] mixed (by kernel_rfl) (by kernel_rfl) rfl ?_
    obtain ⟨Wc, hWc⟩ : ∃ Wc, Wc = W.drew := ⟨_, rfl⟩
    rw [← hWc]
    have hcur : Ch [] W Wc := by rw [hWc]; exact (Ch.refl _ _).drew
    clear hWc
    have hE := HE.out.ch0 hEF hcur
    have hWc : w.heap.size + 4 + 2 ≤ Wc.heap.size := Nat.le_trans hWl hcur.size
    have hbo := hE.ob
    have hbm := hE.mb.cell (i := 0) rfl
    have HFC := sxor_is hE.mem HA.out HB.out
    have HE := Lib.hid hE; clear hE
    have HCUR := Lib.hid hcur; clear hcur
    rw [← HQ.out] at HFC
    refine Ord.St.ho2 (T' := ?_) 0 [1, 2, 3, 4, 5, 6, 7] _ _ rfl (by kernel_rfl) rfl rfl rfl rfl ?_ (fun K w' hw' hk => ?_) ?_
    rotate_left
    · exact hbo.cell rfl
    · have q1 := hw'; go_step; exact hk
    refine Ord.St.rd2 (T' := ?_) 1 [2, 3, 4, 5, 6, 7] _ _ rfl (by kernel_rfl) rfl rfl rfl rfl (fun K hk => ?_) ?_
    rotate_left
    · go_step; exact hk
    refine Ord.St.fl2 (T' := ?_) 2 [3, 4, 5, 6, 7] _ _ rfl (by kernel_rfl) rfl rfl rfl rfl (fun K w' hk => ?_) ?_
    rotate_left
    · go_step; exact hk
    refine Ord.St.fl2 (T' := ?_) 3 [4, 5, 6, 7] _ _ rfl (by kernel_rfl) rfl rfl rfl rfl (fun K w' hk => ?_) ?_
    rotate_left
    · go_step; exact hk
    refine Ord.St.efC 4 [5, 6, 7] _ rfl (by kernel_rfl) (fun K hK => ?_)
    go_wp2_with fail
    refine HFC.mono ?_
    rintro e w2 ⟨rfl, F1', hmt, hcm, hFm, hmm⟩
    obtain ⟨k1, k2, k3⟩ := HE.out.more hEF hWc hmt hcm hFm hmm HST.out.1 HST.out.2.2.2.2.1 HST.out.2.2.2.2.2.2
    have hz2 : w.heap.size + 4 + 2 ≤ w2.heap.size := Nat.le_trans hWc hcm.size
    have hrow3 := k2.row.ch ((Ch.refl [] w2).alloc (.cells #[.int .i64 (mput P Q).2] 26)) (by simp)
    have hnew3 : blk (w2.alloc (.cells #[.int .i64 (mput P Q).2] 26)) w2.heap.size [.int .i64 (mput P Q).2] := blk.new' _ _ rfl
    replace hbo := k2.ob
    have HROW3 := Lib.hid hrow3; clear hrow3
    have HNEW3 := Lib.hid hnew3; clear hnew3
    have HE2 := Lib.hid k2; clear k2
    have HB2 := Lib.hid k1; clear k1
    have HK2 := Lib.hid k3; clear k3
    clear HFC hbm hcm hFm hmm hmt
    go_wp2_with fail
    refine ⟨rfl, hK _ _ ?_ ?_⟩
    · exact hbo.cell rfl
    clear hK K
    refine Ord.St.efC 5 [6, 7] _ rfl (by kernel_rfl) (fun K hK => ?_)
    go_wp2_with fail
    replace hbo := hbo.alloc (.cells #[.int .i64 (mput P Q).2] 26)
    skip
    refine ⟨rfl, hK _ _ ?_ ?_⟩
    · exact hbo.cell rfl
    clear hK K
    refine Ord.St.ef 6 [7] _ rfl (by kernel_rfl) (fun K hK => ?_)
    go_wp2_with (at_builtin; go_loud (refine wpList_append_row slRefs rfl _ _ rfl (v := .slice va l.length vc) (n := l.length) (xs := refsCells l) rfl HROW3.out (ad := ⟨w2.heap.size, 0, none⟩) (m := 1) (c := 1) (news := [.int .i64 (mput P Q).2]) rfl rfl (news_blk HNEW3.out) (by simp [Value.oneCell']) (by omega) (by omega) ?_; intro v' w4 hown4 hC4 hf4; obtain ⟨gb, gc, rfl⟩ := row.parts hown4 (by omega); have HO4 := Lib.hid hown4; clear hown4; have HC4 := Lib.hid hC4; clear hC4; have HF4 := Lib.hid hf4; clear hf4))
    replace hbo := hbo.ch HC4.out (fun hk => by have := (HE2.out.fresh _ (by simpa using hk)).1; omega)
    have k1 := hbo.cell (i := 0) rfl
    have k2 := hbo.frozen (i := 0)
    refine ⟨rfl, hK _ _ ?_⟩; clear hK K
    refine Ord.St.ef 7 [] _ rfl (by kernel_rfl) (fun K hK => ?_)
    go_wp2_with fail
    refine ⟨rfl, hK _ _ ?_⟩; clear hK K
    refine Ord.St.nil ?_
    gi_wp2
    obtain ⟨p1, p2, p3⟩ := HE2.out.app hEF hz2 HO4.out HC4.out HF4.out (r := (mput P Q).2) HST.out.2.1 (out' := (eachF (rop rXor) (G, 0) pre).2 ++ [(rop rXor (eachF (rop rXor) (G, 0) pre).1 a b).2]) (fun hz0 => by rw [HST.out.2.2.2.1 hz0]; rfl)
    refine ⟨((Books.of_ch HCUR.out hWl (by simp)).trans HB2.out).trans p1, ⟨_, _, _, _, by rw [eachF_snoc]; exact p2⟩, (((hKok.ch0 (by omega) hWl HCUR.out).trans (HK2.out _ hKok)).trans (p3 _ hKok))⟩
  case done =>
    rintro W ⟨v, P, l, F', hE⟩ hK hWl
    obtain ⟨va, vc, rfl⟩ := row.shape hE.row
    have hall := hE.all
    have hln : l.length ≤ 1000 := by have := hE.len; rw [List.length_zip] at this; omega
    have hbg2 : W.cell? ⟨bg, 0, none⟩ = some (.pointer (some ⟨g, 0, none⟩)) := (hE.ch.cell (p := ⟨bg, 0, none⟩) hbflt (by simpa using hbgF)).trans hbg
    have hst := hE.sim.step (rAny_full hE.mem.gin.ok hall) (Y := rAny (eachF (rop rXor) (G, 0) (x.zip y)).1.1 (eachF (rop rXor) (G, 0) (x.zip y)).2) (fun h0 e => by rw [hE.out h0, e])
    obtain ⟨Q, hQ⟩ : ∃ Q, Q = rAny P.1 l := ⟨_, rfl⟩
    rw [← hQ] at hst
    have HQ := Lib.hid hQ; clear hQ
    have hbo := hE.ob
    have hbm := hE.mb
    have hbk := hE.mem.bk
    have HALL := Lib.hid hall; clear hall
    have HE := Lib.hid hE; clear hE
    have HK := Lib.hid hK; clear hK
    have HST := Lib.hid hst; clear hst
    clear hb2 hb3 hseq
    go_wp2_with fail
    refine Ord.St.door (fun w' => w'.cell? ⟨w.heap.size, 0, none⟩ = some (.pointer (some ⟨m, 0, none⟩))) [.ho, .rd, .rd, .ef, .fl, .fl, .ef, .fl] [0, 0, 0, 6, 14, 14, 63, 127] [0, 1, 2, 3, 4, 5, 6, 7] mixed (by kernel_rfl) rfl ?_
    obtain ⟨Wc, hWc⟩ : ∃ Wc, Wc = W.drew := ⟨_, rfl⟩
    rw [← hWc]
    have hcur : Ch [] W Wc := by rw [hWc]; exact (Ch.refl _ _).drew
    clear hWc
    have hE := HE.out.ch0 hEF hcur
    have hK2 : Wc.heap[w.heap.size + 4]? = some (.deferred (some [])) := (hcur.block _ (Array.getElem?_eq_some_iff.1 HK.out).1 (by simp)).trans HK.out
    have hWl2 : w.heap.size + 4 + 2 ≤ Wc.heap.size := Nat.le_trans hWl hcur.size
    have hbm := hE.mb
    have hbk := hE.mem.bk
    have hbo2 := hE.ob.cell (i := 0) rfl
    have hbg3 := (hcur.cell (cell_lt hbg2) (by simp)).trans hbg2
    have hroom := hE.mem.gin.ok.room
    have hmost := hE.mem.gin.ok.most
    have HANY := Any_g hE.mem.gin (l := l.map fun (r : Nat) => (r : Int)) l.length vc (by simp) (Sl.of_row' hE.row rfl (by omega)) (by intro x hx; obtain ⟨r, hr, rfl⟩ := List.mem_map.1 hx; have := HALL.out r hr; omega) (fun p hp => ⟨(hE.row.lt p.block (by rw [hp]; rfl)).2, (hE.fresh p.block (by rw [hp]; rfl)).2⟩)
    rw [doAny_r HALL.out, ← HQ.out] at HANY
    have hsep := hE.sep hEF
    have HE := Lib.hid hE; clear hE
    have HK := Lib.hid hK2; clear hK2
    have HSEP := Lib.hid hsep; clear hsep
    clear hroom hmost hcur hbg2
    refine Ord.St.ho2 (T' := ?_) 0 [1, 2, 3, 4, 5, 6, 7] _ _ rfl (by kernel_rfl) rfl rfl rfl rfl ?_ (fun K w' hw' hk => ?_) ?_
    rotate_left
    · exact hbm.cell rfl
    · have q1 := hw'; go_step; exact hk
    refine Ord.St.rd2 (T' := ?_) 1 [2, 3, 4, 5, 6, 7] _ _ rfl (by kernel_rfl) rfl rfl rfl rfl (fun K hk => ?_) ?_
    rotate_left
    · go_step; exact hk
    refine Ord.St.rd2 (T' := ?_) 2 [3, 4, 5, 6, 7] _ _ rfl (by kernel_rfl) rfl rfl rfl rfl (fun K hk => ?_) ?_
    rotate_left
    · go_step; exact hk
    refine Ord.St.efC 3 [4, 5, 6, 7] _ rfl (by kernel_rfl) (fun K hK => ?_)
    go_wp2_with fail
    refine HANY.mono ?_
    rintro e w1 ⟨rfl, F1, hg1, hc1, hF1, hm1⟩
    replace hbm := hbm.ch hc1 (fun hk => by have := HSEP.out _ (by simp only [List.mem_cons, List.nil_append]; exact .inr hk); omega)
    replace hbk := hbk.ch hc1 HE.out.mem.apart
    have HPUT := sput_is hbk Q.2.1 Q.2.2
    clear hbg3 HANY
    go_wp2_with fail
    refine ⟨rfl, hK _ _ ?_ ?_⟩
    · exact hbm.cell rfl
    clear hK K
    refine Ord.St.fl2 (T' := ?_) 4 [5, 6, 7] _ _ rfl (by kernel_rfl) rfl rfl rfl rfl (fun K w' hk => ?_) ?_
    rotate_left
    · go_step; exact hk
    refine Ord.St.fl2 (T' := ?_) 5 [6, 7] _ _ rfl (by kernel_rfl) rfl rfl rfl rfl (fun K w' hk => ?_) ?_
    rotate_left
    · go_step; exact hk
    refine Ord.St.ef 6 [7] _ rfl (by kernel_rfl) (fun K hK => ?_)
    go_wp2_with fail
    refine HPUT.mono ?_
    rintro e w2 ⟨rfl, hbk2, hc2⟩
    obtain ⟨F1', hmt, hcm, hFm, hmm⟩ := MTo.of (P' := (mput P Q).1) HE.out.mem ⟨F1, hg1, hc1, hF1, hm1⟩ (fun _ => hbk2) hc2
    obtain ⟨k1, k2, k3⟩ := HE.out.more hEF hWl2 hmt hcm hFm hmm HST.out.1 HST.out.2.2.2.2.1 HST.out.2.2.2.2.2.2
    have hK2 := k1.1.trans HK.out
    have HE2 := Lib.hid k2; clear k2
    have HK2 := Lib.hid hK2; clear hK2
    clear HPUT hbk hbm hg1 hc1 hF1 hm1 hc2 hbk2 hcm hFm hmm hmt k1 k3
    go_wp2_with fail
    refine ⟨rfl, hK _ _ ?_⟩; clear hK K
    refine Ord.St.fl2 (T' := ?_) 7 [] _ _ rfl (by kernel_rfl) rfl rfl rfl rfl (fun K w' hk => ?_) ?_
    rotate_left
    · go_step; exact hk
    refine Ord.St.nil ?_
    go_wp2
    refine ⟨by simp, .inl ⟨_, _, rfl, run_takeDeferred HK2.out, ?_⟩⟩
    refine ⟨_, results_tmp rfl _ _ _, (mput P Q).1, (mput P Q).2, rfl, HST.out.1, fun h0 => HST.out.2.2.2.1 h0, (HE2.out.done hEF _).to⟩
end
end Go.Proofs.Ytndcgfnlgcincaa
namespace Go.Aig
end Go.Aig
namespace Go.Proofs.Ytndcgfnlgcincaa
open Go.RowKit Go.Mem Go.Aig
attribute [local go_sem] Oper.semAt_some
section
variable {w : World} {g m : Nat} {G : Gra} {F : List Nat}
end
end Go.Proofs.Ytndcgfnlgcincaa
namespace Go.Aig
theorem inF_succ (s : Mk) (n : Nat) : inF s (n + 1) = inS (inF s n) := rfl
end Go.Aig
namespace Go.Proofs.Ytndcgfnlgcincaa
open Go.RowKit Go.Mem Go.Aig
theorem fnvsInput1 : Fnv 49 := fnv_of Try.func49 (by simp [Try.f49]) (by simp [Try.f49])
theorem MVo.step {w W w2 w4 : World} {g m : Nat} {P' : Mk} {X F F' F1 : List Nat} {va : Option Addr} {vc : Nat} {l : List Nat} (hlow : ∀ k ∈ m :: (X ++ F), k < w.heap.size)
    (hc : Ch (m :: (X ++ F)) w W) (hF' : ∀ k ∈ F', k ∈ F ∨ w.heap.size ≤ k) (hmap : F'[2]? = F[2]?) (hrow0 : row W 26 1 (.slice va l.length vc) l.length (refsCells l)) (hfr : ∀ k, (Value.slice va l.length vc).ownBlock = some k → w.heap.size ≤ k ∧ k ∉ F' ∧ k ≠ m)
    (k1 : MIn w2 g m P' F1) (k2 : Ch (m :: F') W w2) (k3 : ∀ k ∈ F1, k ∈ F' ∨ W.heap.size ≤ k) (k4 : F1[2]? = F'[2]?) {r gb gc : Nat} {o : Obj} (hrow : row w4 26 1 (.slice (some ⟨gb, 0, none⟩) (l.length + 1) gc) (l.length + 1) (refsCells l ++ [.int .i64 r]))
    (hc4 : Ch (Value.slice va l.length vc).ownBlock.toList (w2.alloc o) w4) (hf4 : ∀ k, (Value.slice (some ⟨gb, 0, none⟩) (l.length + 1) gc).ownBlock = some k → (Value.slice va l.length vc).ownBlock = some k ∨ (w2.alloc o).heap.size ≤ k) : MVo w g m P' X F (.slice (some ⟨gb, 0, none⟩) (l.length + 1) gc) (l ++ [r]) w4 := by
  have hcz := hc.size
  have hkz := k2.size
  have hmlow := hlow m (by simp)
  have hown : ∀ k, (Value.slice va l.length vc).ownBlock = some k → k < W.heap.size ∧ w.heap.size ≤ k ∧ k ∉ F' ∧ k ≠ m := fun k hk => ⟨(hrow0.lt k hk).2, hfr k hk⟩
  have hF1 : ∀ k ∈ m :: F1, k ∉ (Value.slice va l.length vc).ownBlock.toList := fun k hk hk2 => by
    have h1 := hown k (by simpa using hk2)
    simp only [List.mem_cons] at hk
    rcases hk with e | hk
    · exact h1.2.2.2 e
    · rcases k3 k hk with e | e
      · exact h1.2.2.1 e
      · omega
  have hA : Ch (Value.slice va l.length vc).ownBlock.toList w2 w4 := ((Ch.refl _ w2).alloc o).trans hc4 (fun k hk => .inl hk)
  have hgb : w.heap.size ≤ gb ∧ gb ∉ F1 ∧ gb ≠ m := by
    rcases hf4 gb rfl with e | e
    · have h1 := hown gb e
      refine ⟨h1.2.1, fun hk => hF1 gb (by simp [hk]) (by simpa using e), h1.2.2.2⟩
    · rw [World.size_alloc] at e
      exact ⟨by omega, fun hk => by have := GIn.lt k1.gin gb hk; omega, by omega⟩
  refine ⟨F1, k1.same hA hF1, (hc.trans k2 (fun k hk => ?_)).trans hA (fun k hk => .inr (hown k (by simpa using hk)).2.1), fun k hk => ?_, k4.trans hmap, ?_, fun k hk => ?_⟩
  · simp only [List.mem_cons] at hk ⊢
    rcases hk with e | hk
    · exact .inl (.inl e)
    · rcases hF' k hk with e | e
      · exact .inl (.inr (List.mem_append_right _ e))
      · exact .inr e
  · rcases k3 k hk with e | e
    · exact hF' k e
    · exact .inr (by omega)
  · rw [show refsCells (l ++ [r]) = refsCells l ++ [.int .i64 r] from by simp [refsCells], List.length_append]
    exact hrow
  · cases hk
    exact hgb
section
variable {w : World} {g m : Nat} {G : Gra} {F : List Nat}
set_option maxRecDepth 100000 in
set_option maxHeartbeats 4000000 in
theorem sInput1_is (h : MIn w g m (G, 0) F) {bw bg n : Nat} (hn : n ≤ 1000) (hbw : w.cell? ⟨bw, 0, none⟩ = some (.int .i64 n)) (hbg : w.cell? ⟨bg, 0, none⟩ = some (.pointer (some ⟨g, 0, none⟩))) (hbgF : bg ∉ m :: F) :
    Calls Try.prog 49 (#[.pointer (some ⟨m, 0, none⟩)] ++ #[.pointer (some ⟨bw, 0, none⟩), .pointer (some ⟨bg, 0, none⟩)]) w fun e W' => ∃ v P l, e = .returned v ∧ Sim G P (inF (G, 0) n).1 ∧ ((inF (G, 0) n).1.2 = 0 → l = (inF (G, 0) n).2) ∧ MVo w g m P [] F v l W' := by
  show Calls Try.prog 49 #[.pointer (some ⟨m, 0, none⟩), .pointer (some ⟨bw, 0, none⟩), .pointer (some ⟨bg, 0, none⟩)] w _
  have hlow : ∀ k ∈ m :: ([] ++ F), k < w.heap.size := fun k hk => by
    simp only [List.nil_append, List.mem_cons] at hk
    rcases hk with rfl | hk
    · exact h.bk.lt
    · exact GIn.lt h.gin k hk
  have hbglt := cell_lt hbg
  have H := Lib.hid h; clear h
  go_enter Try.func49, Try.ntmps49
  go_wp2_with fail
  go_loopw [5, 7] (fun o i wr => ∃ (k : Nat) (P : Mk) (l : List Nat), k ≤ n ∧ i = .int .i64 k ∧ Sim G P (inF (G, 0) k).1 ∧ ((inF (G, 0) k).1.2 = 0 → l = (inF (G, 0) k).2) ∧ l.length = k ∧ MVo w g m P [] F o l wr) (fun _ i _ => n - (intOf i).toNat)
  case atStart => exact ⟨0, (G, 0), [], by omega, rfl, Sim.start H.out.gin.ok, fun _ => rfl, rfl, F, H.out, Ch.refl _ _, fun k hk => .inl hk, rfl, ⟨rfl, .inl ⟨rfl, rfl⟩⟩, by simp [Value.ownBlock]⟩
  case round =>
    obtain ⟨k, P, l, hk, rfl, hsim, hl, hlen, hmv⟩ := hrel
    obtain ⟨oa, oc, rfl⟩ := row.shape hmv.choose_spec.2.2.2.2.1
    by_cases hlt : k < n
    · obtain ⟨F', hm, hc, hF', hmap, hrow, hfr⟩ := hmv
      have hst := hsim.step (put_full hm.gin.ok) (Y := put (inF (G, 0) k).1.1 ⟨2, 0, 0, 0⟩) (fun _ e => by rw [e])
      have hcg := (hc.cell (p := ⟨bg, 0, none⟩) hbglt (by simpa using hbgF)).trans hbg
      have HI := Input_g hm.gin
      unfold doInput at HI
      obtain ⟨Q, hQ⟩ : ∃ Q, Q = put P.1 ⟨2, 0, 0, 0⟩ := ⟨_, rfl⟩
      rw [← hQ] at HI hst
      have hbk := hm.bk
      have HST := Lib.hid hst; clear hst hQ
      have HSIM := Lib.hid hsim; clear hsim
      have HL := Lib.hid hl; clear hl
      have HM := Lib.hid hm; clear hm
      have HC := Lib.hid hc; clear hc
      have HF' := Lib.hid hF'; clear hF'
      have HMAP := Lib.hid hmap; clear hmap
      have HROW := Lib.hid hrow; clear hrow
      have HFR := Lib.hid hfr; clear hfr
      have HLOW := Lib.hid hlow; clear hlow
      have HLEN := Lib.hid hlen
      have hlen2 : l.length ≤ 1000 := by omega
      clear hlen
      go_wp2_with fail
      refine HI.mono ?_
      rintro e w1 ⟨rfl, F1, hg1, hc1, hF1, hm1⟩
      replace hbk := hbk.ch hc1 HM.out.apart
      have HPUT := sput_is hbk Q.2.1 Q.2.2
      clear HI hcg
      go_wp2_with fail
      refine HPUT.mono ?_
      rintro e w2 ⟨rfl, hbk2, hc2⟩
      obtain ⟨F1', hmt, hcm, hFm, hmm⟩ := MTo.of (P' := (mput P Q).1) HM.out ⟨F1, hg1, hc1, hF1, hm1⟩ (fun _ => hbk2) hc2
      have hrow3 := (HROW.out.ch hcm (fun k hk => by have h1 := HFR.out k hk; simp only [List.mem_cons, not_or]; exact ⟨h1.2.2, h1.2.1⟩)).ch ((Ch.refl [] w2).alloc (.cells #[.int .i64 Q.2.1] 26)) (by simp)
      have hnew3 : blk (w2.alloc (.cells #[.int .i64 Q.2.1] 26)) w2.heap.size [.int .i64 Q.2.1] := blk.new' _ _ rfl
      have HROW3 := Lib.hid hrow3; clear hrow3
      have HNEW3 := Lib.hid hnew3; clear hnew3
      have HMT := Lib.hid hmt; clear hmt
      have HCM := Lib.hid hcm; clear hcm
      have HFM := Lib.hid hFm; clear hFm
      have HMM := Lib.hid hmm; clear hmm
      clear HPUT hbk hg1 hc1 hF1 hm1 hbk2 hc2
      go_wp2_with (at_builtin; go_loud (refine wpList_append_row slRefs rfl _ _ rfl (v := .slice oa l.length oc) (n := l.length) (xs := refsCells l) rfl HROW3.out (ad := ⟨w2.heap.size, 0, none⟩) (m := 1) (c := 1) (news := [.int .i64 Q.2.1]) rfl rfl (news_blk HNEW3.out) (by simp [Value.oneCell']) (by omega) (by omega) ?_; intro v' w4 hown4 hC4 hf4; obtain ⟨gb, gc, rfl⟩ := row.parts hown4 (by omega); have HO4 := Lib.hid hown4; clear hown4; have HC4 := Lib.hid hC4; clear hC4; have HF4 := Lib.hid hf4; clear hf4))
      go_roundw
      case rel =>
        refine ⟨k + 1, (mput P Q).1, l ++ [Q.2.1], by omega, by go_num, HST.out.1, fun h0 => ?_, by simp [HLEN.out], MVo.step HLOW.out HC.out HF'.out HMAP.out HROW.out HFR.out HMT.out HCM.out HFM.out HMM.out HO4.out HC4.out HF4.out⟩
        rw [HL.out (rstep_zero h0), show Q.2.1 = (mput P Q).2 from rfl, HST.out.2.2.2.1 h0]; rfl
      case measure => simp [intOf]; omega
    · have hkn : k = n := by omega
      subst hkn
      have HMV := Lib.hid hmv; clear hmv
      go_wp2_with fail
      go_ret
      exact ⟨.slice oa l.length oc, P, l, rfl, hsim, hl, HMV.out⟩
end
end Go.Proofs.Ytndcgfnlgcincaa
namespace Go.Aig
def nats (l : List Int) : List Nat := l.map Int.toNat
@[simp] theorem nats_len (l : List Int) : (nats l).length = l.length := by simp [nats]
def refG (G : Gra) (ws : List (List Int)) (R : Mk × Nat) : Res := if chk G ws ≠ 0 then (G, 0, chk G ws) else rres G R
theorem badIn_no {G : Gra} {x : List Int} (h : badIn G x = false) : (nats x).map (fun (r : Nat) => (r : Int)) = x ∧ ∀ r ∈ nats x, r < 2 * G.nodes.length := by
  unfold badIn at h
  rw [List.any_eq_false] at h
  have h1 : ∀ r ∈ x, 0 ≤ r ∧ r < 2 * G.nodes.length := fun r hr => by simpa [right] using h r hr
  clear h
  constructor
  · unfold nats
    rw [List.map_map]
    refine (List.map_congr_left (g := id) fun r hr => ?_).trans (List.map_id _)
    have := h1 r hr
    simp; omega
  · intro r hr
    obtain ⟨q, hq, rfl⟩ := List.mem_map.1 hr
    have := h1 q hq
    omega
structure ChkOk (G : Gra) (n : Nat) (x : List Int) : Prop where
  len : x.length = n
  r1 : 1 ≤ n
  r2 : n ≤ 17
  cast : (nats x).map (fun (r : Nat) => (r : Int)) = x
  lt : ∀ r ∈ nats x, r < 2 * G.nodes.length
theorem chk_ok {G : Gra} {x0 : List Int} {ws : List (List Int)} (h : chk G (x0 :: ws) = 0) : ∀ x ∈ x0 :: ws, ChkOk G x0.length x := by
  unfold chk at h
  split at h
  · cases h
  · rename_i h1
    split at h
    · cases h
    · rename_i h2
      intro x hx
      have h3 : badAs x0.length x = false := by
        have := List.any_eq_false.1 (by simpa using h1) x hx
        simpa using this
      have h4 : badIn G x = false := by
        have := List.any_eq_false.1 (by simpa using h2) x hx
        simpa using this
      unfold badAs rightW at h3
      simp at h3
      obtain ⟨⟨a1, a2⟩, a3⟩ := h3
      obtain ⟨b1, b2⟩ := badIn_no h4
      exact ⟨by omega, by omega, by omega, b1, b2⟩
theorem chk_small (G : Gra) (ws : List (List Int)) : chk G ws ≤ 230 := by unfold chk; split; omega; split <;> omega
end Go.Aig
namespace Go.Proofs.Ytndcgfnlgcincaa
open Go.RowKit Go.Mem Go.Aig
theorem calls_named {P : Program} {f : FuncId} {args : Array Value} {w : World} {R : Ending → World → Prop} (h : ∀ W, W = w → Calls P f args W R) : Calls P f args w R := h w rfl
structure WVin (w : World) (F : List Nat) (x : WV) : Prop where
  ok : WVok w x
  apart : ∀ k ∈ ablk x.a, k ∉ F ∧ k < w.heap.size
theorem WVin.ch {w w' : World} {F : List Nat} {x : WV} (h : WVin w F x) (hc : Ch [] w w') : WVin w' F x := ⟨h.ok.ch hc (by simp), fun k hk => ⟨(h.apart k hk).1, Nat.lt_of_lt_of_le (h.apart k hk).2 hc.size⟩⟩
theorem GVo.since {w w1 w' : World} {g : Nat} {G : Gra} {X F : List Nat} {v : Value} {l : List Nat} (hc : Ch [] w w1) (h : GVo w1 g G X F v l w') : GVo w g G X F v l w' := by
  obtain ⟨F', h1, h2, h3, h4, h5, h6⟩ := h
  exact ⟨F', h1, (hc.mono (by simp)).trans h2 (fun k hk => .inl hk), fun k hk => (h3 k hk).imp id (fun e => Nat.le_trans hc.size e), h4, h5, fun k hk => ⟨Nat.le_trans hc.size (h6 k hk).1, (h6 k hk).2⟩⟩
theorem GTo.since {w w1 w' : World} {g : Nat} {G : Gra} {F : List Nat} (hc : Ch [] w w1) (h : GTo w1 g G F w') : GTo w g G F w' := by
  obtain ⟨F', h1, h2, h3, h4⟩ := h
  exact ⟨F', h1, (hc.mono (by simp)).trans h2 (fun k hk => .inl hk), fun k hk => (h3 k hk).imp id (fun e => Nat.le_trans hc.size e), h4⟩
theorem GVo.none {w w' : World} {g : Nat} {G : Gra} {F : List Nat} (h : GIn w g G F) (hc : Ch [] w w') : GVo w g G [] F (.slice none 0 0) [] w' :=
  GVo.nil (F' := F) (h.same hc (by simp)) (hc.mono (by simp)) (fun _ hk => .inl hk) rfl
theorem chk2_at {w : World} {g : Nat} {G : Gra} {F : List Nat} (h : GIn w g G F) {b : Nat} {x y : WV} (hb : blk w b [x.val, y.val]) (hx : WVok w x) (hy : WVok w y) :
    Calls Try.prog 80 #[.pointer (some ⟨g, 0, none⟩), .slice (some ⟨b, 0, none⟩) 2 2] w fun e w' => e = .returned (.int .i64 (chk G [x.l, y.l])) ∧ Ch [] w w' :=
  scheck_is h (ws := [x, y]) 2 2 rfl (by omega) (fun i z hz => by
    rcases i with _ | _ | i
    · cases hz; exact hb.cell rfl
    · cases hz; exact hb.cell rfl
    · cases hz) (fun z hz => by simp at hz; rcases hz with rfl | rfl; exact hx; exact hy)
section
variable {w : World} {g : Nat} {G : Gra} {F : List Nat}
end
end Go.Proofs.Ytndcgfnlgcincaa
namespace Go.Aig
end Go.Aig
namespace Go.Proofs.Ytndcgfnlgcincaa
open Go.RowKit Go.Mem Go.Aig
section
variable {w : World} {g : Nat} {G : Gra} {F : List Nat}
set_option maxRecDepth 100000 in
set_option maxHeartbeats 2000000 in
theorem sNe_is (h : GIn w g G F) {x y : WV} (hx : WVin w F x) (hy : WVin w F y) :
    Calls Try.prog 66 #[.pointer (some ⟨g, 0, none⟩), x.val, y.val] w fun e w' => e = .returned (.tuple #[.int .i64 (refG G [x.l, y.l] (neF (G, 0) ((nats x.l).zip (nats y.l)))).2.1, .int .i64 (refG G [x.l, y.l] (neF (G, 0) ((nats x.l).zip (nats y.l)))).2.2]) ∧ GTo w g (refG G [x.l, y.l] (neF (G, 0) ((nats x.l).zip (nats y.l)))).1 F w' := by
  have hFl := h.lt
  have hxlen := hx.ok.len
  have hylen := hy.ok.len
  obtain ⟨xa, xl, xc⟩ := x
  obtain ⟨ya, yl, yc⟩ := y
  simp only [WV.val] at *
  unfold refG
  have hch := chk_ok (G := G) (x0 := xl) (ws := [yl])
  have hcs := chk_small G [xl, yl]
  generalize hR : neF (G, 0) ((nats xl).zip (nats yl)) = R
  generalize hc : chk G [xl, yl] = cc at *
  have hC : ∀ W, Ch [] w W → ∀ b, blk W b [.slice xa xl.length xc, .slice ya yl.length yc] → Calls Try.prog 80 #[.pointer (some ⟨g, 0, none⟩), .slice (some ⟨b, 0, none⟩) 2 2] W fun e w' => e = .returned (.int .i64 cc) ∧ Ch [] W w' := fun W hW b hb => by
    have := chk2_at (h.same hW (by simp)) (x := ⟨xa, xl, xc⟩) (y := ⟨ya, yl, yc⟩) hb (hx.ch hW).ok (hy.ch hW).ok
    rw [hc] at this
    exact this
  have HC := Lib.hid hC; clear hC
  have HCC := Lib.hid hc; clear hc
  have HX := Lib.hid hx; clear hx
  have HY := Lib.hid hy; clear hy
  have H := Lib.hid h; clear h
  have HCH := Lib.hid hch; clear hch
  generalize hWW : (if cc ≠ 0 then (G, 0, cc) else rres G R : Res) = WW
  have HWW := Lib.hid hWW; clear hWW
  have HR := Lib.hid hR; clear hR
  go_enter Try.func66, Try.ntmps66
  go_wp2_with fail
  refine calls_named fun W0 hW0 => ?_
  have hc0 : Ch [] w W0 := by rw [hW0]; exact ((((Ch.refl _ _).alloc _).alloc _).alloc _).alloc _
  have hbg : blk W0 w.heap.size [.pointer (some ⟨g, 0, none⟩)] := by rw [hW0]; exact (((blk.new' _ _ (by simp)).alloc _).alloc _).alloc _
  have hbx : blk W0 (w.heap.size + 1) [.slice xa xl.length xc] := by rw [hW0]; exact ((blk.new' _ _ (by simp)).alloc _).alloc _
  have hby : blk W0 (w.heap.size + 2) [.slice ya yl.length yc] := by rw [hW0]; exact (blk.new' _ _ (by simp)).alloc _
  have hbl : blk W0 (w.heap.size + 3) [.slice xa xl.length xc, .slice ya yl.length yc] := by rw [hW0]; exact blk.new' _ _ (by simp)
  clear hW0
  refine (HC.out W0 hc0 _ hbl).mono ?_
  rintro e w1 ⟨rfl, hc1⟩
  have HC01 := Lib.hid (hc0.trans hc1 (by simp))
  replace hbg := hbg.ch hc1 (by simp)
  have hbg0 := hbg.cell (i := 0) rfl
  have HBG := Lib.hid hbg; clear hbg
  replace hbx := hbx.ch hc1 (by simp)
  have hbx0 := hbx.cell (i := 0) rfl
  have HBX := Lib.hid hbx; clear hbx
  replace hby := hby.ch hc1 (by simp)
  have hby0 := hby.cell (i := 0) rfl
  have HBY := Lib.hid hby; clear hby
  clear hbl hc0 hc1
  by_cases hcc : cc = 0
  · subst hcc
    obtain ⟨h1, h2⟩ : (∃ _ : ChkOk G xl.length xl, ChkOk G xl.length yl) := ⟨HCH.out rfl xl (by simp), HCH.out rfl yl (by simp)⟩
    have hww := HWW.out
    rw [if_neg (by simp)] at hww
    have hB := sbuildR_is (H.out.same HC01.out (by simp)) 82 #[.pointer (some ⟨w.heap.size + 1, 0, none⟩), .pointer (some ⟨w.heap.size + 2, 0, none⟩), .pointer (some ⟨w.heap.size, 0, none⟩)] fnvsNe1 (neF (G, 0) ((nats xl).zip (nats yl))) (fun W m hm hW hM => by
      have hz1 := HC01.out.size
      have hall : Ch [] w W := HC01.out.trans hW (by simp)
      have hbgl := HBG.out.lt
      refine sNe1_is hM (x := nats xl) (y := nats yl) (xa := xa) (ya := ya) xl.length xc yc (by simp) (by simp [h2.len]) (by have := h1.r2; omega) ((HBX.out.ch hW (by simp)).cell (i := 0) rfl) (by
        have := (HBY.out.ch hW (by simp)).cell (i := 0) rfl
        rw [h2.len] at this
        exact this) ((HBG.out.ch hW (by simp)).cell (i := 0) rfl) (fun hk => by
        simp only [List.mem_cons] at hk
        rcases hk with e | e
        · omega
        · have := hFl _ e; omega) (by rw [h1.cast]; exact (HX.out.ok.sl.ch hall (by simp))) (by rw [h2.cast]; exact (HY.out.ok.sl.ch hall (by simp))) (fun k hk => ?_) (fun k hk => ?_) h1.lt h2.lt
      · have := HX.out.apart k hk
        refine ⟨fun hk2 => ?_, by have := hall.size; omega⟩
        simp only [List.mem_cons] at hk2
        rcases hk2 with e | e
        · omega
        · exact this.1 e
      · have := HY.out.apart k hk
        refine ⟨fun hk2 => ?_, by have := hall.size; omega⟩
        simp only [List.mem_cons] at hk2
        rcases hk2 with e | e
        · omega
        · exact this.1 e)
    rw [HR.out, hww] at hB
    have HB := Lib.hid hB; clear hB
    clear hww h1 h2
    go_wp2_with fail
    refine HB.out.mono ?_
    rintro e w2 ⟨rfl, hg⟩
    have HG := Lib.hid hg; clear hg
    go_wp2_with fail
    go_ret2
    exact ⟨rfl, GTo.since HC01.out HG.out⟩
  · have hww := HWW.out
    rw [if_pos (by simpa using hcc)] at hww
    subst hww
    have hq : ((cc : Int) != 0) = true := by simp; omega
    have HQ := Lib.hid hcc; clear hcc
    go_wp2_with fail
    go_ret2
    exact ⟨rfl, GTo.same H.out HC01.out⟩
end
end Go.Proofs.Ytndcgfnlgcincaa
namespace Go.Aig
structure SOk (G : Gra) (s : Mk) : Prop where
  ok : Ok s.1
  ext : Ext G s.1
  err : s.2 = 0 ∨ s.2 = 201
theorem SOk.start {G : Gra} (h : Ok G) : SOk G (G, 0) := ⟨h, .refl _, .inl rfl⟩
theorem rstep_sok {G : Gra} {s : Mk} (h : SOk G s) {Y : Res} (hY : s.2 = 0 → RFull s.1 Y) : SOk G (rstep s Y).1 ∧ (rstep s Y).2 < 2 * (rstep s Y).1.1.nodes.length ∧ Ext s.1 (rstep s Y).1.1 := by
  have hp := h.ok.wf.pos
  by_cases h0 : s.2 = 0
  · have hF := hY h0
    by_cases h1 : Y.2.2 = 0
    · rw [rstep_ok h0 h1]
      exact ⟨⟨hF.ok.ok, h.ext.trans hF.ok.ext, .inl rfl⟩, hF.ok.lt, hF.ok.ext⟩
    · rw [rstep_no h0 h1, hF.keep h1]
      exact ⟨⟨h.ok, h.ext, .inr rfl⟩, by show 0 < 2 * s.1.nodes.length; omega, .refl _⟩
  · rw [rstep_bad h0]
    exact ⟨h, by show 0 < 2 * s.1.nodes.length; omega, .refl _⟩
structure LOk (G : Gra) (R : Mk × List Nat) : Prop where
  s : SOk G R.1
  lt : ∀ r ∈ R.2, r < 2 * R.1.1.nodes.length
structure VOk (G : Gra) (R : Mk × Nat) : Prop where
  s : SOk G R.1
  lt : R.2 < 2 * R.1.1.nodes.length
theorem LOk.snoc {G : Gra} {R : Mk × List Nat} (h : LOk G R) {s' : Mk} {r : Nat} (hs : SOk G s') (he : Ext R.1.1 s'.1) (hr : r < 2 * s'.1.nodes.length) : LOk G (s', R.2 ++ [r]) :=
  ⟨hs, fun q hq => by
    rcases List.mem_append.1 hq with hq | hq
    · exact he.lt (h.lt q hq)
    · rw [List.mem_singleton.1 hq]; exact hr⟩
theorem eachF_lok {G : Gra} (hG : Ok G) {f : Gra → Nat → Nat → Res} (hf : Full2 f) (l : List (Nat × Nat)) (hl : ∀ p ∈ l, p.1 < 2 * G.nodes.length ∧ p.2 < 2 * G.nodes.length) : LOk G (eachF (rop f) (G, 0) l) := by
  have : ∀ (l : List (Nat × Nat)) (q : Mk × List Nat), LOk G q → (∀ p ∈ l, p.1 < 2 * G.nodes.length ∧ p.2 < 2 * G.nodes.length) → LOk G (l.foldl (eachS (rop f)) q) := by
    intro l
    induction l with
    | nil => intro q h _; exact h
    | cons p l ih =>
      intro q h hl
      have hp := hl p (by simp)
      obtain ⟨h1, h2, h3⟩ := rstep_sok h.s (Y := f q.1.1 p.1 p.2) (fun _ => hf _ h.s.ok _ _ (h.s.ext.lt hp.1) (h.s.ext.lt hp.2))
      exact ih _ (h.snoc h1 h3 h2) (fun p hp => hl p (by simp [hp]))
  exact this l _ ⟨.start hG, by simp⟩ hl
theorem neF_vok {G : Gra} (hG : Ok G) (l : List (Nat × Nat)) (hl : ∀ p ∈ l, p.1 < 2 * G.nodes.length ∧ p.2 < 2 * G.nodes.length) : VOk G (neF (G, 0) l) := by
  have h := eachF_lok hG full_xor l hl
  obtain ⟨h1, h2, h3⟩ := rstep_sok h.s (Y := rAny (eachF (rop rXor) (G, 0) l).1.1 (eachF (rop rXor) (G, 0) l).2) (fun _ => rAny_full h.s.ok h.lt)
  exact ⟨h1, h2⟩
theorem ltF_vok {G : Gra} (hG : Ok G) (l : List (Nat × Nat)) (hl : ∀ p ∈ l, p.1 < 2 * G.nodes.length ∧ p.2 < 2 * G.nodes.length) : VOk G (ltF (G, 0) l) := by
  have : ∀ (l : List (Nat × Nat)) (q : Mk × Nat), VOk G q → (∀ p ∈ l, p.1 < 2 * G.nodes.length ∧ p.2 < 2 * G.nodes.length) → VOk G (l.foldl ltS q) := by
    intro l
    induction l with
    | nil => intro q h _; exact h
    | cons p l ih =>
      intro q h hl
      have hp := hl p (by simp)
      obtain ⟨h1, h2, h3⟩ := rstep_sok h.s (Y := rXor q.1.1 p.1 p.2) (fun _ => rXor_full h.s.ok (h.s.ext.lt hp.1) (h.s.ext.lt hp.2))
      obtain ⟨k1, k2, k3⟩ := rstep_sok h1 (Y := rMux (rstep q.1 (rXor q.1.1 p.1 p.2)).1.1 (rstep q.1 (rXor q.1.1 p.1 p.2)).2 p.2 q.2) (fun _ => rMux_full h1.ok h2 (h1.ext.lt hp.2) (h3.lt h.lt))
      exact ih _ ⟨k1, k2⟩ (fun p hp => hl p (by simp [hp]))
  exact this l _ ⟨.start hG, by have := hG.wf.pos; show 0 < 2 * G.nodes.length; omega⟩ hl
theorem VOk.res {G : Gra} (hG : Ok G) {R : Mk × Nat} (h : VOk G R) : Ok (rres G R).1 ∧ Ext G (rres G R).1 ∧ (rres G R).2.1 < 2 * (rres G R).1.nodes.length := by
  have := hG.wf.pos
  unfold rres
  split
  · exact ⟨hG, .refl _, by show 0 < 2 * G.nodes.length; omega⟩
  · exact ⟨h.s.ok, h.s.ext, h.lt⟩
theorem refG_ok {G : Gra} (hG : Ok G) {ws : List (List Int)} {R : Mk × Nat} (h : chk G ws = 0 → VOk G R) : Ok (refG G ws R).1 ∧ Ext G (refG G ws R).1 ∧ (refG G ws R).2.1 < 2 * (refG G ws R).1.nodes.length := by
  have := hG.wf.pos
  unfold refG
  split
  · exact ⟨hG, .refl _, by show 0 < 2 * G.nodes.length; omega⟩
  · rename_i hc
    exact (h (by simpa using hc)).res hG
theorem chk_zip {G : Gra} {x y : List Int} (h : chk G [x, y] = 0) : ∀ p ∈ (nats x).zip (nats y), p.1 < 2 * G.nodes.length ∧ p.2 < 2 * G.nodes.length :=
  zip_lt (chk_ok h x (by simp)).lt (chk_ok h y (by simp)).lt
theorem Ok.small {G : Gra} (h : Ok G) : 2 * G.nodes.length ≤ 131072 := by have := h.room; have := h.most; omega
def negG (R : Res) : Res := if R.2.2 ≠ 0 then (R.1, 0, R.2.2) else (R.1, neg R.2.1, 0)
end Go.Aig
namespace Go.Aig
end Go.Aig
namespace Go.Proofs.Ytndcgfnlgcincaa
open Go.RowKit Go.Mem Go.Aig
section
variable {w : World} {g : Nat} {G : Gra} {F : List Nat}
set_option maxRecDepth 100000 in
set_option maxHeartbeats 2000000 in
theorem sEq_is (h : GIn w g G F) {x y : WV} (hx : WVin w F x) (hy : WVin w F y) :
    Calls Try.prog 39 #[.pointer (some ⟨g, 0, none⟩), x.val, y.val] w fun e w' => e = .returned (.tuple #[.int .i64 (negG (refG G [x.l, y.l] (neF (G, 0) ((nats x.l).zip (nats y.l))))).2.1, .int .i64 (negG (refG G [x.l, y.l] (neF (G, 0) ((nats x.l).zip (nats y.l))))).2.2]) ∧ GTo w g (negG (refG G [x.l, y.l] (neF (G, 0) ((nats x.l).zip (nats y.l))))).1 F w' := by
  have HE := sNe_is h hx hy
  have hlt : (refG G [x.l, y.l] (neF (G, 0) ((nats x.l).zip (nats y.l)))).2.1 ≤ 1000000 := by
    have h1 := refG_ok h.ok (ws := [x.l, y.l]) (R := neF (G, 0) ((nats x.l).zip (nats y.l))) (fun hc => neF_vok h.ok _ (chk_zip hc))
    have := h1.1.small
    omega
  generalize refG G [x.l, y.l] (neF (G, 0) ((nats x.l).zip (nats y.l))) = R at *
  obtain ⟨xa, xl, xc⟩ := x
  obtain ⟨ya, yl, yc⟩ := y
  simp only [WV.val] at *
  clear hx hy h
  have HN := fun W => Not_any R.2.1 W hlt
  unfold negG
  by_cases he : R.2.2 = 0
  · have hE := HE.mono (R' := fun e w' => e = .returned (.tuple #[.int .i64 R.2.1, .int .i64 0]) ∧ GTo w g R.1 F w') (by rintro e w' ⟨rfl, hg⟩; exact ⟨by rw [he]; rfl, hg⟩)
    rw [if_neg (by simp [he])]
    have HEE := Lib.hid he; clear he HE
    go_enter Try.func39, Try.ntmps39
    go_wp2_with fail
    refine hE.mono ?_
    rintro e w1 ⟨rfl, hg⟩
    have HG := Lib.hid hg; clear hg
    go_wp2_with fail
    refine (HN _).mono ?_
    rintro e w2 ⟨rfl, rfl⟩
    go_wp2_with fail
    go_ret2
    exact ⟨rfl, HG.out⟩
  · have hq : ((R.2.2 : Int) != 0) = true := by simp; omega
    rw [if_pos he]
    have HEE := Lib.hid he; clear he
    go_enter Try.func39, Try.ntmps39
    go_wp2_with fail
    refine HE.mono ?_
    rintro e w1 ⟨rfl, hg⟩
    have HG := Lib.hid hg; clear hg
    go_wp2_with fail
    go_ret2
    exact ⟨rfl, HG.out⟩
theorem run_make_refs (w : World) (n : Nat) (hn : n ≤ 1000000) : (Instr.makeSlice 25 (.int .i64 n) (.int .i64 n)).run Try.prog w = .ok (.slice (some ⟨w.heap.size, 0, none⟩) n n) (w.alloc (.cells (refsCells (List.replicate n 0)).toArray 26)) := by
  obtain ⟨i, hi, hz, hs, hb⟩ := info_parts infoRef
  have := run_make (P := Try.prog) w 25 26 i (.int .i64 0) Try.underlying25 hi hz .i64 .i64 n n (by omega) (by omega) (by rw [hb]; omega) (by omega)
  rw [this, hs]
  have e : madeCells (Value.int .i64 0).cells ((n : Int).toNat * 1) = (refsCells (List.replicate n 0)).toArray := by
    apply Array.ext'
    have h := toList_madeCells_one (Value.int .i64 0) ((n : Int).toNat * 1)
    simpa [refsCells, Value.cells] using h
  rw [e]; simp
end
end Go.Proofs.Ytndcgfnlgcincaa
namespace Go.Aig
end Go.Aig
namespace Go.Proofs.Ytndcgfnlgcincaa
open Go.RowKit Go.Mem Go.Aig
section
variable {w : World}
set_option maxRecDepth 100000 in
set_option maxHeartbeats 1000000 in
theorem Bit_is (x i : Nat) (hx : x < 4294967296) (hi : i < 32) : Calls Try.prog 52 #[.int .u32 x, .int .i64 i] w fun e w' => e = .returned (.bool (x.testBit i)) ∧ w = w' := by
  have h1 : decide ((0 : Int) ≤ i) = true := decide_eq_true (by omega)
  have h2 : decide ((i : Int) < 32) = true := decide_eq_true (by omega)
  go_enter Try.func52, Try.ntmps52
  go_wp2_with fail
  go_ret
  refine ⟨?_, rfl⟩
  have e : bits .and .u32 ((x : Int) / 2 ^ i) 1 = ((x / 2 ^ i % 2 : Nat) : Int) := by
    have h3 : x / 2 ^ i < 4294967296 := Nat.lt_of_le_of_lt (Nat.div_le_self _ _) hx
    have h4 := u32_and_nat (x / 2 ^ i) 1 h3 (by omega)
    rw [Nat.and_one_is_mod] at h4
    have h5 : ((x / 2 ^ i : Nat) : Int) = (x : Int) / 2 ^ i := by rw [Int.natCast_ediv]; simp
    rw [← h5]
    exact h4
  show Ending.returned (.bool (bits .and .u32 ((x : Int) / 2 ^ i) 1 == 1)) = _
  rw [e, Nat.testBit_eq_decide_div_mod_eq]
  rcases Nat.mod_two_eq_zero_or_one (x / 2 ^ i) with h3 | h3 <;> rw [h3] <;> rfl
end
end Go.Proofs.Ytndcgfnlgcincaa
namespace Go.Aig
def constL (x n : Nat) : List Nat := (List.range n).map fun i => (x.testBit i).toNat
def inG (G : Gra) (n : Int) : Gra × List Nat × Nat := if rightW n then wres G (inF (G, 0) n.toNat) else (G, [], 230)
theorem constL_succ (x n : Nat) : constL x (n + 1) = constL x n ++ [(x.testBit n).toNat] := by
  unfold constL
  rw [List.range_succ, List.map_append]; rfl
end Go.Aig
namespace Go.Proofs.Ytndcgfnlgcincaa
open Go.RowKit Go.Mem Go.Aig
section
variable {w : World}
def WNew (w : World) (v : Value) (xs : List Value) (w' : World) : Prop := row w' 26 1 v xs.length xs ∧ (∀ q ∈ v.ownBlock.toList, w.heap.size ≤ q) ∧ Ch [] w w'
theorem WNew.nil {w w' : World} (h : Ch [] w w') : WNew w (.slice none 0 0) [] w' := ⟨⟨rfl, .inl ⟨rfl, rfl⟩⟩, by simp, h⟩
set_option maxRecDepth 100000 in
set_option maxHeartbeats 2000000 in
theorem sConst_is (x : Nat) (hx : x < 4294967296) (n : Int) : Calls Try.prog 20 #[.int .u32 x, .int .i64 n] w fun e w' => ∃ v, e = .returned (.tuple #[v, .int .i64 (if rightW n then 0 else 230 : Nat)]) ∧ WNew w v (if rightW n then refsCells (constL x n.toNat) else []) w' := by
  have HR := sright_is (w := w) n
  cases hr : rightW n
  · rw [hr] at HR
    have H := Lib.hid hr; clear hr
    simp only [Bool.false_eq_true, if_false]
    go_enter Try.func20, Try.ntmps20
    go_wp2_with fail
    refine HR.mono ?_
    rintro e w' ⟨rfl, rfl⟩
    go_wp2_with fail
    go_ret2
    exact ⟨_, rfl, WNew.nil (Ch.refl _ _)⟩
  · rw [hr] at HR
    obtain ⟨k0, rfl, hk0⟩ : ∃ k0 : Nat, n = k0 ∧ k0 ≤ 17 := by
      unfold rightW at hr
      simp at hr
      exact ⟨n.toNat, by omega, by omega⟩
    have H := Lib.hid hr; clear hr
    simp only [if_true, Int.toNat_natCast]
    go_enter Try.func20, Try.ntmps20
    go_wp2_with fail
    refine HR.mono ?_
    rintro e w' ⟨rfl, rfl⟩
    clear HR
    go_wp2_with fail
    go_loopw [6, 13] (fun o i wr => ∃ k : Nat, k ≤ k0 ∧ i = .int .i64 k ∧ Ch [] w wr ∧ row wr 26 1 o k (refsCells (constL x k)) ∧ ∀ q ∈ o.ownBlock.toList, w.heap.size ≤ q) (fun _ i _ => k0 - (intOf i).toNat)
    case atStart => exact ⟨0, by omega, rfl, Ch.refl _ _, ⟨rfl, .inl ⟨rfl, rfl⟩⟩, by simp⟩
    case round =>
      obtain ⟨k, hk, rfl, hc, hrow, hlo⟩ := hrel
      obtain ⟨oa, oc, rfl⟩ := row.shape hrow
      by_cases hlt : k < k0
      · have HB := Bit_is (w := wr) x k hx (by omega)
        have hsu : refsCells (constL x (k + 1)) = refsCells (constL x k) ++ [.int .i64 ((x.testBit k).toNat : Nat)] := by rw [constL_succ]; simp [refsCells]
        have HSU := Lib.hid hsu; clear hsu
        have HC := Lib.hid hc; clear hc
        have HLO := Lib.hid hlo; clear hlo
        cases hb : x.testBit k
        · rw [hb] at HB HSU
          clear hb
          have hcA : Ch [] wr (wr.alloc (.cells #[.int .i64 0] 26)) := (Ch.refl _ _).alloc _
          have hrA := hrow.ch hcA (by simp)
          have hbA : blk (wr.alloc (.cells #[.int .i64 0] 26)) wr.heap.size [.int .i64 0] := blk.new' _ _ rfl
          have HRA := Lib.hid hrA; clear hrA hrow
          have HBA := Lib.hid hbA; clear hbA
          have HCA := Lib.hid hcA; clear hcA
          go_wp2_with fail
          refine HB.mono ?_
          rintro e w2 ⟨rfl, rfl⟩
          go_wp2_with (at_builtin; go_loud (refine wpList_append_row slRefs rfl _ _ rfl (v := .slice oa k oc) (n := k) (xs := refsCells (constL x k)) rfl HRA.out (ad := ⟨wr.heap.size, 0, none⟩) (m := 1) (c := 1) (news := [.int .i64 0]) rfl rfl (news_blk HBA.out) (by simp [Value.oneCell']) (by omega) (by omega) ?_; intro v' w4 hown4 hC4 hf4; have HO4 := Lib.hid hown4; clear hown4; have HC4 := Lib.hid hC4; clear hC4; have HF4 := Lib.hid hf4; clear hf4))
          go_roundw
          case rel =>
            obtain ⟨q1, q2⟩ := app_step HC.out HCA.out HLO.out HC4.out HF4.out
            refine ⟨k + 1, by omega, by go_num, q1, ?_, q2⟩
            rw [HSU.out]; exact HO4.out
          case measure => simp [intOf]; omega
        · rw [hb] at HB HSU
          clear hb
          have hcA : Ch [] wr (wr.alloc (.cells #[.int .i64 1] 26)) := (Ch.refl _ _).alloc _
          have hrA := hrow.ch hcA (by simp)
          have hbA : blk (wr.alloc (.cells #[.int .i64 1] 26)) wr.heap.size [.int .i64 1] := blk.new' _ _ rfl
          have HRA := Lib.hid hrA; clear hrA hrow
          have HBA := Lib.hid hbA; clear hbA
          have HCA := Lib.hid hcA; clear hcA
          go_wp2_with fail
          refine HB.mono ?_
          rintro e w2 ⟨rfl, rfl⟩
          go_wp2_with (at_builtin; go_loud (refine wpList_append_row slRefs rfl _ _ rfl (v := .slice oa k oc) (n := k) (xs := refsCells (constL x k)) rfl HRA.out (ad := ⟨wr.heap.size, 0, none⟩) (m := 1) (c := 1) (news := [.int .i64 1]) rfl rfl (news_blk HBA.out) (by simp [Value.oneCell']) (by omega) (by omega) ?_; intro v' w4 hown4 hC4 hf4; have HO4 := Lib.hid hown4; clear hown4; have HC4 := Lib.hid hC4; clear hC4; have HF4 := Lib.hid hf4; clear hf4))
          go_roundw
          case rel =>
            obtain ⟨q1, q2⟩ := app_step HC.out HCA.out HLO.out HC4.out HF4.out
            refine ⟨k + 1, by omega, by go_num, q1, ?_, q2⟩
            rw [HSU.out]; exact HO4.out
          case measure => simp [intOf]; omega
      · have hkn : k = k0 := by omega
        subst hkn
        have HROW := Lib.hid hrow; clear hrow
        have HLO := Lib.hid hlo; clear hlo
        have HC := Lib.hid hc; clear hc
        go_wp2_with fail
        go_ret2
        refine ⟨.slice oa k oc, rfl, ?_, HLO.out, HC.out⟩
        have := HROW.out
        simpa [refsCells, constL] using this
set_option maxRecDepth 100000 in
set_option maxHeartbeats 1000000 in
theorem Clref_w {x : WV} (h : WVok w x) (n : Nat) (hn : x.l.length = n) : Calls Try.prog 8 #[.slice x.a n x.c] w fun e w' => ∃ v, e = .returned v ∧ WNew w v (intCells x.l) w' := by
  obtain ⟨xa, xl, xc⟩ := x
  subst hn
  have hlen := h.len
  simp only at *
  cases xa with
  | none =>
    have hl : xl = [] := by
      cases xl with
      | nil => rfl
      | cons y l =>
        obtain ⟨b, o, e, _⟩ := h.sl.cells 0 y rfl
        cases e
    subst hl
    clear h
    go_enter Try.func8, Try.ntmps8
    go_wp2_with fail
    go_ret
    exact ⟨_, rfl, WNew.nil (Ch.refl _ _)⟩
  | some p =>
    have hO : row (w.alloc (.cells #[] 26)) 26 1 (.slice (some ⟨w.heap.size, 0, none⟩) 0 0) 0 [] := ⟨rfl, .inr ⟨w.heap.size, 0, #[], rfl, by omega, heap_alloc_new w _, by omega, by unfold maxLen; omega, rfl, rfl⟩⟩
    have hN : ∀ j u, (intCells xl)[j]? = some u → (w.alloc (.cells #[] 26)).cell? (p.add j) = some u := fun j u hu => by
      simp only [intCells, List.getElem?_map, Option.map_eq_some_iff] at hu
      obtain ⟨y, hy, rfl⟩ := hu
      obtain ⟨b, o, e, hc⟩ := h.sl.cells j y hy
      cases e
      rw [Addr.add_lit]
      exact (((Ch.refl [] w).alloc _).cell (cell_lt hc) (by simp)).trans hc
    have h1 : ∀ u ∈ intCells xl, u.oneCell' = true := fun u hu => by
      obtain ⟨r, _, rfl⟩ := List.mem_map.1 hu
      rfl
    have HO := Lib.hid hO; clear hO
    have HN := Lib.hid hN; clear hN h
    have H1 := Lib.hid h1; clear h1
    go_enter Try.func8, Try.ntmps8
    go_wp2_with (at_builtin; go_loud (refine wpList_append_row slRefs rfl _ _ rfl (v := .slice (some ⟨w.heap.size, 0, none⟩) 0 0) (n := 0) (xs := []) rfl HO.out (ad := p) (m := xl.length) (c := xc) (news := intCells xl) rfl (by simp [intCells]) HN.out H1.out (by omega) (by omega) ?_; intro v' w2 hown hC2 hfresh; have HOWN := Lib.hid hown; clear hown; have HC2 := Lib.hid hC2; clear hC2; have HFR := Lib.hid hfresh; clear hfresh))
    go_ret
    have hown := HOWN.out
    rw [Nat.zero_add, List.nil_append] at hown
    refine ⟨_, rfl, by simpa [intCells] using hown, fun k hk => ?_, (((Ch.refl [] w).alloc (.cells #[] 26))).trans HC2.out (by simp)⟩
    rcases HFR.out k (by simpa using hk) with e | e
    · simp at e; omega
    · simp at e; omega
end
end Go.Proofs.Ytndcgfnlgcincaa
namespace Go.Proofs.Ytndcgfnlgcincaa
open Go.RowKit Go.Mem Go.Aig
section
variable {w : World}
set_option maxRecDepth 100000 in
set_option maxHeartbeats 1000000 in
theorem sInput_is {g : Nat} {G : Gra} {F : List Nat} (h : GIn w g G F) (n : Int) : Calls Try.prog 18 #[.pointer (some ⟨g, 0, none⟩), .int .i64 n] w fun e w' => ∃ v, e = .returned (.tuple #[v, .int .i64 (inG G n).2.2]) ∧ GVo w g (inG G n).1 [] F v (inG G n).2.1 w' := by
  have hpos := h.ok.wf.pos
  have hFl := h.lt
  have hp0 : ((G.nodes.length : Int) == 0) = false := beqN (by omega)
  have hL : ∀ W, Ch [] w W → Calls Try.prog 6 #[.pointer (some ⟨g, 0, none⟩)] W fun e w' => e = .returned (.int .i64 G.nodes.length) ∧ W = w' := fun W hW => Len_g (h.same hW (by simp))
  have hr1 := h.ok.room
  have hr2 := h.ok.most
  unfold inG
  have HR := fun W => sright_is (w := W) n
  cases hr : rightW n
  · rw [hr] at HR
    clear hr
    simp only [Bool.false_eq_true, if_false]
    have H := Lib.hid h; clear h
    go_enter Try.func18, Try.ntmps18
    go_wp2_with fail
    refine calls_named fun W0 hW0 => ?_
    have hc0 : Ch [] w W0 := by rw [hW0]; exact ((Ch.refl _ _).alloc _).alloc _
    have hbn : blk W0 (w.heap.size + 1) [.int .i64 n] := by rw [hW0]; exact blk.new' _ _ (by simp)
    have hn0 := hbn.cell (i := 0) rfl
    clear hW0
    refine (hL W0 hc0).mono ?_
    rintro e w' ⟨rfl, rfl⟩
    have HC0 := Lib.hid hc0; clear hc0
    go_wp2_with fail
    refine (HR _).mono ?_
    rintro e w' ⟨rfl, rfl⟩
    go_wp2_with fail
    go_ret2
    exact ⟨_, rfl, GVo.none H.out HC0.out⟩
  · rw [hr] at HR
    obtain ⟨k0, rfl, hk0⟩ : ∃ k0 : Nat, n = k0 ∧ k0 ≤ 17 := by
      unfold rightW at hr
      simp at hr
      exact ⟨n.toNat, by omega, by omega⟩
    clear hr
    simp only [if_true, Int.toNat_natCast]
    have hB : ∀ W, Ch [] w W → blk W w.heap.size [.pointer (some ⟨g, 0, none⟩)] → blk W (w.heap.size + 1) [.int .i64 k0] → Calls Try.prog 48 #[.pointer (some ⟨g, 0, none⟩), .func (.func 49) #[] #[.pointer (some ⟨w.heap.size + 1, 0, none⟩), .pointer (some ⟨w.heap.size, 0, none⟩)]] W fun e w' => ∃ v, e = .returned (.tuple #[v, .int .i64 (wres G (inF (G, 0) k0)).2.2]) ∧ GVo W g (wres G (inF (G, 0) k0)).1 [] F v (wres G (inF (G, 0) k0)).2.1 w' := fun W hW hbg hbn =>
      sbuildW_is (h.same hW (by simp)) 49 _ fnvsInput1 _ [] (fun W2 m hm hW2 hM => sInput1_is hM (by omega) ((hbn.ch hW2 (by simp)).cell (i := 0) rfl) ((hbg.ch hW2 (by simp)).cell (i := 0) rfl) (fun hk => by
        have h1 := hbg.lt
        simp only [List.mem_cons] at hk
        rcases hk with e | e
        · omega
        · have := hFl _ e; omega))
    have HB := Lib.hid hB; clear hB
    generalize wres G (inF (G, 0) k0) = R at *
    have H := Lib.hid h; clear h
    go_enter Try.func18, Try.ntmps18
    go_wp2_with fail
    refine calls_named fun W0 hW0 => ?_
    have hc0 : Ch [] w W0 := by rw [hW0]; exact ((Ch.refl _ _).alloc _).alloc _
    have hbg : blk W0 w.heap.size [.pointer (some ⟨g, 0, none⟩)] := by rw [hW0]; exact (blk.new' _ _ (by simp)).alloc _
    have hbn : blk W0 (w.heap.size + 1) [.int .i64 k0] := by rw [hW0]; exact blk.new' _ _ (by simp)
    have hn0 := hbn.cell (i := 0) rfl
    have hg0 := hbg.cell (i := 0) rfl
    clear hW0
    refine (hL W0 hc0).mono ?_
    rintro e w' ⟨rfl, rfl⟩
    have HBB := HB.out W0 hc0 hbg hbn
    have HC0 := Lib.hid hc0; clear hc0
    clear hbg hbn
    go_wp2_with fail
    refine (HR _).mono ?_
    rintro e w' ⟨rfl, rfl⟩
    go_wp2_with fail
    refine HBB.mono ?_
    rintro e w1 ⟨v, rfl, hg⟩
    have HG := Lib.hid hg; clear hg
    go_wp2_with fail
    go_ret2
    exact ⟨v, rfl, GVo.since HC0.out HG.out⟩
end
end Go.Proofs.Ytndcgfnlgcincaa
namespace Go.Proofs.Ytndcgfnlgcincaa
open Go.RowKit Go.Mem Go.Aig
section
variable {w0 w : World} {g : Nat} {G : Gra} {F : List Nat}
theorem New_c (n : Nat) (h1 : 1 ≤ n) (h2 : n ≤ 65536) (hc : Ch [] w0 w) :
    Calls Try.prog 17 #[.int .i64 n] w fun e w' => ∃ g F, e = .returned (.tuple #[.pointer (some ⟨g, 0, none⟩), .int .i64 0]) ∧ Own w0 w' g (newG n) F := by
  refine (New_yes n h1 h2).mono ?_
  rintro e w' ⟨g, F, rfl, hg, hF, hch⟩
  exact ⟨g, F, rfl, hg, fun k hk => Nat.le_trans hc.size (hF k hk), hc.trans hch (by simp)⟩
end
end Go.Proofs.Ytndcgfnlgcincaa
namespace Go.Aig
def natInts (l : List Nat) : List Int := l.map fun (r : Nat) => (r : Int)
@[simp] theorem natInts_len (l : List Nat) : (natInts l).length = l.length := by simp [natInts]
end Go.Aig
namespace Go.Proofs.Ytndcgfnlgcincaa
open Go.RowKit Go.Mem Go.Aig
theorem refs_natInts (l : List Nat) : refsCells l = intCells (natInts l) := by simp [refsCells, intCells, natInts]
structure Held (w0 w : World) (F : List Nat) (v : Value) (l : List Int) : Prop where
  row : row w 26 1 v l.length (intCells l)
  len : l.length ≤ 1000000
  bd : ∀ r ∈ l, -9223372036854775808 ≤ r ∧ r ≤ 9223372036854775807
  own : ∀ k, v.ownBlock = some k → w0.heap.size ≤ k ∧ k ∉ F
theorem Held.keep {w0 w w' : World} {F F' : List Nat} {v : Value} {l : List Int} (h : Held w0 w F v l) (hc : Ch F w w') (hF : ∀ k ∈ F', k ∈ F ∨ w.heap.size ≤ k) : Held w0 w' F' v l :=
  ⟨h.row.ch hc (fun k hk => (h.own k hk).2), h.len, h.bd, fun k hk => ⟨(h.own k hk).1, fun hk2 => (hF k hk2).elim (h.own k hk).2 (fun e => by have := (h.row.lt k hk).2; omega)⟩⟩
theorem Held.in {w0 w : World} {F : List Nat} {a : Option Addr} {c n : Nat} {l : List Int} (h : Held w0 w F (.slice a n c) l) (hn : l.length = n) : WVin w F ⟨a, l, c⟩ := by
  have hr := h.row
  rw [hn] at hr
  refine ⟨⟨?_, h.bd, h.len⟩, fun k hk => ?_⟩
  · exact Sl.of_ints hr (by have := h.len; omega)
  · cases a with
    | none => simp [ablk] at hk
    | some p =>
      simp only [ablk, List.mem_singleton] at hk
      subst hk
      exact ⟨(h.own p.block rfl).2, (h.row.lt p.block rfl).2⟩
theorem Held.cap {w0 w : World} {F : List Nat} {a : Option Addr} {c n : Nat} {l : List Int} (h : Held w0 w F (.slice a n c) l) : n ≤ c := by
  rcases h.row.2 with ⟨e, _⟩ | ⟨g, cap, cur, e, _, _, hle, _⟩
  · cases e; omega
  · cases e; exact hle
structure Base where
  w : World
  K : List (Nat × List Value) := []
instance : Coe World Base := ⟨fun w => ⟨w, []⟩⟩
def Base.add (B : Base) (b : Nat) (xs : List Value) : Base := ⟨B.w, (b, xs) :: B.K⟩
structure Hold (w0 : Base) (w : World) (g : Nat) (G : Gra) (F : List Nat) (L : List (Value × List Int)) : Prop where
  own : Own w0.w w g G F
  held : ∀ p ∈ L, Held w0.w w F p.1 p.2
  kept : ∀ p ∈ w0.K, blk w p.1 p.2 ∧ w0.w.heap.size ≤ p.1 ∧ p.1 ∉ F
section
variable {w0 : Base} {w : World} {g : Nat} {G : Gra} {F : List Nat} {L : List (Value × List Int)}
theorem Hold.same {w' : World} (h : Hold w0 w g G F L) (hc : Ch [] w w') : Hold w0 w' g G F L :=
  ⟨h.own.same hc, fun p hp => (h.held p hp).keep (hc.mono (by simp)) (fun _ hk => .inl hk), fun p hp => ⟨(h.kept p hp).1.ch hc (by simp), (h.kept p hp).2⟩⟩
theorem Hold.keptTo {w' : World} {F' : List Nat} (h : Hold w0 w g G F L) (h2 : Ch F w w') (h3 : ∀ k ∈ F', k ∈ F ∨ w.heap.size ≤ k) : ∀ p ∈ w0.K, blk w' p.1 p.2 ∧ w0.w.heap.size ≤ p.1 ∧ p.1 ∉ F' := fun p hp => by
  obtain ⟨k1, k2, k3⟩ := h.kept p hp
  exact ⟨k1.ch h2 k3, k2, fun hin => (h3 _ hin).elim k3 (fun e => by have := k1.lt; omega)⟩
theorem Hold.to {w' : World} {G' : Gra} (h : Hold w0 w g G F L) (ht : GTo w g G' F w') : ∃ F', Hold w0 w' g G' F' L := by
  obtain ⟨F', h1, h2, h3, _⟩ := ht
  exact ⟨F', ⟨h1, fun k hk => (h3 k hk).elim (h.own.own k) (fun e => Nat.le_trans h.own.ch.size e), h.own.ch.trans h2 (fun k hk => .inr (h.own.own k hk))⟩, fun p hp => (h.held p hp).keep h2 h3, h.keptTo h2 h3⟩
theorem Hold.word {w' : World} {G' : Gra} {v : Value} {l : List Nat} (h : Hold w0 w g G F L) (ht : GVo w g G' [] F v l w') (hb : ∀ r ∈ l, r ≤ 1000000) (hl : l.length ≤ 1000000) : ∃ a c F', v = .slice a l.length c ∧ Hold w0 w' g G' F' ((.slice a l.length c, natInts l) :: L) := by
  obtain ⟨F', h1, h2, h3, h4, h5, h6⟩ := ht
  obtain ⟨a, c, rfl⟩ := row.shape h5
  obtain ⟨k1, k2⟩ := (h.to (G' := G') ⟨F', h1, h2, h3, h4⟩ : ∃ F', Hold w0 w' g G' F' L)
  refine ⟨a, c, F', rfl, ⟨⟨h1, fun k hk => (h3 k hk).elim (h.own.own k) (fun e => Nat.le_trans h.own.ch.size e), h.own.ch.trans h2 (fun k hk => .inr (h.own.own k hk))⟩, fun p hp => ?_, h.keptTo h2 h3⟩⟩
  rcases List.mem_cons.1 hp with rfl | hp
  · refine ⟨?_, by simpa using hl, fun r hr => ?_, fun k hk => ⟨Nat.le_trans h.own.ch.size (h6 k hk).1, (h6 k hk).2⟩⟩
    · simp only [natInts_len]
      rw [← refs_natInts]
      exact h5
    · obtain ⟨q, hq, rfl⟩ := List.mem_map.1 hr
      have := hb q hq
      omega
  · exact (h.held p hp).keep h2 h3
theorem Hold.new {w' : World} {v : Value} {l : List Int} (h : Hold w0 w g G F L) (ht : WNew w v (intCells l) w') (hb : ∀ r ∈ l, -9223372036854775808 ≤ r ∧ r ≤ 9223372036854775807) (hl : l.length ≤ 1000000) : ∃ a c, v = .slice a l.length c ∧ Hold w0 w' g G F ((.slice a l.length c, l) :: L) := by
  obtain ⟨h5, h6, h2⟩ := ht
  have e : (intCells l).length = l.length := by simp [intCells]
  rw [e] at h5
  obtain ⟨a, c, rfl⟩ := row.shape h5
  refine ⟨a, c, rfl, (h.same h2).own, fun p hp => ?_, (h.same h2).kept⟩
  rcases List.mem_cons.1 hp with rfl | hp
  · exact ⟨h5, hl, hb, fun k hk => ⟨Nat.le_trans h.own.ch.size (h6 k (by simpa using hk)), fun hk2 => by have := h.own.gin.lt k hk2; have := h6 k (by simpa using hk); omega⟩⟩
  · exact (h.same h2).held p hp
theorem Hold.at (h : Hold w0 w g G F L) {a : Option Addr} {n c : Nat} {l : List Int} (hp : (.slice a n c, l) ∈ L) (hn : l.length = n) : WVin w F ⟨a, l, c⟩ := (h.held _ hp).in hn
theorem Hold.sl (h : Hold w0 w g G F L) {a : Option Addr} {n c : Nat} {l : List Int} (hp : (.slice a n c, l) ∈ L) (hn : l.length = n) : Sl w a l := (h.at hp hn).ok.sl
theorem Hold.start {w0 : World} (h : Own w0 w g G F) : Hold w0 w g G F [] := ⟨h, by simp, fun p hp => by cases hp⟩
theorem Hold.keepB {b : Nat} {xs : List Value} (h : Hold w0 w g G F L) (hb : blk w b xs) (h0 : w0.w.heap.size ≤ b) (hF : b ∉ F) : Hold (w0.add b xs) w g G F L :=
  ⟨h.own, h.held, fun p hp => by
    rcases List.mem_cons.1 hp with rfl | hp
    · exact ⟨hb, h0, hF⟩
    · exact h.kept p hp⟩
theorem Hold.keepN {w' : World} {xs : List Value} (h : Hold w0 w g G F L) (hc : Ch [] w w') (hb : blk w' w.heap.size xs) : Hold (w0.add w.heap.size xs) w' g G F L :=
  (h.same hc).keepB hb h.own.ch.size (fun hin => Nat.lt_irrefl _ (h.own.gin.lt _ hin))
theorem Hold.dropB {b : Nat} {xs : List Value} (h : Hold (w0.add b xs) w g G F L) : Hold w0 w g G F L := ⟨h.own, h.held, fun p hp => h.kept p (List.mem_cons_of_mem _ hp)⟩
theorem Hold.kb0 {b : Nat} {xs : List Value} (h : Hold (w0.add b xs) w g G F L) : Go.Mem.blk w b xs := (h.kept (b, xs) (List.mem_cons_self ..)).1
theorem Hold.kb {b : Nat} {xs : List Value} (h : Hold w0 w g G F L) (hm : (b, xs) ∈ w0.K) : blk w b xs := (h.kept _ hm).1
end
end Go.Proofs.Ytndcgfnlgcincaa
namespace Go.Proofs.Ytndcgfnlgcincaa
open Go.RowKit Go.Mem Go.Aig
section
variable {w0 : Base} {w : World} {g : Nat} {G : Gra} {F : List Nat} {L : List (Value × List Int)}
theorem Calls.word {fid : FuncId} {args : Array Value} (h : Hold w0 w g G F L) {R : Gra × List Nat × Nat} (hC : Calls Try.prog fid args w fun e w' => ∃ v, e = .returned (.tuple #[v, .int .i64 R.2.2]) ∧ GVo w g R.1 [] F v R.2.1 w') {G' : Gra} {l : List Nat} {e k : Nat} (hR : R = (G', l, e)) (hk : l.length = k) (hb : ∀ r ∈ l, r ≤ 1000000) (hl : k ≤ 1000000) :
    Calls Try.prog fid args w fun en w' => ∃ a c F', en = .returned (.tuple #[.slice a k c, .int .i64 e]) ∧ Hold w0 w' g G' F' ((.slice a k c, natInts l) :: L) := by
  subst hR hk
  refine hC.mono ?_
  rintro en w' ⟨v, rfl, hg⟩
  obtain ⟨a, c, F', rfl, hh⟩ := h.word hg hb hl
  exact ⟨a, c, F', rfl, hh⟩
theorem Calls.ref {fid : FuncId} {args : Array Value} (h : Hold w0 w g G F L) {R : Res} (hC : Calls Try.prog fid args w fun e w' => e = .returned (.tuple #[.int .i64 R.2.1, .int .i64 R.2.2]) ∧ GTo w g R.1 F w') {G' : Gra} {r e : Nat} (hR : R = (G', r, e)) :
    Calls Try.prog fid args w fun en w' => ∃ F', en = .returned (.tuple #[.int .i64 r, .int .i64 e]) ∧ Hold w0 w' g G' F' L := by
  subst hR
  refine hC.mono ?_
  rintro en w' ⟨rfl, hg⟩
  obtain ⟨F', hh⟩ := h.to hg
  exact ⟨F', rfl, hh⟩
theorem Calls.wnew {fid : FuncId} {args : Array Value} (h : Hold w0 w g G F L) {l : List Int} {e : Nat} (hC : Calls Try.prog fid args w fun en w' => ∃ v, en = .returned (.tuple #[v, .int .i64 e]) ∧ WNew w v (intCells l) w') {k : Nat} (hk : l.length = k) (hb : ∀ r ∈ l, -9223372036854775808 ≤ r ∧ r ≤ 9223372036854775807) (hl : k ≤ 1000000) :
    Calls Try.prog fid args w fun en w' => ∃ a c, en = .returned (.tuple #[.slice a k c, .int .i64 e]) ∧ Hold w0 w' g G F ((.slice a k c, l) :: L) := by
  subst hk
  refine hC.mono ?_
  rintro en w' ⟨v, rfl, hg⟩
  obtain ⟨a, c, rfl, hh⟩ := h.new hg hb hl
  exact ⟨a, c, rfl, hh⟩
theorem sInput_h (h : Hold w0 w g G F L) (i : Int) {G' : Gra} {l : List Nat} {e k : Nat} (hR : inG G i = (G', l, e)) (hk : l.length = k) (hb : ∀ r ∈ l, r ≤ 1000000) (hl : k ≤ 1000000) :
    Calls Try.prog 18 #[.pointer (some ⟨g, 0, none⟩), .int .i64 i] w fun en w' => ∃ a c F', en = .returned (.tuple #[.slice a k c, .int .i64 e]) ∧ Hold w0 w' g G' F' ((.slice a k c, natInts l) :: L) := Calls.word h (sInput_is h.own.gin i) hR hk hb hl
theorem sConst_h (h : Hold w0 w g G F L) (x : Nat) (hx : x < 4294967296) (n : Nat) (hn : rightW n = true) :
    Calls Try.prog 20 #[.int .u32 x, .int .i64 n] w fun en w' => ∃ a c, en = .returned (.tuple #[.slice a n c, .int .i64 0]) ∧ Hold w0 w' g G F ((.slice a n c, natInts (constL x n)) :: L) := by
  have hc := sConst_is (w := w) x hx n
  rw [hn] at hc
  simp only [if_true, refs_natInts, Int.toNat_natCast] at hc
  have hb : ∀ r ∈ natInts (constL x n), -9223372036854775808 ≤ r ∧ r ≤ 9223372036854775807 := fun r hr => by
    obtain ⟨q, hq, rfl⟩ := List.mem_map.1 hr
    obtain ⟨i, _, rfl⟩ := List.mem_map.1 hq
    cases x.testBit i <;> decide
  have hn2 : n ≤ 17 := by unfold rightW at hn; simp at hn; omega
  exact Calls.wnew h hc (by simp [constL]) hb (by omega)
theorem Eqref_h (h : Hold w0 w g G F L) {xa ya : Option Addr} {xl yl : List Int} {n m xc yc : Nat} (hx : (.slice xa n xc, xl) ∈ L) (hxn : xl.length = n) (hy : (.slice ya m yc, yl) ∈ L) (hym : yl.length = m) {q : Bool} (hq : decide (xl = yl) = q) : Calls Try.prog 21 #[.slice xa n xc, .slice ya m yc] w fun e w' => e = .returned (.bool q) ∧ Hold w0 w' g G F L := by
  subst hq
  have hc := Eqref_is (w := w) xc yc (h.sl hx hxn) (h.sl hy hym)
  simp only [hxn, hym] at hc
  refine hc.mono ?_
  rintro e w' ⟨rfl, hc⟩
  exact ⟨rfl, h.same hc⟩
theorem Eqref_c (h : Hold w0 w g G F L) {xa : Option Addr} {xl : List Int} {n xc : Nat} (hx : (.slice xa n xc, xl) ∈ L) (hxn : xl.length = n) {b m : Nat} {ys : List Int} (hb : blk w b (intCells ys)) (hm : ys.length = m) (hm2 : m ≤ 1000000) {q : Bool} (hq : decide (xl = ys) = q) : Calls Try.prog 21 #[.slice xa n xc, .slice (some ⟨b, 0, none⟩) m m] w fun e w' => e = .returned (.bool q) ∧ Hold w0 w' g G F L := by
  subst hq
  have hs : Sl w (some ⟨b, 0, none⟩) ys := ⟨fun i x hx => ⟨b, 0, rfl, by rw [Nat.zero_add]; exact hb.cell (by simp [intCells, hx])⟩, by omega⟩
  have hc := Eqref_is (w := w) xc m (h.sl hx hxn) hs
  simp only [hxn, hm] at hc
  refine hc.mono ?_
  rintro e w' ⟨rfl, hc⟩
  exact ⟨rfl, h.same hc⟩
end
end Go.Proofs.Ytndcgfnlgcincaa
namespace Go.Proofs.Ytndcgfnlgcincaa
open Go.RowKit Go.Mem Go.Aig
section
theorem New_h {w : World} (n : Nat) (h1 : 1 ≤ n) (h2 : n ≤ 65536) :
    Calls Try.prog 17 #[.int .i64 n] w fun e w' => ∃ g F, e = .returned (.tuple #[.pointer (some ⟨g, 0, none⟩), .int .i64 0]) ∧ Hold w w' g (newG n) F [] := by
  refine (New_c (w0 := w) n h1 h2 (Ch.refl _ _)).mono ?_
  rintro e w' ⟨g, F, rfl, ho⟩
  exact ⟨g, F, rfl, .start ho⟩
theorem Len_h {w0 : Base} {w : World} {g : Nat} {G : Gra} {F : List Nat} {L : List (Value × List Int)} (h : Hold w0 w g G F L) {n : Nat} (hn : G.nodes.length = n) : Calls Try.prog 6 #[.pointer (some ⟨g, 0, none⟩)] w fun e w' => e = .returned (.int .i64 n) ∧ Hold w0 w' g G F L := by
  subst hn
  exact (Len_g h.own.gin).mono fun e w' ⟨h1, h2⟩ => ⟨h1, h2 ▸ h⟩
end
end Go.Proofs.Ytndcgfnlgcincaa
namespace Go.Aig
def gIn (most n : Nat) : Gra := ⟨most, ⟨1, 0, 0, 0⟩ :: List.replicate n ⟨2, 0, 0, 0⟩⟩
def rIn (s n : Nat) : List Nat := (List.range n).map fun i => 2 * (s + i + 1)
theorem inF_gIn (most s : Nat) : ∀ n, s + n < most → inF (gIn most s, 0) n = ((gIn most (s + n), 0), rIn s n)
  | 0, _ => rfl
  | n + 1, h => by
    rw [inF_succ, inF_gIn most s n (by omega)]
    unfold inS sPut put
    have hl : (gIn most (s + n)).nodes.length = s + n + 1 := by simp [gIn]
    dsimp only
    rw [if_neg (by rw [hl]; show ¬ most ≤ s + n + 1; omega), rstep_ok rfl rfl, hl]
    have h1 : ({ gIn most (s + n) with nodes := (gIn most (s + n)).nodes ++ [⟨2, 0, 0, 0⟩] } : Gra) = gIn most (s + (n + 1)) := by
      unfold gIn
      show (⟨most, _⟩ : Gra) = ⟨most, _⟩
      rw [List.cons_append, ← List.replicate_succ']
      rfl
    dsimp only
    rw [h1]
    congr 1
    unfold rIn
    rw [List.range_succ, List.map_append]
    rfl
theorem inG_gIn {most s n : Nat} (h1 : 1 ≤ n) (h2 : n ≤ 17) (h : s + n < most) : inG (gIn most s) n = (gIn most (s + n), rIn s n, 0) := by
  unfold inG
  have : rightW n = true := by unfold rightW; simp; omega
  rw [this, if_pos rfl]
  simp only [Int.toNat_natCast]
  rw [inF_gIn most s n h]
  rfl
@[simp] theorem rIn_len (s n : Nat) : (rIn s n).length = n := by simp [rIn]
theorem rIn_le {s n r : Nat} (h : r ∈ rIn s n) : r ≤ 2 * (s + n) ∧ 2 ≤ r ∧ r % 2 = 0 := by
  obtain ⟨i, hi, rfl⟩ := List.mem_map.1 h
  have := List.mem_range.1 hi
  omega
end Go.Aig
namespace Go.Proofs.Ytndcgfnlgcincaa
open Go.RowKit Go.Mem Go.Aig
set_option maxRecDepth 100000 in
set_option maxHeartbeats 4000000 in
theorem Pair_is (w : World) (wd : Nat) (hw : wd ≤ 255) : Calls Try.prog 19 #[.int .u8 wd] w fun e w' => ∃ g F xa xc ya yc, e = .returned (.tuple #[.pointer (some ⟨g, 0, none⟩), .slice xa (wd % 5 + 1) xc, .slice ya (wd % 5 + 1) yc]) ∧
    Hold w w' g (gIn 4000 (2 * (wd % 5 + 1))) F [(.slice ya (wd % 5 + 1) yc, natInts (rIn (wd % 5 + 1) (wd % 5 + 1))), (.slice xa (wd % 5 + 1) xc, natInts (rIn 0 (wd % 5 + 1)))] := by
  obtain ⟨n, hn, hn5⟩ : ∃ n, wd % 5 + 1 = n ∧ n ≤ 5 := ⟨_, rfl, by omega⟩
  have hn1 : 1 ≤ n := by omega
  rw [hn]
  have hq : 1 + (wd : Int) % 5 = n := by omega
  have HQ := Lib.hid hq
  have hN := New_h (w := w) 4000 (by decide) (by decide)
  have HN := Lib.hid hN; clear hN
  clear hn
  go_enter Try.func19, Try.ntmps19
  go_wp2_with fail
  refine HN.out.mono ?_
  rintro e w1 ⟨g, F1, rfl, ho⟩
  have HO := Lib.hid ho; clear ho HN
  go_wp2_with fail
  refine (sInput_h HO.out n (G' := gIn 4000 n) (l := rIn 0 n) (e := 0) (k := n) (by have := inG_gIn (most := 4000) (s := 0) hn1 (by omega) (by omega); rw [Nat.zero_add] at this; exact this) (by simp) (fun r hr => by have := rIn_le hr; omega) (by omega)).mono ?_
  rintro e w2 ⟨xa, xc, F2, rfl, ho⟩
  clear HO; have HO := Lib.hid ho; clear ho
  go_wp2_with fail
  refine (sInput_h HO.out n (G' := gIn 4000 (2 * n)) (l := rIn n n) (e := 0) (k := n) (by have := inG_gIn (most := 4000) (s := n) hn1 (by omega) (by omega); rw [show n + n = 2 * n from by omega] at this; exact this) (by simp) (fun r hr => by have := rIn_le hr; omega) (by omega)).mono ?_
  rintro e w3 ⟨ya, yc, F3, rfl, ho⟩
  clear HO; have HO := Lib.hid ho; clear ho
  go_wp2_with fail
  go_ret3
  exact ⟨g, F3, xa, xc, ya, yc, rfl, HO.out⟩
end Go.Proofs.Ytndcgfnlgcincaa
namespace Go.Aig
end Go.Aig
namespace Go.Proofs.Ytndcgfnlgcincaa
open Go.RowKit Go.Mem Go.Aig
theorem eqSliceNilB (w : World) (a : Option Addr) (n c : Nat) : (binOp .eql 150 (.slice a n c) (.slice none 0 0)).run Try.prog w = .ok (.bool a.isNone) w := by
  have h : Try.prog.underlying 150 = some (.slice 4) := Try.underlying150
  simp only [binOp]
  simp [run_equal_slice_nil w _ _ a n c h]
attribute [local go_sem] eqSliceNilB
section
variable {w : World}
end
end Go.Proofs.Ytndcgfnlgcincaa
namespace Go.Proofs.Ytndcgfnlgcincaa
open Go.RowKit Go.Mem Go.Aig
theorem rowBlk {w : World} {e : TypeId} {a : Option Addr} {n c : Nat} {xs : List Value} (h : row w e 1 (.slice a n c) n xs) : ∀ j, j < n → ∃ (b : Nat) (ys : List Value), a = some ⟨b, 0, none⟩ ∧ blk w b ys ∧ n ≤ ys.length := by
  intro j hj
  rcases h.2 with ⟨e1, _⟩ | ⟨b, cap, cur, e1, _, hg, hle, _, hs, _⟩
  · cases e1; omega
  · cases e1
    exact ⟨b, cur.toList, rfl, ⟨e, by simpa using hg⟩, by simp; omega⟩
section
variable {w : World}
end
end Go.Proofs.Ytndcgfnlgcincaa
namespace Go.Proofs.Ytndcgfnlgcincaa
open Go.ChangeShapes Go.WideShapes Go.ChangeAt Go.RowKit Go.Mem Go.Aig Go.Deep
theorem own : ownKnob Try.prog.godebug = none := by kernel_rfl
section
variable {H : Type} {enc : TypeId × Value → H} {W : World}
theorem wf_u8 {n : Int} (h : (Lit.int .u8 n).wf = true) : ∃ m : Nat, n = m ∧ m ≤ 255 := by
  have : 0 ≤ n ∧ n ≤ 255 := by simpa [Lit.wf, IntKind.min, IntKind.max, IntKind.signed, IntKind.bits] using h
  exact ⟨n.toNat, by omega, by omega⟩
end
end Go.Proofs.Ytndcgfnlgcincaa
namespace Go.Aig
def right26 (n : Int) : Bool := decide (1 ≤ n) && decide (n ≤ 16)
def array26 (n : Int) : Bool := decide (1 ≤ n) && decide (n ≤ 256)
end Go.Aig
namespace Go.Proofs.Ytndcgfnlgcincaa
open Go.RowKit Go.Mem Go.Aig
abbrev mzW : Value := .slice none 0 0
abbrev mzL : Value := .slice none 0 0
abbrev mzR : Value := .int .i64 0
def MB (w : World) (g : Nat) (G : Gra) (F : List Nat) (s : Mk) (Post : Value → List Nat → World → Prop) (z v : Value) (w' : World) : Prop :=
  ∃ F', GIn w' g (if s.2 = 0 then s.1 else G) F' ∧ Ch F w w' ∧ (∀ k ∈ F', k ∈ F ∨ w.heap.size ≤ k) ∧ F'[2]? = F[2]? ∧ (s.2 = 0 → Post v F' w') ∧ (s.2 ≠ 0 → v = z)
section
variable {w : World} {g m : Nat} {G : Gra} {F : List Nat}
set_option maxRecDepth 100000 in
set_option maxHeartbeats 1000000 in
theorem mright_is (n : Int) : Calls Try.prog 27 #[.int .i64 n] w fun e w' => e = .returned (.bool (right26 n)) ∧ w = w' := by
  unfold right26
  by_cases h : 1 ≤ n
  · have h1 : decide ((1 : Int) ≤ n) = true := decide_eq_true h
    go_enter Try.func27, Try.ntmps27
    go_wp2_with fail
    go_ret
    exact ⟨by rw [h1]; rfl, rfl⟩
  · have h1 : decide ((1 : Int) ≤ n) = false := decide_eq_false h
    go_enter Try.func27, Try.ntmps27
    go_wp2_with fail
    go_ret
    exact ⟨rfl, rfl⟩
set_option maxRecDepth 100000 in
set_option maxHeartbeats 1000000 in
theorem marray_is (n : Int) : Calls Try.prog 26 #[.int .i64 n] w fun e w' => e = .returned (.bool (array26 n)) ∧ w = w' := by
  unfold array26
  by_cases h : 1 ≤ n
  · have h1 : decide ((1 : Int) ≤ n) = true := decide_eq_true h
    go_enter Try.func26, Try.ntmps26
    go_wp2_with fail
    go_ret
    exact ⟨by rw [h1]; rfl, rfl⟩
  · have h1 : decide ((1 : Int) ≤ n) = false := decide_eq_false h
    go_enter Try.func26, Try.ntmps26
    go_wp2_with fail
    go_ret
    exact ⟨rfl, rfl⟩
set_option maxRecDepth 100000 in
set_option maxHeartbeats 1000000 in
theorem mnote_is {e : Nat} (hb : blk w m [.pointer (some ⟨g, 0, none⟩), .int .i64 e]) (r : Int) (f : Nat) :
    Calls Try.prog 36 #[.pointer (some ⟨m, 0, none⟩), .int .i64 r, .int .i64 f] w fun x w' => x = .returned (.int .i64 r) ∧ blk w' m [.pointer (some ⟨g, 0, none⟩), .int .i64 ((if e = 0 then f else e : Nat) : Int)] ∧ Ch [m] w w' := by
  have m1 := hb.cell (i := 1) rfl
  have m1f := hb.frozen (i := 1)
  have HB := Lib.hid hb; clear hb
  by_cases he : e = 0
  · subst he
    rw [if_pos rfl]
    go_enter Try.func36, Try.ntmps36
    go_wp2_with fail
    go_ret
    exact ⟨rfl, HB.out.set (i := 1) _, (Ch.refl _ _).setCell (by simp) _⟩
  · have hq : ((e : Int) == 0) = false := beqN (by omega)
    rw [if_neg he]
    go_enter Try.func36, Try.ntmps36
    go_wp2_with fail
    go_ret
    exact ⟨rfl, HB.out, Ch.refl _ _⟩
set_option maxRecDepth 100000 in
set_option maxHeartbeats 2000000 in
theorem mbuildW_is (h : GIn w g G F) (fid : Nat) (caps : Array Value) (hfn : Fnv fid) (s : Mk) (Post : Value → List Nat → World → Prop)
    (hf : ∀ W m, w.heap.size ≤ m → Ch [] w W → MIn W g m (G, 0) F → Calls Try.prog fid (#[.pointer (some ⟨m, 0, none⟩)] ++ caps) W fun e W' => ∃ v P F', e = .returned v ∧ Sim G P s ∧ MIn W' g m P F' ∧ Ch (m :: F) W W' ∧ (∀ k ∈ F', k ∈ F ∨ W.heap.size ≤ k) ∧ F'[2]? = F[2]? ∧ (s.2 = 0 → Post v F' W')) :
    Calls Try.prog 29 #[.pointer (some ⟨g, 0, none⟩), .func (.func fid) #[] caps] w fun e w' => ∃ v, e = .returned (.tuple #[v, .int .i64 s.2]) ∧ MB w g G F s Post mzW v w' := by
  have HL := Len_g h
  have hg := h.lt
  have hok := h.ok
  have hroom := h.ok.room
  have hmost := h.ok.most
  have hms : MIn (w.alloc (.cells #[.pointer (some ⟨g, 0, none⟩), .int .i64 0] 108)) g w.heap.size (G, 0) F := ⟨h.same ((Ch.refl [] _).alloc _) (by simp), blk.new' _ _ rfl, fun hm => by have := hg _ hm; omega⟩
  have HF := hf _ w.heap.size (Nat.le_refl _) ((Ch.refl _ _).alloc _) hms
  have hcf : ∀ args w, (callFunc fid args).run Try.prog w = .ok (.enter fid args) w := hfn
  have H := Lib.hid h; clear h
  have HG := Lib.hid hg; clear hg
  have HOK := Lib.hid hok; clear hok
  clear hf hms
  go_enter Try.func29, Try.ntmps29
  go_wp2_with fail
  refine HL.mono ?_
  rintro e w' ⟨rfl, rfl⟩
  go_wp2_with fail
  refine HF.mono ?_
  rintro e w1 ⟨v, P, F', rfl, hsim, hm, hc, hF', hF2, hpost⟩
  have m1 := hm.bk.cell (i := 1) rfl
  have hc0 : Ch F w w1 := (((Ch.refl F w).alloc (.cells #[.pointer (some ⟨g, 0, none⟩), .int .i64 0] 108))).trans hc (fun k hk => by
    simp only [List.mem_cons] at hk
    rcases hk with rfl | hk
    · right; omega
    · exact .inl hk)
  have hz := hc0.size
  have hF0 : ∀ k ∈ F', k ∈ F ∨ w.heap.size ≤ k := fun k hk => (hF' k hk).imp id (fun e => by simp at e; omega)
  have hrel := hsim.rel
  have hext := hsim.ext
  have HPOST := Lib.hid hpost; clear hpost
  have HC0 := Lib.hid hc0; clear hc0
  have HF0 := Lib.hid hF0; clear hF0
  have HM := Lib.hid hm; clear hm
  have HEXT := Lib.hid hext; clear hext
  clear hc hF' hsim
  rcases hrel with ⟨he, rfl⟩ | ⟨he, hp⟩
  · rw [he] at m1
    clear HOK
    have HE := Lib.hid he; clear he
    go_wp2_with fail
    go_ret2
    exact ⟨_, by rw [HE.out]; rfl, F', by rw [if_pos HE.out]; exact HM.out.gin, HC0.out, HF0.out, hF2, fun _ => HPOST.out HE.out, fun h => absurd HE.out h⟩
  · rw [hp] at m1
    have hcut := Cut_g HM.out.gin G.nodes.length (by omega) (by omega)
    rw [doCut_back HOK.out HEXT.out] at hcut
    have hmlt := HM.out.bk.lt
    have hmF := HM.out.apart
    have HE := Lib.hid he; clear he
    have HP := Lib.hid hp; clear hp
    have HMF := Lib.hid hmF; clear hmF
    go_wp2_with fail
    refine hcut.mono ?_
    rintro e w4 ⟨rfl, F4, hg4, hc4, hF4, hF42⟩
    have hm4 : w4.cell? ⟨w.heap.size, 1, none⟩ = some (.int .i64 201) := (hc4.cell (p := ⟨w.heap.size, 1, none⟩) hmlt HMF.out).trans m1
    clear m1
    have HG4 := Lib.hid hg4; clear hg4
    have HC4 := Lib.hid hc4; clear hc4
    have HF4 := Lib.hid hF4; clear hF4
    go_wp2_with fail
    refine Ord.St.door (fun _ => True) [.fl, .fl, .fl, .fl, .rd, .fl, .fl] [0, 0, 2, 6, 14, 1, 63] [0, 1, 2, 3, 4, 5, 6] mixed (by kernel_rfl) rfl ?_
    refine Ord.St.fl2 (T' := ?_) 0 [1, 2, 3, 4, 5, 6] _ _ rfl (by kernel_rfl) rfl rfl rfl rfl (fun K w' hk => ?_) ?_
    rotate_left
    · go_step; exact hk
    refine Ord.St.fl2 (T' := ?_) 1 [2, 3, 4, 5, 6] _ _ rfl (by kernel_rfl) rfl rfl rfl rfl (fun K w' hk => ?_) ?_
    rotate_left
    · go_step; exact hk
    refine Ord.St.fl2 (T' := ?_) 2 [3, 4, 5, 6] _ _ rfl (by kernel_rfl) rfl rfl rfl rfl (fun K w' hk => ?_) ?_
    rotate_left
    · go_step; exact hk
    refine Ord.St.fl2 (T' := ?_) 3 [4, 5, 6] _ _ rfl (by kernel_rfl) rfl rfl rfl rfl (fun K w' hk => ?_) ?_
    rotate_left
    · go_step; exact hk
    refine Ord.St.rd2 (T' := ?_) 4 [5, 6] _ _ rfl (by kernel_rfl) rfl rfl rfl rfl (fun K hk => ?_) ?_
    rotate_left
    · go_step; exact hk
    refine Ord.St.fl2 (T' := ?_) 5 [6] _ _ rfl (by kernel_rfl) rfl rfl rfl rfl (fun K w' hk => ?_) ?_
    rotate_left
    · go_step; exact hk
    refine Ord.St.fl2 (T' := ?_) 6 [] _ _ rfl (by kernel_rfl) rfl rfl rfl rfl (fun K w' hk => ?_) ?_
    rotate_left
    · go_step; exact hk
    refine Ord.St.nil ?_
    go_wp2_with fail
    go_ret2
    refine ⟨_, by rw [HE.out]; rfl, F4, by rw [if_neg (by rw [HE.out]; omega)]; exact HG4.out.same (F' := []) (Ch.refl _ _).drew (by simp), HC0.out.trans HC4.out.drew (fun k hk => HF0.out k hk), fun k hk => ?_, hF42.trans hF2, fun h => absurd h (by rw [HE.out]; omega), fun _ => rfl⟩
    rcases HF4.out k hk with e | e
    · exact HF0.out k e
    · exact .inr (by omega)
set_option maxRecDepth 100000 in
set_option maxHeartbeats 2000000 in
theorem mbuildL_is (h : GIn w g G F) (fid : Nat) (caps : Array Value) (hfn : Fnv fid) (s : Mk) (Post : Value → List Nat → World → Prop)
    (hf : ∀ W m, w.heap.size ≤ m → Ch [] w W → MIn W g m (G, 0) F → Calls Try.prog fid (#[.pointer (some ⟨m, 0, none⟩)] ++ caps) W fun e W' => ∃ v P F', e = .returned v ∧ Sim G P s ∧ MIn W' g m P F' ∧ Ch (m :: F) W W' ∧ (∀ k ∈ F', k ∈ F ∨ W.heap.size ≤ k) ∧ F'[2]? = F[2]? ∧ (s.2 = 0 → Post v F' W')) :
    Calls Try.prog 33 #[.pointer (some ⟨g, 0, none⟩), .func (.func fid) #[] caps] w fun e w' => ∃ v, e = .returned (.tuple #[v, .int .i64 s.2]) ∧ MB w g G F s Post mzL v w' := by
  have HL := Len_g h
  have hg := h.lt
  have hok := h.ok
  have hroom := h.ok.room
  have hmost := h.ok.most
  have hms : MIn (w.alloc (.cells #[.pointer (some ⟨g, 0, none⟩), .int .i64 0] 108)) g w.heap.size (G, 0) F := ⟨h.same ((Ch.refl [] _).alloc _) (by simp), blk.new' _ _ rfl, fun hm => by have := hg _ hm; omega⟩
  have HF := hf _ w.heap.size (Nat.le_refl _) ((Ch.refl _ _).alloc _) hms
  have hcf : ∀ args w, (callFunc fid args).run Try.prog w = .ok (.enter fid args) w := hfn
  have H := Lib.hid h; clear h
  have HG := Lib.hid hg; clear hg
  have HOK := Lib.hid hok; clear hok
  clear hf hms
  go_enter Try.func33, Try.ntmps33
  go_wp2_with fail
  refine HL.mono ?_
  rintro e w' ⟨rfl, rfl⟩
  go_wp2_with fail
  refine HF.mono ?_
  rintro e w1 ⟨v, P, F', rfl, hsim, hm, hc, hF', hF2, hpost⟩
  have m1 := hm.bk.cell (i := 1) rfl
  have hc0 : Ch F w w1 := (((Ch.refl F w).alloc (.cells #[.pointer (some ⟨g, 0, none⟩), .int .i64 0] 108))).trans hc (fun k hk => by
    simp only [List.mem_cons] at hk
    rcases hk with rfl | hk
    · right; omega
    · exact .inl hk)
  have hz := hc0.size
  have hF0 : ∀ k ∈ F', k ∈ F ∨ w.heap.size ≤ k := fun k hk => (hF' k hk).imp id (fun e => by simp at e; omega)
  have hrel := hsim.rel
  have hext := hsim.ext
  have HPOST := Lib.hid hpost; clear hpost
  have HC0 := Lib.hid hc0; clear hc0
  have HF0 := Lib.hid hF0; clear hF0
  have HM := Lib.hid hm; clear hm
  have HEXT := Lib.hid hext; clear hext
  clear hc hF' hsim
  rcases hrel with ⟨he, rfl⟩ | ⟨he, hp⟩
  · rw [he] at m1
    clear HOK
    have HE := Lib.hid he; clear he
    go_wp2_with fail
    go_ret2
    exact ⟨_, by rw [HE.out]; rfl, F', by rw [if_pos HE.out]; exact HM.out.gin, HC0.out, HF0.out, hF2, fun _ => HPOST.out HE.out, fun h => absurd HE.out h⟩
  · rw [hp] at m1
    have hcut := Cut_g HM.out.gin G.nodes.length (by omega) (by omega)
    rw [doCut_back HOK.out HEXT.out] at hcut
    have hmlt := HM.out.bk.lt
    have hmF := HM.out.apart
    have HE := Lib.hid he; clear he
    have HP := Lib.hid hp; clear hp
    have HMF := Lib.hid hmF; clear hmF
    go_wp2_with fail
    refine hcut.mono ?_
    rintro e w4 ⟨rfl, F4, hg4, hc4, hF4, hF42⟩
    have hm4 : w4.cell? ⟨w.heap.size, 1, none⟩ = some (.int .i64 201) := (hc4.cell (p := ⟨w.heap.size, 1, none⟩) hmlt HMF.out).trans m1
    clear m1
    have HG4 := Lib.hid hg4; clear hg4
    have HC4 := Lib.hid hc4; clear hc4
    have HF4 := Lib.hid hF4; clear hF4
    go_wp2_with fail
    refine Ord.St.door (fun _ => True) [.fl, .fl, .fl, .fl, .rd, .fl, .fl] [0, 0, 2, 6, 14, 1, 63] [0, 1, 2, 3, 4, 5, 6] mixed (by kernel_rfl) rfl ?_
    refine Ord.St.fl2 (T' := ?_) 0 [1, 2, 3, 4, 5, 6] _ _ rfl (by kernel_rfl) rfl rfl rfl rfl (fun K w' hk => ?_) ?_
    rotate_left
    · go_step; exact hk
    refine Ord.St.fl2 (T' := ?_) 1 [2, 3, 4, 5, 6] _ _ rfl (by kernel_rfl) rfl rfl rfl rfl (fun K w' hk => ?_) ?_
    rotate_left
    · go_step; exact hk
    refine Ord.St.fl2 (T' := ?_) 2 [3, 4, 5, 6] _ _ rfl (by kernel_rfl) rfl rfl rfl rfl (fun K w' hk => ?_) ?_
    rotate_left
    · go_step; exact hk
    refine Ord.St.fl2 (T' := ?_) 3 [4, 5, 6] _ _ rfl (by kernel_rfl) rfl rfl rfl rfl (fun K w' hk => ?_) ?_
    rotate_left
    · go_step; exact hk
    refine Ord.St.rd2 (T' := ?_) 4 [5, 6] _ _ rfl (by kernel_rfl) rfl rfl rfl rfl (fun K hk => ?_) ?_
    rotate_left
    · go_step; exact hk
    refine Ord.St.fl2 (T' := ?_) 5 [6] _ _ rfl (by kernel_rfl) rfl rfl rfl rfl (fun K w' hk => ?_) ?_
    rotate_left
    · go_step; exact hk
    refine Ord.St.fl2 (T' := ?_) 6 [] _ _ rfl (by kernel_rfl) rfl rfl rfl rfl (fun K w' hk => ?_) ?_
    rotate_left
    · go_step; exact hk
    refine Ord.St.nil ?_
    go_wp2_with fail
    go_ret2
    refine ⟨_, by rw [HE.out]; rfl, F4, by rw [if_neg (by rw [HE.out]; omega)]; exact HG4.out.same (F' := []) (Ch.refl _ _).drew (by simp), HC0.out.trans HC4.out.drew (fun k hk => HF0.out k hk), fun k hk => ?_, hF42.trans hF2, fun h => absurd h (by rw [HE.out]; omega), fun _ => rfl⟩
    rcases HF4.out k hk with e | e
    · exact HF0.out k e
    · exact .inr (by omega)
set_option maxRecDepth 100000 in
set_option maxHeartbeats 2000000 in
theorem mbuildR_is (h : GIn w g G F) (fid : Nat) (caps : Array Value) (hfn : Fnv fid) (s : Mk) (Post : Value → List Nat → World → Prop)
    (hf : ∀ W m, w.heap.size ≤ m → Ch [] w W → MIn W g m (G, 0) F → Calls Try.prog fid (#[.pointer (some ⟨m, 0, none⟩)] ++ caps) W fun e W' => ∃ v P F', e = .returned v ∧ Sim G P s ∧ MIn W' g m P F' ∧ Ch (m :: F) W W' ∧ (∀ k ∈ F', k ∈ F ∨ W.heap.size ≤ k) ∧ F'[2]? = F[2]? ∧ (s.2 = 0 → Post v F' W')) :
    Calls Try.prog 37 #[.pointer (some ⟨g, 0, none⟩), .func (.func fid) #[] caps] w fun e w' => ∃ v, e = .returned (.tuple #[v, .int .i64 s.2]) ∧ MB w g G F s Post mzR v w' := by
  have HL := Len_g h
  have hg := h.lt
  have hok := h.ok
  have hroom := h.ok.room
  have hmost := h.ok.most
  have hms : MIn (w.alloc (.cells #[.pointer (some ⟨g, 0, none⟩), .int .i64 0] 108)) g w.heap.size (G, 0) F := ⟨h.same ((Ch.refl [] _).alloc _) (by simp), blk.new' _ _ rfl, fun hm => by have := hg _ hm; omega⟩
  have HF := hf _ w.heap.size (Nat.le_refl _) ((Ch.refl _ _).alloc _) hms
  have hcf : ∀ args w, (callFunc fid args).run Try.prog w = .ok (.enter fid args) w := hfn
  have H := Lib.hid h; clear h
  have HG := Lib.hid hg; clear hg
  have HOK := Lib.hid hok; clear hok
  clear hf hms
  go_enter Try.func37, Try.ntmps37
  go_wp2_with fail
  refine HL.mono ?_
  rintro e w' ⟨rfl, rfl⟩
  go_wp2_with fail
  refine HF.mono ?_
  rintro e w1 ⟨v, P, F', rfl, hsim, hm, hc, hF', hF2, hpost⟩
  have m1 := hm.bk.cell (i := 1) rfl
  have hc0 : Ch F w w1 := (((Ch.refl F w).alloc (.cells #[.pointer (some ⟨g, 0, none⟩), .int .i64 0] 108))).trans hc (fun k hk => by
    simp only [List.mem_cons] at hk
    rcases hk with rfl | hk
    · right; omega
    · exact .inl hk)
  have hz := hc0.size
  have hF0 : ∀ k ∈ F', k ∈ F ∨ w.heap.size ≤ k := fun k hk => (hF' k hk).imp id (fun e => by simp at e; omega)
  have hrel := hsim.rel
  have hext := hsim.ext
  have HPOST := Lib.hid hpost; clear hpost
  have HC0 := Lib.hid hc0; clear hc0
  have HF0 := Lib.hid hF0; clear hF0
  have HM := Lib.hid hm; clear hm
  have HEXT := Lib.hid hext; clear hext
  clear hc hF' hsim
  rcases hrel with ⟨he, rfl⟩ | ⟨he, hp⟩
  · rw [he] at m1
    clear HOK
    have HE := Lib.hid he; clear he
    go_wp2_with fail
    go_ret2
    exact ⟨_, by rw [HE.out]; rfl, F', by rw [if_pos HE.out]; exact HM.out.gin, HC0.out, HF0.out, hF2, fun _ => HPOST.out HE.out, fun h => absurd HE.out h⟩
  · rw [hp] at m1
    have hcut := Cut_g HM.out.gin G.nodes.length (by omega) (by omega)
    rw [doCut_back HOK.out HEXT.out] at hcut
    have hmlt := HM.out.bk.lt
    have hmF := HM.out.apart
    have HE := Lib.hid he; clear he
    have HP := Lib.hid hp; clear hp
    have HMF := Lib.hid hmF; clear hmF
    go_wp2_with fail
    refine hcut.mono ?_
    rintro e w4 ⟨rfl, F4, hg4, hc4, hF4, hF42⟩
    have hm4 : w4.cell? ⟨w.heap.size, 1, none⟩ = some (.int .i64 201) := (hc4.cell (p := ⟨w.heap.size, 1, none⟩) hmlt HMF.out).trans m1
    clear m1
    have HG4 := Lib.hid hg4; clear hg4
    have HC4 := Lib.hid hc4; clear hc4
    have HF4 := Lib.hid hF4; clear hF4
    go_wp2_with fail
    refine Ord.St.door (fun _ => True) [.fl, .fl, .fl, .fl, .rd, .fl, .fl] [0, 0, 2, 6, 14, 1, 63] [0, 1, 2, 3, 4, 5, 6] mixed (by kernel_rfl) rfl ?_
    refine Ord.St.fl2 (T' := ?_) 0 [1, 2, 3, 4, 5, 6] _ _ rfl (by kernel_rfl) rfl rfl rfl rfl (fun K w' hk => ?_) ?_
    rotate_left
    · go_step; exact hk
    refine Ord.St.fl2 (T' := ?_) 1 [2, 3, 4, 5, 6] _ _ rfl (by kernel_rfl) rfl rfl rfl rfl (fun K w' hk => ?_) ?_
    rotate_left
    · go_step; exact hk
    refine Ord.St.fl2 (T' := ?_) 2 [3, 4, 5, 6] _ _ rfl (by kernel_rfl) rfl rfl rfl rfl (fun K w' hk => ?_) ?_
    rotate_left
    · go_step; exact hk
    refine Ord.St.fl2 (T' := ?_) 3 [4, 5, 6] _ _ rfl (by kernel_rfl) rfl rfl rfl rfl (fun K w' hk => ?_) ?_
    rotate_left
    · go_step; exact hk
    refine Ord.St.rd2 (T' := ?_) 4 [5, 6] _ _ rfl (by kernel_rfl) rfl rfl rfl rfl (fun K hk => ?_) ?_
    rotate_left
    · go_step; exact hk
    refine Ord.St.fl2 (T' := ?_) 5 [6] _ _ rfl (by kernel_rfl) rfl rfl rfl rfl (fun K w' hk => ?_) ?_
    rotate_left
    · go_step; exact hk
    refine Ord.St.fl2 (T' := ?_) 6 [] _ _ rfl (by kernel_rfl) rfl rfl rfl rfl (fun K w' hk => ?_) ?_
    rotate_left
    · go_step; exact hk
    refine Ord.St.nil ?_
    go_wp2_with fail
    go_ret2
    refine ⟨_, by rw [HE.out]; rfl, F4, by rw [if_neg (by rw [HE.out]; omega)]; exact HG4.out.same (F' := []) (Ch.refl _ _).drew (by simp), HC0.out.trans HC4.out.drew (fun k hk => HF0.out k hk), fun k hk => ?_, hF42.trans hF2, fun h => absurd h (by rw [HE.out]; omega), fun _ => rfl⟩
    rcases HF4.out k hk with e | e
    · exact HF0.out k e
    · exact .inr (by omega)
end
end Go.Proofs.Ytndcgfnlgcincaa
namespace Go.Proofs.Ytndcgfnlgcincaa
open Go.RowKit Go.Mem Go.Aig
theorem row_at2 {w : World} {e : TypeId} {b n c : Nat} {vs : List Value} (h : row w e 1 (.slice (some ⟨b, 0, none⟩) n c) n vs) {k : Nat} {v : Value} (hk : vs[k]? = some v) : w.cell? ⟨b, k, none⟩ = some v := by
  have := h.cells (g := b) rfl k v hk
  rw [Addr.add_lit] at this
  simpa using this
theorem row_fz {w : World} {e : TypeId} {b n c : Nat} {vs : List Value} (h : row w e 1 (.slice (some ⟨b, 0, none⟩) n c) n vs) (hn : 0 < n) (k : Nat) : w.frozen? ⟨b, k, none⟩ = false := by
  obtain ⟨b', ys, e1, hb, _⟩ := rowBlk h 0 hn
  cases e1
  exact hb.frozen
end Go.Proofs.Ytndcgfnlgcincaa
