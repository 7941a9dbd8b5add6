/-
  Walks over each, And, Or, Xor of sums. Conditions: a graph in memory, words of any integers.
  Walks over the exported functions of sums: words of two. Conditions: a graph in memory, words of any integers.
  What the functions of sums make, plainly: right graphs, references of them. No program in sight. Conditions: none beyond the hypotheses.
  Walks over the exported functions of sums: sums, negations, comparisons. Conditions: a graph in memory, words of any integers.
  Walks over the exported functions of sums: Eq, Le, Neg, Not, Any, Input. Conditions: a graph in memory, words of any integers.
  Walks over bitword: bits of words. Conditions: numbers in range.
  Walks over Const, Cast, Value, Input of sums, and the library's Clone of any word. Conditions: numbers in range.
  Walks over Cast, Value, Input of sums. Conditions: numbers in range, a graph in memory.
  Walk over the chapter's examples (awake): true. Conditions: none.
  A graph in memory with words that are held beside it: what is known along a law's walk. Conditions: none beyond the hypotheses.
  The functions of sums beside a graph and words that are held. Conditions: none beyond the hypotheses.
  Walk over the chapter's examples (awake of sums): true. Conditions: none.
  Walk over Pair of chapter 23's law: a graph with two words of new inputs. Conditions: none.
  Walks over the small functions of chapter 23's laws: Refs, Ints, Clone of truths, and the reference's Right, Const, Cast. Conditions: numbers in range.
  Walks: the reference's Cast, Equal of truths, Ints. Conditions: numbers in range.
  From a law's arguments to what the walks say: numbers, slices of numbers and of truths. Conditions: those of the given row.
  Walks over the reference's states: step, And, Or, Xor, Mux, Any. Conditions: a graph that can be read, references of it.
  The reference's state functions between two steps (RSt), and what a step leaves (TS); no walk. Conditions: none beyond the hypotheses.
  Walks over the reference's functions of states that make words and references: Each, Lt, Input, Sum. Conditions: a graph that can be read, words of its references.
-/
import Derived.Test.YtchledddgmbndaaGreatQC
import Derived.Laws.BitsAllLaws
import Derived.Test.YtchledddgmbndaaGreatQB
import Derived.Test.YtchledddgmbndaaGreatRows
import Derived.WalkKit
import Derived.ProofKit
import Derived.OpenShut
import Derived.ChangeOld
import Derived.Below
import Derived.Carry
import Derived.Deep.Slices
import Derived.Deep.Fields
namespace Go.Aig
def nats (l : List Int) : List Nat := l.map Int.toNat
@[simp] theorem nats_len (l : List Int) : (nats l).length = l.length := by simp [nats]
/-- what a function of words returns: a word, a reference -/
def wordG (G : Gra) (ws : List (List Int)) (R : Mk × List Nat) : Gra × List Nat × Nat := if chk G ws ≠ 0 then (G, [], chk G ws) else wres G R
def refG (G : Gra) (ws : List (List Int)) (R : Mk × Nat) : Res := if chk G ws ≠ 0 then (G, 0, chk G ws) else rres G R
theorem badIn_no {G : Gra} {x : List Int} (h : badIn G x = false) : (nats x).map (fun (r : Nat) => (r : Int)) = x ∧ ∀ r ∈ nats x, r < 2 * G.nodes.length := by
  unfold badIn at h
  rw [List.any_eq_false] at h
  have h1 : ∀ r ∈ x, 0 ≤ r ∧ r < 2 * G.nodes.length := fun r hr => by simpa [right] using h r hr
  clear h
  constructor
  · unfold nats
    rw [List.map_map]
    refine (List.map_congr_left (g := id) fun r hr => ?_).trans (List.map_id _)
    have := h1 r hr
    simp; omega
  · intro r hr
    obtain ⟨q, hq, rfl⟩ := List.mem_map.1 hr
    have := h1 q hq
    omega
structure ChkOk (G : Gra) (n : Nat) (x : List Int) : Prop where
  len : x.length = n
  r1 : 1 ≤ n
  r2 : n ≤ 17
  cast : (nats x).map (fun (r : Nat) => (r : Int)) = x
  lt : ∀ r ∈ nats x, r < 2 * G.nodes.length
theorem chk_ok {G : Gra} {x0 : List Int} {ws : List (List Int)} (h : chk G (x0 :: ws) = 0) : ∀ x ∈ x0 :: ws, ChkOk G x0.length x := by
  unfold chk at h
  split at h
  · cases h
  · rename_i h1
    split at h
    · cases h
    · rename_i h2
      intro x hx
      have h3 : badAs x0.length x = false := by
        have := List.any_eq_false.1 (by simpa using h1) x hx
        simpa using this
      have h4 : badIn G x = false := by
        have := List.any_eq_false.1 (by simpa using h2) x hx
        simpa using this
      unfold badAs rightW at h3
      simp at h3
      obtain ⟨⟨a1, a2⟩, a3⟩ := h3
      obtain ⟨b1, b2⟩ := badIn_no h4
      exact ⟨by omega, by omega, by omega, b1, b2⟩
theorem chk_small (G : Gra) (ws : List (List Int)) : chk G ws ≤ 230 := by unfold chk; split; omega; split <;> omega
end Go.Aig
namespace Go.Proofs.YtchledddgmbndaaGreat
open Go.RowKit Go.Mem Go.Aig
theorem calls_named {P : Program} {f : FuncId} {args : Array Value} {w : World} {R : Ending → World → Prop} (h : ∀ W, W = w → Calls P f args W R) : Calls P f args w R := h w rfl
/-- a word that goes in: apart from the graph's blocks -/
structure WVin (w : World) (F : List Nat) (x : WV) : Prop where
  ok : WVok w x
  apart : ∀ k ∈ ablk x.a, k ∉ F ∧ k < w.heap.size
theorem WVin.ch {w w' : World} {F : List Nat} {x : WV} (h : WVin w F x) (hc : Ch [] w w') : WVin w' F x := ⟨h.ok.ch hc (by simp), fun k hk => ⟨(h.apart k hk).1, Nat.lt_of_lt_of_le (h.apart k hk).2 hc.size⟩⟩
theorem GVo.since {w w1 w' : World} {g : Nat} {G : Gra} {X F : List Nat} {v : Value} {l : List Nat} (hc : Ch [] w w1) (h : GVo w1 g G X F v l w') : GVo w g G X F v l w' := by
  obtain ⟨F', h1, h2, h3, h4, h5, h6⟩ := h
  exact ⟨F', h1, (hc.mono (by simp)).trans h2 (fun k hk => .inl hk), fun k hk => (h3 k hk).imp id (fun e => Nat.le_trans hc.size e), h4, h5, fun k hk => ⟨Nat.le_trans hc.size (h6 k hk).1, (h6 k hk).2⟩⟩
theorem GTo.since {w w1 w' : World} {g : Nat} {G : Gra} {F : List Nat} (hc : Ch [] w w1) (h : GTo w1 g G F w') : GTo w g G F w' := by
  obtain ⟨F', h1, h2, h3, h4⟩ := h
  exact ⟨F', h1, (hc.mono (by simp)).trans h2 (fun k hk => .inl hk), fun k hk => (h3 k hk).imp id (fun e => Nat.le_trans hc.size e), h4⟩
theorem GVo.none {w w' : World} {g : Nat} {G : Gra} {F : List Nat} (h : GIn w g G F) (hc : Ch [] w w') : GVo w g G [] F (.slice none 0 0) [] w' :=
  GVo.nil (F' := F) (h.same hc (by simp)) (hc.mono (by simp)) (fun _ hk => .inl hk) rfl
theorem chk2_at {w : World} {g : Nat} {G : Gra} {F : List Nat} (h : GIn w g G F) {b : Nat} {x y : WV} (hb : blk w b [x.val, y.val]) (hx : WVok w x) (hy : WVok w y) :
    Calls Tryz.prog 57 #[.pointer (some ⟨g, 0, none⟩), .slice (some ⟨b, 0, none⟩) 2 2] w fun e w' => e = .returned (.int .i64 (chk G [x.l, y.l])) ∧ Ch [] w w' :=
  scheck_is h (ws := [x, y]) 2 2 rfl (by omega) (fun i z hz => by
    rcases i with _ | _ | i
    · cases hz; exact hb.cell rfl
    · cases hz; exact hb.cell rfl
    · cases hz) (fun z hz => by simp at hz; rcases hz with rfl | rfl; exact hx; exact hy)
theorem chk1_at {w : World} {g : Nat} {G : Gra} {F : List Nat} (h : GIn w g G F) {b : Nat} {x : WV} (hb : blk w b [x.val]) (hx : WVok w x) :
    Calls Tryz.prog 57 #[.pointer (some ⟨g, 0, none⟩), .slice (some ⟨b, 0, none⟩) 1 1] w fun e w' => e = .returned (.int .i64 (chk G [x.l])) ∧ Ch [] w w' :=
  scheck_is h (ws := [x]) 1 1 rfl (by omega) (fun i z hz => by
    rcases i with _ | i
    · cases hz; exact hb.cell rfl
    · cases hz) (fun z hz => by simp at hz; subst hz; exact hx)
section
variable {w : World} {g : Nat} {G : Gra} {F : List Nat}
set_option maxRecDepth 100000 in
set_option maxHeartbeats 2000000 in
theorem seach_is (h : GIn w g G F) {x y : WV} (hx : WVin w F x) (hy : WVin w F y) (f : Gra → Nat → Nat → Res) (hfull : Full2 f) (fid : Nat) (hfn : Fnv fid)
    (hf : ∀ W G' F' (a b : Nat), GIn W g G' F' → a < 2 * G'.nodes.length → b < 2 * G'.nodes.length → Calls Tryz.prog fid #[.pointer (some ⟨g, 0, none⟩), .int .i64 a, .int .i64 b] W fun e w' => e = .returned (.tuple #[.int .i64 (f G' a b).2.1, .int .i64 (f G' a b).2.2]) ∧ GTo W g (f G' a b).1 F' w') :
    Calls Tryz.prog 64 #[.pointer (some ⟨g, 0, none⟩), x.val, y.val, .func (.func fid) #[.pointer (some ⟨g, 0, none⟩)] #[]] w fun e w' => ∃ v, e = .returned (.tuple #[v, .int .i64 (wordG G [x.l, y.l] (eachF (rop f) (G, 0) ((nats x.l).zip (nats y.l)))).2.2]) ∧ GVo w g (wordG G [x.l, y.l] (eachF (rop f) (G, 0) ((nats x.l).zip (nats y.l)))).1 [] F v (wordG G [x.l, y.l] (eachF (rop f) (G, 0) ((nats x.l).zip (nats y.l)))).2.1 w' := by
  have hFl := h.lt
  have hxlen := hx.ok.len
  have hylen := hy.ok.len
  obtain ⟨xa, xl, xc⟩ := x
  obtain ⟨ya, yl, yc⟩ := y
  simp only [WV.val] at *
  unfold wordG
  have hch := chk_ok (G := G) (x0 := xl) (ws := [yl])
  have hcs := chk_small G [xl, yl]
  generalize hR : eachF (rop f) (G, 0) ((nats xl).zip (nats yl)) = R
  generalize hc : chk G [xl, yl] = cc at *
  have hC : ∀ W, Ch [] w W → ∀ b, blk W b [.slice xa xl.length xc, .slice ya yl.length yc] → Calls Tryz.prog 57 #[.pointer (some ⟨g, 0, none⟩), .slice (some ⟨b, 0, none⟩) 2 2] W fun e w' => e = .returned (.int .i64 cc) ∧ Ch [] W w' := fun W hW b hb => by
    have := chk2_at (h.same hW (by simp)) (x := ⟨xa, xl, xc⟩) (y := ⟨ya, yl, yc⟩) hb (hx.ch hW).ok (hy.ch hW).ok
    rw [hc] at this
    exact this
  have HC := Lib.hid hC; clear hC
  have HCC := Lib.hid hc; clear hc
  have HX := Lib.hid hx; clear hx
  have HY := Lib.hid hy; clear hy
  have H := Lib.hid h; clear h
  have HCH := Lib.hid hch; clear hch
  have HF := Lib.hid hf; clear hf
  generalize hWW : (if cc ≠ 0 then (G, [], cc) else wres G R : Gra × List Nat × Nat) = WW
  have HWW := Lib.hid hWW; clear hWW
  have HR := Lib.hid hR; clear hR
  go_enter Tryz.func64, Tryz.ntmps64
  go_wp2_with fail
  refine calls_named fun W0 hW0 => ?_
  have hc0 : Ch [] w W0 := by rw [hW0]; exact ((((Ch.refl _ _).alloc _).alloc _).alloc _).alloc _
  have hbx : blk W0 w.heap.size [.slice xa xl.length xc] := by rw [hW0]; exact (((blk.new' _ _ (by simp)).alloc _).alloc _).alloc _
  have hby : blk W0 (w.heap.size + 1) [.slice ya yl.length yc] := by rw [hW0]; exact ((blk.new' _ _ (by simp)).alloc _).alloc _
  have hbf : blk W0 (w.heap.size + 2) [.func (.func fid) #[.pointer (some ⟨g, 0, none⟩)] #[]] := by rw [hW0]; exact (blk.new' _ _ (by simp)).alloc _
  have hbl : blk W0 (w.heap.size + 3) [.slice xa xl.length xc, .slice ya yl.length yc] := by rw [hW0]; exact blk.new' _ _ (by simp)
  clear hW0
  refine (HC.out W0 hc0 _ hbl).mono ?_
  rintro e w1 ⟨rfl, hc1⟩
  have hc01 := hc0.trans hc1 (by simp)
  have hbx1 := hbx.ch hc1 (by simp)
  have hby1 := hby.ch hc1 (by simp)
  have hbf1 := hbf.ch hc1 (by simp)
  have HC01 := Lib.hid hc01; clear hc01
  have HBX := Lib.hid hbx1; clear hbx1
  have HBY := Lib.hid hby1; clear hby1
  have HBF := Lib.hid hbf1; clear hbf1
  clear hbx hby hbf hbl hc0 hc1
  by_cases hcc : cc = 0
  · subst hcc
    obtain ⟨h1, h2⟩ : (∃ _ : ChkOk G xl.length xl, ChkOk G xl.length yl) := ⟨HCH.out rfl xl (by simp), HCH.out rfl yl (by simp)⟩
    have hB := sbuildW_is (H.out.same HC01.out (by simp)) 113 #[.pointer (some ⟨w.heap.size, 0, none⟩), .pointer (some ⟨w.heap.size + 1, 0, none⟩), .pointer (some ⟨w.heap.size + 2, 0, none⟩)] fnvseach1 (eachF (rop f) (G, 0) ((nats xl).zip (nats yl))) [] (fun W m hm hW hM => by
      have hz1 := HC01.out.size
      have hall : Ch [] w W := HC01.out.trans hW (by simp)
      have hbfl := HBF.out.lt
      refine seach1_is hM f hfull fid hfn HF.out (x := nats xl) (y := nats yl) (xa := xa) (ya := ya) xl.length xc yc (by simp) (by simp [h2.len]) (by have := h1.r2; omega) ((HBX.out.ch hW (by simp)).cell (i := 0) rfl) (by
        have := (HBY.out.ch hW (by simp)).cell (i := 0) rfl
        rw [h2.len] at this
        exact this) ((HBF.out.ch hW (by simp)).cell (i := 0) rfl) (fun hk => by
        simp only [List.mem_cons] at hk
        rcases hk with e | e
        · omega
        · have := hFl _ e; omega) (by rw [h1.cast]; exact (HX.out.ok.sl.ch hall (by simp))) (by rw [h2.cast]; exact (HY.out.ok.sl.ch hall (by simp))) (fun k hk => ?_) (fun k hk => ?_) h1.lt h2.lt
      · have := HX.out.apart k hk
        refine ⟨fun hk2 => ?_, by have := hall.size; omega⟩
        simp only [List.mem_cons] at hk2
        rcases hk2 with e | e
        · omega
        · exact this.1 e
      · have := HY.out.apart k hk
        refine ⟨fun hk2 => ?_, by have := hall.size; omega⟩
        simp only [List.mem_cons] at hk2
        rcases hk2 with e | e
        · omega
        · exact this.1 e)
    rw [HR.out] at hB
    have hww := HWW.out
    rw [if_neg (by simp)] at hww
    rw [hww] at hB
    have HB := Lib.hid hB; clear hB
    clear hww h1 h2
    go_wp2_with fail
    refine HB.out.mono ?_
    rintro e w2 ⟨v, rfl, hg⟩
    have HG := Lib.hid hg; clear hg
    go_wp2_with fail
    go_ret2
    exact ⟨v, rfl, GVo.since HC01.out HG.out⟩
  · have hww := HWW.out
    rw [if_pos (by simpa using hcc)] at hww
    subst hww
    have hq : ((cc : Int) != 0) = true := by simp; omega
    have HQ := Lib.hid hcc; clear hcc
    go_wp2_with fail
    go_ret2
    exact ⟨_, rfl, GVo.none H.out HC01.out⟩
end
end Go.Proofs.YtchledddgmbndaaGreat
namespace Go.Aig
def sumW (n : Nat) (s : Mk) (l : List (Nat × Nat)) (c : Nat) : Mk × List Nat := ((sumF n s l c).1, (sumF n s l c).2.1)
end Go.Aig
namespace Go.Proofs.YtchledddgmbndaaGreat
open Go.RowKit Go.Mem Go.Aig
section
variable {w : World} {g : Nat} {G : Gra} {F : List Nat}
set_option maxRecDepth 100000 in
set_option maxHeartbeats 2000000 in
theorem sAnd_is (h : GIn w g G F) {x y : WV} (hx : WVin w F x) (hy : WVin w F y) :
    Calls Tryz.prog 47 #[.pointer (some ⟨g, 0, none⟩), x.val, y.val] w fun e w' => ∃ v, e = .returned (.tuple #[v, .int .i64 (wordG G [x.l, y.l] (eachF (rop and) (G, 0) ((nats x.l).zip (nats y.l)))).2.2]) ∧ GVo w g (wordG G [x.l, y.l] (eachF (rop and) (G, 0) ((nats x.l).zip (nats y.l)))).1 [] F v (wordG G [x.l, y.l] (eachF (rop and) (G, 0) ((nats x.l).zip (nats y.l)))).2.1 w' := by
  have HE := seach_is h hx hy and full_and 26 (fnv_of Tryz.func26 (by simp [Tryz.f26]) (by simp [Tryz.f26])) (fun W G' F' a b h ha hb => And_r h ha hb)
  generalize wordG G [x.l, y.l] (eachF (rop and) (G, 0) ((nats x.l).zip (nats y.l))) = R at *
  obtain ⟨xa, xl, xc⟩ := x
  obtain ⟨ya, yl, yc⟩ := y
  simp only [WV.val] at *
  clear hx hy h
  go_enter Tryz.func47, Tryz.ntmps47
  go_wp2_with fail
  refine HE.mono ?_
  rintro e w1 ⟨v, rfl, hg⟩
  have HG := Lib.hid hg; clear hg
  go_wp2_with fail
  go_ret2
  exact ⟨v, rfl, HG.out⟩
set_option maxRecDepth 100000 in
set_option maxHeartbeats 2000000 in
theorem sOr_is (h : GIn w g G F) {x y : WV} (hx : WVin w F x) (hy : WVin w F y) :
    Calls Tryz.prog 48 #[.pointer (some ⟨g, 0, none⟩), x.val, y.val] w fun e w' => ∃ v, e = .returned (.tuple #[v, .int .i64 (wordG G [x.l, y.l] (eachF (rop rOr) (G, 0) ((nats x.l).zip (nats y.l)))).2.2]) ∧ GVo w g (wordG G [x.l, y.l] (eachF (rop rOr) (G, 0) ((nats x.l).zip (nats y.l)))).1 [] F v (wordG G [x.l, y.l] (eachF (rop rOr) (G, 0) ((nats x.l).zip (nats y.l)))).2.1 w' := by
  have HE := seach_is h hx hy rOr full_or 88 (fnv_of Tryz.func88 (by simp [Tryz.f88]) (by simp [Tryz.f88])) (fun W G' F' a b h ha hb => Or_r h ha hb)
  generalize wordG G [x.l, y.l] (eachF (rop rOr) (G, 0) ((nats x.l).zip (nats y.l))) = R at *
  obtain ⟨xa, xl, xc⟩ := x
  obtain ⟨ya, yl, yc⟩ := y
  simp only [WV.val] at *
  clear hx hy h
  go_enter Tryz.func48, Tryz.ntmps48
  go_wp2_with fail
  refine HE.mono ?_
  rintro e w1 ⟨v, rfl, hg⟩
  have HG := Lib.hid hg; clear hg
  go_wp2_with fail
  go_ret2
  exact ⟨v, rfl, HG.out⟩
set_option maxRecDepth 100000 in
set_option maxHeartbeats 2000000 in
theorem sXor_is (h : GIn w g G F) {x y : WV} (hx : WVin w F x) (hy : WVin w F y) :
    Calls Tryz.prog 21 #[.pointer (some ⟨g, 0, none⟩), x.val, y.val] w fun e w' => ∃ v, e = .returned (.tuple #[v, .int .i64 (wordG G [x.l, y.l] (eachF (rop rXor) (G, 0) ((nats x.l).zip (nats y.l)))).2.2]) ∧ GVo w g (wordG G [x.l, y.l] (eachF (rop rXor) (G, 0) ((nats x.l).zip (nats y.l)))).1 [] F v (wordG G [x.l, y.l] (eachF (rop rXor) (G, 0) ((nats x.l).zip (nats y.l)))).2.1 w' := by
  have HE := seach_is h hx hy rXor full_xor 65 (fnv_of Tryz.func65 (by simp [Tryz.f65]) (by simp [Tryz.f65])) (fun W G' F' a b h ha hb => Xor_r h ha hb)
  generalize wordG G [x.l, y.l] (eachF (rop rXor) (G, 0) ((nats x.l).zip (nats y.l))) = R at *
  obtain ⟨xa, xl, xc⟩ := x
  obtain ⟨ya, yl, yc⟩ := y
  simp only [WV.val] at *
  clear hx hy h
  go_enter Tryz.func21, Tryz.ntmps21
  go_wp2_with fail
  refine HE.mono ?_
  rintro e w1 ⟨v, rfl, hg⟩
  have HG := Lib.hid hg; clear hg
  go_wp2_with fail
  go_ret2
  exact ⟨v, rfl, HG.out⟩
set_option maxRecDepth 100000 in
set_option maxHeartbeats 2000000 in
theorem sNe_is (h : GIn w g G F) {x y : WV} (hx : WVin w F x) (hy : WVin w F y) :
    Calls Tryz.prog 50 #[.pointer (some ⟨g, 0, none⟩), x.val, y.val] w fun e w' => e = .returned (.tuple #[.int .i64 (refG G [x.l, y.l] (neF (G, 0) ((nats x.l).zip (nats y.l)))).2.1, .int .i64 (refG G [x.l, y.l] (neF (G, 0) ((nats x.l).zip (nats y.l)))).2.2]) ∧ GTo w g (refG G [x.l, y.l] (neF (G, 0) ((nats x.l).zip (nats y.l)))).1 F w' := by
  have hFl := h.lt
  have hxlen := hx.ok.len
  have hylen := hy.ok.len
  obtain ⟨xa, xl, xc⟩ := x
  obtain ⟨ya, yl, yc⟩ := y
  simp only [WV.val] at *
  unfold refG
  have hch := chk_ok (G := G) (x0 := xl) (ws := [yl])
  have hcs := chk_small G [xl, yl]
  generalize hR : neF (G, 0) ((nats xl).zip (nats yl)) = R
  generalize hc : chk G [xl, yl] = cc at *
  have hC : ∀ W, Ch [] w W → ∀ b, blk W b [.slice xa xl.length xc, .slice ya yl.length yc] → Calls Tryz.prog 57 #[.pointer (some ⟨g, 0, none⟩), .slice (some ⟨b, 0, none⟩) 2 2] W fun e w' => e = .returned (.int .i64 cc) ∧ Ch [] W w' := fun W hW b hb => by
    have := chk2_at (h.same hW (by simp)) (x := ⟨xa, xl, xc⟩) (y := ⟨ya, yl, yc⟩) hb (hx.ch hW).ok (hy.ch hW).ok
    rw [hc] at this
    exact this
  have HC := Lib.hid hC; clear hC
  have HCC := Lib.hid hc; clear hc
  have HX := Lib.hid hx; clear hx
  have HY := Lib.hid hy; clear hy
  have H := Lib.hid h; clear h
  have HCH := Lib.hid hch; clear hch
  generalize hWW : (if cc ≠ 0 then (G, 0, cc) else rres G R : Res) = WW
  have HWW := Lib.hid hWW; clear hWW
  have HR := Lib.hid hR; clear hR
  go_enter Tryz.func50, Tryz.ntmps50
  go_wp2_with fail
  refine calls_named fun W0 hW0 => ?_
  have hc0 : Ch [] w W0 := by rw [hW0]; exact ((((Ch.refl _ _).alloc _).alloc _).alloc _).alloc _
  have hbg : blk W0 w.heap.size [.pointer (some ⟨g, 0, none⟩)] := by rw [hW0]; exact (((blk.new' _ _ (by simp)).alloc _).alloc _).alloc _
  have hbx : blk W0 (w.heap.size + 1) [.slice xa xl.length xc] := by rw [hW0]; exact ((blk.new' _ _ (by simp)).alloc _).alloc _
  have hby : blk W0 (w.heap.size + 2) [.slice ya yl.length yc] := by rw [hW0]; exact (blk.new' _ _ (by simp)).alloc _
  have hbl : blk W0 (w.heap.size + 3) [.slice xa xl.length xc, .slice ya yl.length yc] := by rw [hW0]; exact blk.new' _ _ (by simp)
  clear hW0
  refine (HC.out W0 hc0 _ hbl).mono ?_
  rintro e w1 ⟨rfl, hc1⟩
  have HC01 := Lib.hid (hc0.trans hc1 (by simp))
  replace hbg := hbg.ch hc1 (by simp)
  have hbg0 := hbg.cell (i := 0) rfl
  have HBG := Lib.hid hbg; clear hbg
  replace hbx := hbx.ch hc1 (by simp)
  have hbx0 := hbx.cell (i := 0) rfl
  have HBX := Lib.hid hbx; clear hbx
  replace hby := hby.ch hc1 (by simp)
  have hby0 := hby.cell (i := 0) rfl
  have HBY := Lib.hid hby; clear hby
  clear hbl hc0 hc1
  by_cases hcc : cc = 0
  · subst hcc
    obtain ⟨h1, h2⟩ : (∃ _ : ChkOk G xl.length xl, ChkOk G xl.length yl) := ⟨HCH.out rfl xl (by simp), HCH.out rfl yl (by simp)⟩
    have hww := HWW.out
    rw [if_neg (by simp)] at hww
    have hB := sbuildR_is (H.out.same HC01.out (by simp)) 89 #[.pointer (some ⟨w.heap.size + 1, 0, none⟩), .pointer (some ⟨w.heap.size + 2, 0, none⟩), .pointer (some ⟨w.heap.size, 0, none⟩)] fnvsNe1 (neF (G, 0) ((nats xl).zip (nats yl))) (fun W m hm hW hM => by
      have hz1 := HC01.out.size
      have hall : Ch [] w W := HC01.out.trans hW (by simp)
      have hbgl := HBG.out.lt
      refine sNe1_is hM (x := nats xl) (y := nats yl) (xa := xa) (ya := ya) xl.length xc yc (by simp) (by simp [h2.len]) (by have := h1.r2; omega) ((HBX.out.ch hW (by simp)).cell (i := 0) rfl) (by
        have := (HBY.out.ch hW (by simp)).cell (i := 0) rfl
        rw [h2.len] at this
        exact this) ((HBG.out.ch hW (by simp)).cell (i := 0) rfl) (fun hk => by
        simp only [List.mem_cons] at hk
        rcases hk with e | e
        · omega
        · have := hFl _ e; omega) (by rw [h1.cast]; exact (HX.out.ok.sl.ch hall (by simp))) (by rw [h2.cast]; exact (HY.out.ok.sl.ch hall (by simp))) (fun k hk => ?_) (fun k hk => ?_) h1.lt h2.lt
      · have := HX.out.apart k hk
        refine ⟨fun hk2 => ?_, by have := hall.size; omega⟩
        simp only [List.mem_cons] at hk2
        rcases hk2 with e | e
        · omega
        · exact this.1 e
      · have := HY.out.apart k hk
        refine ⟨fun hk2 => ?_, by have := hall.size; omega⟩
        simp only [List.mem_cons] at hk2
        rcases hk2 with e | e
        · omega
        · exact this.1 e)
    rw [HR.out, hww] at hB
    have HB := Lib.hid hB; clear hB
    clear hww h1 h2
    go_wp2_with fail
    refine HB.out.mono ?_
    rintro e w2 ⟨rfl, hg⟩
    have HG := Lib.hid hg; clear hg
    go_wp2_with fail
    go_ret2
    exact ⟨rfl, GTo.since HC01.out HG.out⟩
  · have hww := HWW.out
    rw [if_pos (by simpa using hcc)] at hww
    subst hww
    have hq : ((cc : Int) != 0) = true := by simp; omega
    have HQ := Lib.hid hcc; clear hcc
    go_wp2_with fail
    go_ret2
    exact ⟨rfl, GTo.same H.out HC01.out⟩
set_option maxRecDepth 100000 in
set_option maxHeartbeats 2000000 in
theorem sLt_is (h : GIn w g G F) {x y : WV} (hx : WVin w F x) (hy : WVin w F y) :
    Calls Tryz.prog 23 #[.pointer (some ⟨g, 0, none⟩), x.val, y.val] w fun e w' => e = .returned (.tuple #[.int .i64 (refG G [x.l, y.l] (ltF (G, 0) ((nats x.l).zip (nats y.l)))).2.1, .int .i64 (refG G [x.l, y.l] (ltF (G, 0) ((nats x.l).zip (nats y.l)))).2.2]) ∧ GTo w g (refG G [x.l, y.l] (ltF (G, 0) ((nats x.l).zip (nats y.l)))).1 F w' := by
  have hFl := h.lt
  have hxlen := hx.ok.len
  have hylen := hy.ok.len
  obtain ⟨xa, xl, xc⟩ := x
  obtain ⟨ya, yl, yc⟩ := y
  simp only [WV.val] at *
  unfold refG
  have hch := chk_ok (G := G) (x0 := xl) (ws := [yl])
  have hcs := chk_small G [xl, yl]
  generalize hR : ltF (G, 0) ((nats xl).zip (nats yl)) = R
  generalize hc : chk G [xl, yl] = cc at *
  have hC : ∀ W, Ch [] w W → ∀ b, blk W b [.slice xa xl.length xc, .slice ya yl.length yc] → Calls Tryz.prog 57 #[.pointer (some ⟨g, 0, none⟩), .slice (some ⟨b, 0, none⟩) 2 2] W fun e w' => e = .returned (.int .i64 cc) ∧ Ch [] W w' := fun W hW b hb => by
    have := chk2_at (h.same hW (by simp)) (x := ⟨xa, xl, xc⟩) (y := ⟨ya, yl, yc⟩) hb (hx.ch hW).ok (hy.ch hW).ok
    rw [hc] at this
    exact this
  have HC := Lib.hid hC; clear hC
  have HCC := Lib.hid hc; clear hc
  have HX := Lib.hid hx; clear hx
  have HY := Lib.hid hy; clear hy
  have H := Lib.hid h; clear h
  have HCH := Lib.hid hch; clear hch
  generalize hWW : (if cc ≠ 0 then (G, 0, cc) else rres G R : Res) = WW
  have HWW := Lib.hid hWW; clear hWW
  have HR := Lib.hid hR; clear hR
  go_enter Tryz.func23, Tryz.ntmps23
  go_wp2_with fail
  refine calls_named fun W0 hW0 => ?_
  have hc0 : Ch [] w W0 := by rw [hW0]; exact (((Ch.refl _ _).alloc _).alloc _).alloc _
  have hbx : blk W0 w.heap.size [.slice xa xl.length xc] := by rw [hW0]; exact ((blk.new' _ _ (by simp)).alloc _).alloc _
  have hby : blk W0 (w.heap.size + 1) [.slice ya yl.length yc] := by rw [hW0]; exact (blk.new' _ _ (by simp)).alloc _
  have hbl : blk W0 (w.heap.size + 2) [.slice xa xl.length xc, .slice ya yl.length yc] := by rw [hW0]; exact blk.new' _ _ (by simp)
  clear hW0
  refine (HC.out W0 hc0 _ hbl).mono ?_
  rintro e w1 ⟨rfl, hc1⟩
  have HC01 := Lib.hid (hc0.trans hc1 (by simp))
  replace hbx := hbx.ch hc1 (by simp)
  have hbx0 := hbx.cell (i := 0) rfl
  have HBX := Lib.hid hbx; clear hbx
  replace hby := hby.ch hc1 (by simp)
  have hby0 := hby.cell (i := 0) rfl
  have HBY := Lib.hid hby; clear hby
  clear hbl hc0 hc1
  by_cases hcc : cc = 0
  · subst hcc
    obtain ⟨h1, h2⟩ : (∃ _ : ChkOk G xl.length xl, ChkOk G xl.length yl) := ⟨HCH.out rfl xl (by simp), HCH.out rfl yl (by simp)⟩
    have hww := HWW.out
    rw [if_neg (by simp)] at hww
    have hB := sbuildR_is (H.out.same HC01.out (by simp)) 69 #[.pointer (some ⟨w.heap.size, 0, none⟩), .pointer (some ⟨w.heap.size + 1, 0, none⟩)] fnvsLt1 (ltF (G, 0) ((nats xl).zip (nats yl))) (fun W m hm hW hM => by
      have hz1 := HC01.out.size
      have hall : Ch [] w W := HC01.out.trans hW (by simp)
      refine sLt1_is hM (x := nats xl) (y := nats yl) (xa := xa) (ya := ya) xl.length xc yc (by simp) (by simp [h2.len]) ((HBX.out.ch hW (by simp)).cell (i := 0) rfl) (by
        have := (HBY.out.ch hW (by simp)).cell (i := 0) rfl
        rw [h2.len] at this
        exact this) (by rw [h1.cast]; exact (HX.out.ok.sl.ch hall (by simp))) (by rw [h2.cast]; exact (HY.out.ok.sl.ch hall (by simp))) (fun k hk => ?_) (fun k hk => ?_) h1.lt h2.lt
      · have := HX.out.apart k hk
        refine ⟨fun hk2 => ?_, by have := hall.size; omega⟩
        simp only [List.mem_cons] at hk2
        rcases hk2 with e | e
        · omega
        · exact this.1 e
      · have := HY.out.apart k hk
        refine ⟨fun hk2 => ?_, by have := hall.size; omega⟩
        simp only [List.mem_cons] at hk2
        rcases hk2 with e | e
        · omega
        · exact this.1 e)
    rw [HR.out, hww] at hB
    have HB := Lib.hid hB; clear hB
    clear hww h1 h2
    go_wp2_with fail
    refine HB.out.mono ?_
    rintro e w2 ⟨rfl, hg⟩
    have HG := Lib.hid hg; clear hg
    go_wp2_with fail
    go_ret2
    exact ⟨rfl, GTo.since HC01.out HG.out⟩
  · have hww := HWW.out
    rw [if_pos (by simpa using hcc)] at hww
    subst hww
    have hq : ((cc : Int) != 0) = true := by simp; omega
    have HQ := Lib.hid hcc; clear hcc
    go_wp2_with fail
    go_ret2
    exact ⟨rfl, GTo.same H.out HC01.out⟩
end
end Go.Proofs.YtchledddgmbndaaGreat
namespace Go.Aig
/-- a state that is right -/
structure SOk (G : Gra) (s : Mk) : Prop where
  ok : Ok s.1
  ext : Ext G s.1
  err : s.2 = 0 ∨ s.2 = 201
theorem SOk.start {G : Gra} (h : Ok G) : SOk G (G, 0) := ⟨h, .refl _, .inl rfl⟩
theorem rstep_sok {G : Gra} {s : Mk} (h : SOk G s) {Y : Res} (hY : s.2 = 0 → RFull s.1 Y) : SOk G (rstep s Y).1 ∧ (rstep s Y).2 < 2 * (rstep s Y).1.1.nodes.length ∧ Ext s.1 (rstep s Y).1.1 := by
  have hp := h.ok.wf.pos
  by_cases h0 : s.2 = 0
  · have hF := hY h0
    by_cases h1 : Y.2.2 = 0
    · rw [rstep_ok h0 h1]
      exact ⟨⟨hF.ok.ok, h.ext.trans hF.ok.ext, .inl rfl⟩, hF.ok.lt, hF.ok.ext⟩
    · rw [rstep_no h0 h1, hF.keep h1]
      exact ⟨⟨h.ok, h.ext, .inr rfl⟩, by show 0 < 2 * s.1.nodes.length; omega, .refl _⟩
  · rw [rstep_bad h0]
    exact ⟨h, by show 0 < 2 * s.1.nodes.length; omega, .refl _⟩
/-- a state and a word that are right -/
structure LOk (G : Gra) (R : Mk × List Nat) : Prop where
  s : SOk G R.1
  lt : ∀ r ∈ R.2, r < 2 * R.1.1.nodes.length
structure VOk (G : Gra) (R : Mk × Nat) : Prop where
  s : SOk G R.1
  lt : R.2 < 2 * R.1.1.nodes.length
theorem LOk.snoc {G : Gra} {R : Mk × List Nat} (h : LOk G R) {s' : Mk} {r : Nat} (hs : SOk G s') (he : Ext R.1.1 s'.1) (hr : r < 2 * s'.1.nodes.length) : LOk G (s', R.2 ++ [r]) :=
  ⟨hs, fun q hq => by
    rcases List.mem_append.1 hq with hq | hq
    · exact he.lt (h.lt q hq)
    · rw [List.mem_singleton.1 hq]; exact hr⟩
theorem eachF_lok {G : Gra} (hG : Ok G) {f : Gra → Nat → Nat → Res} (hf : Full2 f) (l : List (Nat × Nat)) (hl : ∀ p ∈ l, p.1 < 2 * G.nodes.length ∧ p.2 < 2 * G.nodes.length) : LOk G (eachF (rop f) (G, 0) l) := by
  have : ∀ (l : List (Nat × Nat)) (q : Mk × List Nat), LOk G q → (∀ p ∈ l, p.1 < 2 * G.nodes.length ∧ p.2 < 2 * G.nodes.length) → LOk G (l.foldl (eachS (rop f)) q) := by
    intro l
    induction l with
    | nil => intro q h _; exact h
    | cons p l ih =>
      intro q h hl
      have hp := hl p (by simp)
      obtain ⟨h1, h2, h3⟩ := rstep_sok h.s (Y := f q.1.1 p.1 p.2) (fun _ => hf _ h.s.ok _ _ (h.s.ext.lt hp.1) (h.s.ext.lt hp.2))
      exact ih _ (h.snoc h1 h3 h2) (fun p hp => hl p (by simp [hp]))
  exact this l _ ⟨.start hG, by simp⟩ hl
theorem neF_vok {G : Gra} (hG : Ok G) (l : List (Nat × Nat)) (hl : ∀ p ∈ l, p.1 < 2 * G.nodes.length ∧ p.2 < 2 * G.nodes.length) : VOk G (neF (G, 0) l) := by
  have h := eachF_lok hG full_xor l hl
  obtain ⟨h1, h2, h3⟩ := rstep_sok h.s (Y := rAny (eachF (rop rXor) (G, 0) l).1.1 (eachF (rop rXor) (G, 0) l).2) (fun _ => rAny_full h.s.ok h.lt)
  exact ⟨h1, h2⟩
theorem ltF_vok {G : Gra} (hG : Ok G) (l : List (Nat × Nat)) (hl : ∀ p ∈ l, p.1 < 2 * G.nodes.length ∧ p.2 < 2 * G.nodes.length) : VOk G (ltF (G, 0) l) := by
  have : ∀ (l : List (Nat × Nat)) (q : Mk × Nat), VOk G q → (∀ p ∈ l, p.1 < 2 * G.nodes.length ∧ p.2 < 2 * G.nodes.length) → VOk G (l.foldl ltS q) := by
    intro l
    induction l with
    | nil => intro q h _; exact h
    | cons p l ih =>
      intro q h hl
      have hp := hl p (by simp)
      obtain ⟨h1, h2, h3⟩ := rstep_sok h.s (Y := rXor q.1.1 p.1 p.2) (fun _ => rXor_full h.s.ok (h.s.ext.lt hp.1) (h.s.ext.lt hp.2))
      obtain ⟨k1, k2, k3⟩ := rstep_sok h1 (Y := rMux (rstep q.1 (rXor q.1.1 p.1 p.2)).1.1 (rstep q.1 (rXor q.1.1 p.1 p.2)).2 p.2 q.2) (fun _ => rMux_full h1.ok h2 (h1.ext.lt hp.2) (h3.lt h.lt))
      exact ih _ ⟨k1, k2⟩ (fun p hp => hl p (by simp [hp]))
  exact this l _ ⟨.start hG, by have := hG.wf.pos; show 0 < 2 * G.nodes.length; omega⟩ hl
theorem inF_lok {G : Gra} (hG : Ok G) : ∀ n, LOk G (inF (G, 0) n)
  | 0 => ⟨.start hG, by intro r hr; cases hr⟩
  | n + 1 => by
    have h := inF_lok hG n
    obtain ⟨h1, h2, h3⟩ := rstep_sok h.s (Y := put (inF (G, 0) n).1.1 ⟨2, 0, 0, 0⟩) (fun _ => put_full h.s.ok)
    exact h.snoc h1 h3 h2
theorem sumF_lok {G : Gra} (hG : Ok G) (n : Nat) (l : List (Nat × Nat)) (hl : ∀ p ∈ l, p.1 < 2 * G.nodes.length ∧ p.2 < 2 * G.nodes.length) {c : Nat} (hc : c < 2 * G.nodes.length) : LOk G (sumW n (G, 0) l c) := by
  have : ∀ (l : List (Nat × Nat)) (q : Mk × List Nat × Nat), LOk G (q.1, q.2.1) → q.2.2 < 2 * q.1.1.nodes.length → (∀ p ∈ l, p.1 < 2 * G.nodes.length ∧ p.2 < 2 * G.nodes.length) → LOk G ((l.foldl (sumS n) q).1, (l.foldl (sumS n) q).2.1) := by
    intro l
    induction l with
    | nil => intro q h _ _; exact h
    | cons p l ih =>
      intro q h hq hl
      have hp := hl p (by simp)
      obtain ⟨h1, h2, h3⟩ := rstep_sok h.s (Y := rXor q.1.1 p.1 p.2) (fun _ => rXor_full h.s.ok (h.s.ext.lt hp.1) (h.s.ext.lt hp.2))
      obtain ⟨k1, k2, k3⟩ := rstep_sok h1 (Y := rXor (sXor q.1 p.1 p.2).1.1 (sXor q.1 p.1 p.2).2 q.2.2) (fun _ => rXor_full h1.ok h2 (h3.lt hq))
      have hl2 : ∀ p ∈ l, p.1 < 2 * G.nodes.length ∧ p.2 < 2 * G.nodes.length := fun p hp => hl p (by simp [hp])
      rw [List.foldl_cons]
      unfold sumS
      dsimp only
      split
      · obtain ⟨a1, a2, a3⟩ := rstep_sok k1 (Y := and (sXor (sXor q.1 p.1 p.2).1 (sXor q.1 p.1 p.2).2 q.2.2).1.1 p.1 p.2) (fun _ => and_full k1.ok (k1.ext.lt hp.1) (k1.ext.lt hp.2))
        obtain ⟨b1, b2, b3⟩ := rstep_sok a1 (Y := and (sAnd (sXor (sXor q.1 p.1 p.2).1 (sXor q.1 p.1 p.2).2 q.2.2).1 p.1 p.2).1.1 (sXor q.1 p.1 p.2).2 q.2.2) (fun _ => and_full a1.ok (a3.lt (k3.lt h2)) (a3.lt (k3.lt (h3.lt hq))))
        obtain ⟨c1, c2, c3⟩ := rstep_sok b1 (Y := rOr (sAnd (sAnd (sXor (sXor q.1 p.1 p.2).1 (sXor q.1 p.1 p.2).2 q.2.2).1 p.1 p.2).1 (sXor q.1 p.1 p.2).2 q.2.2).1.1 (sAnd (sXor (sXor q.1 p.1 p.2).1 (sXor q.1 p.1 p.2).2 q.2.2).1 p.1 p.2).2 (sAnd (sAnd (sXor (sXor q.1 p.1 p.2).1 (sXor q.1 p.1 p.2).2 q.2.2).1 p.1 p.2).1 (sXor q.1 p.1 p.2).2 q.2.2).2) (fun _ => rOr_full b1.ok (b3.lt a2) b2)
        exact ih _ (h.snoc c1 ((((h3.trans k3).trans a3).trans b3).trans c3) (((a3.trans b3).trans c3).lt k2)) c2 hl2
      · exact ih _ (h.snoc k1 (h3.trans k3) k2) (k3.lt (h3.lt hq)) hl2
  exact this l _ ⟨.start hG, by simp⟩ hc hl
/-- a result that is right -/
structure WOk (G : Gra) (R : Gra × List Nat × Nat) : Prop where
  ok : Ok R.1
  ext : Ext G R.1
  lt : ∀ r ∈ R.2.1, r < 2 * R.1.nodes.length
theorem LOk.res {G : Gra} (hG : Ok G) {R : Mk × List Nat} (h : LOk G R) : WOk G (wres G R) := by
  unfold wres
  split
  · exact ⟨hG, .refl _, by simp⟩
  · exact ⟨h.s.ok, h.s.ext, h.lt⟩
theorem VOk.res {G : Gra} (hG : Ok G) {R : Mk × Nat} (h : VOk G R) : Ok (rres G R).1 ∧ Ext G (rres G R).1 ∧ (rres G R).2.1 < 2 * (rres G R).1.nodes.length := by
  have := hG.wf.pos
  unfold rres
  split
  · exact ⟨hG, .refl _, by show 0 < 2 * G.nodes.length; omega⟩
  · exact ⟨h.s.ok, h.s.ext, h.lt⟩
theorem wordG_ok {G : Gra} (hG : Ok G) {ws : List (List Int)} {R : Mk × List Nat} (h : chk G ws = 0 → LOk G R) : WOk G (wordG G ws R) := by
  unfold wordG
  split
  · exact ⟨hG, .refl _, by simp⟩
  · rename_i hc
    exact (h (by simpa using hc)).res hG
theorem refG_ok {G : Gra} (hG : Ok G) {ws : List (List Int)} {R : Mk × Nat} (h : chk G ws = 0 → VOk G R) : Ok (refG G ws R).1 ∧ Ext G (refG G ws R).1 ∧ (refG G ws R).2.1 < 2 * (refG G ws R).1.nodes.length := by
  have := hG.wf.pos
  unfold refG
  split
  · exact ⟨hG, .refl _, by show 0 < 2 * G.nodes.length; omega⟩
  · rename_i hc
    exact (h (by simpa using hc)).res hG
theorem chk_zip {G : Gra} {x y : List Int} (h : chk G [x, y] = 0) : ∀ p ∈ (nats x).zip (nats y), p.1 < 2 * G.nodes.length ∧ p.2 < 2 * G.nodes.length :=
  zip_lt (chk_ok h x (by simp)).lt (chk_ok h y (by simp)).lt
theorem Ok.small {G : Gra} (h : Ok G) : 2 * G.nodes.length ≤ 131072 := by have := h.room; have := h.most; omega
/-- the negation of what is made -/
def negG (R : Res) : Res := if R.2.2 ≠ 0 then (R.1, 0, R.2.2) else (R.1, neg R.2.1, 0)
end Go.Aig
namespace Go.Proofs.YtchledddgmbndaaGreat
open Go.RowKit Go.Mem Go.Aig
section
variable {w : World} {g : Nat} {G : Gra} {F : List Nat}
set_option maxRecDepth 100000 in
set_option maxHeartbeats 2000000 in
theorem sturned_is {a : Option Addr} {l : List Nat} (n cap : Nat) (hn : l.length = n) (hm : n ≤ 1000000) (h : Sl w a (l.map fun (r : Nat) => (r : Int))) (hs : ∀ r ∈ l, r ≤ 1000000) : Calls Tryz.prog 67 #[.slice a n cap] w fun e w' => ∃ v, e = .returned v ∧ row w' 52 1 v n (refsCells (l.map neg)) ∧ (∀ q ∈ v.ownBlock.toList, w.heap.size ≤ q) ∧ Ch [] w w' := by
  subst hn
  have H := Lib.hid h; clear h
  go_enter Tryz.func67, Tryz.ntmps67
  go_wp2_with fail
  go_loopw [3, 8] (fun o i wr => ∃ k : Nat, k ≤ l.length ∧ i = .int .i64 k ∧ Ch [] w wr ∧ row wr 52 1 o k (refsCells ((l.take k).map neg)) ∧ ∀ q ∈ o.ownBlock.toList, w.heap.size ≤ q) (fun _ i _ => l.length - (intOf i).toNat)
  case atStart => exact ⟨0, by omega, rfl, Ch.refl _ _, ⟨rfl, .inl ⟨rfl, rfl⟩⟩, by simp⟩
  case round =>
    obtain ⟨k, hk, rfl, hc, hrow, hlo⟩ := hrel
    obtain ⟨oa, oc, rfl⟩ := row.shape hrow
    by_cases hlt : k < l.length
    · obtain ⟨x, hx⟩ : ∃ x, l[k]? = some x := ⟨_, List.getElem?_eq_getElem hlt⟩
      have hsu : refsCells ((l.take (k + 1)).map neg) = refsCells ((l.take k).map neg) ++ [.int .i64 (neg x)] := by unfold refsCells; rw [List.take_add_one, hx]; simp
      obtain ⟨xb, xo, rfl, hcl⟩ := H.out.cells k x (by simp [hx])
      have c0 := (hc.cell (cell_lt hcl) (by simp)).trans hcl
      have HN := Not_any x wr (hs x (List.mem_of_getElem? hx))
      have HSU := Lib.hid hsu; clear hsu hx hcl
      have hcA : Ch [] wr (wr.alloc (.cells #[.int .i64 (neg x)] 52)) := (Ch.refl _ _).alloc _
      have hrA := hrow.ch hcA (by simp)
      have hbA : blk (wr.alloc (.cells #[.int .i64 (neg x)] 52)) wr.heap.size [.int .i64 (neg x)] := blk.new' _ _ rfl
      have HRA := Lib.hid hrA; clear hrA hrow
      have HBA := Lib.hid hbA; clear hbA
      have HCA := Lib.hid hcA; clear hcA
      have HC := Lib.hid hc; clear hc
      have HLO := Lib.hid hlo; clear hlo
      go_wp2_with fail
      refine HN.mono ?_
      rintro e w2 ⟨rfl, rfl⟩
      go_wp2_with (at_builtin; go_loud (refine wpList_append_row slRefs rfl _ _ rfl (v := .slice oa k oc) (n := k) (xs := refsCells ((l.take k).map neg)) rfl HRA.out (ad := ⟨wr.heap.size, 0, none⟩) (m := 1) (c := 1) (news := [.int .i64 (neg x)]) rfl rfl (news_blk HBA.out) (by simp [Value.oneCell']) (by omega) (by omega) ?_; intro v' w4 hown4 hC4 hf4; have HO4 := Lib.hid hown4; clear hown4; have HC4 := Lib.hid hC4; clear hC4; have HF4 := Lib.hid hf4; clear hf4))
      go_roundw
      case rel =>
        obtain ⟨q1, q2⟩ := app_step HC.out HCA.out HLO.out HC4.out HF4.out
        refine ⟨k + 1, by omega, by go_num, q1, ?_, q2⟩
        rw [HSU.out]; exact HO4.out
      case measure => simp [intOf]; omega
    · have hkn : k = l.length := by omega
      rw [hkn, List.take_of_length_le (Nat.le_refl _)] at hrow
      rw [hkn] at hlo
      rw [hkn]
      have HROW := Lib.hid hrow; clear hrow
      have HLO := Lib.hid hlo; clear hlo
      have HC := Lib.hid hc; clear hc hkn
      go_wp2_with fail
      go_ret
      exact ⟨.slice oa l.length oc, rfl, HROW.out, HLO.out, HC.out⟩
set_option maxRecDepth 100000 in
set_option maxHeartbeats 2000000 in
theorem ssum_is (h : GIn w g G F) {x y : List Nat} {xa ya : Option Addr} {c0 : Nat} (len xc yc : Nat) (hxl : x.length = len) (hyl : y.length = len) (hlen : len ≤ 1000) (hc0 : c0 < 2 * G.nodes.length)
    (hx : Sl w xa (x.map fun (r : Nat) => (r : Int))) (hy : Sl w ya (y.map fun (r : Nat) => (r : Int))) (hxa : ∀ k ∈ ablk xa, k ∉ F ∧ k < w.heap.size) (hya : ∀ k ∈ ablk ya, k ∉ F ∧ k < w.heap.size) (hxr : ∀ r ∈ x, r < 2 * G.nodes.length) (hyr : ∀ r ∈ y, r < 2 * G.nodes.length) :
    Calls Tryz.prog 66 #[.pointer (some ⟨g, 0, none⟩), .slice xa len xc, .slice ya len yc, .int .i64 c0] w fun e w' => ∃ v, e = .returned (.tuple #[v, .int .i64 (wres G (sumW len (G, 0) (x.zip y) c0)).2.2]) ∧ GVo w g (wres G (sumW len (G, 0) (x.zip y) c0)).1 [] F v (wres G (sumW len (G, 0) (x.zip y) c0)).2.1 w' := by
  have hFl := h.lt
  have hB : ∀ W, Ch [] w W → W.heap.size = w.heap.size + 4 → blk W w.heap.size [.pointer (some ⟨g, 0, none⟩)] → blk W (w.heap.size + 1) [.slice xa len xc] → blk W (w.heap.size + 2) [.slice ya len yc] → blk W (w.heap.size + 3) [.int .i64 c0] →
      Calls Tryz.prog 60 #[.pointer (some ⟨g, 0, none⟩), .func (.func 116) #[] #[.pointer (some ⟨w.heap.size + 1, 0, none⟩), .pointer (some ⟨w.heap.size + 2, 0, none⟩), .pointer (some ⟨w.heap.size + 3, 0, none⟩), .pointer (some ⟨w.heap.size, 0, none⟩)]] W fun e w' => ∃ v, e = .returned (.tuple #[v, .int .i64 (wres G (sumW len (G, 0) (x.zip y) c0)).2.2]) ∧ GVo W g (wres G (sumW len (G, 0) (x.zip y) c0)).1 [w.heap.size + 3] F v (wres G (sumW len (G, 0) (x.zip y) c0)).2.1 w' := by
    intro W hW hz bg bx b2 bc
    refine sbuildW_is (h.same hW (by simp)) 116 _ fnvssum1 _ [w.heap.size + 3] (fun W2 m hm hW2 hM => ?_)
    have hall := hW.trans hW2 (by simp)
    have hz2 := hall.size
    have hnot : ∀ k, k < w.heap.size + 3 → k ∉ F → k ∉ m :: (w.heap.size + 3) :: F := fun k hk hkF => by
      simp only [List.mem_cons, not_or]
      exact ⟨by omega, by omega, hkF⟩
    refine ssum1_is hM (x := x) (y := y) (xa := xa) (ya := ya) len xc yc hxl hyl hlen ((bx.ch hW2 (by simp)).cell (i := 0) rfl) ((b2.ch hW2 (by simp)).cell (i := 0) rfl) (bc.ch hW2 (by simp)) ((bg.ch hW2 (by simp)).cell (i := 0) rfl) hc0 (hnot _ (by omega) (fun hk => by have := hFl _ hk; omega)) (hnot _ (by omega) (fun hk => by have := hFl _ hk; omega)) (fun hk => ?_) (hx.ch hall (by simp)) (hy.ch hall (by simp)) (fun k hk => ⟨hnot k (by have := (hxa k hk).2; omega) (hxa k hk).1, by have := (hxa k hk).2; omega⟩) (fun k hk => ⟨hnot k (by have := (hya k hk).2; omega) (hya k hk).1, by have := (hya k hk).2; omega⟩) hxr hyr
    simp only [List.mem_cons] at hk
    rcases hk with e | e
    · omega
    · have := hFl _ e; omega
  have HB := Lib.hid hB; clear hB
  generalize wres G (sumW len (G, 0) (x.zip y) c0) = R at *
  clear hx hy hxa hya hxr hyr h
  go_enter Tryz.func66, Tryz.ntmps66
  go_wp2_with fail
  refine calls_named fun W0 hW0 => ?_
  have hcW : Ch [] w W0 := by rw [hW0]; exact ((((Ch.refl _ _).alloc _).alloc _).alloc _).alloc _
  have hz : W0.heap.size = w.heap.size + 4 := by rw [hW0]; simp
  have hbg : blk W0 w.heap.size [.pointer (some ⟨g, 0, none⟩)] := by rw [hW0]; exact (((blk.new' _ _ (by simp)).alloc _).alloc _).alloc _
  have hbx : blk W0 (w.heap.size + 1) [.slice xa len xc] := by rw [hW0]; exact ((blk.new' _ _ (by simp)).alloc _).alloc _
  have hby : blk W0 (w.heap.size + 2) [.slice ya len yc] := by rw [hW0]; exact (blk.new' _ _ (by simp)).alloc _
  have hbc : blk W0 (w.heap.size + 3) [.int .i64 c0] := by rw [hW0]; exact blk.new' _ _ (by simp)
  clear hW0
  refine (HB.out W0 hcW hz hbg hbx hby hbc).mono ?_
  rintro e w1 ⟨v, rfl, hg⟩
  have HG := Lib.hid hg; clear hg
  have HCW := Lib.hid hcW; clear hcW
  go_wp2_with fail
  go_ret2
  obtain ⟨F', k1, k2, k3, k4, k5, k6⟩ := HG.out
  have hs := HCW.out.size
  exact ⟨v, rfl, F', k1, (HCW.out.mono (F' := F) (by simp)).trans k2 (fun k hk => by
    simp only [List.cons_append, List.nil_append, List.mem_cons] at hk
    rcases hk with e | e
    · right; omega
    · exact .inl e), fun k hk => (k3 k hk).imp id (fun e => by omega), k4, k5, fun k hk => ⟨by have := (k6 k hk).1; omega, (k6 k hk).2⟩⟩
set_option maxRecDepth 100000 in
set_option maxHeartbeats 2000000 in
theorem sAdd_is (h : GIn w g G F) {x y : WV} (hx : WVin w F x) (hy : WVin w F y) :
    Calls Tryz.prog 49 #[.pointer (some ⟨g, 0, none⟩), x.val, y.val] w fun e w' => ∃ v, e = .returned (.tuple #[v, .int .i64 (wordG G [x.l, y.l] (sumW x.l.length (G, 0) ((nats x.l).zip (nats y.l)) 0)).2.2]) ∧ GVo w g (wordG G [x.l, y.l] (sumW x.l.length (G, 0) ((nats x.l).zip (nats y.l)) 0)).1 [] F v (wordG G [x.l, y.l] (sumW x.l.length (G, 0) ((nats x.l).zip (nats y.l)) 0)).2.1 w' := by
  have hFl := h.lt
  have hxlen := hx.ok.len
  have hylen := hy.ok.len
  obtain ⟨xa, xl, xc⟩ := x
  obtain ⟨ya, yl, yc⟩ := y
  simp only [WV.val] at *
  unfold wordG
  have hch := chk_ok (G := G) (x0 := xl) (ws := [yl])
  have hcs := chk_small G [xl, yl]
  generalize hR : sumW xl.length (G, 0) ((nats xl).zip (nats yl)) 0 = R
  generalize hc : chk G [xl, yl] = cc at *
  have hC : ∀ W, Ch [] w W → ∀ b, blk W b [.slice xa xl.length xc, .slice ya yl.length yc] → Calls Tryz.prog 57 #[.pointer (some ⟨g, 0, none⟩), .slice (some ⟨b, 0, none⟩) 2 2] W fun e w' => e = .returned (.int .i64 cc) ∧ Ch [] W w' := fun W hW b hb => by
    have := chk2_at (h.same hW (by simp)) (x := ⟨xa, xl, xc⟩) (y := ⟨ya, yl, yc⟩) hb (hx.ch hW).ok (hy.ch hW).ok
    rw [hc] at this
    exact this
  have HC := Lib.hid hC; clear hC
  have HCC := Lib.hid hc; clear hc
  have HX := Lib.hid hx; clear hx
  have HY := Lib.hid hy; clear hy
  have H := Lib.hid h; clear h
  have HCH := Lib.hid hch; clear hch
  generalize hWW : (if cc ≠ 0 then (G, [], cc) else wres G R : Gra × List Nat × Nat) = WW
  have HWW := Lib.hid hWW; clear hWW
  have HR := Lib.hid hR; clear hR
  go_enter Tryz.func49, Tryz.ntmps49
  go_wp2_with fail
  refine calls_named fun W0 hW0 => ?_
  have hc0 : Ch [] w W0 := by rw [hW0]; exact (Ch.refl _ _).alloc _
  have hbl : blk W0 w.heap.size [.slice xa xl.length xc, .slice ya yl.length yc] := by rw [hW0]; exact blk.new' _ _ (by simp)
  clear hW0
  refine (HC.out W0 hc0 _ hbl).mono ?_
  rintro e w1 ⟨rfl, hc1⟩
  have HC01 := Lib.hid (hc0.trans hc1 (by simp))
  clear hbl hc0 hc1
  by_cases hcc : cc = 0
  · subst hcc
    obtain ⟨h1, h2⟩ : (∃ _ : ChkOk G xl.length xl, ChkOk G xl.length yl) := ⟨HCH.out rfl xl (by simp), HCH.out rfl yl (by simp)⟩
    have hww := HWW.out
    rw [if_neg (by simp)] at hww
    have hB := ssum_is (H.out.same HC01.out (by simp)) (x := nats xl) (y := nats yl) (xa := xa) (ya := ya) (c0 := 0) xl.length xc yc (by simp) (by simp [h2.len]) (by have := h1.r2; omega) (by have := H.out.ok.wf.pos; omega) (by rw [h1.cast]; exact (HX.out.ok.sl.ch HC01.out (by simp))) (by rw [h2.cast]; exact (HY.out.ok.sl.ch HC01.out (by simp))) (HX.out.ch HC01.out).apart (HY.out.ch HC01.out).apart h1.lt h2.lt
    rw [HR.out, hww] at hB
    have hB2 : Calls Tryz.prog 66 #[.pointer (some ⟨g, 0, none⟩), .slice xa xl.length xc, .slice ya yl.length yc, .int .i64 0] w1 fun e w' => ∃ v, e = .returned (.tuple #[v, .int .i64 WW.2.2]) ∧ GVo w1 g WW.1 [] F v WW.2.1 w' := by rw [h2.len]; exact hB
    have HB := Lib.hid hB2; clear hB hB2
    clear hww h1 h2 HX HY hxlen hylen HCH HC
    go_wp2_with fail
    refine HB.out.mono ?_
    rintro e w2 ⟨v, rfl, hg⟩
    have HG := Lib.hid hg; clear hg
    go_wp2_with fail
    go_ret2
    exact ⟨v, rfl, GVo.since HC01.out HG.out⟩
  · have hww := HWW.out
    rw [if_pos (by simpa using hcc)] at hww
    subst hww
    have hq : ((cc : Int) != 0) = true := by simp; omega
    have HQ := Lib.hid hcc; clear hcc
    go_wp2_with fail
    go_ret2
    exact ⟨_, rfl, GVo.none H.out HC01.out⟩
set_option maxRecDepth 100000 in
set_option maxHeartbeats 2000000 in
theorem sSub_is (h : GIn w g G F) {x y : WV} (hx : WVin w F x) (hy : WVin w F y) :
    Calls Tryz.prog 22 #[.pointer (some ⟨g, 0, none⟩), x.val, y.val] w fun e w' => ∃ v, e = .returned (.tuple #[v, .int .i64 (wordG G [x.l, y.l] (sumW x.l.length (G, 0) ((nats x.l).zip ((nats y.l).map neg)) 1)).2.2]) ∧ GVo w g (wordG G [x.l, y.l] (sumW x.l.length (G, 0) ((nats x.l).zip ((nats y.l).map neg)) 1)).1 [] F v (wordG G [x.l, y.l] (sumW x.l.length (G, 0) ((nats x.l).zip ((nats y.l).map neg)) 1)).2.1 w' := by
  have hFl := h.lt
  have hxlen := hx.ok.len
  have hylen := hy.ok.len
  obtain ⟨xa, xl, xc⟩ := x
  obtain ⟨ya, yl, yc⟩ := y
  simp only [WV.val] at *
  unfold wordG
  have hch := chk_ok (G := G) (x0 := xl) (ws := [yl])
  have hcs := chk_small G [xl, yl]
  generalize hR : sumW xl.length (G, 0) ((nats xl).zip ((nats yl).map neg)) 1 = R
  generalize hc : chk G [xl, yl] = cc at *
  have hC : ∀ W, Ch [] w W → ∀ b, blk W b [.slice xa xl.length xc, .slice ya yl.length yc] → Calls Tryz.prog 57 #[.pointer (some ⟨g, 0, none⟩), .slice (some ⟨b, 0, none⟩) 2 2] W fun e w' => e = .returned (.int .i64 cc) ∧ Ch [] W w' := fun W hW b hb => by
    have := chk2_at (h.same hW (by simp)) (x := ⟨xa, xl, xc⟩) (y := ⟨ya, yl, yc⟩) hb (hx.ch hW).ok (hy.ch hW).ok
    rw [hc] at this
    exact this
  have HC := Lib.hid hC; clear hC
  have HCC := Lib.hid hc; clear hc
  have HX := Lib.hid hx; clear hx
  have HY := Lib.hid hy; clear hy
  have H := Lib.hid h; clear h
  have HCH := Lib.hid hch; clear hch
  generalize hWW : (if cc ≠ 0 then (G, [], cc) else wres G R : Gra × List Nat × Nat) = WW
  have HWW := Lib.hid hWW; clear hWW
  have HR := Lib.hid hR; clear hR
  go_enter Tryz.func22, Tryz.ntmps22
  go_wp2_with fail
  refine calls_named fun W0 hW0 => ?_
  have hc0 : Ch [] w W0 := by rw [hW0]; exact (Ch.refl _ _).alloc _
  have hbl : blk W0 w.heap.size [.slice xa xl.length xc, .slice ya yl.length yc] := by rw [hW0]; exact blk.new' _ _ (by simp)
  clear hW0
  refine (HC.out W0 hc0 _ hbl).mono ?_
  rintro e w1 ⟨rfl, hc1⟩
  have HC01 := Lib.hid (hc0.trans hc1 (by simp))
  clear hbl hc0 hc1
  by_cases hcc : cc = 0
  · subst hcc
    obtain ⟨h1, h2⟩ : (∃ _ : ChkOk G xl.length xl, ChkOk G xl.length yl) := ⟨HCH.out rfl xl (by simp), HCH.out rfl yl (by simp)⟩
    have hww := HWW.out
    rw [if_neg (by simp)] at hww
    have hT := sturned_is (w := w1) (a := ya) (l := nats yl) yl.length yc (by simp) hylen (by rw [h2.cast]; exact (HY.out.ok.sl.ch HC01.out (by simp))) (fun r hr => by have := h2.lt r hr; have := H.out.ok.small; omega)
    have hyl := h2.len
    have H1 := Lib.hid h1; clear h1
    have H2 := Lib.hid h2; clear h2
    have HWR := Lib.hid hww; clear hww
    have HYL := Lib.hid hyl; clear hyl
    go_wp2_with fail
    refine hT.mono ?_
    rintro e w2 ⟨v, rfl, hrow, hlo, hc2⟩
    obtain ⟨ta, tc, rfl⟩ := row.shape hrow
    have hsl := Sl.of_row' hrow (by simp) hylen
    have hcc := HC01.out.trans hc2 (by simp)
    have hz01 := HC01.out.size
    have hB := ssum_is (H.out.same hcc (by simp)) (x := nats xl) (y := (nats yl).map neg) (xa := xa) (ya := ta) (c0 := 1) xl.length xc tc (by simp) (by simp [HYL.out]) (by have := H1.out.r2; omega) (by have := H.out.ok.wf.pos; omega) (by rw [H1.out.cast]; exact (HX.out.ok.sl.ch hcc (by simp))) hsl (HX.out.ch hcc).apart (fun k hk => by
      cases ta with
      | none => simp [ablk] at hk
      | some p =>
        simp only [ablk, List.mem_singleton] at hk
        subst hk
        have h1 := hlo p.block (by simp)
        have h2 := (hrow.lt p.block rfl).2
        exact ⟨fun hk => by have := hFl _ hk; omega, h2⟩) H1.out.lt (fun r hr => by
      obtain ⟨q, hq, rfl⟩ := List.mem_map.1 hr
      exact neg_lt (H2.out.lt q hq))
    rw [HR.out, HWR.out] at hB
    have hB2 : Calls Tryz.prog 66 #[.pointer (some ⟨g, 0, none⟩), .slice xa xl.length xc, .slice ta yl.length tc, .int .i64 1] w2 fun e w' => ∃ v, e = .returned (.tuple #[v, .int .i64 WW.2.2]) ∧ GVo w2 g WW.1 [] F v WW.2.1 w' := by rw [HYL.out]; exact hB
    have HB := Lib.hid hB2; clear hB hB2
    have HCC := Lib.hid hcc; clear hcc
    clear hrow hlo hc2 hsl hT
    go_wp2_with fail
    refine HB.out.mono ?_
    rintro e w3 ⟨v, rfl, hg⟩
    have HG := Lib.hid hg; clear hg
    go_wp2_with fail
    go_ret2
    exact ⟨v, rfl, GVo.since HCC.out HG.out⟩
  · have hww := HWW.out
    rw [if_pos (by simpa using hcc)] at hww
    subst hww
    have hq : ((cc : Int) != 0) = true := by simp; omega
    have HQ := Lib.hid hcc; clear hcc
    go_wp2_with fail
    go_ret2
    exact ⟨_, rfl, GVo.none H.out HC01.out⟩
end
end Go.Proofs.YtchledddgmbndaaGreat
namespace Go.Aig
/-- the difference -/
def subG (G : Gra) (x y : List Int) : Gra × List Nat × Nat := wordG G [x, y] (sumW x.length (G, 0) ((nats x).zip ((nats y).map neg)) 1)
end Go.Aig
namespace Go.Proofs.YtchledddgmbndaaGreat
open Go.RowKit Go.Mem Go.Aig
section
variable {w : World} {g : Nat} {G : Gra} {F : List Nat}
set_option maxRecDepth 100000 in
set_option maxHeartbeats 2000000 in
theorem sEq_is (h : GIn w g G F) {x y : WV} (hx : WVin w F x) (hy : WVin w F y) :
    Calls Tryz.prog 25 #[.pointer (some ⟨g, 0, none⟩), x.val, y.val] w fun e w' => e = .returned (.tuple #[.int .i64 (negG (refG G [x.l, y.l] (neF (G, 0) ((nats x.l).zip (nats y.l))))).2.1, .int .i64 (negG (refG G [x.l, y.l] (neF (G, 0) ((nats x.l).zip (nats y.l))))).2.2]) ∧ GTo w g (negG (refG G [x.l, y.l] (neF (G, 0) ((nats x.l).zip (nats y.l))))).1 F w' := by
  have HE := sNe_is h hx hy
  have hlt : (refG G [x.l, y.l] (neF (G, 0) ((nats x.l).zip (nats y.l)))).2.1 ≤ 1000000 := by
    have h1 := refG_ok h.ok (ws := [x.l, y.l]) (R := neF (G, 0) ((nats x.l).zip (nats y.l))) (fun hc => neF_vok h.ok _ (chk_zip hc))
    have := h1.1.small
    omega
  generalize refG G [x.l, y.l] (neF (G, 0) ((nats x.l).zip (nats y.l))) = R at *
  obtain ⟨xa, xl, xc⟩ := x
  obtain ⟨ya, yl, yc⟩ := y
  simp only [WV.val] at *
  clear hx hy h
  have HN := fun W => Not_any R.2.1 W hlt
  unfold negG
  by_cases he : R.2.2 = 0
  · have hE := HE.mono (R' := fun e w' => e = .returned (.tuple #[.int .i64 R.2.1, .int .i64 0]) ∧ GTo w g R.1 F w') (by rintro e w' ⟨rfl, hg⟩; exact ⟨by rw [he]; rfl, hg⟩)
    rw [if_neg (by simp [he])]
    have HEE := Lib.hid he; clear he HE
    go_enter Tryz.func25, Tryz.ntmps25
    go_wp2_with fail
    refine hE.mono ?_
    rintro e w1 ⟨rfl, hg⟩
    have HG := Lib.hid hg; clear hg
    go_wp2_with fail
    refine (HN _).mono ?_
    rintro e w2 ⟨rfl, rfl⟩
    go_wp2_with fail
    go_ret2
    exact ⟨rfl, HG.out⟩
  · have hq : ((R.2.2 : Int) != 0) = true := by simp; omega
    rw [if_pos he]
    have HEE := Lib.hid he; clear he
    go_enter Tryz.func25, Tryz.ntmps25
    go_wp2_with fail
    refine HE.mono ?_
    rintro e w1 ⟨rfl, hg⟩
    have HG := Lib.hid hg; clear hg
    go_wp2_with fail
    go_ret2
    exact ⟨rfl, HG.out⟩
set_option maxRecDepth 100000 in
set_option maxHeartbeats 2000000 in
theorem sLe_is (h : GIn w g G F) {x y : WV} (hx : WVin w F x) (hy : WVin w F y) :
    Calls Tryz.prog 51 #[.pointer (some ⟨g, 0, none⟩), x.val, y.val] w fun e w' => e = .returned (.tuple #[.int .i64 (negG (refG G [y.l, x.l] (ltF (G, 0) ((nats y.l).zip (nats x.l))))).2.1, .int .i64 (negG (refG G [y.l, x.l] (ltF (G, 0) ((nats y.l).zip (nats x.l))))).2.2]) ∧ GTo w g (negG (refG G [y.l, x.l] (ltF (G, 0) ((nats y.l).zip (nats x.l))))).1 F w' := by
  have HE := sLt_is h hy hx
  have hlt : (refG G [y.l, x.l] (ltF (G, 0) ((nats y.l).zip (nats x.l)))).2.1 ≤ 1000000 := by
    have h1 := refG_ok h.ok (ws := [y.l, x.l]) (R := ltF (G, 0) ((nats y.l).zip (nats x.l))) (fun hc => ltF_vok h.ok _ (chk_zip hc))
    have := h1.1.small
    omega
  generalize refG G [y.l, x.l] (ltF (G, 0) ((nats y.l).zip (nats x.l))) = R at *
  obtain ⟨xa, xl, xc⟩ := x
  obtain ⟨ya, yl, yc⟩ := y
  simp only [WV.val] at *
  clear hx hy h
  have HN := fun W => Not_any R.2.1 W hlt
  unfold negG
  by_cases he : R.2.2 = 0
  · have hE := HE.mono (R' := fun e w' => e = .returned (.tuple #[.int .i64 R.2.1, .int .i64 0]) ∧ GTo w g R.1 F w') (by rintro e w' ⟨rfl, hg⟩; exact ⟨by rw [he]; rfl, hg⟩)
    rw [if_neg (by simp [he])]
    have HEE := Lib.hid he; clear he HE
    go_enter Tryz.func51, Tryz.ntmps51
    go_wp2_with fail
    refine hE.mono ?_
    rintro e w1 ⟨rfl, hg⟩
    have HG := Lib.hid hg; clear hg
    go_wp2_with fail
    refine (HN _).mono ?_
    rintro e w2 ⟨rfl, rfl⟩
    go_wp2_with fail
    go_ret2
    exact ⟨rfl, HG.out⟩
  · have hq : ((R.2.2 : Int) != 0) = true := by simp; omega
    rw [if_pos he]
    have HEE := Lib.hid he; clear he
    go_enter Tryz.func51, Tryz.ntmps51
    go_wp2_with fail
    refine HE.mono ?_
    rintro e w1 ⟨rfl, hg⟩
    have HG := Lib.hid hg; clear hg
    go_wp2_with fail
    go_ret2
    exact ⟨rfl, HG.out⟩
set_option maxRecDepth 100000 in
set_option maxHeartbeats 2000000 in
theorem sNot_is (h : GIn w g G F) {x : WV} (hx : WVin w F x) :
    Calls Tryz.prog 45 #[.pointer (some ⟨g, 0, none⟩), x.val] w fun e w' => ∃ v, e = .returned (.tuple #[v, .int .i64 (wordG G [x.l] (((G, 0), (nats x.l).map neg))).2.2]) ∧ GVo w g (wordG G [x.l] (((G, 0), (nats x.l).map neg))).1 [] F v (wordG G [x.l] (((G, 0), (nats x.l).map neg))).2.1 w' := by
  have hFl := h.lt
  have hxlen := hx.ok.len
  obtain ⟨xa, xl, xc⟩ := x
  simp only [WV.val] at *
  unfold wordG
  have hch := chk_ok (G := G) (x0 := xl) (ws := [])
  have hcs := chk_small G [xl]
  generalize hR : ((G, 0), (nats xl).map neg) = R
  generalize hc : chk G [xl] = cc at *
  have hC : ∀ W, Ch [] w W → ∀ b, blk W b [.slice xa xl.length xc] → Calls Tryz.prog 57 #[.pointer (some ⟨g, 0, none⟩), .slice (some ⟨b, 0, none⟩) 1 1] W fun e w' => e = .returned (.int .i64 cc) ∧ Ch [] W w' := fun W hW b hb => by
    have := chk1_at (h.same hW (by simp)) (x := ⟨xa, xl, xc⟩) hb (hx.ch hW).ok
    rw [hc] at this
    exact this
  have HC := Lib.hid hC; clear hC
  have HCC := Lib.hid hc; clear hc
  have HX := Lib.hid hx; clear hx
  have H := Lib.hid h; clear h
  have HCH := Lib.hid hch; clear hch
  generalize hWW : (if cc ≠ 0 then (G, [], cc) else wres G R : Gra × List Nat × Nat) = WW
  have HWW := Lib.hid hWW; clear hWW
  have HR := Lib.hid hR; clear hR
  go_enter Tryz.func45, Tryz.ntmps45
  go_wp2_with fail
  refine calls_named fun W0 hW0 => ?_
  have hc0 : Ch [] w W0 := by rw [hW0]; exact (Ch.refl _ _).alloc _
  have hbl : blk W0 w.heap.size [.slice xa xl.length xc] := by rw [hW0]; exact blk.new' _ _ (by simp)
  clear hW0
  refine (HC.out W0 hc0 _ hbl).mono ?_
  rintro e w1 ⟨rfl, hc1⟩
  have HC01 := Lib.hid (hc0.trans hc1 (by simp))
  clear hbl hc0 hc1
  by_cases hcc : cc = 0
  · subst hcc
    have h1 : ChkOk G xl.length xl := HCH.out rfl xl (by simp)
    have hww := HWW.out
    rw [if_neg (by simp)] at hww
    have hT := sturned_is (w := w1) (a := xa) (l := nats xl) xl.length xc (by simp) hxlen (by rw [h1.cast]; exact (HX.out.ok.sl.ch HC01.out (by simp))) (fun r hr => by have := h1.lt r hr; have := H.out.ok.small; omega)
    have hwr : WW = (G, (nats xl).map neg, 0) := by rw [← hww, ← HR.out]; rfl
    subst hwr
    clear hww h1
    go_wp2_with fail
    refine hT.mono ?_
    rintro e w2 ⟨v, rfl, hrow, hlo, hc2⟩
    have HROW := Lib.hid hrow; clear hrow
    have HLO := Lib.hid hlo; clear hlo
    have HC2 := Lib.hid hc2; clear hc2
    go_wp2_with fail
    go_ret2
    have hcc := HC01.out.trans HC2.out (by simp)
    refine ⟨v, rfl, F, H.out.same hcc (by simp), hcc.mono (by simp), fun k hk => .inl hk, rfl, by simpa using HROW.out, fun k hk => ?_⟩
    have h1 := HLO.out k (by simpa using hk)
    have h2 := HC01.out.size
    exact ⟨by omega, fun hk2 => by have := hFl k hk2; omega⟩
  · have hww := HWW.out
    rw [if_pos (by simpa using hcc)] at hww
    subst hww
    have hq : ((cc : Int) != 0) = true := by simp; omega
    have HQ := Lib.hid hcc; clear hcc
    go_wp2_with fail
    go_ret2
    exact ⟨_, rfl, GVo.none H.out HC01.out⟩
set_option maxRecDepth 100000 in
set_option maxHeartbeats 2000000 in
theorem sAny_is (h : GIn w g G F) {x : WV} (hx : WVin w F x) :
    Calls Tryz.prog 17 #[.pointer (some ⟨g, 0, none⟩), x.val] w fun e w' => e = .returned (.tuple #[.int .i64 (refG G [x.l] (sAny (G, 0) (nats x.l))).2.1, .int .i64 (refG G [x.l] (sAny (G, 0) (nats x.l))).2.2]) ∧ GTo w g (refG G [x.l] (sAny (G, 0) (nats x.l))).1 F w' := by
  have hFl := h.lt
  have hxlen := hx.ok.len
  obtain ⟨xa, xl, xc⟩ := x
  simp only [WV.val] at *
  unfold refG
  have hch := chk_ok (G := G) (x0 := xl) (ws := [])
  have hcs := chk_small G [xl]
  generalize hR : sAny (G, 0) (nats xl) = R
  generalize hc : chk G [xl] = cc at *
  have hC : ∀ W, Ch [] w W → ∀ b, blk W b [.slice xa xl.length xc] → Calls Tryz.prog 57 #[.pointer (some ⟨g, 0, none⟩), .slice (some ⟨b, 0, none⟩) 1 1] W fun e w' => e = .returned (.int .i64 cc) ∧ Ch [] W w' := fun W hW b hb => by
    have := chk1_at (h.same hW (by simp)) (x := ⟨xa, xl, xc⟩) hb (hx.ch hW).ok
    rw [hc] at this
    exact this
  have HC := Lib.hid hC; clear hC
  have HCC := Lib.hid hc; clear hc
  have HX := Lib.hid hx; clear hx
  have H := Lib.hid h; clear h
  have HCH := Lib.hid hch; clear hch
  generalize hWW : (if cc ≠ 0 then (G, 0, cc) else rres G R : Res) = WW
  have HWW := Lib.hid hWW; clear hWW
  have HR := Lib.hid hR; clear hR
  go_enter Tryz.func17, Tryz.ntmps17
  go_wp2_with fail
  refine calls_named fun W0 hW0 => ?_
  have hc0 : Ch [] w W0 := by rw [hW0]; exact (Ch.refl _ _).alloc _
  have hbl : blk W0 w.heap.size [.slice xa xl.length xc] := by rw [hW0]; exact blk.new' _ _ (by simp)
  clear hW0
  refine (HC.out W0 hc0 _ hbl).mono ?_
  rintro e w1 ⟨rfl, hc1⟩
  have HC01 := Lib.hid (hc0.trans hc1 (by simp))
  clear hbl hc0 hc1
  by_cases hcc : cc = 0
  · subst hcc
    have h1 : ChkOk G xl.length xl := HCH.out rfl xl (by simp)
    have hww := HWW.out
    rw [if_neg (by simp)] at hww
    have hA := Any_g (H.out.same HC01.out (by simp)) (l := xl) xl.length xc rfl (HX.out.ok.sl.ch HC01.out (by simp)) (fun r hr => (HX.out.ok.bd r hr).2) (fun p hp => by have := (HX.out.ch HC01.out).apart p.block (ablk_of hp); exact ⟨this.2, this.1⟩)
    have hd : doAny G xl = rAny G (nats xl) := by
      have := doAny_r (G := G) (l := nats xl) h1.lt
      rw [h1.cast] at this
      exact this
    have hfull := rAny_full H.out.ok h1.lt
    have hwr : WW = rAny G (nats xl) := by
      rw [← hww, ← HR.out]
      unfold rres sAny
      by_cases h0 : (rAny G (nats xl)).2.2 = 0
      · rw [rstep_ok rfl h0, if_neg (by simp), ← h0]
      · rw [rstep_no rfl h0, if_pos h0, hfull.keep h0]
    rw [hd, ← hwr] at hA
    clear hww h1 hwr hd hfull
    have HA := Lib.hid hA; clear hA
    go_wp2_with fail
    refine HA.out.mono ?_
    rintro e w2 ⟨rfl, hg⟩
    have HG := Lib.hid hg; clear hg
    go_wp2_with fail
    go_ret2
    exact ⟨rfl, GTo.since HC01.out HG.out⟩
  · have hww := HWW.out
    rw [if_pos (by simpa using hcc)] at hww
    subst hww
    have hq : ((cc : Int) != 0) = true := by simp; omega
    have HQ := Lib.hid hcc; clear hcc
    go_wp2_with fail
    go_ret2
    exact ⟨rfl, GTo.same H.out HC01.out⟩
theorem run_make_refs (w : World) (n : Nat) (hn : n ≤ 1000000) : (Instr.makeSlice 39 (.int .i64 n) (.int .i64 n)).run Tryz.prog w = .ok (.slice (some ⟨w.heap.size, 0, none⟩) n n) (w.alloc (.cells (refsCells (List.replicate n 0)).toArray 52)) := by
  obtain ⟨i, hi, hz, hs, hb⟩ := info_parts infoRef
  have := run_make (P := Tryz.prog) w 39 52 i (.int .i64 0) Tryz.underlying39 hi hz .i64 .i64 n n (by omega) (by omega) (by rw [hb]; omega) (by omega)
  rw [this, hs]
  have e : madeCells (Value.int .i64 0).cells ((n : Int).toNat * 1) = (refsCells (List.replicate n 0)).toArray := by
    apply Array.ext'
    have h := toList_madeCells_one (Value.int .i64 0) ((n : Int).toNat * 1)
    simpa [refsCells, Value.cells] using h
  rw [e]; simp
theorem zeros_row {w W : World} {n : Nat} (hn : n ≤ 1000000) (h : W = w.alloc (.cells (refsCells (List.replicate n 0)).toArray 52)) : Sl W (some ⟨w.heap.size, 0, none⟩) (List.replicate n (0 : Int)) := by
  have hb : blk W w.heap.size (refsCells (List.replicate n 0)) := by rw [h]; exact blk.new' _ _ rfl
  refine ⟨fun i x hx => ⟨_, _, rfl, ?_⟩, ?_⟩
  · have hx2 := List.getElem?_replicate (a := (0 : Int)) (n := n) (i := i)
    rw [hx] at hx2
    split at hx2
    · rename_i hlt
      cases hx2
      have := hb.cell (i := i) (v := .int .i64 0) (by simp [refsCells, hlt])
      simpa using this
    · cases hx2
  · simp; omega
set_option maxRecDepth 100000 in
set_option maxHeartbeats 2000000 in
theorem sNeg_is (h : GIn w g G F) {x : WV} (hx : WVin w F x) :
    Calls Tryz.prog 46 #[.pointer (some ⟨g, 0, none⟩), x.val] w fun e w' => ∃ v, e = .returned (.tuple #[v, .int .i64 (subG G (List.replicate x.l.length 0) x.l).2.2]) ∧ GVo w g (subG G (List.replicate x.l.length 0) x.l).1 [] F v (subG G (List.replicate x.l.length 0) x.l).2.1 w' := by
  have hFl := h.lt
  have hxlen := hx.ok.len
  obtain ⟨xa, xl, xc⟩ := x
  simp only [WV.val] at *
  have hmk := run_make_refs w xl.length hxlen
  have hS : ∀ W, W = w.alloc (.cells (refsCells (List.replicate xl.length 0)).toArray 52) → Calls Tryz.prog 22 #[.pointer (some ⟨g, 0, none⟩), .slice (some ⟨w.heap.size, 0, none⟩) xl.length xl.length, .slice xa xl.length xc] W fun e w' => ∃ v, e = .returned (.tuple #[v, .int .i64 (subG G (List.replicate xl.length 0) xl).2.2]) ∧ GVo w g (subG G (List.replicate xl.length 0) xl).1 [] F v (subG G (List.replicate xl.length 0) xl).2.1 w' := fun W hW => by
    have hc := alw_ch hW
    have := sSub_is (h.same hc (by simp)) (x := ⟨some ⟨w.heap.size, 0, none⟩, List.replicate xl.length 0, xl.length⟩) (y := ⟨xa, xl, xc⟩) ⟨⟨zeros_row hxlen hW, fun r hr => by rw [(List.mem_replicate.1 hr).2]; omega, by simp; exact hxlen⟩, fun k hk => by
      simp only [ablk, List.mem_singleton] at hk
      subst hk
      exact ⟨fun hk => by have := hFl _ hk; omega, by rw [hW]; simp⟩⟩ (hx.ch hc)
    simp only [WV.val, List.length_replicate] at this
    simp only [subG, List.length_replicate]
    refine this.mono ?_
    rintro e w' ⟨v, rfl, hg⟩
    exact ⟨v, rfl, GVo.since hc hg⟩
  have HS := Lib.hid hS; clear hS
  generalize subG G (List.replicate xl.length 0) xl = R at *
  clear hx h
  go_enter Tryz.func46, Tryz.ntmps46
  go_wp2_with fail
  refine calls_named fun W0 hW0 => ?_
  refine (HS.out W0 hW0).mono ?_
  rintro e w1 ⟨v, rfl, hg⟩
  have HG := Lib.hid hg; clear hg
  go_wp2_with fail
  go_ret2
  exact ⟨v, rfl, HG.out⟩
end
end Go.Proofs.YtchledddgmbndaaGreat
namespace Go.Aig
/-- the number that some bits are -/
def bitsVal : List Bool → Nat
  | [] => 0
  | b :: l => b.toNat + 2 * bitsVal l
theorem bitsVal_lt : ∀ (l : List Bool), bitsVal l < 2 ^ l.length
  | [] => by simp [bitsVal]
  | b :: l => by
    have := bitsVal_lt l
    have hb : b.toNat ≤ 1 := by cases b <;> decide
    show b.toNat + 2 * bitsVal l < 2 ^ (l.length + 1)
    rw [Nat.pow_succ]; omega
theorem bitsVal_snoc : ∀ (l : List Bool) (b : Bool), bitsVal (l ++ [b]) = bitsVal l + b.toNat * 2 ^ l.length
  | [], b => by simp [bitsVal]
  | c :: l, b => by
    show c.toNat + 2 * bitsVal (l ++ [b]) = c.toNat + 2 * bitsVal l + b.toNat * 2 ^ (l.length + 1)
    rw [bitsVal_snoc l b, Nat.pow_succ, Nat.mul_add, ← Nat.mul_assoc, Nat.mul_comm 2 b.toNat, Nat.add_assoc]
    congr 2
    rw [Nat.mul_comm (2 ^ l.length) 2, Nat.mul_assoc]
theorem bitsVal_succ {l : List Bool} {k : Nat} {b : Bool} (h : l[k]? = some b) (hk : k < 32) : bits .or .u32 (bitsVal (l.take k) : Int) ((b.toNat * 2 ^ k : Nat) : Int) = (bitsVal (l.take (k + 1)) : Int) ∧ b.toNat * 2 ^ k < 4294967296 := by
  have hlt := (List.getElem?_eq_some_iff.1 h).1
  have hlen : (l.take k).length = k := by rw [List.length_take]; omega
  have h1 := bitsVal_lt (l.take k)
  rw [hlen] at h1
  have h2 : (2 : Nat) ^ k ≤ 2 ^ 31 := Nat.pow_le_pow_right (by omega) (by omega)
  have hb : b.toNat ≤ 1 := by cases b <;> decide
  have h3 : b.toNat * 2 ^ k < 4294967296 := by
    have : b.toNat * 2 ^ k ≤ 1 * 2 ^ k := Nat.mul_le_mul_right _ hb
    omega
  refine ⟨?_, h3⟩
  rw [u32_or_nat _ _ (by omega) h3, List.take_add_one, h]
  show ((bitsVal (l.take k) ||| b.toNat * 2 ^ k : Nat) : Int) = (bitsVal (l.take k ++ [b]) : Int)
  rw [bitsVal_snoc, hlen, Nat.or_comm, Nat.mul_comm, ← Nat.two_pow_add_eq_or_of_lt h1, Nat.add_comm]
end Go.Aig
namespace Go.Proofs.YtchledddgmbndaaGreat
open Go.RowKit Go.Mem Go.Aig
section
variable {w : World}
set_option maxRecDepth 100000 in
set_option maxHeartbeats 1000000 in
theorem Bit_is (x i : Nat) (hx : x < 4294967296) (hi : i < 32) : Calls Tryz.prog 42 #[.int .u32 x, .int .i64 i] w fun e w' => e = .returned (.bool (x.testBit i)) ∧ w = w' := by
  have h1 : decide ((0 : Int) ≤ i) = true := decide_eq_true (by omega)
  have h2 : decide ((i : Int) < 32) = true := decide_eq_true (by omega)
  go_enter Tryz.func42, Tryz.ntmps42
  go_wp2_with fail
  go_ret
  refine ⟨?_, rfl⟩
  have e : bits .and .u32 ((x : Int) / 2 ^ i) 1 = ((x / 2 ^ i % 2 : Nat) : Int) := by
    have h3 : x / 2 ^ i < 4294967296 := Nat.lt_of_le_of_lt (Nat.div_le_self _ _) hx
    have h4 := u32_and_nat (x / 2 ^ i) 1 h3 (by omega)
    rw [Nat.and_one_is_mod] at h4
    have h5 : ((x / 2 ^ i : Nat) : Int) = (x : Int) / 2 ^ i := by rw [Int.natCast_ediv]; simp
    rw [← h5]
    exact h4
  show Ending.returned (.bool (bits .and .u32 ((x : Int) / 2 ^ i) 1 == 1)) = _
  rw [e, Nat.testBit_eq_decide_div_mod_eq]
  rcases Nat.mod_two_eq_zero_or_one (x / 2 ^ i) with h3 | h3 <;> rw [h3] <;> rfl
set_option maxRecDepth 100000 in
set_option maxHeartbeats 1000000 in
theorem Most_is (n : Nat) (h1 : 1 ≤ n) (h2 : n ≤ 16) : Calls Tryz.prog 54 #[.int .i64 n] w fun e w' => e = .returned (.tuple #[.int .u32 (2 ^ n - 1 : Nat), .int .i64 0]) ∧ w = w' := by
  go_enter Tryz.func54, Tryz.ntmps54
  go_wp2_with fail
  go_ret2
  refine ⟨?_, rfl⟩
  have h3 : 2 ^ n ≤ 2 ^ 16 := Nat.pow_le_pow_right (by omega) h2
  have h4 : 1 ≤ 2 ^ n := Nat.one_le_two_pow
  have e : ((2 : Int) ^ n % 4294967296 - 1) % 4294967296 = ((2 ^ n - 1 : Nat) : Int) := by
    have h5 : (2 : Int) ^ n = ((2 ^ n : Nat) : Int) := by simp
    rw [h5]
    omega
  show Ending.returned (.tuple #[.int .u32 (((2 : Int) ^ n % 4294967296 - 1) % 4294967296), .int .i64 0]) = _
  rw [e]
set_option maxRecDepth 100000 in
set_option maxHeartbeats 1000000 in
theorem Most_no (n : Int) (h1 : n < 1 ∨ 16 < n) : Calls Tryz.prog 54 #[.int .i64 n] w fun e w' => e = .returned (.tuple #[.int .u32 0, .int .i64 220]) ∧ w = w' := by
  by_cases h0 : n < 1
  · have hd : decide (n < 1) = true := decide_eq_true h0
    go_enter Tryz.func54, Tryz.ntmps54
    go_wp2_with fail
    go_ret2
    exact ⟨rfl, rfl⟩
  · have hd : decide (n < 1) = false := decide_eq_false h0
    have hd2 : decide (16 < n) = true := decide_eq_true (by omega)
    go_enter Tryz.func54, Tryz.ntmps54
    go_wp2_with fail
    go_ret2
    exact ⟨rfl, rfl⟩
set_option maxRecDepth 100000 in
set_option maxHeartbeats 1000000 in
theorem btruth_is (b : Bool) : Calls Tryz.prog 104 #[.bool b] w fun e w' => e = .returned (.int .u32 b.toNat) ∧ w = w' := by
  cases b
  · go_enter Tryz.func104, Tryz.ntmps104
    go_wp2_with fail
    go_ret
    exact ⟨rfl, rfl⟩
  · go_enter Tryz.func104, Tryz.ntmps104
    go_wp2_with fail
    go_ret
    exact ⟨rfl, rfl⟩
/-- a slice of truths that is read -/
abbrev Sb (w : World) (a : Option Addr) (l : List Bool) : Prop := Sv w a (l.map Value.bool)
set_option maxRecDepth 100000 in
set_option maxHeartbeats 1000000 in
theorem FromBits_no {a : Option Addr} (n c : Nat) (h : n < 1 ∨ 16 < n) (hm : n ≤ 1000000) : Calls Tryz.prog 78 #[.slice a n c] w fun e w' => e = .returned (.tuple #[.int .u32 0, .int .i64 220]) ∧ w = w' := by
  have HM := Most_no (w := w) n (by omega)
  go_enter Tryz.func78, Tryz.ntmps78
  go_wp2_with fail
  refine HM.mono ?_
  rintro e w' ⟨rfl, rfl⟩
  go_wp2_with fail
  go_ret2
  exact ⟨rfl, rfl⟩
set_option maxRecDepth 100000 in
set_option maxHeartbeats 2000000 in
theorem FromBits_is {a : Option Addr} {l : List Bool} (n c : Nat) (hn : l.length = n) (h1 : 1 ≤ n) (h2 : n ≤ 16) (hS : Sb w a l) : Calls Tryz.prog 78 #[.slice a n c] w fun e w' => e = .returned (.tuple #[.int .u32 (bitsVal l), .int .i64 0]) ∧ w = w' := by
  subst hn
  have HM := Most_is (w := w) l.length h1 h2
  have HS := Lib.hid hS; clear hS
  go_enter Tryz.func78, Tryz.ntmps78
  go_wp2_with fail
  refine HM.mono ?_
  rintro e w' ⟨rfl, rfl⟩
  go_wp2_with fail
  go_loopw [6, 20] (fun x i wr => ∃ k : Nat, k ≤ l.length ∧ i = .int .i64 k ∧ wr = w ∧ x = .int .u32 (bitsVal (l.take k))) (fun _ i _ => l.length - (intOf i).toNat)
  case atStart => exact ⟨0, by omega, rfl, rfl, rfl⟩
  case round =>
    obtain ⟨k, hk, rfl, rfl, rfl⟩ := hrel
    by_cases hlt : k < l.length
    · obtain ⟨b, hb⟩ : ∃ b, l[k]? = some b := ⟨_, List.getElem?_eq_getElem hlt⟩
      obtain ⟨xb, xo, rfl, hcl⟩ := HS.out.cells k (.bool b) (by simp [hb])
      have HT := btruth_is (w := wr) b
      have hs := bitsVal_succ hb (by omega)
      generalize hX : bitsVal (l.take k) = X at *
      generalize hX2 : bitsVal (l.take (k + 1)) = X2 at *
      have HX2 := Lib.hid hX2; clear hX2
      have HSS := Lib.hid hs; clear hs hX hb
      go_wp2_with fail
      refine HT.mono ?_
      rintro e w2 ⟨rfl, rfl⟩
      go_wp2_with fail
      go_roundw
      case rel =>
        refine ⟨k + 1, by omega, by go_num, trivial, ?_⟩
        have h3 := HSS.out.1
        have h4 := HSS.out.2
        rw [HX2.out, ← h3]
        have h5 : ((b.toNat * 2 ^ k : Nat) : Int) = (b.toNat : Int) * 2 ^ k := by simp
        have h6 : (b.toNat : Int) * 2 ^ k % 4294967296 = ((b.toNat * 2 ^ k : Nat) : Int) := by rw [← h5]; omega
        rw [h6]
      case measure => simp [intOf]; omega
    · have hkn : l.take k = l := List.take_of_length_le (by omega)
      rw [hkn]
      clear hkn
      go_wp2_with fail
      go_ret2
      exact ⟨rfl, rfl⟩
end
end Go.Proofs.YtchledddgmbndaaGreat
namespace Go.Aig
def constL (x n : Nat) : List Nat := (List.range n).map fun i => (x.testBit i).toNat
def castL (l : List Int) (n : Nat) : List Int := l.take n ++ List.replicate (n - l.length) 0
def inG (G : Gra) (n : Int) : Gra × List Nat × Nat := if rightW n then wres G (inF (G, 0) n.toNat) else (G, [], 230)
theorem constL_succ (x n : Nat) : constL x (n + 1) = constL x n ++ [(x.testBit n).toNat] := by
  unfold constL
  rw [List.range_succ, List.map_append]; rfl
end Go.Aig
namespace Go.Proofs.YtchledddgmbndaaGreat
open Go.RowKit Go.Mem Go.Aig
section
variable {w : World}
/-- what makes a word out of nothing leaves -/
def WNew (w : World) (v : Value) (xs : List Value) (w' : World) : Prop := row w' 52 1 v xs.length xs ∧ (∀ q ∈ v.ownBlock.toList, w.heap.size ≤ q) ∧ Ch [] w w'
theorem WNew.nil {w w' : World} (h : Ch [] w w') : WNew w (.slice none 0 0) [] w' := ⟨⟨rfl, .inl ⟨rfl, rfl⟩⟩, by simp, h⟩
set_option maxRecDepth 100000 in
set_option maxHeartbeats 2000000 in
theorem sConst_is (x : Nat) (hx : x < 4294967296) (n : Int) : Calls Tryz.prog 11 #[.int .u32 x, .int .i64 n] w fun e w' => ∃ v, e = .returned (.tuple #[v, .int .i64 (if rightW n then 0 else 230 : Nat)]) ∧ WNew w v (if rightW n then refsCells (constL x n.toNat) else []) w' := by
  have HR := sright_is (w := w) n
  cases hr : rightW n
  · rw [hr] at HR
    have H := Lib.hid hr; clear hr
    simp only [Bool.false_eq_true, if_false]
    go_enter Tryz.func11, Tryz.ntmps11
    go_wp2_with fail
    refine HR.mono ?_
    rintro e w' ⟨rfl, rfl⟩
    go_wp2_with fail
    go_ret2
    exact ⟨_, rfl, WNew.nil (Ch.refl _ _)⟩
  · rw [hr] at HR
    obtain ⟨k0, rfl, hk0⟩ : ∃ k0 : Nat, n = k0 ∧ k0 ≤ 17 := by
      unfold rightW at hr
      simp at hr
      exact ⟨n.toNat, by omega, by omega⟩
    have H := Lib.hid hr; clear hr
    simp only [if_true, Int.toNat_natCast]
    go_enter Tryz.func11, Tryz.ntmps11
    go_wp2_with fail
    refine HR.mono ?_
    rintro e w' ⟨rfl, rfl⟩
    clear HR
    go_wp2_with fail
    go_loopw [6, 13] (fun o i wr => ∃ k : Nat, k ≤ k0 ∧ i = .int .i64 k ∧ Ch [] w wr ∧ row wr 52 1 o k (refsCells (constL x k)) ∧ ∀ q ∈ o.ownBlock.toList, w.heap.size ≤ q) (fun _ i _ => k0 - (intOf i).toNat)
    case atStart => exact ⟨0, by omega, rfl, Ch.refl _ _, ⟨rfl, .inl ⟨rfl, rfl⟩⟩, by simp⟩
    case round =>
      obtain ⟨k, hk, rfl, hc, hrow, hlo⟩ := hrel
      obtain ⟨oa, oc, rfl⟩ := row.shape hrow
      by_cases hlt : k < k0
      · have HB := Bit_is (w := wr) x k hx (by omega)
        have hsu : refsCells (constL x (k + 1)) = refsCells (constL x k) ++ [.int .i64 ((x.testBit k).toNat : Nat)] := by rw [constL_succ]; simp [refsCells]
        have HSU := Lib.hid hsu; clear hsu
        have HC := Lib.hid hc; clear hc
        have HLO := Lib.hid hlo; clear hlo
        cases hb : x.testBit k
        · rw [hb] at HB HSU
          clear hb
          have hcA : Ch [] wr (wr.alloc (.cells #[.int .i64 0] 52)) := (Ch.refl _ _).alloc _
          have hrA := hrow.ch hcA (by simp)
          have hbA : blk (wr.alloc (.cells #[.int .i64 0] 52)) wr.heap.size [.int .i64 0] := blk.new' _ _ rfl
          have HRA := Lib.hid hrA; clear hrA hrow
          have HBA := Lib.hid hbA; clear hbA
          have HCA := Lib.hid hcA; clear hcA
          go_wp2_with fail
          refine HB.mono ?_
          rintro e w2 ⟨rfl, rfl⟩
          go_wp2_with (at_builtin; go_loud (refine wpList_append_row slRefs rfl _ _ rfl (v := .slice oa k oc) (n := k) (xs := refsCells (constL x k)) rfl HRA.out (ad := ⟨wr.heap.size, 0, none⟩) (m := 1) (c := 1) (news := [.int .i64 0]) rfl rfl (news_blk HBA.out) (by simp [Value.oneCell']) (by omega) (by omega) ?_; intro v' w4 hown4 hC4 hf4; have HO4 := Lib.hid hown4; clear hown4; have HC4 := Lib.hid hC4; clear hC4; have HF4 := Lib.hid hf4; clear hf4))
          go_roundw
          case rel =>
            obtain ⟨q1, q2⟩ := app_step HC.out HCA.out HLO.out HC4.out HF4.out
            refine ⟨k + 1, by omega, by go_num, q1, ?_, q2⟩
            rw [HSU.out]; exact HO4.out
          case measure => simp [intOf]; omega
        · rw [hb] at HB HSU
          clear hb
          have hcA : Ch [] wr (wr.alloc (.cells #[.int .i64 1] 52)) := (Ch.refl _ _).alloc _
          have hrA := hrow.ch hcA (by simp)
          have hbA : blk (wr.alloc (.cells #[.int .i64 1] 52)) wr.heap.size [.int .i64 1] := blk.new' _ _ rfl
          have HRA := Lib.hid hrA; clear hrA hrow
          have HBA := Lib.hid hbA; clear hbA
          have HCA := Lib.hid hcA; clear hcA
          go_wp2_with fail
          refine HB.mono ?_
          rintro e w2 ⟨rfl, rfl⟩
          go_wp2_with (at_builtin; go_loud (refine wpList_append_row slRefs rfl _ _ rfl (v := .slice oa k oc) (n := k) (xs := refsCells (constL x k)) rfl HRA.out (ad := ⟨wr.heap.size, 0, none⟩) (m := 1) (c := 1) (news := [.int .i64 1]) rfl rfl (news_blk HBA.out) (by simp [Value.oneCell']) (by omega) (by omega) ?_; intro v' w4 hown4 hC4 hf4; have HO4 := Lib.hid hown4; clear hown4; have HC4 := Lib.hid hC4; clear hC4; have HF4 := Lib.hid hf4; clear hf4))
          go_roundw
          case rel =>
            obtain ⟨q1, q2⟩ := app_step HC.out HCA.out HLO.out HC4.out HF4.out
            refine ⟨k + 1, by omega, by go_num, q1, ?_, q2⟩
            rw [HSU.out]; exact HO4.out
          case measure => simp [intOf]; omega
      · have hkn : k = k0 := by omega
        subst hkn
        have HROW := Lib.hid hrow; clear hrow
        have HLO := Lib.hid hlo; clear hlo
        have HC := Lib.hid hc; clear hc
        go_wp2_with fail
        go_ret2
        refine ⟨.slice oa k oc, rfl, ?_, HLO.out, HC.out⟩
        have := HROW.out
        simpa [refsCells, constL] using this
set_option maxRecDepth 100000 in
set_option maxHeartbeats 1000000 in
theorem Clref_w {x : WV} (h : WVok w x) (n : Nat) (hn : x.l.length = n) : Calls Tryz.prog 77 #[.slice x.a n x.c] w fun e w' => ∃ v, e = .returned v ∧ WNew w v (intCells x.l) w' := by
  obtain ⟨xa, xl, xc⟩ := x
  subst hn
  have hlen := h.len
  simp only at *
  cases xa with
  | none =>
    have hl : xl = [] := by
      cases xl with
      | nil => rfl
      | cons y l =>
        obtain ⟨b, o, e, _⟩ := h.sl.cells 0 y rfl
        cases e
    subst hl
    clear h
    go_enter Tryz.func77, Tryz.ntmps77
    go_wp2_with fail
    go_ret
    exact ⟨_, rfl, WNew.nil (Ch.refl _ _)⟩
  | some p =>
    have hO : row (w.alloc (.cells #[] 52)) 52 1 (.slice (some ⟨w.heap.size, 0, none⟩) 0 0) 0 [] := ⟨rfl, .inr ⟨w.heap.size, 0, #[], rfl, by omega, heap_alloc_new w _, by omega, by unfold maxLen; omega, rfl, rfl⟩⟩
    have hN : ∀ j u, (intCells xl)[j]? = some u → (w.alloc (.cells #[] 52)).cell? (p.add j) = some u := fun j u hu => by
      simp only [intCells, List.getElem?_map, Option.map_eq_some_iff] at hu
      obtain ⟨y, hy, rfl⟩ := hu
      obtain ⟨b, o, e, hc⟩ := h.sl.cells j y hy
      cases e
      rw [Addr.add_lit]
      exact (((Ch.refl [] w).alloc _).cell (cell_lt hc) (by simp)).trans hc
    have h1 : ∀ u ∈ intCells xl, u.oneCell' = true := fun u hu => by
      obtain ⟨r, _, rfl⟩ := List.mem_map.1 hu
      rfl
    have HO := Lib.hid hO; clear hO
    have HN := Lib.hid hN; clear hN h
    have H1 := Lib.hid h1; clear h1
    go_enter Tryz.func77, Tryz.ntmps77
    go_wp2_with (at_builtin; go_loud (refine wpList_append_row slRefs rfl _ _ rfl (v := .slice (some ⟨w.heap.size, 0, none⟩) 0 0) (n := 0) (xs := []) rfl HO.out (ad := p) (m := xl.length) (c := xc) (news := intCells xl) rfl (by simp [intCells]) HN.out H1.out (by omega) (by omega) ?_; intro v' w2 hown hC2 hfresh; have HOWN := Lib.hid hown; clear hown; have HC2 := Lib.hid hC2; clear hC2; have HFR := Lib.hid hfresh; clear hfresh))
    go_ret
    have hown := HOWN.out
    rw [Nat.zero_add, List.nil_append] at hown
    refine ⟨_, rfl, by simpa [intCells] using hown, fun k hk => ?_, (((Ch.refl [] w).alloc (.cells #[] 52))).trans HC2.out (by simp)⟩
    rcases HFR.out k (by simpa using hk) with e | e
    · simp at e; omega
    · simp at e; omega
end
end Go.Proofs.YtchledddgmbndaaGreat
namespace Go.Proofs.YtchledddgmbndaaGreat
open Go.RowKit Go.Mem Go.Aig
section
variable {w : World}
set_option maxRecDepth 100000 in
set_option maxHeartbeats 2000000 in
theorem sCast_is {x : WV} (h : WVok w x) (hcap : x.l.length ≤ x.c) (n : Int) : Calls Tryz.prog 27 #[x.val, .int .i64 n] w fun e w' => ∃ v, e = .returned (.tuple #[v, .int .i64 (if rightW n && rightW x.l.length then 0 else 230 : Nat)]) ∧ WNew w v (if rightW n && rightW x.l.length then intCells (castL x.l n.toNat) else []) w' := by
  have HR := fun W => sright_is (w := W) n
  have HR2 := fun W => sright_is (w := W) x.l.length
  have hlen := h.len
  obtain ⟨xa, xl, xc⟩ := x
  simp only [WV.val] at *
  cases hr : rightW n
  · rw [hr] at HR
    clear hr
    simp only [Bool.false_and, Bool.false_eq_true, if_false]
    go_enter Tryz.func27, Tryz.ntmps27
    go_wp2_with fail
    refine (HR _).mono ?_
    rintro e w' ⟨rfl, rfl⟩
    go_wp2_with fail
    go_ret2
    exact ⟨_, rfl, WNew.nil (Ch.refl _ _)⟩
  · cases hr2 : rightW (xl.length : Int)
    · rw [hr] at HR
      rw [hr2] at HR2
      clear hr hr2
      simp only [Bool.true_and, Bool.false_eq_true, if_false]
      go_enter Tryz.func27, Tryz.ntmps27
      go_wp2_with fail
      refine (HR _).mono ?_
      rintro e w' ⟨rfl, rfl⟩
      go_wp2_with fail
      refine (HR2 _).mono ?_
      rintro e w' ⟨rfl, rfl⟩
      go_wp2_with fail
      go_ret2
      exact ⟨_, rfl, WNew.nil (Ch.refl _ _)⟩
    · rw [hr] at HR
      rw [hr2] at HR2
      obtain ⟨k0, rfl, hk0⟩ : ∃ k0 : Nat, n = k0 ∧ k0 ≤ 17 := by
        unfold rightW at hr
        simp at hr
        exact ⟨n.toNat, by omega, by omega⟩
      have hx17 : xl.length ≤ 17 := by
        unfold rightW at hr2
        simp at hr2
        omega
      clear hr hr2
      simp only [Bool.and_self, if_true, Int.toNat_natCast]
      obtain ⟨mn, hmn⟩ : ∃ mn, min xl.length k0 = mn := ⟨_, rfl⟩
      have hmin := min_nat xl.length k0 mn hmn
      have hmc : mn ≤ xc := by omega
      have htk : xl.take k0 = xl.take mn := by
        rw [← hmn]
        rcases Nat.le_total xl.length k0 with e | e
        · rw [Nat.min_eq_left e, List.take_of_length_le e, List.take_length]
        · rw [Nat.min_eq_right e]
      have hml : (xl.take mn).length = mn := by rw [List.length_take]; omega
      have HCl := Clref_w (w := w) (x := ⟨xa, xl.take mn, xc⟩) ⟨⟨fun i y hy => h.sl.cells i y (by rw [List.getElem?_take] at hy; split at hy; exact hy; cases hy), by have := h.sl.bd; simp only at hml ⊢; omega⟩, fun r hr => h.bd r (List.mem_of_mem_take hr), by simp only; omega⟩ mn hml
      have HMN := Lib.hid hmn; clear hmn
      have HTK := Lib.hid htk; clear htk
      have HML := Lib.hid hml; clear hml
      clear h
      go_enter Tryz.func27, Tryz.ntmps27
      go_wp2_with fail
      refine (HR _).mono ?_
      rintro e w' ⟨rfl, rfl⟩
      go_wp2_with fail
      refine (HR2 _).mono ?_
      rintro e w' ⟨rfl, rfl⟩
      go_wp2_with fail
      refine HCl.mono ?_
      rintro e w1 ⟨v, rfl, hrow0, hlo0, hc0⟩
      rw [show (intCells (xl.take mn)).length = mn from by simp only [intCells, List.length_map]; exact HML.out] at hrow0
      obtain ⟨oa0, oc0, rfl⟩ := row.shape hrow0
      clear HR HR2 HCl
      go_wp2_with fail
      go_loopw [6] (fun o wr => ∃ k : Nat, mn + k ≤ k0 ∧ Ch [] w wr ∧ row wr 52 1 o (mn + k) (intCells (xl.take mn ++ List.replicate k 0)) ∧ ∀ q ∈ o.ownBlock.toList, w.heap.size ≤ q) (fun o _ => k0 - (match o with | .slice _ n _ => n | _ => 0))
      case atStart => exact ⟨0, by have := HMN.out; omega, hc0, by simpa using hrow0, hlo0⟩
      case round =>
        obtain ⟨k, hk, hc, hrow, hlo⟩ := hrel
        obtain ⟨oa, oc, rfl⟩ := row.shape hrow
        by_cases hlt : mn + k < k0
        · have hsu : intCells (xl.take mn ++ List.replicate (k + 1) 0) = intCells (xl.take mn ++ List.replicate k 0) ++ [.int .i64 0] := by
            simp [intCells, List.replicate_succ']
          have HSU := Lib.hid hsu; clear hsu
          have HC := Lib.hid hc; clear hc
          have HLO := Lib.hid hlo; clear hlo
          have hcA : Ch [] wr (wr.alloc (.cells #[.int .i64 0] 52)) := (Ch.refl _ _).alloc _
          have hrA := hrow.ch hcA (by simp)
          have hbA : blk (wr.alloc (.cells #[.int .i64 0] 52)) wr.heap.size [.int .i64 0] := blk.new' _ _ rfl
          have HRA := Lib.hid hrA; clear hrA hrow hrow0
          have HBA := Lib.hid hbA; clear hbA
          have HCA := Lib.hid hcA; clear hcA
          go_wp2_with (at_builtin; go_loud (refine wpList_append_row slRefs rfl _ _ rfl (v := .slice oa (mn + k) oc) (n := mn + k) (xs := intCells (xl.take mn ++ List.replicate k 0)) rfl HRA.out (ad := ⟨wr.heap.size, 0, none⟩) (m := 1) (c := 1) (news := [.int .i64 0]) rfl rfl (news_blk HBA.out) (by simp [Value.oneCell']) (by omega) (by omega) ?_; intro v' w4 hown4 hC4 hf4; obtain ⟨gb, gc, rfl⟩ := row.parts hown4 (by omega); have HO4 := Lib.hid hown4; clear hown4; have HC4 := Lib.hid hC4; clear hC4; have HF4 := Lib.hid hf4; clear hf4))
          go_roundw
          case rel =>
            obtain ⟨q1, q2⟩ := app_step HC.out HCA.out HLO.out HC4.out HF4.out
            refine ⟨k + 1, by omega, q1, ?_, q2⟩
            rw [HSU.out]; exact HO4.out
          case measure => simp; omega
        · have HROW := Lib.hid hrow; clear hrow hrow0
          have HLO := Lib.hid hlo; clear hlo
          have HC := Lib.hid hc; clear hc
          go_wp2_with fail
          go_ret2
          refine ⟨.slice oa (mn + k) oc, rfl, ?_, HLO.out, HC.out⟩
          have h1 := HROW.out
          have h2 := HMN.out
          have h3 := HML.out
          have h4 : castL xl k0 = xl.take mn ++ List.replicate k 0 := by
            unfold castL
            rw [HTK.out]
            congr 2
            omega
          rw [h4]
          have h5 : (intCells (xl.take mn ++ List.replicate k 0)).length = mn + k := by simp only [intCells, List.length_map, List.length_append, List.length_replicate, h3]
          rw [h5]
          exact h1
set_option maxRecDepth 100000 in
set_option maxHeartbeats 1000000 in
theorem sValue_is {x : WV} (hx : x.l.length ≤ 1000000) {a : Option Addr} {l : List Bool} (c : Nat) (hm : l.length ≤ 1000000) (hS : Sb w a l) :
    Calls Tryz.prog 28 #[x.val, .slice a l.length c] w fun e w' => e = .returned (.tuple #[.int .u32 (if 1 ≤ l.length ∧ l.length ≤ 16 ∧ l.length = x.l.length then bitsVal l else 0 : Nat), .int .i64 (if 1 ≤ l.length ∧ l.length ≤ 16 ∧ l.length = x.l.length then 0 else 230 : Nat)]) ∧ w = w' := by
  obtain ⟨xa, xl, xc⟩ := x
  simp only [WV.val] at *
  by_cases h1 : 1 ≤ l.length ∧ l.length ≤ 16
  · have HF := FromBits_is (w := w) l.length c rfl h1.1 h1.2 hS
    by_cases h2 : l.length = xl.length
    · have hq : ((l.length : Int) != (xl.length : Int)) = false := by rw [h2]; simp
      rw [if_pos ⟨h1.1, h1.2, h2⟩, if_pos ⟨h1.1, h1.2, h2⟩]
      clear h1 h2 hS
      go_enter Tryz.func28, Tryz.ntmps28
      go_wp2_with fail
      refine HF.mono ?_
      rintro e w' ⟨rfl, rfl⟩
      go_wp2_with fail
      go_ret2
      exact ⟨rfl, rfl⟩
    · have hq : ((l.length : Int) != (xl.length : Int)) = true := by simp; omega
      rw [if_neg (fun h => h2 h.2.2), if_neg (fun h => h2 h.2.2)]
      clear h1 h2 hS
      go_enter Tryz.func28, Tryz.ntmps28
      go_wp2_with fail
      refine HF.mono ?_
      rintro e w' ⟨rfl, rfl⟩
      go_wp2_with fail
      go_ret2
      exact ⟨rfl, rfl⟩
  · have HF := FromBits_no (w := w) (a := a) l.length c (by omega) hm
    rw [if_neg (fun h => h1 ⟨h.1, h.2.1⟩), if_neg (fun h => h1 ⟨h.1, h.2.1⟩)]
    clear h1 hS
    go_enter Tryz.func28, Tryz.ntmps28
    go_wp2_with fail
    refine HF.mono ?_
    rintro e w' ⟨rfl, rfl⟩
    go_wp2_with fail
    go_ret2
    exact ⟨rfl, rfl⟩
set_option maxRecDepth 100000 in
set_option maxHeartbeats 1000000 in
theorem sInput_is {g : Nat} {G : Gra} {F : List Nat} (h : GIn w g G F) (n : Int) : Calls Tryz.prog 20 #[.pointer (some ⟨g, 0, none⟩), .int .i64 n] w fun e w' => ∃ v, e = .returned (.tuple #[v, .int .i64 (inG G n).2.2]) ∧ GVo w g (inG G n).1 [] F v (inG G n).2.1 w' := by
  have hpos := h.ok.wf.pos
  have hFl := h.lt
  have hp0 : ((G.nodes.length : Int) == 0) = false := beqN (by omega)
  have hL : ∀ W, Ch [] w W → Calls Tryz.prog 19 #[.pointer (some ⟨g, 0, none⟩)] W fun e w' => e = .returned (.int .i64 G.nodes.length) ∧ W = w' := fun W hW => Len_g (h.same hW (by simp))
  have hr1 := h.ok.room
  have hr2 := h.ok.most
  unfold inG
  have HR := fun W => sright_is (w := W) n
  cases hr : rightW n
  · rw [hr] at HR
    clear hr
    simp only [Bool.false_eq_true, if_false]
    have H := Lib.hid h; clear h
    go_enter Tryz.func20, Tryz.ntmps20
    go_wp2_with fail
    refine calls_named fun W0 hW0 => ?_
    have hc0 : Ch [] w W0 := by rw [hW0]; exact ((Ch.refl _ _).alloc _).alloc _
    have hbn : blk W0 (w.heap.size + 1) [.int .i64 n] := by rw [hW0]; exact blk.new' _ _ (by simp)
    have hn0 := hbn.cell (i := 0) rfl
    clear hW0
    refine (hL W0 hc0).mono ?_
    rintro e w' ⟨rfl, rfl⟩
    have HC0 := Lib.hid hc0; clear hc0
    go_wp2_with fail
    refine (HR _).mono ?_
    rintro e w' ⟨rfl, rfl⟩
    go_wp2_with fail
    go_ret2
    exact ⟨_, rfl, GVo.none H.out HC0.out⟩
  · rw [hr] at HR
    obtain ⟨k0, rfl, hk0⟩ : ∃ k0 : Nat, n = k0 ∧ k0 ≤ 17 := by
      unfold rightW at hr
      simp at hr
      exact ⟨n.toNat, by omega, by omega⟩
    clear hr
    simp only [if_true, Int.toNat_natCast]
    have hB : ∀ W, Ch [] w W → blk W w.heap.size [.pointer (some ⟨g, 0, none⟩)] → blk W (w.heap.size + 1) [.int .i64 k0] → Calls Tryz.prog 60 #[.pointer (some ⟨g, 0, none⟩), .func (.func 61) #[] #[.pointer (some ⟨w.heap.size + 1, 0, none⟩), .pointer (some ⟨w.heap.size, 0, none⟩)]] W fun e w' => ∃ v, e = .returned (.tuple #[v, .int .i64 (wres G (inF (G, 0) k0)).2.2]) ∧ GVo W g (wres G (inF (G, 0) k0)).1 [] F v (wres G (inF (G, 0) k0)).2.1 w' := fun W hW hbg hbn =>
      sbuildW_is (h.same hW (by simp)) 61 _ fnvsInput1 _ [] (fun W2 m hm hW2 hM => sInput1_is hM (by omega) ((hbn.ch hW2 (by simp)).cell (i := 0) rfl) ((hbg.ch hW2 (by simp)).cell (i := 0) rfl) (fun hk => by
        have h1 := hbg.lt
        simp only [List.mem_cons] at hk
        rcases hk with e | e
        · omega
        · have := hFl _ e; omega))
    have HB := Lib.hid hB; clear hB
    generalize wres G (inF (G, 0) k0) = R at *
    have H := Lib.hid h; clear h
    go_enter Tryz.func20, Tryz.ntmps20
    go_wp2_with fail
    refine calls_named fun W0 hW0 => ?_
    have hc0 : Ch [] w W0 := by rw [hW0]; exact ((Ch.refl _ _).alloc _).alloc _
    have hbg : blk W0 w.heap.size [.pointer (some ⟨g, 0, none⟩)] := by rw [hW0]; exact (blk.new' _ _ (by simp)).alloc _
    have hbn : blk W0 (w.heap.size + 1) [.int .i64 k0] := by rw [hW0]; exact blk.new' _ _ (by simp)
    have hn0 := hbn.cell (i := 0) rfl
    have hg0 := hbg.cell (i := 0) rfl
    clear hW0
    refine (hL W0 hc0).mono ?_
    rintro e w' ⟨rfl, rfl⟩
    have HBB := HB.out W0 hc0 hbg hbn
    have HC0 := Lib.hid hc0; clear hc0
    clear hbg hbn
    go_wp2_with fail
    refine (HR _).mono ?_
    rintro e w' ⟨rfl, rfl⟩
    go_wp2_with fail
    refine HBB.mono ?_
    rintro e w1 ⟨v, rfl, hg⟩
    have HG := Lib.hid hg; clear hg
    go_wp2_with fail
    go_ret2
    exact ⟨v, rfl, GVo.since HC0.out HG.out⟩
end
end Go.Proofs.YtchledddgmbndaaGreat
namespace Go.Proofs.YtchledddgmbndaaGreat
open Go.RowKit Go.Mem Go.Aig
section
variable {w0 w : World} {g : Nat} {G : Gra} {F : List Nat}
theorem row.slN {e : TypeId} {v : Value} {n : Nat} {l : List Nat} {a : Option Addr} {m c : Nat} (h : row w e 1 v n (refsCells l)) (hv : v = .slice a m c) (hn : n ≤ 1000000) : Sl w a (l.map fun (r : Nat) => (r : Int)) := by
  subst hv
  have h1 := h.1
  simp [refsCells] at h1
  refine ⟨fun i x hx => ?_, by simp; omega⟩
  rcases h.2 with ⟨e1, e2⟩ | ⟨b, cap, cur, e1, _⟩
  · subst e2
    have hl : l = [] := List.length_eq_zero_iff.1 h1
    subst hl
    simp at hx
  · cases e1
    refine ⟨b, 0, rfl, ?_⟩
    have := h.cells (g := b) rfl i (.int .i64 x) (by
      simp only [refsCells, List.getElem?_map, Option.map_eq_some_iff] at hx ⊢
      obtain ⟨r, hr, rfl⟩ := hx
      exact ⟨r, hr, rfl⟩)
    rw [Addr.add_lit] at this
    simpa using this
theorem New_c (n : Nat) (h1 : 1 ≤ n) (h2 : n ≤ 65536) (hc : Ch [] w0 w) :
    Calls Tryz.prog 10 #[.int .i64 n] w fun e w' => ∃ g F, e = .returned (.tuple #[.pointer (some ⟨g, 0, none⟩), .int .i64 0]) ∧ Own w0 w' g (newG n) F := by
  refine (New_yes n h1 h2).mono ?_
  rintro e w' ⟨g, F, rfl, hg, hF, hch⟩
  exact ⟨g, F, rfl, hg, fun k hk => Nat.le_trans hc.size (hF k hk), hc.trans hch (by simp)⟩
theorem Input_c (h : Own w0 w g G F) {G' : Gra} {r e : Int} (hr : ((doInput G).2.1 : Int) = r) (he : ((doInput G).2.2 : Int) = e) (hG : (doInput G).1 = G') :
    Calls Tryz.prog 63 #[.pointer (some ⟨g, 0, none⟩)] w fun en w' => en = .returned (.tuple #[.int .i64 r, .int .i64 e]) ∧ ∃ F', Own w0 w' g G' F' := by
  subst hr he hG
  exact (Input_g h.gin).mono fun en w' ⟨h1, h2⟩ => ⟨h1, h.to h2⟩
theorem And_c (h : Own w0 w g G F) (a b : Int) (ba : a ≤ 9223372036854775807) (bb : b ≤ 9223372036854775807) {G' : Gra} {r e : Int} (hr : ((doAnd G a b).2.1 : Int) = r) (he : ((doAnd G a b).2.2 : Int) = e) (hG : (doAnd G a b).1 = G') :
    Calls Tryz.prog 26 #[.pointer (some ⟨g, 0, none⟩), .int .i64 a, .int .i64 b] w fun en w' => en = .returned (.tuple #[.int .i64 r, .int .i64 e]) ∧ ∃ F', Own w0 w' g G' F' := by
  subst hr he hG
  exact (And_g h.gin a b ba bb).mono fun en w' ⟨h1, h2⟩ => ⟨h1, h.to h2⟩
theorem Or_c (h : Own w0 w g G F) (a b : Int) (ba : a ≤ 9223372036854775807) (bb : b ≤ 9223372036854775807) {G' : Gra} {r e : Int} (hr : ((doOr G a b).2.1 : Int) = r) (he : ((doOr G a b).2.2 : Int) = e) (hG : (doOr G a b).1 = G') :
    Calls Tryz.prog 88 #[.pointer (some ⟨g, 0, none⟩), .int .i64 a, .int .i64 b] w fun en w' => en = .returned (.tuple #[.int .i64 r, .int .i64 e]) ∧ ∃ F', Own w0 w' g G' F' := by
  subst hr he hG
  exact (Or_g h.gin a b ba bb).mono fun en w' ⟨h1, h2⟩ => ⟨h1, h.to h2⟩
theorem Xor_c (h : Own w0 w g G F) (a b : Int) (ba : a ≤ 9223372036854775807) (bb : b ≤ 9223372036854775807) {G' : Gra} {r e : Int} (hr : ((doXor G a b).2.1 : Int) = r) (he : ((doXor G a b).2.2 : Int) = e) (hG : (doXor G a b).1 = G') :
    Calls Tryz.prog 65 #[.pointer (some ⟨g, 0, none⟩), .int .i64 a, .int .i64 b] w fun en w' => en = .returned (.tuple #[.int .i64 r, .int .i64 e]) ∧ ∃ F', Own w0 w' g G' F' := by
  subst hr he hG
  exact (Xor_g h.gin a b ba bb).mono fun en w' ⟨h1, h2⟩ => ⟨h1, h.to h2⟩
theorem Sides_c (h : Own w0 w g G F) (a : Int) (ba : a ≤ 9223372036854775807) {l r : Int} {b : Bool} (hl : (lOf G.nodes a : Int) = l) (hr : (rOf G.nodes a : Int) = r) (hb : isAndAt G.nodes a = b) :
    Calls Tryz.prog 86 #[.pointer (some ⟨g, 0, none⟩), .int .i64 a] w fun en w' => en = .returned (.tuple #[.int .i64 l, .int .i64 r, .bool b]) ∧ Own w0 w' g G F := by
  subst hl hr hb
  exact (Sides_g h.gin a ba).mono fun en w' ⟨h1, h2⟩ => ⟨h1, h.same h2⟩
def aw1 : Gra := ⟨99, [⟨1, 0, 0, 0⟩, ⟨2, 0, 0, 0⟩]⟩
def aw2 : Gra := ⟨99, [⟨1, 0, 0, 0⟩, ⟨2, 0, 0, 0⟩, ⟨2, 0, 0, 0⟩]⟩
def aw3 : Gra := ⟨99, [⟨1, 0, 0, 0⟩, ⟨2, 0, 0, 0⟩, ⟨2, 0, 0, 0⟩, ⟨3, 2, 4, 1⟩]⟩
def aw4 : Gra := ⟨99, [⟨1, 0, 0, 0⟩, ⟨2, 0, 0, 0⟩, ⟨2, 0, 0, 0⟩, ⟨3, 2, 4, 1⟩, ⟨3, 3, 5, 1⟩]⟩
def aw5 : Gra := ⟨99, [⟨1, 0, 0, 0⟩, ⟨2, 0, 0, 0⟩, ⟨2, 0, 0, 0⟩, ⟨3, 2, 4, 1⟩, ⟨3, 3, 5, 1⟩, ⟨3, 2, 5, 1⟩, ⟨3, 3, 4, 1⟩, ⟨3, 11, 13, 2⟩]⟩
def ah1 : Gra := ⟨4, [⟨1, 0, 0, 0⟩, ⟨2, 0, 0, 0⟩]⟩
def ah2 : Gra := ⟨4, [⟨1, 0, 0, 0⟩, ⟨2, 0, 0, 0⟩, ⟨2, 0, 0, 0⟩]⟩
end
end Go.Proofs.YtchledddgmbndaaGreat
namespace Go.Aig
def natInts (l : List Nat) : List Int := l.map fun (r : Nat) => (r : Int)
@[simp] theorem natInts_len (l : List Nat) : (natInts l).length = l.length := by simp [natInts]
end Go.Aig
namespace Go.Proofs.YtchledddgmbndaaGreat
open Go.RowKit Go.Mem Go.Aig
theorem refs_natInts (l : List Nat) : refsCells l = intCells (natInts l) := by simp [refsCells, intCells, natInts]
/-- a word that is held: its own array, apart from the graph's blocks -/
structure Held (w0 w : World) (F : List Nat) (v : Value) (l : List Int) : Prop where
  row : row w 52 1 v l.length (intCells l)
  len : l.length ≤ 1000000
  bd : ∀ r ∈ l, -9223372036854775808 ≤ r ∧ r ≤ 9223372036854775807
  own : ∀ k, v.ownBlock = some k → w0.heap.size ≤ k ∧ k ∉ F
theorem Held.keep {w0 w w' : World} {F F' : List Nat} {v : Value} {l : List Int} (h : Held w0 w F v l) (hc : Ch F w w') (hF : ∀ k ∈ F', k ∈ F ∨ w.heap.size ≤ k) : Held w0 w' F' v l :=
  ⟨h.row.ch hc (fun k hk => (h.own k hk).2), h.len, h.bd, fun k hk => ⟨(h.own k hk).1, fun hk2 => (hF k hk2).elim (h.own k hk).2 (fun e => by have := (h.row.lt k hk).2; omega)⟩⟩
theorem Held.in {w0 w : World} {F : List Nat} {a : Option Addr} {c n : Nat} {l : List Int} (h : Held w0 w F (.slice a n c) l) (hn : l.length = n) : WVin w F ⟨a, l, c⟩ := by
  have hr := h.row
  rw [hn] at hr
  refine ⟨⟨?_, h.bd, h.len⟩, fun k hk => ?_⟩
  · exact Sl.of_ints hr (by have := h.len; omega)
  · cases a with
    | none => simp [ablk] at hk
    | some p =>
      simp only [ablk, List.mem_singleton] at hk
      subst hk
      exact ⟨(h.own p.block rfl).2, (h.row.lt p.block rfl).2⟩
theorem Held.cap {w0 w : World} {F : List Nat} {a : Option Addr} {c n : Nat} {l : List Int} (h : Held w0 w F (.slice a n c) l) : n ≤ c := by
  rcases h.row.2 with ⟨e, _⟩ | ⟨g, cap, cur, e, _, _, hle, _⟩
  · cases e; omega
  · cases e; exact hle
/-- where a walk began, and blocks that are kept as they are -/
structure Base where
  w : World
  K : List (Nat × List Value) := []
instance : Coe World Base := ⟨fun w => ⟨w, []⟩⟩
def Base.add (B : Base) (b : Nat) (xs : List Value) : Base := ⟨B.w, (b, xs) :: B.K⟩
/-- what is known along a walk: the graph, the words that are held, the blocks that are kept -/
structure Hold (w0 : Base) (w : World) (g : Nat) (G : Gra) (F : List Nat) (L : List (Value × List Int)) : Prop where
  own : Own w0.w w g G F
  held : ∀ p ∈ L, Held w0.w w F p.1 p.2
  kept : ∀ p ∈ w0.K, blk w p.1 p.2 ∧ w0.w.heap.size ≤ p.1 ∧ p.1 ∉ F
section
variable {w0 : Base} {w : World} {g : Nat} {G : Gra} {F : List Nat} {L : List (Value × List Int)}
theorem Hold.same {w' : World} (h : Hold w0 w g G F L) (hc : Ch [] w w') : Hold w0 w' g G F L :=
  ⟨h.own.same hc, fun p hp => (h.held p hp).keep (hc.mono (by simp)) (fun _ hk => .inl hk), fun p hp => ⟨(h.kept p hp).1.ch hc (by simp), (h.kept p hp).2⟩⟩
theorem Hold.keptTo {w' : World} {F' : List Nat} (h : Hold w0 w g G F L) (h2 : Ch F w w') (h3 : ∀ k ∈ F', k ∈ F ∨ w.heap.size ≤ k) : ∀ p ∈ w0.K, blk w' p.1 p.2 ∧ w0.w.heap.size ≤ p.1 ∧ p.1 ∉ F' := fun p hp => by
  obtain ⟨k1, k2, k3⟩ := h.kept p hp
  exact ⟨k1.ch h2 k3, k2, fun hin => (h3 _ hin).elim k3 (fun e => by have := k1.lt; omega)⟩
theorem Hold.to {w' : World} {G' : Gra} (h : Hold w0 w g G F L) (ht : GTo w g G' F w') : ∃ F', Hold w0 w' g G' F' L := by
  obtain ⟨F', h1, h2, h3, _⟩ := ht
  exact ⟨F', ⟨h1, fun k hk => (h3 k hk).elim (h.own.own k) (fun e => Nat.le_trans h.own.ch.size e), h.own.ch.trans h2 (fun k hk => .inr (h.own.own k hk))⟩, fun p hp => (h.held p hp).keep h2 h3, h.keptTo h2 h3⟩
theorem Hold.word {w' : World} {G' : Gra} {v : Value} {l : List Nat} (h : Hold w0 w g G F L) (ht : GVo w g G' [] F v l w') (hb : ∀ r ∈ l, r ≤ 1000000) (hl : l.length ≤ 1000000) : ∃ a c F', v = .slice a l.length c ∧ Hold w0 w' g G' F' ((.slice a l.length c, natInts l) :: L) := by
  obtain ⟨F', h1, h2, h3, h4, h5, h6⟩ := ht
  obtain ⟨a, c, rfl⟩ := row.shape h5
  obtain ⟨k1, k2⟩ := (h.to (G' := G') ⟨F', h1, h2, h3, h4⟩ : ∃ F', Hold w0 w' g G' F' L)
  refine ⟨a, c, F', rfl, ⟨⟨h1, fun k hk => (h3 k hk).elim (h.own.own k) (fun e => Nat.le_trans h.own.ch.size e), h.own.ch.trans h2 (fun k hk => .inr (h.own.own k hk))⟩, fun p hp => ?_, h.keptTo h2 h3⟩⟩
  rcases List.mem_cons.1 hp with rfl | hp
  · refine ⟨?_, by simpa using hl, fun r hr => ?_, fun k hk => ⟨Nat.le_trans h.own.ch.size (h6 k hk).1, (h6 k hk).2⟩⟩
    · simp only [natInts_len]
      rw [← refs_natInts]
      exact h5
    · obtain ⟨q, hq, rfl⟩ := List.mem_map.1 hr
      have := hb q hq
      omega
  · exact (h.held p hp).keep h2 h3
theorem Hold.new {w' : World} {v : Value} {l : List Int} (h : Hold w0 w g G F L) (ht : WNew w v (intCells l) w') (hb : ∀ r ∈ l, -9223372036854775808 ≤ r ∧ r ≤ 9223372036854775807) (hl : l.length ≤ 1000000) : ∃ a c, v = .slice a l.length c ∧ Hold w0 w' g G F ((.slice a l.length c, l) :: L) := by
  obtain ⟨h5, h6, h2⟩ := ht
  have e : (intCells l).length = l.length := by simp [intCells]
  rw [e] at h5
  obtain ⟨a, c, rfl⟩ := row.shape h5
  refine ⟨a, c, rfl, (h.same h2).own, fun p hp => ?_, (h.same h2).kept⟩
  rcases List.mem_cons.1 hp with rfl | hp
  · exact ⟨h5, hl, hb, fun k hk => ⟨Nat.le_trans h.own.ch.size (h6 k (by simpa using hk)), fun hk2 => by have := h.own.gin.lt k hk2; have := h6 k (by simpa using hk); omega⟩⟩
  · exact (h.same h2).held p hp
theorem Hold.at (h : Hold w0 w g G F L) {a : Option Addr} {n c : Nat} {l : List Int} (hp : (.slice a n c, l) ∈ L) (hn : l.length = n) : WVin w F ⟨a, l, c⟩ := (h.held _ hp).in hn
theorem Hold.sl (h : Hold w0 w g G F L) {a : Option Addr} {n c : Nat} {l : List Int} (hp : (.slice a n c, l) ∈ L) (hn : l.length = n) : Sl w a l := (h.at hp hn).ok.sl
theorem Hold.start {w0 : World} (h : Own w0 w g G F) : Hold w0 w g G F [] := ⟨h, by simp, fun p hp => by cases hp⟩
/-- a block is kept from now on -/
theorem Hold.keepB {b : Nat} {xs : List Value} (h : Hold w0 w g G F L) (hb : blk w b xs) (h0 : w0.w.heap.size ≤ b) (hF : b ∉ F) : Hold (w0.add b xs) w g G F L :=
  ⟨h.own, h.held, fun p hp => by
    rcases List.mem_cons.1 hp with rfl | hp
    · exact ⟨hb, h0, hF⟩
    · exact h.kept p hp⟩
theorem Hold.keepN {w' : World} {xs : List Value} (h : Hold w0 w g G F L) (hc : Ch [] w w') (hb : blk w' w.heap.size xs) : Hold (w0.add w.heap.size xs) w' g G F L :=
  (h.same hc).keepB hb h.own.ch.size (fun hin => Nat.lt_irrefl _ (h.own.gin.lt _ hin))
theorem Hold.dropB {b : Nat} {xs : List Value} (h : Hold (w0.add b xs) w g G F L) : Hold w0 w g G F L := ⟨h.own, h.held, fun p hp => h.kept p (List.mem_cons_of_mem _ hp)⟩
theorem Hold.kb0 {b : Nat} {xs : List Value} (h : Hold (w0.add b xs) w g G F L) : Go.Mem.blk w b xs := (h.kept (b, xs) (List.mem_cons_self ..)).1
theorem Hold.kb1 {b c : Nat} {xs ys : List Value} (h : Hold ((w0.add b xs).add c ys) w g G F L) : Go.Mem.blk w b xs := (h.kept (b, xs) (List.mem_cons_of_mem _ (List.mem_cons_self ..))).1
theorem Hold.kb {b : Nat} {xs : List Value} (h : Hold w0 w g G F L) (hm : (b, xs) ∈ w0.K) : blk w b xs := (h.kept _ hm).1
end
end Go.Proofs.YtchledddgmbndaaGreat
namespace Go.Proofs.YtchledddgmbndaaGreat
open Go.RowKit Go.Mem Go.Aig
section
variable {w0 : Base} {w : World} {g : Nat} {G : Gra} {F : List Nat} {L : List (Value × List Int)}
theorem Calls.word {fid : FuncId} {args : Array Value} (h : Hold w0 w g G F L) {R : Gra × List Nat × Nat} (hC : Calls Tryz.prog fid args w fun e w' => ∃ v, e = .returned (.tuple #[v, .int .i64 R.2.2]) ∧ GVo w g R.1 [] F v R.2.1 w') {G' : Gra} {l : List Nat} {e k : Nat} (hR : R = (G', l, e)) (hk : l.length = k) (hb : ∀ r ∈ l, r ≤ 1000000) (hl : k ≤ 1000000) :
    Calls Tryz.prog fid args w fun en w' => ∃ a c F', en = .returned (.tuple #[.slice a k c, .int .i64 e]) ∧ Hold w0 w' g G' F' ((.slice a k c, natInts l) :: L) := by
  subst hR hk
  refine hC.mono ?_
  rintro en w' ⟨v, rfl, hg⟩
  obtain ⟨a, c, F', rfl, hh⟩ := h.word hg hb hl
  exact ⟨a, c, F', rfl, hh⟩
theorem Calls.ref {fid : FuncId} {args : Array Value} (h : Hold w0 w g G F L) {R : Res} (hC : Calls Tryz.prog fid args w fun e w' => e = .returned (.tuple #[.int .i64 R.2.1, .int .i64 R.2.2]) ∧ GTo w g R.1 F w') {G' : Gra} {r e : Nat} (hR : R = (G', r, e)) :
    Calls Tryz.prog fid args w fun en w' => ∃ F', en = .returned (.tuple #[.int .i64 r, .int .i64 e]) ∧ Hold w0 w' g G' F' L := by
  subst hR
  refine hC.mono ?_
  rintro en w' ⟨rfl, hg⟩
  obtain ⟨F', hh⟩ := h.to hg
  exact ⟨F', rfl, hh⟩
theorem Calls.wnew {fid : FuncId} {args : Array Value} (h : Hold w0 w g G F L) {l : List Int} {e : Nat} (hC : Calls Tryz.prog fid args w fun en w' => ∃ v, en = .returned (.tuple #[v, .int .i64 e]) ∧ WNew w v (intCells l) w') {k : Nat} (hk : l.length = k) (hb : ∀ r ∈ l, -9223372036854775808 ≤ r ∧ r ≤ 9223372036854775807) (hl : k ≤ 1000000) :
    Calls Tryz.prog fid args w fun en w' => ∃ a c, en = .returned (.tuple #[.slice a k c, .int .i64 e]) ∧ Hold w0 w' g G F ((.slice a k c, l) :: L) := by
  subst hk
  refine hC.mono ?_
  rintro en w' ⟨v, rfl, hg⟩
  obtain ⟨a, c, rfl, hh⟩ := h.new hg hb hl
  exact ⟨a, c, rfl, hh⟩
theorem sAnd_h (h : Hold w0 w g G F L) {xa ya : Option Addr} {xl yl : List Int} {n m xc yc : Nat} (hx : (.slice xa n xc, xl) ∈ L) (hxn : xl.length = n) (hy : (.slice ya m yc, yl) ∈ L) (hym : yl.length = m) {G' : Gra} {l : List Nat} {e k : Nat} (hR : wordG G [xl, yl] (eachF (rop and) (G, 0) ((nats xl).zip (nats yl))) = (G', l, e)) (hk : l.length = k) (hb : ∀ r ∈ l, r ≤ 1000000) (hl : k ≤ 1000000) :
    Calls Tryz.prog 47 #[.pointer (some ⟨g, 0, none⟩), .slice xa n xc, .slice ya m yc] w fun en w' => ∃ a c F', en = .returned (.tuple #[.slice a k c, .int .i64 e]) ∧ Hold w0 w' g G' F' ((.slice a k c, natInts l) :: L) := by
  have hc := sAnd_is h.own.gin (h.at hx hxn) (h.at hy hym)
  simp only [WV.val, hxn, hym] at hc
  exact Calls.word h hc (hR) hk hb hl
theorem sOr_h (h : Hold w0 w g G F L) {xa ya : Option Addr} {xl yl : List Int} {n m xc yc : Nat} (hx : (.slice xa n xc, xl) ∈ L) (hxn : xl.length = n) (hy : (.slice ya m yc, yl) ∈ L) (hym : yl.length = m) {G' : Gra} {l : List Nat} {e k : Nat} (hR : wordG G [xl, yl] (eachF (rop rOr) (G, 0) ((nats xl).zip (nats yl))) = (G', l, e)) (hk : l.length = k) (hb : ∀ r ∈ l, r ≤ 1000000) (hl : k ≤ 1000000) :
    Calls Tryz.prog 48 #[.pointer (some ⟨g, 0, none⟩), .slice xa n xc, .slice ya m yc] w fun en w' => ∃ a c F', en = .returned (.tuple #[.slice a k c, .int .i64 e]) ∧ Hold w0 w' g G' F' ((.slice a k c, natInts l) :: L) := by
  have hc := sOr_is h.own.gin (h.at hx hxn) (h.at hy hym)
  simp only [WV.val, hxn, hym] at hc
  exact Calls.word h hc (hR) hk hb hl
theorem sXor_h (h : Hold w0 w g G F L) {xa ya : Option Addr} {xl yl : List Int} {n m xc yc : Nat} (hx : (.slice xa n xc, xl) ∈ L) (hxn : xl.length = n) (hy : (.slice ya m yc, yl) ∈ L) (hym : yl.length = m) {G' : Gra} {l : List Nat} {e k : Nat} (hR : wordG G [xl, yl] (eachF (rop rXor) (G, 0) ((nats xl).zip (nats yl))) = (G', l, e)) (hk : l.length = k) (hb : ∀ r ∈ l, r ≤ 1000000) (hl : k ≤ 1000000) :
    Calls Tryz.prog 21 #[.pointer (some ⟨g, 0, none⟩), .slice xa n xc, .slice ya m yc] w fun en w' => ∃ a c F', en = .returned (.tuple #[.slice a k c, .int .i64 e]) ∧ Hold w0 w' g G' F' ((.slice a k c, natInts l) :: L) := by
  have hc := sXor_is h.own.gin (h.at hx hxn) (h.at hy hym)
  simp only [WV.val, hxn, hym] at hc
  exact Calls.word h hc (hR) hk hb hl
theorem sAdd_h (h : Hold w0 w g G F L) {xa ya : Option Addr} {xl yl : List Int} {n m xc yc : Nat} (hx : (.slice xa n xc, xl) ∈ L) (hxn : xl.length = n) (hy : (.slice ya m yc, yl) ∈ L) (hym : yl.length = m) {G' : Gra} {l : List Nat} {e k : Nat} (hR : wordG G [xl, yl] (sumW xl.length (G, 0) ((nats xl).zip (nats yl)) 0) = (G', l, e)) (hk : l.length = k) (hb : ∀ r ∈ l, r ≤ 1000000) (hl : k ≤ 1000000) :
    Calls Tryz.prog 49 #[.pointer (some ⟨g, 0, none⟩), .slice xa n xc, .slice ya m yc] w fun en w' => ∃ a c F', en = .returned (.tuple #[.slice a k c, .int .i64 e]) ∧ Hold w0 w' g G' F' ((.slice a k c, natInts l) :: L) := by
  have hc := sAdd_is h.own.gin (h.at hx hxn) (h.at hy hym)
  simp only [WV.val, hxn, hym] at hc
  exact Calls.word h hc (by simpa only [hxn] using hR) hk hb hl
theorem sSub_h (h : Hold w0 w g G F L) {xa ya : Option Addr} {xl yl : List Int} {n m xc yc : Nat} (hx : (.slice xa n xc, xl) ∈ L) (hxn : xl.length = n) (hy : (.slice ya m yc, yl) ∈ L) (hym : yl.length = m) {G' : Gra} {l : List Nat} {e k : Nat} (hR : subG G xl yl = (G', l, e)) (hk : l.length = k) (hb : ∀ r ∈ l, r ≤ 1000000) (hl : k ≤ 1000000) :
    Calls Tryz.prog 22 #[.pointer (some ⟨g, 0, none⟩), .slice xa n xc, .slice ya m yc] w fun en w' => ∃ a c F', en = .returned (.tuple #[.slice a k c, .int .i64 e]) ∧ Hold w0 w' g G' F' ((.slice a k c, natInts l) :: L) := by
  have hc := sSub_is h.own.gin (h.at hx hxn) (h.at hy hym)
  simp only [WV.val, hxn, hym] at hc
  exact Calls.word h hc (by simpa only [subG, hxn] using hR) hk hb hl
theorem sNe_h (h : Hold w0 w g G F L) {xa ya : Option Addr} {xl yl : List Int} {n m xc yc : Nat} (hx : (.slice xa n xc, xl) ∈ L) (hxn : xl.length = n) (hy : (.slice ya m yc, yl) ∈ L) (hym : yl.length = m) {G' : Gra} {r e : Nat} (hR : refG G [xl, yl] (neF (G, 0) ((nats xl).zip (nats yl))) = (G', r, e)) :
    Calls Tryz.prog 50 #[.pointer (some ⟨g, 0, none⟩), .slice xa n xc, .slice ya m yc] w fun en w' => ∃ F', en = .returned (.tuple #[.int .i64 r, .int .i64 e]) ∧ Hold w0 w' g G' F' L := by
  have hc := sNe_is h.own.gin (h.at hx hxn) (h.at hy hym)
  simp only [WV.val, hxn, hym] at hc
  exact Calls.ref h hc (hR)
theorem sLt_h (h : Hold w0 w g G F L) {xa ya : Option Addr} {xl yl : List Int} {n m xc yc : Nat} (hx : (.slice xa n xc, xl) ∈ L) (hxn : xl.length = n) (hy : (.slice ya m yc, yl) ∈ L) (hym : yl.length = m) {G' : Gra} {r e : Nat} (hR : refG G [xl, yl] (ltF (G, 0) ((nats xl).zip (nats yl))) = (G', r, e)) :
    Calls Tryz.prog 23 #[.pointer (some ⟨g, 0, none⟩), .slice xa n xc, .slice ya m yc] w fun en w' => ∃ F', en = .returned (.tuple #[.int .i64 r, .int .i64 e]) ∧ Hold w0 w' g G' F' L := by
  have hc := sLt_is h.own.gin (h.at hx hxn) (h.at hy hym)
  simp only [WV.val, hxn, hym] at hc
  exact Calls.ref h hc (hR)
theorem sEq_h (h : Hold w0 w g G F L) {xa ya : Option Addr} {xl yl : List Int} {n m xc yc : Nat} (hx : (.slice xa n xc, xl) ∈ L) (hxn : xl.length = n) (hy : (.slice ya m yc, yl) ∈ L) (hym : yl.length = m) {G' : Gra} {r e : Nat} (hR : negG (refG G [xl, yl] (neF (G, 0) ((nats xl).zip (nats yl)))) = (G', r, e)) :
    Calls Tryz.prog 25 #[.pointer (some ⟨g, 0, none⟩), .slice xa n xc, .slice ya m yc] w fun en w' => ∃ F', en = .returned (.tuple #[.int .i64 r, .int .i64 e]) ∧ Hold w0 w' g G' F' L := by
  have hc := sEq_is h.own.gin (h.at hx hxn) (h.at hy hym)
  simp only [WV.val, hxn, hym] at hc
  exact Calls.ref h hc (hR)
theorem sLe_h (h : Hold w0 w g G F L) {xa ya : Option Addr} {xl yl : List Int} {n m xc yc : Nat} (hx : (.slice xa n xc, xl) ∈ L) (hxn : xl.length = n) (hy : (.slice ya m yc, yl) ∈ L) (hym : yl.length = m) {G' : Gra} {r e : Nat} (hR : negG (refG G [yl, xl] (ltF (G, 0) ((nats yl).zip (nats xl)))) = (G', r, e)) :
    Calls Tryz.prog 51 #[.pointer (some ⟨g, 0, none⟩), .slice xa n xc, .slice ya m yc] w fun en w' => ∃ F', en = .returned (.tuple #[.int .i64 r, .int .i64 e]) ∧ Hold w0 w' g G' F' L := by
  have hc := sLe_is h.own.gin (h.at hx hxn) (h.at hy hym)
  simp only [WV.val, hxn, hym] at hc
  exact Calls.ref h hc (hR)
theorem sNot_h (h : Hold w0 w g G F L) {xa : Option Addr} {xl : List Int} {n xc : Nat} (hx : (.slice xa n xc, xl) ∈ L) (hxn : xl.length = n) {G' : Gra} {l : List Nat} {e k : Nat} (hR : wordG G [xl] ((G, 0), (nats xl).map neg) = (G', l, e)) (hk : l.length = k) (hb : ∀ r ∈ l, r ≤ 1000000) (hl : k ≤ 1000000) :
    Calls Tryz.prog 45 #[.pointer (some ⟨g, 0, none⟩), .slice xa n xc] w fun en w' => ∃ a c F', en = .returned (.tuple #[.slice a k c, .int .i64 e]) ∧ Hold w0 w' g G' F' ((.slice a k c, natInts l) :: L) := by
  have hc := sNot_is h.own.gin (h.at hx hxn)
  simp only [WV.val, hxn] at hc
  exact Calls.word h hc hR hk hb hl
theorem sNeg_h (h : Hold w0 w g G F L) {xa : Option Addr} {xl : List Int} {n xc : Nat} (hx : (.slice xa n xc, xl) ∈ L) (hxn : xl.length = n) {G' : Gra} {l : List Nat} {e k : Nat} (hR : subG G (List.replicate n 0) xl = (G', l, e)) (hk : l.length = k) (hb : ∀ r ∈ l, r ≤ 1000000) (hl : k ≤ 1000000) :
    Calls Tryz.prog 46 #[.pointer (some ⟨g, 0, none⟩), .slice xa n xc] w fun en w' => ∃ a c F', en = .returned (.tuple #[.slice a k c, .int .i64 e]) ∧ Hold w0 w' g G' F' ((.slice a k c, natInts l) :: L) := by
  have hc := sNeg_is h.own.gin (h.at hx hxn)
  simp only [WV.val, hxn] at hc
  exact Calls.word h hc hR hk hb hl
theorem sAny_h (h : Hold w0 w g G F L) {xa : Option Addr} {xl : List Int} {n xc : Nat} (hx : (.slice xa n xc, xl) ∈ L) (hxn : xl.length = n) {G' : Gra} {r e : Nat} (hR : refG G [xl] (sAny (G, 0) (nats xl)) = (G', r, e)) :
    Calls Tryz.prog 17 #[.pointer (some ⟨g, 0, none⟩), .slice xa n xc] w fun en w' => ∃ F', en = .returned (.tuple #[.int .i64 r, .int .i64 e]) ∧ Hold w0 w' g G' F' L := by
  have hc := sAny_is h.own.gin (h.at hx hxn)
  simp only [WV.val, hxn] at hc
  exact Calls.ref h hc hR
theorem sInput_h (h : Hold w0 w g G F L) (i : Int) {G' : Gra} {l : List Nat} {e k : Nat} (hR : inG G i = (G', l, e)) (hk : l.length = k) (hb : ∀ r ∈ l, r ≤ 1000000) (hl : k ≤ 1000000) :
    Calls Tryz.prog 20 #[.pointer (some ⟨g, 0, none⟩), .int .i64 i] w fun en w' => ∃ a c F', en = .returned (.tuple #[.slice a k c, .int .i64 e]) ∧ Hold w0 w' g G' F' ((.slice a k c, natInts l) :: L) := Calls.word h (sInput_is h.own.gin i) hR hk hb hl
theorem sConst_h (h : Hold w0 w g G F L) (x : Nat) (hx : x < 4294967296) (n : Nat) (hn : rightW n = true) :
    Calls Tryz.prog 11 #[.int .u32 x, .int .i64 n] w fun en w' => ∃ a c, en = .returned (.tuple #[.slice a n c, .int .i64 0]) ∧ Hold w0 w' g G F ((.slice a n c, natInts (constL x n)) :: L) := by
  have hc := sConst_is (w := w) x hx n
  rw [hn] at hc
  simp only [if_true, refs_natInts, Int.toNat_natCast] at hc
  have hb : ∀ r ∈ natInts (constL x n), -9223372036854775808 ≤ r ∧ r ≤ 9223372036854775807 := fun r hr => by
    obtain ⟨q, hq, rfl⟩ := List.mem_map.1 hr
    obtain ⟨i, _, rfl⟩ := List.mem_map.1 hq
    cases x.testBit i <;> decide
  have hn2 : n ≤ 17 := by unfold rightW at hn; simp at hn; omega
  exact Calls.wnew h hc (by simp [constL]) hb (by omega)
theorem sCast_h (h : Hold w0 w g G F L) {xa : Option Addr} {xl : List Int} {n xc : Nat} (hx : (.slice xa n xc, xl) ∈ L) (hxn : xl.length = n) (i : Nat) (hi : rightW i = true) (hn : rightW n = true) :
    Calls Tryz.prog 27 #[.slice xa n xc, .int .i64 i] w fun en w' => ∃ a c, en = .returned (.tuple #[.slice a i c, .int .i64 0]) ∧ Hold w0 w' g G F ((.slice a i c, castL xl i) :: L) := by
  have hc := sCast_is (h.at hx hxn).ok (by have := (h.held _ hx).cap; simp only [hxn]; omega) i
  simp only [WV.val, hxn, hi, hn, Bool.and_self, if_true, Int.toNat_natCast] at hc
  have hi2 : i ≤ 17 := by unfold rightW at hi; simp at hi; omega
  refine Calls.wnew h hc ?_ (fun r hr => ?_) (by omega)
  · unfold castL; rw [List.length_append, List.length_take, List.length_replicate]; omega
  · unfold castL at hr
    rcases List.mem_append.1 hr with hr | hr
    · exact (h.at hx hxn).ok.bd r (List.mem_of_mem_take hr)
    · rw [(List.mem_replicate.1 hr).2]; omega
theorem Eqref_h (h : Hold w0 w g G F L) {xa ya : Option Addr} {xl yl : List Int} {n m xc yc : Nat} (hx : (.slice xa n xc, xl) ∈ L) (hxn : xl.length = n) (hy : (.slice ya m yc, yl) ∈ L) (hym : yl.length = m) {q : Bool} (hq : decide (xl = yl) = q) : Calls Tryz.prog 24 #[.slice xa n xc, .slice ya m yc] w fun e w' => e = .returned (.bool q) ∧ Hold w0 w' g G F L := by
  subst hq
  have hc := Eqref_is (w := w) xc yc (h.sl hx hxn) (h.sl hy hym)
  simp only [hxn, hym] at hc
  refine hc.mono ?_
  rintro e w' ⟨rfl, hc⟩
  exact ⟨rfl, h.same hc⟩
theorem Eqref_c (h : Hold w0 w g G F L) {xa : Option Addr} {xl : List Int} {n xc : Nat} (hx : (.slice xa n xc, xl) ∈ L) (hxn : xl.length = n) {b m : Nat} {ys : List Int} (hb : blk w b (intCells ys)) (hm : ys.length = m) (hm2 : m ≤ 1000000) {q : Bool} (hq : decide (xl = ys) = q) : Calls Tryz.prog 24 #[.slice xa n xc, .slice (some ⟨b, 0, none⟩) m m] w fun e w' => e = .returned (.bool q) ∧ Hold w0 w' g G F L := by
  subst hq
  have hs : Sl w (some ⟨b, 0, none⟩) ys := ⟨fun i x hx => ⟨b, 0, rfl, by rw [Nat.zero_add]; exact hb.cell (by simp [intCells, hx])⟩, by omega⟩
  have hc := Eqref_is (w := w) xc m (h.sl hx hxn) hs
  simp only [hxn, hm] at hc
  refine hc.mono ?_
  rintro e w' ⟨rfl, hc⟩
  exact ⟨rfl, h.same hc⟩
theorem sValue_c (h : Hold w0 w g G F L) {xa : Option Addr} {xl : List Int} {n xc : Nat} (hx : (.slice xa n xc, xl) ∈ L) (hxn : xl.length = n) {b m : Nat} {l : List Bool} (hb : blk w b (l.map Value.bool)) (hm : l.length = m) (hm2 : m ≤ 1000000) {v e : Nat} (hv : (if 1 ≤ l.length ∧ l.length ≤ 16 ∧ l.length = n then bitsVal l else 0 : Nat) = v) (he : (if 1 ≤ l.length ∧ l.length ≤ 16 ∧ l.length = n then 0 else 230 : Nat) = e) :
    Calls Tryz.prog 28 #[.slice xa n xc, .slice (some ⟨b, 0, none⟩) m m] w fun en w' => en = .returned (.tuple #[.int .u32 v, .int .i64 e]) ∧ Hold w0 w' g G F L := by
  subst hv he
  have hs : Sb w (some ⟨b, 0, none⟩) l := ⟨fun i x hx => ⟨b, 0, rfl, by rw [Nat.zero_add]; exact hb.cell hx⟩, by rw [List.length_map]; omega⟩
  have hc := sValue_is (x := ⟨xa, xl, xc⟩) (h.at hx hxn).ok.len m (by omega) hs
  simp only [WV.val, hxn, hm] at hc ⊢
  refine hc.mono ?_
  rintro en w' ⟨rfl, rfl⟩
  exact ⟨rfl, h⟩
end
end Go.Proofs.YtchledddgmbndaaGreat
namespace Go.Proofs.YtchledddgmbndaaGreat
open Go.RowKit Go.Mem Go.Aig
def sa2 : Gra := ⟨50, [⟨1, 0, 0, 0⟩, ⟨2, 0, 0, 0⟩, ⟨2, 0, 0, 0⟩]⟩
def sa3 : Gra := ⟨50, [⟨1, 0, 0, 0⟩, ⟨2, 0, 0, 0⟩, ⟨2, 0, 0, 0⟩, ⟨2, 0, 0, 0⟩, ⟨2, 0, 0, 0⟩]⟩
def sa4 : Gra := ⟨50, [⟨1, 0, 0, 0⟩, ⟨2, 0, 0, 0⟩, ⟨2, 0, 0, 0⟩, ⟨2, 0, 0, 0⟩, ⟨2, 0, 0, 0⟩, ⟨3, 2, 7, 1⟩, ⟨3, 3, 6, 1⟩, ⟨3, 11, 13, 2⟩, ⟨3, 4, 9, 1⟩, ⟨3, 5, 8, 1⟩, ⟨3, 17, 19, 2⟩]⟩
def sa5 : Gra := ⟨50, [⟨1, 0, 0, 0⟩, ⟨2, 0, 0, 0⟩, ⟨2, 0, 0, 0⟩, ⟨2, 0, 0, 0⟩, ⟨2, 0, 0, 0⟩, ⟨3, 2, 7, 1⟩, ⟨3, 3, 6, 1⟩, ⟨3, 11, 13, 2⟩, ⟨3, 4, 9, 1⟩, ⟨3, 5, 8, 1⟩, ⟨3, 17, 19, 2⟩, ⟨3, 2, 4, 1⟩]⟩
section
theorem New_h {w : World} (n : Nat) (h1 : 1 ≤ n) (h2 : n ≤ 65536) :
    Calls Tryz.prog 10 #[.int .i64 n] w fun e w' => ∃ g F, e = .returned (.tuple #[.pointer (some ⟨g, 0, none⟩), .int .i64 0]) ∧ Hold w w' g (newG n) F [] := by
  refine (New_c (w0 := w) n h1 h2 (Ch.refl _ _)).mono ?_
  rintro e w' ⟨g, F, rfl, ho⟩
  exact ⟨g, F, rfl, .start ho⟩
theorem Hold.ch {w0 : Base} {w : World} {g : Nat} {G : Gra} {F : List Nat} {L : List (Value × List Int)} (h : Hold w0 w g G F L) : Ch [] w0.w w := h.own.ch
theorem Len_h {w0 : Base} {w : World} {g : Nat} {G : Gra} {F : List Nat} {L : List (Value × List Int)} (h : Hold w0 w g G F L) {n : Nat} (hn : G.nodes.length = n) : Calls Tryz.prog 19 #[.pointer (some ⟨g, 0, none⟩)] w fun e w' => e = .returned (.int .i64 n) ∧ Hold w0 w' g G F L := by
  subst hn
  exact (Len_g h.own.gin).mono fun e w' ⟨h1, h2⟩ => ⟨h1, h2 ▸ h⟩
theorem And_h {w0 : Base} {w : World} {g : Nat} {G : Gra} {F : List Nat} {L : List (Value × List Int)} (h : Hold w0 w g G F L) (a b : Int) (ba : a ≤ 9223372036854775807) (bb : b ≤ 9223372036854775807) {G' : Gra} {r e : Nat} (hR : doAnd G a b = (G', r, e)) :
    Calls Tryz.prog 26 #[.pointer (some ⟨g, 0, none⟩), .int .i64 a, .int .i64 b] w fun en w' => ∃ F', en = .returned (.tuple #[.int .i64 r, .int .i64 e]) ∧ Hold w0 w' g G' F' L := Calls.ref h (And_g h.own.gin a b ba bb) hR
set_option maxRecDepth 100000 in
set_option maxHeartbeats 4000000 in
theorem awake23_is (w : World) : Calls Tryz.prog 6 #[] w fun e w' => e = .returned (.bool true) ∧ Ch [] w w' := by
  have hN := New_h (w := w) 50 (by decide) (by decide)
  have HN := Lib.hid hN; clear hN
  go_enter Tryz.func6, Tryz.ntmps6
  go_wp2_with fail
  refine HN.out.mono ?_
  rintro e w1 ⟨g, F1, rfl, ho⟩
  have HO := Lib.hid ho; clear ho HN
  go_wp2_with fail
  refine (sInput_h HO.out 2 (G' := sa2) (l := [2, 4]) (e := 0) (k := 2) (by kernel_rfl) rfl (by decide) (by decide)).mono ?_
  rintro e w2 ⟨a1, c1, F2, rfl, ho⟩
  clear HO; have HO := Lib.hid ho; clear ho
  go_wp2_with fail
  refine (sInput_h HO.out 2 (G' := sa3) (l := [6, 8]) (e := 0) (k := 2) (by kernel_rfl) rfl (by decide) (by decide)).mono ?_
  rintro e w3 ⟨a2, c2, F3, rfl, ho⟩
  clear HO; have HO := Lib.hid ho; clear ho
  go_wp2_with fail
  refine (sXor_h HO.out (xa := a1) (xc := c1) (n := 2) (xl := natInts [2, 4]) (by simp) rfl (ya := a2) (yc := c2) (m := 2) (yl := natInts [6, 8]) (by simp) rfl (G' := sa4) (l := [15, 21]) (e := 0) (k := 2) (by kernel_rfl) rfl (by decide) (by decide)).mono ?_
  rintro e w4 ⟨a3, c3, F4, rfl, ho⟩
  clear HO; have HO := Lib.hid ho; clear ho
  go_wp2_with fail
  refine (Len_h HO.out (n := 11) rfl).mono ?_
  rintro e w5 ⟨rfl, ho⟩
  clear HO; have HO := Lib.hid ho; clear ho
  go_wp2_with fail
  refine (sSub_h HO.out (xa := a1) (xc := c1) (n := 2) (xl := natInts [2, 4]) (by simp) rfl (ya := a1) (yc := c1) (m := 2) (yl := natInts [2, 4]) (by simp) rfl (G' := sa4) (l := [0, 0]) (e := 0) (k := 2) (by kernel_rfl) rfl (by decide) (by decide)).mono ?_
  rintro e w6 ⟨a4, c4, F5, rfl, ho⟩
  clear HO; have HO := Lib.hid ho; clear ho
  go_wp2_with fail
  refine (sLt_h HO.out (xa := a1) (xc := c1) (n := 2) (xl := natInts [2, 4]) (by simp) rfl (ya := a1) (yc := c1) (m := 2) (yl := natInts [2, 4]) (by simp) rfl (G' := sa4) (r := 0) (e := 0) (by kernel_rfl)).mono ?_
  rintro e w7 ⟨F6, rfl, ho⟩
  clear HO; have HO := Lib.hid ho; clear ho
  go_wp2_with fail
  have ho := HO.out.same ((Ch.refl [] w7).alloc (.cells #[.int .i64 2, .int .i64 4] 52))
  clear HO; have HO := Lib.hid ho; clear ho
  refine (Eqref_c HO.out (xa := a1) (xc := c1) (n := 2) (xl := natInts [2, 4]) (by simp) rfl (b := w7.heap.size) (m := 2) (ys := [2, 4]) (blk.new' _ _ rfl) rfl (by decide) (q := true) (by decide)).mono ?_
  rintro e w8 ⟨rfl, ho⟩
  clear HO; have HO := Lib.hid ho; clear ho
  go_wp2_with fail
  have ho := HO.out.same ((Ch.refl [] w8).alloc (.cells #[.int .i64 6, .int .i64 8] 52))
  clear HO; have HO := Lib.hid ho; clear ho
  refine (Eqref_c HO.out (xa := a2) (xc := c2) (n := 2) (xl := natInts [6, 8]) (by simp) rfl (b := w8.heap.size) (m := 2) (ys := [6, 8]) (blk.new' _ _ rfl) rfl (by decide) (q := true) (by decide)).mono ?_
  rintro e w9 ⟨rfl, ho⟩
  clear HO; have HO := Lib.hid ho; clear ho
  go_wp2_with fail
  have ho := HO.out.same ((Ch.refl [] w9).alloc (.cells #[.int .i64 15, .int .i64 21] 52))
  clear HO; have HO := Lib.hid ho; clear ho
  refine (Eqref_c HO.out (xa := a3) (xc := c3) (n := 2) (xl := natInts [15, 21]) (by simp) rfl (b := w9.heap.size) (m := 2) (ys := [15, 21]) (blk.new' _ _ rfl) rfl (by decide) (q := true) (by decide)).mono ?_
  rintro e w10 ⟨rfl, ho⟩
  clear HO; have HO := Lib.hid ho; clear ho
  go_wp2_with fail
  have ho := HO.out.same ((Ch.refl [] w10).alloc (.cells #[.int .i64 0, .int .i64 0] 52))
  clear HO; have HO := Lib.hid ho; clear ho
  refine (Eqref_c HO.out (xa := a4) (xc := c4) (n := 2) (xl := natInts [0, 0]) (by simp) rfl (b := w10.heap.size) (m := 2) (ys := [0, 0]) (blk.new' _ _ rfl) rfl (by decide) (q := true) (by decide)).mono ?_
  rintro e w11 ⟨rfl, ho⟩
  clear HO; have HO := Lib.hid ho; clear ho
  go_wp2_with fail
  refine (Len_h HO.out (n := 11) rfl).mono ?_
  rintro e w12 ⟨rfl, ho⟩
  clear HO; have HO := Lib.hid ho; clear ho
  go_wp2_with fail
  refine (sConst_h HO.out 3 (by decide) 2 rfl).mono ?_
  rintro e w13 ⟨a5, c5, rfl, ho⟩
  clear HO; have HO := Lib.hid ho; clear ho
  go_wp2_with fail
  refine (sEq_h HO.out (xa := a1) (xc := c1) (n := 2) (xl := natInts [2, 4]) (by simp) rfl (ya := a5) (yc := c5) (m := 2) (yl := natInts (constL 3 2)) (by simp) rfl (G' := sa5) (r := 22) (e := 0) (by kernel_rfl)).mono ?_
  rintro e w14 ⟨F7, rfl, ho⟩
  clear HO; have HO := Lib.hid ho; clear ho
  go_wp2_with fail
  refine (And_h HO.out 2 4 (by decide) (by decide) (G' := sa5) (r := 22) (e := 0) (by kernel_rfl)).mono ?_
  rintro e w15 ⟨F8, rfl, ho⟩
  clear HO; have HO := Lib.hid ho; clear ho
  go_wp2_with fail
  refine (sCast_h HO.out (xa := a1) (xc := c1) (n := 2) (xl := natInts [2, 4]) (by simp) rfl 3 rfl rfl).mono ?_
  rintro e w16 ⟨a6, c6, rfl, ho⟩
  clear HO; have HO := Lib.hid ho; clear ho
  go_wp2_with fail
  refine (sCast_h HO.out (xa := a1) (xc := c1) (n := 2) (xl := natInts [2, 4]) (by simp) rfl 1 rfl rfl).mono ?_
  rintro e w17 ⟨a7, c7, rfl, ho⟩
  clear HO; have HO := Lib.hid ho; clear ho
  go_wp2_with fail
  have ho := HO.out.same ((Ch.refl [] w17).alloc (.cells #[.bool false, .bool true] 4))
  clear HO; have HO := Lib.hid ho; clear ho
  refine (sValue_c HO.out (xa := a1) (xc := c1) (n := 2) (xl := natInts [2, 4]) (by simp) rfl (b := w17.heap.size) (m := 2) (l := [false, true]) (blk.new' _ _ rfl) rfl (by decide) (v := 2) (e := 0) (by decide) (by decide)).mono ?_
  rintro e w18 ⟨rfl, ho⟩
  clear HO; have HO := Lib.hid ho; clear ho
  go_wp2_with fail
  refine (sConst_h HO.out 5 (by decide) 4 rfl).mono ?_
  rintro e w19 ⟨a8, c8, rfl, ho⟩
  clear HO; have HO := Lib.hid ho; clear ho
  go_wp2_with fail
  have ho := HO.out.same ((Ch.refl [] w19).alloc (.cells #[.int .i64 2, .int .i64 4, .int .i64 0] 52))
  clear HO; have HO := Lib.hid ho; clear ho
  refine (Eqref_c HO.out (xa := a6) (xc := c6) (n := 3) (xl := castL (natInts [2, 4]) 3) (by simp) rfl (b := w19.heap.size) (m := 3) (ys := [2, 4, 0]) (blk.new' _ _ rfl) rfl (by decide) (q := true) (by decide)).mono ?_
  rintro e w20 ⟨rfl, ho⟩
  clear HO; have HO := Lib.hid ho; clear ho
  go_wp2_with fail
  have ho := HO.out.same ((Ch.refl [] w20).alloc (.cells #[.int .i64 2] 52))
  clear HO; have HO := Lib.hid ho; clear ho
  refine (Eqref_c HO.out (xa := a7) (xc := c7) (n := 1) (xl := castL (natInts [2, 4]) 1) (by simp) rfl (b := w20.heap.size) (m := 1) (ys := [2]) (blk.new' _ _ rfl) rfl (by decide) (q := true) (by decide)).mono ?_
  rintro e w21 ⟨rfl, ho⟩
  clear HO; have HO := Lib.hid ho; clear ho
  go_wp2_with fail
  have ho := HO.out.same ((Ch.refl [] w21).alloc (.cells #[.int .i64 1, .int .i64 0, .int .i64 1, .int .i64 0] 52))
  clear HO; have HO := Lib.hid ho; clear ho
  refine (Eqref_c HO.out (xa := a8) (xc := c8) (n := 4) (xl := natInts (constL 5 4)) (by simp) rfl (b := w21.heap.size) (m := 4) (ys := [1, 0, 1, 0]) (blk.new' _ _ rfl) rfl (by decide) (q := true) (by decide)).mono ?_
  rintro e w22 ⟨rfl, ho⟩
  clear HO; have HO := Lib.hid ho; clear ho
  go_wp2_with fail
  go_ret
  exact ⟨rfl, HO.out.ch⟩
end
end Go.Proofs.YtchledddgmbndaaGreat
namespace Go.Aig
/-- a graph of inputs alone -/
def gIn (most n : Nat) : Gra := ⟨most, ⟨1, 0, 0, 0⟩ :: List.replicate n ⟨2, 0, 0, 0⟩⟩
/-- the references of n inputs behind s others -/
def rIn (s n : Nat) : List Nat := (List.range n).map fun i => 2 * (s + i + 1)
theorem inF_gIn (most s : Nat) : ∀ n, s + n < most → inF (gIn most s, 0) n = ((gIn most (s + n), 0), rIn s n)
  | 0, _ => rfl
  | n + 1, h => by
    rw [inF_succ, inF_gIn most s n (by omega)]
    unfold inS sPut put
    have hl : (gIn most (s + n)).nodes.length = s + n + 1 := by simp [gIn]
    dsimp only
    rw [if_neg (by rw [hl]; show ¬ most ≤ s + n + 1; omega), rstep_ok rfl rfl, hl]
    have h1 : ({ gIn most (s + n) with nodes := (gIn most (s + n)).nodes ++ [⟨2, 0, 0, 0⟩] } : Gra) = gIn most (s + (n + 1)) := by
      unfold gIn
      show (⟨most, _⟩ : Gra) = ⟨most, _⟩
      rw [List.cons_append, ← List.replicate_succ']
      rfl
    dsimp only
    rw [h1]
    congr 1
    unfold rIn
    rw [List.range_succ, List.map_append]
    rfl
theorem inG_gIn {most s n : Nat} (h1 : 1 ≤ n) (h2 : n ≤ 17) (h : s + n < most) : inG (gIn most s) n = (gIn most (s + n), rIn s n, 0) := by
  unfold inG
  have : rightW n = true := by unfold rightW; simp; omega
  rw [this, if_pos rfl]
  simp only [Int.toNat_natCast]
  rw [inF_gIn most s n h]
  rfl
@[simp] theorem rIn_len (s n : Nat) : (rIn s n).length = n := by simp [rIn]
theorem rIn_le {s n r : Nat} (h : r ∈ rIn s n) : r ≤ 2 * (s + n) ∧ 2 ≤ r ∧ r % 2 = 0 := by
  obtain ⟨i, hi, rfl⟩ := List.mem_map.1 h
  have := List.mem_range.1 hi
  omega
end Go.Aig
namespace Go.Proofs.YtchledddgmbndaaGreat
open Go.RowKit Go.Mem Go.Aig
end Go.Proofs.YtchledddgmbndaaGreat
namespace Go.Aig
/-- the reference's constants: numbers that are halved -/
def rConstL (x : Int) : Nat → List Int
  | 0 => []
  | n + 1 => rConstL x n ++ [x.tdiv (2 ^ n) % 2]
def rCastL (l : List Int) (n : Nat) : List Int := (List.range n).map fun i => l.getD i 0
theorem rCastL_succ (l : List Int) (n : Nat) : rCastL l (n + 1) = rCastL l n ++ [l.getD n 0] := by
  unfold rCastL
  rw [List.range_succ, List.map_append]; rfl
def halved (x : Nat) (n : Nat) : Nat := x / 2 ^ n
def rConstN (x n : Nat) : List Nat := (List.range n).map fun i => x / 2 ^ i % 2
theorem rConstN_succ (x n : Nat) : rConstN x (n + 1) = rConstN x n ++ [x / 2 ^ n % 2] := by
  unfold rConstN
  rw [List.range_succ, List.map_append]; rfl
theorem rConstN_eq (x n : Nat) : rConstN x n = constL x n := by
  unfold rConstN constL
  refine List.map_congr_left fun i _ => ?_
  rw [Nat.testBit_eq_decide_div_mod_eq]
  rcases Nat.mod_two_eq_zero_or_one (x / 2 ^ i) with h | h <;> rw [h] <;> rfl
theorem castL_eq {l : List Int} {n : Nat} : castL l n = rCastL l n := by
  unfold castL rCastL
  apply List.ext_getElem?
  intro i
  rw [List.getElem?_append, List.length_take, List.getElem?_take, List.getElem?_replicate, List.getElem?_map]
  by_cases h : i < n
  · rw [List.getElem?_range h]
    by_cases h2 : i < l.length
    · rw [if_pos (by omega), if_pos h, List.getElem?_eq_getElem h2]
      simp [h2]
    · rw [if_neg (by omega), if_pos (by omega)]
      have h3 : l[i]? = none := List.getElem?_eq_none (by omega)
      simp [h3]
  · rw [if_neg (by omega), if_neg (by omega)]
    have : (List.range n)[i]? = none := List.getElem?_eq_none (by rw [List.length_range]; omega)
    rw [this]; rfl
end Go.Aig
namespace Go.Proofs.YtchledddgmbndaaGreat
open Go.RowKit Go.Mem Go.Aig
theorem slBools : SliceTy Tryz.prog 34 4 1 1 (.bool false) := ⟨Tryz.underlying34, infoBool, rfl, by decide⟩
theorem eqSliceNilB (w : World) (a : Option Addr) (n c : Nat) : (binOp .eql 34 (.slice a n c) (.slice none 0 0)).run Tryz.prog w = .ok (.bool a.isNone) w := by
  have h : Tryz.prog.underlying 34 = some (.slice 4) := Tryz.underlying34
  simp only [binOp]
  simp [run_equal_slice_nil w _ _ a n c h]
attribute [local go_sem] eqSliceNilB
set_option maxRecDepth 100000 in
set_option maxHeartbeats 2000000 in
theorem Refs23_is {w : World} {a : Option Addr} {l : List Int} (n cap : Nat) (hn : l.length = n) (h : Sl w a l) (hm : n ≤ 1000000) : Calls Tryz.prog 32 #[.slice a n cap] w fun e w' => ∃ v, e = .returned v ∧ row w' 52 1 v n (intCells l) ∧ (∀ q ∈ v.ownBlock.toList, w.heap.size ≤ q) ∧ Ch [] w w' := by
  subst hn
  have H := Lib.hid h; clear h
  go_enter Tryz.func32, Tryz.ntmps32
  go_wp2_with fail
  go_loopw [3, 8] (fun o i wr => ∃ k : Nat, k ≤ l.length ∧ i = .int .i64 k ∧ Ch [] w wr ∧ row wr 52 1 o k (intCells (l.take k)) ∧ ∀ q ∈ o.ownBlock.toList, w.heap.size ≤ q) (fun _ i _ => l.length - (intOf i).toNat)
  case atStart => exact ⟨0, by omega, rfl, Ch.refl _ _, ⟨rfl, .inl ⟨rfl, rfl⟩⟩, by simp⟩
  case round =>
    obtain ⟨k, hk, rfl, hc, hrow, hlo⟩ := hrel
    obtain ⟨oa, oc, rfl⟩ := row.shape hrow
    by_cases hlt : k < l.length
    · obtain ⟨x, hx⟩ : ∃ x, l[k]? = some x := ⟨_, List.getElem?_eq_getElem hlt⟩
      have hsu : intCells (l.take (k + 1)) = intCells (l.take k) ++ [.int .i64 x] := by unfold intCells; rw [List.take_add_one, hx]; simp
      obtain ⟨xb, xo, rfl, hcl⟩ := H.out.cells k x hx
      have c0 := (hc.cell (cell_lt hcl) (by simp)).trans hcl
      have HSU := Lib.hid hsu; clear hsu hx hcl
      have hcA : Ch [] wr (wr.alloc (.cells #[.int .i64 x] 52)) := (Ch.refl _ _).alloc _
      have hrA := hrow.ch hcA (by simp)
      have hbA : blk (wr.alloc (.cells #[.int .i64 x] 52)) wr.heap.size [.int .i64 x] := blk.new' _ _ rfl
      have HRA := Lib.hid hrA; clear hrA hrow
      have HBA := Lib.hid hbA; clear hbA
      have HCA := Lib.hid hcA; clear hcA
      have HC := Lib.hid hc; clear hc
      have HLO := Lib.hid hlo; clear hlo
      go_wp2_with (at_builtin; go_loud (refine wpList_append_row slRefs rfl _ _ rfl (v := .slice oa k oc) (n := k) (xs := intCells (l.take k)) rfl HRA.out (ad := ⟨wr.heap.size, 0, none⟩) (m := 1) (c := 1) (news := [.int .i64 x]) rfl rfl (news_blk HBA.out) (by simp [Value.oneCell']) (by omega) (by omega) ?_; intro v' w4 hown4 hC4 hf4; have HO4 := Lib.hid hown4; clear hown4; have HC4 := Lib.hid hC4; clear hC4; have HF4 := Lib.hid hf4; clear hf4))
      go_roundw
      case rel =>
        obtain ⟨q1, q2⟩ := app_step HC.out HCA.out HLO.out HC4.out HF4.out
        refine ⟨k + 1, by omega, by go_num, q1, ?_, q2⟩
        rw [HSU.out]; exact HO4.out
      case measure => simp [intOf]; omega
    · have hkn : k = l.length := by omega
      rw [hkn, List.take_of_length_le (Nat.le_refl _)] at hrow
      rw [hkn] at hlo
      rw [hkn]
      have HROW := Lib.hid hrow; clear hrow
      have HLO := Lib.hid hlo; clear hlo
      have HC := Lib.hid hc; clear hc hkn
      go_wp2_with fail
      go_ret
      exact ⟨.slice oa l.length oc, rfl, HROW.out, HLO.out, HC.out⟩
set_option maxRecDepth 100000 in
set_option maxHeartbeats 2000000 in
theorem Ints23_is {w : World} {a : Option Addr} {l : List Int} (n cap : Nat) (hn : l.length = n) (h : Sl w a l) (hm : n ≤ 1000000) : Calls Tryz.prog 36 #[.slice a n cap] w fun e w' => ∃ v, e = .returned v ∧ row w' 3 1 v n (intCells l) ∧ (∀ q ∈ v.ownBlock.toList, w.heap.size ≤ q) ∧ Ch [] w w' := by
  subst hn
  have H := Lib.hid h; clear h
  go_enter Tryz.func36, Tryz.ntmps36
  go_wp2_with fail
  go_loopw [3, 8] (fun o i wr => ∃ k : Nat, k ≤ l.length ∧ i = .int .i64 k ∧ Ch [] w wr ∧ row wr 3 1 o k (intCells (l.take k)) ∧ ∀ q ∈ o.ownBlock.toList, w.heap.size ≤ q) (fun _ i _ => l.length - (intOf i).toNat)
  case atStart => exact ⟨0, by omega, rfl, Ch.refl _ _, ⟨rfl, .inl ⟨rfl, rfl⟩⟩, by simp⟩
  case round =>
    obtain ⟨k, hk, rfl, hc, hrow, hlo⟩ := hrel
    obtain ⟨oa, oc, rfl⟩ := row.shape hrow
    by_cases hlt : k < l.length
    · obtain ⟨x, hx⟩ : ∃ x, l[k]? = some x := ⟨_, List.getElem?_eq_getElem hlt⟩
      have hsu : intCells (l.take (k + 1)) = intCells (l.take k) ++ [.int .i64 x] := by unfold intCells; rw [List.take_add_one, hx]; simp
      obtain ⟨xb, xo, rfl, hcl⟩ := H.out.cells k x hx
      have c0 := (hc.cell (cell_lt hcl) (by simp)).trans hcl
      have HSU := Lib.hid hsu; clear hsu hx hcl
      have hcA : Ch [] wr (wr.alloc (.cells #[.int .i64 x] 3)) := (Ch.refl _ _).alloc _
      have hrA := hrow.ch hcA (by simp)
      have hbA : blk (wr.alloc (.cells #[.int .i64 x] 3)) wr.heap.size [.int .i64 x] := blk.new' _ _ rfl
      have HRA := Lib.hid hrA; clear hrA hrow
      have HBA := Lib.hid hbA; clear hbA
      have HCA := Lib.hid hcA; clear hcA
      have HC := Lib.hid hc; clear hc
      have HLO := Lib.hid hlo; clear hlo
      go_wp2_with (at_builtin; go_loud (refine wpList_append_row slInts rfl _ _ rfl (v := .slice oa k oc) (n := k) (xs := intCells (l.take k)) rfl HRA.out (ad := ⟨wr.heap.size, 0, none⟩) (m := 1) (c := 1) (news := [.int .i64 x]) rfl rfl (news_blk HBA.out) (by simp [Value.oneCell']) (by omega) (by omega) ?_; intro v' w4 hown4 hC4 hf4; have HO4 := Lib.hid hown4; clear hown4; have HC4 := Lib.hid hC4; clear hC4; have HF4 := Lib.hid hf4; clear hf4))
      go_roundw
      case rel =>
        obtain ⟨q1, q2⟩ := app_step HC.out HCA.out HLO.out HC4.out HF4.out
        refine ⟨k + 1, by omega, by go_num, q1, ?_, q2⟩
        rw [HSU.out]; exact HO4.out
      case measure => simp [intOf]; omega
    · have hkn : k = l.length := by omega
      rw [hkn, List.take_of_length_le (Nat.le_refl _)] at hrow
      rw [hkn] at hlo
      rw [hkn]
      have HROW := Lib.hid hrow; clear hrow
      have HLO := Lib.hid hlo; clear hlo
      have HC := Lib.hid hc; clear hc hkn
      go_wp2_with fail
      go_ret
      exact ⟨.slice oa l.length oc, rfl, HROW.out, HLO.out, HC.out⟩
section
variable {w : World}
set_option maxRecDepth 100000 in
set_option maxHeartbeats 1000000 in
theorem Clbool_is {a : Option Addr} {l : List Bool} (n c : Nat) (hn : l.length = n) (h : Sb w a l) (hm : n ≤ 1000000) : Calls Tryz.prog 33 #[.slice a n c] w fun e w' => ∃ v, e = .returned v ∧ row w' 4 1 v n (l.map Value.bool) ∧ (∀ q ∈ v.ownBlock.toList, w.heap.size ≤ q) ∧ Ch [] w w' := by
  subst hn
  cases a with
  | none =>
    have hl : l = [] := by
      cases l with
      | nil => rfl
      | cons y l =>
        obtain ⟨b, o, e, _⟩ := h.cells 0 (.bool y) rfl
        cases e
    subst hl
    clear h
    go_enter Tryz.func33, Tryz.ntmps33
    go_wp2_with fail
    go_ret
    exact ⟨_, rfl, ⟨rfl, .inl ⟨rfl, rfl⟩⟩, by simp, Ch.refl _ _⟩
  | some p =>
    have hO : row (w.alloc (.cells #[] 4)) 4 1 (.slice (some ⟨w.heap.size, 0, none⟩) 0 0) 0 [] := ⟨rfl, .inr ⟨w.heap.size, 0, #[], rfl, by omega, heap_alloc_new w _, by omega, by unfold maxLen; omega, rfl, rfl⟩⟩
    have hN : ∀ j u, (l.map Value.bool)[j]? = some u → (w.alloc (.cells #[] 4)).cell? (p.add j) = some u := fun j u hu => by
      obtain ⟨b, o, e, hc⟩ := h.cells j u hu
      cases e
      rw [Addr.add_lit]
      exact (((Ch.refl [] w).alloc _).cell (cell_lt hc) (by simp)).trans hc
    have h1 : ∀ u ∈ l.map Value.bool, u.oneCell' = true := fun u hu => by
      obtain ⟨r, _, rfl⟩ := List.mem_map.1 hu
      rfl
    have HO := Lib.hid hO; clear hO
    have HN := Lib.hid hN; clear hN h
    have H1 := Lib.hid h1; clear h1
    go_enter Tryz.func33, Tryz.ntmps33
    go_wp2_with (at_builtin; go_loud (refine wpList_append_row slBools rfl _ _ rfl (v := .slice (some ⟨w.heap.size, 0, none⟩) 0 0) (n := 0) (xs := []) rfl HO.out (ad := p) (m := l.length) (c := c) (news := l.map Value.bool) rfl (by simp) HN.out H1.out (by omega) (by omega) ?_; intro v' w2 hown hC2 hfresh; have HOWN := Lib.hid hown; clear hown; have HC2 := Lib.hid hC2; clear hC2; have HFR := Lib.hid hfresh; clear hfresh))
    go_ret
    have hown := HOWN.out
    rw [Nat.zero_add, List.nil_append] at hown
    refine ⟨_, rfl, hown, fun k hk => ?_, (((Ch.refl [] w).alloc (.cells #[] 4))).trans HC2.out (by simp)⟩
    rcases HFR.out k (by simpa using hk) with e | e
    · simp at e; omega
    · simp at e; omega
set_option maxRecDepth 100000 in
set_option maxHeartbeats 1000000 in
theorem r23Right_is (n : Int) : Calls Tryz.prog 34 #[.int .i64 n] w fun e w' => e = .returned (.bool (rightW n)) ∧ w = w' := by
  have e : rightW n = (decide (0 < n) && decide (n < 18)) := by
    unfold rightW
    rw [show decide (1 ≤ n) = decide (0 < n) from by congr 1, show decide (n ≤ 17) = decide (n < 18) from by congr 1; exact propext ⟨fun h => by omega, fun h => by omega⟩]
  rw [e]
  clear e
  by_cases h : 0 < n
  · have h1 : decide (0 < n) = true := decide_eq_true h
    go_enter Tryz.func34, Tryz.ntmps34
    go_wp2_with fail
    go_ret
    exact ⟨by rw [h1]; rfl, rfl⟩
  · have h1 : decide (0 < n) = false := decide_eq_false h
    go_enter Tryz.func34, Tryz.ntmps34
    go_wp2_with fail
    go_ret
    exact ⟨rfl, rfl⟩
set_option maxRecDepth 100000 in
set_option maxHeartbeats 2000000 in
theorem r23Const_is (x : Nat) (hx : x < 4294967296) (n : Nat) (hn : n ≤ 17) : Calls Tryz.prog 37 #[.int .i64 x, .int .i64 n] w fun e w' => ∃ v, e = .returned v ∧ row w' 3 1 v n (refsCells (rConstN x n)) ∧ (∀ q ∈ v.ownBlock.toList, w.heap.size ≤ q) ∧ Ch [] w w' := by
  go_enter Tryz.func37, Tryz.ntmps37
  go_wp2_with fail
  go_loopw [0, 5, 6] (fun y o i wr => ∃ k : Nat, k ≤ n ∧ i = .int .i64 k ∧ y = .int .i64 ((x / 2 ^ k : Nat) : Int) ∧ Ch [] w wr ∧ row wr 3 1 o k (refsCells (rConstN x k)) ∧ ∀ q ∈ o.ownBlock.toList, w.heap.size ≤ q) (fun _ _ i _ => n - (intOf i).toNat)
  case atStart => exact ⟨0, by omega, rfl, by simp, Ch.refl _ _, ⟨rfl, .inl ⟨rfl, rfl⟩⟩, by simp⟩
  case round =>
    obtain ⟨k, hk, rfl, rfl, hc, hrow, hlo⟩ := hrel
    obtain ⟨oa, oc, rfl⟩ := row.shape hrow
    by_cases hlt : k < n
    · have hsu : refsCells (rConstN x (k + 1)) = refsCells (rConstN x k) ++ [.int .i64 ((x / 2 ^ k % 2 : Nat) : Int)] := by rw [rConstN_succ]; simp [refsCells]
      have hy : x / 2 ^ k < 4294967296 := Nat.lt_of_le_of_lt (Nat.div_le_self _ _) hx
      have hy2 : x / 2 ^ (k + 1) = x / 2 ^ k / 2 := by rw [Nat.pow_succ, Nat.div_div_eq_div_mul]
      generalize hX : x / 2 ^ k = X at *
      clear hX
      have HSU := Lib.hid hsu; clear hsu
      have HY2 := Lib.hid hy2; clear hy2
      have HC := Lib.hid hc; clear hc
      have HLO := Lib.hid hlo; clear hlo
      have hcA : Ch [] wr (wr.alloc (.cells #[.int .i64 ((X : Int) % 2)] 3)) := (Ch.refl _ _).alloc _
      have hrA := hrow.ch hcA (by simp)
      have hbA : blk (wr.alloc (.cells #[.int .i64 ((X : Int) % 2)] 3)) wr.heap.size [.int .i64 ((X : Int) % 2)] := blk.new' _ _ rfl
      have HRA := Lib.hid hrA; clear hrA hrow
      have HBA := Lib.hid hbA; clear hbA
      have HCA := Lib.hid hcA; clear hcA
      go_wp2_with (at_builtin; go_loud (refine wpList_append_row slInts rfl _ _ rfl (v := .slice oa k oc) (n := k) (xs := refsCells (rConstN x k)) rfl HRA.out (ad := ⟨wr.heap.size, 0, none⟩) (m := 1) (c := 1) (news := [.int .i64 ((X : Int) % 2)]) rfl rfl (news_blk HBA.out) (by simp [Value.oneCell']) (by omega) (by omega) ?_; intro v' w4 hown4 hC4 hf4; have HO4 := Lib.hid hown4; clear hown4; have HC4 := Lib.hid hC4; clear hC4; have HF4 := Lib.hid hf4; clear hf4))
      go_roundw
      case rel =>
        obtain ⟨q1, q2⟩ := app_step HC.out HCA.out HLO.out HC4.out HF4.out
        refine ⟨k + 1, by omega, by go_num, by rw [HY2.out]; go_num, q1, ?_, q2⟩
        rw [HSU.out]; exact HO4.out
      case measure => simp [intOf]; omega
    · have hkn : k = n := by omega
      subst hkn
      have HROW := Lib.hid hrow; clear hrow
      have HLO := Lib.hid hlo; clear hlo
      have HC := Lib.hid hc; clear hc
      go_wp2_with fail
      go_ret
      exact ⟨.slice oa k oc, rfl, HROW.out, HLO.out, HC.out⟩
end
end Go.Proofs.YtchledddgmbndaaGreat
namespace Go.Proofs.YtchledddgmbndaaGreat
open Go.RowKit Go.Mem Go.Aig
theorem takeB_succ {xs ys : List Bool} {k : Nat} {x y : Bool} (h : xs.take k = ys.take k) (hx : xs[k]? = some x) (hy : ys[k]? = some y) (e : x = y) : xs.take (k + 1) = ys.take (k + 1) := by
  rw [List.take_add_one, List.take_add_one, h, hx, hy, e]
theorem rowBlk {w : World} {e : TypeId} {a : Option Addr} {n c : Nat} {xs : List Value} (h : row w e 1 (.slice a n c) n xs) : ∀ j, j < n → ∃ (b : Nat) (ys : List Value), a = some ⟨b, 0, none⟩ ∧ blk w b ys ∧ n ≤ ys.length := by
  intro j hj
  rcases h.2 with ⟨e1, _⟩ | ⟨b, cap, cur, e1, _, hg, hle, _, hs, _⟩
  · cases e1; omega
  · cases e1
    exact ⟨b, cur.toList, rfl, ⟨e, by simpa using hg⟩, by simp; omega⟩
section
variable {w : World}
set_option maxRecDepth 100000 in
set_option maxHeartbeats 1000000 in
theorem Eqbool_is {a b : Option Addr} {xs ys : List Bool} (ca cb : Nat) (hx : Sb w a xs) (hy : Sb w b ys) :
    Calls Tryz.prog 39 #[.slice a xs.length ca, .slice b ys.length cb] w fun e w' => e = .returned (.bool (decide (xs = ys))) ∧ Ch [] w w' := by
  have hbx : xs.length ≤ 9223372036854775807 := by have := hx.bd; simpa using this
  have hby : ys.length ≤ 9223372036854775807 := by have := hy.bd; simpa using this
  have HX := Lib.hid hx; clear hx
  have HY := Lib.hid hy; clear hy
  by_cases hl : xs.length = ys.length
  · have hne : ((xs.length : Int) != (ys.length : Int)) = false := by simp [hl]
    generalize hd : decide (xs = ys) = d
    have HD := Lib.hid hd; clear hd
    have HL := Lib.hid hl; clear hl
    go_enter Tryz.func39, Tryz.ntmps39
    go_wp2_with fail
    go_loopw [13] (fun i wr => ∃ k : Nat, k ≤ xs.length ∧ i = .int .i64 k ∧ xs.take k = ys.take k ∧ Ch [] w wr) (fun i _ => xs.length - (intOf i).toNat)
    case atStart => exact ⟨0, Nat.zero_le _, rfl, rfl, Ch.refl _ _⟩
    case round =>
      obtain ⟨k, hk, rfl, ht, hc⟩ := hrel
      have HT := Lib.hid ht; clear ht
      by_cases hlt : k < xs.length
      · have hlt2 : k < ys.length := by have := HL.out; omega
        have hxk : xs[k]? = some xs[k] := List.getElem?_eq_getElem hlt
        have hyk : ys[k]? = some ys[k] := List.getElem?_eq_getElem hlt2
        obtain ⟨b1, o1, rfl, c1⟩ := (HX.out.ch hc (by simp)).cells k (.bool xs[k]) (by simp [hxk])
        obtain ⟨b2, o2, rfl, c2⟩ := (HY.out.ch hc (by simp)).cells k (.bool ys[k]) (by simp [hyk])
        generalize xs[k] = x at *
        generalize ys[k] = y at *
        have HXK := Lib.hid hxk; clear hxk
        have HYK := Lib.hid hyk; clear hyk
        have HC := Lib.hid hc; clear hc
        by_cases hxy : x = y
        · have hb : (!(x == y)) = false := by simp [hxy]
          have HE := Lib.hid hxy; clear hxy
          go_wp2_with fail
          refine Ord.St.door (fun _ => True) [.fl, .fl, .fl, .rd, .fl, .fl, .fl, .rd, .fl] [0, 0, 3, 7, 0, 0, 48, 112, 255] [0, 1, 2, 3, 4, 5, 6, 7, 8] mixed (by kernel_rfl) rfl ?_
          refine Ord.St.fl2 (T' := ?_) 0 [1, 2, 3, 4, 5, 6, 7, 8] _ _ rfl (by kernel_rfl) rfl rfl rfl rfl (fun K w' hk => ?_) ?_
          rotate_left
          · go_step; exact hk
          refine Ord.St.fl2 (T' := ?_) 1 [2, 3, 4, 5, 6, 7, 8] _ _ rfl (by kernel_rfl) rfl rfl rfl rfl (fun K w' hk => ?_) ?_
          rotate_left
          · go_step; exact hk
          refine Ord.St.fl2 (T' := ?_) 2 [3, 4, 5, 6, 7, 8] _ _ rfl (by kernel_rfl) rfl rfl rfl rfl (fun K w' hk => ?_) ?_
          rotate_left
          · go_step; exact hk
          refine Ord.St.rd2 (T' := ?_) 3 [4, 5, 6, 7, 8] _ _ rfl (by kernel_rfl) rfl rfl rfl rfl (fun K hk => ?_) ?_
          rotate_left
          · go_step; exact hk
          refine Ord.St.fl2 (T' := ?_) 4 [5, 6, 7, 8] _ _ rfl (by kernel_rfl) rfl rfl rfl rfl (fun K w' hk => ?_) ?_
          rotate_left
          · go_step; exact hk
          refine Ord.St.fl2 (T' := ?_) 5 [6, 7, 8] _ _ rfl (by kernel_rfl) rfl rfl rfl rfl (fun K w' hk => ?_) ?_
          rotate_left
          · go_step; exact hk
          refine Ord.St.fl2 (T' := ?_) 6 [7, 8] _ _ rfl (by kernel_rfl) rfl rfl rfl rfl (fun K w' hk => ?_) ?_
          rotate_left
          · go_step; exact hk
          refine Ord.St.rd2 (T' := ?_) 7 [8] _ _ rfl (by kernel_rfl) rfl rfl rfl rfl (fun K hk => ?_) ?_
          rotate_left
          · go_step; exact hk
          refine Ord.St.fl2 (T' := ?_) 8 [] _ _ rfl (by kernel_rfl) rfl rfl rfl rfl (fun K w' hk => ?_) ?_
          rotate_left
          · go_step; exact hk
          refine Ord.St.nil ?_
          go_wp2_with fail
          go_roundw
          case rel => exact ⟨k + 1, by omega, by go_num, takeB_succ HT.out HXK.out HYK.out HE.out, HC.out.drew⟩
          case measure => simp [intOf]; omega
        · have hb : (!(x == y)) = true := by simp [hxy]
          have hdf : d = false := by
            rw [← HD.out]
            refine decide_eq_false fun e => hxy ?_
            have h1 := HXK.out
            rw [e, HYK.out] at h1
            cases h1; rfl
          have HDF := Lib.hid hdf; clear hdf
          clear hxy
          go_wp2_with fail
          refine Ord.St.door (fun _ => True) [.fl, .fl, .fl, .rd, .fl, .fl, .fl, .rd, .fl] [0, 0, 3, 7, 0, 0, 48, 112, 255] [0, 1, 2, 3, 4, 5, 6, 7, 8] mixed (by kernel_rfl) rfl ?_
          refine Ord.St.fl2 (T' := ?_) 0 [1, 2, 3, 4, 5, 6, 7, 8] _ _ rfl (by kernel_rfl) rfl rfl rfl rfl (fun K w' hk => ?_) ?_
          rotate_left
          · go_step; exact hk
          refine Ord.St.fl2 (T' := ?_) 1 [2, 3, 4, 5, 6, 7, 8] _ _ rfl (by kernel_rfl) rfl rfl rfl rfl (fun K w' hk => ?_) ?_
          rotate_left
          · go_step; exact hk
          refine Ord.St.fl2 (T' := ?_) 2 [3, 4, 5, 6, 7, 8] _ _ rfl (by kernel_rfl) rfl rfl rfl rfl (fun K w' hk => ?_) ?_
          rotate_left
          · go_step; exact hk
          refine Ord.St.rd2 (T' := ?_) 3 [4, 5, 6, 7, 8] _ _ rfl (by kernel_rfl) rfl rfl rfl rfl (fun K hk => ?_) ?_
          rotate_left
          · go_step; exact hk
          refine Ord.St.fl2 (T' := ?_) 4 [5, 6, 7, 8] _ _ rfl (by kernel_rfl) rfl rfl rfl rfl (fun K w' hk => ?_) ?_
          rotate_left
          · go_step; exact hk
          refine Ord.St.fl2 (T' := ?_) 5 [6, 7, 8] _ _ rfl (by kernel_rfl) rfl rfl rfl rfl (fun K w' hk => ?_) ?_
          rotate_left
          · go_step; exact hk
          refine Ord.St.fl2 (T' := ?_) 6 [7, 8] _ _ rfl (by kernel_rfl) rfl rfl rfl rfl (fun K w' hk => ?_) ?_
          rotate_left
          · go_step; exact hk
          refine Ord.St.rd2 (T' := ?_) 7 [8] _ _ rfl (by kernel_rfl) rfl rfl rfl rfl (fun K hk => ?_) ?_
          rotate_left
          · go_step; exact hk
          refine Ord.St.fl2 (T' := ?_) 8 [] _ _ rfl (by kernel_rfl) rfl rfl rfl rfl (fun K w' hk => ?_) ?_
          rotate_left
          · go_step; exact hk
          refine Ord.St.nil ?_
          go_wp2_with fail
          go_ret
          rw [HDF.out]
          exact ⟨rfl, HC.out.drew⟩
      · have hdt : d = true := by
          rw [← HD.out]
          have h1 := HT.out
          rw [List.take_of_length_le (by omega), List.take_of_length_le (by have := HL.out; omega)] at h1
          exact decide_eq_true h1
        have HDT := Lib.hid hdt; clear hdt
        have HC := Lib.hid hc; clear hc
        go_wp2_with fail
        go_ret
        rw [HDT.out]
        exact ⟨rfl, HC.out⟩
  · have hne : ((xs.length : Int) != (ys.length : Int)) = true := by rw [bne_iff_ne]; omega
    have hd : decide (xs = ys) = false := decide_eq_false fun e => hl (by rw [e])
    rw [hd]
    clear hd
    go_enter Tryz.func39, Tryz.ntmps39
    go_wp2_with fail
    go_ret
    exact ⟨rfl, Ch.refl _ _⟩
set_option maxRecDepth 100000 in
set_option maxHeartbeats 2000000 in
theorem r23Cast_is {a : Option Addr} {l : List Int} (m c : Nat) (hm : l.length = m) (hS : Sl w a l) (n : Nat) (hn : n ≤ 17) (hmm : m ≤ 1000000) : Calls Tryz.prog 38 #[.slice a m c, .int .i64 n] w fun e w' => ∃ v, e = .returned v ∧ row w' 3 1 v n (intCells (rCastL l n)) ∧ (∀ q ∈ v.ownBlock.toList, w.heap.size ≤ q) ∧ Ch [] w w' := by
  subst hm
  have HS := Lib.hid hS; clear hS
  go_enter Tryz.func38, Tryz.ntmps38
  go_wp2_with fail
  go_loopw [5, 6] (fun o i wr => ∃ k : Nat, k ≤ n ∧ i = .int .i64 k ∧ Ch [] w wr ∧ row wr 3 1 o k (intCells (rCastL l k)) ∧ ∀ q ∈ o.ownBlock.toList, w.heap.size ≤ q) (fun _ i _ => n - (intOf i).toNat)
  case atStart => exact ⟨0, by omega, rfl, Ch.refl _ _, ⟨rfl, .inl ⟨rfl, rfl⟩⟩, by simp⟩
  case round =>
    obtain ⟨k, hk, rfl, hc, hrow, hlo⟩ := hrel
    obtain ⟨oa, oc, rfl⟩ := row.shape hrow
    by_cases hlt : k < n
    · have hsu : intCells (rCastL l (k + 1)) = intCells (rCastL l k) ++ [.int .i64 (l.getD k 0)] := by rw [rCastL_succ]; simp [intCells]
      have HSU := Lib.hid hsu; clear hsu
      have HLO := Lib.hid hlo; clear hlo
      by_cases hl : k < l.length
      · obtain ⟨x, hx⟩ : ∃ x, l[k]? = some x := ⟨_, List.getElem?_eq_getElem hl⟩
        obtain ⟨xb, xo, rfl, hcl⟩ := HS.out.cells k x hx
        have c0 := (hc.cell (cell_lt hcl) (by simp)).trans hcl
        have hg : l.getD k 0 = x := by simp [hx]
        rw [hg] at HSU
        have HC := Lib.hid hc; clear hc
        have hcA : Ch [] wr (wr.alloc (.cells #[.int .i64 x] 3)) := (Ch.refl _ _).alloc _
        have hrA := hrow.ch hcA (by simp)
        have hbA : blk (wr.alloc (.cells #[.int .i64 x] 3)) wr.heap.size [.int .i64 x] := blk.new' _ _ rfl
        have HRA := Lib.hid hrA; clear hrA hrow hx hcl hg
        have HBA := Lib.hid hbA; clear hbA
        have HCA := Lib.hid hcA; clear hcA
        go_wp2_with (at_builtin; go_loud (refine wpList_append_row slInts rfl _ _ rfl (v := .slice oa k oc) (n := k) (xs := intCells (rCastL l k)) rfl HRA.out (ad := ⟨wr.heap.size, 0, none⟩) (m := 1) (c := 1) (news := [.int .i64 x]) rfl rfl (news_blk HBA.out) (by simp [Value.oneCell']) (by omega) (by omega) ?_; intro v' w4 hown4 hC4 hf4; have HO4 := Lib.hid hown4; clear hown4; have HC4 := Lib.hid hC4; clear hC4; have HF4 := Lib.hid hf4; clear hf4))
        go_roundw
        case rel =>
          obtain ⟨q1, q2⟩ := app_step HC.out HCA.out HLO.out HC4.out HF4.out
          refine ⟨k + 1, by omega, by go_num, q1, ?_, q2⟩
          rw [HSU.out]; exact HO4.out
        case measure => simp [intOf]; omega
      · have hg : l.getD k 0 = 0 := by simp [show l[k]? = none from List.getElem?_eq_none (by omega)]
        rw [hg] at HSU
        have HC := Lib.hid hc; clear hc
        have hcA : Ch [] wr (wr.alloc (.cells #[.int .i64 0] 3)) := (Ch.refl _ _).alloc _
        have hrA := hrow.ch hcA (by simp)
        have hbA : blk (wr.alloc (.cells #[.int .i64 0] 3)) wr.heap.size [.int .i64 0] := blk.new' _ _ rfl
        have HRA := Lib.hid hrA; clear hrA hrow hg
        have HBA := Lib.hid hbA; clear hbA
        have HCA := Lib.hid hcA; clear hcA
        go_wp2_with (at_builtin; go_loud (refine wpList_append_row slInts rfl _ _ rfl (v := .slice oa k oc) (n := k) (xs := intCells (rCastL l k)) rfl HRA.out (ad := ⟨wr.heap.size, 0, none⟩) (m := 1) (c := 1) (news := [.int .i64 0]) rfl rfl (news_blk HBA.out) (by simp [Value.oneCell']) (by omega) (by omega) ?_; intro v' w4 hown4 hC4 hf4; have HO4 := Lib.hid hown4; clear hown4; have HC4 := Lib.hid hC4; clear hC4; have HF4 := Lib.hid hf4; clear hf4))
        go_roundw
        case rel =>
          obtain ⟨q1, q2⟩ := app_step HC.out HCA.out HLO.out HC4.out HF4.out
          refine ⟨k + 1, by omega, by go_num, q1, ?_, q2⟩
          rw [HSU.out]; exact HO4.out
        case measure => simp [intOf]; omega
    · have hkn : k = n := by omega
      subst hkn
      have HROW := Lib.hid hrow; clear hrow
      have HLO := Lib.hid hlo; clear hlo
      have HC := Lib.hid hc; clear hc
      go_wp2_with fail
      go_ret
      exact ⟨.slice oa k oc, rfl, HROW.out, HLO.out, HC.out⟩
end
end Go.Proofs.YtchledddgmbndaaGreat
namespace Go.Proofs.YtchledddgmbndaaGreat
open Go.ChangeShapes Go.WideShapes Go.ChangeAt Go.RowKit Go.Mem Go.Aig Go.Deep
theorem own : ownKnob Tryz.prog.godebug = none := by kernel_rfl
theorem laidOut : laidOutB Tryz.prog = true := by kernel_rfl
theorem list_of {α : Type} (P : Nat → α → Prop) : ∀ (n : Nat), (∀ i, i < n → ∃ x, P i x) → ∃ l : List α, l.length = n ∧ ∀ i x, l[i]? = some x → P i x
  | 0, _ => ⟨[], rfl, by simp⟩
  | n + 1, h => by
    obtain ⟨l, hl, hp⟩ := list_of P n (fun i hi => h i (by omega))
    obtain ⟨x, hx⟩ := h n (by omega)
    refine ⟨l ++ [x], by simp [hl], fun i y hy => ?_⟩
    by_cases hi : i < n
    · rw [List.getElem?_append_left (by omega)] at hy; exact hp i y hy
    · have hlt := (List.getElem?_eq_some_iff.1 hy).1
      simp at hlt
      have : i = n := by omega
      subst this
      rw [List.getElem?_append_right (by omega)] at hy
      simp [hl] at hy
      subst hy; exact hx
section
variable {H : Type} {enc : TypeId × Value → H} {W : World}
theorem wf_u8 {n : Int} (h : (Lit.int .u8 n).wf = true) : ∃ m : Nat, n = m ∧ m ≤ 255 := by
  have : 0 ≤ n ∧ n ≤ 255 := by simpa [Lit.wf, IntKind.min, IntKind.max, IntKind.signed, IntKind.bits] using h
  exact ⟨n.toNat, by omega, by omega⟩
theorem wf_i64 {z : Int} (h : (Lit.int .i64 z).wf = true) : -9223372036854775808 ≤ z ∧ z ≤ 9223372036854775807 := by
  simpa [Lit.wf, IntKind.min, IntKind.max, IntKind.signed, IntKind.bits] using h
theorem wf_u32 {n : Int} (h : (Lit.int .u32 n).wf = true) : ∃ m : Nat, n = m ∧ m < 4294967296 := by
  have : 0 ≤ n ∧ n ≤ 4294967295 := by simpa [Lit.wf, IntKind.min, IntKind.max, IntKind.signed, IntKind.bits] using h
  exact ⟨n.toNat, by omega, by omega⟩
/-- a slice of numbers that came in -/
structure IntS (w : World) (a : Option Addr) (n cap : Nat) (l : List Int) : Prop where
  sl : Sl w a l
  len : l.length = n
  bd : ∀ r ∈ l, -9223372036854775808 ≤ r ∧ r ≤ 9223372036854775807
  le : n ≤ cap
  max : cap ≤ 9223372036854775807
structure BoolS (w : World) (a : Option Addr) (n cap : Nat) (l : List Bool) : Prop where
  sl : Sb w a l
  len : l.length = n
  le : n ≤ cap
  max : cap ≤ 9223372036854775807
set_option maxRecDepth 100000 in
theorem ints_open {fuel : Nat} {c : Value} {x : DataW H × List MemPlace} (hf : DataW.trod enc Tryz.prog W 0 (fun _ => true) true fuel 25 [c] = some x) :
    ∃ (a : Option Addr) (len cap : Nat) (L : List Int), c = .slice a len cap ∧ Sl W a L ∧ L.length = len ∧ (∀ z ∈ L, -9223372036854775808 ≤ z ∧ z ≤ 9223372036854775807) ∧ len ≤ cap ∧ cap ≤ 9223372036854775807 := by
  rcases open_slice Tryz.underlying25 hf with ⟨hcs, _⟩ | ⟨y, l, cp, m, n, D, Pl, hcs, _, hl, hm, hmm, _, hi⟩
  · simp at hcs
    subst hcs
    exact ⟨none, 0, 0, [], rfl, ⟨by simp, by simp⟩, rfl, by simp, by omega, by omega⟩
  · simp at hcs
    subst hcs
    have hm' : cp ≤ 9223372036854775807 := by unfold maxLen at hm; exact hm
    have hC : Tryz.prog.cellsOf 3 = 1 := by kernel_rfl
    have hspot : 0 < l → y.spot = none := fun h0 => by
      obtain ⟨cs', hc, _⟩ := hi 0 (by rw [hmm]; simp; omega)
      rw [hC] at hc
      obtain ⟨_, hcl, hat⟩ := World.cells?_some hc
      have e0 := hat 0 (by omega)
      rw [List.getElem?_eq_getElem (by omega)] at e0
      simpa [Addr.add] using World.cell?_spot e0
    have key : ∀ i, i < l → ∃ z : Int, (∃ b o, (some y : Option Addr) = some ⟨b, o, none⟩ ∧ W.cell? ⟨b, o + i, none⟩ = some (.int .i64 z)) ∧ (-9223372036854775808 ≤ z ∧ z ≤ 9223372036854775807) := by
      intro i hlt
      obtain ⟨cs', hc, ht⟩ := hi i (by rw [hmm]; simp; omega)
      rw [hC] at hc
      obtain ⟨_, hcl, hat⟩ := World.cells?_some hc
      match cs', hcl with
      | [c0], _ =>
        obtain ⟨z, hz, _, hw⟩ := DataW.trod_int Tryz.underlying3 ht
        have hb := wf_i64 hw
        simp at hz
        subst hz
        have e0 := hat 0 (by omega)
        simp at e0
        obtain ⟨b, o, spot⟩ := y
        have hsp : spot = none := hspot (by omega)
        subst hsp
        simp only [Addr.add_lit] at e0
        exact ⟨z, ⟨b, o, rfl, by simpa using e0⟩, hb⟩
    obtain ⟨ll, hll, hp⟩ := list_of _ l key
    refine ⟨some y, l, cp, ll, rfl, ⟨fun i s hs => (hp i s hs).1, by omega⟩, hll, fun s hs => ?_, hl, hm'⟩
    obtain ⟨i, hi2⟩ := List.mem_iff_getElem?.1 hs
    exact (hp i s hi2).2
theorem intS_open {a : Option Addr} {len cap : Nat} {d : DataW H} {p : List MemPlace} (h : DataW.Trod enc Tryz.prog W 0 (fun _ => true) true 25 (.slice a len cap) d p) : ∃ l, IntS W a len cap l := by
  obtain ⟨fuel, hf⟩ := h
  obtain ⟨a', len', cap', L, e, h1, h2, h3, h4, h5⟩ := ints_open (c := .slice a len cap) (by simpa [Value.cells] using hf)
  cases e
  exact ⟨L, h1, h2, h3, h4, h5⟩
set_option maxRecDepth 100000 in
theorem bools_open {fuel : Nat} {c : Value} {x : DataW H × List MemPlace} (hf : DataW.trod enc Tryz.prog W 0 (fun _ => true) true fuel 34 [c] = some x) :
    ∃ (a : Option Addr) (len cap : Nat) (L : List Bool), c = .slice a len cap ∧ Sb W a L ∧ L.length = len ∧ len ≤ cap ∧ cap ≤ 9223372036854775807 := by
  rcases open_slice Tryz.underlying34 hf with ⟨hcs, _⟩ | ⟨y, l, cp, m, n, D, Pl, hcs, _, hl, hm, hmm, _, hi⟩
  · simp at hcs
    subst hcs
    exact ⟨none, 0, 0, [], rfl, ⟨by simp, by simp⟩, rfl, by omega, by omega⟩
  · simp at hcs
    subst hcs
    have hm' : cp ≤ 9223372036854775807 := by unfold maxLen at hm; exact hm
    have hC : Tryz.prog.cellsOf 4 = 1 := by kernel_rfl
    have hspot : 0 < l → y.spot = none := fun h0 => by
      obtain ⟨cs', hc, _⟩ := hi 0 (by rw [hmm]; simp; omega)
      rw [hC] at hc
      obtain ⟨_, hcl, hat⟩ := World.cells?_some hc
      have e0 := hat 0 (by omega)
      rw [List.getElem?_eq_getElem (by omega)] at e0
      simpa [Addr.add] using World.cell?_spot e0
    have key : ∀ i, i < l → ∃ z : Bool, (∃ b o, (some y : Option Addr) = some ⟨b, o, none⟩ ∧ W.cell? ⟨b, o + i, none⟩ = some (.bool z)) := by
      intro i hlt
      obtain ⟨cs', hc, ht⟩ := hi i (by rw [hmm]; simp; omega)
      rw [hC] at hc
      obtain ⟨_, hcl, hat⟩ := World.cells?_some hc
      match cs', hcl with
      | [c0], _ =>
        obtain ⟨z, hz, _⟩ := DataW.trod_bool Tryz.underlying4 ht
        simp at hz
        subst hz
        have e0 := hat 0 (by omega)
        simp at e0
        obtain ⟨b, o, spot⟩ := y
        have hsp : spot = none := hspot (by omega)
        subst hsp
        simp only [Addr.add_lit] at e0
        exact ⟨z, b, o, rfl, by simpa using e0⟩
    obtain ⟨ll, hll, hp⟩ := list_of _ l key
    refine ⟨some y, l, cp, ll, rfl, ⟨fun i s hs => ?_, by rw [List.length_map]; omega⟩, hll, hl, hm'⟩
    rw [List.getElem?_map, Option.map_eq_some_iff] at hs
    obtain ⟨q, hq, rfl⟩ := hs
    exact hp i q hq
theorem boolS_open {a : Option Addr} {len cap : Nat} {d : DataW H} {p : List MemPlace} (h : DataW.Trod enc Tryz.prog W 0 (fun _ => true) true 34 (.slice a len cap) d p) : ∃ l, BoolS W a len cap l := by
  obtain ⟨fuel, hf⟩ := h
  obtain ⟨a', len', cap', L, e, h1, h2, h4, h5⟩ := bools_open (c := .slice a len cap) (by simpa [Value.cells] using hf)
  cases e
  exact ⟨L, h1, h2, h4, h5⟩
end
end Go.Proofs.YtchledddgmbndaaGreat
namespace Go.Proofs.YtchledddgmbndaaGreat
open Go.RowKit Go.Mem Go.Aig
/-- what a function of the reference's states leaves: a state, and a reference -/
def STo (w : World) (rb : Nat) (R : Mk × Nat) (e : Ending) (w' : World) : Prop := ∃ rb' cap', e = .returned (.tuple #[.agg #[.int .i64 R.1.1.most, .slice (some ⟨rb', 0, none⟩) R.1.1.nodes.length cap', .int .i64 R.1.2], .int .i64 R.2]) ∧ RG w' rb' cap' R.1.1 ∧ Ch [] w w' ∧ (rb' = rb ∨ w.heap.size ≤ rb')
theorem set3_ch {w W : World} {b : Nat} {u v x : Value} (h : W = ((w.setCell ⟨b, 0, none⟩ u).setCell ⟨b, 1, none⟩ v).setCell ⟨b, 2, none⟩ x) : Ch [b] w W := by rw [h]; exact (((Ch.refl [b] _).setCell (by simp) _).setCell (by simp) _).setCell (by simp) _
section
set_option maxRecDepth 100000 in
set_option maxHeartbeats 2000000 in
theorem r23step_is {w : World} {rb cap q : Nat} {G : Gra} (h : RG w rb cap G) {rb2 cap2 : Nat} {G2 : Gra} (h2 : RG w rb2 cap2 G2) (r e : Nat) :
    Calls Tryz.prog 148 #[.agg #[.int .i64 G.most, .slice (some ⟨rb, 0, none⟩) G.nodes.length cap, .int .i64 q], .agg #[.int .i64 G2.most, .slice (some ⟨rb2, 0, none⟩) G2.nodes.length cap2], .int .i64 r, .int .i64 e] w fun en w' => ∃ rb' cap', en = .returned (.tuple #[.agg #[.int .i64 (rstep (G, q) (G2, r, e)).1.1.most, .slice (some ⟨rb', 0, none⟩) (rstep (G, q) (G2, r, e)).1.1.nodes.length cap', .int .i64 (rstep (G, q) (G2, r, e)).1.2], .int .i64 (rstep (G, q) (G2, r, e)).2]) ∧ RG w' rb' cap' (rstep (G, q) (G2, r, e)).1.1 ∧ Ch [] w w' ∧ (rb' = rb ∨ rb' = rb2) := by
  have HH := Lib.hid h
  have HH2 := Lib.hid h2
  by_cases hq : q = 0
  · subst hq
    by_cases he : e = 0
    · subst he
      rw [rstep_ok (s := (G, 0)) (R := (G2, r, 0)) rfl rfl]
      clear h h2
      go_enter Tryz.func148, Tryz.ntmps148
      go_wp2_with fail
      refine bodyPost_ret (v := .tuple #[.agg #[.int .i64 G2.most, .slice (some ⟨rb2, 0, none⟩) G2.nodes.length cap2, .int .i64 0], .int .i64 r]) (by simp [results, Tryz.results148, go_sem]) rfl ?_
      refine (fun hc : Ch [] w _ => ⟨rb2, cap2, rfl, HH2.out.ch hc (by simp), hc, .inr rfl⟩) ?_
      repeat (first | exact Ch.refl _ _ | refine Ch.alloc ?_ _ | refine Ch.setCell ?_ (.inr (by simp <;> omega)) _)
    · have d : ((e : Int) != 0) = true := by simp [he]
      rw [rstep_no (s := (G, 0)) (R := (G2, r, e)) rfl he]
      clear h h2 he
      go_enter Tryz.func148, Tryz.ntmps148
      go_wp2_with fail
      refine bodyPost_ret (v := .tuple #[.agg #[.int .i64 G.most, .slice (some ⟨rb, 0, none⟩) G.nodes.length cap, .int .i64 e], .int .i64 0]) (by simp [results, Tryz.results148, go_sem]) rfl ?_
      refine (fun hc : Ch [] w _ => ⟨rb, cap, rfl, HH.out.ch hc (by simp), hc, .inl rfl⟩) ?_
      repeat (first | exact Ch.refl _ _ | refine Ch.alloc ?_ _ | refine Ch.setCell ?_ (.inr (by simp <;> omega)) _)
  · have d : ((q : Int) != 0) = true := by simp [hq]
    have d2 : ((q : Int) == 0) = false := by simp [hq]
    rw [rstep_bad (s := (G, q)) hq]
    clear h h2 hq
    go_enter Tryz.func148, Tryz.ntmps148
    go_wp2_with fail
    refine bodyPost_ret (v := .tuple #[.agg #[.int .i64 G.most, .slice (some ⟨rb, 0, none⟩) G.nodes.length cap, .int .i64 q], .int .i64 0]) (by simp [results, Tryz.results148, go_sem]) rfl ?_
    refine (fun hc : Ch [] w _ => ⟨rb, cap, rfl, HH.out.ch hc (by simp), hc, .inl rfl⟩) ?_
    repeat (first | exact Ch.refl _ _ | refine Ch.alloc ?_ _ | refine Ch.setCell ?_ (.inr (by simp <;> omega)) _)
set_option maxRecDepth 100000 in
set_option maxHeartbeats 2000000 in
theorem r23And_is {w : World} {rb cap q : Nat} {G : Gra} (h : RG w rb cap G) {a b : Nat} (ha : a < 2 * G.nodes.length) (hb : b < 2 * G.nodes.length) :
    Calls Tryz.prog 142 #[.agg #[.int .i64 G.most, .slice (some ⟨rb, 0, none⟩) G.nodes.length cap, .int .i64 q], .int .i64 a, .int .i64 b] w (STo w rb (rstep (G, q) (and G a b))) := by
  have hrb := h.lt
  have hA := fun (W : World) (hc : Ch [] w W) => rAnd_is (h.ch hc (by simp)) ha hb
  generalize and G a b = X at *
  obtain ⟨G1, r1, e1⟩ := X
  have HA := Lib.hid hA; clear hA
  have H := Lib.hid h; clear h ha hb
  go_enter Tryz.func142, Tryz.ntmps142
  go_wp2_with fail
  refine calls_named fun W hW => ?_
  have b3 : blk W w.heap.size [.int .i64 G.most, .slice (some ⟨rb, 0, none⟩) G.nodes.length cap, .int .i64 q] := by rw [hW]; exact (blk.new' _ _ (by simp)).alloc _
  have b6 : blk W (w.heap.size + 1) [.int .i64 0, .slice none 0 0, .int .i64 0] := by rw [hW]; exact blk.new' _ _ (by simp)
  have hc : Ch [] w W := by rw [hW]; exact ((Ch.refl _ _).alloc _).alloc _
  clear hW
  refine (HA.out W hc).mono ?_
  rintro e w1 ⟨rb1, cap1, rfl, hrg1, hch1, hfr1⟩
  have hz := b6.lt
  have b3 := b3.ch hch1 (by simp)
  have b6 := b6.ch hch1 (by simp)
  have hz1 := b6.lt
  have hz0 := b3.lt
  have x0 := b3.cell (i := 0) rfl
  have x1 := b3.cell (i := 1) rfl
  have x2 := b3.cell (i := 2) rfl
  have hc1 := hc.trans hch1 (by simp)
  have B6 := Lib.hid b6; clear b6 b3
  have HC1 := Lib.hid hc1; clear hc1
  have HRG1 := Lib.hid hrg1; clear hrg1
  have hne : rb1 ≠ w.heap.size + 1 := by rcases hfr1 with e | e <;> omega
  have hfr2 : rb1 = rb ∨ w.heap.size ≤ rb1 := by have := hc.size; rcases hfr1 with e | e <;> omega
  clear hch1 hc HA hfr1
  go_wp2_with fail
  refine calls_named fun W2 hW2 => ?_
  have hc2 : Ch [] w1 W2 := by rw [hW2]; exact (Ch.refl _ _).alloc _
  clear hW2
  have hS := r23step_is (q := q) (H.out.ch (HC1.out.trans hc2 (by simp)) (by simp)) (HRG1.out.ch hc2 (by simp)) r1 e1
  refine hS.mono ?_
  rintro e w2 ⟨rb', cap', rfl, hrg', hch', hfr'⟩
  generalize rstep (G, q) (G1, r1, e1) = R at *
  have b6 := (B6.out.ch hc2 (by simp)).ch hch' (by simp)
  have z0 := b6.cell (i := 0) rfl
  have z1 := b6.cell (i := 1) rfl
  have z2 := b6.cell (i := 2) rfl
  have f0 := b6.frozen (i := 0)
  have f1 := b6.frozen (i := 1)
  have f2 := b6.frozen (i := 2)
  have HC2 := Lib.hid ((HC1.out.trans hc2 (by simp)).trans hch' (by simp))
  have HRG' := Lib.hid hrg'; clear hrg' hch' hc2 hS b6 B6 HC1 HRG1 x0 x1 x2
  go_wp2_with fail
  have hcc := set3_ch (w := w2) (b := w.heap.size + 1) (u := .int .i64 R.1.1.most) (v := .slice (some ⟨rb', 0, none⟩) R.1.1.nodes.length cap') (x := .int .i64 R.1.2) rfl
  refine bodyPost_ret (v := .tuple #[.agg #[.int .i64 R.1.1.most, .slice (some ⟨rb', 0, none⟩) R.1.1.nodes.length cap', .int .i64 R.1.2], .int .i64 R.2]) (by simp [results, Tryz.results142, go_sem, z0, z1, z2]) rfl ?_
  exact ⟨rb', cap', rfl, HRG'.out.ch hcc (by simp; rcases hfr' with e | e <;> omega), HC2.out.trans hcc (fun k hk => .inr (by simp at hk; omega)), by rcases hfr' with e | e <;> omega⟩
set_option maxRecDepth 100000 in
set_option maxHeartbeats 2000000 in
theorem r23Or_is {w : World} {rb cap q : Nat} {G : Gra} (h : RG w rb cap G) {a b : Nat} (ha : a < 2 * G.nodes.length) (hb : b < 2 * G.nodes.length) :
    Calls Tryz.prog 143 #[.agg #[.int .i64 G.most, .slice (some ⟨rb, 0, none⟩) G.nodes.length cap, .int .i64 q], .int .i64 a, .int .i64 b] w (STo w rb (rstep (G, q) (rOr G a b))) := by
  have hrb := h.lt
  have hA := fun (W : World) (hc : Ch [] w W) => rOr_is (h.ch hc (by simp)) ha hb
  generalize rOr G a b = X at *
  obtain ⟨G1, r1, e1⟩ := X
  have HA := Lib.hid hA; clear hA
  have H := Lib.hid h; clear h ha hb
  go_enter Tryz.func143, Tryz.ntmps143
  go_wp2_with fail
  refine calls_named fun W hW => ?_
  have b3 : blk W w.heap.size [.int .i64 G.most, .slice (some ⟨rb, 0, none⟩) G.nodes.length cap, .int .i64 q] := by rw [hW]; exact (blk.new' _ _ (by simp)).alloc _
  have b6 : blk W (w.heap.size + 1) [.int .i64 0, .slice none 0 0, .int .i64 0] := by rw [hW]; exact blk.new' _ _ (by simp)
  have hc : Ch [] w W := by rw [hW]; exact ((Ch.refl _ _).alloc _).alloc _
  clear hW
  refine (HA.out W hc).mono ?_
  rintro e w1 ⟨rb1, cap1, rfl, hrg1, hch1, hfr1⟩
  have hz := b6.lt
  have b3 := b3.ch hch1 (by simp)
  have b6 := b6.ch hch1 (by simp)
  have hz1 := b6.lt
  have hz0 := b3.lt
  have x0 := b3.cell (i := 0) rfl
  have x1 := b3.cell (i := 1) rfl
  have x2 := b3.cell (i := 2) rfl
  have hc1 := hc.trans hch1 (by simp)
  have B6 := Lib.hid b6; clear b6 b3
  have HC1 := Lib.hid hc1; clear hc1
  have HRG1 := Lib.hid hrg1; clear hrg1
  have hne : rb1 ≠ w.heap.size + 1 := by rcases hfr1 with e | e <;> omega
  have hfr2 : rb1 = rb ∨ w.heap.size ≤ rb1 := by have := hc.size; rcases hfr1 with e | e <;> omega
  clear hch1 hc HA hfr1
  go_wp2_with fail
  refine calls_named fun W2 hW2 => ?_
  have hc2 : Ch [] w1 W2 := by rw [hW2]; exact (Ch.refl _ _).alloc _
  clear hW2
  have hS := r23step_is (q := q) (H.out.ch (HC1.out.trans hc2 (by simp)) (by simp)) (HRG1.out.ch hc2 (by simp)) r1 e1
  refine hS.mono ?_
  rintro e w2 ⟨rb', cap', rfl, hrg', hch', hfr'⟩
  generalize rstep (G, q) (G1, r1, e1) = R at *
  have b6 := (B6.out.ch hc2 (by simp)).ch hch' (by simp)
  have z0 := b6.cell (i := 0) rfl
  have z1 := b6.cell (i := 1) rfl
  have z2 := b6.cell (i := 2) rfl
  have f0 := b6.frozen (i := 0)
  have f1 := b6.frozen (i := 1)
  have f2 := b6.frozen (i := 2)
  have HC2 := Lib.hid ((HC1.out.trans hc2 (by simp)).trans hch' (by simp))
  have HRG' := Lib.hid hrg'; clear hrg' hch' hc2 hS b6 B6 HC1 HRG1 x0 x1 x2
  go_wp2_with fail
  have hcc := set3_ch (w := w2) (b := w.heap.size + 1) (u := .int .i64 R.1.1.most) (v := .slice (some ⟨rb', 0, none⟩) R.1.1.nodes.length cap') (x := .int .i64 R.1.2) rfl
  refine bodyPost_ret (v := .tuple #[.agg #[.int .i64 R.1.1.most, .slice (some ⟨rb', 0, none⟩) R.1.1.nodes.length cap', .int .i64 R.1.2], .int .i64 R.2]) (by simp [results, Tryz.results143, go_sem, z0, z1, z2]) rfl ?_
  exact ⟨rb', cap', rfl, HRG'.out.ch hcc (by simp; rcases hfr' with e | e <;> omega), HC2.out.trans hcc (fun k hk => .inr (by simp at hk; omega)), by rcases hfr' with e | e <;> omega⟩
set_option maxRecDepth 100000 in
set_option maxHeartbeats 2000000 in
theorem r23Xor_is {w : World} {rb cap q : Nat} {G : Gra} (h : RG w rb cap G) {a b : Nat} (ha : a < 2 * G.nodes.length) (hb : b < 2 * G.nodes.length) :
    Calls Tryz.prog 144 #[.agg #[.int .i64 G.most, .slice (some ⟨rb, 0, none⟩) G.nodes.length cap, .int .i64 q], .int .i64 a, .int .i64 b] w (STo w rb (rstep (G, q) (rXor G a b))) := by
  have hrb := h.lt
  have hA := fun (W : World) (hc : Ch [] w W) => rXor_is (h.ch hc (by simp)) ha hb
  generalize rXor G a b = X at *
  obtain ⟨G1, r1, e1⟩ := X
  have HA := Lib.hid hA; clear hA
  have H := Lib.hid h; clear h ha hb
  go_enter Tryz.func144, Tryz.ntmps144
  go_wp2_with fail
  refine calls_named fun W hW => ?_
  have b3 : blk W w.heap.size [.int .i64 G.most, .slice (some ⟨rb, 0, none⟩) G.nodes.length cap, .int .i64 q] := by rw [hW]; exact (blk.new' _ _ (by simp)).alloc _
  have b6 : blk W (w.heap.size + 1) [.int .i64 0, .slice none 0 0, .int .i64 0] := by rw [hW]; exact blk.new' _ _ (by simp)
  have hc : Ch [] w W := by rw [hW]; exact ((Ch.refl _ _).alloc _).alloc _
  clear hW
  refine (HA.out W hc).mono ?_
  rintro e w1 ⟨rb1, cap1, rfl, hrg1, hch1, hfr1⟩
  have hz := b6.lt
  have b3 := b3.ch hch1 (by simp)
  have b6 := b6.ch hch1 (by simp)
  have hz1 := b6.lt
  have hz0 := b3.lt
  have x0 := b3.cell (i := 0) rfl
  have x1 := b3.cell (i := 1) rfl
  have x2 := b3.cell (i := 2) rfl
  have hc1 := hc.trans hch1 (by simp)
  have B6 := Lib.hid b6; clear b6 b3
  have HC1 := Lib.hid hc1; clear hc1
  have HRG1 := Lib.hid hrg1; clear hrg1
  have hne : rb1 ≠ w.heap.size + 1 := by rcases hfr1 with e | e <;> omega
  have hfr2 : rb1 = rb ∨ w.heap.size ≤ rb1 := by have := hc.size; rcases hfr1 with e | e <;> omega
  clear hch1 hc HA hfr1
  go_wp2_with fail
  refine calls_named fun W2 hW2 => ?_
  have hc2 : Ch [] w1 W2 := by rw [hW2]; exact (Ch.refl _ _).alloc _
  clear hW2
  have hS := r23step_is (q := q) (H.out.ch (HC1.out.trans hc2 (by simp)) (by simp)) (HRG1.out.ch hc2 (by simp)) r1 e1
  refine hS.mono ?_
  rintro e w2 ⟨rb', cap', rfl, hrg', hch', hfr'⟩
  generalize rstep (G, q) (G1, r1, e1) = R at *
  have b6 := (B6.out.ch hc2 (by simp)).ch hch' (by simp)
  have z0 := b6.cell (i := 0) rfl
  have z1 := b6.cell (i := 1) rfl
  have z2 := b6.cell (i := 2) rfl
  have f0 := b6.frozen (i := 0)
  have f1 := b6.frozen (i := 1)
  have f2 := b6.frozen (i := 2)
  have HC2 := Lib.hid ((HC1.out.trans hc2 (by simp)).trans hch' (by simp))
  have HRG' := Lib.hid hrg'; clear hrg' hch' hc2 hS b6 B6 HC1 HRG1 x0 x1 x2
  go_wp2_with fail
  have hcc := set3_ch (w := w2) (b := w.heap.size + 1) (u := .int .i64 R.1.1.most) (v := .slice (some ⟨rb', 0, none⟩) R.1.1.nodes.length cap') (x := .int .i64 R.1.2) rfl
  refine bodyPost_ret (v := .tuple #[.agg #[.int .i64 R.1.1.most, .slice (some ⟨rb', 0, none⟩) R.1.1.nodes.length cap', .int .i64 R.1.2], .int .i64 R.2]) (by simp [results, Tryz.results144, go_sem, z0, z1, z2]) rfl ?_
  exact ⟨rb', cap', rfl, HRG'.out.ch hcc (by simp; rcases hfr' with e | e <;> omega), HC2.out.trans hcc (fun k hk => .inr (by simp at hk; omega)), by rcases hfr' with e | e <;> omega⟩
set_option maxRecDepth 100000 in
set_option maxHeartbeats 2000000 in
theorem r23Mux_is {w : World} {rb cap q : Nat} {G : Gra} (h : RG w rb cap G) {c a b : Nat} (hc : c < 2 * G.nodes.length) (ha : a < 2 * G.nodes.length) (hb : b < 2 * G.nodes.length) :
    Calls Tryz.prog 146 #[.agg #[.int .i64 G.most, .slice (some ⟨rb, 0, none⟩) G.nodes.length cap, .int .i64 q], .int .i64 c, .int .i64 a, .int .i64 b] w (STo w rb (rstep (G, q) (rMux G c a b))) := by
  have hrb := h.lt
  have hA := fun (W : World) (h0 : Ch [] w W) => rMux_is (h.ch h0 (by simp)) hc ha hb
  generalize rMux G c a b = X at *
  obtain ⟨G1, r1, e1⟩ := X
  have HA := Lib.hid hA; clear hA
  have H := Lib.hid h; clear h hc ha hb
  go_enter Tryz.func146, Tryz.ntmps146
  go_wp2_with fail
  refine calls_named fun W hW => ?_
  have b3 : blk W w.heap.size [.int .i64 G.most, .slice (some ⟨rb, 0, none⟩) G.nodes.length cap, .int .i64 q] := by rw [hW]; exact (blk.new' _ _ (by simp)).alloc _
  have b6 : blk W (w.heap.size + 1) [.int .i64 0, .slice none 0 0, .int .i64 0] := by rw [hW]; exact blk.new' _ _ (by simp)
  have hc : Ch [] w W := by rw [hW]; exact ((Ch.refl _ _).alloc _).alloc _
  clear hW
  refine (HA.out W hc).mono ?_
  rintro e w1 ⟨rb1, cap1, rfl, hrg1, hch1, hfr1⟩
  have hz := b6.lt
  have b3 := b3.ch hch1 (by simp)
  have b6 := b6.ch hch1 (by simp)
  have hz1 := b6.lt
  have hz0 := b3.lt
  have x0 := b3.cell (i := 0) rfl
  have x1 := b3.cell (i := 1) rfl
  have x2 := b3.cell (i := 2) rfl
  have hc1 := hc.trans hch1 (by simp)
  have B6 := Lib.hid b6; clear b6 b3
  have HC1 := Lib.hid hc1; clear hc1
  have HRG1 := Lib.hid hrg1; clear hrg1
  have hne : rb1 ≠ w.heap.size + 1 := by rcases hfr1 with e | e <;> omega
  have hfr2 : rb1 = rb ∨ w.heap.size ≤ rb1 := by have := hc.size; rcases hfr1 with e | e <;> omega
  clear hch1 hc HA hfr1
  go_wp2_with fail
  refine calls_named fun W2 hW2 => ?_
  have hc2 : Ch [] w1 W2 := by rw [hW2]; exact (Ch.refl _ _).alloc _
  clear hW2
  have hS := r23step_is (q := q) (H.out.ch (HC1.out.trans hc2 (by simp)) (by simp)) (HRG1.out.ch hc2 (by simp)) r1 e1
  refine hS.mono ?_
  rintro e w2 ⟨rb', cap', rfl, hrg', hch', hfr'⟩
  generalize rstep (G, q) (G1, r1, e1) = R at *
  have b6 := (B6.out.ch hc2 (by simp)).ch hch' (by simp)
  have z0 := b6.cell (i := 0) rfl
  have z1 := b6.cell (i := 1) rfl
  have z2 := b6.cell (i := 2) rfl
  have f0 := b6.frozen (i := 0)
  have f1 := b6.frozen (i := 1)
  have f2 := b6.frozen (i := 2)
  have HC2 := Lib.hid ((HC1.out.trans hc2 (by simp)).trans hch' (by simp))
  have HRG' := Lib.hid hrg'; clear hrg' hch' hc2 hS b6 B6 HC1 HRG1 x0 x1 x2
  go_wp2_with fail
  have hcc := set3_ch (w := w2) (b := w.heap.size + 1) (u := .int .i64 R.1.1.most) (v := .slice (some ⟨rb', 0, none⟩) R.1.1.nodes.length cap') (x := .int .i64 R.1.2) rfl
  refine bodyPost_ret (v := .tuple #[.agg #[.int .i64 R.1.1.most, .slice (some ⟨rb', 0, none⟩) R.1.1.nodes.length cap', .int .i64 R.1.2], .int .i64 R.2]) (by simp [results, Tryz.results146, go_sem, z0, z1, z2]) rfl ?_
  exact ⟨rb', cap', rfl, HRG'.out.ch hcc (by simp; rcases hfr' with e | e <;> omega), HC2.out.trans hcc (fun k hk => .inr (by simp at hk; omega)), by rcases hfr' with e | e <;> omega⟩
set_option maxRecDepth 100000 in
set_option maxHeartbeats 2000000 in
theorem r23Any_is {w : World} {rb cap q : Nat} {G : Gra} (h : RG w rb cap G) {x : Option Addr} {l : List Nat} (n acap : Nat) (hn : l.length = n) (hs : Sl w x (l.map fun (r : Nat) => (r : Int))) (hr : ∀ r ∈ l, r < 2 * G.nodes.length) (hm : n ≤ 1000000) :
    Calls Tryz.prog 131 #[.agg #[.int .i64 G.most, .slice (some ⟨rb, 0, none⟩) G.nodes.length cap, .int .i64 q], .slice x n acap] w (STo w rb (rstep (G, q) (rAny G l))) := by
  have hrb := h.lt
  have hA := fun (W : World) (h0 : Ch [] w W) => rAny_is (h.ch h0 (by simp)) n acap hn (hs.ch h0 (by simp)) hr hm
  generalize rAny G l = X at *
  obtain ⟨G1, r1, e1⟩ := X
  have HA := Lib.hid hA; clear hA
  have H := Lib.hid h; clear h hs hr hn
  go_enter Tryz.func131, Tryz.ntmps131
  go_wp2_with fail
  refine calls_named fun W hW => ?_
  have b3 : blk W w.heap.size [.int .i64 G.most, .slice (some ⟨rb, 0, none⟩) G.nodes.length cap, .int .i64 q] := by rw [hW]; exact (blk.new' _ _ (by simp)).alloc _
  have b6 : blk W (w.heap.size + 1) [.int .i64 0, .slice none 0 0, .int .i64 0] := by rw [hW]; exact blk.new' _ _ (by simp)
  have hc : Ch [] w W := by rw [hW]; exact ((Ch.refl _ _).alloc _).alloc _
  clear hW
  refine (HA.out W hc).mono ?_
  rintro e w1 ⟨rb1, cap1, rfl, hrg1, hch1, hfr1⟩
  have hz := b6.lt
  have b3 := b3.ch hch1 (by simp)
  have b6 := b6.ch hch1 (by simp)
  have hz1 := b6.lt
  have hz0 := b3.lt
  have x0 := b3.cell (i := 0) rfl
  have x1 := b3.cell (i := 1) rfl
  have x2 := b3.cell (i := 2) rfl
  have hc1 := hc.trans hch1 (by simp)
  have B6 := Lib.hid b6; clear b6 b3
  have HC1 := Lib.hid hc1; clear hc1
  have HRG1 := Lib.hid hrg1; clear hrg1
  have hne : rb1 ≠ w.heap.size + 1 := by rcases hfr1 with e | e <;> omega
  have hfr2 : rb1 = rb ∨ w.heap.size ≤ rb1 := by have := hc.size; rcases hfr1 with e | e <;> omega
  clear hch1 hc HA hfr1
  go_wp2_with fail
  refine calls_named fun W2 hW2 => ?_
  have hc2 : Ch [] w1 W2 := by rw [hW2]; exact (Ch.refl _ _).alloc _
  clear hW2
  have hS := r23step_is (q := q) (H.out.ch (HC1.out.trans hc2 (by simp)) (by simp)) (HRG1.out.ch hc2 (by simp)) r1 e1
  refine hS.mono ?_
  rintro e w2 ⟨rb', cap', rfl, hrg', hch', hfr'⟩
  generalize rstep (G, q) (G1, r1, e1) = R at *
  have b6 := (B6.out.ch hc2 (by simp)).ch hch' (by simp)
  have z0 := b6.cell (i := 0) rfl
  have z1 := b6.cell (i := 1) rfl
  have z2 := b6.cell (i := 2) rfl
  have f0 := b6.frozen (i := 0)
  have f1 := b6.frozen (i := 1)
  have f2 := b6.frozen (i := 2)
  have HC2 := Lib.hid ((HC1.out.trans hc2 (by simp)).trans hch' (by simp))
  have HRG' := Lib.hid hrg'; clear hrg' hch' hc2 hS b6 B6 HC1 HRG1 x0 x1 x2
  go_wp2_with fail
  have hcc := set3_ch (w := w2) (b := w.heap.size + 1) (u := .int .i64 R.1.1.most) (v := .slice (some ⟨rb', 0, none⟩) R.1.1.nodes.length cap') (x := .int .i64 R.1.2) rfl
  refine bodyPost_ret (v := .tuple #[.agg #[.int .i64 R.1.1.most, .slice (some ⟨rb', 0, none⟩) R.1.1.nodes.length cap', .int .i64 R.1.2], .int .i64 R.2]) (by simp [results, Tryz.results131, go_sem, z0, z1, z2]) rfl ?_
  exact ⟨rb', cap', rfl, HRG'.out.ch hcc (by simp; rcases hfr' with e | e <;> omega), HC2.out.trans hcc (fun k hk => .inr (by simp at hk; omega)), by rcases hfr' with e | e <;> omega⟩
end
end Go.Proofs.YtchledddgmbndaaGreat
namespace Go.Aig
theorem eachF_sok' {G : Gra} {s : Mk} (hs : SOk G s) {f : Gra → Nat → Nat → Res} (hf : Full2 f) (l : List (Nat × Nat)) (hl : ∀ p ∈ l, p.1 < 2 * s.1.nodes.length ∧ p.2 < 2 * s.1.nodes.length) : LOk s.1 (eachF (rop f) s l) := by
  have : ∀ (l : List (Nat × Nat)) (q : Mk × List Nat), LOk s.1 q → (∀ p ∈ l, p.1 < 2 * s.1.nodes.length ∧ p.2 < 2 * s.1.nodes.length) → LOk s.1 (l.foldl (eachS (rop f)) q) := by
    intro l
    induction l with
    | nil => intro q h _; exact h
    | cons p l ih =>
      intro q h hl
      obtain ⟨h1, h2⟩ := hl p (List.mem_cons_self ..)
      obtain ⟨k1, k2, k3⟩ := rstep_sok h.s (Y := f q.1.1 p.1 p.2) (fun _ => hf q.1.1 h.s.ok p.1 p.2 (h.s.ext.lt h1) (h.s.ext.lt h2))
      exact ih _ (LOk.snoc h k1 k3 k2) (fun p hp => hl p (List.mem_cons_of_mem _ hp))
  exact this l _ ⟨⟨hs.ok, .refl _, hs.err⟩, by simp⟩ hl
theorem eachF_len' (op : Mk → Nat → Nat → Mk × Nat) (s : Mk) (l : List (Nat × Nat)) : (eachF op s l).2.length = l.length := by
  have : ∀ (l : List (Nat × Nat)) (q : Mk × List Nat), (l.foldl (eachS op) q).2.length = q.2.length + l.length := by
    intro l
    induction l with
    | nil => intro q; rfl
    | cons p l ih => intro q; rw [List.foldl_cons, ih]; simp [eachS]; omega
  have h := this l (s, [])
  rw [List.length_nil, Nat.zero_add] at h
  exact h
end Go.Aig
namespace Go.Proofs.YtchledddgmbndaaGreat
open Go.RowKit Go.Mem Go.Aig
theorem natInts_snoc' (l : List Nat) (r : Nat) : intCells (natInts (l ++ [r])) = intCells (natInts l) ++ [.int .i64 r] := by simp [intCells, natInts]
theorem sl_lt' {w : World} {a : Option Addr} {l : List Int} (h : Sl w a l) (h0 : 0 < l.length) : ∀ p, a = some p → p.block < w.heap.size := fun p hp => by
  obtain ⟨b, o, e, hc⟩ := h.cells 0 _ (List.getElem?_eq_getElem h0)
  rw [hp] at e; cases e
  exact cell_lt hc
/-- the cells of a state -/
def stCells (rb cap : Nat) (s : Mk) : List Value := [.int .i64 s.1.most, .slice (some ⟨rb, 0, none⟩) s.1.nodes.length cap, .int .i64 s.2]
theorem set3_blk {w W : World} {b : Nat} {c0 c1 c2 u v x : Value} (h : blk w b [c0, c1, c2]) (hW : W = ((w.setCell ⟨b, 0, none⟩ u).setCell ⟨b, 1, none⟩ v).setCell ⟨b, 2, none⟩ x) : blk W b [u, v, x] := by
  rw [hW]; exact ((h.set (i := 0) _).set (i := 1) _).set (i := 2) _
/-- a function of the reference's states between two steps: its state lies in the block of its parameter; the word that it makes -/
structure RSt (w W : World) (rb0 rb cap : Nat) (s : Mk) (v : Value) (l : List Nat) : Prop where
  ch : Ch [] w W
  rg : RG W rb cap s.1
  fr : rb = rb0 ∨ w.heap.size + 2 ≤ rb
  b4 : blk W w.heap.size [.int .i64 s.1.most, .slice (some ⟨rb, 0, none⟩) s.1.nodes.length cap, .int .i64 s.2]
  b8 : blk W (w.heap.size + 1) [.int .i64 0, .slice none 0 0, .int .i64 0]
  rw : row W 3 1 v l.length (intCells (natInts l))
  own : ∀ q, v.ownBlock = some q → w.heap.size + 2 ≤ q ∧ q ≠ rb
  low : rb0 < w.heap.size
theorem RSt.start {w W : World} {rb cap : Nat} {G : Gra} {q : Nat} (h : RG w rb cap G) {o : Obj} (hW : W = (w.alloc o).alloc (.cells #[.int .i64 0, .slice none 0 0, .int .i64 0] 141)) (ho : o = .cells #[.int .i64 G.most, .slice (some ⟨rb, 0, none⟩) G.nodes.length cap, .int .i64 q] 141) : RSt w W rb rb cap (G, q) (.slice none 0 0) [] := by
  subst ho
  have hc : Ch [] w W := by rw [hW]; exact ((Ch.refl _ _).alloc _).alloc _
  refine ⟨hc, h.ch hc (by simp), .inl rfl, by rw [hW]; exact (blk.new' _ _ rfl).alloc _, by rw [hW]; exact blk.new' _ _ (by simp), ⟨rfl, .inl ⟨rfl, rfl⟩⟩, by simp [Value.ownBlock], h.lt⟩
section
variable {w W W' : World} {rb0 rb cap : Nat} {s : Mk} {v : Value} {l : List Nat}
theorem RSt.same (h : RSt w W rb0 rb cap s v l) (hc : Ch [] W W') : RSt w W' rb0 rb cap s v l :=
  ⟨h.ch.trans hc (by simp), h.rg.ch hc (by simp), h.fr, h.b4.ch hc (by simp), h.b8.ch hc (by simp), h.rw.ch hc (by simp), h.own, h.low⟩
theorem RSt.lt (h : RSt w W rb0 rb cap s v l) : w.heap.size + 2 ≤ W.heap.size := h.b8.lt
theorem RSt.put {Wb : World} {rb' cap' q' : Nat} {G' : Gra} (h : RSt w Wb rb0 rb cap s v l) (hc : Ch [] Wb W) (hr : RG W rb' cap' G') (hf : rb' = rb ∨ Wb.heap.size ≤ rb')
    (hW : W' = ((W.setCell ⟨w.heap.size, 0, none⟩ (.int .i64 G'.most)).setCell ⟨w.heap.size, 1, none⟩ (.slice (some ⟨rb', 0, none⟩) G'.nodes.length cap')).setCell ⟨w.heap.size, 2, none⟩ (.int .i64 q')) : RSt w W' rb0 rb' cap' (G', q') v l := by
  have hcs := set3_ch hW
  have hlo := h.lt
  have hfr := h.fr
  have hl0 := h.low
  refine ⟨(h.ch.trans hc (by simp)).trans hcs (fun k hk => .inr (by simp at hk; omega)), hr.ch hcs (by simp; rcases hf with e | e <;> omega), by rcases hf with e | e <;> omega, set3_blk (h.b4.ch hc (by simp)) hW, (h.b8.ch hc (by simp)).ch hcs (by simp), (h.rw.ch hc (by simp)).ch hcs (fun k hk => by have := (h.own k hk).1; simp; omega), fun q hq => ⟨(h.own q hq).1, ?_⟩, hl0⟩
  have h1 := (h.own q hq).2
  have h2 := (h.rw.lt q hq).2
  rcases hf with e | e <;> omega
theorem RSt.app {na : Option Addr} {nc r : Nat} {o : Obj} {wz : World} {v' : Value} (h : RSt w W rb0 rb cap s (.slice na l.length nc) l) (hrow : row wz 3 1 v' (l.length + 1) (intCells (natInts l) ++ [.int .i64 r]))
    (hc : Ch (Value.slice na l.length nc).ownBlock.toList (W.alloc o) wz) (hf : ∀ k, v'.ownBlock = some k → (Value.slice na l.length nc).ownBlock = some k ∨ (W.alloc o).heap.size ≤ k) : RSt w wz rb0 rb cap s v' (l ++ [r]) := by
  have hcA : Ch [] W (W.alloc o) := (Ch.refl _ _).alloc _
  have hA := h.same hcA
  have hlo := h.lt
  have hown : ∀ k ∈ (Value.slice na l.length nc).ownBlock.toList, w.heap.size + 2 ≤ k ∧ k ≠ rb := fun k hk => h.own k (by simpa using hk)
  have hz := hcA.size
  have hzz := hc.size
  have hrl := h.rg.lt
  refine ⟨hA.ch.trans hc (fun k hk => .inr (by have := hown k hk; omega)), hA.rg.ch hc (fun hk => (hown _ hk).2 rfl), h.fr, hA.b4.ch hc (fun hk => by have := hown _ hk; omega), hA.b8.ch hc (fun hk => by have := hown _ hk; omega), ?_, fun q hq => ?_, h.low⟩
  · rw [natInts_snoc', List.length_append]; exact hrow
  · rcases hf q hq with e | e
    · exact h.own q e
    · exact ⟨by omega, by omega⟩
end
/-- what a call and a store behind it leave: a state in a block of its own, and a reference -/
def TS (wr wd : World) (rbk : Nat) (R : Mk × Nat) (p q : Value) : Prop := ∃ rb' cap' b9, p = .pointer (some ⟨b9, 0, none⟩) ∧ q = .int .i64 R.2 ∧ Ch [] wr wd ∧ RG wd rb' cap' R.1.1 ∧ (rb' = rbk ∨ wr.heap.size ≤ rb') ∧
  blk wd b9 [.int .i64 R.1.1.most, .slice (some ⟨rb', 0, none⟩) R.1.1.nodes.length cap', .int .i64 R.1.2] ∧ wr.heap.size ≤ b9
theorem TS.mk {wr W W8 : World} {rbk : Nat} {R : Mk × Nat} {rb' cap' b9 : Nat} {c0 c1 c2 : Value} (hc : Ch [] wr W) (hr : RG W rb' cap' R.1.1) (hf : rb' = rbk ∨ wr.heap.size ≤ rb') (hb : blk W b9 [c0, c1, c2]) (hlo : wr.heap.size ≤ b9) (hne : rb' ≠ b9)
    (hW : W8 = ((W.setCell ⟨b9, 0, none⟩ (.int .i64 R.1.1.most)).setCell ⟨b9, 1, none⟩ (.slice (some ⟨rb', 0, none⟩) R.1.1.nodes.length cap')).setCell ⟨b9, 2, none⟩ (.int .i64 R.1.2)) :
    TS wr W8 rbk R (.pointer (some ⟨b9, 0, none⟩)) (.int .i64 R.2) := by
  have hcs := set3_ch hW
  exact ⟨rb', cap', b9, rfl, rfl, hc.trans hcs (fun k hk => .inr (by simp at hk; omega)), hr.ch hcs (by simpa using hne), hf, set3_blk hb hW, hlo⟩
theorem TS.new {wr w7 W8 : World} {rbk : Nat} {R : Mk × Nat} {rb' cap' : Nat} (hc : Ch [] wr w7) (hr : RG w7 rb' cap' R.1.1) (hf : rb' = rbk ∨ wr.heap.size ≤ rb')
    (hW : W8 = w7.alloc (.cells #[.int .i64 R.1.1.most, .slice (some ⟨rb', 0, none⟩) R.1.1.nodes.length cap', .int .i64 R.1.2] 141)) :
    TS wr W8 rbk R (.pointer (some ⟨w7.heap.size, 0, none⟩)) (.int .i64 R.2) := by
  have hcA : Ch [] w7 W8 := by rw [hW]; exact (Ch.refl _ _).alloc _
  exact ⟨rb', cap', _, rfl, rfl, hc.trans hcA (by simp), hr.ch hcA (by simp), hf, by rw [hW]; exact blk.new' _ _ rfl, hc.size⟩
/-- what a function of the reference's states leaves: a state, and a word of its own -/
def LTo (w : World) (rb : Nat) (R : Mk × List Nat) (e : Ending) (w' : World) : Prop := ∃ rb' cap' a c, e = .returned (.tuple #[.agg #[.int .i64 R.1.1.most, .slice (some ⟨rb', 0, none⟩) R.1.1.nodes.length cap', .int .i64 R.1.2], .slice a R.2.length c]) ∧ RG w' rb' cap' R.1.1 ∧ Ch [] w w' ∧ (rb' = rb ∨ w.heap.size ≤ rb') ∧ row w' 3 1 (.slice a R.2.length c) R.2.length (intCells (natInts R.2)) ∧ ∀ q, (Value.slice a R.2.length c).ownBlock = some q → w.heap.size ≤ q ∧ q ≠ rb'
section
variable {w W W' : World} {rb0 rb cap : Nat} {s : Mk} {v : Value} {l : List Nat}
theorem RSt.fin {na : Option Addr} {nc : Nat} (h : RSt w W rb0 rb cap s (.slice na l.length nc) l) (hW : W' = ((W.setCell ⟨w.heap.size + 1, 0, none⟩ (.int .i64 s.1.most)).setCell ⟨w.heap.size + 1, 1, none⟩ (.slice (some ⟨rb, 0, none⟩) s.1.nodes.length cap)).setCell ⟨w.heap.size + 1, 2, none⟩ (.int .i64 s.2)) :
    LTo w rb0 (s, l) (.returned (.tuple #[.agg #[.int .i64 s.1.most, .slice (some ⟨rb, 0, none⟩) s.1.nodes.length cap, .int .i64 s.2], .slice na l.length nc])) W' := by
  have hcs := set3_ch hW
  have hfr := h.fr
  have hl0 := h.low
  exact ⟨rb, cap, na, nc, rfl, h.rg.ch hcs (by simp; omega), h.ch.trans hcs (fun k hk => .inr (by simp at hk; omega)), by omega, h.rw.ch hcs (fun k hk => by have := (h.own k hk).1; simp; omega), fun q hq => ⟨by have := (h.own q hq).1; omega, (h.own q hq).2⟩⟩
theorem RSt.finS (h : RSt w W rb0 rb cap s v l) {r : Nat} (hW : W' = ((W.setCell ⟨w.heap.size + 1, 0, none⟩ (.int .i64 s.1.most)).setCell ⟨w.heap.size + 1, 1, none⟩ (.slice (some ⟨rb, 0, none⟩) s.1.nodes.length cap)).setCell ⟨w.heap.size + 1, 2, none⟩ (.int .i64 s.2)) :
    STo w rb0 (s, r) (.returned (.tuple #[.agg #[.int .i64 s.1.most, .slice (some ⟨rb, 0, none⟩) s.1.nodes.length cap, .int .i64 s.2], .int .i64 r])) W' := by
  have hcs := set3_ch hW
  have hfr := h.fr
  have hl0 := h.low
  exact ⟨rb, cap, rfl, h.rg.ch hcs (by simp; omega), h.ch.trans hcs (fun k hk => .inr (by simp at hk; omega)), by omega⟩
end
end Go.Proofs.YtchledddgmbndaaGreat
namespace Go.Aig
/-- the steps of a sum are right -/
theorem sum_chain {G : Gra} {R1 R2 R3 R4 R5 : Mk × Nat} {s0 : Mk} (h : SOk G s0) {a b c : Nat} (ha : a < 2 * G.nodes.length) (hb : b < 2 * G.nodes.length) (hc : c < 2 * s0.1.nodes.length)
    (h1 : R1 = rstep s0 (rXor s0.1 a b)) (h2 : R2 = rstep R1.1 (rXor R1.1.1 R1.2 c)) (h3 : R3 = rstep R2.1 (and R2.1.1 a b)) (h4 : R4 = rstep R3.1 (and R3.1.1 R1.2 c)) (h5 : R5 = rstep R4.1 (rOr R4.1.1 R3.2 R4.2)) :
    (a < 2 * s0.1.nodes.length ∧ b < 2 * s0.1.nodes.length) ∧ (R1.2 < 2 * R1.1.1.nodes.length ∧ c < 2 * R1.1.1.nodes.length) ∧ (SOk G R2.1 ∧ c < 2 * R2.1.1.nodes.length ∧ a < 2 * R2.1.1.nodes.length ∧ b < 2 * R2.1.1.nodes.length) ∧ (R1.2 < 2 * R3.1.1.nodes.length ∧ c < 2 * R3.1.1.nodes.length) ∧ (R3.2 < 2 * R4.1.1.nodes.length ∧ R4.2 < 2 * R4.1.1.nodes.length) ∧ (SOk G R5.1 ∧ R5.2 < 2 * R5.1.1.nodes.length) := by
  have ha0 := h.ext.lt ha
  have hb0 := h.ext.lt hb
  obtain ⟨a1, a2, a3⟩ := rstep_sok h (Y := rXor s0.1 a b) (fun _ => rXor_full h.ok ha0 hb0)
  rw [← h1] at a1 a2 a3
  obtain ⟨b1, b2, b3⟩ := rstep_sok a1 (Y := rXor R1.1.1 R1.2 c) (fun _ => rXor_full a1.ok a2 (a3.lt hc))
  rw [← h2] at b1 b2 b3
  have ha2 := b1.ext.lt ha
  have hb2 := b1.ext.lt hb
  obtain ⟨c1, c2, c3⟩ := rstep_sok b1 (Y := and R2.1.1 a b) (fun _ => and_full b1.ok ha2 hb2)
  rw [← h3] at c1 c2 c3
  obtain ⟨d1, d2, d3⟩ := rstep_sok c1 (Y := and R3.1.1 R1.2 c) (fun _ => and_full c1.ok (c3.lt (b3.lt a2)) (c3.lt (b3.lt (a3.lt hc))))
  rw [← h4] at d1 d2 d3
  obtain ⟨e1, e2, e3⟩ := rstep_sok d1 (Y := rOr R4.1.1 R3.2 R4.2) (fun _ => rOr_full d1.ok (d3.lt c2) d2)
  rw [← h5] at e1 e2 e3
  exact ⟨⟨ha0, hb0⟩, ⟨a2, a3.lt hc⟩, ⟨b1, b3.lt (a3.lt hc), ha2, hb2⟩, ⟨c3.lt (b3.lt a2), c3.lt (b3.lt (a3.lt hc))⟩, ⟨d3.lt c2, d2⟩, ⟨e1, e2⟩⟩
theorem sumF_cok {G : Gra} (hG : Ok G) (n : Nat) {c : Nat} (hc : c < 2 * G.nodes.length) : ∀ (l : List (Nat × Nat)), (∀ p ∈ l, p.1 < 2 * G.nodes.length ∧ p.2 < 2 * G.nodes.length) → SOk G (sumF n (G, 0) l c).1 ∧ (sumF n (G, 0) l c).2.2 < 2 * (sumF n (G, 0) l c).1.1.nodes.length := by
  have key : ∀ (l : List (Nat × Nat)) (q : Mk × List Nat × Nat), SOk G q.1 → q.2.2 < 2 * q.1.1.nodes.length → (∀ p ∈ l, p.1 < 2 * G.nodes.length ∧ p.2 < 2 * G.nodes.length) → SOk G (l.foldl (sumS n) q).1 ∧ (l.foldl (sumS n) q).2.2 < 2 * (l.foldl (sumS n) q).1.1.nodes.length := by
    intro l
    induction l with
    | nil => intro q h h2 _; exact ⟨h, h2⟩
    | cons p l ih =>
      intro q h h2 hl
      have hp := hl p (by simp)
      obtain ⟨_, _, k1, _, _, k2⟩ := sum_chain h hp.1 hp.2 h2 rfl rfl rfl rfl rfl
      have hl2 : ∀ p ∈ l, p.1 < 2 * G.nodes.length ∧ p.2 < 2 * G.nodes.length := fun p hp => hl p (by simp [hp])
      rw [List.foldl_cons]
      unfold sumS
      dsimp only
      split
      · exact ih _ k2.1 k2.2 hl2
      · exact ih _ k1.1 k1.2.1 hl2
  intro l hl
  exact key l _ (.start hG) hc hl
theorem inF_len (s : Mk) : ∀ n, (inF s n).2.length = n
  | 0 => rfl
  | n + 1 => by
    show ((inF s n).2 ++ [_]).length = n + 1
    rw [List.length_append, inF_len s n]; rfl
end Go.Aig
namespace Go.Proofs.YtchledddgmbndaaGreat
open Go.RowKit Go.Mem Go.Aig
section
variable {w : World}
set_option maxRecDepth 100000 in
set_option maxHeartbeats 8000000 in
theorem r23Each8_is {rb cap : Nat} {G : Gra} (h : RG w rb cap G) {xa ya : Option Addr} {X Y : List Nat} (n xc yc : Nat) (hX : Sl w xa (natInts X)) (hY : Sl w ya (natInts Y)) (hn : X.length = n) (hm : Y.length = n) (hn0 : n ≤ 1000) (hxr : ∀ r ∈ X, r < 2 * G.nodes.length) (hyr : ∀ r ∈ Y, r < 2 * G.nodes.length) :
    Calls Tryz.prog 124 #[.agg #[.int .i64 G.most, .slice (some ⟨rb, 0, none⟩) G.nodes.length cap, .int .i64 0], .int .i64 8, .slice xa n xc, .slice ya n yc] w (LTo w rb (eachF (rop and) (G, 0) (X.zip Y))) := by
  have hok := h.ok
  obtain ⟨Z, hZ⟩ : ∃ Z, Z = X.zip Y := ⟨_, rfl⟩
  have hZl : Z.length = n := by rw [hZ, List.length_zip, hn, hm]; omega
  have hZlt : ∀ p ∈ Z, p.1 < 2 * G.nodes.length ∧ p.2 < 2 * G.nodes.length := by rw [hZ]; exact fun p hp => ⟨hxr _ (List.of_mem_zip hp).1, hyr _ (List.of_mem_zip hp).2⟩
  have hZG : ∀ (j a b : Nat), Z[j]? = some (a, b) → X[j]? = some a ∧ Y[j]? = some b := fun j a b h => by rw [hZ] at h; exact List.getElem?_zip_eq_some.1 h
  rw [← hZ]
  have hElok := fun z (hz : ∀ p ∈ z, p ∈ Z) => eachF_sok' (G := G) (SOk.start hok) full_and z (fun p hp => hZlt p (hz p hp))
  have hEsn := fun z a b => eachF_snoc (rop and) (G, 0) z (a, b)
  have hE0 : eachF (rop and) (G, 0) [] = ((G, 0), []) := rfl
  have hElen := fun z => eachF_len' (rop and) (G, 0) z
  obtain ⟨E, hE⟩ : ∃ E : List (Nat × Nat) → Mk × List Nat, E = eachF (rop and) (G, 0) := ⟨_, rfl⟩
  rw [← hE] at hElok hEsn hE0 hElen ⊢
  clear hE hZ hxr hyr
  have HX := Lib.hid hX; clear hX
  have HY := Lib.hid hY; clear hY
  have HN := Lib.hid hn; clear hn
  have HM2 := Lib.hid hm; clear hm
  have H := Lib.hid h; clear h
  have HELOK := Lib.hid hElok; clear hElok
  have HESN := Lib.hid hEsn; clear hEsn
  have HE0 := Lib.hid hE0; clear hE0
  have HELEN := Lib.hid hElen; clear hElen
  have HZL := Lib.hid hZl; clear hZl
  have HZG := Lib.hid hZG; clear hZG
  have HZLT := Lib.hid hZlt; clear hZlt hok
  go_enter Tryz.func124, Tryz.ntmps124
  go_wp2_with fail
  refine wp_alw ?_
  intro W0 hW0
  have hst := RSt.start H.out hW0 rfl
  clear hW0
  have HST := Lib.hid hst; clear hst
  go_loopw [10, 11] (fun nx i wr => ∃ (j rbk capk : Nat), j ≤ n ∧ i = .int .i64 j ∧ RSt w wr rb rbk capk (E (Z.take j)).1 nx (E (Z.take j)).2) (fun _ i _ => n - (intOf i).toNat)
  case atStart => exact ⟨0, rb, cap, by omega, rfl, by rw [List.take_zero, HE0.out]; exact HST.out⟩
  case round =>
    clear HST
    obtain ⟨j, rbk, capk, hj, rfl, hst⟩ := hrel
    by_cases hjn : j < n
    · obtain ⟨⟨a, b⟩, hab⟩ : ∃ p, Z[j]? = some p := ⟨_, List.getElem?_eq_getElem (by rw [HZL.out]; exact hjn)⟩
      obtain ⟨hla, hlb⟩ := HZG.out j a b hab
      obtain ⟨hav, hbv⟩ := HZLT.out _ (List.mem_of_getElem? hab)
      have hsn : Z.take (j + 1) = Z.take j ++ [(a, b)] := by rw [List.take_add_one, hab]; rfl
      have hEs := HESN.out (Z.take j) a b
      rw [← hsn] at hEs
      have hlk := HELOK.out (Z.take j) (fun p hp => List.mem_of_mem_take hp)
      have hlen := HELEN.out (Z.take j)
      rw [List.length_take, HZL.out, Nat.min_eq_left hj] at hlen
      generalize hEE : E (Z.take (j + 1)) = EN at hEs
      generalize E (Z.take j) = ES at hEs hlk hst hlen
      obtain ⟨⟨G2, q2⟩, l2⟩ := ES
      simp only at hst hlen
      have hav : a < 2 * G2.nodes.length := hlk.s.ext.lt hav
      have hbv : b < 2 * G2.nodes.length := hlk.s.ext.lt hbv
      unfold eachS rop at hEs
      simp only at hEs
      have hM := fun (W : World) (hW : Ch [] wr W) => r23And_is (q := q2) (hst.rg.ch hW (by simp)) hav hbv
      obtain ⟨⟨⟨G3, q3⟩, p3⟩, hR⟩ : ∃ R : Mk × Nat, R = rstep (G2, q2) (and G2 a b) := ⟨_, rfl⟩
      simp only [← hR] at hEs hM
      subst hEs
      clear hR hlk hsn hab hav hbv
      have HEN := Lib.hid hEE; clear hEE
      have HM := Lib.hid hM; clear hM
      have HLEN := Lib.hid hlen; clear hlen
      have HST := Lib.hid hst; clear hst
      obtain ⟨ab, ao, ae, ac⟩ := HX.out.cells j (a : Int) (by simp [natInts, hla])
      have a0 : wr.cell? ⟨ab, ao + j, none⟩ = some (.int .i64 a) := (HST.out.ch.cell (cell_lt ac) (by simp)).trans ac
      subst ae
      clear ac
      obtain ⟨bb, bo, be, bc⟩ := HY.out.cells j (b : Int) (by simp [natInts, hlb])
      have b0 : wr.cell? ⟨bb, bo + j, none⟩ = some (.int .i64 b) := (HST.out.ch.cell (cell_lt bc) (by simp)).trans bc
      subst be
      clear bc
      clear hla hlb
      have hb4 := HST.out.b4
      have y0 := hb4.cell (i := 0) rfl
      have y1 := hb4.cell (i := 1) rfl
      have y2 := hb4.cell (i := 2) rfl
      clear hb4
      go_upto_region 6 with fail
      refine wp_alw ?_
      intro W5 hW5
      have hb12 : blk W5 wr.heap.size [.int .i64 G2.most, .slice (some ⟨rbk, 0, none⟩) G2.nodes.length capk, .int .i64 q2] := by rw [hW5]; exact blk.new' _ _ rfl
      have hc5 : Ch [] wr W5 := by rw [hW5]; exact (Ch.refl [] wr).alloc _
      clear hW5 y0 y1 y2
      replace a0 := (hc5.cell (cell_lt a0) (by simp)).trans a0
      replace b0 := (hc5.cell (cell_lt b0) (by simp)).trans b0
      have hb4 := (HST.out.same hc5).b4
      have y0 := hb4.cell (i := 0) rfl
      have y1 := hb4.cell (i := 1) rfl
      have y2 := hb4.cell (i := 2) rfl
      clear hb4
      have HC5 := Lib.hid hc5; clear hc5
      have HB12 := Lib.hid hb12; clear hb12
      go_wp2_with fail
      refine Ord.St.door (fun _ => True) [.rd, .fl, .fl, .fl, .rd, .fl, .fl, .fl, .rd, .ef, .fl, .fl, .fl, .ef, .fl] [0, 0, 0, 6, 14, 0, 0, 96, 224, 511, 1023, 2047, 2047, 4095, 16383] [0, 1, 2, 3, 4, 5, 6, 7, 8, 9, 10, 11, 12, 13, 14] mixed (by kernel_rfl) rfl ?_
      refine Ord.St.rd2 (T' := ?_) 0 [1, 2, 3, 4, 5, 6, 7, 8, 9, 10, 11, 12, 13, 14] _ _ rfl (by kernel_rfl) rfl rfl rfl rfl (fun K hk => ?_) ?_
      rotate_left
      · go_step; exact hk
      refine Ord.St.fl2 (T' := ?_) 1 [2, 3, 4, 5, 6, 7, 8, 9, 10, 11, 12, 13, 14] _ _ rfl (by kernel_rfl) rfl rfl rfl rfl (fun K w' hk => ?_) ?_
      rotate_left
      · go_step; exact hk
      refine Ord.St.fl2 (T' := ?_) 2 [3, 4, 5, 6, 7, 8, 9, 10, 11, 12, 13, 14] _ _ rfl (by kernel_rfl) rfl rfl rfl rfl (fun K w' hk => ?_) ?_
      rotate_left
      · go_step; exact hk
      refine Ord.St.fl2 (T' := ?_) 3 [4, 5, 6, 7, 8, 9, 10, 11, 12, 13, 14] _ _ rfl (by kernel_rfl) rfl rfl rfl rfl (fun K w' hk => ?_) ?_
      rotate_left
      · go_step; exact hk
      refine Ord.St.rd2 (T' := ?_) 4 [5, 6, 7, 8, 9, 10, 11, 12, 13, 14] _ _ rfl (by kernel_rfl) rfl rfl rfl rfl (fun K hk => ?_) ?_
      rotate_left
      · go_step; exact hk
      refine Ord.St.fl2 (T' := ?_) 5 [6, 7, 8, 9, 10, 11, 12, 13, 14] _ _ rfl (by kernel_rfl) rfl rfl rfl rfl (fun K w' hk => ?_) ?_
      rotate_left
      · go_step; exact hk
      refine Ord.St.fl2 (T' := ?_) 6 [7, 8, 9, 10, 11, 12, 13, 14] _ _ rfl (by kernel_rfl) rfl rfl rfl rfl (fun K w' hk => ?_) ?_
      rotate_left
      · go_step; exact hk
      refine Ord.St.fl2 (T' := ?_) 7 [8, 9, 10, 11, 12, 13, 14] _ _ rfl (by kernel_rfl) rfl rfl rfl rfl (fun K w' hk => ?_) ?_
      rotate_left
      · go_step; exact hk
      refine Ord.St.rd2 (T' := ?_) 8 [9, 10, 11, 12, 13, 14] _ _ rfl (by kernel_rfl) rfl rfl rfl rfl (fun K hk => ?_) ?_
      rotate_left
      · go_step; exact hk
      refine Ord.St.ef 9 [10, 11, 12, 13, 14] _ rfl (by kernel_rfl) (fun K hK => ?_)
      go_wp2_with fail
      refine (HM.out _ HC5.out.drew).mono ?_
      rintro e w7 ⟨rb2, cap2, rfl, hrg2, hch, hfr3⟩
      have hb12 := (HB12.out.ch (Ch.refl [] W5).drew (by simp)).ch hch (by simp)
      have hc7 : Ch [] wr w7 := HC5.out.drew.trans hch (by simp)
      have hfr : rb2 = rbk ∨ wr.heap.size ≤ rb2 := by have := HC5.out.size; rcases hfr3 with e | e; (left; exact e); (right; have h9 : W5.heap.size ≤ rb2 := e; omega)
      have hne : rb2 ≠ wr.heap.size := by have h8 := HST.out.rg.lt; have h9 := HB12.out.lt; rcases hfr3 with e | e; omega; (have h7 : W5.heap.size ≤ rb2 := e; omega)
      have z0 := hb12.cell (i := 0) rfl
      have z1 := hb12.cell (i := 1) rfl
      have z2 := hb12.cell (i := 2) rfl
      have g0 := hb12.frozen (i := 0)
      have g1 := hb12.frozen (i := 1)
      have g2 := hb12.frozen (i := 2)
      have HRG2 := Lib.hid hrg2; clear hrg2
      have HB7 := Lib.hid hb12; clear hb12
      have HC7 := Lib.hid hc7; clear hc7 hch hfr3
      clear a0 b0 y0 y1 y2
      go_wp2_with fail
      refine ⟨rfl, hK _ _ ?_⟩; clear hK K
      refine Ord.St.fl2 (T' := ?_) 10 [11, 12, 13, 14] _ _ rfl (by kernel_rfl) rfl rfl rfl rfl (fun K w' hk => ?_) ?_
      rotate_left
      · go_step; exact hk
      refine Ord.St.fl2 (T' := ?_) 11 [12, 13, 14] _ _ rfl (by kernel_rfl) rfl rfl rfl rfl (fun K w' hk => ?_) ?_
      rotate_left
      · go_step; exact hk
      refine Ord.St.fl2 (T' := ?_) 12 [13, 14] _ _ rfl (by kernel_rfl) rfl rfl rfl rfl (fun K w' hk => ?_) ?_
      rotate_left
      · go_step; exact hk
      refine Ord.St.ef 13 [14] _ rfl (by kernel_rfl) (fun K hK => ?_)
      go_wp2_with fail
      refine ⟨rfl, hK _ _ ?_⟩; clear hK K
      refine Ord.St.fl2 (T' := ?_) 14 [] _ _ rfl (by kernel_rfl) rfl rfl rfl rfl (fun K w' hk => ?_) ?_
      rotate_left
      · go_step; exact hk
      refine Ord.St.nil ?_
      go_upto_region 8 with fail
      refine wp_alw ?_
      intro W8 hW8
      have hb8 := set3_blk HB7.out hW8
      have hcs := set3_ch hW8
      have hc8 : Ch [] wr W8 := HC7.out.trans hcs (fun k hk => .inr (by simp at hk; omega))
      have hrg8 := HRG2.out.ch hcs (by simpa using hne)
      clear hW8 hcs HB7 HRG2 HC7 z0 z1 z2 g0 g1 g2
      have x0 := hb8.cell (i := 0) rfl
      have x1 := hb8.cell (i := 1) rfl
      have x2 := hb8.cell (i := 2) rfl
      have hbp := (HST.out.same hc8).b4
      have f0 := hbp.frozen (i := 0)
      have f1 := hbp.frozen (i := 1)
      have f2 := hbp.frozen (i := 2)
      have y0 := hbp.cell (i := 0) rfl
      have y1 := hbp.cell (i := 1) rfl
      have y2 := hbp.cell (i := 2) rfl
      clear hbp
      have HCX := Lib.hid hc8; clear hc8
      have HRX := Lib.hid hrg8; clear hrg8
      have HBX := Lib.hid hb8; clear hb8
      go_upto_region 13 with fail
      refine wp_alw ?_
      intro W9 hW9
      have hst := HST.out.put HCX.out HRX.out hfr hW9
      clear hW9 x0 x1 x2 y0 y1 y2 f0 f1 f2 HRX HBX
      obtain ⟨na, nc, rfl⟩ := row.shape hst.rw
      have hlen9 : l2.length = j := HLEN
      have hrA := (hst.same (W' := W9.alloc (.cells #[.int .i64 p3] 3)) ((Ch.refl _ _).alloc _)).rw
      have hbA : blk (W9.alloc (.cells #[.int .i64 p3] 3)) W9.heap.size [.int .i64 p3] := blk.new' _ _ rfl
      rw [hlen9] at hrA
      have HRA := Lib.hid hrA; clear hrA
      have HBA := Lib.hid hbA; clear hbA
      have HS9 := Lib.hid hst; clear hst
      go_wp2_with (at_builtin; go_loud (refine wpList_append_row slInts rfl _ _ rfl (v := .slice na l2.length nc) (n := l2.length) (xs := intCells (natInts l2)) rfl (by rw [HLEN.out]; exact HRA.out) (ad := ⟨W9.heap.size, 0, none⟩) (m := 1) (c := 1) (news := [.int .i64 p3]) rfl rfl (news_blk HBA.out) (by simp [Value.oneCell']) (by omega) (by omega) ?_; intro v' wz hown4 hC4 hf4; have HO4 := Lib.hid hown4; clear hown4; have HC4 := Lib.hid hC4; clear hC4; have HF4 := Lib.hid hf4; clear hf4))
      go_roundw
      case rel => exact ⟨j + 1, rb2, cap2, by omega, by go_num, by rw [HEN.out]; exact HS9.out.app HO4.out HC4.out HF4.out⟩
      case measure => simp [intOf]; omega
    · have hall : Z.take j = Z := List.take_of_length_le (by rw [HZL.out]; omega)
      rw [hall] at hst
      obtain ⟨⟨⟨G2, q2⟩, l2⟩, hES⟩ : ∃ ES, ES = E Z := ⟨_, rfl⟩
      rw [← hES] at hst
      simp only at hst
      have HES := Lib.hid hES; clear hES
      obtain ⟨na, nc, rfl⟩ := row.shape hst.rw
      have y0 := hst.b4.cell (i := 0) rfl
      have y1 := hst.b4.cell (i := 1) rfl
      have y2 := hst.b4.cell (i := 2) rfl
      have v0 := hst.b8.cell (i := 0) rfl
      have v1 := hst.b8.cell (i := 1) rfl
      have v2 := hst.b8.cell (i := 2) rfl
      have g0 := hst.b8.frozen (i := 0)
      have g1 := hst.b8.frozen (i := 1)
      have g2 := hst.b8.frozen (i := 2)
      have hl8 := hst.b8.lt
      have HST := Lib.hid hst; clear hst
      go_wp2_with fail
      refine bodyPost_ret (v := .tuple #[.agg #[.int .i64 G2.most, .slice (some ⟨rbk, 0, none⟩) G2.nodes.length capk, .int .i64 q2], .slice na l2.length nc]) (by simp [results, Tryz.results124, go_sem, v0, v1, v2]) rfl ?_
      show LTo w rb (E Z) _ _
      rw [← HES.out]
      exact HST.out.fin rfl
set_option maxRecDepth 100000 in
set_option maxHeartbeats 8000000 in
theorem r23Each9_is {rb cap : Nat} {G : Gra} (h : RG w rb cap G) {xa ya : Option Addr} {X Y : List Nat} (n xc yc : Nat) (hX : Sl w xa (natInts X)) (hY : Sl w ya (natInts Y)) (hn : X.length = n) (hm : Y.length = n) (hn0 : n ≤ 1000) (hxr : ∀ r ∈ X, r < 2 * G.nodes.length) (hyr : ∀ r ∈ Y, r < 2 * G.nodes.length) :
    Calls Tryz.prog 124 #[.agg #[.int .i64 G.most, .slice (some ⟨rb, 0, none⟩) G.nodes.length cap, .int .i64 0], .int .i64 9, .slice xa n xc, .slice ya n yc] w (LTo w rb (eachF (rop rOr) (G, 0) (X.zip Y))) := by
  have hok := h.ok
  obtain ⟨Z, hZ⟩ : ∃ Z, Z = X.zip Y := ⟨_, rfl⟩
  have hZl : Z.length = n := by rw [hZ, List.length_zip, hn, hm]; omega
  have hZlt : ∀ p ∈ Z, p.1 < 2 * G.nodes.length ∧ p.2 < 2 * G.nodes.length := by rw [hZ]; exact fun p hp => ⟨hxr _ (List.of_mem_zip hp).1, hyr _ (List.of_mem_zip hp).2⟩
  have hZG : ∀ (j a b : Nat), Z[j]? = some (a, b) → X[j]? = some a ∧ Y[j]? = some b := fun j a b h => by rw [hZ] at h; exact List.getElem?_zip_eq_some.1 h
  rw [← hZ]
  have hElok := fun z (hz : ∀ p ∈ z, p ∈ Z) => eachF_sok' (G := G) (SOk.start hok) full_or z (fun p hp => hZlt p (hz p hp))
  have hEsn := fun z a b => eachF_snoc (rop rOr) (G, 0) z (a, b)
  have hE0 : eachF (rop rOr) (G, 0) [] = ((G, 0), []) := rfl
  have hElen := fun z => eachF_len' (rop rOr) (G, 0) z
  obtain ⟨E, hE⟩ : ∃ E : List (Nat × Nat) → Mk × List Nat, E = eachF (rop rOr) (G, 0) := ⟨_, rfl⟩
  rw [← hE] at hElok hEsn hE0 hElen ⊢
  clear hE hZ hxr hyr
  have HX := Lib.hid hX; clear hX
  have HY := Lib.hid hY; clear hY
  have HN := Lib.hid hn; clear hn
  have HM2 := Lib.hid hm; clear hm
  have H := Lib.hid h; clear h
  have HELOK := Lib.hid hElok; clear hElok
  have HESN := Lib.hid hEsn; clear hEsn
  have HE0 := Lib.hid hE0; clear hE0
  have HELEN := Lib.hid hElen; clear hElen
  have HZL := Lib.hid hZl; clear hZl
  have HZG := Lib.hid hZG; clear hZG
  have HZLT := Lib.hid hZlt; clear hZlt hok
  go_enter Tryz.func124, Tryz.ntmps124
  go_wp2_with fail
  refine wp_alw ?_
  intro W0 hW0
  have hst := RSt.start H.out hW0 rfl
  clear hW0
  have HST := Lib.hid hst; clear hst
  go_loopw [10, 11] (fun nx i wr => ∃ (j rbk capk : Nat), j ≤ n ∧ i = .int .i64 j ∧ RSt w wr rb rbk capk (E (Z.take j)).1 nx (E (Z.take j)).2) (fun _ i _ => n - (intOf i).toNat)
  case atStart => exact ⟨0, rb, cap, by omega, rfl, by rw [List.take_zero, HE0.out]; exact HST.out⟩
  case round =>
    clear HST
    obtain ⟨j, rbk, capk, hj, rfl, hst⟩ := hrel
    by_cases hjn : j < n
    · obtain ⟨⟨a, b⟩, hab⟩ : ∃ p, Z[j]? = some p := ⟨_, List.getElem?_eq_getElem (by rw [HZL.out]; exact hjn)⟩
      obtain ⟨hla, hlb⟩ := HZG.out j a b hab
      obtain ⟨hav, hbv⟩ := HZLT.out _ (List.mem_of_getElem? hab)
      have hsn : Z.take (j + 1) = Z.take j ++ [(a, b)] := by rw [List.take_add_one, hab]; rfl
      have hEs := HESN.out (Z.take j) a b
      rw [← hsn] at hEs
      have hlk := HELOK.out (Z.take j) (fun p hp => List.mem_of_mem_take hp)
      have hlen := HELEN.out (Z.take j)
      rw [List.length_take, HZL.out, Nat.min_eq_left hj] at hlen
      generalize hEE : E (Z.take (j + 1)) = EN at hEs
      generalize E (Z.take j) = ES at hEs hlk hst hlen
      obtain ⟨⟨G2, q2⟩, l2⟩ := ES
      simp only at hst hlen
      have hav : a < 2 * G2.nodes.length := hlk.s.ext.lt hav
      have hbv : b < 2 * G2.nodes.length := hlk.s.ext.lt hbv
      unfold eachS rop at hEs
      simp only at hEs
      have hM := fun (W : World) (hW : Ch [] wr W) => r23Or_is (q := q2) (hst.rg.ch hW (by simp)) hav hbv
      obtain ⟨⟨⟨G3, q3⟩, p3⟩, hR⟩ : ∃ R : Mk × Nat, R = rstep (G2, q2) (rOr G2 a b) := ⟨_, rfl⟩
      simp only [← hR] at hEs hM
      subst hEs
      clear hR hlk hsn hab hav hbv
      have HEN := Lib.hid hEE; clear hEE
      have HM := Lib.hid hM; clear hM
      have HLEN := Lib.hid hlen; clear hlen
      have HST := Lib.hid hst; clear hst
      obtain ⟨ab, ao, ae, ac⟩ := HX.out.cells j (a : Int) (by simp [natInts, hla])
      have a0 : wr.cell? ⟨ab, ao + j, none⟩ = some (.int .i64 a) := (HST.out.ch.cell (cell_lt ac) (by simp)).trans ac
      subst ae
      clear ac
      obtain ⟨bb, bo, be, bc⟩ := HY.out.cells j (b : Int) (by simp [natInts, hlb])
      have b0 : wr.cell? ⟨bb, bo + j, none⟩ = some (.int .i64 b) := (HST.out.ch.cell (cell_lt bc) (by simp)).trans bc
      subst be
      clear bc
      clear hla hlb
      have hb4 := HST.out.b4
      have y0 := hb4.cell (i := 0) rfl
      have y1 := hb4.cell (i := 1) rfl
      have y2 := hb4.cell (i := 2) rfl
      clear hb4
      go_upto_region 6 with fail
      refine wp_alw ?_
      intro W5 hW5
      have hb12 : blk W5 wr.heap.size [.int .i64 G2.most, .slice (some ⟨rbk, 0, none⟩) G2.nodes.length capk, .int .i64 q2] := by rw [hW5]; exact blk.new' _ _ rfl
      have hc5 : Ch [] wr W5 := by rw [hW5]; exact (Ch.refl [] wr).alloc _
      clear hW5 y0 y1 y2
      replace a0 := (hc5.cell (cell_lt a0) (by simp)).trans a0
      replace b0 := (hc5.cell (cell_lt b0) (by simp)).trans b0
      have hb4 := (HST.out.same hc5).b4
      have y0 := hb4.cell (i := 0) rfl
      have y1 := hb4.cell (i := 1) rfl
      have y2 := hb4.cell (i := 2) rfl
      clear hb4
      have HC5 := Lib.hid hc5; clear hc5
      have HB12 := Lib.hid hb12; clear hb12
      go_wp2_with fail
      refine Ord.St.door (fun _ => True) [.rd, .fl, .fl, .fl, .rd, .fl, .fl, .fl, .rd, .ef, .fl, .fl, .fl, .ef, .fl] [0, 0, 0, 6, 14, 0, 0, 96, 224, 511, 1023, 2047, 2047, 4095, 16383] [0, 1, 2, 3, 4, 5, 6, 7, 8, 9, 10, 11, 12, 13, 14] mixed (by kernel_rfl) rfl ?_
      refine Ord.St.rd2 (T' := ?_) 0 [1, 2, 3, 4, 5, 6, 7, 8, 9, 10, 11, 12, 13, 14] _ _ rfl (by kernel_rfl) rfl rfl rfl rfl (fun K hk => ?_) ?_
      rotate_left
      · go_step; exact hk
      refine Ord.St.fl2 (T' := ?_) 1 [2, 3, 4, 5, 6, 7, 8, 9, 10, 11, 12, 13, 14] _ _ rfl (by kernel_rfl) rfl rfl rfl rfl (fun K w' hk => ?_) ?_
      rotate_left
      · go_step; exact hk
      refine Ord.St.fl2 (T' := ?_) 2 [3, 4, 5, 6, 7, 8, 9, 10, 11, 12, 13, 14] _ _ rfl (by kernel_rfl) rfl rfl rfl rfl (fun K w' hk => ?_) ?_
      rotate_left
      · go_step; exact hk
      refine Ord.St.fl2 (T' := ?_) 3 [4, 5, 6, 7, 8, 9, 10, 11, 12, 13, 14] _ _ rfl (by kernel_rfl) rfl rfl rfl rfl (fun K w' hk => ?_) ?_
      rotate_left
      · go_step; exact hk
      refine Ord.St.rd2 (T' := ?_) 4 [5, 6, 7, 8, 9, 10, 11, 12, 13, 14] _ _ rfl (by kernel_rfl) rfl rfl rfl rfl (fun K hk => ?_) ?_
      rotate_left
      · go_step; exact hk
      refine Ord.St.fl2 (T' := ?_) 5 [6, 7, 8, 9, 10, 11, 12, 13, 14] _ _ rfl (by kernel_rfl) rfl rfl rfl rfl (fun K w' hk => ?_) ?_
      rotate_left
      · go_step; exact hk
      refine Ord.St.fl2 (T' := ?_) 6 [7, 8, 9, 10, 11, 12, 13, 14] _ _ rfl (by kernel_rfl) rfl rfl rfl rfl (fun K w' hk => ?_) ?_
      rotate_left
      · go_step; exact hk
      refine Ord.St.fl2 (T' := ?_) 7 [8, 9, 10, 11, 12, 13, 14] _ _ rfl (by kernel_rfl) rfl rfl rfl rfl (fun K w' hk => ?_) ?_
      rotate_left
      · go_step; exact hk
      refine Ord.St.rd2 (T' := ?_) 8 [9, 10, 11, 12, 13, 14] _ _ rfl (by kernel_rfl) rfl rfl rfl rfl (fun K hk => ?_) ?_
      rotate_left
      · go_step; exact hk
      refine Ord.St.ef 9 [10, 11, 12, 13, 14] _ rfl (by kernel_rfl) (fun K hK => ?_)
      go_wp2_with fail
      refine (HM.out _ HC5.out.drew).mono ?_
      rintro e w7 ⟨rb2, cap2, rfl, hrg2, hch, hfr3⟩
      have hb12 := (HB12.out.ch (Ch.refl [] W5).drew (by simp)).ch hch (by simp)
      have hc7 : Ch [] wr w7 := HC5.out.drew.trans hch (by simp)
      have hfr : rb2 = rbk ∨ wr.heap.size ≤ rb2 := by have := HC5.out.size; rcases hfr3 with e | e; (left; exact e); (right; have h9 : W5.heap.size ≤ rb2 := e; omega)
      have hne : rb2 ≠ wr.heap.size := by have h8 := HST.out.rg.lt; have h9 := HB12.out.lt; rcases hfr3 with e | e; omega; (have h7 : W5.heap.size ≤ rb2 := e; omega)
      have z0 := hb12.cell (i := 0) rfl
      have z1 := hb12.cell (i := 1) rfl
      have z2 := hb12.cell (i := 2) rfl
      have g0 := hb12.frozen (i := 0)
      have g1 := hb12.frozen (i := 1)
      have g2 := hb12.frozen (i := 2)
      have HRG2 := Lib.hid hrg2; clear hrg2
      have HB7 := Lib.hid hb12; clear hb12
      have HC7 := Lib.hid hc7; clear hc7 hch hfr3
      clear a0 b0 y0 y1 y2
      go_wp2_with fail
      refine ⟨rfl, hK _ _ ?_⟩; clear hK K
      refine Ord.St.fl2 (T' := ?_) 10 [11, 12, 13, 14] _ _ rfl (by kernel_rfl) rfl rfl rfl rfl (fun K w' hk => ?_) ?_
      rotate_left
      · go_step; exact hk
      refine Ord.St.fl2 (T' := ?_) 11 [12, 13, 14] _ _ rfl (by kernel_rfl) rfl rfl rfl rfl (fun K w' hk => ?_) ?_
      rotate_left
      · go_step; exact hk
      refine Ord.St.fl2 (T' := ?_) 12 [13, 14] _ _ rfl (by kernel_rfl) rfl rfl rfl rfl (fun K w' hk => ?_) ?_
      rotate_left
      · go_step; exact hk
      refine Ord.St.ef 13 [14] _ rfl (by kernel_rfl) (fun K hK => ?_)
      go_wp2_with fail
      refine ⟨rfl, hK _ _ ?_⟩; clear hK K
      refine Ord.St.fl2 (T' := ?_) 14 [] _ _ rfl (by kernel_rfl) rfl rfl rfl rfl (fun K w' hk => ?_) ?_
      rotate_left
      · go_step; exact hk
      refine Ord.St.nil ?_
      go_upto_region 10 with fail
      refine wp_alw ?_
      intro W8 hW8
      have hb8 := set3_blk HB7.out hW8
      have hcs := set3_ch hW8
      have hc8 : Ch [] wr W8 := HC7.out.trans hcs (fun k hk => .inr (by simp at hk; omega))
      have hrg8 := HRG2.out.ch hcs (by simpa using hne)
      clear hW8 hcs HB7 HRG2 HC7 z0 z1 z2 g0 g1 g2
      have x0 := hb8.cell (i := 0) rfl
      have x1 := hb8.cell (i := 1) rfl
      have x2 := hb8.cell (i := 2) rfl
      have hbp := (HST.out.same hc8).b4
      have f0 := hbp.frozen (i := 0)
      have f1 := hbp.frozen (i := 1)
      have f2 := hbp.frozen (i := 2)
      have y0 := hbp.cell (i := 0) rfl
      have y1 := hbp.cell (i := 1) rfl
      have y2 := hbp.cell (i := 2) rfl
      clear hbp
      have HCX := Lib.hid hc8; clear hc8
      have HRX := Lib.hid hrg8; clear hrg8
      have HBX := Lib.hid hb8; clear hb8
      go_upto_region 13 with fail
      refine wp_alw ?_
      intro W9 hW9
      have hst := HST.out.put HCX.out HRX.out hfr hW9
      clear hW9 x0 x1 x2 y0 y1 y2 f0 f1 f2 HRX HBX
      obtain ⟨na, nc, rfl⟩ := row.shape hst.rw
      have hlen9 : l2.length = j := HLEN
      have hrA := (hst.same (W' := W9.alloc (.cells #[.int .i64 p3] 3)) ((Ch.refl _ _).alloc _)).rw
      have hbA : blk (W9.alloc (.cells #[.int .i64 p3] 3)) W9.heap.size [.int .i64 p3] := blk.new' _ _ rfl
      rw [hlen9] at hrA
      have HRA := Lib.hid hrA; clear hrA
      have HBA := Lib.hid hbA; clear hbA
      have HS9 := Lib.hid hst; clear hst
      go_wp2_with (at_builtin; go_loud (refine wpList_append_row slInts rfl _ _ rfl (v := .slice na l2.length nc) (n := l2.length) (xs := intCells (natInts l2)) rfl (by rw [HLEN.out]; exact HRA.out) (ad := ⟨W9.heap.size, 0, none⟩) (m := 1) (c := 1) (news := [.int .i64 p3]) rfl rfl (news_blk HBA.out) (by simp [Value.oneCell']) (by omega) (by omega) ?_; intro v' wz hown4 hC4 hf4; have HO4 := Lib.hid hown4; clear hown4; have HC4 := Lib.hid hC4; clear hC4; have HF4 := Lib.hid hf4; clear hf4))
      go_roundw
      case rel => exact ⟨j + 1, rb2, cap2, by omega, by go_num, by rw [HEN.out]; exact HS9.out.app HO4.out HC4.out HF4.out⟩
      case measure => simp [intOf]; omega
    · have hall : Z.take j = Z := List.take_of_length_le (by rw [HZL.out]; omega)
      rw [hall] at hst
      obtain ⟨⟨⟨G2, q2⟩, l2⟩, hES⟩ : ∃ ES, ES = E Z := ⟨_, rfl⟩
      rw [← hES] at hst
      simp only at hst
      have HES := Lib.hid hES; clear hES
      obtain ⟨na, nc, rfl⟩ := row.shape hst.rw
      have y0 := hst.b4.cell (i := 0) rfl
      have y1 := hst.b4.cell (i := 1) rfl
      have y2 := hst.b4.cell (i := 2) rfl
      have v0 := hst.b8.cell (i := 0) rfl
      have v1 := hst.b8.cell (i := 1) rfl
      have v2 := hst.b8.cell (i := 2) rfl
      have g0 := hst.b8.frozen (i := 0)
      have g1 := hst.b8.frozen (i := 1)
      have g2 := hst.b8.frozen (i := 2)
      have hl8 := hst.b8.lt
      have HST := Lib.hid hst; clear hst
      go_wp2_with fail
      refine bodyPost_ret (v := .tuple #[.agg #[.int .i64 G2.most, .slice (some ⟨rbk, 0, none⟩) G2.nodes.length capk, .int .i64 q2], .slice na l2.length nc]) (by simp [results, Tryz.results124, go_sem, v0, v1, v2]) rfl ?_
      show LTo w rb (E Z) _ _
      rw [← HES.out]
      exact HST.out.fin rfl
set_option maxRecDepth 100000 in
set_option maxHeartbeats 8000000 in
theorem r23Each10_is {rb cap : Nat} {G : Gra} (h : RG w rb cap G) {xa ya : Option Addr} {X Y : List Nat} (n xc yc : Nat) (hX : Sl w xa (natInts X)) (hY : Sl w ya (natInts Y)) (hn : X.length = n) (hm : Y.length = n) (hn0 : n ≤ 1000) (hxr : ∀ r ∈ X, r < 2 * G.nodes.length) (hyr : ∀ r ∈ Y, r < 2 * G.nodes.length) :
    Calls Tryz.prog 124 #[.agg #[.int .i64 G.most, .slice (some ⟨rb, 0, none⟩) G.nodes.length cap, .int .i64 0], .int .i64 10, .slice xa n xc, .slice ya n yc] w (LTo w rb (eachF (rop rXor) (G, 0) (X.zip Y))) := by
  have hok := h.ok
  obtain ⟨Z, hZ⟩ : ∃ Z, Z = X.zip Y := ⟨_, rfl⟩
  have hZl : Z.length = n := by rw [hZ, List.length_zip, hn, hm]; omega
  have hZlt : ∀ p ∈ Z, p.1 < 2 * G.nodes.length ∧ p.2 < 2 * G.nodes.length := by rw [hZ]; exact fun p hp => ⟨hxr _ (List.of_mem_zip hp).1, hyr _ (List.of_mem_zip hp).2⟩
  have hZG : ∀ (j a b : Nat), Z[j]? = some (a, b) → X[j]? = some a ∧ Y[j]? = some b := fun j a b h => by rw [hZ] at h; exact List.getElem?_zip_eq_some.1 h
  rw [← hZ]
  have hElok := fun z (hz : ∀ p ∈ z, p ∈ Z) => eachF_sok' (G := G) (SOk.start hok) full_xor z (fun p hp => hZlt p (hz p hp))
  have hEsn := fun z a b => eachF_snoc (rop rXor) (G, 0) z (a, b)
  have hE0 : eachF (rop rXor) (G, 0) [] = ((G, 0), []) := rfl
  have hElen := fun z => eachF_len' (rop rXor) (G, 0) z
  obtain ⟨E, hE⟩ : ∃ E : List (Nat × Nat) → Mk × List Nat, E = eachF (rop rXor) (G, 0) := ⟨_, rfl⟩
  rw [← hE] at hElok hEsn hE0 hElen ⊢
  clear hE hZ hxr hyr
  have HX := Lib.hid hX; clear hX
  have HY := Lib.hid hY; clear hY
  have HN := Lib.hid hn; clear hn
  have HM2 := Lib.hid hm; clear hm
  have H := Lib.hid h; clear h
  have HELOK := Lib.hid hElok; clear hElok
  have HESN := Lib.hid hEsn; clear hEsn
  have HE0 := Lib.hid hE0; clear hE0
  have HELEN := Lib.hid hElen; clear hElen
  have HZL := Lib.hid hZl; clear hZl
  have HZG := Lib.hid hZG; clear hZG
  have HZLT := Lib.hid hZlt; clear hZlt hok
  go_enter Tryz.func124, Tryz.ntmps124
  go_wp2_with fail
  refine wp_alw ?_
  intro W0 hW0
  have hst := RSt.start H.out hW0 rfl
  clear hW0
  have HST := Lib.hid hst; clear hst
  go_loopw [10, 11] (fun nx i wr => ∃ (j rbk capk : Nat), j ≤ n ∧ i = .int .i64 j ∧ RSt w wr rb rbk capk (E (Z.take j)).1 nx (E (Z.take j)).2) (fun _ i _ => n - (intOf i).toNat)
  case atStart => exact ⟨0, rb, cap, by omega, rfl, by rw [List.take_zero, HE0.out]; exact HST.out⟩
  case round =>
    clear HST
    obtain ⟨j, rbk, capk, hj, rfl, hst⟩ := hrel
    by_cases hjn : j < n
    · obtain ⟨⟨a, b⟩, hab⟩ : ∃ p, Z[j]? = some p := ⟨_, List.getElem?_eq_getElem (by rw [HZL.out]; exact hjn)⟩
      obtain ⟨hla, hlb⟩ := HZG.out j a b hab
      obtain ⟨hav, hbv⟩ := HZLT.out _ (List.mem_of_getElem? hab)
      have hsn : Z.take (j + 1) = Z.take j ++ [(a, b)] := by rw [List.take_add_one, hab]; rfl
      have hEs := HESN.out (Z.take j) a b
      rw [← hsn] at hEs
      have hlk := HELOK.out (Z.take j) (fun p hp => List.mem_of_mem_take hp)
      have hlen := HELEN.out (Z.take j)
      rw [List.length_take, HZL.out, Nat.min_eq_left hj] at hlen
      generalize hEE : E (Z.take (j + 1)) = EN at hEs
      generalize E (Z.take j) = ES at hEs hlk hst hlen
      obtain ⟨⟨G2, q2⟩, l2⟩ := ES
      simp only at hst hlen
      have hav : a < 2 * G2.nodes.length := hlk.s.ext.lt hav
      have hbv : b < 2 * G2.nodes.length := hlk.s.ext.lt hbv
      unfold eachS rop at hEs
      simp only at hEs
      have hM := fun (W : World) (hW : Ch [] wr W) => r23Xor_is (q := q2) (hst.rg.ch hW (by simp)) hav hbv
      obtain ⟨⟨⟨G3, q3⟩, p3⟩, hR⟩ : ∃ R : Mk × Nat, R = rstep (G2, q2) (rXor G2 a b) := ⟨_, rfl⟩
      simp only [← hR] at hEs hM
      subst hEs
      clear hR hlk hsn hab hav hbv
      have HEN := Lib.hid hEE; clear hEE
      have HM := Lib.hid hM; clear hM
      have HLEN := Lib.hid hlen; clear hlen
      have HST := Lib.hid hst; clear hst
      obtain ⟨ab, ao, ae, ac⟩ := HX.out.cells j (a : Int) (by simp [natInts, hla])
      have a0 : wr.cell? ⟨ab, ao + j, none⟩ = some (.int .i64 a) := (HST.out.ch.cell (cell_lt ac) (by simp)).trans ac
      subst ae
      clear ac
      obtain ⟨bb, bo, be, bc⟩ := HY.out.cells j (b : Int) (by simp [natInts, hlb])
      have b0 : wr.cell? ⟨bb, bo + j, none⟩ = some (.int .i64 b) := (HST.out.ch.cell (cell_lt bc) (by simp)).trans bc
      subst be
      clear bc
      clear hla hlb
      have hb4 := HST.out.b4
      have y0 := hb4.cell (i := 0) rfl
      have y1 := hb4.cell (i := 1) rfl
      have y2 := hb4.cell (i := 2) rfl
      clear hb4
      go_upto_region 6 with fail
      refine wp_alw ?_
      intro W5 hW5
      have hb12 : blk W5 wr.heap.size [.int .i64 G2.most, .slice (some ⟨rbk, 0, none⟩) G2.nodes.length capk, .int .i64 q2] := by rw [hW5]; exact blk.new' _ _ rfl
      have hc5 : Ch [] wr W5 := by rw [hW5]; exact (Ch.refl [] wr).alloc _
      clear hW5 y0 y1 y2
      replace a0 := (hc5.cell (cell_lt a0) (by simp)).trans a0
      replace b0 := (hc5.cell (cell_lt b0) (by simp)).trans b0
      have hb4 := (HST.out.same hc5).b4
      have y0 := hb4.cell (i := 0) rfl
      have y1 := hb4.cell (i := 1) rfl
      have y2 := hb4.cell (i := 2) rfl
      clear hb4
      have HC5 := Lib.hid hc5; clear hc5
      have HB12 := Lib.hid hb12; clear hb12
      go_wp2_with fail
      refine Ord.St.door (fun _ => True) [.rd, .fl, .fl, .fl, .rd, .fl, .fl, .fl, .rd, .ef, .fl, .fl, .fl, .ef, .fl] [0, 0, 0, 6, 14, 0, 0, 96, 224, 511, 1023, 2047, 2047, 4095, 16383] [0, 1, 2, 3, 4, 5, 6, 7, 8, 9, 10, 11, 12, 13, 14] mixed (by kernel_rfl) rfl ?_
      refine Ord.St.rd2 (T' := ?_) 0 [1, 2, 3, 4, 5, 6, 7, 8, 9, 10, 11, 12, 13, 14] _ _ rfl (by kernel_rfl) rfl rfl rfl rfl (fun K hk => ?_) ?_
      rotate_left
      · go_step; exact hk
      refine Ord.St.fl2 (T' := ?_) 1 [2, 3, 4, 5, 6, 7, 8, 9, 10, 11, 12, 13, 14] _ _ rfl (by kernel_rfl) rfl rfl rfl rfl (fun K w' hk => ?_) ?_
      rotate_left
      · go_step; exact hk
      refine Ord.St.fl2 (T' := ?_) 2 [3, 4, 5, 6, 7, 8, 9, 10, 11, 12, 13, 14] _ _ rfl (by kernel_rfl) rfl rfl rfl rfl (fun K w' hk => ?_) ?_
      rotate_left
      · go_step; exact hk
      refine Ord.St.fl2 (T' := ?_) 3 [4, 5, 6, 7, 8, 9, 10, 11, 12, 13, 14] _ _ rfl (by kernel_rfl) rfl rfl rfl rfl (fun K w' hk => ?_) ?_
      rotate_left
      · go_step; exact hk
      refine Ord.St.rd2 (T' := ?_) 4 [5, 6, 7, 8, 9, 10, 11, 12, 13, 14] _ _ rfl (by kernel_rfl) rfl rfl rfl rfl (fun K hk => ?_) ?_
      rotate_left
      · go_step; exact hk
      refine Ord.St.fl2 (T' := ?_) 5 [6, 7, 8, 9, 10, 11, 12, 13, 14] _ _ rfl (by kernel_rfl) rfl rfl rfl rfl (fun K w' hk => ?_) ?_
      rotate_left
      · go_step; exact hk
      refine Ord.St.fl2 (T' := ?_) 6 [7, 8, 9, 10, 11, 12, 13, 14] _ _ rfl (by kernel_rfl) rfl rfl rfl rfl (fun K w' hk => ?_) ?_
      rotate_left
      · go_step; exact hk
      refine Ord.St.fl2 (T' := ?_) 7 [8, 9, 10, 11, 12, 13, 14] _ _ rfl (by kernel_rfl) rfl rfl rfl rfl (fun K w' hk => ?_) ?_
      rotate_left
      · go_step; exact hk
      refine Ord.St.rd2 (T' := ?_) 8 [9, 10, 11, 12, 13, 14] _ _ rfl (by kernel_rfl) rfl rfl rfl rfl (fun K hk => ?_) ?_
      rotate_left
      · go_step; exact hk
      refine Ord.St.ef 9 [10, 11, 12, 13, 14] _ rfl (by kernel_rfl) (fun K hK => ?_)
      go_wp2_with fail
      refine (HM.out _ HC5.out.drew).mono ?_
      rintro e w7 ⟨rb2, cap2, rfl, hrg2, hch, hfr3⟩
      have hb12 := (HB12.out.ch (Ch.refl [] W5).drew (by simp)).ch hch (by simp)
      have hc7 : Ch [] wr w7 := HC5.out.drew.trans hch (by simp)
      have hfr : rb2 = rbk ∨ wr.heap.size ≤ rb2 := by have := HC5.out.size; rcases hfr3 with e | e; (left; exact e); (right; have h9 : W5.heap.size ≤ rb2 := e; omega)
      have hne : rb2 ≠ wr.heap.size := by have h8 := HST.out.rg.lt; have h9 := HB12.out.lt; rcases hfr3 with e | e; omega; (have h7 : W5.heap.size ≤ rb2 := e; omega)
      have z0 := hb12.cell (i := 0) rfl
      have z1 := hb12.cell (i := 1) rfl
      have z2 := hb12.cell (i := 2) rfl
      have g0 := hb12.frozen (i := 0)
      have g1 := hb12.frozen (i := 1)
      have g2 := hb12.frozen (i := 2)
      have HRG2 := Lib.hid hrg2; clear hrg2
      have HB7 := Lib.hid hb12; clear hb12
      have HC7 := Lib.hid hc7; clear hc7 hch hfr3
      clear a0 b0 y0 y1 y2
      go_wp2_with fail
      refine ⟨rfl, hK _ _ ?_⟩; clear hK K
      refine Ord.St.fl2 (T' := ?_) 10 [11, 12, 13, 14] _ _ rfl (by kernel_rfl) rfl rfl rfl rfl (fun K w' hk => ?_) ?_
      rotate_left
      · go_step; exact hk
      refine Ord.St.fl2 (T' := ?_) 11 [12, 13, 14] _ _ rfl (by kernel_rfl) rfl rfl rfl rfl (fun K w' hk => ?_) ?_
      rotate_left
      · go_step; exact hk
      refine Ord.St.fl2 (T' := ?_) 12 [13, 14] _ _ rfl (by kernel_rfl) rfl rfl rfl rfl (fun K w' hk => ?_) ?_
      rotate_left
      · go_step; exact hk
      refine Ord.St.ef 13 [14] _ rfl (by kernel_rfl) (fun K hK => ?_)
      go_wp2_with fail
      refine ⟨rfl, hK _ _ ?_⟩; clear hK K
      refine Ord.St.fl2 (T' := ?_) 14 [] _ _ rfl (by kernel_rfl) rfl rfl rfl rfl (fun K w' hk => ?_) ?_
      rotate_left
      · go_step; exact hk
      refine Ord.St.nil ?_
      go_upto_region 12 with fail
      refine wp_alw ?_
      intro W8 hW8
      have hb8 := set3_blk HB7.out hW8
      have hcs := set3_ch hW8
      have hc8 : Ch [] wr W8 := HC7.out.trans hcs (fun k hk => .inr (by simp at hk; omega))
      have hrg8 := HRG2.out.ch hcs (by simpa using hne)
      clear hW8 hcs HB7 HRG2 HC7 z0 z1 z2 g0 g1 g2
      have x0 := hb8.cell (i := 0) rfl
      have x1 := hb8.cell (i := 1) rfl
      have x2 := hb8.cell (i := 2) rfl
      have hbp := (HST.out.same hc8).b4
      have f0 := hbp.frozen (i := 0)
      have f1 := hbp.frozen (i := 1)
      have f2 := hbp.frozen (i := 2)
      have y0 := hbp.cell (i := 0) rfl
      have y1 := hbp.cell (i := 1) rfl
      have y2 := hbp.cell (i := 2) rfl
      clear hbp
      have HCX := Lib.hid hc8; clear hc8
      have HRX := Lib.hid hrg8; clear hrg8
      have HBX := Lib.hid hb8; clear hb8
      go_upto_region 13 with fail
      refine wp_alw ?_
      intro W9 hW9
      have hst := HST.out.put HCX.out HRX.out hfr hW9
      clear hW9 x0 x1 x2 y0 y1 y2 f0 f1 f2 HRX HBX
      obtain ⟨na, nc, rfl⟩ := row.shape hst.rw
      have hlen9 : l2.length = j := HLEN
      have hrA := (hst.same (W' := W9.alloc (.cells #[.int .i64 p3] 3)) ((Ch.refl _ _).alloc _)).rw
      have hbA : blk (W9.alloc (.cells #[.int .i64 p3] 3)) W9.heap.size [.int .i64 p3] := blk.new' _ _ rfl
      rw [hlen9] at hrA
      have HRA := Lib.hid hrA; clear hrA
      have HBA := Lib.hid hbA; clear hbA
      have HS9 := Lib.hid hst; clear hst
      go_wp2_with (at_builtin; go_loud (refine wpList_append_row slInts rfl _ _ rfl (v := .slice na l2.length nc) (n := l2.length) (xs := intCells (natInts l2)) rfl (by rw [HLEN.out]; exact HRA.out) (ad := ⟨W9.heap.size, 0, none⟩) (m := 1) (c := 1) (news := [.int .i64 p3]) rfl rfl (news_blk HBA.out) (by simp [Value.oneCell']) (by omega) (by omega) ?_; intro v' wz hown4 hC4 hf4; have HO4 := Lib.hid hown4; clear hown4; have HC4 := Lib.hid hC4; clear hC4; have HF4 := Lib.hid hf4; clear hf4))
      go_roundw
      case rel => exact ⟨j + 1, rb2, cap2, by omega, by go_num, by rw [HEN.out]; exact HS9.out.app HO4.out HC4.out HF4.out⟩
      case measure => simp [intOf]; omega
    · have hall : Z.take j = Z := List.take_of_length_le (by rw [HZL.out]; omega)
      rw [hall] at hst
      obtain ⟨⟨⟨G2, q2⟩, l2⟩, hES⟩ : ∃ ES, ES = E Z := ⟨_, rfl⟩
      rw [← hES] at hst
      simp only at hst
      have HES := Lib.hid hES; clear hES
      obtain ⟨na, nc, rfl⟩ := row.shape hst.rw
      have y0 := hst.b4.cell (i := 0) rfl
      have y1 := hst.b4.cell (i := 1) rfl
      have y2 := hst.b4.cell (i := 2) rfl
      have v0 := hst.b8.cell (i := 0) rfl
      have v1 := hst.b8.cell (i := 1) rfl
      have v2 := hst.b8.cell (i := 2) rfl
      have g0 := hst.b8.frozen (i := 0)
      have g1 := hst.b8.frozen (i := 1)
      have g2 := hst.b8.frozen (i := 2)
      have hl8 := hst.b8.lt
      have HST := Lib.hid hst; clear hst
      go_wp2_with fail
      refine bodyPost_ret (v := .tuple #[.agg #[.int .i64 G2.most, .slice (some ⟨rbk, 0, none⟩) G2.nodes.length capk, .int .i64 q2], .slice na l2.length nc]) (by simp [results, Tryz.results124, go_sem, v0, v1, v2]) rfl ?_
      show LTo w rb (E Z) _ _
      rw [← HES.out]
      exact HST.out.fin rfl
end
end Go.Proofs.YtchledddgmbndaaGreat
