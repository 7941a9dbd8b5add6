/-
  Contracts of functions that MuxesMakes reaches, and plain facts (part C). Conditions: the hypotheses of each theorem.
-/
import Derived.Test.YtehljgigebhddaaGreatQB
import Derived.RangeFuncFrom
import Derived.RangeFuncCalls
import Derived.Laws.BitsAllLaws
import Derived.Test.YtehljgigebhddaaGreatRows
import Derived.WalkKit
import Derived.ProofKit
import Derived.OpenShut
import Derived.ChangeOld
import Derived.Below
import Derived.Carry
import Derived.Deep.Slices
import Derived.Deep.Fields
import Derived.Deep.DeepCutAuto
import Derived.Deep.CutBlock
import Derived.Lib.SmallJoins
namespace Go.Proofs.YtehljgigebhddaaGreat
open Go.RowKit Go.Mem Go.Aig
theorem doAnd_r {G : Gra} {a b : Nat} (ha : a < 2 * G.nodes.length) (hb : b < 2 * G.nodes.length) : doAnd G a b = and G a b := by
  unfold doAnd
  rw [whole_and (by simp [right]; omega)]; rfl
theorem doXor_r {G : Gra} {a b : Nat} (ha : a < 2 * G.nodes.length) (hb : b < 2 * G.nodes.length) : doXor G a b = rXor G a b := by
  unfold doXor rXor
  rw [whole_mux (by simp [right]; omega)]; rfl
theorem doMux_r {G : Gra} {c a b : Nat} (hc : c < 2 * G.nodes.length) (ha : a < 2 * G.nodes.length) (hb : b < 2 * G.nodes.length) : doMux G c a b = rMux G c a b := by
  unfold doMux
  rw [whole_mux (by simp [right]; omega)]; rfl
theorem toNats (l : List Nat) : (l.map fun (r : Nat) => (r : Int)).map Int.toNat = l := by
  induction l with
  | nil => rfl
  | cons a l ih => simp only [List.map_cons, ih]; rfl
theorem doAny_r {G : Gra} {l : List Nat} (hl : ∀ r ∈ l, r < 2 * G.nodes.length) : doAny G (l.map fun (r : Nat) => (r : Int)) = rAny G l := by
  unfold doAny
  rw [toNats, whole_any (by
    intro x hx
    obtain ⟨r, hr, rfl⟩ := List.mem_map.1 hx
    have := hl r hr
    simp [right]; omega)]
structure MIn (w : World) (g m : Nat) (P : Mk) (F : List Nat) : Prop where
  gin : GIn w g P.1 F
  bk : blk w m [.pointer (some ⟨g, 0, none⟩), .int .i64 P.2]
  apart : m ∉ F
def MTo (w : World) (g m : Nat) (P : Mk) (F : List Nat) (w' : World) : Prop := ∃ F', MIn w' g m P F' ∧ Ch (m :: F) w w' ∧ (∀ k ∈ F', k ∈ F ∨ w.heap.size ≤ k) ∧ F'[2]? = F[2]?
theorem MIn.same {w w' : World} {g m : Nat} {P : Mk} {F F' : List Nat} (h : MIn w g m P F) (hc : Ch F' w w') (hF : ∀ k ∈ m :: F, k ∉ F') : MIn w' g m P F :=
  ⟨h.gin.same hc (fun k hk => hF k (by simp [hk])), h.bk.ch hc (hF m (by simp)), h.apart⟩
theorem MTo.of {w w1 w' : World} {g m : Nat} {P P' : Mk} {F : List Nat} (h : MIn w g m P F) (ht : GTo w g P'.1 F w1) (hb : blk w1 m [.pointer (some ⟨g, 0, none⟩), .int .i64 P.2] → blk w' m [.pointer (some ⟨g, 0, none⟩), .int .i64 P'.2]) (hc : Ch [m] w1 w') : MTo w g m P' F w' := by
  obtain ⟨F', h1, h2, h3, h4⟩ := ht
  have hm := h.bk.lt
  have hmF : m ∉ F' := fun hk => (h3 m hk).elim h.apart (by omega)
  exact ⟨F', ⟨h1.same hc (fun k hk e => hmF (by simp at e; exact e ▸ hk)), hb (h.bk.ch h2 h.apart), hmF⟩, (h2.mono (fun k hk => .inl (by simp [hk]))).trans hc (fun k hk => .inl (by simp at hk; simp [hk])), h3, h4⟩
section
variable {w : World} {g m : Nat}
set_option maxRecDepth 100000 in
set_option maxHeartbeats 1000000 in
theorem sput_is {e : Nat} (hb : blk w m [.pointer (some ⟨g, 0, none⟩), .int .i64 e]) (r : Nat) (f : Nat) :
    Calls Tryz.prog 175 #[.pointer (some ⟨m, 0, none⟩), .int .i64 r, .int .i64 f] w fun x w' => x = .returned (.int .i64 r) ∧ blk w' m [.pointer (some ⟨g, 0, none⟩), .int .i64 ((if e = 0 then f else e : Nat) : Int)] ∧ Ch [m] w w' := by
  have m1 := hb.cell (i := 1) rfl
  have m1f := hb.frozen (i := 1)
  have HB := Lib.hid hb; clear hb
  by_cases he : e = 0
  · subst he
    rw [if_pos rfl]
    go_enter Tryz.func175, Tryz.ntmps175
    go_wp2_with fail
    go_ret
    exact ⟨rfl, HB.out.set (i := 1) _, (Ch.refl _ _).setCell (by simp) _⟩
  · have hq : ((e : Int) == 0) = false := beqN (by omega)
    rw [if_neg he]
    go_enter Tryz.func175, Tryz.ntmps175
    go_wp2_with fail
    go_ret
    exact ⟨rfl, HB.out, Ch.refl _ _⟩
set_option maxRecDepth 100000 in
set_option maxHeartbeats 1000000 in
theorem sxor_is {P : Mk} {F : List Nat} (h : MIn w g m P F) {a b : Nat} (ha : a < 2 * P.1.nodes.length) (hb : b < 2 * P.1.nodes.length) :
    Calls Tryz.prog 313 #[.pointer (some ⟨m, 0, none⟩), .int .i64 a, .int .i64 b] w fun e w' => e = .returned (.int .i64 (mput P (rXor P.1 a b)).2) ∧ MTo w g m (mput P (rXor P.1 a b)).1 F w' := by
  have hl := h.gin.ok.room
  have hl2 := h.gin.ok.most
  have HX := Xor_g h.gin a b (by omega) (by omega)
  rw [doXor_r ha hb] at HX
  have m0 := h.bk.cell (i := 0) rfl
  have H := Lib.hid h; clear h
  clear hl hl2
  generalize hR : rXor P.1 a b = R at *
  clear hR
  go_enter Tryz.func313, Tryz.ntmps313
  go_wp2_with fail
  refine HX.mono ?_
  rintro e w1 ⟨rfl, ht⟩
  have hb1 := H.out.bk.ch ht.gin.choose_spec.2.1 H.out.apart
  have HP := sput_is hb1 R.2.1 R.2.2
  have HT := Lib.hid ht; clear ht
  clear hb1
  go_wp2_with fail
  refine HP.mono ?_
  rintro e w2 ⟨rfl, hb2, hc2⟩
  have HB := Lib.hid hb2; clear hb2
  have HC := Lib.hid hc2; clear hc2
  go_wp2_with fail
  go_ret
  exact ⟨rfl, MTo.of H.out HT.out (fun _ => HB.out) HC.out⟩
end
end Go.Proofs.YtehljgigebhddaaGreat
namespace Go
open Go.RowKit Go.Mem
section
variable {F : Fence} {n : Nat} {P : Program}
def Kept (K : List Nat) (W W' : World) : Prop := ∀ k ∈ K, W'.heap[k]? = W.heap[k]?
def Books (B : Nat) (W W' : World) : Prop := W'.heap[B]? = W.heap[B]? ∧ W'.heap[B + 1]? = W.heap[B + 1]?
theorem Kept.of_ch {K L : List Nat} {W W' : World} (hc : Ch L W W') (h : ∀ k ∈ K, k < W.heap.size ∧ k ∉ L) : Kept K W W' := fun k hk => hc.block k (h k hk).1 (h k hk).2
theorem Books.of_ch {B : Nat} {L : List Nat} {W W' : World} (hc : Ch L W W') (hB : B + 2 ≤ W.heap.size) (h : ∀ k ∈ L, k ≠ B ∧ k ≠ B + 1) : Books B W W' :=
  ⟨hc.block B (by omega) (fun hk => (h B hk).1 rfl), hc.block (B + 1) (by omega) (fun hk => (h (B + 1) hk).2 rfl)⟩
def SeqP {α : Type} (F : Fence) (n : Nat) (P : Program) (g : Nat) (lb : Array Value) (encs : α → Array Value) (K : List Nat) (xs : List α) (w : World) : Prop :=
  ∀ (l : Nat) (J : List α → World → Prop) (Jx : World → Prop) (W : World), (∀ k ∈ K, W.heap[k]? = w.heap[k]?) → (∀ s A A', J s A → Ch [] A A' → J s A') → (∀ A A', Jx A → Ch [] A A' → Jx A') →
    (∀ pre x W1, J pre W1 → (pre ++ [x]) <+: xs → YieldAt F (n - 1) P l (encs x) W1 fun e W' => (e = .returned (.bool true) ∧ J (pre ++ [x]) W' ∧ Kept K W1 W') ∨ (e = .returned (.bool false) ∧ Jx W')) →
    J [] W →
    CallsIn F n P g (#[.func (.yield l) #[] #[]] ++ lb) W fun e W' => (∃ v, e = .returned v) ∧ (J xs W' ∨ Jx W')

theorem ch_put {A : World} {l : Nat} {o' : Obj} {L : List Nat} (hl : l ∈ L) : Ch L A (A.putObj l o') := ⟨rfl, rfl, rfl, by simp, fun k _ hn => World.putObj_heap_other (fun e => by subst e; exact hn hl)⟩

theorem wpIn_rangeFunc_P {α : Type} {g : Operand} {ps : Array Tmp} {assign body : Code} {Q : Exit → Act → World → Prop} {a : Act} {w : World} (B : Nat) (hB : w.heap.size = B)
    (hro : F.round = none) (h1 : 1 ≤ n) {gf : Nat} {lb : Array Value} (hg : a.eval g = .func (.func gf) #[] lb) (hFg : F.fn gf) (eg : ∀ args w, (callFunc gf args).run P w = .ok (.enter gf args) w)
    {encs : α → Array Value} {K : List Nat} {xs : List α} (hseq : SeqP F (n - 1) P gf lb encs K xs w) (hK : ∀ k ∈ K, k < B) (hps : ∀ x, (encs x).size = ps.size)
    (I : List α → World → Prop) (Ix : World → Prop) (hI : ∀ s A A', I s A → Ch [B, B + 1] A A' → I s A') (hIx : ∀ A A', Ix A → Ch [B, B + 1] A A' → Ix A') (h0 : I [] w) (a₁ : α → Act)
    (hassign : ∀ (l : Nat) (x : α) (W : World) (K : Act → World → Prop), K (a₁ x) W →
      assign.wpIn (F.inRound l) (n - 1 - 1) P (Exit.then K (fun _ _ _ => False)) { tmps := (ps.zip (encs x)).foldl (fun t (p, v) => t.setIfInBounds p v) a.tmps, defers := [] } W)
    (hbody : ∀ (l : Nat) (pre : List α) (x : α) (W : World), I pre W → B + 2 ≤ W.heap.size → (pre ++ [x]) <+: xs → body.wpIn (F.inRound l) (n - 1 - 1) P (fun e _ W' => Books B W W' ∧ ((e = .normal ∧ I (pre ++ [x]) W' ∧ Kept K W W') ∨ (e = .ret ∧ Ix W'))) (a₁ x) W)
    (hdone : ∀ (W : World), I xs W → W.heap[B]? = some (.deferred (some [])) → B + 2 ≤ W.heap.size → Q .normal { a with defers := { target := .collected B, args := #[] } :: a.defers } W)
    (hstop : ∀ (W : World), Ix W → W.heap[B]? = some (.deferred (some [])) → B + 2 ≤ W.heap.size → (Code.ret).wpIn F n P Q { a with defers := { target := .collected B, args := #[] } :: a.defers } W) :
    (Code.rangeFunc g ps assign body).wpIn F n P Q a w := by
  subst hB
  refine wpIn_rangeFunc fun fn hfn => ?_
  rw [hro]
  let rec0 : LoopState → Option Code → Loop := fun st pe => { state := st, pending := pe, fn, tmps := a.tmps, params := ps, assign, body, defers := w.heap.size }
  obtain ⟨W1, hW1⟩ : ∃ W1, (w.alloc (.deferred (some []))).alloc (.loop (rec0 .ready none)) = W1 := ⟨_, rfl⟩
  have hz1 : W1.heap.size = w.heap.size + 2 := by rw [← hW1]; simp
  have hL1 : W1.heap[w.heap.size + 1]? = some (.loop (rec0 .ready none)) := by
    rw [← hW1]; have := World.alloc_heap_new (w.alloc (.deferred (some []))) (.loop (rec0 .ready none)); rwa [World.size_alloc] at this
  have hK1 : W1.heap[w.heap.size]? = some (.deferred (some [])) := by
    rw [← hW1]; exact (Below.heap_alloc _ _ _ (by simp)).trans (World.alloc_heap_new w _)
  have hc1 : Ch [] w W1 := by rw [← hW1]; exact ((Ch.refl _ _).alloc _).alloc _
  have hI1 : I [] W1 := hI _ _ _ h0 (hc1.mono (by simp))
  refine ⟨w.heap.size + 1, [{ target := .collected w.heap.size, args := #[] }], W1, { target := .fn (.func gf) lb, args := #[.func (.yield (w.heap.size + 1)) #[] #[]] }, W1, gf,
    #[.func (.yield (w.heap.size + 1)) #[] #[]] ++ lb, W1, ?_, ?_, ?_, ?_, fun _ => h1, ?_⟩
  · rw [← hW1]; exact run_enterLoop_outer _ _ _ _ _
  · simp only [resolve, hg]
    simp [go_sem]
  · intro f' hf'; simp [Target.leads] at hf'; subst hf'; exact hFg
  · simp [invoke, go_sem, eg]
  · have hKne : ∀ k ∈ K, k ≠ w.heap.size + 1 := fun k hk => by have := hK k hk; omega
    refine (hseq (w.heap.size + 1) (fun pre W => I pre W ∧ w.heap.size + 2 ≤ W.heap.size ∧ W.heap[w.heap.size + 1]? = some (.loop (rec0 .ready none)) ∧ W.heap[w.heap.size]? = some (.deferred (some [])))
      (fun W => Ix W ∧ w.heap.size + 2 ≤ W.heap.size ∧ W.heap[w.heap.size + 1]? = some (.loop (rec0 .done (some .ret))) ∧ W.heap[w.heap.size]? = some (.deferred (some []))) W1 (fun k hk => hc1.block k (hK k hk) (by simp))
      (fun s A A' hs hc => ⟨hI s A A' hs.1 (hc.mono (by simp)), Nat.le_trans hs.2.1 hc.size, (hc.block _ (by have := hs.2.1; omega) (by simp)).trans hs.2.2.1, (hc.block _ (by have := hs.2.1; omega) (by simp)).trans hs.2.2.2⟩)
      (fun A A' hs hc => ⟨hIx A A' hs.1 (hc.mono (by simp)), Nat.le_trans hs.2.1 hc.size, (hc.block _ (by have := hs.2.1; omega) (by simp)).trans hs.2.2.1, (hc.block _ (by have := hs.2.1; omega) (by simp)).trans hs.2.2.2⟩)
      ?_ ⟨hI1, by omega, hL1, hK1⟩).mono ?_
    · rintro pre x W ⟨hi, hz, hl, hk⟩ hpre
      have hlt : w.heap.size + 1 < W.heap.size := by omega
      refine ⟨fn, _, assign, body, run_yield (P := P) (args := encs x) hl (hps x), roundIn_of_wpIn hfn (hassign _ x W _ ⟨_, run_beginRound hl rfl, ?_⟩)⟩
      have hl2 : (W.putObj (w.heap.size + 1) (.loop (rec0 .busy none))).heap[w.heap.size + 1]? = some (.loop (rec0 .busy none)) := World.putObj_heap_same hlt
      have hk2 : (W.putObj (w.heap.size + 1) (.loop (rec0 .busy none))).heap[w.heap.size]? = some (.deferred (some [])) := (World.putObj_heap_other (by omega)).trans hk
      have hK2 : ∀ k ∈ K, (W.putObj (w.heap.size + 1) (.loop (rec0 .busy none))).heap[k]? = W.heap[k]? := fun k hk => World.putObj_heap_other (hKne k hk)
      refine wpIn_mono (hbody _ pre x _ (hI _ _ _ hi (ch_put (by simp))) (by simp; omega) hpre) ?_
      rintro e a3 W3 ⟨⟨hb0, hb1⟩, (⟨rfl, hi3, hk3⟩ | ⟨rfl, hi3⟩)⟩
      · have hl3 := hb1.trans hl2
        have hlt3 := (Array.getElem?_eq_some_iff.1 hl3).1
        refine ⟨_, _, run_endRound (P := P) none hl3, .inl ⟨rfl, ⟨hI _ _ _ hi3 (ch_put (by simp)), by simp; omega, World.putObj_heap_same hlt3, (World.putObj_heap_other (by omega)).trans (hb0.trans hk2)⟩, fun k hk => ?_⟩⟩
        exact (World.putObj_heap_other (hKne k hk)).trans ((hk3 k hk).trans (hK2 k hk))
      · have hl3 := hb1.trans hl2
        have hlt3 := (Array.getElem?_eq_some_iff.1 hl3).1
        refine ⟨_, _, run_endRound (P := P) (some .ret) hl3, .inr ⟨rfl, hIx _ _ hi3 (ch_put (by simp)), by simp; omega, World.putObj_heap_same hlt3, (World.putObj_heap_other (by omega)).trans (hb0.trans hk2)⟩⟩
    · rintro e W2 ⟨⟨v, rfl⟩, (⟨hi, hz, hl, hk⟩ | ⟨hi, hz, hl, hk⟩)⟩
      · exact ⟨none, _, run_endLoop (P := P) hl (by simp [rec0]), hdone _ (hI _ _ _ hi (ch_put (by simp))) ((World.putObj_heap_other (by omega)).trans hk) (by simp; omega)⟩
      · exact ⟨some .ret, _, run_endLoop (P := P) hl (by simp [rec0]), hstop _ (hIx _ _ hi (ch_put (by simp))) ((World.putObj_heap_other (by omega)).trans hk) (by simp; omega)⟩
end
end Go
namespace Go.Proofs.YtehljgigebhddaaGreat
open Go.RowKit Go.Mem Go.Aig
def ablk (a : Option Addr) : List Nat := match a with | some p => [p.block] | none => []
theorem ablk_of {a : Option Addr} {p : Addr} (h : a = some p) : p.block ∈ ablk a := by subst h; simp [ablk]
theorem keep_cell {w W : World} {k o : Nat} (h : W.heap[k]? = w.heap[k]?) {v : Value} (hv : w.cell? ⟨k, o, none⟩ = some v) : W.cell? ⟨k, o, none⟩ = some v := (World.cell?_of_block h).trans hv
theorem Sl.keep {w W : World} {a : Option Addr} {l : List Int} (h : Sl w a l) (hk : ∀ k ∈ ablk a, W.heap[k]? = w.heap[k]?) : Sl W a l :=
  ⟨fun i x hx => by
    obtain ⟨b, o, rfl, hc⟩ := h.cells i x hx
    exact ⟨b, o, rfl, keep_cell (hk b (by simp [ablk])) hc⟩, h.bd⟩
def pairEnc (p : Nat × Nat) : Array Value := #[.int .i64 p.1, .int .i64 p.2]
theorem sfnvpairs1 : Fnv 341 := fnv_of Tryz.func341 (by simp [Tryz.f341]) (by simp [Tryz.f341])
set_option maxRecDepth 100000 in
set_option maxHeartbeats 2000000 in
theorem spairs_seq (w : World) (F : Fence) (n : Nat) (hf : F.fn 341) (hro : F.round = none) (hn : 1 ≤ n) {bx b2 : Nat} {xa ya : Option Addr} {x y : List Nat} (len xc yc : Nat) (hxl : x.length = len) (hyl : y.length = len) (hbx : w.cell? ⟨bx, 0, none⟩ = some (.slice xa len xc)) (hby : w.cell? ⟨b2, 0, none⟩ = some (.slice ya len yc))
    (hx : Sl w xa (x.map fun (r : Nat) => (r : Int))) (hy : Sl w ya (y.map fun (r : Nat) => (r : Int))) :
    SeqP F n Tryz.prog 341 #[.pointer (some ⟨bx, 0, none⟩), .pointer (some ⟨b2, 0, none⟩)] pairEnc (bx :: b2 :: (ablk xa ++ ablk ya)) (x.zip y) w := by
  subst hxl
  intro lp J Jx W hK hJ hJx hY h0
  have hbd := hx.bd
  rw [List.length_map] at hbd
  show CallsIn F n Tryz.prog 341 #[.func (.yield lp) #[] #[], .pointer (some ⟨bx, 0, none⟩), .pointer (some ⟨b2, 0, none⟩)] W _
  have HY := Lib.hid hY; clear hY
  have HJ := Lib.hid hJ; clear hJ
  have HJX := Lib.hid hJx; clear hJx
  have H0 := Lib.hid h0; clear h0
  have HK := Lib.hid hK; clear hK
  have HX := Lib.hid hx; clear hx
  have HYS := Lib.hid hy; clear hy
  have HBX := Lib.hid hbx; clear hbx
  have HBY := Lib.hid hby; clear hby
  have HYL := Lib.hid hyl; clear hyl
  have bx1 := keep_cell (HK.out bx (by simp)) HBX.out
  refine callsIn_of_wp Tryz.func341 rfl hf ?_ hro
  simp only [Tryz.ntmps341, List.size_toArray, List.length_cons, List.length_nil, Nat.reduceAdd, Nat.reduceSub, Array.replicate_succ, Array.replicate_zero, List.push_toArray, List.append_toArray, List.nil_append, List.cons_append]
  gi_wp2
  clear bx1
  gi_loopw [8] (fun i wr => ∃ k : Nat, k ≤ x.length ∧ i = .int .i64 k ∧ (∀ q ∈ bx :: b2 :: (ablk xa ++ ablk ya), wr.heap[q]? = w.heap[q]?) ∧ J ((x.zip y).take k) wr) (fun i _ => x.length - (intOf i).toNat)
  case atStart => exact ⟨0, Nat.zero_le _, rfl, HK.out, H0.out⟩
  case round =>
    obtain ⟨k, hk, rfl, hq, hj⟩ := hrel
    by_cases hlt : k < x.length
    · have hxk : x[k]? = some x[k] := List.getElem?_eq_getElem hlt
      have hyk : y[k]? = some (y[k]'(by rw [HYL.out]; exact hlt)) := List.getElem?_eq_getElem (by rw [HYL.out]; exact hlt)
      generalize x[k] = r at hxk
      generalize y[k]'(by rw [HYL.out]; exact hlt) = s at hyk
      obtain ⟨xb, xo, rfl, hxc⟩ := HX.out.cells k (r : Int) (by simp [hxk])
      obtain ⟨yb, yo, rfl, hyc⟩ := HYS.out.cells k (s : Int) (by simp [hyk])
      have d0 := keep_cell (hq xb (by simp [ablk])) hxc
      have d1 := keep_cell (hq yb (by simp [ablk])) hyc
      have e0 := keep_cell (hq b2 (by simp)) HBY.out
      have hz : (x.zip y)[k]? = some (r, s) := by rw [List.getElem?_zip_eq_some]; exact ⟨hxk, hyk⟩
      have hsu : (x.zip y).take (k + 1) = (x.zip y).take k ++ [(r, s)] := by rw [List.take_add_one, hz]; rfl
      obtain ⟨fn, tmps, assign, body, hy1, hR⟩ := HY.out _ (r, s) _ hj (by rw [← hsu]; exact List.take_prefix _ _)
      simp only [pairEnc] at hy1
      have HQ := Lib.hid hq; clear hq
      have HJ1 := Lib.hid hj; clear hj
      have HSU := Lib.hid hsu; clear hsu
      clear hxk hyk hxc hyc hz
      gi_wp2
      refine hR.mono ?_
      rintro e W2 (⟨rfl, hJ2, hk2⟩ | ⟨rfl, hJ2⟩)
      · have HJ2 := Lib.hid hJ2; clear hJ2
        have HK2 := Lib.hid hk2; clear hk2
        gi_wp2
        go_roundw
        case rel => exact ⟨k + 1, by omega, by go_num, fun q hq => (HK2.out q hq).trans (HQ.out q hq), by rw [HSU.out]; exact HJ2.out⟩
        case measure => simp [intOf]; omega
      · have HJ2 := Lib.hid hJ2; clear hJ2
        gi_wp2
        refine bodyPost_ret (results_none rfl _ _ _) rfl ?_
        exact ⟨⟨_, rfl⟩, .inr HJ2.out⟩
    · have hkl : (x.zip y).take k = x.zip y := List.take_of_length_le (by rw [List.length_zip, HYL.out]; omega)
      rw [hkl] at hj
      have HJ1 := Lib.hid hj; clear hj
      clear hkl
      gi_wp2
      go_end0
      exact ⟨⟨_, rfl⟩, .inl HJ1.out⟩
set_option maxRecDepth 100000 in
set_option maxHeartbeats 1000000 in
theorem spairs_is {w : World} (xa ya : Option Addr) (n xc n' yc : Nat) :
    Calls Tryz.prog 312 #[.slice xa n xc, .slice ya n' yc] w fun e w' => e = .returned (.func (.func 341) #[] #[.pointer (some ⟨w.heap.size, 0, none⟩), .pointer (some ⟨w.heap.size + 1, 0, none⟩)]) ∧ w' = (w.alloc (.cells #[.slice xa n xc] 45)).alloc (.cells #[.slice ya n' yc] 45) := by
  go_enter Tryz.func312, Tryz.ntmps312
  go_wp2_with fail
  go_ret
  exact ⟨rfl, rfl⟩
end Go.Proofs.YtehljgigebhddaaGreat
namespace Go.Aig
def wres (G : Gra) (R : Mk × List Nat) : Gra × List Nat × Nat := if R.1.2 ≠ 0 then (G, [], R.1.2) else (R.1.1, R.2, 0)
def rres (G : Gra) (R : Mk × Nat) : Res := if R.1.2 ≠ 0 then (G, 0, R.1.2) else (R.1.1, R.2, 0)
theorem Ext.back {G G' : Gra} (h : Ext G G') : ({ G' with nodes := G'.nodes.take G.nodes.length } : Gra) = G := by
  obtain ⟨e1, more, e2⟩ := h
  show ({ most := G'.most, nodes := G'.nodes.take G.nodes.length } : Gra) = G
  rw [e1, e2, List.take_left]
theorem doCut_back {G G' : Gra} (hG : Ok G) (h : Ext G G') : doCut G' G.nodes.length = (G, 0) := by
  have := h.len
  have := hG.wf.pos
  unfold doCut
  rw [if_neg (by omega)]
  simp only [Int.toNat_natCast]
  rw [h.back]
end Go.Aig
namespace Go.Proofs.YtehljgigebhddaaGreat
open Go.RowKit Go.Mem Go.Aig
def GVo (w : World) (g : Nat) (G : Gra) (X F : List Nat) (v : Value) (l : List Nat) (w' : World) : Prop :=
  ∃ F', GIn w' g G F' ∧ Ch (X ++ F) w w' ∧ (∀ k ∈ F', k ∈ F ∨ w.heap.size ≤ k) ∧ F'[2]? = F[2]? ∧ row w' 52 1 v l.length (refsCells l) ∧ ∀ k, v.ownBlock = some k → w.heap.size ≤ k ∧ k ∉ F'
def MVo (w : World) (g m : Nat) (P : Mk) (X F : List Nat) (v : Value) (l : List Nat) (w' : World) : Prop :=
  ∃ F', MIn w' g m P F' ∧ Ch (m :: (X ++ F)) w w' ∧ (∀ k ∈ F', k ∈ F ∨ w.heap.size ≤ k) ∧ F'[2]? = F[2]? ∧ row w' 52 1 v l.length (refsCells l) ∧ ∀ k, v.ownBlock = some k → w.heap.size ≤ k ∧ k ∉ F' ∧ k ≠ m
theorem GVo.nil {w w' : World} {g : Nat} {G : Gra} {X F F' : List Nat} (h1 : GIn w' g G F') (h2 : Ch (X ++ F) w w') (h3 : ∀ k ∈ F', k ∈ F ∨ w.heap.size ≤ k) (h4 : F'[2]? = F[2]?) : GVo w g G X F (.slice none 0 0) [] w' :=
  ⟨F', h1, h2, h3, h4, ⟨rfl, .inl ⟨rfl, rfl⟩⟩, by simp [Value.ownBlock]⟩
theorem GTo.mk {w w' : World} {g : Nat} {G : Gra} {F F' : List Nat} (h1 : GIn w' g G F') (h2 : Ch F w w') (h3 : ∀ k ∈ F', k ∈ F ∨ w.heap.size ≤ k) (h4 : F'[2]? = F[2]?) : GTo w g G F w' := ⟨F', h1, h2, h3, h4⟩
section
variable {w : World} {g : Nat} {G : Gra} {F : List Nat}
set_option maxRecDepth 100000 in
set_option maxHeartbeats 2000000 in
theorem sbuildW_is (h : GIn w g G F) (fid : Nat) (caps : Array Value) (hfn : Fnv fid) (R : Mk × List Nat) (X : List Nat)
    (hf : ∀ W m, w.heap.size ≤ m → Ch [] w W → MIn W g m (G, 0) F → Calls Tryz.prog fid (#[.pointer (some ⟨m, 0, none⟩)] ++ caps) W fun e W' => ∃ v P l, e = .returned v ∧ Sim G P R.1 ∧ (R.1.2 = 0 → l = R.2) ∧ MVo W g m P X F v l W') :
    Calls Tryz.prog 173 #[.pointer (some ⟨g, 0, none⟩), .func (.func fid) #[] caps] w fun e w' => ∃ v, e = .returned (.tuple #[v, .int .i64 (wres G R).2.2]) ∧ GVo w g (wres G R).1 X F v (wres G R).2.1 w' := by
  have HL := Len_g h
  have hg := h.lt
  have hok := h.ok
  have hroom := h.ok.room
  have hmost := h.ok.most
  have hms : MIn (w.alloc (.cells #[.pointer (some ⟨g, 0, none⟩), .int .i64 0] 325)) g w.heap.size (G, 0) F := ⟨h.same ((Ch.refl [] _).alloc _) (by simp), blk.new' _ _ rfl, fun hm => by have := hg _ hm; omega⟩
  have HF := hf _ w.heap.size (Nat.le_refl _) ((Ch.refl _ _).alloc _) hms
  have hcf : ∀ args w, (callFunc fid args).run Tryz.prog w = .ok (.enter fid args) w := hfn
  have H := Lib.hid h; clear h
  have HG := Lib.hid hg; clear hg
  have HOK := Lib.hid hok; clear hok
  clear hf hms
  generalize hWW : wres G R = WW
  have HWW := Lib.hid hWW; clear hWW
  go_enter Tryz.func173, Tryz.ntmps173
  go_wp2_with fail
  refine HL.mono ?_
  rintro e w' ⟨rfl, rfl⟩
  go_wp2_with fail
  refine HF.mono ?_
  rintro e w1 ⟨v, P, l, rfl, hsim, hl, F', hm, hc, hF', hF2, hrow, hown⟩
  obtain ⟨va, vc, rfl⟩ := row.shape hrow
  have m1 := hm.bk.cell (i := 1) rfl
  have hc0 : Ch (X ++ F) w w1 := (((Ch.refl (X ++ F) w).alloc (.cells #[.pointer (some ⟨g, 0, none⟩), .int .i64 0] 325))).trans hc (fun k hk => by
    simp only [List.mem_cons] at hk
    rcases hk with rfl | hk
    · right; omega
    · exact .inl hk)
  have hz := hc0.size
  have hF0 : ∀ k ∈ F', k ∈ F ∨ w.heap.size ≤ k := fun k hk => (hF' k hk).imp id (fun e => by simp at e; omega)
  have hrel := hsim.rel
  have hext := hsim.ext
  have HROW := Lib.hid hrow; clear hrow
  have HC0 := Lib.hid hc0; clear hc0
  have HF0 := Lib.hid hF0; clear hF0
  have HOWN := Lib.hid hown; clear hown
  have HM := Lib.hid hm; clear hm
  have HEXT := Lib.hid hext; clear hext
  clear hc hF' hsim
  rcases hrel with ⟨he, rfl⟩ | ⟨he, hp⟩
  · have hw : wres G R = (R.1.1, R.2, 0) := by unfold wres; rw [if_neg (by simp [he])]
    have hww := HWW.out
    rw [hw] at hww
    subst hww
    rw [he] at m1
    have hl := hl he
    subst hl
    clear hw HOK
    have HE := Lib.hid he; clear he
    go_wp2_with fail
    go_ret2
    exact ⟨_, rfl, F', HM.out.gin, HC0.out, HF0.out, hF2, HROW.out, fun k hk => ⟨by have := (HOWN.out k hk).1; simp at this; omega, (HOWN.out k hk).2.1⟩⟩
  · have hw : wres G R = (G, [], 201) := by unfold wres; rw [if_pos (by simp [he]), he]
    have hww := HWW.out
    rw [hw] at hww
    subst hww
    rw [hp] at m1
    have hcut := Cut_g HM.out.gin G.nodes.length (by omega) (by omega)
    rw [doCut_back HOK.out HEXT.out] at hcut
    have hmlt := HM.out.bk.lt
    have hmF := HM.out.apart
    clear hw hl
    have HE := Lib.hid he; clear he
    have HP := Lib.hid hp; clear hp
    have HMF := Lib.hid hmF; clear hmF
    go_wp2_with fail
    refine hcut.mono ?_
    rintro e w4 ⟨rfl, F4, hg4, hc4, hF4, hF42⟩
    have hm4 : w4.cell? ⟨w.heap.size, 1, none⟩ = some (.int .i64 201) := (hc4.cell (p := ⟨w.heap.size, 1, none⟩) hmlt HMF.out).trans m1
    clear m1
    have HG4 := Lib.hid hg4; clear hg4
    have HC4 := Lib.hid hc4; clear hc4
    have HF4 := Lib.hid hF4; clear hF4
    go_wp2_with fail
    refine Ord.St.door (fun _ => True) [.fl, .fl, .fl, .fl, .rd, .fl, .fl] [0, 0, 2, 6, 14, 1, 63] [0, 1, 2, 3, 4, 5, 6] mixed (by kernel_rfl) rfl ?_
    refine Ord.St.fl2 (T' := ?_) 0 [1, 2, 3, 4, 5, 6] _ _ rfl (by kernel_rfl) rfl rfl rfl rfl (fun K w' hk => ?_) ?_
    rotate_left
    · go_step; exact hk
    refine Ord.St.fl2 (T' := ?_) 1 [2, 3, 4, 5, 6] _ _ rfl (by kernel_rfl) rfl rfl rfl rfl (fun K w' hk => ?_) ?_
    rotate_left
    · go_step; exact hk
    refine Ord.St.fl2 (T' := ?_) 2 [3, 4, 5, 6] _ _ rfl (by kernel_rfl) rfl rfl rfl rfl (fun K w' hk => ?_) ?_
    rotate_left
    · go_step; exact hk
    refine Ord.St.fl2 (T' := ?_) 3 [4, 5, 6] _ _ rfl (by kernel_rfl) rfl rfl rfl rfl (fun K w' hk => ?_) ?_
    rotate_left
    · go_step; exact hk
    refine Ord.St.rd2 (T' := ?_) 4 [5, 6] _ _ rfl (by kernel_rfl) rfl rfl rfl rfl (fun K hk => ?_) ?_
    rotate_left
    · go_step; exact hk
    refine Ord.St.fl2 (T' := ?_) 5 [6] _ _ rfl (by kernel_rfl) rfl rfl rfl rfl (fun K w' hk => ?_) ?_
    rotate_left
    · go_step; exact hk
    refine Ord.St.fl2 (T' := ?_) 6 [] _ _ rfl (by kernel_rfl) rfl rfl rfl rfl (fun K w' hk => ?_) ?_
    rotate_left
    · go_step; exact hk
    refine Ord.St.nil ?_
    go_wp2_with fail
    go_ret2
    refine ⟨_, rfl, GVo.nil (F' := F4) (HG4.out.same (F' := []) (Ch.refl _ _).drew (by simp)) (HC0.out.trans HC4.out.drew (fun k hk => (HF0.out k hk).imp (fun e => List.mem_append_right _ e) id)) (fun k hk => ?_) (hF42.trans hF2)⟩
    rcases HF4.out k hk with e | e
    · exact HF0.out k e
    · exact .inr (by omega)
set_option maxRecDepth 100000 in
set_option maxHeartbeats 2000000 in
theorem sbuildR_is (h : GIn w g G F) (fid : Nat) (caps : Array Value) (hfn : Fnv fid) (R : Mk × Nat)
    (hf : ∀ W m, w.heap.size ≤ m → Ch [] w W → MIn W g m (G, 0) F → Calls Tryz.prog fid (#[.pointer (some ⟨m, 0, none⟩)] ++ caps) W fun e W' => ∃ (P : Mk) (r : Nat), e = .returned (.int .i64 r) ∧ Sim G P R.1 ∧ (R.1.2 = 0 → r = R.2) ∧ MTo W g m P F W') :
    Calls Tryz.prog 310 #[.pointer (some ⟨g, 0, none⟩), .func (.func fid) #[] caps] w fun e w' => e = .returned (.tuple #[.int .i64 (rres G R).2.1, .int .i64 (rres G R).2.2]) ∧ GTo w g (rres G R).1 F w' := by
  have HL := Len_g h
  have hg := h.lt
  have hok := h.ok
  have hroom := h.ok.room
  have hmost := h.ok.most
  have hms : MIn (w.alloc (.cells #[.pointer (some ⟨g, 0, none⟩), .int .i64 0] 325)) g w.heap.size (G, 0) F := ⟨h.same ((Ch.refl [] _).alloc _) (by simp), blk.new' _ _ rfl, fun hm => by have := hg _ hm; omega⟩
  have HF := hf _ w.heap.size (Nat.le_refl _) ((Ch.refl _ _).alloc _) hms
  have hcf : ∀ args w, (callFunc fid args).run Tryz.prog w = .ok (.enter fid args) w := hfn
  have H := Lib.hid h; clear h
  have HG := Lib.hid hg; clear hg
  have HOK := Lib.hid hok; clear hok
  clear hf hms
  generalize hWW : rres G R = WW
  have HWW := Lib.hid hWW; clear hWW
  go_enter Tryz.func310, Tryz.ntmps310
  go_wp2_with fail
  refine HL.mono ?_
  rintro e w' ⟨rfl, rfl⟩
  go_wp2_with fail
  refine HF.mono ?_
  rintro e w1 ⟨P, r, rfl, hsim, hl, F', hm, hc, hF', hF2⟩
  have m1 := hm.bk.cell (i := 1) rfl
  have hc0 : Ch F w w1 := (((Ch.refl F w).alloc (.cells #[.pointer (some ⟨g, 0, none⟩), .int .i64 0] 325))).trans hc (fun k hk => by
    simp only [List.mem_cons] at hk
    rcases hk with rfl | hk
    · right; omega
    · exact .inl hk)
  have hz := hc0.size
  have hF0 : ∀ k ∈ F', k ∈ F ∨ w.heap.size ≤ k := fun k hk => (hF' k hk).imp id (fun e => by simp at e; omega)
  have hrel := hsim.rel
  have hext := hsim.ext
  have HC0 := Lib.hid hc0; clear hc0
  have HF0 := Lib.hid hF0; clear hF0
  have HM := Lib.hid hm; clear hm
  have HEXT := Lib.hid hext; clear hext
  clear hc hF' hsim
  rcases hrel with ⟨he, rfl⟩ | ⟨he, hp⟩
  · have hw : rres G R = (R.1.1, R.2, 0) := by unfold rres; rw [if_neg (by simp [he])]
    have hww := HWW.out
    rw [hw] at hww
    subst hww
    rw [he] at m1
    have hl := hl he
    subst hl
    clear hw HOK
    have HE := Lib.hid he; clear he
    go_wp2_with fail
    go_ret2
    exact ⟨rfl, F', HM.out.gin, HC0.out, HF0.out, hF2⟩
  · have hw : rres G R = (G, 0, 201) := by unfold rres; rw [if_pos (by simp [he]), he]
    have hww := HWW.out
    rw [hw] at hww
    subst hww
    rw [hp] at m1
    have hcut := Cut_g HM.out.gin G.nodes.length (by omega) (by omega)
    rw [doCut_back HOK.out HEXT.out] at hcut
    have hmlt := HM.out.bk.lt
    have hmF := HM.out.apart
    clear hw hl
    have HE := Lib.hid he; clear he
    have HP := Lib.hid hp; clear hp
    have HMF := Lib.hid hmF; clear hmF
    go_wp2_with fail
    refine hcut.mono ?_
    rintro e w4 ⟨rfl, F4, hg4, hc4, hF4, hF42⟩
    have hm4 : w4.cell? ⟨w.heap.size, 1, none⟩ = some (.int .i64 201) := (hc4.cell (p := ⟨w.heap.size, 1, none⟩) hmlt HMF.out).trans m1
    clear m1
    have HG4 := Lib.hid hg4; clear hg4
    have HC4 := Lib.hid hc4; clear hc4
    have HF4 := Lib.hid hF4; clear hF4
    go_wp2_with fail
    refine Ord.St.door (fun _ => True) [.fl, .fl, .fl, .fl, .rd, .fl, .fl] [0, 0, 2, 6, 14, 1, 63] [0, 1, 2, 3, 4, 5, 6] mixed (by kernel_rfl) rfl ?_
    refine Ord.St.fl2 (T' := ?_) 0 [1, 2, 3, 4, 5, 6] _ _ rfl (by kernel_rfl) rfl rfl rfl rfl (fun K w' hk => ?_) ?_
    rotate_left
    · go_step; exact hk
    refine Ord.St.fl2 (T' := ?_) 1 [2, 3, 4, 5, 6] _ _ rfl (by kernel_rfl) rfl rfl rfl rfl (fun K w' hk => ?_) ?_
    rotate_left
    · go_step; exact hk
    refine Ord.St.fl2 (T' := ?_) 2 [3, 4, 5, 6] _ _ rfl (by kernel_rfl) rfl rfl rfl rfl (fun K w' hk => ?_) ?_
    rotate_left
    · go_step; exact hk
    refine Ord.St.fl2 (T' := ?_) 3 [4, 5, 6] _ _ rfl (by kernel_rfl) rfl rfl rfl rfl (fun K w' hk => ?_) ?_
    rotate_left
    · go_step; exact hk
    refine Ord.St.rd2 (T' := ?_) 4 [5, 6] _ _ rfl (by kernel_rfl) rfl rfl rfl rfl (fun K hk => ?_) ?_
    rotate_left
    · go_step; exact hk
    refine Ord.St.fl2 (T' := ?_) 5 [6] _ _ rfl (by kernel_rfl) rfl rfl rfl rfl (fun K w' hk => ?_) ?_
    rotate_left
    · go_step; exact hk
    refine Ord.St.fl2 (T' := ?_) 6 [] _ _ rfl (by kernel_rfl) rfl rfl rfl rfl (fun K w' hk => ?_) ?_
    rotate_left
    · go_step; exact hk
    refine Ord.St.nil ?_
    go_wp2_with fail
    go_ret2
    refine ⟨rfl, GTo.mk (F' := F4) (HG4.out.same (F' := []) (Ch.refl _ _).drew (by simp)) (HC0.out.trans HC4.out.drew HF0.out) (fun k hk => ?_) (hF42.trans hF2)⟩
    rcases HF4.out k hk with e | e
    · exact HF0.out k e
    · exact .inr (by omega)
end
end Go.Proofs.YtehljgigebhddaaGreat
namespace Go.Aig
def rightW (n : Int) : Bool := decide (1 ≤ n) && decide (n ≤ 17)
def badIn (G : Gra) (x : List Int) : Bool := x.any fun r => !right G.nodes r
def badAs (n0 : Nat) (x : List Int) : Bool := !rightW x.length || (x.length : Int) != n0
def chk (G : Gra) (ws : List (List Int)) : Nat :=
  if ws.any (badAs (ws.headD []).length) then 230 else if ws.any (badIn G) then 200 else 0
end Go.Aig
namespace Go.Proofs.YtehljgigebhddaaGreat
open Go.RowKit Go.Mem Go.Aig
structure WV where
  a : Option Addr
  l : List Int
  c : Nat
def WV.val (x : WV) : Value := .slice x.a x.l.length x.c
structure WVok (w : World) (x : WV) : Prop where
  sl : Sl w x.a x.l
  bd : ∀ r ∈ x.l, -9223372036854775808 ≤ r ∧ r ≤ 9223372036854775807
  len : x.l.length ≤ 1000000
theorem WVok.ch {F : List Nat} {w w' : World} {x : WV} (h : WVok w x) (hc : Ch F w w') (hF : ∀ p, x.a = some p → p.block ∉ F) : WVok w' x := ⟨h.sl.ch hc hF, h.bd, h.len⟩
section
variable {w : World} {g : Nat} {G : Gra} {F : List Nat}
set_option maxRecDepth 100000 in
set_option maxHeartbeats 1000000 in
theorem sright_is (n : Int) : Calls Tryz.prog 171 #[.int .i64 n] w fun e w' => e = .returned (.bool (rightW n)) ∧ w = w' := by
  unfold rightW
  by_cases h : 1 ≤ n
  · have h1 : decide ((1 : Int) ≤ n) = true := decide_eq_true h
    go_enter Tryz.func171, Tryz.ntmps171
    go_wp2_with fail
    go_ret
    exact ⟨by rw [h1]; rfl, rfl⟩
  · have h1 : decide ((1 : Int) ≤ n) = false := decide_eq_false h
    go_enter Tryz.func171, Tryz.ntmps171
    go_wp2_with fail
    go_ret
    exact ⟨rfl, rfl⟩
theorem fnvscheck1 : Fnv 340 := fnv_of Tryz.func340 (by simp [Tryz.f340]) (by simp [Tryz.f340])
set_option maxRecDepth 100000 in
set_option maxHeartbeats 1000000 in
theorem scheck1_is (h : GIn w g G F) {bx : Nat} (hb : w.cell? ⟨bx, 0, none⟩ = some (.pointer (some ⟨g, 0, none⟩))) (r : Int) (hr : r ≤ 9223372036854775807) :
    Calls Tryz.prog 340 (#[.int .i64 r] ++ #[.pointer (some ⟨bx, 0, none⟩)]) w fun e w' => e = .returned (.bool (!right G.nodes r)) ∧ w = w' := by
  show Calls Tryz.prog 340 #[.int .i64 r, .pointer (some ⟨bx, 0, none⟩)] w _
  have HR := Right_g h r hr
  clear h
  generalize right G.nodes r = q at *
  go_enter Tryz.func340, Tryz.ntmps340
  go_wp2_with fail
  refine HR.mono ?_
  rintro e w' ⟨rfl, rfl⟩
  go_wp2_with fail
  go_ret
  exact ⟨ret_bool rfl, rfl⟩
set_option maxRecDepth 100000 in
set_option maxHeartbeats 4000000 in
theorem scheck_is (h : GIn w g G F) {b : Nat} {ws : List WV} (n c : Nat) (hn : ws.length = n) (hn0 : n ≤ 2) (hc : ∀ i x, ws[i]? = some x → w.cell? ⟨b, i, none⟩ = some x.val) (hS : ∀ x ∈ ws, WVok w x) :
    Calls Tryz.prog 309 #[.pointer (some ⟨g, 0, none⟩), .slice (some ⟨b, 0, none⟩) n c] w fun e w' => e = .returned (.int .i64 (chk G (ws.map WV.l))) ∧ Ch [] w w' := by
  subst hn
  have hW1 : Ch [] w (w.alloc (.cells #[.pointer (some ⟨g, 0, none⟩)] 42)) := (Ch.refl _ _).alloc _
  have H1 := h.same hW1 (by simp)
  have HL := Len_g H1
  have b1 : (w.alloc (.cells #[.pointer (some ⟨g, 0, none⟩)] 42)).cell? ⟨w.heap.size, 0, none⟩ = some (.pointer (some ⟨g, 0, none⟩)) := by go_simp
  have hpos := h.ok.wf.pos
  have HCF : ∀ x ∈ ws, Calls Tryz.prog 40 #[.slice x.a x.l.length x.c, .func (.func 340) #[] #[.pointer (some ⟨w.heap.size, 0, none⟩)]] (w.alloc (.cells #[.pointer (some ⟨g, 0, none⟩)] 42)) fun e w' => e = .returned (.bool (badIn G x.l)) ∧ (w.alloc (.cells #[.pointer (some ⟨g, 0, none⟩)] 42)) = w' := fun x hx =>
    CFref_is x.c 340 #[.pointer (some ⟨w.heap.size, 0, none⟩)] (fun r => !right G.nodes r) ((hS x hx).ch hW1 (by simp)).sl (fun r hr => scheck1_is H1 b1 r ((hS x hx).bd r hr).2) fnvscheck1
  have hcc : ∀ i x, ws[i]? = some x → (w.alloc (.cells #[.pointer (some ⟨g, 0, none⟩)] 42)).cell? ⟨b, i, none⟩ = some (.slice x.a x.l.length x.c) := fun i x hx => (hW1.cell (p := ⟨b, i, none⟩) (cell_lt (hc i x hx)) (by simp)).trans (hc i x hx)
  have hlen : ∀ x ∈ ws, x.l.length ≤ 1000000 := fun x hx => (hS x hx).len
  have hroom := h.ok.room
  have hmost := h.ok.most
  have hp0 : ((G.nodes.length : Int) == 0) = false := beqN (by omega)
  have HCC := Lib.hid hcc; clear hcc
  have HCF := Lib.hid HCF
  clear hc hS h H1 b1
  generalize hWC : chk G (ws.map WV.l) = WC
  have HWC := Lib.hid hWC; clear hWC
  have HW1 := Lib.hid hW1; clear hW1
  have HLEN := Lib.hid hlen; clear hlen
  go_enter Tryz.func309, Tryz.ntmps309
  go_wp2_with fail
  refine wp_scope_straight ?_
  go_wp2_with fail
  refine HL.mono ?_
  rintro e w' ⟨rfl, rfl⟩
  go_wp2_with fail
  refine wp_label ?_
  go_wp2_with fail
  go_loopw [5, 13] (fun e i wr => ∃ k : Nat, k ≤ ws.length ∧ i = .int .i64 k ∧ wr = w.alloc (.cells #[.pointer (some ⟨g, 0, none⟩)] 42) ∧ ((ws.map WV.l).take k).any (badAs ((ws.map WV.l).headD []).length) = false ∧ e = .int .i64 (if ((ws.map WV.l).take k).any (badIn G) then 200 else 0 : Nat)) (fun _ i _ => ws.length - (intOf i).toNat)
  case atStart => exact ⟨0, by omega, rfl, rfl, rfl, rfl⟩
  case round =>
    obtain ⟨k, hk, rfl, rfl, hno, rfl⟩ := hrel
    generalize hE : (if ((ws.map WV.l).take k).any (badIn G) then 200 else 0 : Nat) = E
    have HE := Lib.hid hE; clear hE
    by_cases hlt : k < ws.length
    · obtain ⟨x, hx⟩ : ∃ x, ws[k]? = some x := ⟨_, List.getElem?_eq_getElem hlt⟩
      obtain ⟨x0, hx0⟩ : ∃ x0, ws[0]? = some x0 := ⟨_, List.getElem?_eq_getElem (by omega)⟩
      have c0 := HCC.out 0 x0 hx0
      have c1 := HCC.out k x hx
      have hh0 : ((ws.map WV.l).headD []).length = x0.l.length := by
        cases ws with
        | nil => cases hx0
        | cons y ws => simp at hx0; subst hx0; rfl
      rw [hh0] at hno
      have hxm : (ws.map WV.l)[k]? = some x.l := by simp [hx]
      have hmem : x ∈ ws := List.mem_of_getElem? hx
      have HR := sright_is (w := w.alloc (.cells #[.pointer (some ⟨g, 0, none⟩)] 42)) x.l.length
      have HC := HCF.out x hmem
      have hxl := HLEN.out x hmem
      have hx0l := HLEN.out x0 (List.mem_of_getElem? hx0)
      have HNO := Lib.hid hno; clear hno
      have HH0 := Lib.hid hh0; clear hh0
      have HXM := Lib.hid hxm; clear hxm
      have hchk : badAs x0.l.length x.l = true → chk G (ws.map WV.l) = 230 := fun hb => by
        unfold chk
        rw [HH0.out, if_pos (List.any_eq_true.2 ⟨x.l, List.mem_of_getElem? HXM.out, hb⟩)]
      clear hx hx0 hmem
      by_cases hr : rightW x.l.length = true
      · rw [hr] at HR
        by_cases hll : x.l.length = x0.l.length
        · have hq : ((x.l.length : Int) != (x0.l.length : Int)) = false := by rw [hll]; simp
          have hgood : badAs x0.l.length x.l = false := by unfold badAs; rw [hr, hq]; rfl
          have h1 : ((ws.map WV.l).take (k + 1)).any (badAs x0.l.length) = false := by
            rw [List.take_add_one, HXM.out, List.any_append, HNO.out]; simp [hgood]
          have h2 : (if ((ws.map WV.l).take (k + 1)).any (badIn G) then 200 else 0 : Nat) = if badIn G x.l then 200 else E := by
            rw [List.take_add_one, HXM.out, List.any_append, ← HE.out]
            cases hb : badIn G x.l <;> simp [hb]
          have H1 := Lib.hid h1; clear h1
          have H2 := Lib.hid h2; clear h2
          clear hchk hgood hll hr
          cases hb : badIn G x.l
          · rw [hb] at HC
            have HB := Lib.hid hb; clear hb
            go_wp2_with fail
            refine HR.mono ?_
            rintro e w' ⟨rfl, rfl⟩
            go_wp2_with fail
            refine HC.mono ?_
            rintro e w' ⟨rfl, rfl⟩
            go_wp2_with fail
            go_roundw
            case rel => exact ⟨k + 1, by omega, by go_num, by first | trivial | rfl, by rw [HH0.out]; exact H1.out, by rw [H2.out, HB.out]; rfl⟩
            case measure => simp [intOf]; omega
          · rw [hb] at HC
            have HB := Lib.hid hb; clear hb
            go_wp2_with fail
            refine HR.mono ?_
            rintro e w' ⟨rfl, rfl⟩
            go_wp2_with fail
            refine HC.mono ?_
            rintro e w' ⟨rfl, rfl⟩
            go_wp2_with fail
            go_roundw
            case rel => exact ⟨k + 1, by omega, by go_num, by first | trivial | rfl, by rw [HH0.out]; exact H1.out, by rw [H2.out, HB.out]; rfl⟩
            case measure => simp [intOf]; omega
        · have hq : ((x.l.length : Int) != (x0.l.length : Int)) = true := by simp; omega
          have hbad := hchk (by unfold badAs; rw [hq]; simp)
          have HBAD := Lib.hid hbad; clear hbad hchk hr
          clear HC hll
          go_wp2_with fail
          refine HR.mono ?_
          rintro e w' ⟨rfl, rfl⟩
          go_wp2_with fail
          rw [Exit.noGoto_ret]
          go_ret
          have hwc := HWC.out
          rw [HBAD.out] at hwc
          subst hwc
          exact ⟨rfl, HW1.out⟩
      · have hr0 : rightW x.l.length = false := by simpa using hr
        have hbad := hchk (by unfold badAs; rw [hr0]; rfl)
        have HBAD := Lib.hid hbad; clear hbad hchk hr
        rw [hr0] at HR
        clear HC hr0
        go_wp2_with fail
        refine HR.mono ?_
        rintro e w' ⟨rfl, rfl⟩
        go_wp2_with fail
        rw [Exit.noGoto_ret]
        go_ret
        have hwc := HWC.out
        rw [HBAD.out] at hwc
        subst hwc
        exact ⟨rfl, HW1.out⟩
    · have hwc := HWC.out
      have he := HE.out
      rw [List.take_of_length_le (by rw [List.length_map]; omega)] at hno he
      unfold chk at hwc
      rw [hno, if_neg (by simp), he] at hwc
      subst hwc
      clear HWC hno he
      go_wp2_with fail
      rw [Exit.noGoto_ret]
      go_ret
      exact ⟨rfl, HW1.out⟩
end
end Go.Proofs.YtehljgigebhddaaGreat
namespace Go.Ord
open Go
def noDefer (o : Oper) : Bool := match o.op with | .defer _ => false | _ => true
theorem noDefer_ne {o : Oper} (h : noDefer o = true) : ∀ c, o.op ≠ .defer c := fun c e => by unfold noDefer at h; rw [e] at h; cases h
theorem wide_in {l n : Nat} {P : Program} {o : Oper} (hq : noDefer o = true) {a : Act} {w : World} {K : Act → World → Prop} {Q : Exit → Act → World → Prop} (h : o.wp P a w K Q) : o.wpIn (Fence.wide.inRound l) n P a w K Q := by
  refine ⟨fun f _ => trivial, ?_⟩
  rw [Oper.semAt_eq _ _ _ (noDefer_ne hq)]
  unfold Oper.wp at h
  cases hr : (execOp a.eval o).run P w with
  | ok x w' =>
    rw [hr] at h
    cases x with
    | enter f args => exact ⟨(fun hd => by cases hd), CallsIn.inRound l ((callsIn_wide (n := n - 1)).2 h)⟩
    | row row args => exact ⟨(fun hd => by cases hd), fun c cs _ => let ⟨v, w1, r, s⟩ := h c cs; ⟨v, w1, r, (stepsIn_wide (P := P)).2 s⟩⟩
    | round => exact h.elim
    | _ => exact h
  | halt x w' =>
    rw [hr] at h
    cases x <;> exact h
theorem any_wide {l n : Nat} {P : Program} {ops : Array Oper} {Q : Exit → Act → World → Prop} {md : Region.Mode} (hnl : ¬ LetsOut Q) (hq : ∀ o ∈ ops.toList, noDefer o = true) : ∀ (m : Nat) (listed : Array Bool) (a : Act) (w : World), wpAny P md ops Q m listed a w → wpAnyIn (Fence.wide.inRound l) n P md ops Q m listed a w := by
  intro m
  induction m with
  | zero => intro listed a w h; exact h
  | succ m ih =>
    intro listed a w h
    refine ⟨h.1, fun i hi => ?_⟩
    have h2 := h.2 i hi
    refine wpOpIn_mono (fun a w => ih _ a w) ?_
    unfold wpOp at h2
    unfold wpOpIn
    cases ho : ops[i]? with
    | none => simpa [ho] using h2
    | some o =>
      have hqo : noDefer o = true := hq o (by
        have := Array.mem_of_getElem? ho
        exact Array.mem_def.1 this)
      simp only [ho] at h2 ⊢
      split
      · rename_i hw; simp only [hw, if_true] at h2; exact wide_in hqo (h2.resolve_right fun h => hnl h.2)
      · rename_i hw
        simp only [hw] at h2
        exact ⟨fun f _ => trivial, h2⟩
section
variable {n : Nat} {P : Program} {l : List Oper} {Q' : Exit → Act → World → Prop}
theorem St.doorR {lp id : Nat} {a : Act} {w : World} (C : World → Prop) (ks : List Kd) (A : List Nat) (R : List Nat) (hm : P.follows .mixedOrders = true) (hqq : l.all noDefer = true) (hs : stat l.toArray ks A = true) (hR : List.range l.length = R)
    (h : St P l ks A C (Q' .normal) R a w.drew) : (Code.region id l.toArray true).wpIn (Fence.wide.inRound lp) n P Q' a w := by
  refine wpIn_mono (Q := only (Q' .normal)) ?_ (fun e a w ⟨he, hq⟩ => he ▸ hq)
  refine wpIn_region_any hm ?_
  subst hR
  have h2 := h List.nodup_range (fun k o e hk _ _ _ => List.mem_range.2 (by have := lt_size hk; simpa using this)) (by simp) (stat_spec hs)
  have := wpAny_of_all (P := P) (C := C) (stat_spec hs) (Q' .normal) l.length (List.range l.length) (Array.replicate l.length false) a w.drew List.nodup_range (by simp) (by simp) (by simp)
    (fun k hk => by simp at hk; simp [hk]) (by simpa using h2)
  have h3 := any_wide (l := lp) (n := n) (only_lets _) (fun o ho => List.all_eq_true.1 hqq o (by simpa using ho)) _ _ _ _ this
  simpa using h3
end
end Go.Ord
namespace Go.Aig
def rop (f : Gra → Nat → Nat → Res) (s : Mk) (a b : Nat) : Mk × Nat := rstep s (f s.1 a b)
def Full2 (f : Gra → Nat → Nat → Res) : Prop := ∀ (G : Gra), Ok G → ∀ a b, a < 2 * G.nodes.length → b < 2 * G.nodes.length → RFull G (f G a b)
theorem full_xor : Full2 rXor := fun _ h _ _ ha hb => rXor_full h ha hb
theorem eachF_snoc (op : Mk → Nat → Nat → Mk × Nat) (s : Mk) (l : List (Nat × Nat)) (p : Nat × Nat) : eachF op s (l ++ [p]) = eachS op (eachF op s l) p := by
  unfold eachF; rw [List.foldl_append]; rfl
theorem zip_lt {x y : List Nat} {n : Nat} (hx : ∀ r ∈ x, r < n) (hy : ∀ r ∈ y, r < n) : ∀ p ∈ x.zip y, p.1 < n ∧ p.2 < n := fun p hp => by
  obtain ⟨a, b⟩ := p
  exact ⟨hx _ (List.of_mem_zip hp).1, hy _ (List.of_mem_zip hp).2⟩
end Go.Aig
namespace Go.Proofs.YtehljgigebhddaaGreat
open Go.RowKit Go.Mem Go.Aig
structure EF (w : World) (m : Nat) (X F : List Nat) (B ob mb : Nat) : Prop where
  low : ∀ k ∈ m :: (X ++ F), k < w.heap.size
  ob1 : w.heap.size ≤ ob
  ob2 : ob < B
  mb1 : w.heap.size ≤ mb
  mb2 : mb < B
  ne : ob ≠ mb
  mX : m ∉ X
  XF : ∀ k ∈ X, k ∉ F
structure EI (w : World) (g m : Nat) (G : Gra) (X F : List Nat) (B ob mb n : Nat) (R : Mk) (out : List Nat) (W : World) (v : Value) (P : Mk) (l : List Nat) (F' : List Nat) : Prop where
  sim : Sim G P R
  out : R.2 = 0 → l = out
  len : l.length = n
  all : ∀ r ∈ l, r < 2 * P.1.nodes.length
  mem : MIn W g m P F'
  ch : Ch (m :: (X ++ F)) w W
  own : ∀ k ∈ F', k ∈ F ∨ B + 2 ≤ k
  map : F'[2]? = F[2]?
  ob : blk W ob [v]
  mb : blk W mb [.pointer (some ⟨m, 0, none⟩)]
  row : row W 52 1 v l.length (refsCells l)
  fresh : ∀ k, v.ownBlock = some k → B + 2 ≤ k ∧ k ∉ F'
def Kok (w : World) (m : Nat) (X F : List Nat) (B ob : Nat) (K : List Nat) : Prop := ∀ k ∈ K, (k < w.heap.size ∧ k ∉ m :: (X ++ F)) ∨ (w.heap.size ≤ k ∧ k < B ∧ k ≠ ob)
theorem _root_.Go.Books.trans {B : Nat} {a b c : World} (h : Books B a b) (h' : Books B b c) : Books B a c := ⟨h'.1.trans h.1, h'.2.trans h.2⟩
theorem _root_.Go.Kept.trans {K : List Nat} {a b c : World} (h : Kept K a b) (h' : Kept K b c) : Kept K a c := fun k hk => (h' k hk).trans (h k hk)
theorem Kok.ch0 {w A A' : World} {m : Nat} {X F : List Nat} {B ob : Nat} {K : List Nat} (h : Kok w m X F B ob K) (hw : w.heap.size ≤ B) (hz : B + 2 ≤ A.heap.size) (hc : Ch [] A A') : Kept K A A' :=
  Kept.of_ch hc fun k hk => ⟨by rcases h k hk with e | e <;> omega, by simp⟩
section
variable {w : World} {g m : Nat} {G : Gra} {X F : List Nat} {B ob mb n : Nat} {R : Mk} {out : List Nat} {A A' : World} {v : Value} {P : Mk} {l F' : List Nat}
theorem EI.sep (h : EI w g m G X F B ob mb n R out A v P l F') (e : EF w m X F B ob mb) : ∀ k ∈ m :: (X ++ F'), (k ∈ m :: (X ++ F) ∧ k < w.heap.size) ∨ (k ∈ F' ∧ B + 2 ≤ k) := fun k hk => by
  simp only [List.mem_cons, List.mem_append] at hk
  rcases hk with rfl | hk | hk
  · exact .inl ⟨by simp, e.low _ (by simp)⟩
  · exact .inl ⟨by simp [hk], e.low _ (by simp [hk])⟩
  · rcases h.own k hk with h1 | h1
    · exact .inl ⟨by simp [h1], e.low _ (by simp [h1])⟩
    · exact .inr ⟨hk, h1⟩
theorem EI.same (h : EI w g m G X F B ob mb n R out A v P l F') (e : EF w m X F B ob mb) (hc : Ch [B, B + 1] A A') : EI w g m G X F B ob mb n R out A' v P l F' := by
  have ho := e.ob1; have ho2 := e.ob2; have hm1 := e.mb1; have hm2 := e.mb2
  have hs := h.sep e
  refine ⟨h.sim, h.out, h.len, h.all, h.mem.same hc ?_, h.ch.trans hc (by intro k hk; simp at hk; omega), h.own, h.map, h.ob.ch hc (by simp; omega), h.mb.ch hc (by simp; omega), h.row.ch hc ?_, h.fresh⟩
  · intro k hk
    have := hs k (by simp only [List.mem_cons, List.mem_append] at hk ⊢; rcases hk with e | e <;> simp [e])
    simp; omega
  · intro k hk
    have := (h.fresh k hk).1
    simp; omega
theorem EI.ch0 (h : EI w g m G X F B ob mb n R out A v P l F') (e : EF w m X F B ob mb) (hc : Ch [] A A') : EI w g m G X F B ob mb n R out A' v P l F' := h.same e (hc.mono (by simp))
theorem EI.more (h : EI w g m G X F B ob mb n R out A v P l F') (e : EF w m X F B ob mb) (hz : B + 2 ≤ A.heap.size) {P' R' : Mk} {F1 : List Nat} (hm : MIn A' g m P' F1) (hc : Ch (m :: (X ++ F')) A A') (hF : ∀ k ∈ F1, k ∈ F' ∨ A.heap.size ≤ k) (hmap : F1[2]? = F'[2]?)
    (hs : Sim G P' R') (hext : Ext P.1 P'.1) (hr : R.2 ≠ 0 → R'.2 ≠ 0) : Books B A A' ∧ EI w g m G X F B ob mb n R' out A' v P' l F1 ∧ ∀ K, Kok w m X F B ob K → Kept K A A' := by
  have ho := e.ob1; have ho2 := e.ob2; have hm1 := e.mb1; have hm2 := e.mb2
  have hsep := h.sep e
  have hown : ∀ k, v.ownBlock = some k → k < A.heap.size := fun k hk => (h.row.lt k hk).2
  have hcz := hc.size
  refine ⟨Books.of_ch hc hz (fun k hk => by have := hsep k hk; omega), ⟨hs, fun hz => h.out ?_, h.len, fun r hr => hext.lt (h.all r hr), hm, h.ch.trans hc (fun k hk => (hsep k hk).imp (fun e => e.1) (fun e => by omega)), fun k hk => ?_, hmap.trans h.map, h.ob.ch hc (fun hk => by have := hsep _ hk; omega), h.mb.ch hc (fun hk => by have := hsep _ hk; omega), h.row.ch hc (fun k hk hk2 => ?_), fun k hk => ⟨(h.fresh k hk).1, fun hk2 => ?_⟩⟩, fun K hK => Kept.of_ch hc (fun k hk => ?_)⟩
  · by_cases h0 : R.2 = 0
    · exact h0
    · exact absurd hz (hr h0)
  · rcases hF k hk with h1 | h1
    · exact h.own k h1
    · exact .inr (by omega)
  · have h1 := h.fresh k hk
    rcases hsep k hk2 with h2 | h2
    · omega
    · exact h1.2 h2.1
  · rcases hF k hk2 with h1 | h1
    · exact (h.fresh k hk).2 h1
    · have := hown k hk; omega
  · rcases hK k hk with ⟨h1, h2⟩ | ⟨h1, h2, h3⟩
    · have h4 := h.ch.size
      refine ⟨by omega, fun hk2 => ?_⟩
      rcases hsep k hk2 with h5 | h5
      · exact h2 h5.1
      · omega
    · refine ⟨by omega, fun hk2 => ?_⟩
      have := hsep k hk2; omega
theorem EI.app {va : Option Addr} {vc : Nat} (h : EI w g m G X F B ob mb n R out A (.slice va l.length vc) P l F') (e : EF w m X F B ob mb) (hz : B + 2 ≤ A.heap.size) {r : Nat} {o : Obj} {w4 : World} {gb gc : Nat} (hrow : Go.Mem.row w4 52 1 (.slice (some ⟨gb, 0, none⟩) (l.length + 1) gc) (l.length + 1) (refsCells l ++ [.int .i64 r]))
    (hc4 : Ch (Value.slice va l.length vc).ownBlock.toList (A.alloc o) w4) (hf4 : ∀ k, (Value.slice (some ⟨gb, 0, none⟩) (l.length + 1) gc).ownBlock = some k → (Value.slice va l.length vc).ownBlock = some k ∨ (A.alloc o).heap.size ≤ k) (hr : r < 2 * P.1.nodes.length) {out' : List Nat} (hout : R.2 = 0 → out' = out ++ [r]) :
    Books B A (w4.setCell ⟨ob, 0, none⟩ (.slice (some ⟨gb, 0, none⟩) (l.length + 1) gc)) ∧ EI w g m G X F B ob mb (n + 1) R out' (w4.setCell ⟨ob, 0, none⟩ (.slice (some ⟨gb, 0, none⟩) (l.length + 1) gc)) (.slice (some ⟨gb, 0, none⟩) (l.length + 1) gc) P (l ++ [r]) F' ∧ ∀ K, Kok w m X F B ob K → Kept K A (w4.setCell ⟨ob, 0, none⟩ (.slice (some ⟨gb, 0, none⟩) (l.length + 1) gc)) := by
  have ho := e.ob1; have ho2 := e.ob2; have hm1 := e.mb1; have hm2 := e.mb2
  have hsep := h.sep e
  have hfresh := h.fresh
  have hownlt : ∀ k, (Value.slice va l.length vc).ownBlock = some k → k < A.heap.size := fun k hk => (h.row.lt k hk).2
  have hA : Ch (Value.slice va l.length vc).ownBlock.toList A w4 := ((Ch.refl _ A).alloc o).trans hc4 (fun k hk => .inl hk)
  have hA5 : Ch ((Value.slice va l.length vc).ownBlock.toList ++ [ob]) A (w4.setCell ⟨ob, 0, none⟩ (.slice (some ⟨gb, 0, none⟩) (l.length + 1) gc)) := (hA.mono (fun k hk => .inl (List.mem_append_left _ hk))).setCell (.inl (by simp)) _
  have hL : ∀ k ∈ (Value.slice va l.length vc).ownBlock.toList ++ [ob], (B + 2 ≤ k ∧ k ∉ F') ∨ k = ob := fun k hk => by
    simp only [List.mem_append, Option.mem_toList, List.mem_singleton] at hk
    exact hk.imp (fun e => hfresh k e) id
  have hgb : (B + 2 ≤ gb ∧ gb ∉ F') := by
    rcases hf4 gb rfl with h1 | h1
    · exact hfresh gb h1
    · rw [World.size_alloc] at h1
      exact ⟨by omega, fun hk => by have := GIn.lt h.mem.gin gb hk; omega⟩
  have hnot : ∀ k ∈ m :: (X ++ F'), k ∉ (Value.slice va l.length vc).ownBlock.toList ++ [ob] := fun k hk hk2 => by
    have h1 := hsep k hk
    rcases hL k hk2 with h2 | h2
    · rcases h1 with h1 | h1
      · omega
      · exact h2.2 h1.1
    · omega
  refine ⟨Books.of_ch hA5 hz (fun k hk => by have := hL k hk; omega), ⟨h.sim, fun hz0 => ?_, by simp [h.len], fun q hq => ?_, h.mem.same hA5 (fun k hk => hnot k (by simp only [List.mem_cons, List.mem_append] at hk ⊢; rcases hk with e | e <;> simp [e])), h.ch.trans hA5 (fun k hk => .inr (by have := hL k hk; omega)), h.own, h.map, (h.ob.ch hA (fun hk => by have := (hfresh ob (by simpa using hk)).1; omega)).set (i := 0) _, (h.mb.ch hA (fun hk => by have := (hfresh mb (by simpa using hk)).1; omega)).other (by exact e.ne.symm) _, ?_, fun k hk => ?_⟩, fun K hK => Kept.of_ch hA5 (fun k hk => ?_)⟩
  · rw [hout hz0, h.out hz0]
  · simp only [List.mem_append, List.mem_singleton] at hq
    rcases hq with hq | rfl
    · exact h.all q hq
    · exact hr
  · rw [show refsCells (l ++ [r]) = refsCells l ++ [.int .i64 r] from by simp [refsCells], List.length_append]
    refine hrow.ch (F := [ob]) ((Ch.refl _ _).setCell (by simp) _) (fun k hk => ?_)
    cases hk
    simp; omega
  · cases hk
    exact hgb
  · have h4 := h.ch.size
    rcases hK k hk with ⟨h1, h2⟩ | ⟨h1, h2, h3⟩
    · refine ⟨by omega, fun hk2 => ?_⟩
      have := hL k hk2; omega
    · refine ⟨by omega, fun hk2 => ?_⟩
      have := hL k hk2; omega
theorem EI.done (h : EI w g m G X F B ob mb n R out A v P l F') (e : EF w m X F B ob mb) (o : Obj) : MVo w g m P X F v l (A.putObj B o) := by
  have ho := e.ob1; have ho2 := e.ob2
  have hcD : Ch [B] A (A.putObj B o) := ch_put (by simp)
  have hsep := h.sep e
  refine ⟨F', h.mem.same hcD (fun k hk => ?_), h.ch.trans hcD (fun k hk => by simp at hk; omega), fun k hk => (h.own k hk).imp id (fun e => by omega), h.map, h.row.ch hcD (fun k hk => by have := (h.fresh k hk).1; simp; omega), fun k hk => ?_⟩
  · have := hsep k (by simp only [List.mem_cons, List.mem_append] at hk ⊢; rcases hk with e | e <;> simp [e])
    simp; omega
  · obtain ⟨f1, f2⟩ := h.fresh k hk
    have := e.low m (by simp)
    exact ⟨by omega, f2, by omega⟩
end
theorem MVo.to {w w' : World} {g m : Nat} {P : Mk} {F : List Nat} {v : Value} {l : List Nat} (h : MVo w g m P [] F v l w') : MTo w g m P F w' := by
  obtain ⟨F', h1, h2, h3, h4, _⟩ := h
  exact ⟨F', h1, h2, h3, h4⟩
section
variable {w : World} {g m : Nat} {G : Gra} {X F : List Nat} {B ob mb : Nat} {R : Mk} {out : Nat} {A A' : World} {P : Mk} {r : Nat} {F' : List Nat}
end
def EIe (w : World) (g m : Nat) (G : Gra) (X F : List Nat) (B ob mb n : Nat) (R : Mk) (out : List Nat) (W : World) : Prop := ∃ v P l F', EI w g m G X F B ob mb n R out W v P l F'
theorem wp_named {P : Program} {c : Code} {Q : Exit → Act → World → Prop} {a : Act} {w : World} (h : ∀ W, W = w → c.wp P Q a W) : c.wp P Q a w := h w rfl
end Go.Proofs.YtehljgigebhddaaGreat
namespace Go.Proofs.YtehljgigebhddaaGreat
open Go.RowKit Go.Mem Go.Aig
attribute [local go_sem] Oper.semAt_some
section
variable {w : World} {g m : Nat} {G : Gra} {F : List Nat}
end
end Go.Proofs.YtehljgigebhddaaGreat
namespace Go.Aig
theorem rstep_zero {s : Mk} {R : Res} (h : (rstep s R).1.2 = 0) : s.2 = 0 := by
  by_cases hs : s.2 = 0
  · exact hs
  · rw [rstep_bad hs] at h; exact h
end Go.Aig
namespace Go.Proofs.YtehljgigebhddaaGreat
open Go.RowKit Go.Mem Go.Aig
attribute [local go_sem] Oper.semAt_some
section
variable {w : World} {g m : Nat} {G : Gra} {F : List Nat}
theorem And_r {F : List Nat} {G : Gra} (h : GIn w g G F) {a b : Nat} (ha : a < 2 * G.nodes.length) (hb : b < 2 * G.nodes.length) : Calls Tryz.prog 103 #[.pointer (some ⟨g, 0, none⟩), .int .i64 a, .int .i64 b] w fun e w' => e = .returned (.tuple #[.int .i64 (and G a b).2.1, .int .i64 (and G a b).2.2]) ∧ GTo w g (and G a b).1 F w' := by
  have hr := h.ok.room; have hm := h.ok.most
  have := And_g h a b (by omega) (by omega)
  rw [doAnd_r ha hb] at this
  exact this
structure ES (w : World) (g m : Nat) (G : Gra) (bc : Nat) (F : List Nat) (B ob mb n : Nat) (R : Mk × List Nat × Nat) (W : World) (v : Value) (P : Mk) (l F' : List Nat) (c : Nat) : Prop where
  ei : EI w g m G [bc] F B ob mb n R.1 R.2.1 W v P l F'
  cb : blk W bc [.int .i64 c]
  lt : c < 2 * P.1.nodes.length
  cR : R.1.2 = 0 → c = R.2.2
end
end Go.Proofs.YtehljgigebhddaaGreat
namespace Go.Aig
def neF (s : Mk) (l : List (Nat × Nat)) : Mk × Nat := sAny (eachF (rop rXor) s l).1 (eachF (rop rXor) s l).2
end Go.Aig
namespace Go.Proofs.YtehljgigebhddaaGreat
open Go.RowKit Go.Mem Go.Aig
attribute [local go_sem] Oper.semAt_some
theorem fnvsNe1 : Fnv 311 := fnv_of Tryz.func311 (by simp [Tryz.f311]) (by simp [Tryz.f311])
section
variable {w : World} {g m : Nat} {G : Gra} {F : List Nat}
set_option maxRecDepth 100000 in
set_option maxHeartbeats 4000000 in
theorem sNe1_is (h : MIn w g m (G, 0) F)
    {x y : List Nat} {xa ya : Option Addr} (len xc yc : Nat) (hxl : x.length = len) (hyl : y.length = len) (hlen : len ≤ 1000) {bx b2 bg : Nat} (hbx : w.cell? ⟨bx, 0, none⟩ = some (.slice xa len xc)) (hby : w.cell? ⟨b2, 0, none⟩ = some (.slice ya len yc)) (hbg : w.cell? ⟨bg, 0, none⟩ = some (.pointer (some ⟨g, 0, none⟩)))
    (hbgF : bg ∉ m :: F) (hx : Sl w xa (x.map fun (r : Nat) => (r : Int))) (hy : Sl w ya (y.map fun (r : Nat) => (r : Int))) (hxa : ∀ k ∈ ablk xa, k ∉ m :: F ∧ k < w.heap.size) (hya : ∀ k ∈ ablk ya, k ∉ m :: F ∧ k < w.heap.size)
    (hxr : ∀ r ∈ x, r < 2 * G.nodes.length) (hyr : ∀ r ∈ y, r < 2 * G.nodes.length) :
    Calls Tryz.prog 311 (#[.pointer (some ⟨m, 0, none⟩)] ++ #[.pointer (some ⟨bx, 0, none⟩), .pointer (some ⟨b2, 0, none⟩), .pointer (some ⟨bg, 0, none⟩)]) w fun e W' => ∃ (P : Mk) (r : Nat), e = .returned (.int .i64 r) ∧ Sim G P (neF (G, 0) (x.zip y)).1 ∧ ((neF (G, 0) (x.zip y)).1.2 = 0 → r = (neF (G, 0) (x.zip y)).2) ∧ MTo w g m P F W' := by
  show Calls Tryz.prog 311 #[.pointer (some ⟨m, 0, none⟩), .pointer (some ⟨bx, 0, none⟩), .pointer (some ⟨b2, 0, none⟩), .pointer (some ⟨bg, 0, none⟩)] w _
  have hml := h.bk.lt
  have hFl := h.gin.lt
  have hok := h.gin.ok
  have hbflt := cell_lt hbg
  have hbxlt := cell_lt hbx
  have hbylt := cell_lt hby
  simp only at hbflt hbxlt hbylt
  have HPAIR := fun W => spairs_is (w := W) xa ya len xc len yc
  have H := Lib.hid h; clear h
  have HX := Lib.hid hx; clear hx
  have HY := Lib.hid hy; clear hy
  refine (callsIn_wide (n := 4)).1 ?_
  refine callsIn_of_wp_marks Tryz.func311 rfl trivial ?_ rfl
  simp only [Tryz.ntmps311, List.size_toArray, List.length_cons, List.length_nil, Nat.reduceAdd, Nat.reduceSub, Array.replicate_succ, Array.replicate_zero, List.push_toArray, List.append_toArray, List.nil_append, List.cons_append]
  refine wpIn_wide.2 ?_
  go_wp2_with fail
  refine (HPAIR _).mono ?_
  rintro e w' ⟨rfl, rfl⟩
  go_wp2_with fail
  refine wp_named fun W0 hW0 => ?_
  have hc0 : Ch [] w W0 := by rw [hW0]; exact ((((Ch.refl _ _).alloc _).alloc _).alloc _).alloc _
  have hz0 : W0.heap.size = w.heap.size + 4 := by rw [hW0]; simp
  have hbm : blk W0 w.heap.size [.pointer (some ⟨m, 0, none⟩)] := by rw [hW0]; exact (((blk.new' _ _ (by simp)).alloc _).alloc _).alloc _
  have hbo : blk W0 (w.heap.size + 1) [.slice none 0 0] := by rw [hW0]; exact ((blk.new' _ _ (by simp)).alloc _).alloc _
  have hb2 : blk W0 (w.heap.size + 2) [.slice xa len xc] := by rw [hW0]; exact (blk.new' _ _ (by simp)).alloc _
  have hb3 : blk W0 (w.heap.size + 3) [.slice ya len yc] := by rw [hW0]; exact blk.new' _ _ (by simp)
  clear hW0
  have hEF : EF w m [] F (w.heap.size + 4) (w.heap.size + 1) w.heap.size := ⟨fun k hk => by
    simp only [List.mem_cons, List.nil_append] at hk
    rcases hk with rfl | hk
    · exact hml
    · exact hFl k hk, by omega, by omega, by omega, by omega, by omega, by simp, by simp⟩
  refine (wpIn_wide (n := 4)).1 ?_
  have hseq := spairs_seq W0 Fence.wide 3 trivial rfl (by omega) len xc yc hxl hyl (hb2.cell (i := 0) rfl) (hb3.cell (i := 0) rfl) (HX.out.keep fun k hk => hc0.block k (hxa k hk).2 (by simp)) (HY.out.keep fun k hk => hc0.block k (hya k hk).2 (by simp))
  have hKok : Kok w m [] F (w.heap.size + 4) (w.heap.size + 1) ((w.heap.size + 2) :: (w.heap.size + 3) :: (ablk xa ++ ablk ya)) := fun k hk => by
    simp only [List.mem_cons, List.mem_append] at hk
    rcases hk with rfl | rfl | hk | hk
    · exact .inr ⟨by omega, by omega, by omega⟩
    · exact .inr ⟨by omega, by omega, by omega⟩
    · exact .inl ⟨(hxa k hk).2, (hxa k hk).1⟩
    · exact .inl ⟨(hya k hk).2, (hya k hk).1⟩
  refine wpIn_rangeFunc_P (n := 4) (w.heap.size + 4) hz0 rfl (by omega) rfl trivial (fun args w => sfnvpairs1 args w) hseq ?kb (fun _ => rfl)
    (fun pre W => EIe w g m G [] F (w.heap.size + 4) (w.heap.size + 1) w.heap.size pre.length (eachF (rop rXor) (G, 0) pre).1 (eachF (rop rXor) (G, 0) pre).2 W)
    (fun _ => False) ?hi (fun _ _ h _ => h) ?h0 ?a1 ?assign ?body ?done (fun _ h _ _ => h.elim)
  case assign =>
    intro q x W K hK
    simp only [pairEnc]
    gi_wp2
    exact hK
  case kb =>
    intro k hk
    simp only [List.mem_cons, List.mem_append] at hk
    rcases hk with rfl | rfl | hk | hk
    · omega
    · omega
    · have := (hxa k hk).2; omega
    · have := (hya k hk).2; omega
  case hi =>
    rintro pre A A' ⟨v, P, l, F', h⟩ hc
    exact ⟨v, P, l, F', h.same hEF hc⟩
  case h0 =>
    refine ⟨.slice none 0 0, (G, 0), [], F, Sim.start hok, fun _ => rfl, rfl, by simp, H.out.same hc0 (by simp), hc0.mono (by simp), fun k hk => .inl hk, rfl, hbo, hbm, ⟨rfl, .inl ⟨rfl, rfl⟩⟩, by simp [Value.ownBlock]⟩
  case body =>
    rintro q pre ⟨a, b⟩ W ⟨v, P, l, F', hE⟩ hWl hpx
    obtain ⟨va, vc, rfl⟩ := row.shape hE.row
    have hpm := List.IsPrefix.subset hpx (List.mem_append_right pre (List.mem_singleton.2 rfl))
    obtain ⟨ha0, hb0⟩ := zip_lt hxr hyr _ hpm
    have ha := hE.sim.ext.lt ha0
    have hb := hE.sim.ext.lt hb0
    have hst := hE.sim.step (rXor_full hE.mem.gin.ok ha hb) (fun _ e => by rw [e])
    obtain ⟨Q, hQ⟩ : ∃ Q, Q = rXor P.1 a b := ⟨_, rfl⟩
    rw [← hQ] at hst
    have HQ := Lib.hid hQ; clear hQ
    have hln : l.length ≤ 1000 := by
      have h1 := hE.len
      have h2 := hpx.length_le
      rw [List.length_append, List.length_zip] at h2
      simp at h2
      omega
    have hbo := hE.ob
    have hbm := hE.mb
    have hbk := hE.mem.bk
    have hsep := hE.sep hEF
    have HE := Lib.hid hE; clear hE
    have HPX := Lib.hid hpx; clear hpx
    have HST := Lib.hid hst; clear hst
    have HSEP := Lib.hid hsep; clear hsep
    have HA := Lib.hid ha; clear ha
    have HB := Lib.hid hb; clear hb
    clear hpm ha0 hb0 hb2 hb3 hseq HPAIR
    gi_wp2
    refine Ord.St.doorR (fun w' => w'.cell? ⟨w.heap.size + 1, 0, none⟩ = some (.slice va l.length vc)) [.ho, .rd, .fl, .fl, .ef, .ef, .ef, .ef] [0, 0, 0, 0, 14, 30, 63, 127] [0, 1, 2, 3, 4, 5, 6, 7] mixed (by kernel_rfl) (by kernel_rfl) rfl ?_
    obtain ⟨Wc, hWc⟩ : ∃ Wc, Wc = W.drew := ⟨_, rfl⟩
    rw [← hWc]
    have hcur : Ch [] W Wc := by rw [hWc]; exact (Ch.refl _ _).drew
    clear hWc
    have hE := HE.out.ch0 hEF hcur
    have hWc : w.heap.size + 4 + 2 ≤ Wc.heap.size := Nat.le_trans hWl hcur.size
    have hbo := hE.ob
    have hbm := hE.mb.cell (i := 0) rfl
    have HFC := sxor_is hE.mem HA.out HB.out
    have HE := Lib.hid hE; clear hE
    have HCUR := Lib.hid hcur; clear hcur
    rw [← HQ.out] at HFC
    refine Ord.St.ho2 (T' := ?_) 0 [1, 2, 3, 4, 5, 6, 7] _ _ rfl (by kernel_rfl) rfl rfl rfl rfl ?_ (fun K w' hw' hk => ?_) ?_
    rotate_left
    · exact hbo.cell rfl
    · have q1 := hw'; go_step; exact hk
    refine Ord.St.rd2 (T' := ?_) 1 [2, 3, 4, 5, 6, 7] _ _ rfl (by kernel_rfl) rfl rfl rfl rfl (fun K hk => ?_) ?_
    rotate_left
    · go_step; exact hk
    refine Ord.St.fl2 (T' := ?_) 2 [3, 4, 5, 6, 7] _ _ rfl (by kernel_rfl) rfl rfl rfl rfl (fun K w' hk => ?_) ?_
    rotate_left
    · go_step; exact hk
    refine Ord.St.fl2 (T' := ?_) 3 [4, 5, 6, 7] _ _ rfl (by kernel_rfl) rfl rfl rfl rfl (fun K w' hk => ?_) ?_
    rotate_left
    · go_step; exact hk
    refine Ord.St.efC 4 [5, 6, 7] _ rfl (by kernel_rfl) (fun K hK => ?_)
    go_wp2_with fail
    refine HFC.mono ?_
    rintro e w2 ⟨rfl, F1', hmt, hcm, hFm, hmm⟩
    obtain ⟨k1, k2, k3⟩ := HE.out.more hEF hWc hmt hcm hFm hmm HST.out.1 HST.out.2.2.2.2.1 HST.out.2.2.2.2.2.2
    have hz2 : w.heap.size + 4 + 2 ≤ w2.heap.size := Nat.le_trans hWc hcm.size
    have hrow3 := k2.row.ch ((Ch.refl [] w2).alloc (.cells #[.int .i64 (mput P Q).2] 52)) (by simp)
    have hnew3 : blk (w2.alloc (.cells #[.int .i64 (mput P Q).2] 52)) w2.heap.size [.int .i64 (mput P Q).2] := blk.new' _ _ rfl
    replace hbo := k2.ob
    have HROW3 := Lib.hid hrow3; clear hrow3
    have HNEW3 := Lib.hid hnew3; clear hnew3
    have HE2 := Lib.hid k2; clear k2
    have HB2 := Lib.hid k1; clear k1
    have HK2 := Lib.hid k3; clear k3
    clear HFC hbm hcm hFm hmm hmt
    go_wp2_with fail
    refine ⟨rfl, hK _ _ ?_ ?_⟩
    · exact hbo.cell rfl
    clear hK K
    refine Ord.St.efC 5 [6, 7] _ rfl (by kernel_rfl) (fun K hK => ?_)
    go_wp2_with fail
    replace hbo := hbo.alloc (.cells #[.int .i64 (mput P Q).2] 52)
    skip
    refine ⟨rfl, hK _ _ ?_ ?_⟩
    · exact hbo.cell rfl
    clear hK K
    refine Ord.St.ef 6 [7] _ rfl (by kernel_rfl) (fun K hK => ?_)
    go_wp2_with (at_builtin; go_loud (refine wpList_append_row slRefs rfl _ _ rfl (v := .slice va l.length vc) (n := l.length) (xs := refsCells l) rfl HROW3.out (ad := ⟨w2.heap.size, 0, none⟩) (m := 1) (c := 1) (news := [.int .i64 (mput P Q).2]) rfl rfl (news_blk HNEW3.out) (by simp [Value.oneCell']) (by omega) (by omega) ?_; intro v' w4 hown4 hC4 hf4; obtain ⟨gb, gc, rfl⟩ := row.parts hown4 (by omega); have HO4 := Lib.hid hown4; clear hown4; have HC4 := Lib.hid hC4; clear hC4; have HF4 := Lib.hid hf4; clear hf4))
    replace hbo := hbo.ch HC4.out (fun hk => by have := (HE2.out.fresh _ (by simpa using hk)).1; omega)
    have k1 := hbo.cell (i := 0) rfl
    have k2 := hbo.frozen (i := 0)
    refine ⟨rfl, hK _ _ ?_⟩; clear hK K
    refine Ord.St.ef 7 [] _ rfl (by kernel_rfl) (fun K hK => ?_)
    go_wp2_with fail
    refine ⟨rfl, hK _ _ ?_⟩; clear hK K
    refine Ord.St.nil ?_
    gi_wp2
    obtain ⟨p1, p2, p3⟩ := HE2.out.app hEF hz2 HO4.out HC4.out HF4.out (r := (mput P Q).2) HST.out.2.1 (out' := (eachF (rop rXor) (G, 0) pre).2 ++ [(rop rXor (eachF (rop rXor) (G, 0) pre).1 a b).2]) (fun hz0 => by rw [HST.out.2.2.2.1 hz0]; rfl)
    refine ⟨((Books.of_ch HCUR.out hWl (by simp)).trans HB2.out).trans p1, ⟨_, _, _, _, by rw [eachF_snoc]; exact p2⟩, (((hKok.ch0 (by omega) hWl HCUR.out).trans (HK2.out _ hKok)).trans (p3 _ hKok))⟩
  case done =>
    rintro W ⟨v, P, l, F', hE⟩ hK hWl
    obtain ⟨va, vc, rfl⟩ := row.shape hE.row
    have hall := hE.all
    have hln : l.length ≤ 1000 := by have := hE.len; rw [List.length_zip] at this; omega
    have hbg2 : W.cell? ⟨bg, 0, none⟩ = some (.pointer (some ⟨g, 0, none⟩)) := (hE.ch.cell (p := ⟨bg, 0, none⟩) hbflt (by simpa using hbgF)).trans hbg
    have hst := hE.sim.step (rAny_full hE.mem.gin.ok hall) (Y := rAny (eachF (rop rXor) (G, 0) (x.zip y)).1.1 (eachF (rop rXor) (G, 0) (x.zip y)).2) (fun h0 e => by rw [hE.out h0, e])
    obtain ⟨Q, hQ⟩ : ∃ Q, Q = rAny P.1 l := ⟨_, rfl⟩
    rw [← hQ] at hst
    have HQ := Lib.hid hQ; clear hQ
    have hbo := hE.ob
    have hbm := hE.mb
    have hbk := hE.mem.bk
    have HALL := Lib.hid hall; clear hall
    have HE := Lib.hid hE; clear hE
    have HK := Lib.hid hK; clear hK
    have HST := Lib.hid hst; clear hst
    clear hb2 hb3 hseq
    go_wp2_with fail
    refine Ord.St.door (fun w' => w'.cell? ⟨w.heap.size, 0, none⟩ = some (.pointer (some ⟨m, 0, none⟩))) [.ho, .rd, .rd, .ef, .fl, .fl, .ef, .fl] [0, 0, 0, 6, 14, 14, 63, 127] [0, 1, 2, 3, 4, 5, 6, 7] mixed (by kernel_rfl) rfl ?_
    obtain ⟨Wc, hWc⟩ : ∃ Wc, Wc = W.drew := ⟨_, rfl⟩
    rw [← hWc]
    have hcur : Ch [] W Wc := by rw [hWc]; exact (Ch.refl _ _).drew
    clear hWc
    have hE := HE.out.ch0 hEF hcur
    have hK2 : Wc.heap[w.heap.size + 4]? = some (.deferred (some [])) := (hcur.block _ (Array.getElem?_eq_some_iff.1 HK.out).1 (by simp)).trans HK.out
    have hWl2 : w.heap.size + 4 + 2 ≤ Wc.heap.size := Nat.le_trans hWl hcur.size
    have hbm := hE.mb
    have hbk := hE.mem.bk
    have hbo2 := hE.ob.cell (i := 0) rfl
    have hbg3 := (hcur.cell (cell_lt hbg2) (by simp)).trans hbg2
    have hroom := hE.mem.gin.ok.room
    have hmost := hE.mem.gin.ok.most
    have HANY := Any_g hE.mem.gin (l := l.map fun (r : Nat) => (r : Int)) l.length vc (by simp) (Sl.of_row' hE.row rfl (by omega)) (by intro x hx; obtain ⟨r, hr, rfl⟩ := List.mem_map.1 hx; have := HALL.out r hr; omega) (fun p hp => ⟨(hE.row.lt p.block (by rw [hp]; rfl)).2, (hE.fresh p.block (by rw [hp]; rfl)).2⟩)
    rw [doAny_r HALL.out, ← HQ.out] at HANY
    have hsep := hE.sep hEF
    have HE := Lib.hid hE; clear hE
    have HK := Lib.hid hK2; clear hK2
    have HSEP := Lib.hid hsep; clear hsep
    clear hroom hmost hcur hbg2
    refine Ord.St.ho2 (T' := ?_) 0 [1, 2, 3, 4, 5, 6, 7] _ _ rfl (by kernel_rfl) rfl rfl rfl rfl ?_ (fun K w' hw' hk => ?_) ?_
    rotate_left
    · exact hbm.cell rfl
    · have q1 := hw'; go_step; exact hk
    refine Ord.St.rd2 (T' := ?_) 1 [2, 3, 4, 5, 6, 7] _ _ rfl (by kernel_rfl) rfl rfl rfl rfl (fun K hk => ?_) ?_
    rotate_left
    · go_step; exact hk
    refine Ord.St.rd2 (T' := ?_) 2 [3, 4, 5, 6, 7] _ _ rfl (by kernel_rfl) rfl rfl rfl rfl (fun K hk => ?_) ?_
    rotate_left
    · go_step; exact hk
    refine Ord.St.efC 3 [4, 5, 6, 7] _ rfl (by kernel_rfl) (fun K hK => ?_)
    go_wp2_with fail
    refine HANY.mono ?_
    rintro e w1 ⟨rfl, F1, hg1, hc1, hF1, hm1⟩
    replace hbm := hbm.ch hc1 (fun hk => by have := HSEP.out _ (by simp only [List.mem_cons, List.nil_append]; exact .inr hk); omega)
    replace hbk := hbk.ch hc1 HE.out.mem.apart
    have HPUT := sput_is hbk Q.2.1 Q.2.2
    clear hbg3 HANY
    go_wp2_with fail
    refine ⟨rfl, hK _ _ ?_ ?_⟩
    · exact hbm.cell rfl
    clear hK K
    refine Ord.St.fl2 (T' := ?_) 4 [5, 6, 7] _ _ rfl (by kernel_rfl) rfl rfl rfl rfl (fun K w' hk => ?_) ?_
    rotate_left
    · go_step; exact hk
    refine Ord.St.fl2 (T' := ?_) 5 [6, 7] _ _ rfl (by kernel_rfl) rfl rfl rfl rfl (fun K w' hk => ?_) ?_
    rotate_left
    · go_step; exact hk
    refine Ord.St.ef 6 [7] _ rfl (by kernel_rfl) (fun K hK => ?_)
    go_wp2_with fail
    refine HPUT.mono ?_
    rintro e w2 ⟨rfl, hbk2, hc2⟩
    obtain ⟨F1', hmt, hcm, hFm, hmm⟩ := MTo.of (P' := (mput P Q).1) HE.out.mem ⟨F1, hg1, hc1, hF1, hm1⟩ (fun _ => hbk2) hc2
    obtain ⟨k1, k2, k3⟩ := HE.out.more hEF hWl2 hmt hcm hFm hmm HST.out.1 HST.out.2.2.2.2.1 HST.out.2.2.2.2.2.2
    have hK2 := k1.1.trans HK.out
    have HE2 := Lib.hid k2; clear k2
    have HK2 := Lib.hid hK2; clear hK2
    clear HPUT hbk hbm hg1 hc1 hF1 hm1 hc2 hbk2 hcm hFm hmm hmt k1 k3
    go_wp2_with fail
    refine ⟨rfl, hK _ _ ?_⟩; clear hK K
    refine Ord.St.fl2 (T' := ?_) 7 [] _ _ rfl (by kernel_rfl) rfl rfl rfl rfl (fun K w' hk => ?_) ?_
    rotate_left
    · go_step; exact hk
    refine Ord.St.nil ?_
    go_wp2
    refine ⟨by simp, .inl ⟨_, _, rfl, run_takeDeferred HK2.out, ?_⟩⟩
    refine ⟨_, results_tmp rfl _ _ _, (mput P Q).1, (mput P Q).2, rfl, HST.out.1, fun h0 => HST.out.2.2.2.1 h0, (HE2.out.done hEF _).to⟩
end
end Go.Proofs.YtehljgigebhddaaGreat
namespace Go.Aig
end Go.Aig
namespace Go.Proofs.YtehljgigebhddaaGreat
open Go.RowKit Go.Mem Go.Aig
attribute [local go_sem] Oper.semAt_some
section
variable {w : World} {g m : Nat} {G : Gra} {F : List Nat}
end
end Go.Proofs.YtehljgigebhddaaGreat
namespace Go.Aig
theorem inF_succ (s : Mk) (n : Nat) : inF s (n + 1) = inS (inF s n) := rfl
end Go.Aig
namespace Go.Proofs.YtehljgigebhddaaGreat
open Go.RowKit Go.Mem Go.Aig
theorem fnvsInput1 : Fnv 174 := fnv_of Tryz.func174 (by simp [Tryz.f174]) (by simp [Tryz.f174])
theorem MVo.step {w W w2 w4 : World} {g m : Nat} {P' : Mk} {X F F' F1 : List Nat} {va : Option Addr} {vc : Nat} {l : List Nat} (hlow : ∀ k ∈ m :: (X ++ F), k < w.heap.size)
    (hc : Ch (m :: (X ++ F)) w W) (hF' : ∀ k ∈ F', k ∈ F ∨ w.heap.size ≤ k) (hmap : F'[2]? = F[2]?) (hrow0 : row W 52 1 (.slice va l.length vc) l.length (refsCells l)) (hfr : ∀ k, (Value.slice va l.length vc).ownBlock = some k → w.heap.size ≤ k ∧ k ∉ F' ∧ k ≠ m)
    (k1 : MIn w2 g m P' F1) (k2 : Ch (m :: F') W w2) (k3 : ∀ k ∈ F1, k ∈ F' ∨ W.heap.size ≤ k) (k4 : F1[2]? = F'[2]?) {r gb gc : Nat} {o : Obj} (hrow : row w4 52 1 (.slice (some ⟨gb, 0, none⟩) (l.length + 1) gc) (l.length + 1) (refsCells l ++ [.int .i64 r]))
    (hc4 : Ch (Value.slice va l.length vc).ownBlock.toList (w2.alloc o) w4) (hf4 : ∀ k, (Value.slice (some ⟨gb, 0, none⟩) (l.length + 1) gc).ownBlock = some k → (Value.slice va l.length vc).ownBlock = some k ∨ (w2.alloc o).heap.size ≤ k) : MVo w g m P' X F (.slice (some ⟨gb, 0, none⟩) (l.length + 1) gc) (l ++ [r]) w4 := by
  have hcz := hc.size
  have hkz := k2.size
  have hmlow := hlow m (by simp)
  have hown : ∀ k, (Value.slice va l.length vc).ownBlock = some k → k < W.heap.size ∧ w.heap.size ≤ k ∧ k ∉ F' ∧ k ≠ m := fun k hk => ⟨(hrow0.lt k hk).2, hfr k hk⟩
  have hF1 : ∀ k ∈ m :: F1, k ∉ (Value.slice va l.length vc).ownBlock.toList := fun k hk hk2 => by
    have h1 := hown k (by simpa using hk2)
    simp only [List.mem_cons] at hk
    rcases hk with e | hk
    · exact h1.2.2.2 e
    · rcases k3 k hk with e | e
      · exact h1.2.2.1 e
      · omega
  have hA : Ch (Value.slice va l.length vc).ownBlock.toList w2 w4 := ((Ch.refl _ w2).alloc o).trans hc4 (fun k hk => .inl hk)
  have hgb : w.heap.size ≤ gb ∧ gb ∉ F1 ∧ gb ≠ m := by
    rcases hf4 gb rfl with e | e
    · have h1 := hown gb e
      refine ⟨h1.2.1, fun hk => hF1 gb (by simp [hk]) (by simpa using e), h1.2.2.2⟩
    · rw [World.size_alloc] at e
      exact ⟨by omega, fun hk => by have := GIn.lt k1.gin gb hk; omega, by omega⟩
  refine ⟨F1, k1.same hA hF1, (hc.trans k2 (fun k hk => ?_)).trans hA (fun k hk => .inr (hown k (by simpa using hk)).2.1), fun k hk => ?_, k4.trans hmap, ?_, fun k hk => ?_⟩
  · simp only [List.mem_cons] at hk ⊢
    rcases hk with e | hk
    · exact .inl (.inl e)
    · rcases hF' k hk with e | e
      · exact .inl (.inr (List.mem_append_right _ e))
      · exact .inr e
  · rcases k3 k hk with e | e
    · exact hF' k e
    · exact .inr (by omega)
  · rw [show refsCells (l ++ [r]) = refsCells l ++ [.int .i64 r] from by simp [refsCells], List.length_append]
    exact hrow
  · cases hk
    exact hgb
section
variable {w : World} {g m : Nat} {G : Gra} {F : List Nat}
set_option maxRecDepth 100000 in
set_option maxHeartbeats 4000000 in
theorem sInput1_is (h : MIn w g m (G, 0) F) {bw bg n : Nat} (hn : n ≤ 1000) (hbw : w.cell? ⟨bw, 0, none⟩ = some (.int .i64 n)) (hbg : w.cell? ⟨bg, 0, none⟩ = some (.pointer (some ⟨g, 0, none⟩))) (hbgF : bg ∉ m :: F) :
    Calls Tryz.prog 174 (#[.pointer (some ⟨m, 0, none⟩)] ++ #[.pointer (some ⟨bw, 0, none⟩), .pointer (some ⟨bg, 0, none⟩)]) w fun e W' => ∃ v P l, e = .returned v ∧ Sim G P (inF (G, 0) n).1 ∧ ((inF (G, 0) n).1.2 = 0 → l = (inF (G, 0) n).2) ∧ MVo w g m P [] F v l W' := by
  show Calls Tryz.prog 174 #[.pointer (some ⟨m, 0, none⟩), .pointer (some ⟨bw, 0, none⟩), .pointer (some ⟨bg, 0, none⟩)] w _
  have hlow : ∀ k ∈ m :: ([] ++ F), k < w.heap.size := fun k hk => by
    simp only [List.nil_append, List.mem_cons] at hk
    rcases hk with rfl | hk
    · exact h.bk.lt
    · exact GIn.lt h.gin k hk
  have hbglt := cell_lt hbg
  have H := Lib.hid h; clear h
  go_enter Tryz.func174, Tryz.ntmps174
  go_wp2_with fail
  go_loopw [5, 7] (fun o i wr => ∃ (k : Nat) (P : Mk) (l : List Nat), k ≤ n ∧ i = .int .i64 k ∧ Sim G P (inF (G, 0) k).1 ∧ ((inF (G, 0) k).1.2 = 0 → l = (inF (G, 0) k).2) ∧ l.length = k ∧ MVo w g m P [] F o l wr) (fun _ i _ => n - (intOf i).toNat)
  case atStart => exact ⟨0, (G, 0), [], by omega, rfl, Sim.start H.out.gin.ok, fun _ => rfl, rfl, F, H.out, Ch.refl _ _, fun k hk => .inl hk, rfl, ⟨rfl, .inl ⟨rfl, rfl⟩⟩, by simp [Value.ownBlock]⟩
  case round =>
    obtain ⟨k, P, l, hk, rfl, hsim, hl, hlen, hmv⟩ := hrel
    obtain ⟨oa, oc, rfl⟩ := row.shape hmv.choose_spec.2.2.2.2.1
    by_cases hlt : k < n
    · obtain ⟨F', hm, hc, hF', hmap, hrow, hfr⟩ := hmv
      have hst := hsim.step (put_full hm.gin.ok) (Y := put (inF (G, 0) k).1.1 ⟨2, 0, 0, 0⟩) (fun _ e => by rw [e])
      have hcg := (hc.cell (p := ⟨bg, 0, none⟩) hbglt (by simpa using hbgF)).trans hbg
      have HI := Input_g hm.gin
      unfold doInput at HI
      obtain ⟨Q, hQ⟩ : ∃ Q, Q = put P.1 ⟨2, 0, 0, 0⟩ := ⟨_, rfl⟩
      rw [← hQ] at HI hst
      have hbk := hm.bk
      have HST := Lib.hid hst; clear hst hQ
      have HSIM := Lib.hid hsim; clear hsim
      have HL := Lib.hid hl; clear hl
      have HM := Lib.hid hm; clear hm
      have HC := Lib.hid hc; clear hc
      have HF' := Lib.hid hF'; clear hF'
      have HMAP := Lib.hid hmap; clear hmap
      have HROW := Lib.hid hrow; clear hrow
      have HFR := Lib.hid hfr; clear hfr
      have HLOW := Lib.hid hlow; clear hlow
      have HLEN := Lib.hid hlen
      have hlen2 : l.length ≤ 1000 := by omega
      clear hlen
      go_wp2_with fail
      refine HI.mono ?_
      rintro e w1 ⟨rfl, F1, hg1, hc1, hF1, hm1⟩
      replace hbk := hbk.ch hc1 HM.out.apart
      have HPUT := sput_is hbk Q.2.1 Q.2.2
      clear HI hcg
      go_wp2_with fail
      refine HPUT.mono ?_
      rintro e w2 ⟨rfl, hbk2, hc2⟩
      obtain ⟨F1', hmt, hcm, hFm, hmm⟩ := MTo.of (P' := (mput P Q).1) HM.out ⟨F1, hg1, hc1, hF1, hm1⟩ (fun _ => hbk2) hc2
      have hrow3 := (HROW.out.ch hcm (fun k hk => by have h1 := HFR.out k hk; simp only [List.mem_cons, not_or]; exact ⟨h1.2.2, h1.2.1⟩)).ch ((Ch.refl [] w2).alloc (.cells #[.int .i64 Q.2.1] 52)) (by simp)
      have hnew3 : blk (w2.alloc (.cells #[.int .i64 Q.2.1] 52)) w2.heap.size [.int .i64 Q.2.1] := blk.new' _ _ rfl
      have HROW3 := Lib.hid hrow3; clear hrow3
      have HNEW3 := Lib.hid hnew3; clear hnew3
      have HMT := Lib.hid hmt; clear hmt
      have HCM := Lib.hid hcm; clear hcm
      have HFM := Lib.hid hFm; clear hFm
      have HMM := Lib.hid hmm; clear hmm
      clear HPUT hbk hg1 hc1 hF1 hm1 hbk2 hc2
      go_wp2_with (at_builtin; go_loud (refine wpList_append_row slRefs rfl _ _ rfl (v := .slice oa l.length oc) (n := l.length) (xs := refsCells l) rfl HROW3.out (ad := ⟨w2.heap.size, 0, none⟩) (m := 1) (c := 1) (news := [.int .i64 Q.2.1]) rfl rfl (news_blk HNEW3.out) (by simp [Value.oneCell']) (by omega) (by omega) ?_; intro v' w4 hown4 hC4 hf4; obtain ⟨gb, gc, rfl⟩ := row.parts hown4 (by omega); have HO4 := Lib.hid hown4; clear hown4; have HC4 := Lib.hid hC4; clear hC4; have HF4 := Lib.hid hf4; clear hf4))
      go_roundw
      case rel =>
        refine ⟨k + 1, (mput P Q).1, l ++ [Q.2.1], by omega, by go_num, HST.out.1, fun h0 => ?_, by simp [HLEN.out], MVo.step HLOW.out HC.out HF'.out HMAP.out HROW.out HFR.out HMT.out HCM.out HFM.out HMM.out HO4.out HC4.out HF4.out⟩
        rw [HL.out (rstep_zero h0), show Q.2.1 = (mput P Q).2 from rfl, HST.out.2.2.2.1 h0]; rfl
      case measure => simp [intOf]; omega
    · have hkn : k = n := by omega
      subst hkn
      have HMV := Lib.hid hmv; clear hmv
      go_wp2_with fail
      go_ret
      exact ⟨.slice oa l.length oc, P, l, rfl, hsim, hl, HMV.out⟩
end
end Go.Proofs.YtehljgigebhddaaGreat
namespace Go.Aig
def nats (l : List Int) : List Nat := l.map Int.toNat
@[simp] theorem nats_len (l : List Int) : (nats l).length = l.length := by simp [nats]
def refG (G : Gra) (ws : List (List Int)) (R : Mk × Nat) : Res := if chk G ws ≠ 0 then (G, 0, chk G ws) else rres G R
theorem badIn_no {G : Gra} {x : List Int} (h : badIn G x = false) : (nats x).map (fun (r : Nat) => (r : Int)) = x ∧ ∀ r ∈ nats x, r < 2 * G.nodes.length := by
  unfold badIn at h
  rw [List.any_eq_false] at h
  have h1 : ∀ r ∈ x, 0 ≤ r ∧ r < 2 * G.nodes.length := fun r hr => by simpa [right] using h r hr
  clear h
  constructor
  · unfold nats
    rw [List.map_map]
    refine (List.map_congr_left (g := id) fun r hr => ?_).trans (List.map_id _)
    have := h1 r hr
    simp; omega
  · intro r hr
    obtain ⟨q, hq, rfl⟩ := List.mem_map.1 hr
    have := h1 q hq
    omega
structure ChkOk (G : Gra) (n : Nat) (x : List Int) : Prop where
  len : x.length = n
  r1 : 1 ≤ n
  r2 : n ≤ 17
  cast : (nats x).map (fun (r : Nat) => (r : Int)) = x
  lt : ∀ r ∈ nats x, r < 2 * G.nodes.length
theorem chk_ok {G : Gra} {x0 : List Int} {ws : List (List Int)} (h : chk G (x0 :: ws) = 0) : ∀ x ∈ x0 :: ws, ChkOk G x0.length x := by
  unfold chk at h
  split at h
  · cases h
  · rename_i h1
    split at h
    · cases h
    · rename_i h2
      intro x hx
      have h3 : badAs x0.length x = false := by
        have := List.any_eq_false.1 (by simpa using h1) x hx
        simpa using this
      have h4 : badIn G x = false := by
        have := List.any_eq_false.1 (by simpa using h2) x hx
        simpa using this
      unfold badAs rightW at h3
      simp at h3
      obtain ⟨⟨a1, a2⟩, a3⟩ := h3
      obtain ⟨b1, b2⟩ := badIn_no h4
      exact ⟨by omega, by omega, by omega, b1, b2⟩
theorem chk_small (G : Gra) (ws : List (List Int)) : chk G ws ≤ 230 := by unfold chk; split; omega; split <;> omega
end Go.Aig
namespace Go.Proofs.YtehljgigebhddaaGreat
open Go.RowKit Go.Mem Go.Aig
theorem calls_named {P : Program} {f : FuncId} {args : Array Value} {w : World} {R : Ending → World → Prop} (h : ∀ W, W = w → Calls P f args W R) : Calls P f args w R := h w rfl
structure WVin (w : World) (F : List Nat) (x : WV) : Prop where
  ok : WVok w x
  apart : ∀ k ∈ ablk x.a, k ∉ F ∧ k < w.heap.size
theorem WVin.ch {w w' : World} {F : List Nat} {x : WV} (h : WVin w F x) (hc : Ch [] w w') : WVin w' F x := ⟨h.ok.ch hc (by simp), fun k hk => ⟨(h.apart k hk).1, Nat.lt_of_lt_of_le (h.apart k hk).2 hc.size⟩⟩
theorem GVo.since {w w1 w' : World} {g : Nat} {G : Gra} {X F : List Nat} {v : Value} {l : List Nat} (hc : Ch [] w w1) (h : GVo w1 g G X F v l w') : GVo w g G X F v l w' := by
  obtain ⟨F', h1, h2, h3, h4, h5, h6⟩ := h
  exact ⟨F', h1, (hc.mono (by simp)).trans h2 (fun k hk => .inl hk), fun k hk => (h3 k hk).imp id (fun e => Nat.le_trans hc.size e), h4, h5, fun k hk => ⟨Nat.le_trans hc.size (h6 k hk).1, (h6 k hk).2⟩⟩
theorem GTo.since {w w1 w' : World} {g : Nat} {G : Gra} {F : List Nat} (hc : Ch [] w w1) (h : GTo w1 g G F w') : GTo w g G F w' := by
  obtain ⟨F', h1, h2, h3, h4⟩ := h
  exact ⟨F', h1, (hc.mono (by simp)).trans h2 (fun k hk => .inl hk), fun k hk => (h3 k hk).imp id (fun e => Nat.le_trans hc.size e), h4⟩
theorem GVo.none {w w' : World} {g : Nat} {G : Gra} {F : List Nat} (h : GIn w g G F) (hc : Ch [] w w') : GVo w g G [] F (.slice none 0 0) [] w' :=
  GVo.nil (F' := F) (h.same hc (by simp)) (hc.mono (by simp)) (fun _ hk => .inl hk) rfl
theorem chk2_at {w : World} {g : Nat} {G : Gra} {F : List Nat} (h : GIn w g G F) {b : Nat} {x y : WV} (hb : blk w b [x.val, y.val]) (hx : WVok w x) (hy : WVok w y) :
    Calls Tryz.prog 309 #[.pointer (some ⟨g, 0, none⟩), .slice (some ⟨b, 0, none⟩) 2 2] w fun e w' => e = .returned (.int .i64 (chk G [x.l, y.l])) ∧ Ch [] w w' :=
  scheck_is h (ws := [x, y]) 2 2 rfl (by omega) (fun i z hz => by
    rcases i with _ | _ | i
    · cases hz; exact hb.cell rfl
    · cases hz; exact hb.cell rfl
    · cases hz) (fun z hz => by simp at hz; rcases hz with rfl | rfl; exact hx; exact hy)
section
variable {w : World} {g : Nat} {G : Gra} {F : List Nat}
end
end Go.Proofs.YtehljgigebhddaaGreat
namespace Go.Aig
def sumW (n : Nat) (s : Mk) (l : List (Nat × Nat)) (c : Nat) : Mk × List Nat := ((sumF n s l c).1, (sumF n s l c).2.1)
end Go.Aig
namespace Go.Proofs.YtehljgigebhddaaGreat
open Go.RowKit Go.Mem Go.Aig
section
variable {w : World} {g : Nat} {G : Gra} {F : List Nat}
set_option maxRecDepth 100000 in
set_option maxHeartbeats 2000000 in
theorem sNe_is (h : GIn w g G F) {x y : WV} (hx : WVin w F x) (hy : WVin w F y) :
    Calls Tryz.prog 242 #[.pointer (some ⟨g, 0, none⟩), x.val, y.val] w fun e w' => e = .returned (.tuple #[.int .i64 (refG G [x.l, y.l] (neF (G, 0) ((nats x.l).zip (nats y.l)))).2.1, .int .i64 (refG G [x.l, y.l] (neF (G, 0) ((nats x.l).zip (nats y.l)))).2.2]) ∧ GTo w g (refG G [x.l, y.l] (neF (G, 0) ((nats x.l).zip (nats y.l)))).1 F w' := by
  have hFl := h.lt
  have hxlen := hx.ok.len
  have hylen := hy.ok.len
  obtain ⟨xa, xl, xc⟩ := x
  obtain ⟨ya, yl, yc⟩ := y
  simp only [WV.val] at *
  unfold refG
  have hch := chk_ok (G := G) (x0 := xl) (ws := [yl])
  have hcs := chk_small G [xl, yl]
  generalize hR : neF (G, 0) ((nats xl).zip (nats yl)) = R
  generalize hc : chk G [xl, yl] = cc at *
  have hC : ∀ W, Ch [] w W → ∀ b, blk W b [.slice xa xl.length xc, .slice ya yl.length yc] → Calls Tryz.prog 309 #[.pointer (some ⟨g, 0, none⟩), .slice (some ⟨b, 0, none⟩) 2 2] W fun e w' => e = .returned (.int .i64 cc) ∧ Ch [] W w' := fun W hW b hb => by
    have := chk2_at (h.same hW (by simp)) (x := ⟨xa, xl, xc⟩) (y := ⟨ya, yl, yc⟩) hb (hx.ch hW).ok (hy.ch hW).ok
    rw [hc] at this
    exact this
  have HC := Lib.hid hC; clear hC
  have HCC := Lib.hid hc; clear hc
  have HX := Lib.hid hx; clear hx
  have HY := Lib.hid hy; clear hy
  have H := Lib.hid h; clear h
  have HCH := Lib.hid hch; clear hch
  generalize hWW : (if cc ≠ 0 then (G, 0, cc) else rres G R : Res) = WW
  have HWW := Lib.hid hWW; clear hWW
  have HR := Lib.hid hR; clear hR
  go_enter Tryz.func242, Tryz.ntmps242
  go_wp2_with fail
  refine calls_named fun W0 hW0 => ?_
  have hc0 : Ch [] w W0 := by rw [hW0]; exact ((((Ch.refl _ _).alloc _).alloc _).alloc _).alloc _
  have hbg : blk W0 w.heap.size [.pointer (some ⟨g, 0, none⟩)] := by rw [hW0]; exact (((blk.new' _ _ (by simp)).alloc _).alloc _).alloc _
  have hbx : blk W0 (w.heap.size + 1) [.slice xa xl.length xc] := by rw [hW0]; exact ((blk.new' _ _ (by simp)).alloc _).alloc _
  have hby : blk W0 (w.heap.size + 2) [.slice ya yl.length yc] := by rw [hW0]; exact (blk.new' _ _ (by simp)).alloc _
  have hbl : blk W0 (w.heap.size + 3) [.slice xa xl.length xc, .slice ya yl.length yc] := by rw [hW0]; exact blk.new' _ _ (by simp)
  clear hW0
  refine (HC.out W0 hc0 _ hbl).mono ?_
  rintro e w1 ⟨rfl, hc1⟩
  have HC01 := Lib.hid (hc0.trans hc1 (by simp))
  replace hbg := hbg.ch hc1 (by simp)
  have hbg0 := hbg.cell (i := 0) rfl
  have HBG := Lib.hid hbg; clear hbg
  replace hbx := hbx.ch hc1 (by simp)
  have hbx0 := hbx.cell (i := 0) rfl
  have HBX := Lib.hid hbx; clear hbx
  replace hby := hby.ch hc1 (by simp)
  have hby0 := hby.cell (i := 0) rfl
  have HBY := Lib.hid hby; clear hby
  clear hbl hc0 hc1
  by_cases hcc : cc = 0
  · subst hcc
    obtain ⟨h1, h2⟩ : (∃ _ : ChkOk G xl.length xl, ChkOk G xl.length yl) := ⟨HCH.out rfl xl (by simp), HCH.out rfl yl (by simp)⟩
    have hww := HWW.out
    rw [if_neg (by simp)] at hww
    have hB := sbuildR_is (H.out.same HC01.out (by simp)) 311 #[.pointer (some ⟨w.heap.size + 1, 0, none⟩), .pointer (some ⟨w.heap.size + 2, 0, none⟩), .pointer (some ⟨w.heap.size, 0, none⟩)] fnvsNe1 (neF (G, 0) ((nats xl).zip (nats yl))) (fun W m hm hW hM => by
      have hz1 := HC01.out.size
      have hall : Ch [] w W := HC01.out.trans hW (by simp)
      have hbgl := HBG.out.lt
      refine sNe1_is hM (x := nats xl) (y := nats yl) (xa := xa) (ya := ya) xl.length xc yc (by simp) (by simp [h2.len]) (by have := h1.r2; omega) ((HBX.out.ch hW (by simp)).cell (i := 0) rfl) (by
        have := (HBY.out.ch hW (by simp)).cell (i := 0) rfl
        rw [h2.len] at this
        exact this) ((HBG.out.ch hW (by simp)).cell (i := 0) rfl) (fun hk => by
        simp only [List.mem_cons] at hk
        rcases hk with e | e
        · omega
        · have := hFl _ e; omega) (by rw [h1.cast]; exact (HX.out.ok.sl.ch hall (by simp))) (by rw [h2.cast]; exact (HY.out.ok.sl.ch hall (by simp))) (fun k hk => ?_) (fun k hk => ?_) h1.lt h2.lt
      · have := HX.out.apart k hk
        refine ⟨fun hk2 => ?_, by have := hall.size; omega⟩
        simp only [List.mem_cons] at hk2
        rcases hk2 with e | e
        · omega
        · exact this.1 e
      · have := HY.out.apart k hk
        refine ⟨fun hk2 => ?_, by have := hall.size; omega⟩
        simp only [List.mem_cons] at hk2
        rcases hk2 with e | e
        · omega
        · exact this.1 e)
    rw [HR.out, hww] at hB
    have HB := Lib.hid hB; clear hB
    clear hww h1 h2
    go_wp2_with fail
    refine HB.out.mono ?_
    rintro e w2 ⟨rfl, hg⟩
    have HG := Lib.hid hg; clear hg
    go_wp2_with fail
    go_ret2
    exact ⟨rfl, GTo.since HC01.out HG.out⟩
  · have hww := HWW.out
    rw [if_pos (by simpa using hcc)] at hww
    subst hww
    have hq : ((cc : Int) != 0) = true := by simp; omega
    have HQ := Lib.hid hcc; clear hcc
    go_wp2_with fail
    go_ret2
    exact ⟨rfl, GTo.same H.out HC01.out⟩
end
end Go.Proofs.YtehljgigebhddaaGreat
namespace Go.Aig
structure SOk (G : Gra) (s : Mk) : Prop where
  ok : Ok s.1
  ext : Ext G s.1
  err : s.2 = 0 ∨ s.2 = 201
theorem SOk.start {G : Gra} (h : Ok G) : SOk G (G, 0) := ⟨h, .refl _, .inl rfl⟩
theorem rstep_sok {G : Gra} {s : Mk} (h : SOk G s) {Y : Res} (hY : s.2 = 0 → RFull s.1 Y) : SOk G (rstep s Y).1 ∧ (rstep s Y).2 < 2 * (rstep s Y).1.1.nodes.length ∧ Ext s.1 (rstep s Y).1.1 := by
  have hp := h.ok.wf.pos
  by_cases h0 : s.2 = 0
  · have hF := hY h0
    by_cases h1 : Y.2.2 = 0
    · rw [rstep_ok h0 h1]
      exact ⟨⟨hF.ok.ok, h.ext.trans hF.ok.ext, .inl rfl⟩, hF.ok.lt, hF.ok.ext⟩
    · rw [rstep_no h0 h1, hF.keep h1]
      exact ⟨⟨h.ok, h.ext, .inr rfl⟩, by show 0 < 2 * s.1.nodes.length; omega, .refl _⟩
  · rw [rstep_bad h0]
    exact ⟨h, by show 0 < 2 * s.1.nodes.length; omega, .refl _⟩
structure LOk (G : Gra) (R : Mk × List Nat) : Prop where
  s : SOk G R.1
  lt : ∀ r ∈ R.2, r < 2 * R.1.1.nodes.length
structure VOk (G : Gra) (R : Mk × Nat) : Prop where
  s : SOk G R.1
  lt : R.2 < 2 * R.1.1.nodes.length
theorem LOk.snoc {G : Gra} {R : Mk × List Nat} (h : LOk G R) {s' : Mk} {r : Nat} (hs : SOk G s') (he : Ext R.1.1 s'.1) (hr : r < 2 * s'.1.nodes.length) : LOk G (s', R.2 ++ [r]) :=
  ⟨hs, fun q hq => by
    rcases List.mem_append.1 hq with hq | hq
    · exact he.lt (h.lt q hq)
    · rw [List.mem_singleton.1 hq]; exact hr⟩
theorem eachF_lok {G : Gra} (hG : Ok G) {f : Gra → Nat → Nat → Res} (hf : Full2 f) (l : List (Nat × Nat)) (hl : ∀ p ∈ l, p.1 < 2 * G.nodes.length ∧ p.2 < 2 * G.nodes.length) : LOk G (eachF (rop f) (G, 0) l) := by
  have : ∀ (l : List (Nat × Nat)) (q : Mk × List Nat), LOk G q → (∀ p ∈ l, p.1 < 2 * G.nodes.length ∧ p.2 < 2 * G.nodes.length) → LOk G (l.foldl (eachS (rop f)) q) := by
    intro l
    induction l with
    | nil => intro q h _; exact h
    | cons p l ih =>
      intro q h hl
      have hp := hl p (by simp)
      obtain ⟨h1, h2, h3⟩ := rstep_sok h.s (Y := f q.1.1 p.1 p.2) (fun _ => hf _ h.s.ok _ _ (h.s.ext.lt hp.1) (h.s.ext.lt hp.2))
      exact ih _ (h.snoc h1 h3 h2) (fun p hp => hl p (by simp [hp]))
  exact this l _ ⟨.start hG, by simp⟩ hl
theorem neF_vok {G : Gra} (hG : Ok G) (l : List (Nat × Nat)) (hl : ∀ p ∈ l, p.1 < 2 * G.nodes.length ∧ p.2 < 2 * G.nodes.length) : VOk G (neF (G, 0) l) := by
  have h := eachF_lok hG full_xor l hl
  obtain ⟨h1, h2, h3⟩ := rstep_sok h.s (Y := rAny (eachF (rop rXor) (G, 0) l).1.1 (eachF (rop rXor) (G, 0) l).2) (fun _ => rAny_full h.s.ok h.lt)
  exact ⟨h1, h2⟩
theorem ltF_vok {G : Gra} (hG : Ok G) (l : List (Nat × Nat)) (hl : ∀ p ∈ l, p.1 < 2 * G.nodes.length ∧ p.2 < 2 * G.nodes.length) : VOk G (ltF (G, 0) l) := by
  have : ∀ (l : List (Nat × Nat)) (q : Mk × Nat), VOk G q → (∀ p ∈ l, p.1 < 2 * G.nodes.length ∧ p.2 < 2 * G.nodes.length) → VOk G (l.foldl ltS q) := by
    intro l
    induction l with
    | nil => intro q h _; exact h
    | cons p l ih =>
      intro q h hl
      have hp := hl p (by simp)
      obtain ⟨h1, h2, h3⟩ := rstep_sok h.s (Y := rXor q.1.1 p.1 p.2) (fun _ => rXor_full h.s.ok (h.s.ext.lt hp.1) (h.s.ext.lt hp.2))
      obtain ⟨k1, k2, k3⟩ := rstep_sok h1 (Y := rMux (rstep q.1 (rXor q.1.1 p.1 p.2)).1.1 (rstep q.1 (rXor q.1.1 p.1 p.2)).2 p.2 q.2) (fun _ => rMux_full h1.ok h2 (h1.ext.lt hp.2) (h3.lt h.lt))
      exact ih _ ⟨k1, k2⟩ (fun p hp => hl p (by simp [hp]))
  exact this l _ ⟨.start hG, by have := hG.wf.pos; show 0 < 2 * G.nodes.length; omega⟩ hl
theorem VOk.res {G : Gra} (hG : Ok G) {R : Mk × Nat} (h : VOk G R) : Ok (rres G R).1 ∧ Ext G (rres G R).1 ∧ (rres G R).2.1 < 2 * (rres G R).1.nodes.length := by
  have := hG.wf.pos
  unfold rres
  split
  · exact ⟨hG, .refl _, by show 0 < 2 * G.nodes.length; omega⟩
  · exact ⟨h.s.ok, h.s.ext, h.lt⟩
theorem refG_ok {G : Gra} (hG : Ok G) {ws : List (List Int)} {R : Mk × Nat} (h : chk G ws = 0 → VOk G R) : Ok (refG G ws R).1 ∧ Ext G (refG G ws R).1 ∧ (refG G ws R).2.1 < 2 * (refG G ws R).1.nodes.length := by
  have := hG.wf.pos
  unfold refG
  split
  · exact ⟨hG, .refl _, by show 0 < 2 * G.nodes.length; omega⟩
  · rename_i hc
    exact (h (by simpa using hc)).res hG
theorem chk_zip {G : Gra} {x y : List Int} (h : chk G [x, y] = 0) : ∀ p ∈ (nats x).zip (nats y), p.1 < 2 * G.nodes.length ∧ p.2 < 2 * G.nodes.length :=
  zip_lt (chk_ok h x (by simp)).lt (chk_ok h y (by simp)).lt
theorem Ok.small {G : Gra} (h : Ok G) : 2 * G.nodes.length ≤ 131072 := by have := h.room; have := h.most; omega
def negG (R : Res) : Res := if R.2.2 ≠ 0 then (R.1, 0, R.2.2) else (R.1, neg R.2.1, 0)
end Go.Aig
namespace Go.Aig
end Go.Aig
namespace Go.Proofs.YtehljgigebhddaaGreat
open Go.RowKit Go.Mem Go.Aig
section
variable {w : World} {g : Nat} {G : Gra} {F : List Nat}
set_option maxRecDepth 100000 in
set_option maxHeartbeats 2000000 in
theorem sEq_is (h : GIn w g G F) {x y : WV} (hx : WVin w F x) (hy : WVin w F y) :
    Calls Tryz.prog 147 #[.pointer (some ⟨g, 0, none⟩), x.val, y.val] w fun e w' => e = .returned (.tuple #[.int .i64 (negG (refG G [x.l, y.l] (neF (G, 0) ((nats x.l).zip (nats y.l))))).2.1, .int .i64 (negG (refG G [x.l, y.l] (neF (G, 0) ((nats x.l).zip (nats y.l))))).2.2]) ∧ GTo w g (negG (refG G [x.l, y.l] (neF (G, 0) ((nats x.l).zip (nats y.l))))).1 F w' := by
  have HE := sNe_is h hx hy
  have hlt : (refG G [x.l, y.l] (neF (G, 0) ((nats x.l).zip (nats y.l)))).2.1 ≤ 1000000 := by
    have h1 := refG_ok h.ok (ws := [x.l, y.l]) (R := neF (G, 0) ((nats x.l).zip (nats y.l))) (fun hc => neF_vok h.ok _ (chk_zip hc))
    have := h1.1.small
    omega
  generalize refG G [x.l, y.l] (neF (G, 0) ((nats x.l).zip (nats y.l))) = R at *
  obtain ⟨xa, xl, xc⟩ := x
  obtain ⟨ya, yl, yc⟩ := y
  simp only [WV.val] at *
  clear hx hy h
  have HN := fun W => Not_any R.2.1 W hlt
  unfold negG
  by_cases he : R.2.2 = 0
  · have hE := HE.mono (R' := fun e w' => e = .returned (.tuple #[.int .i64 R.2.1, .int .i64 0]) ∧ GTo w g R.1 F w') (by rintro e w' ⟨rfl, hg⟩; exact ⟨by rw [he]; rfl, hg⟩)
    rw [if_neg (by simp [he])]
    have HEE := Lib.hid he; clear he HE
    go_enter Tryz.func147, Tryz.ntmps147
    go_wp2_with fail
    refine hE.mono ?_
    rintro e w1 ⟨rfl, hg⟩
    have HG := Lib.hid hg; clear hg
    go_wp2_with fail
    refine (HN _).mono ?_
    rintro e w2 ⟨rfl, rfl⟩
    go_wp2_with fail
    go_ret2
    exact ⟨rfl, HG.out⟩
  · have hq : ((R.2.2 : Int) != 0) = true := by simp; omega
    rw [if_pos he]
    have HEE := Lib.hid he; clear he
    go_enter Tryz.func147, Tryz.ntmps147
    go_wp2_with fail
    refine HE.mono ?_
    rintro e w1 ⟨rfl, hg⟩
    have HG := Lib.hid hg; clear hg
    go_wp2_with fail
    go_ret2
    exact ⟨rfl, HG.out⟩
theorem run_make_refs (w : World) (n : Nat) (hn : n ≤ 1000000) : (Instr.makeSlice 45 (.int .i64 n) (.int .i64 n)).run Tryz.prog w = .ok (.slice (some ⟨w.heap.size, 0, none⟩) n n) (w.alloc (.cells (refsCells (List.replicate n 0)).toArray 52)) := by
  obtain ⟨i, hi, hz, hs, hb⟩ := info_parts infoRef
  have := run_make (P := Tryz.prog) w 45 52 i (.int .i64 0) Tryz.underlying45 hi hz .i64 .i64 n n (by omega) (by omega) (by rw [hb]; omega) (by omega)
  rw [this, hs]
  have e : madeCells (Value.int .i64 0).cells ((n : Int).toNat * 1) = (refsCells (List.replicate n 0)).toArray := by
    apply Array.ext'
    have h := toList_madeCells_one (Value.int .i64 0) ((n : Int).toNat * 1)
    simpa [refsCells, Value.cells] using h
  rw [e]; simp
end
end Go.Proofs.YtehljgigebhddaaGreat
namespace Go.Aig
end Go.Aig
namespace Go.Proofs.YtehljgigebhddaaGreat
open Go.RowKit Go.Mem Go.Aig
section
variable {w : World}
set_option maxRecDepth 100000 in
set_option maxHeartbeats 1000000 in
theorem Bit_is (x i : Nat) (hx : x < 4294967296) (hi : i < 32) : Calls Tryz.prog 172 #[.int .u32 x, .int .i64 i] w fun e w' => e = .returned (.bool (x.testBit i)) ∧ w = w' := by
  have h1 : decide ((0 : Int) ≤ i) = true := decide_eq_true (by omega)
  have h2 : decide ((i : Int) < 32) = true := decide_eq_true (by omega)
  go_enter Tryz.func172, Tryz.ntmps172
  go_wp2_with fail
  go_ret
  refine ⟨?_, rfl⟩
  have e : bits .and .u32 ((x : Int) / 2 ^ i) 1 = ((x / 2 ^ i % 2 : Nat) : Int) := by
    have h3 : x / 2 ^ i < 4294967296 := Nat.lt_of_le_of_lt (Nat.div_le_self _ _) hx
    have h4 := u32_and_nat (x / 2 ^ i) 1 h3 (by omega)
    rw [Nat.and_one_is_mod] at h4
    have h5 : ((x / 2 ^ i : Nat) : Int) = (x : Int) / 2 ^ i := by rw [Int.natCast_ediv]; simp
    rw [← h5]
    exact h4
  show Ending.returned (.bool (bits .and .u32 ((x : Int) / 2 ^ i) 1 == 1)) = _
  rw [e, Nat.testBit_eq_decide_div_mod_eq]
  rcases Nat.mod_two_eq_zero_or_one (x / 2 ^ i) with h3 | h3 <;> rw [h3] <;> rfl
end
end Go.Proofs.YtehljgigebhddaaGreat
namespace Go.Aig
def constL (x n : Nat) : List Nat := (List.range n).map fun i => (x.testBit i).toNat
def inG (G : Gra) (n : Int) : Gra × List Nat × Nat := if rightW n then wres G (inF (G, 0) n.toNat) else (G, [], 230)
theorem constL_succ (x n : Nat) : constL x (n + 1) = constL x n ++ [(x.testBit n).toNat] := by
  unfold constL
  rw [List.range_succ, List.map_append]; rfl
end Go.Aig
namespace Go.Proofs.YtehljgigebhddaaGreat
open Go.RowKit Go.Mem Go.Aig
section
variable {w : World}
def WNew (w : World) (v : Value) (xs : List Value) (w' : World) : Prop := row w' 52 1 v xs.length xs ∧ (∀ q ∈ v.ownBlock.toList, w.heap.size ≤ q) ∧ Ch [] w w'
theorem WNew.nil {w w' : World} (h : Ch [] w w') : WNew w (.slice none 0 0) [] w' := ⟨⟨rfl, .inl ⟨rfl, rfl⟩⟩, by simp, h⟩
set_option maxRecDepth 100000 in
set_option maxHeartbeats 2000000 in
theorem sConst_is (x : Nat) (hx : x < 4294967296) (n : Int) : Calls Tryz.prog 60 #[.int .u32 x, .int .i64 n] w fun e w' => ∃ v, e = .returned (.tuple #[v, .int .i64 (if rightW n then 0 else 230 : Nat)]) ∧ WNew w v (if rightW n then refsCells (constL x n.toNat) else []) w' := by
  have HR := sright_is (w := w) n
  cases hr : rightW n
  · rw [hr] at HR
    have H := Lib.hid hr; clear hr
    simp only [Bool.false_eq_true, if_false]
    go_enter Tryz.func60, Tryz.ntmps60
    go_wp2_with fail
    refine HR.mono ?_
    rintro e w' ⟨rfl, rfl⟩
    go_wp2_with fail
    go_ret2
    exact ⟨_, rfl, WNew.nil (Ch.refl _ _)⟩
  · rw [hr] at HR
    obtain ⟨k0, rfl, hk0⟩ : ∃ k0 : Nat, n = k0 ∧ k0 ≤ 17 := by
      unfold rightW at hr
      simp at hr
      exact ⟨n.toNat, by omega, by omega⟩
    have H := Lib.hid hr; clear hr
    simp only [if_true, Int.toNat_natCast]
    go_enter Tryz.func60, Tryz.ntmps60
    go_wp2_with fail
    refine HR.mono ?_
    rintro e w' ⟨rfl, rfl⟩
    clear HR
    go_wp2_with fail
    go_loopw [6, 13] (fun o i wr => ∃ k : Nat, k ≤ k0 ∧ i = .int .i64 k ∧ Ch [] w wr ∧ row wr 52 1 o k (refsCells (constL x k)) ∧ ∀ q ∈ o.ownBlock.toList, w.heap.size ≤ q) (fun _ i _ => k0 - (intOf i).toNat)
    case atStart => exact ⟨0, by omega, rfl, Ch.refl _ _, ⟨rfl, .inl ⟨rfl, rfl⟩⟩, by simp⟩
    case round =>
      obtain ⟨k, hk, rfl, hc, hrow, hlo⟩ := hrel
      obtain ⟨oa, oc, rfl⟩ := row.shape hrow
      by_cases hlt : k < k0
      · have HB := Bit_is (w := wr) x k hx (by omega)
        have hsu : refsCells (constL x (k + 1)) = refsCells (constL x k) ++ [.int .i64 ((x.testBit k).toNat : Nat)] := by rw [constL_succ]; simp [refsCells]
        have HSU := Lib.hid hsu; clear hsu
        have HC := Lib.hid hc; clear hc
        have HLO := Lib.hid hlo; clear hlo
        cases hb : x.testBit k
        · rw [hb] at HB HSU
          clear hb
          have hcA : Ch [] wr (wr.alloc (.cells #[.int .i64 0] 52)) := (Ch.refl _ _).alloc _
          have hrA := hrow.ch hcA (by simp)
          have hbA : blk (wr.alloc (.cells #[.int .i64 0] 52)) wr.heap.size [.int .i64 0] := blk.new' _ _ rfl
          have HRA := Lib.hid hrA; clear hrA hrow
          have HBA := Lib.hid hbA; clear hbA
          have HCA := Lib.hid hcA; clear hcA
          go_wp2_with fail
          refine HB.mono ?_
          rintro e w2 ⟨rfl, rfl⟩
          go_wp2_with (at_builtin; go_loud (refine wpList_append_row slRefs rfl _ _ rfl (v := .slice oa k oc) (n := k) (xs := refsCells (constL x k)) rfl HRA.out (ad := ⟨wr.heap.size, 0, none⟩) (m := 1) (c := 1) (news := [.int .i64 0]) rfl rfl (news_blk HBA.out) (by simp [Value.oneCell']) (by omega) (by omega) ?_; intro v' w4 hown4 hC4 hf4; have HO4 := Lib.hid hown4; clear hown4; have HC4 := Lib.hid hC4; clear hC4; have HF4 := Lib.hid hf4; clear hf4))
          go_roundw
          case rel =>
            obtain ⟨q1, q2⟩ := app_step HC.out HCA.out HLO.out HC4.out HF4.out
            refine ⟨k + 1, by omega, by go_num, q1, ?_, q2⟩
            rw [HSU.out]; exact HO4.out
          case measure => simp [intOf]; omega
        · rw [hb] at HB HSU
          clear hb
          have hcA : Ch [] wr (wr.alloc (.cells #[.int .i64 1] 52)) := (Ch.refl _ _).alloc _
          have hrA := hrow.ch hcA (by simp)
          have hbA : blk (wr.alloc (.cells #[.int .i64 1] 52)) wr.heap.size [.int .i64 1] := blk.new' _ _ rfl
          have HRA := Lib.hid hrA; clear hrA hrow
          have HBA := Lib.hid hbA; clear hbA
          have HCA := Lib.hid hcA; clear hcA
          go_wp2_with fail
          refine HB.mono ?_
          rintro e w2 ⟨rfl, rfl⟩
          go_wp2_with (at_builtin; go_loud (refine wpList_append_row slRefs rfl _ _ rfl (v := .slice oa k oc) (n := k) (xs := refsCells (constL x k)) rfl HRA.out (ad := ⟨wr.heap.size, 0, none⟩) (m := 1) (c := 1) (news := [.int .i64 1]) rfl rfl (news_blk HBA.out) (by simp [Value.oneCell']) (by omega) (by omega) ?_; intro v' w4 hown4 hC4 hf4; have HO4 := Lib.hid hown4; clear hown4; have HC4 := Lib.hid hC4; clear hC4; have HF4 := Lib.hid hf4; clear hf4))
          go_roundw
          case rel =>
            obtain ⟨q1, q2⟩ := app_step HC.out HCA.out HLO.out HC4.out HF4.out
            refine ⟨k + 1, by omega, by go_num, q1, ?_, q2⟩
            rw [HSU.out]; exact HO4.out
          case measure => simp [intOf]; omega
      · have hkn : k = k0 := by omega
        subst hkn
        have HROW := Lib.hid hrow; clear hrow
        have HLO := Lib.hid hlo; clear hlo
        have HC := Lib.hid hc; clear hc
        go_wp2_with fail
        go_ret2
        refine ⟨.slice oa k oc, rfl, ?_, HLO.out, HC.out⟩
        have := HROW.out
        simpa [refsCells, constL] using this
set_option maxRecDepth 100000 in
set_option maxHeartbeats 1000000 in
theorem Clref_w {x : WV} (h : WVok w x) (n : Nat) (hn : x.l.length = n) : Calls Tryz.prog 50 #[.slice x.a n x.c] w fun e w' => ∃ v, e = .returned v ∧ WNew w v (intCells x.l) w' := by
  obtain ⟨xa, xl, xc⟩ := x
  subst hn
  have hlen := h.len
  simp only at *
  cases xa with
  | none =>
    have hl : xl = [] := by
      cases xl with
      | nil => rfl
      | cons y l =>
        obtain ⟨b, o, e, _⟩ := h.sl.cells 0 y rfl
        cases e
    subst hl
    clear h
    go_enter Tryz.func50, Tryz.ntmps50
    go_wp2_with fail
    go_ret
    exact ⟨_, rfl, WNew.nil (Ch.refl _ _)⟩
  | some p =>
    have hO : row (w.alloc (.cells #[] 52)) 52 1 (.slice (some ⟨w.heap.size, 0, none⟩) 0 0) 0 [] := ⟨rfl, .inr ⟨w.heap.size, 0, #[], rfl, by omega, heap_alloc_new w _, by omega, by unfold maxLen; omega, rfl, rfl⟩⟩
    have hN : ∀ j u, (intCells xl)[j]? = some u → (w.alloc (.cells #[] 52)).cell? (p.add j) = some u := fun j u hu => by
      simp only [intCells, List.getElem?_map, Option.map_eq_some_iff] at hu
      obtain ⟨y, hy, rfl⟩ := hu
      obtain ⟨b, o, e, hc⟩ := h.sl.cells j y hy
      cases e
      rw [Addr.add_lit]
      exact (((Ch.refl [] w).alloc _).cell (cell_lt hc) (by simp)).trans hc
    have h1 : ∀ u ∈ intCells xl, u.oneCell' = true := fun u hu => by
      obtain ⟨r, _, rfl⟩ := List.mem_map.1 hu
      rfl
    have HO := Lib.hid hO; clear hO
    have HN := Lib.hid hN; clear hN h
    have H1 := Lib.hid h1; clear h1
    go_enter Tryz.func50, Tryz.ntmps50
    go_wp2_with (at_builtin; go_loud (refine wpList_append_row slRefs rfl _ _ rfl (v := .slice (some ⟨w.heap.size, 0, none⟩) 0 0) (n := 0) (xs := []) rfl HO.out (ad := p) (m := xl.length) (c := xc) (news := intCells xl) rfl (by simp [intCells]) HN.out H1.out (by omega) (by omega) ?_; intro v' w2 hown hC2 hfresh; have HOWN := Lib.hid hown; clear hown; have HC2 := Lib.hid hC2; clear hC2; have HFR := Lib.hid hfresh; clear hfresh))
    go_ret
    have hown := HOWN.out
    rw [Nat.zero_add, List.nil_append] at hown
    refine ⟨_, rfl, by simpa [intCells] using hown, fun k hk => ?_, (((Ch.refl [] w).alloc (.cells #[] 52))).trans HC2.out (by simp)⟩
    rcases HFR.out k (by simpa using hk) with e | e
    · simp at e; omega
    · simp at e; omega
end
end Go.Proofs.YtehljgigebhddaaGreat
namespace Go.Proofs.YtehljgigebhddaaGreat
open Go.RowKit Go.Mem Go.Aig
section
variable {w : World}
set_option maxRecDepth 100000 in
set_option maxHeartbeats 1000000 in
theorem sInput_is {g : Nat} {G : Gra} {F : List Nat} (h : GIn w g G F) (n : Int) : Calls Tryz.prog 65 #[.pointer (some ⟨g, 0, none⟩), .int .i64 n] w fun e w' => ∃ v, e = .returned (.tuple #[v, .int .i64 (inG G n).2.2]) ∧ GVo w g (inG G n).1 [] F v (inG G n).2.1 w' := by
  have hpos := h.ok.wf.pos
  have hFl := h.lt
  have hp0 : ((G.nodes.length : Int) == 0) = false := beqN (by omega)
  have hL : ∀ W, Ch [] w W → Calls Tryz.prog 49 #[.pointer (some ⟨g, 0, none⟩)] W fun e w' => e = .returned (.int .i64 G.nodes.length) ∧ W = w' := fun W hW => Len_g (h.same hW (by simp))
  have hr1 := h.ok.room
  have hr2 := h.ok.most
  unfold inG
  have HR := fun W => sright_is (w := W) n
  cases hr : rightW n
  · rw [hr] at HR
    clear hr
    simp only [Bool.false_eq_true, if_false]
    have H := Lib.hid h; clear h
    go_enter Tryz.func65, Tryz.ntmps65
    go_wp2_with fail
    refine calls_named fun W0 hW0 => ?_
    have hc0 : Ch [] w W0 := by rw [hW0]; exact ((Ch.refl _ _).alloc _).alloc _
    have hbn : blk W0 (w.heap.size + 1) [.int .i64 n] := by rw [hW0]; exact blk.new' _ _ (by simp)
    have hn0 := hbn.cell (i := 0) rfl
    clear hW0
    refine (hL W0 hc0).mono ?_
    rintro e w' ⟨rfl, rfl⟩
    have HC0 := Lib.hid hc0; clear hc0
    go_wp2_with fail
    refine (HR _).mono ?_
    rintro e w' ⟨rfl, rfl⟩
    go_wp2_with fail
    go_ret2
    exact ⟨_, rfl, GVo.none H.out HC0.out⟩
  · rw [hr] at HR
    obtain ⟨k0, rfl, hk0⟩ : ∃ k0 : Nat, n = k0 ∧ k0 ≤ 17 := by
      unfold rightW at hr
      simp at hr
      exact ⟨n.toNat, by omega, by omega⟩
    clear hr
    simp only [if_true, Int.toNat_natCast]
    have hB : ∀ W, Ch [] w W → blk W w.heap.size [.pointer (some ⟨g, 0, none⟩)] → blk W (w.heap.size + 1) [.int .i64 k0] → Calls Tryz.prog 173 #[.pointer (some ⟨g, 0, none⟩), .func (.func 174) #[] #[.pointer (some ⟨w.heap.size + 1, 0, none⟩), .pointer (some ⟨w.heap.size, 0, none⟩)]] W fun e w' => ∃ v, e = .returned (.tuple #[v, .int .i64 (wres G (inF (G, 0) k0)).2.2]) ∧ GVo W g (wres G (inF (G, 0) k0)).1 [] F v (wres G (inF (G, 0) k0)).2.1 w' := fun W hW hbg hbn =>
      sbuildW_is (h.same hW (by simp)) 174 _ fnvsInput1 _ [] (fun W2 m hm hW2 hM => sInput1_is hM (by omega) ((hbn.ch hW2 (by simp)).cell (i := 0) rfl) ((hbg.ch hW2 (by simp)).cell (i := 0) rfl) (fun hk => by
        have h1 := hbg.lt
        simp only [List.mem_cons] at hk
        rcases hk with e | e
        · omega
        · have := hFl _ e; omega))
    have HB := Lib.hid hB; clear hB
    generalize wres G (inF (G, 0) k0) = R at *
    have H := Lib.hid h; clear h
    go_enter Tryz.func65, Tryz.ntmps65
    go_wp2_with fail
    refine calls_named fun W0 hW0 => ?_
    have hc0 : Ch [] w W0 := by rw [hW0]; exact ((Ch.refl _ _).alloc _).alloc _
    have hbg : blk W0 w.heap.size [.pointer (some ⟨g, 0, none⟩)] := by rw [hW0]; exact (blk.new' _ _ (by simp)).alloc _
    have hbn : blk W0 (w.heap.size + 1) [.int .i64 k0] := by rw [hW0]; exact blk.new' _ _ (by simp)
    have hn0 := hbn.cell (i := 0) rfl
    have hg0 := hbg.cell (i := 0) rfl
    clear hW0
    refine (hL W0 hc0).mono ?_
    rintro e w' ⟨rfl, rfl⟩
    have HBB := HB.out W0 hc0 hbg hbn
    have HC0 := Lib.hid hc0; clear hc0
    clear hbg hbn
    go_wp2_with fail
    refine (HR _).mono ?_
    rintro e w' ⟨rfl, rfl⟩
    go_wp2_with fail
    refine HBB.mono ?_
    rintro e w1 ⟨v, rfl, hg⟩
    have HG := Lib.hid hg; clear hg
    go_wp2_with fail
    go_ret2
    exact ⟨v, rfl, GVo.since HC0.out HG.out⟩
end
end Go.Proofs.YtehljgigebhddaaGreat
namespace Go.Proofs.YtehljgigebhddaaGreat
open Go.RowKit Go.Mem Go.Aig
section
variable {w0 w : World} {g : Nat} {G : Gra} {F : List Nat}
theorem New_c (n : Nat) (h1 : 1 ≤ n) (h2 : n ≤ 65536) (hc : Ch [] w0 w) :
    Calls Tryz.prog 112 #[.int .i64 n] w fun e w' => ∃ g F, e = .returned (.tuple #[.pointer (some ⟨g, 0, none⟩), .int .i64 0]) ∧ Own w0 w' g (newG n) F := by
  refine (New_yes n h1 h2).mono ?_
  rintro e w' ⟨g, F, rfl, hg, hF, hch⟩
  exact ⟨g, F, rfl, hg, fun k hk => Nat.le_trans hc.size (hF k hk), hc.trans hch (by simp)⟩
end
end Go.Proofs.YtehljgigebhddaaGreat
namespace Go.Aig
def natInts (l : List Nat) : List Int := l.map fun (r : Nat) => (r : Int)
@[simp] theorem natInts_len (l : List Nat) : (natInts l).length = l.length := by simp [natInts]
end Go.Aig
namespace Go.Proofs.YtehljgigebhddaaGreat
open Go.RowKit Go.Mem Go.Aig
theorem refs_natInts (l : List Nat) : refsCells l = intCells (natInts l) := by simp [refsCells, intCells, natInts]
structure Held (w0 w : World) (F : List Nat) (v : Value) (l : List Int) : Prop where
  row : row w 52 1 v l.length (intCells l)
  len : l.length ≤ 1000000
  bd : ∀ r ∈ l, -9223372036854775808 ≤ r ∧ r ≤ 9223372036854775807
  own : ∀ k, v.ownBlock = some k → w0.heap.size ≤ k ∧ k ∉ F
theorem Held.keep {w0 w w' : World} {F F' : List Nat} {v : Value} {l : List Int} (h : Held w0 w F v l) (hc : Ch F w w') (hF : ∀ k ∈ F', k ∈ F ∨ w.heap.size ≤ k) : Held w0 w' F' v l :=
  ⟨h.row.ch hc (fun k hk => (h.own k hk).2), h.len, h.bd, fun k hk => ⟨(h.own k hk).1, fun hk2 => (hF k hk2).elim (h.own k hk).2 (fun e => by have := (h.row.lt k hk).2; omega)⟩⟩
theorem Held.in {w0 w : World} {F : List Nat} {a : Option Addr} {c n : Nat} {l : List Int} (h : Held w0 w F (.slice a n c) l) (hn : l.length = n) : WVin w F ⟨a, l, c⟩ := by
  have hr := h.row
  rw [hn] at hr
  refine ⟨⟨?_, h.bd, h.len⟩, fun k hk => ?_⟩
  · exact Sl.of_ints hr (by have := h.len; omega)
  · cases a with
    | none => simp [ablk] at hk
    | some p =>
      simp only [ablk, List.mem_singleton] at hk
      subst hk
      exact ⟨(h.own p.block rfl).2, (h.row.lt p.block rfl).2⟩
theorem Held.cap {w0 w : World} {F : List Nat} {a : Option Addr} {c n : Nat} {l : List Int} (h : Held w0 w F (.slice a n c) l) : n ≤ c := by
  rcases h.row.2 with ⟨e, _⟩ | ⟨g, cap, cur, e, _, _, hle, _⟩
  · cases e; omega
  · cases e; exact hle
structure Base where
  w : World
  K : List (Nat × List Value) := []
instance : Coe World Base := ⟨fun w => ⟨w, []⟩⟩
def Base.add (B : Base) (b : Nat) (xs : List Value) : Base := ⟨B.w, (b, xs) :: B.K⟩
structure Hold (w0 : Base) (w : World) (g : Nat) (G : Gra) (F : List Nat) (L : List (Value × List Int)) : Prop where
  own : Own w0.w w g G F
  held : ∀ p ∈ L, Held w0.w w F p.1 p.2
  kept : ∀ p ∈ w0.K, blk w p.1 p.2 ∧ w0.w.heap.size ≤ p.1 ∧ p.1 ∉ F
section
variable {w0 : Base} {w : World} {g : Nat} {G : Gra} {F : List Nat} {L : List (Value × List Int)}
theorem Hold.same {w' : World} (h : Hold w0 w g G F L) (hc : Ch [] w w') : Hold w0 w' g G F L :=
  ⟨h.own.same hc, fun p hp => (h.held p hp).keep (hc.mono (by simp)) (fun _ hk => .inl hk), fun p hp => ⟨(h.kept p hp).1.ch hc (by simp), (h.kept p hp).2⟩⟩
theorem Hold.keptTo {w' : World} {F' : List Nat} (h : Hold w0 w g G F L) (h2 : Ch F w w') (h3 : ∀ k ∈ F', k ∈ F ∨ w.heap.size ≤ k) : ∀ p ∈ w0.K, blk w' p.1 p.2 ∧ w0.w.heap.size ≤ p.1 ∧ p.1 ∉ F' := fun p hp => by
  obtain ⟨k1, k2, k3⟩ := h.kept p hp
  exact ⟨k1.ch h2 k3, k2, fun hin => (h3 _ hin).elim k3 (fun e => by have := k1.lt; omega)⟩
theorem Hold.to {w' : World} {G' : Gra} (h : Hold w0 w g G F L) (ht : GTo w g G' F w') : ∃ F', Hold w0 w' g G' F' L := by
  obtain ⟨F', h1, h2, h3, _⟩ := ht
  exact ⟨F', ⟨h1, fun k hk => (h3 k hk).elim (h.own.own k) (fun e => Nat.le_trans h.own.ch.size e), h.own.ch.trans h2 (fun k hk => .inr (h.own.own k hk))⟩, fun p hp => (h.held p hp).keep h2 h3, h.keptTo h2 h3⟩
theorem Hold.word {w' : World} {G' : Gra} {v : Value} {l : List Nat} (h : Hold w0 w g G F L) (ht : GVo w g G' [] F v l w') (hb : ∀ r ∈ l, r ≤ 1000000) (hl : l.length ≤ 1000000) : ∃ a c F', v = .slice a l.length c ∧ Hold w0 w' g G' F' ((.slice a l.length c, natInts l) :: L) := by
  obtain ⟨F', h1, h2, h3, h4, h5, h6⟩ := ht
  obtain ⟨a, c, rfl⟩ := row.shape h5
  obtain ⟨k1, k2⟩ := (h.to (G' := G') ⟨F', h1, h2, h3, h4⟩ : ∃ F', Hold w0 w' g G' F' L)
  refine ⟨a, c, F', rfl, ⟨⟨h1, fun k hk => (h3 k hk).elim (h.own.own k) (fun e => Nat.le_trans h.own.ch.size e), h.own.ch.trans h2 (fun k hk => .inr (h.own.own k hk))⟩, fun p hp => ?_, h.keptTo h2 h3⟩⟩
  rcases List.mem_cons.1 hp with rfl | hp
  · refine ⟨?_, by simpa using hl, fun r hr => ?_, fun k hk => ⟨Nat.le_trans h.own.ch.size (h6 k hk).1, (h6 k hk).2⟩⟩
    · simp only [natInts_len]
      rw [← refs_natInts]
      exact h5
    · obtain ⟨q, hq, rfl⟩ := List.mem_map.1 hr
      have := hb q hq
      omega
  · exact (h.held p hp).keep h2 h3
theorem Hold.new {w' : World} {v : Value} {l : List Int} (h : Hold w0 w g G F L) (ht : WNew w v (intCells l) w') (hb : ∀ r ∈ l, -9223372036854775808 ≤ r ∧ r ≤ 9223372036854775807) (hl : l.length ≤ 1000000) : ∃ a c, v = .slice a l.length c ∧ Hold w0 w' g G F ((.slice a l.length c, l) :: L) := by
  obtain ⟨h5, h6, h2⟩ := ht
  have e : (intCells l).length = l.length := by simp [intCells]
  rw [e] at h5
  obtain ⟨a, c, rfl⟩ := row.shape h5
  refine ⟨a, c, rfl, (h.same h2).own, fun p hp => ?_, (h.same h2).kept⟩
  rcases List.mem_cons.1 hp with rfl | hp
  · exact ⟨h5, hl, hb, fun k hk => ⟨Nat.le_trans h.own.ch.size (h6 k (by simpa using hk)), fun hk2 => by have := h.own.gin.lt k hk2; have := h6 k (by simpa using hk); omega⟩⟩
  · exact (h.same h2).held p hp
theorem Hold.at (h : Hold w0 w g G F L) {a : Option Addr} {n c : Nat} {l : List Int} (hp : (.slice a n c, l) ∈ L) (hn : l.length = n) : WVin w F ⟨a, l, c⟩ := (h.held _ hp).in hn
theorem Hold.sl (h : Hold w0 w g G F L) {a : Option Addr} {n c : Nat} {l : List Int} (hp : (.slice a n c, l) ∈ L) (hn : l.length = n) : Sl w a l := (h.at hp hn).ok.sl
theorem Hold.start {w0 : World} (h : Own w0 w g G F) : Hold w0 w g G F [] := ⟨h, by simp, fun p hp => by cases hp⟩
theorem Hold.keepB {b : Nat} {xs : List Value} (h : Hold w0 w g G F L) (hb : blk w b xs) (h0 : w0.w.heap.size ≤ b) (hF : b ∉ F) : Hold (w0.add b xs) w g G F L :=
  ⟨h.own, h.held, fun p hp => by
    rcases List.mem_cons.1 hp with rfl | hp
    · exact ⟨hb, h0, hF⟩
    · exact h.kept p hp⟩
theorem Hold.keepN {w' : World} {xs : List Value} (h : Hold w0 w g G F L) (hc : Ch [] w w') (hb : blk w' w.heap.size xs) : Hold (w0.add w.heap.size xs) w' g G F L :=
  (h.same hc).keepB hb h.own.ch.size (fun hin => Nat.lt_irrefl _ (h.own.gin.lt _ hin))
end
end Go.Proofs.YtehljgigebhddaaGreat
namespace Go.Proofs.YtehljgigebhddaaGreat
open Go.RowKit Go.Mem Go.Aig
section
variable {w0 : Base} {w : World} {g : Nat} {G : Gra} {F : List Nat} {L : List (Value × List Int)}
theorem Calls.word {fid : FuncId} {args : Array Value} (h : Hold w0 w g G F L) {R : Gra × List Nat × Nat} (hC : Calls Tryz.prog fid args w fun e w' => ∃ v, e = .returned (.tuple #[v, .int .i64 R.2.2]) ∧ GVo w g R.1 [] F v R.2.1 w') {G' : Gra} {l : List Nat} {e k : Nat} (hR : R = (G', l, e)) (hk : l.length = k) (hb : ∀ r ∈ l, r ≤ 1000000) (hl : k ≤ 1000000) :
    Calls Tryz.prog fid args w fun en w' => ∃ a c F', en = .returned (.tuple #[.slice a k c, .int .i64 e]) ∧ Hold w0 w' g G' F' ((.slice a k c, natInts l) :: L) := by
  subst hR hk
  refine hC.mono ?_
  rintro en w' ⟨v, rfl, hg⟩
  obtain ⟨a, c, F', rfl, hh⟩ := h.word hg hb hl
  exact ⟨a, c, F', rfl, hh⟩
theorem Calls.ref {fid : FuncId} {args : Array Value} (h : Hold w0 w g G F L) {R : Res} (hC : Calls Tryz.prog fid args w fun e w' => e = .returned (.tuple #[.int .i64 R.2.1, .int .i64 R.2.2]) ∧ GTo w g R.1 F w') {G' : Gra} {r e : Nat} (hR : R = (G', r, e)) :
    Calls Tryz.prog fid args w fun en w' => ∃ F', en = .returned (.tuple #[.int .i64 r, .int .i64 e]) ∧ Hold w0 w' g G' F' L := by
  subst hR
  refine hC.mono ?_
  rintro en w' ⟨rfl, hg⟩
  obtain ⟨F', hh⟩ := h.to hg
  exact ⟨F', rfl, hh⟩
theorem Calls.wnew {fid : FuncId} {args : Array Value} (h : Hold w0 w g G F L) {l : List Int} {e : Nat} (hC : Calls Tryz.prog fid args w fun en w' => ∃ v, en = .returned (.tuple #[v, .int .i64 e]) ∧ WNew w v (intCells l) w') {k : Nat} (hk : l.length = k) (hb : ∀ r ∈ l, -9223372036854775808 ≤ r ∧ r ≤ 9223372036854775807) (hl : k ≤ 1000000) :
    Calls Tryz.prog fid args w fun en w' => ∃ a c, en = .returned (.tuple #[.slice a k c, .int .i64 e]) ∧ Hold w0 w' g G F ((.slice a k c, l) :: L) := by
  subst hk
  refine hC.mono ?_
  rintro en w' ⟨v, rfl, hg⟩
  obtain ⟨a, c, rfl, hh⟩ := h.new hg hb hl
  exact ⟨a, c, rfl, hh⟩
theorem sInput_h (h : Hold w0 w g G F L) (i : Int) {G' : Gra} {l : List Nat} {e k : Nat} (hR : inG G i = (G', l, e)) (hk : l.length = k) (hb : ∀ r ∈ l, r ≤ 1000000) (hl : k ≤ 1000000) :
    Calls Tryz.prog 65 #[.pointer (some ⟨g, 0, none⟩), .int .i64 i] w fun en w' => ∃ a c F', en = .returned (.tuple #[.slice a k c, .int .i64 e]) ∧ Hold w0 w' g G' F' ((.slice a k c, natInts l) :: L) := Calls.word h (sInput_is h.own.gin i) hR hk hb hl
theorem sConst_h (h : Hold w0 w g G F L) (x : Nat) (hx : x < 4294967296) (n : Nat) (hn : rightW n = true) :
    Calls Tryz.prog 60 #[.int .u32 x, .int .i64 n] w fun en w' => ∃ a c, en = .returned (.tuple #[.slice a n c, .int .i64 0]) ∧ Hold w0 w' g G F ((.slice a n c, natInts (constL x n)) :: L) := by
  have hc := sConst_is (w := w) x hx n
  rw [hn] at hc
  simp only [if_true, refs_natInts, Int.toNat_natCast] at hc
  have hb : ∀ r ∈ natInts (constL x n), -9223372036854775808 ≤ r ∧ r ≤ 9223372036854775807 := fun r hr => by
    obtain ⟨q, hq, rfl⟩ := List.mem_map.1 hr
    obtain ⟨i, _, rfl⟩ := List.mem_map.1 hq
    cases x.testBit i <;> decide
  have hn2 : n ≤ 17 := by unfold rightW at hn; simp at hn; omega
  exact Calls.wnew h hc (by simp [constL]) hb (by omega)
theorem Eqref_h (h : Hold w0 w g G F L) {xa ya : Option Addr} {xl yl : List Int} {n m xc yc : Nat} (hx : (.slice xa n xc, xl) ∈ L) (hxn : xl.length = n) (hy : (.slice ya m yc, yl) ∈ L) (hym : yl.length = m) {q : Bool} (hq : decide (xl = yl) = q) : Calls Tryz.prog 56 #[.slice xa n xc, .slice ya m yc] w fun e w' => e = .returned (.bool q) ∧ Hold w0 w' g G F L := by
  subst hq
  have hc := Eqref_is (w := w) xc yc (h.sl hx hxn) (h.sl hy hym)
  simp only [hxn, hym] at hc
  refine hc.mono ?_
  rintro e w' ⟨rfl, hc⟩
  exact ⟨rfl, h.same hc⟩
theorem Eqref_c (h : Hold w0 w g G F L) {xa : Option Addr} {xl : List Int} {n xc : Nat} (hx : (.slice xa n xc, xl) ∈ L) (hxn : xl.length = n) {b m : Nat} {ys : List Int} (hb : blk w b (intCells ys)) (hm : ys.length = m) (hm2 : m ≤ 1000000) {q : Bool} (hq : decide (xl = ys) = q) : Calls Tryz.prog 56 #[.slice xa n xc, .slice (some ⟨b, 0, none⟩) m m] w fun e w' => e = .returned (.bool q) ∧ Hold w0 w' g G F L := by
  subst hq
  have hs : Sl w (some ⟨b, 0, none⟩) ys := ⟨fun i x hx => ⟨b, 0, rfl, by rw [Nat.zero_add]; exact hb.cell (by simp [intCells, hx])⟩, by omega⟩
  have hc := Eqref_is (w := w) xc m (h.sl hx hxn) hs
  simp only [hxn, hm] at hc
  refine hc.mono ?_
  rintro e w' ⟨rfl, hc⟩
  exact ⟨rfl, h.same hc⟩
end
end Go.Proofs.YtehljgigebhddaaGreat
namespace Go.Proofs.YtehljgigebhddaaGreat
open Go.RowKit Go.Mem Go.Aig
section
theorem New_h {w : World} (n : Nat) (h1 : 1 ≤ n) (h2 : n ≤ 65536) :
    Calls Tryz.prog 112 #[.int .i64 n] w fun e w' => ∃ g F, e = .returned (.tuple #[.pointer (some ⟨g, 0, none⟩), .int .i64 0]) ∧ Hold w w' g (newG n) F [] := by
  refine (New_c (w0 := w) n h1 h2 (Ch.refl _ _)).mono ?_
  rintro e w' ⟨g, F, rfl, ho⟩
  exact ⟨g, F, rfl, .start ho⟩
end
end Go.Proofs.YtehljgigebhddaaGreat
namespace Go.Aig
def gIn (most n : Nat) : Gra := ⟨most, ⟨1, 0, 0, 0⟩ :: List.replicate n ⟨2, 0, 0, 0⟩⟩
def rIn (s n : Nat) : List Nat := (List.range n).map fun i => 2 * (s + i + 1)
theorem inF_gIn (most s : Nat) : ∀ n, s + n < most → inF (gIn most s, 0) n = ((gIn most (s + n), 0), rIn s n)
  | 0, _ => rfl
  | n + 1, h => by
    rw [inF_succ, inF_gIn most s n (by omega)]
    unfold inS sPut put
    have hl : (gIn most (s + n)).nodes.length = s + n + 1 := by simp [gIn]
    dsimp only
    rw [if_neg (by rw [hl]; show ¬ most ≤ s + n + 1; omega), rstep_ok rfl rfl, hl]
    have h1 : ({ gIn most (s + n) with nodes := (gIn most (s + n)).nodes ++ [⟨2, 0, 0, 0⟩] } : Gra) = gIn most (s + (n + 1)) := by
      unfold gIn
      show (⟨most, _⟩ : Gra) = ⟨most, _⟩
      rw [List.cons_append, ← List.replicate_succ']
      rfl
    dsimp only
    rw [h1]
    congr 1
    unfold rIn
    rw [List.range_succ, List.map_append]
    rfl
theorem inG_gIn {most s n : Nat} (h1 : 1 ≤ n) (h2 : n ≤ 17) (h : s + n < most) : inG (gIn most s) n = (gIn most (s + n), rIn s n, 0) := by
  unfold inG
  have : rightW n = true := by unfold rightW; simp; omega
  rw [this, if_pos rfl]
  simp only [Int.toNat_natCast]
  rw [inF_gIn most s n h]
  rfl
@[simp] theorem rIn_len (s n : Nat) : (rIn s n).length = n := by simp [rIn]
theorem rIn_le {s n r : Nat} (h : r ∈ rIn s n) : r ≤ 2 * (s + n) ∧ 2 ≤ r ∧ r % 2 = 0 := by
  obtain ⟨i, hi, rfl⟩ := List.mem_map.1 h
  have := List.mem_range.1 hi
  omega
end Go.Aig
namespace Go.Proofs.YtehljgigebhddaaGreat
open Go.RowKit Go.Mem Go.Aig
set_option maxRecDepth 100000 in
set_option maxHeartbeats 4000000 in
theorem Pair_is (w : World) (wd : Nat) (hw : wd ≤ 255) : Calls Tryz.prog 64 #[.int .u8 wd] w fun e w' => ∃ g F xa xc ya yc, e = .returned (.tuple #[.pointer (some ⟨g, 0, none⟩), .slice xa (wd % 5 + 1) xc, .slice ya (wd % 5 + 1) yc]) ∧
    Hold w w' g (gIn 4000 (2 * (wd % 5 + 1))) F [(.slice ya (wd % 5 + 1) yc, natInts (rIn (wd % 5 + 1) (wd % 5 + 1))), (.slice xa (wd % 5 + 1) xc, natInts (rIn 0 (wd % 5 + 1)))] := by
  obtain ⟨n, hn, hn5⟩ : ∃ n, wd % 5 + 1 = n ∧ n ≤ 5 := ⟨_, rfl, by omega⟩
  have hn1 : 1 ≤ n := by omega
  rw [hn]
  have hq : 1 + (wd : Int) % 5 = n := by omega
  have HQ := Lib.hid hq
  have hN := New_h (w := w) 4000 (by decide) (by decide)
  have HN := Lib.hid hN; clear hN
  clear hn
  go_enter Tryz.func64, Tryz.ntmps64
  go_wp2_with fail
  refine HN.out.mono ?_
  rintro e w1 ⟨g, F1, rfl, ho⟩
  have HO := Lib.hid ho; clear ho HN
  go_wp2_with fail
  refine (sInput_h HO.out n (G' := gIn 4000 n) (l := rIn 0 n) (e := 0) (k := n) (by have := inG_gIn (most := 4000) (s := 0) hn1 (by omega) (by omega); rw [Nat.zero_add] at this; exact this) (by simp) (fun r hr => by have := rIn_le hr; omega) (by omega)).mono ?_
  rintro e w2 ⟨xa, xc, F2, rfl, ho⟩
  clear HO; have HO := Lib.hid ho; clear ho
  go_wp2_with fail
  refine (sInput_h HO.out n (G' := gIn 4000 (2 * n)) (l := rIn n n) (e := 0) (k := n) (by have := inG_gIn (most := 4000) (s := n) hn1 (by omega) (by omega); rw [show n + n = 2 * n from by omega] at this; exact this) (by simp) (fun r hr => by have := rIn_le hr; omega) (by omega)).mono ?_
  rintro e w3 ⟨ya, yc, F3, rfl, ho⟩
  clear HO; have HO := Lib.hid ho; clear ho
  go_wp2_with fail
  go_ret3
  exact ⟨g, F3, xa, xc, ya, yc, rfl, HO.out⟩
end Go.Proofs.YtehljgigebhddaaGreat
namespace Go.Aig
def rConstN (x n : Nat) : List Nat := (List.range n).map fun i => x / 2 ^ i % 2
theorem rConstN_succ (x n : Nat) : rConstN x (n + 1) = rConstN x n ++ [x / 2 ^ n % 2] := by
  unfold rConstN
  rw [List.range_succ, List.map_append]; rfl
theorem rConstN_eq (x n : Nat) : rConstN x n = constL x n := by
  unfold rConstN constL
  refine List.map_congr_left fun i _ => ?_
  rw [Nat.testBit_eq_decide_div_mod_eq]
  rcases Nat.mod_two_eq_zero_or_one (x / 2 ^ i) with h | h <;> rw [h] <;> rfl
end Go.Aig
namespace Go.Proofs.YtehljgigebhddaaGreat
open Go.RowKit Go.Mem Go.Aig
theorem eqSliceNilB (w : World) (a : Option Addr) (n c : Nat) : (binOp .eql 65 (.slice a n c) (.slice none 0 0)).run Tryz.prog w = .ok (.bool a.isNone) w := by
  have h : Tryz.prog.underlying 65 = some (.slice 4) := Tryz.underlying65
  simp only [binOp]
  simp [run_equal_slice_nil w _ _ a n c h]
attribute [local go_sem] eqSliceNilB
set_option maxRecDepth 100000 in
set_option maxHeartbeats 2000000 in
theorem Refs23_is {w : World} {a : Option Addr} {l : List Int} (n cap : Nat) (hn : l.length = n) (h : Sl w a l) (hm : n ≤ 1000000) : Calls Tryz.prog 197 #[.slice a n cap] w fun e w' => ∃ v, e = .returned v ∧ row w' 52 1 v n (intCells l) ∧ (∀ q ∈ v.ownBlock.toList, w.heap.size ≤ q) ∧ Ch [] w w' := by
  subst hn
  have H := Lib.hid h; clear h
  go_enter Tryz.func197, Tryz.ntmps197
  go_wp2_with fail
  go_loopw [3, 8] (fun o i wr => ∃ k : Nat, k ≤ l.length ∧ i = .int .i64 k ∧ Ch [] w wr ∧ row wr 52 1 o k (intCells (l.take k)) ∧ ∀ q ∈ o.ownBlock.toList, w.heap.size ≤ q) (fun _ i _ => l.length - (intOf i).toNat)
  case atStart => exact ⟨0, by omega, rfl, Ch.refl _ _, ⟨rfl, .inl ⟨rfl, rfl⟩⟩, by simp⟩
  case round =>
    obtain ⟨k, hk, rfl, hc, hrow, hlo⟩ := hrel
    obtain ⟨oa, oc, rfl⟩ := row.shape hrow
    by_cases hlt : k < l.length
    · obtain ⟨x, hx⟩ : ∃ x, l[k]? = some x := ⟨_, List.getElem?_eq_getElem hlt⟩
      have hsu : intCells (l.take (k + 1)) = intCells (l.take k) ++ [.int .i64 x] := by unfold intCells; rw [List.take_add_one, hx]; simp
      obtain ⟨xb, xo, rfl, hcl⟩ := H.out.cells k x hx
      have c0 := (hc.cell (cell_lt hcl) (by simp)).trans hcl
      have HSU := Lib.hid hsu; clear hsu hx hcl
      have hcA : Ch [] wr (wr.alloc (.cells #[.int .i64 x] 52)) := (Ch.refl _ _).alloc _
      have hrA := hrow.ch hcA (by simp)
      have hbA : blk (wr.alloc (.cells #[.int .i64 x] 52)) wr.heap.size [.int .i64 x] := blk.new' _ _ rfl
      have HRA := Lib.hid hrA; clear hrA hrow
      have HBA := Lib.hid hbA; clear hbA
      have HCA := Lib.hid hcA; clear hcA
      have HC := Lib.hid hc; clear hc
      have HLO := Lib.hid hlo; clear hlo
      go_wp2_with (at_builtin; go_loud (refine wpList_append_row slRefs rfl _ _ rfl (v := .slice oa k oc) (n := k) (xs := intCells (l.take k)) rfl HRA.out (ad := ⟨wr.heap.size, 0, none⟩) (m := 1) (c := 1) (news := [.int .i64 x]) rfl rfl (news_blk HBA.out) (by simp [Value.oneCell']) (by omega) (by omega) ?_; intro v' w4 hown4 hC4 hf4; have HO4 := Lib.hid hown4; clear hown4; have HC4 := Lib.hid hC4; clear hC4; have HF4 := Lib.hid hf4; clear hf4))
      go_roundw
      case rel =>
        obtain ⟨q1, q2⟩ := app_step HC.out HCA.out HLO.out HC4.out HF4.out
        refine ⟨k + 1, by omega, by go_num, q1, ?_, q2⟩
        rw [HSU.out]; exact HO4.out
      case measure => simp [intOf]; omega
    · have hkn : k = l.length := by omega
      rw [hkn, List.take_of_length_le (Nat.le_refl _)] at hrow
      rw [hkn] at hlo
      rw [hkn]
      have HROW := Lib.hid hrow; clear hrow
      have HLO := Lib.hid hlo; clear hlo
      have HC := Lib.hid hc; clear hc hkn
      go_wp2_with fail
      go_ret
      exact ⟨.slice oa l.length oc, rfl, HROW.out, HLO.out, HC.out⟩
set_option maxRecDepth 100000 in
set_option maxHeartbeats 2000000 in
theorem Ints23_is {w : World} {a : Option Addr} {l : List Int} (n cap : Nat) (hn : l.length = n) (h : Sl w a l) (hm : n ≤ 1000000) : Calls Tryz.prog 221 #[.slice a n cap] w fun e w' => ∃ v, e = .returned v ∧ row w' 3 1 v n (intCells l) ∧ (∀ q ∈ v.ownBlock.toList, w.heap.size ≤ q) ∧ Ch [] w w' := by
  subst hn
  have H := Lib.hid h; clear h
  go_enter Tryz.func221, Tryz.ntmps221
  go_wp2_with fail
  go_loopw [3, 8] (fun o i wr => ∃ k : Nat, k ≤ l.length ∧ i = .int .i64 k ∧ Ch [] w wr ∧ row wr 3 1 o k (intCells (l.take k)) ∧ ∀ q ∈ o.ownBlock.toList, w.heap.size ≤ q) (fun _ i _ => l.length - (intOf i).toNat)
  case atStart => exact ⟨0, by omega, rfl, Ch.refl _ _, ⟨rfl, .inl ⟨rfl, rfl⟩⟩, by simp⟩
  case round =>
    obtain ⟨k, hk, rfl, hc, hrow, hlo⟩ := hrel
    obtain ⟨oa, oc, rfl⟩ := row.shape hrow
    by_cases hlt : k < l.length
    · obtain ⟨x, hx⟩ : ∃ x, l[k]? = some x := ⟨_, List.getElem?_eq_getElem hlt⟩
      have hsu : intCells (l.take (k + 1)) = intCells (l.take k) ++ [.int .i64 x] := by unfold intCells; rw [List.take_add_one, hx]; simp
      obtain ⟨xb, xo, rfl, hcl⟩ := H.out.cells k x hx
      have c0 := (hc.cell (cell_lt hcl) (by simp)).trans hcl
      have HSU := Lib.hid hsu; clear hsu hx hcl
      have hcA : Ch [] wr (wr.alloc (.cells #[.int .i64 x] 3)) := (Ch.refl _ _).alloc _
      have hrA := hrow.ch hcA (by simp)
      have hbA : blk (wr.alloc (.cells #[.int .i64 x] 3)) wr.heap.size [.int .i64 x] := blk.new' _ _ rfl
      have HRA := Lib.hid hrA; clear hrA hrow
      have HBA := Lib.hid hbA; clear hbA
      have HCA := Lib.hid hcA; clear hcA
      have HC := Lib.hid hc; clear hc
      have HLO := Lib.hid hlo; clear hlo
      go_wp2_with (at_builtin; go_loud (refine wpList_append_row slInts rfl _ _ rfl (v := .slice oa k oc) (n := k) (xs := intCells (l.take k)) rfl HRA.out (ad := ⟨wr.heap.size, 0, none⟩) (m := 1) (c := 1) (news := [.int .i64 x]) rfl rfl (news_blk HBA.out) (by simp [Value.oneCell']) (by omega) (by omega) ?_; intro v' w4 hown4 hC4 hf4; have HO4 := Lib.hid hown4; clear hown4; have HC4 := Lib.hid hC4; clear hC4; have HF4 := Lib.hid hf4; clear hf4))
      go_roundw
      case rel =>
        obtain ⟨q1, q2⟩ := app_step HC.out HCA.out HLO.out HC4.out HF4.out
        refine ⟨k + 1, by omega, by go_num, q1, ?_, q2⟩
        rw [HSU.out]; exact HO4.out
      case measure => simp [intOf]; omega
    · have hkn : k = l.length := by omega
      rw [hkn, List.take_of_length_le (Nat.le_refl _)] at hrow
      rw [hkn] at hlo
      rw [hkn]
      have HROW := Lib.hid hrow; clear hrow
      have HLO := Lib.hid hlo; clear hlo
      have HC := Lib.hid hc; clear hc hkn
      go_wp2_with fail
      go_ret
      exact ⟨.slice oa l.length oc, rfl, HROW.out, HLO.out, HC.out⟩
section
variable {w : World}
set_option maxRecDepth 100000 in
set_option maxHeartbeats 2000000 in
theorem r23Const_is (x : Nat) (hx : x < 4294967296) (n : Nat) (hn : n ≤ 17) : Calls Tryz.prog 302 #[.int .i64 x, .int .i64 n] w fun e w' => ∃ v, e = .returned v ∧ row w' 3 1 v n (refsCells (rConstN x n)) ∧ (∀ q ∈ v.ownBlock.toList, w.heap.size ≤ q) ∧ Ch [] w w' := by
  go_enter Tryz.func302, Tryz.ntmps302
  go_wp2_with fail
  go_loopw [0, 5, 6] (fun y o i wr => ∃ k : Nat, k ≤ n ∧ i = .int .i64 k ∧ y = .int .i64 ((x / 2 ^ k : Nat) : Int) ∧ Ch [] w wr ∧ row wr 3 1 o k (refsCells (rConstN x k)) ∧ ∀ q ∈ o.ownBlock.toList, w.heap.size ≤ q) (fun _ _ i _ => n - (intOf i).toNat)
  case atStart => exact ⟨0, by omega, rfl, by simp, Ch.refl _ _, ⟨rfl, .inl ⟨rfl, rfl⟩⟩, by simp⟩
  case round =>
    obtain ⟨k, hk, rfl, rfl, hc, hrow, hlo⟩ := hrel
    obtain ⟨oa, oc, rfl⟩ := row.shape hrow
    by_cases hlt : k < n
    · have hsu : refsCells (rConstN x (k + 1)) = refsCells (rConstN x k) ++ [.int .i64 ((x / 2 ^ k % 2 : Nat) : Int)] := by rw [rConstN_succ]; simp [refsCells]
      have hy : x / 2 ^ k < 4294967296 := Nat.lt_of_le_of_lt (Nat.div_le_self _ _) hx
      have hy2 : x / 2 ^ (k + 1) = x / 2 ^ k / 2 := by rw [Nat.pow_succ, Nat.div_div_eq_div_mul]
      generalize hX : x / 2 ^ k = X at *
      clear hX
      have HSU := Lib.hid hsu; clear hsu
      have HY2 := Lib.hid hy2; clear hy2
      have HC := Lib.hid hc; clear hc
      have HLO := Lib.hid hlo; clear hlo
      have hcA : Ch [] wr (wr.alloc (.cells #[.int .i64 ((X : Int) % 2)] 3)) := (Ch.refl _ _).alloc _
      have hrA := hrow.ch hcA (by simp)
      have hbA : blk (wr.alloc (.cells #[.int .i64 ((X : Int) % 2)] 3)) wr.heap.size [.int .i64 ((X : Int) % 2)] := blk.new' _ _ rfl
      have HRA := Lib.hid hrA; clear hrA hrow
      have HBA := Lib.hid hbA; clear hbA
      have HCA := Lib.hid hcA; clear hcA
      go_wp2_with (at_builtin; go_loud (refine wpList_append_row slInts rfl _ _ rfl (v := .slice oa k oc) (n := k) (xs := refsCells (rConstN x k)) rfl HRA.out (ad := ⟨wr.heap.size, 0, none⟩) (m := 1) (c := 1) (news := [.int .i64 ((X : Int) % 2)]) rfl rfl (news_blk HBA.out) (by simp [Value.oneCell']) (by omega) (by omega) ?_; intro v' w4 hown4 hC4 hf4; have HO4 := Lib.hid hown4; clear hown4; have HC4 := Lib.hid hC4; clear hC4; have HF4 := Lib.hid hf4; clear hf4))
      go_roundw
      case rel =>
        obtain ⟨q1, q2⟩ := app_step HC.out HCA.out HLO.out HC4.out HF4.out
        refine ⟨k + 1, by omega, by go_num, by rw [HY2.out]; go_num, q1, ?_, q2⟩
        rw [HSU.out]; exact HO4.out
      case measure => simp [intOf]; omega
    · have hkn : k = n := by omega
      subst hkn
      have HROW := Lib.hid hrow; clear hrow
      have HLO := Lib.hid hlo; clear hlo
      have HC := Lib.hid hc; clear hc
      go_wp2_with fail
      go_ret
      exact ⟨.slice oa k oc, rfl, HROW.out, HLO.out, HC.out⟩
end
end Go.Proofs.YtehljgigebhddaaGreat
namespace Go.Proofs.YtehljgigebhddaaGreat
open Go.RowKit Go.Mem Go.Aig
theorem rowBlk {w : World} {e : TypeId} {a : Option Addr} {n c : Nat} {xs : List Value} (h : row w e 1 (.slice a n c) n xs) : ∀ j, j < n → ∃ (b : Nat) (ys : List Value), a = some ⟨b, 0, none⟩ ∧ blk w b ys ∧ n ≤ ys.length := by
  intro j hj
  rcases h.2 with ⟨e1, _⟩ | ⟨b, cap, cur, e1, _, hg, hle, _, hs, _⟩
  · cases e1; omega
  · cases e1
    exact ⟨b, cur.toList, rfl, ⟨e, by simpa using hg⟩, by simp; omega⟩
section
variable {w : World}
end
end Go.Proofs.YtehljgigebhddaaGreat
namespace Go.Proofs.YtehljgigebhddaaGreat
open Go.ChangeShapes Go.WideShapes Go.ChangeAt Go.RowKit Go.Mem Go.Aig Go.Deep
theorem own : ownKnob Tryz.prog.godebug = none := by kernel_rfl
theorem laidOut : laidOutB Tryz.prog = true := by kernel_rfl
theorem list_of {α : Type} (P : Nat → α → Prop) : ∀ (n : Nat), (∀ i, i < n → ∃ x, P i x) → ∃ l : List α, l.length = n ∧ ∀ i x, l[i]? = some x → P i x
  | 0, _ => ⟨[], rfl, by simp⟩
  | n + 1, h => by
    obtain ⟨l, hl, hp⟩ := list_of P n (fun i hi => h i (by omega))
    obtain ⟨x, hx⟩ := h n (by omega)
    refine ⟨l ++ [x], by simp [hl], fun i y hy => ?_⟩
    by_cases hi : i < n
    · rw [List.getElem?_append_left (by omega)] at hy; exact hp i y hy
    · have hlt := (List.getElem?_eq_some_iff.1 hy).1
      simp at hlt
      have : i = n := by omega
      subst this
      rw [List.getElem?_append_right (by omega)] at hy
      simp [hl] at hy
      subst hy; exact hx
section
variable {H : Type} {enc : TypeId × Value → H} {W : World}
theorem wf_u8 {n : Int} (h : (Lit.int .u8 n).wf = true) : ∃ m : Nat, n = m ∧ m ≤ 255 := by
  have : 0 ≤ n ∧ n ≤ 255 := by simpa [Lit.wf, IntKind.min, IntKind.max, IntKind.signed, IntKind.bits] using h
  exact ⟨n.toNat, by omega, by omega⟩
theorem wf_i64 {z : Int} (h : (Lit.int .i64 z).wf = true) : -9223372036854775808 ≤ z ∧ z ≤ 9223372036854775807 := by
  simpa [Lit.wf, IntKind.min, IntKind.max, IntKind.signed, IntKind.bits] using h
theorem wf_u32 {n : Int} (h : (Lit.int .u32 n).wf = true) : ∃ m : Nat, n = m ∧ m < 4294967296 := by
  have : 0 ≤ n ∧ n ≤ 4294967295 := by simpa [Lit.wf, IntKind.min, IntKind.max, IntKind.signed, IntKind.bits] using h
  exact ⟨n.toNat, by omega, by omega⟩
set_option maxRecDepth 100000 in
theorem ints_open {fuel : Nat} {c : Value} {x : DataW H × List MemPlace} (hf : DataW.trod enc Tryz.prog W 0 (fun _ => true) true fuel 26 [c] = some x) :
    ∃ (a : Option Addr) (len cap : Nat) (L : List Int), c = .slice a len cap ∧ Sl W a L ∧ L.length = len ∧ (∀ z ∈ L, -9223372036854775808 ≤ z ∧ z ≤ 9223372036854775807) ∧ len ≤ cap ∧ cap ≤ 9223372036854775807 := by
  rcases open_slice Tryz.underlying26 hf with ⟨hcs, _⟩ | ⟨y, l, cp, m, n, D, Pl, hcs, _, hl, hm, hmm, _, hi⟩
  · simp at hcs
    subst hcs
    exact ⟨none, 0, 0, [], rfl, ⟨by simp, by simp⟩, rfl, by simp, by omega, by omega⟩
  · simp at hcs
    subst hcs
    have hm' : cp ≤ 9223372036854775807 := by unfold maxLen at hm; exact hm
    have hC : Tryz.prog.cellsOf 3 = 1 := by kernel_rfl
    have hspot : 0 < l → y.spot = none := fun h0 => by
      obtain ⟨cs', hc, _⟩ := hi 0 (by rw [hmm]; simp; omega)
      rw [hC] at hc
      obtain ⟨_, hcl, hat⟩ := World.cells?_some hc
      have e0 := hat 0 (by omega)
      rw [List.getElem?_eq_getElem (by omega)] at e0
      simpa [Addr.add] using World.cell?_spot e0
    have key : ∀ i, i < l → ∃ z : Int, (∃ b o, (some y : Option Addr) = some ⟨b, o, none⟩ ∧ W.cell? ⟨b, o + i, none⟩ = some (.int .i64 z)) ∧ (-9223372036854775808 ≤ z ∧ z ≤ 9223372036854775807) := by
      intro i hlt
      obtain ⟨cs', hc, ht⟩ := hi i (by rw [hmm]; simp; omega)
      rw [hC] at hc
      obtain ⟨_, hcl, hat⟩ := World.cells?_some hc
      match cs', hcl with
      | [c0], _ =>
        obtain ⟨z, hz, _, hw⟩ := DataW.trod_int Tryz.underlying3 ht
        have hb := wf_i64 hw
        simp at hz
        subst hz
        have e0 := hat 0 (by omega)
        simp at e0
        obtain ⟨b, o, spot⟩ := y
        have hsp : spot = none := hspot (by omega)
        subst hsp
        simp only [Addr.add_lit] at e0
        exact ⟨z, ⟨b, o, rfl, by simpa using e0⟩, hb⟩
    obtain ⟨ll, hll, hp⟩ := list_of _ l key
    refine ⟨some y, l, cp, ll, rfl, ⟨fun i s hs => (hp i s hs).1, by omega⟩, hll, fun s hs => ?_, hl, hm'⟩
    obtain ⟨i, hi2⟩ := List.mem_iff_getElem?.1 hs
    exact (hp i s hi2).2
end
end Go.Proofs.YtehljgigebhddaaGreat
namespace Go.Proofs.YtehljgigebhddaaGreat
open Go.RowKit Go.Mem Go.Aig
def STo (w : World) (rb : Nat) (R : Mk × Nat) (e : Ending) (w' : World) : Prop := ∃ rb' cap', e = .returned (.tuple #[.agg #[.int .i64 R.1.1.most, .slice (some ⟨rb', 0, none⟩) R.1.1.nodes.length cap', .int .i64 R.1.2], .int .i64 R.2]) ∧ RG w' rb' cap' R.1.1 ∧ Ch [] w w' ∧ (rb' = rb ∨ w.heap.size ≤ rb')
theorem set3_ch {w W : World} {b : Nat} {u v x : Value} (h : W = ((w.setCell ⟨b, 0, none⟩ u).setCell ⟨b, 1, none⟩ v).setCell ⟨b, 2, none⟩ x) : Ch [b] w W := by rw [h]; exact (((Ch.refl [b] _).setCell (by simp) _).setCell (by simp) _).setCell (by simp) _
section
set_option maxRecDepth 100000 in
set_option maxHeartbeats 2000000 in
theorem r23step_is {w : World} {rb cap q : Nat} {G : Gra} (h : RG w rb cap G) {rb2 cap2 : Nat} {G2 : Gra} (h2 : RG w rb2 cap2 G2) (r e : Nat) :
    Calls Tryz.prog 347 #[.agg #[.int .i64 G.most, .slice (some ⟨rb, 0, none⟩) G.nodes.length cap, .int .i64 q], .agg #[.int .i64 G2.most, .slice (some ⟨rb2, 0, none⟩) G2.nodes.length cap2], .int .i64 r, .int .i64 e] w fun en w' => ∃ rb' cap', en = .returned (.tuple #[.agg #[.int .i64 (rstep (G, q) (G2, r, e)).1.1.most, .slice (some ⟨rb', 0, none⟩) (rstep (G, q) (G2, r, e)).1.1.nodes.length cap', .int .i64 (rstep (G, q) (G2, r, e)).1.2], .int .i64 (rstep (G, q) (G2, r, e)).2]) ∧ RG w' rb' cap' (rstep (G, q) (G2, r, e)).1.1 ∧ Ch [] w w' ∧ (rb' = rb ∨ rb' = rb2) := by
  have HH := Lib.hid h
  have HH2 := Lib.hid h2
  by_cases hq : q = 0
  · subst hq
    by_cases he : e = 0
    · subst he
      rw [rstep_ok (s := (G, 0)) (R := (G2, r, 0)) rfl rfl]
      clear h h2
      go_enter Tryz.func347, Tryz.ntmps347
      go_wp2_with fail
      refine bodyPost_ret (v := .tuple #[.agg #[.int .i64 G2.most, .slice (some ⟨rb2, 0, none⟩) G2.nodes.length cap2, .int .i64 0], .int .i64 r]) (by simp [results, Tryz.results347, go_sem]) rfl ?_
      refine (fun hc : Ch [] w _ => ⟨rb2, cap2, rfl, HH2.out.ch hc (by simp), hc, .inr rfl⟩) ?_
      repeat (first | exact Ch.refl _ _ | refine Ch.alloc ?_ _ | refine Ch.setCell ?_ (.inr (by simp <;> omega)) _)
    · have d : ((e : Int) != 0) = true := by simp [he]
      rw [rstep_no (s := (G, 0)) (R := (G2, r, e)) rfl he]
      clear h h2 he
      go_enter Tryz.func347, Tryz.ntmps347
      go_wp2_with fail
      refine bodyPost_ret (v := .tuple #[.agg #[.int .i64 G.most, .slice (some ⟨rb, 0, none⟩) G.nodes.length cap, .int .i64 e], .int .i64 0]) (by simp [results, Tryz.results347, go_sem]) rfl ?_
      refine (fun hc : Ch [] w _ => ⟨rb, cap, rfl, HH.out.ch hc (by simp), hc, .inl rfl⟩) ?_
      repeat (first | exact Ch.refl _ _ | refine Ch.alloc ?_ _ | refine Ch.setCell ?_ (.inr (by simp <;> omega)) _)
  · have d : ((q : Int) != 0) = true := by simp [hq]
    have d2 : ((q : Int) == 0) = false := by simp [hq]
    rw [rstep_bad (s := (G, q)) hq]
    clear h h2 hq
    go_enter Tryz.func347, Tryz.ntmps347
    go_wp2_with fail
    refine bodyPost_ret (v := .tuple #[.agg #[.int .i64 G.most, .slice (some ⟨rb, 0, none⟩) G.nodes.length cap, .int .i64 q], .int .i64 0]) (by simp [results, Tryz.results347, go_sem]) rfl ?_
    refine (fun hc : Ch [] w _ => ⟨rb, cap, rfl, HH.out.ch hc (by simp), hc, .inl rfl⟩) ?_
    repeat (first | exact Ch.refl _ _ | refine Ch.alloc ?_ _ | refine Ch.setCell ?_ (.inr (by simp <;> omega)) _)
set_option maxRecDepth 100000 in
set_option maxHeartbeats 2000000 in
theorem r23And_is {w : World} {rb cap q : Nat} {G : Gra} (h : RG w rb cap G) {a b : Nat} (ha : a < 2 * G.nodes.length) (hb : b < 2 * G.nodes.length) :
    Calls Tryz.prog 333 #[.agg #[.int .i64 G.most, .slice (some ⟨rb, 0, none⟩) G.nodes.length cap, .int .i64 q], .int .i64 a, .int .i64 b] w (STo w rb (rstep (G, q) (and G a b))) := by
  have hrb := h.lt
  have hA := fun (W : World) (hc : Ch [] w W) => rAnd_is (h.ch hc (by simp)) ha hb
  generalize and G a b = X at *
  obtain ⟨G1, r1, e1⟩ := X
  have HA := Lib.hid hA; clear hA
  have H := Lib.hid h; clear h ha hb
  go_enter Tryz.func333, Tryz.ntmps333
  go_wp2_with fail
  refine calls_named fun W hW => ?_
  have b3 : blk W w.heap.size [.int .i64 G.most, .slice (some ⟨rb, 0, none⟩) G.nodes.length cap, .int .i64 q] := by rw [hW]; exact (blk.new' _ _ (by simp)).alloc _
  have b6 : blk W (w.heap.size + 1) [.int .i64 0, .slice none 0 0, .int .i64 0] := by rw [hW]; exact blk.new' _ _ (by simp)
  have hc : Ch [] w W := by rw [hW]; exact ((Ch.refl _ _).alloc _).alloc _
  clear hW
  refine (HA.out W hc).mono ?_
  rintro e w1 ⟨rb1, cap1, rfl, hrg1, hch1, hfr1⟩
  have hz := b6.lt
  have b3 := b3.ch hch1 (by simp)
  have b6 := b6.ch hch1 (by simp)
  have hz1 := b6.lt
  have hz0 := b3.lt
  have x0 := b3.cell (i := 0) rfl
  have x1 := b3.cell (i := 1) rfl
  have x2 := b3.cell (i := 2) rfl
  have hc1 := hc.trans hch1 (by simp)
  have B6 := Lib.hid b6; clear b6 b3
  have HC1 := Lib.hid hc1; clear hc1
  have HRG1 := Lib.hid hrg1; clear hrg1
  have hne : rb1 ≠ w.heap.size + 1 := by rcases hfr1 with e | e <;> omega
  have hfr2 : rb1 = rb ∨ w.heap.size ≤ rb1 := by have := hc.size; rcases hfr1 with e | e <;> omega
  clear hch1 hc HA hfr1
  go_wp2_with fail
  refine calls_named fun W2 hW2 => ?_
  have hc2 : Ch [] w1 W2 := by rw [hW2]; exact (Ch.refl _ _).alloc _
  clear hW2
  have hS := r23step_is (q := q) (H.out.ch (HC1.out.trans hc2 (by simp)) (by simp)) (HRG1.out.ch hc2 (by simp)) r1 e1
  refine hS.mono ?_
  rintro e w2 ⟨rb', cap', rfl, hrg', hch', hfr'⟩
  generalize rstep (G, q) (G1, r1, e1) = R at *
  have b6 := (B6.out.ch hc2 (by simp)).ch hch' (by simp)
  have z0 := b6.cell (i := 0) rfl
  have z1 := b6.cell (i := 1) rfl
  have z2 := b6.cell (i := 2) rfl
  have f0 := b6.frozen (i := 0)
  have f1 := b6.frozen (i := 1)
  have f2 := b6.frozen (i := 2)
  have HC2 := Lib.hid ((HC1.out.trans hc2 (by simp)).trans hch' (by simp))
  have HRG' := Lib.hid hrg'; clear hrg' hch' hc2 hS b6 B6 HC1 HRG1 x0 x1 x2
  go_wp2_with fail
  have hcc := set3_ch (w := w2) (b := w.heap.size + 1) (u := .int .i64 R.1.1.most) (v := .slice (some ⟨rb', 0, none⟩) R.1.1.nodes.length cap') (x := .int .i64 R.1.2) rfl
  refine bodyPost_ret (v := .tuple #[.agg #[.int .i64 R.1.1.most, .slice (some ⟨rb', 0, none⟩) R.1.1.nodes.length cap', .int .i64 R.1.2], .int .i64 R.2]) (by simp [results, Tryz.results333, go_sem, z0, z1, z2]) rfl ?_
  exact ⟨rb', cap', rfl, HRG'.out.ch hcc (by simp; rcases hfr' with e | e <;> omega), HC2.out.trans hcc (fun k hk => .inr (by simp at hk; omega)), by rcases hfr' with e | e <;> omega⟩
set_option maxRecDepth 100000 in
set_option maxHeartbeats 2000000 in
theorem r23Xor_is {w : World} {rb cap q : Nat} {G : Gra} (h : RG w rb cap G) {a b : Nat} (ha : a < 2 * G.nodes.length) (hb : b < 2 * G.nodes.length) :
    Calls Tryz.prog 343 #[.agg #[.int .i64 G.most, .slice (some ⟨rb, 0, none⟩) G.nodes.length cap, .int .i64 q], .int .i64 a, .int .i64 b] w (STo w rb (rstep (G, q) (rXor G a b))) := by
  have hrb := h.lt
  have hA := fun (W : World) (hc : Ch [] w W) => rXor_is (h.ch hc (by simp)) ha hb
  generalize rXor G a b = X at *
  obtain ⟨G1, r1, e1⟩ := X
  have HA := Lib.hid hA; clear hA
  have H := Lib.hid h; clear h ha hb
  go_enter Tryz.func343, Tryz.ntmps343
  go_wp2_with fail
  refine calls_named fun W hW => ?_
  have b3 : blk W w.heap.size [.int .i64 G.most, .slice (some ⟨rb, 0, none⟩) G.nodes.length cap, .int .i64 q] := by rw [hW]; exact (blk.new' _ _ (by simp)).alloc _
  have b6 : blk W (w.heap.size + 1) [.int .i64 0, .slice none 0 0, .int .i64 0] := by rw [hW]; exact blk.new' _ _ (by simp)
  have hc : Ch [] w W := by rw [hW]; exact ((Ch.refl _ _).alloc _).alloc _
  clear hW
  refine (HA.out W hc).mono ?_
  rintro e w1 ⟨rb1, cap1, rfl, hrg1, hch1, hfr1⟩
  have hz := b6.lt
  have b3 := b3.ch hch1 (by simp)
  have b6 := b6.ch hch1 (by simp)
  have hz1 := b6.lt
  have hz0 := b3.lt
  have x0 := b3.cell (i := 0) rfl
  have x1 := b3.cell (i := 1) rfl
  have x2 := b3.cell (i := 2) rfl
  have hc1 := hc.trans hch1 (by simp)
  have B6 := Lib.hid b6; clear b6 b3
  have HC1 := Lib.hid hc1; clear hc1
  have HRG1 := Lib.hid hrg1; clear hrg1
  have hne : rb1 ≠ w.heap.size + 1 := by rcases hfr1 with e | e <;> omega
  have hfr2 : rb1 = rb ∨ w.heap.size ≤ rb1 := by have := hc.size; rcases hfr1 with e | e <;> omega
  clear hch1 hc HA hfr1
  go_wp2_with fail
  refine calls_named fun W2 hW2 => ?_
  have hc2 : Ch [] w1 W2 := by rw [hW2]; exact (Ch.refl _ _).alloc _
  clear hW2
  have hS := r23step_is (q := q) (H.out.ch (HC1.out.trans hc2 (by simp)) (by simp)) (HRG1.out.ch hc2 (by simp)) r1 e1
  refine hS.mono ?_
  rintro e w2 ⟨rb', cap', rfl, hrg', hch', hfr'⟩
  generalize rstep (G, q) (G1, r1, e1) = R at *
  have b6 := (B6.out.ch hc2 (by simp)).ch hch' (by simp)
  have z0 := b6.cell (i := 0) rfl
  have z1 := b6.cell (i := 1) rfl
  have z2 := b6.cell (i := 2) rfl
  have f0 := b6.frozen (i := 0)
  have f1 := b6.frozen (i := 1)
  have f2 := b6.frozen (i := 2)
  have HC2 := Lib.hid ((HC1.out.trans hc2 (by simp)).trans hch' (by simp))
  have HRG' := Lib.hid hrg'; clear hrg' hch' hc2 hS b6 B6 HC1 HRG1 x0 x1 x2
  go_wp2_with fail
  have hcc := set3_ch (w := w2) (b := w.heap.size + 1) (u := .int .i64 R.1.1.most) (v := .slice (some ⟨rb', 0, none⟩) R.1.1.nodes.length cap') (x := .int .i64 R.1.2) rfl
  refine bodyPost_ret (v := .tuple #[.agg #[.int .i64 R.1.1.most, .slice (some ⟨rb', 0, none⟩) R.1.1.nodes.length cap', .int .i64 R.1.2], .int .i64 R.2]) (by simp [results, Tryz.results343, go_sem, z0, z1, z2]) rfl ?_
  exact ⟨rb', cap', rfl, HRG'.out.ch hcc (by simp; rcases hfr' with e | e <;> omega), HC2.out.trans hcc (fun k hk => .inr (by simp at hk; omega)), by rcases hfr' with e | e <;> omega⟩
set_option maxRecDepth 100000 in
set_option maxHeartbeats 2000000 in
theorem r23Mux_is {w : World} {rb cap q : Nat} {G : Gra} (h : RG w rb cap G) {c a b : Nat} (hc : c < 2 * G.nodes.length) (ha : a < 2 * G.nodes.length) (hb : b < 2 * G.nodes.length) :
    Calls Tryz.prog 332 #[.agg #[.int .i64 G.most, .slice (some ⟨rb, 0, none⟩) G.nodes.length cap, .int .i64 q], .int .i64 c, .int .i64 a, .int .i64 b] w (STo w rb (rstep (G, q) (rMux G c a b))) := by
  have hrb := h.lt
  have hA := fun (W : World) (h0 : Ch [] w W) => rMux_is (h.ch h0 (by simp)) hc ha hb
  generalize rMux G c a b = X at *
  obtain ⟨G1, r1, e1⟩ := X
  have HA := Lib.hid hA; clear hA
  have H := Lib.hid h; clear h hc ha hb
  go_enter Tryz.func332, Tryz.ntmps332
  go_wp2_with fail
  refine calls_named fun W hW => ?_
  have b3 : blk W w.heap.size [.int .i64 G.most, .slice (some ⟨rb, 0, none⟩) G.nodes.length cap, .int .i64 q] := by rw [hW]; exact (blk.new' _ _ (by simp)).alloc _
  have b6 : blk W (w.heap.size + 1) [.int .i64 0, .slice none 0 0, .int .i64 0] := by rw [hW]; exact blk.new' _ _ (by simp)
  have hc : Ch [] w W := by rw [hW]; exact ((Ch.refl _ _).alloc _).alloc _
  clear hW
  refine (HA.out W hc).mono ?_
  rintro e w1 ⟨rb1, cap1, rfl, hrg1, hch1, hfr1⟩
  have hz := b6.lt
  have b3 := b3.ch hch1 (by simp)
  have b6 := b6.ch hch1 (by simp)
  have hz1 := b6.lt
  have hz0 := b3.lt
  have x0 := b3.cell (i := 0) rfl
  have x1 := b3.cell (i := 1) rfl
  have x2 := b3.cell (i := 2) rfl
  have hc1 := hc.trans hch1 (by simp)
  have B6 := Lib.hid b6; clear b6 b3
  have HC1 := Lib.hid hc1; clear hc1
  have HRG1 := Lib.hid hrg1; clear hrg1
  have hne : rb1 ≠ w.heap.size + 1 := by rcases hfr1 with e | e <;> omega
  have hfr2 : rb1 = rb ∨ w.heap.size ≤ rb1 := by have := hc.size; rcases hfr1 with e | e <;> omega
  clear hch1 hc HA hfr1
  go_wp2_with fail
  refine calls_named fun W2 hW2 => ?_
  have hc2 : Ch [] w1 W2 := by rw [hW2]; exact (Ch.refl _ _).alloc _
  clear hW2
  have hS := r23step_is (q := q) (H.out.ch (HC1.out.trans hc2 (by simp)) (by simp)) (HRG1.out.ch hc2 (by simp)) r1 e1
  refine hS.mono ?_
  rintro e w2 ⟨rb', cap', rfl, hrg', hch', hfr'⟩
  generalize rstep (G, q) (G1, r1, e1) = R at *
  have b6 := (B6.out.ch hc2 (by simp)).ch hch' (by simp)
  have z0 := b6.cell (i := 0) rfl
  have z1 := b6.cell (i := 1) rfl
  have z2 := b6.cell (i := 2) rfl
  have f0 := b6.frozen (i := 0)
  have f1 := b6.frozen (i := 1)
  have f2 := b6.frozen (i := 2)
  have HC2 := Lib.hid ((HC1.out.trans hc2 (by simp)).trans hch' (by simp))
  have HRG' := Lib.hid hrg'; clear hrg' hch' hc2 hS b6 B6 HC1 HRG1 x0 x1 x2
  go_wp2_with fail
  have hcc := set3_ch (w := w2) (b := w.heap.size + 1) (u := .int .i64 R.1.1.most) (v := .slice (some ⟨rb', 0, none⟩) R.1.1.nodes.length cap') (x := .int .i64 R.1.2) rfl
  refine bodyPost_ret (v := .tuple #[.agg #[.int .i64 R.1.1.most, .slice (some ⟨rb', 0, none⟩) R.1.1.nodes.length cap', .int .i64 R.1.2], .int .i64 R.2]) (by simp [results, Tryz.results332, go_sem, z0, z1, z2]) rfl ?_
  exact ⟨rb', cap', rfl, HRG'.out.ch hcc (by simp; rcases hfr' with e | e <;> omega), HC2.out.trans hcc (fun k hk => .inr (by simp at hk; omega)), by rcases hfr' with e | e <;> omega⟩
set_option maxRecDepth 100000 in
set_option maxHeartbeats 2000000 in
theorem r23Any_is {w : World} {rb cap q : Nat} {G : Gra} (h : RG w rb cap G) {x : Option Addr} {l : List Nat} (n acap : Nat) (hn : l.length = n) (hs : Sl w x (l.map fun (r : Nat) => (r : Int))) (hr : ∀ r ∈ l, r < 2 * G.nodes.length) (hm : n ≤ 1000000) :
    Calls Tryz.prog 345 #[.agg #[.int .i64 G.most, .slice (some ⟨rb, 0, none⟩) G.nodes.length cap, .int .i64 q], .slice x n acap] w (STo w rb (rstep (G, q) (rAny G l))) := by
  have hrb := h.lt
  have hA := fun (W : World) (h0 : Ch [] w W) => rAny_is (h.ch h0 (by simp)) n acap hn (hs.ch h0 (by simp)) hr hm
  generalize rAny G l = X at *
  obtain ⟨G1, r1, e1⟩ := X
  have HA := Lib.hid hA; clear hA
  have H := Lib.hid h; clear h hs hr hn
  go_enter Tryz.func345, Tryz.ntmps345
  go_wp2_with fail
  refine calls_named fun W hW => ?_
  have b3 : blk W w.heap.size [.int .i64 G.most, .slice (some ⟨rb, 0, none⟩) G.nodes.length cap, .int .i64 q] := by rw [hW]; exact (blk.new' _ _ (by simp)).alloc _
  have b6 : blk W (w.heap.size + 1) [.int .i64 0, .slice none 0 0, .int .i64 0] := by rw [hW]; exact blk.new' _ _ (by simp)
  have hc : Ch [] w W := by rw [hW]; exact ((Ch.refl _ _).alloc _).alloc _
  clear hW
  refine (HA.out W hc).mono ?_
  rintro e w1 ⟨rb1, cap1, rfl, hrg1, hch1, hfr1⟩
  have hz := b6.lt
  have b3 := b3.ch hch1 (by simp)
  have b6 := b6.ch hch1 (by simp)
  have hz1 := b6.lt
  have hz0 := b3.lt
  have x0 := b3.cell (i := 0) rfl
  have x1 := b3.cell (i := 1) rfl
  have x2 := b3.cell (i := 2) rfl
  have hc1 := hc.trans hch1 (by simp)
  have B6 := Lib.hid b6; clear b6 b3
  have HC1 := Lib.hid hc1; clear hc1
  have HRG1 := Lib.hid hrg1; clear hrg1
  have hne : rb1 ≠ w.heap.size + 1 := by rcases hfr1 with e | e <;> omega
  have hfr2 : rb1 = rb ∨ w.heap.size ≤ rb1 := by have := hc.size; rcases hfr1 with e | e <;> omega
  clear hch1 hc HA hfr1
  go_wp2_with fail
  refine calls_named fun W2 hW2 => ?_
  have hc2 : Ch [] w1 W2 := by rw [hW2]; exact (Ch.refl _ _).alloc _
  clear hW2
  have hS := r23step_is (q := q) (H.out.ch (HC1.out.trans hc2 (by simp)) (by simp)) (HRG1.out.ch hc2 (by simp)) r1 e1
  refine hS.mono ?_
  rintro e w2 ⟨rb', cap', rfl, hrg', hch', hfr'⟩
  generalize rstep (G, q) (G1, r1, e1) = R at *
  have b6 := (B6.out.ch hc2 (by simp)).ch hch' (by simp)
  have z0 := b6.cell (i := 0) rfl
  have z1 := b6.cell (i := 1) rfl
  have z2 := b6.cell (i := 2) rfl
  have f0 := b6.frozen (i := 0)
  have f1 := b6.frozen (i := 1)
  have f2 := b6.frozen (i := 2)
  have HC2 := Lib.hid ((HC1.out.trans hc2 (by simp)).trans hch' (by simp))
  have HRG' := Lib.hid hrg'; clear hrg' hch' hc2 hS b6 B6 HC1 HRG1 x0 x1 x2
  go_wp2_with fail
  have hcc := set3_ch (w := w2) (b := w.heap.size + 1) (u := .int .i64 R.1.1.most) (v := .slice (some ⟨rb', 0, none⟩) R.1.1.nodes.length cap') (x := .int .i64 R.1.2) rfl
  refine bodyPost_ret (v := .tuple #[.agg #[.int .i64 R.1.1.most, .slice (some ⟨rb', 0, none⟩) R.1.1.nodes.length cap', .int .i64 R.1.2], .int .i64 R.2]) (by simp [results, Tryz.results345, go_sem, z0, z1, z2]) rfl ?_
  exact ⟨rb', cap', rfl, HRG'.out.ch hcc (by simp; rcases hfr' with e | e <;> omega), HC2.out.trans hcc (fun k hk => .inr (by simp at hk; omega)), by rcases hfr' with e | e <;> omega⟩
end
end Go.Proofs.YtehljgigebhddaaGreat
namespace Go.Aig
theorem eachF_sok' {G : Gra} {s : Mk} (hs : SOk G s) {f : Gra → Nat → Nat → Res} (hf : Full2 f) (l : List (Nat × Nat)) (hl : ∀ p ∈ l, p.1 < 2 * s.1.nodes.length ∧ p.2 < 2 * s.1.nodes.length) : LOk s.1 (eachF (rop f) s l) := by
  have : ∀ (l : List (Nat × Nat)) (q : Mk × List Nat), LOk s.1 q → (∀ p ∈ l, p.1 < 2 * s.1.nodes.length ∧ p.2 < 2 * s.1.nodes.length) → LOk s.1 (l.foldl (eachS (rop f)) q) := by
    intro l
    induction l with
    | nil => intro q h _; exact h
    | cons p l ih =>
      intro q h hl
      obtain ⟨h1, h2⟩ := hl p (List.mem_cons_self ..)
      obtain ⟨k1, k2, k3⟩ := rstep_sok h.s (Y := f q.1.1 p.1 p.2) (fun _ => hf q.1.1 h.s.ok p.1 p.2 (h.s.ext.lt h1) (h.s.ext.lt h2))
      exact ih _ (LOk.snoc h k1 k3 k2) (fun p hp => hl p (List.mem_cons_of_mem _ hp))
  exact this l _ ⟨⟨hs.ok, .refl _, hs.err⟩, by simp⟩ hl
theorem eachF_len' (op : Mk → Nat → Nat → Mk × Nat) (s : Mk) (l : List (Nat × Nat)) : (eachF op s l).2.length = l.length := by
  have : ∀ (l : List (Nat × Nat)) (q : Mk × List Nat), (l.foldl (eachS op) q).2.length = q.2.length + l.length := by
    intro l
    induction l with
    | nil => intro q; rfl
    | cons p l ih => intro q; rw [List.foldl_cons, ih]; simp [eachS]; omega
  have h := this l (s, [])
  rw [List.length_nil, Nat.zero_add] at h
  exact h
end Go.Aig
namespace Go.Proofs.YtehljgigebhddaaGreat
open Go.RowKit Go.Mem Go.Aig
theorem natInts_snoc' (l : List Nat) (r : Nat) : intCells (natInts (l ++ [r])) = intCells (natInts l) ++ [.int .i64 r] := by simp [intCells, natInts]
theorem sl_lt' {w : World} {a : Option Addr} {l : List Int} (h : Sl w a l) (h0 : 0 < l.length) : ∀ p, a = some p → p.block < w.heap.size := fun p hp => by
  obtain ⟨b, o, e, hc⟩ := h.cells 0 _ (List.getElem?_eq_getElem h0)
  rw [hp] at e; cases e
  exact cell_lt hc
theorem set3_blk {w W : World} {b : Nat} {c0 c1 c2 u v x : Value} (h : blk w b [c0, c1, c2]) (hW : W = ((w.setCell ⟨b, 0, none⟩ u).setCell ⟨b, 1, none⟩ v).setCell ⟨b, 2, none⟩ x) : blk W b [u, v, x] := by
  rw [hW]; exact ((h.set (i := 0) _).set (i := 1) _).set (i := 2) _
structure RSt (w W : World) (rb0 rb cap : Nat) (s : Mk) (v : Value) (l : List Nat) : Prop where
  ch : Ch [] w W
  rg : RG W rb cap s.1
  fr : rb = rb0 ∨ w.heap.size + 2 ≤ rb
  b4 : blk W w.heap.size [.int .i64 s.1.most, .slice (some ⟨rb, 0, none⟩) s.1.nodes.length cap, .int .i64 s.2]
  b8 : blk W (w.heap.size + 1) [.int .i64 0, .slice none 0 0, .int .i64 0]
  rw : row W 3 1 v l.length (intCells (natInts l))
  own : ∀ q, v.ownBlock = some q → w.heap.size + 2 ≤ q ∧ q ≠ rb
  low : rb0 < w.heap.size
theorem RSt.start {w W : World} {rb cap : Nat} {G : Gra} {q : Nat} (h : RG w rb cap G) {o : Obj} (hW : W = (w.alloc o).alloc (.cells #[.int .i64 0, .slice none 0 0, .int .i64 0] 214)) (ho : o = .cells #[.int .i64 G.most, .slice (some ⟨rb, 0, none⟩) G.nodes.length cap, .int .i64 q] 214) : RSt w W rb rb cap (G, q) (.slice none 0 0) [] := by
  subst ho
  have hc : Ch [] w W := by rw [hW]; exact ((Ch.refl _ _).alloc _).alloc _
  refine ⟨hc, h.ch hc (by simp), .inl rfl, by rw [hW]; exact (blk.new' _ _ rfl).alloc _, by rw [hW]; exact blk.new' _ _ (by simp), ⟨rfl, .inl ⟨rfl, rfl⟩⟩, by simp [Value.ownBlock], h.lt⟩
section
variable {w W W' : World} {rb0 rb cap : Nat} {s : Mk} {v : Value} {l : List Nat}
theorem RSt.same (h : RSt w W rb0 rb cap s v l) (hc : Ch [] W W') : RSt w W' rb0 rb cap s v l :=
  ⟨h.ch.trans hc (by simp), h.rg.ch hc (by simp), h.fr, h.b4.ch hc (by simp), h.b8.ch hc (by simp), h.rw.ch hc (by simp), h.own, h.low⟩
theorem RSt.lt (h : RSt w W rb0 rb cap s v l) : w.heap.size + 2 ≤ W.heap.size := h.b8.lt
theorem RSt.put {Wb : World} {rb' cap' q' : Nat} {G' : Gra} (h : RSt w Wb rb0 rb cap s v l) (hc : Ch [] Wb W) (hr : RG W rb' cap' G') (hf : rb' = rb ∨ Wb.heap.size ≤ rb')
    (hW : W' = ((W.setCell ⟨w.heap.size, 0, none⟩ (.int .i64 G'.most)).setCell ⟨w.heap.size, 1, none⟩ (.slice (some ⟨rb', 0, none⟩) G'.nodes.length cap')).setCell ⟨w.heap.size, 2, none⟩ (.int .i64 q')) : RSt w W' rb0 rb' cap' (G', q') v l := by
  have hcs := set3_ch hW
  have hlo := h.lt
  have hfr := h.fr
  have hl0 := h.low
  refine ⟨(h.ch.trans hc (by simp)).trans hcs (fun k hk => .inr (by simp at hk; omega)), hr.ch hcs (by simp; rcases hf with e | e <;> omega), by rcases hf with e | e <;> omega, set3_blk (h.b4.ch hc (by simp)) hW, (h.b8.ch hc (by simp)).ch hcs (by simp), (h.rw.ch hc (by simp)).ch hcs (fun k hk => by have := (h.own k hk).1; simp; omega), fun q hq => ⟨(h.own q hq).1, ?_⟩, hl0⟩
  have h1 := (h.own q hq).2
  have h2 := (h.rw.lt q hq).2
  rcases hf with e | e <;> omega
theorem RSt.app {na : Option Addr} {nc r : Nat} {o : Obj} {wz : World} {v' : Value} (h : RSt w W rb0 rb cap s (.slice na l.length nc) l) (hrow : row wz 3 1 v' (l.length + 1) (intCells (natInts l) ++ [.int .i64 r]))
    (hc : Ch (Value.slice na l.length nc).ownBlock.toList (W.alloc o) wz) (hf : ∀ k, v'.ownBlock = some k → (Value.slice na l.length nc).ownBlock = some k ∨ (W.alloc o).heap.size ≤ k) : RSt w wz rb0 rb cap s v' (l ++ [r]) := by
  have hcA : Ch [] W (W.alloc o) := (Ch.refl _ _).alloc _
  have hA := h.same hcA
  have hlo := h.lt
  have hown : ∀ k ∈ (Value.slice na l.length nc).ownBlock.toList, w.heap.size + 2 ≤ k ∧ k ≠ rb := fun k hk => h.own k (by simpa using hk)
  have hz := hcA.size
  have hzz := hc.size
  have hrl := h.rg.lt
  refine ⟨hA.ch.trans hc (fun k hk => .inr (by have := hown k hk; omega)), hA.rg.ch hc (fun hk => (hown _ hk).2 rfl), h.fr, hA.b4.ch hc (fun hk => by have := hown _ hk; omega), hA.b8.ch hc (fun hk => by have := hown _ hk; omega), ?_, fun q hq => ?_, h.low⟩
  · rw [natInts_snoc', List.length_append]; exact hrow
  · rcases hf q hq with e | e
    · exact h.own q e
    · exact ⟨by omega, by omega⟩
end
def TS (wr wd : World) (rbk : Nat) (R : Mk × Nat) (p q : Value) : Prop := ∃ rb' cap' b9, p = .pointer (some ⟨b9, 0, none⟩) ∧ q = .int .i64 R.2 ∧ Ch [] wr wd ∧ RG wd rb' cap' R.1.1 ∧ (rb' = rbk ∨ wr.heap.size ≤ rb') ∧
  blk wd b9 [.int .i64 R.1.1.most, .slice (some ⟨rb', 0, none⟩) R.1.1.nodes.length cap', .int .i64 R.1.2] ∧ wr.heap.size ≤ b9
theorem TS.mk {wr W W8 : World} {rbk : Nat} {R : Mk × Nat} {rb' cap' b9 : Nat} {c0 c1 c2 : Value} (hc : Ch [] wr W) (hr : RG W rb' cap' R.1.1) (hf : rb' = rbk ∨ wr.heap.size ≤ rb') (hb : blk W b9 [c0, c1, c2]) (hlo : wr.heap.size ≤ b9) (hne : rb' ≠ b9)
    (hW : W8 = ((W.setCell ⟨b9, 0, none⟩ (.int .i64 R.1.1.most)).setCell ⟨b9, 1, none⟩ (.slice (some ⟨rb', 0, none⟩) R.1.1.nodes.length cap')).setCell ⟨b9, 2, none⟩ (.int .i64 R.1.2)) :
    TS wr W8 rbk R (.pointer (some ⟨b9, 0, none⟩)) (.int .i64 R.2) := by
  have hcs := set3_ch hW
  exact ⟨rb', cap', b9, rfl, rfl, hc.trans hcs (fun k hk => .inr (by simp at hk; omega)), hr.ch hcs (by simpa using hne), hf, set3_blk hb hW, hlo⟩
def LTo (w : World) (rb : Nat) (R : Mk × List Nat) (e : Ending) (w' : World) : Prop := ∃ rb' cap' a c, e = .returned (.tuple #[.agg #[.int .i64 R.1.1.most, .slice (some ⟨rb', 0, none⟩) R.1.1.nodes.length cap', .int .i64 R.1.2], .slice a R.2.length c]) ∧ RG w' rb' cap' R.1.1 ∧ Ch [] w w' ∧ (rb' = rb ∨ w.heap.size ≤ rb') ∧ row w' 3 1 (.slice a R.2.length c) R.2.length (intCells (natInts R.2)) ∧ ∀ q, (Value.slice a R.2.length c).ownBlock = some q → w.heap.size ≤ q ∧ q ≠ rb'
section
variable {w W W' : World} {rb0 rb cap : Nat} {s : Mk} {v : Value} {l : List Nat}
theorem RSt.fin {na : Option Addr} {nc : Nat} (h : RSt w W rb0 rb cap s (.slice na l.length nc) l) (hW : W' = ((W.setCell ⟨w.heap.size + 1, 0, none⟩ (.int .i64 s.1.most)).setCell ⟨w.heap.size + 1, 1, none⟩ (.slice (some ⟨rb, 0, none⟩) s.1.nodes.length cap)).setCell ⟨w.heap.size + 1, 2, none⟩ (.int .i64 s.2)) :
    LTo w rb0 (s, l) (.returned (.tuple #[.agg #[.int .i64 s.1.most, .slice (some ⟨rb, 0, none⟩) s.1.nodes.length cap, .int .i64 s.2], .slice na l.length nc])) W' := by
  have hcs := set3_ch hW
  have hfr := h.fr
  have hl0 := h.low
  exact ⟨rb, cap, na, nc, rfl, h.rg.ch hcs (by simp; omega), h.ch.trans hcs (fun k hk => .inr (by simp at hk; omega)), by omega, h.rw.ch hcs (fun k hk => by have := (h.own k hk).1; simp; omega), fun q hq => ⟨by have := (h.own q hq).1; omega, (h.own q hq).2⟩⟩
theorem RSt.finS (h : RSt w W rb0 rb cap s v l) {r : Nat} (hW : W' = ((W.setCell ⟨w.heap.size + 1, 0, none⟩ (.int .i64 s.1.most)).setCell ⟨w.heap.size + 1, 1, none⟩ (.slice (some ⟨rb, 0, none⟩) s.1.nodes.length cap)).setCell ⟨w.heap.size + 1, 2, none⟩ (.int .i64 s.2)) :
    STo w rb0 (s, r) (.returned (.tuple #[.agg #[.int .i64 s.1.most, .slice (some ⟨rb, 0, none⟩) s.1.nodes.length cap, .int .i64 s.2], .int .i64 r])) W' := by
  have hcs := set3_ch hW
  have hfr := h.fr
  have hl0 := h.low
  exact ⟨rb, cap, rfl, h.rg.ch hcs (by simp; omega), h.ch.trans hcs (fun k hk => .inr (by simp at hk; omega)), by omega⟩
end
end Go.Proofs.YtehljgigebhddaaGreat
namespace Go.Aig
def negS (R : Mk × Nat) : Mk × Nat := (R.1, neg R.2)
def subW (n : Nat) (s : Mk) (x y : List Nat) : Mk × List Nat := sumW n s (x.zip (y.map neg)) 1
end Go.Aig
namespace Go.Proofs.YtehljgigebhddaaGreat
open Go.RowKit Go.Mem Go.Aig
section
variable {w W w1 W' : World} {rb0 rb cap : Nat} {s : Mk} {v : Value} {l : List Nat}
theorem RSt.outL (h : RSt w W rb0 rb cap s v l) {R : Mk × List Nat} {rb' cap' : Nat} {a : Option Addr} {c : Nat} (hr : RG w1 rb' cap' R.1.1) (hc : Ch [] W w1) (hf : rb' = rb ∨ W.heap.size ≤ rb') (hrow : row w1 3 1 (.slice a R.2.length c) R.2.length (intCells (natInts R.2))) (hown : ∀ q, (Value.slice a R.2.length c).ownBlock = some q → W.heap.size ≤ q ∧ q ≠ rb')
    (hW : W' = ((w1.setCell ⟨w.heap.size + 1, 0, none⟩ (.int .i64 R.1.1.most)).setCell ⟨w.heap.size + 1, 1, none⟩ (.slice (some ⟨rb', 0, none⟩) R.1.1.nodes.length cap')).setCell ⟨w.heap.size + 1, 2, none⟩ (.int .i64 R.1.2)) :
    LTo w rb0 R (.returned (.tuple #[.agg #[.int .i64 R.1.1.most, .slice (some ⟨rb', 0, none⟩) R.1.1.nodes.length cap', .int .i64 R.1.2], .slice a R.2.length c])) W' := by
  have hcs := set3_ch hW
  have hfr := h.fr
  have hl0 := h.low
  have hlt := h.lt
  refine ⟨rb', cap', a, c, rfl, hr.ch hcs (by simp; omega), (h.ch.trans hc (by simp)).trans hcs (fun k hk => .inr (by simp at hk; omega)), by omega, hrow.ch hcs (fun k hk => ?_), fun q hq => ?_⟩
  · have := (hown k hk).1; simp; omega
  · have := hown q hq; omega
theorem RSt.outS (h : RSt w W rb0 rb cap s v l) {R : Mk × Nat} {rb' cap' : Nat} (hr : RG w1 rb' cap' R.1.1) (hc : Ch [] W w1) (hf : rb' = rb ∨ W.heap.size ≤ rb')
    (hW : W' = ((w1.setCell ⟨w.heap.size + 1, 0, none⟩ (.int .i64 R.1.1.most)).setCell ⟨w.heap.size + 1, 1, none⟩ (.slice (some ⟨rb', 0, none⟩) R.1.1.nodes.length cap')).setCell ⟨w.heap.size + 1, 2, none⟩ (.int .i64 R.1.2)) :
    STo w rb0 R (.returned (.tuple #[.agg #[.int .i64 R.1.1.most, .slice (some ⟨rb', 0, none⟩) R.1.1.nodes.length cap', .int .i64 R.1.2], .int .i64 R.2])) W' := by
  have hcs := set3_ch hW
  have hfr := h.fr
  have hl0 := h.low
  have hlt := h.lt
  exact ⟨rb', cap', rfl, hr.ch hcs (by simp; omega), (h.ch.trans hc (by simp)).trans hcs (fun k hk => .inr (by simp at hk; omega)), by omega⟩
end
section
variable {w : World} {rb cap : Nat} {G : Gra}
end
end Go.Proofs.YtehljgigebhddaaGreat
namespace Go.Aig
def RF (k : Nat) (G : Gra) (X Y : List Nat) (n : Nat) : Mk × List Nat × Nat :=
  match k with
  | 0 => ((G, 0), X.map neg, 0)
  | 1 => ((subW X.length (G, 0) (List.replicate X.length 0) X).1, (subW X.length (G, 0) (List.replicate X.length 0) X).2, 0)
  | 2 => ((eachF (rop and) (G, 0) (X.zip Y)).1, (eachF (rop and) (G, 0) (X.zip Y)).2, 0)
  | 3 => ((eachF (rop rOr) (G, 0) (X.zip Y)).1, (eachF (rop rOr) (G, 0) (X.zip Y)).2, 0)
  | 4 => ((eachF (rop rXor) (G, 0) (X.zip Y)).1, (eachF (rop rXor) (G, 0) (X.zip Y)).2, 0)
  | 5 => ((sumW X.length (G, 0) (X.zip Y) 0).1, (sumW X.length (G, 0) (X.zip Y) 0).2, 0)
  | 6 => ((subW X.length (G, 0) X Y).1, (subW X.length (G, 0) X Y).2, 0)
  | 7 => ((negS (neF (G, 0) (X.zip Y))).1, [], (negS (neF (G, 0) (X.zip Y))).2)
  | 8 => ((neF (G, 0) (X.zip Y)).1, [], (neF (G, 0) (X.zip Y)).2)
  | 9 => ((ltF (G, 0) (X.zip Y)).1, [], (ltF (G, 0) (X.zip Y)).2)
  | 10 => ((negS (ltF (G, 0) (Y.zip X))).1, [], (negS (ltF (G, 0) (Y.zip X))).2)
  | 11 => ((Go.Aig.sAny (G, 0) X).1, [], (Go.Aig.sAny (G, 0) X).2)
  | _ => ((inF (G, 0) n).1, (inF (G, 0) n).2, 0)
end Go.Aig
namespace Go.Proofs.YtehljgigebhddaaGreat
open Go.RowKit Go.Mem Go.Aig
section
variable {w : World} {g : Nat} {G : Gra} {F : List Nat}
end
end Go.Proofs.YtehljgigebhddaaGreat
namespace Go.Aig
theorem node_tells {G : Gra} (h : Ok G) {n : Nat} {x : Nd} (hx : G.nodes[n]? = some x) : kindOf G.nodes ((2 * n : Nat) : Int) = x.k ∧ lOf G.nodes ((2 * n : Nat) : Int) = x.l ∧ rOf G.nodes ((2 * n : Nat) : Int) = x.r ∧ x.k ≤ 3 := by
  have hn : nodeAt G.nodes ((2 * n : Nat) : Int) = some x := by
    unfold nodeAt
    rw [if_pos (by omega), Int.toNat_natCast, show 2 * n / 2 = n by omega, hx]
  unfold kindOf lOf rOf
  rw [hn]
  refine ⟨rfl, ?_, ?_, ?_⟩
  · show (if x.k = 3 then x.l else 0) = x.l
    by_cases h0 : n = 0
    · subst h0; rw [h.wf.const] at hx; cases hx; rfl
    · rcases h.wf.other n x hx (by omega) with e | e
      · rw [e]; rfl
      · rw [if_pos e.1]
  · show (if x.k = 3 then x.r else 0) = x.r
    by_cases h0 : n = 0
    · subst h0; rw [h.wf.const] at hx; cases hx; rfl
    · rcases h.wf.other n x hx (by omega) with e | e
      · rw [e]; rfl
      · rw [if_pos e.1]
  · by_cases h0 : n = 0
    · subst h0; rw [h.wf.const] at hx; cases hx; decide
    · rcases h.wf.other n x hx (by omega) with e | e
      · rw [e]; decide
      · omega
end Go.Aig
namespace Go.Proofs.YtehljgigebhddaaGreat
open Go.RowKit Go.Mem Go.Aig
section
variable {w : World} {g : Nat} {G : Gra} {F : List Nat}
theorem Room_j (h : GIn w g G F) : Calls Tryz.prog 202 #[.pointer (some ⟨g, 0, none⟩)] w fun e w' => e = .returned (.int .i64 ((G.most : Int) - G.nodes.length)) ∧ Ch [] w w' := by
  have hr := h.ok.room
  have hc := Room_g h
  rw [show ((G.most - G.nodes.length : Nat) : Int) = (G.most : Int) - G.nodes.length by omega] at hc
  exact hc
set_option maxRecDepth 100000 in
set_option maxHeartbeats 4000000 in
theorem Same23_is (h : GIn w g G F) {rb cap : Nat} (hr : RG w rb cap G) :
    Calls Tryz.prog 75 #[.pointer (some ⟨g, 0, none⟩), .agg #[.int .i64 G.most, .slice (some ⟨rb, 0, none⟩) G.nodes.length cap]] w fun e w' => e = .returned (.bool true) ∧ Ch [] w w' := by
  obtain ⟨hl, hp, hmo⟩ := hr.len
  have hle := hr.le
  have hmx := hr.mx
  have hml : (G.nodes.length : Int) ≤ G.most := by have := hr.ok.room; omega
  have htl := fun n x (hx : G.nodes[n]? = some x) => node_tells hr.ok hx
  have HTL := Lib.hid htl; clear htl
  have H := Lib.hid h; clear h
  have HR := Lib.hid hr; clear hr
  go_enter Tryz.func75, Tryz.ntmps75
  go_upto_region 1 with fail
  refine wp_alw ?_
  intro W0 hW0
  have hc0 : Ch [] w W0 := by rw [hW0]; exact (Ch.refl _ _).alloc _
  have b3 : blk W0 w.heap.size [.int .i64 G.most, .slice (some ⟨rb, 0, none⟩) G.nodes.length cap] := by rw [hW0]; exact blk.new' (w := w) [.int .i64 G.most, .slice (some ⟨rb, 0, none⟩) G.nodes.length cap] 123 rfl
  clear hW0
  have hg0 := H.out.same hc0 (by simp)
  have hLen := Len_g (hg0.same (Ch.refl [] W0).drew (by simp))
  have hRoom := Room_j (hg0.same (Ch.refl [] W0).drew (by simp))
  have HLEN := Lib.hid hLen; clear hLen
  have HROOM := Lib.hid hRoom; clear hRoom hg0
  have y0 := b3.cell (i := 0) rfl
  have y1 := b3.cell (i := 1) rfl
  have BB3 := Lib.hid b3; clear b3
  have HC0 := Lib.hid hc0; clear hc0
  go_wp2_with fail
  have hcurd : Ch [] W0 W0.drew := (Ch.refl [] W0).drew
  refine Ord.St.door (fun w' => Ch [] W0 w') [.fl, .rd, .fl, .rd, .fl, .fl, .fl, .fl, .ef, .fl, .ho, .fl, .ho, .fl, .fl, .fl, .fl] [0, 1, 0, 4, 12, 31, 63, 127, 255, 127, 639, 127, 2175, 6271, 15999, 32767, 65535] [0, 1, 2, 3, 4, 5, 6, 7, 8, 9, 10, 11, 12, 13, 14, 15, 16] mixed (by kernel_rfl) rfl ?_
  refine Ord.St.fl2 (T' := ?_) 0 [1, 2, 3, 4, 5, 6, 7, 8, 9, 10, 11, 12, 13, 14, 15, 16] _ _ rfl (by kernel_rfl) rfl rfl rfl rfl (fun K w' hk => ?_) ?_
  rotate_left
  · go_step; exact hk
  refine Ord.St.rd2 (T' := ?_) 1 [2, 3, 4, 5, 6, 7, 8, 9, 10, 11, 12, 13, 14, 15, 16] _ _ rfl (by kernel_rfl) rfl rfl rfl rfl (fun K hk => ?_) ?_
  rotate_left
  · go_step; refine HLEN.out.mono ?_; rintro e w'' ⟨rfl, rfl⟩; exact hk
  refine Ord.St.fl2 (T' := ?_) 2 [3, 4, 5, 6, 7, 8, 9, 10, 11, 12, 13, 14, 15, 16] _ _ rfl (by kernel_rfl) rfl rfl rfl rfl (fun K w' hk => ?_) ?_
  rotate_left
  · go_step; exact hk
  refine Ord.St.rd2 (T' := ?_) 3 [4, 5, 6, 7, 8, 9, 10, 11, 12, 13, 14, 15, 16] _ _ rfl (by kernel_rfl) rfl rfl rfl rfl (fun K hk => ?_) ?_
  rotate_left
  · go_step; exact hk
  refine Ord.St.fl2 (T' := ?_) 4 [5, 6, 7, 8, 9, 10, 11, 12, 13, 14, 15, 16] _ _ rfl (by kernel_rfl) rfl rfl rfl rfl (fun K w' hk => ?_) ?_
  rotate_left
  · go_step; exact hk
  refine Ord.St.fl2 (T' := ?_) 5 [6, 7, 8, 9, 10, 11, 12, 13, 14, 15, 16] _ _ rfl (by kernel_rfl) rfl rfl rfl rfl (fun K w' hk => ?_) ?_
  rotate_left
  · go_step; exact hk
  refine Ord.St.fl2 (T' := ?_) 6 [7, 8, 9, 10, 11, 12, 13, 14, 15, 16] _ _ rfl (by kernel_rfl) rfl rfl rfl rfl (fun K w' hk => ?_) ?_
  rotate_left
  · go_step; exact hk
  first | (refine Ord.St.fl2 (T' := ?_) 7 [8, 9, 10, 11, 12, 13, 14, 15, 16] _ _ rfl (by kernel_rfl) ?_ rfl rfl rfl (fun K w' hk => ?_) ?_; rotate_left; (first | rfl | (simp [Region.wanted, yielded, *]; done)); focus (go_step; exact hk)) | (refine Ord.St.skip 7 [8, 9, 10, 11, 12, 13, 14, 15, 16] _ rfl (by kernel_rfl) ?_ (fun K hK => ?_); (first | rfl | (simp [Region.wanted, yielded, *]; done)); go_simp; refine hK _ ?_; clear hK K)
  first | (refine Ord.St.fl2 (T' := ?_) 9 [8, 10, 11, 12, 13, 14, 15, 16] _ _ rfl (by kernel_rfl) ?_ rfl rfl rfl (fun K w' hk => ?_) ?_; rotate_left; (first | rfl | (simp [Region.wanted, yielded, *]; done)); focus (go_step; exact hk)) | (refine Ord.St.skip 9 [8, 10, 11, 12, 13, 14, 15, 16] _ rfl (by kernel_rfl) ?_ (fun K hK => ?_); (first | rfl | (simp [Region.wanted, yielded, *]; done)); go_simp; refine hK _ ?_; clear hK K)
  refine Ord.St.ho2 (T' := ?_) 10 [8, 11, 12, 13, 14, 15, 16] _ _ rfl (by kernel_rfl) (by first | rfl | simp [Region.wanted, yielded, *]) rfl rfl rfl ?_ (fun K w' hw' hk => ?_) ?_
  rotate_left
  · trivial
  · have z0 := (BB3.out.ch hw' (by simp)).cell (i := 0) rfl; have z1 := (BB3.out.ch hw' (by simp)).cell (i := 1) rfl; go_step; exact hk
  first | (refine Ord.St.fl2 (T' := ?_) 11 [8, 12, 13, 14, 15, 16] _ _ rfl (by kernel_rfl) ?_ rfl rfl rfl (fun K w' hk => ?_) ?_; rotate_left; (first | rfl | (simp [Region.wanted, yielded, *]; done)); focus (go_step; exact hk)) | (refine Ord.St.skip 11 [8, 12, 13, 14, 15, 16] _ rfl (by kernel_rfl) ?_ (fun K hK => ?_); (first | rfl | (simp [Region.wanted, yielded, *]; done)); go_simp; refine hK _ ?_; clear hK K)
  refine Ord.St.ho2 (T' := ?_) 12 [8, 13, 14, 15, 16] _ _ rfl (by kernel_rfl) (by first | rfl | simp [Region.wanted, yielded, *]) rfl rfl rfl ?_ (fun K w' hw' hk => ?_) ?_
  rotate_left
  · trivial
  · have z0 := (BB3.out.ch hw' (by simp)).cell (i := 0) rfl; have z1 := (BB3.out.ch hw' (by simp)).cell (i := 1) rfl; go_step; exact hk
  first | (refine Ord.St.fl2 (T' := ?_) 13 [8, 14, 15, 16] _ _ rfl (by kernel_rfl) ?_ rfl rfl rfl (fun K w' hk => ?_) ?_; rotate_left; (first | rfl | (simp [Region.wanted, yielded, *]; done)); focus (go_step; exact hk)) | (refine Ord.St.skip 13 [8, 14, 15, 16] _ rfl (by kernel_rfl) ?_ (fun K hK => ?_); (first | rfl | (simp [Region.wanted, yielded, *]; done)); go_simp; refine hK _ ?_; clear hK K)
  first | (refine Ord.St.fl2 (T' := ?_) 14 [8, 15, 16] _ _ rfl (by kernel_rfl) ?_ rfl rfl rfl (fun K w' hk => ?_) ?_; rotate_left; (first | rfl | (simp [Region.wanted, yielded, *]; done)); focus (go_step; exact hk)) | (refine Ord.St.skip 14 [8, 15, 16] _ rfl (by kernel_rfl) ?_ (fun K hK => ?_); (first | rfl | (simp [Region.wanted, yielded, *]; done)); go_simp; refine hK _ ?_; clear hK K)
  refine Ord.St.efC 8 [15, 16] _ rfl (by kernel_rfl) (fun K hK => ?_)
  go_wp2_with fail
  refine HROOM.out.mono ?_
  rintro e w2 ⟨rfl, hc2⟩
  have hcur : Ch [] W0 w2 := (Ch.refl [] W0).drew.trans hc2 (by simp)
  have b3 := BB3.out.ch hcur (by simp)
  have x0 := b3.cell (i := 0) rfl
  have x1 := b3.cell (i := 1) rfl
  clear hcurd b3 y0 y1 hc2 HROOM HLEN
  go_wp2_with fail
  refine ⟨rfl, hK _ _ ?_ ?_⟩
  · exact hcur
  clear hK K
  first | (refine Ord.St.fl2 (T' := ?_) 15 [16] _ _ rfl (by kernel_rfl) ?_ rfl rfl rfl (fun K w' hk => ?_) ?_; rotate_left; (first | rfl | (simp [Region.wanted, yielded, *]; done)); focus (go_step; exact hk)) | (refine Ord.St.skip 15 [16] _ rfl (by kernel_rfl) ?_ (fun K hK => ?_); (first | rfl | (simp [Region.wanted, yielded, *]; done)); go_simp; refine hK _ ?_; clear hK K)
  refine Ord.St.fl2 (T' := ?_) 16 [] _ _ rfl (by kernel_rfl) rfl rfl rfl rfl (fun K w' hk => ?_) ?_
  rotate_left
  · go_step; exact hk
  refine Ord.St.nil ?_
  go_wp2_with fail
  have HC2 := Lib.hid hcur; clear hcur x0 x1
  go_loopw [30] (fun i wr => ∃ k : Nat, k ≤ G.nodes.length ∧ i = .int .i64 k ∧ Ch [] w wr) (fun i _ => G.nodes.length - (intOf i).toNat)
  case atStart => exact ⟨0, by omega, rfl, HC0.out.trans HC2.out (by simp)⟩
  case round =>
    obtain ⟨k, hk, rfl, hc⟩ := hrel
    by_cases hlt : k < G.nodes.length
    · obtain ⟨x, hx⟩ : ∃ x, G.nodes[k]? = some x := ⟨_, List.getElem?_eq_getElem hlt⟩
      obtain ⟨t1, t2, t3, t4⟩ := HTL.out k x hx
      have hrr := HR.out.ch hc (by simp)
      obtain ⟨d0, d1, d2⟩ := hrr.node hx
      have hcA : Ch [] w (wr.alloc (.cells #[.int .i64 x.k, .int .i64 x.l, .int .i64 x.r] 247)) := hc.alloc _
      have hg1 := H.out.same hcA (by simp)
      have hS := Sides_g hg1 ((2 * k : Nat) : Int) (by omega)
      rw [t2, t3, show ((2 * k : Nat) : Int) = 2 * (k : Int) by omega] at hS
      generalize isAndAt G.nodes (2 * (k : Int)) = ia at hS
      have hK := fun (W : World) (hW : Ch [] w W) => Kind_g (H.out.same hW (by simp)) ((2 * k : Nat) : Int) (by omega)
      rw [t1, show ((2 * k : Nat) : Int) = 2 * (k : Int) by omega] at hK
      have HS := Lib.hid hS; clear hS
      have HK := Lib.hid hK; clear hK
      have HCA := Lib.hid hcA; clear hcA hc hg1 hrr t1 t2 t3 hx
      go_wp2_with fail
      refine HS.out.mono ?_
      rintro e w3 ⟨rfl, hc3⟩
      have b6 : blk w3 wr.heap.size [.int .i64 x.k, .int .i64 x.l, .int .i64 x.r] := (blk.new' (w := wr) [.int .i64 x.k, .int .i64 x.l, .int .i64 x.r] 247 (by simp)).ch hc3 (by simp)
      have hc13 := HCA.out.trans hc3 (by simp)
      have HKK := Lib.hid (HK.out _ hc13.drew)
      have z0 := b6.cell (i := 0) rfl
      have z1 := b6.cell (i := 1) rfl
      have z2 := b6.cell (i := 2) rfl
      have HC13 := Lib.hid hc13; clear hc13 hc3 b6 HS HK d0 d1 d2
      go_wp2_with fail
      refine Ord.St.door (fun _ => True) [.fl, .fl, .fl, .rd, .fl, .fl, .rd, .fl, .fl, .fl, .fl, .rd, .fl, .fl, .fl, .fl, .fl, .rd, .fl, .fl] [0, 0, 2, 7, 15, 0, 32, 127, 255, 511, 511, 1535, 4095, 8191, 16383, 32767, 32767, 98303, 262143, 524287] [0, 1, 2, 3, 4, 5, 6, 7, 8, 9, 10, 11, 12, 13, 14, 15, 16, 17, 18, 19] mixed (by kernel_rfl) rfl ?_
      refine Ord.St.fl2 (T' := ?_) 0 [1, 2, 3, 4, 5, 6, 7, 8, 9, 10, 11, 12, 13, 14, 15, 16, 17, 18, 19] _ _ rfl (by kernel_rfl) rfl rfl rfl rfl (fun K w' hk => ?_) ?_
      rotate_left
      · go_step; exact hk
      refine Ord.St.fl2 (T' := ?_) 1 [2, 3, 4, 5, 6, 7, 8, 9, 10, 11, 12, 13, 14, 15, 16, 17, 18, 19] _ _ rfl (by kernel_rfl) rfl rfl rfl rfl (fun K w' hk => ?_) ?_
      rotate_left
      · go_step; exact hk
      refine Ord.St.fl2 (T' := ?_) 2 [3, 4, 5, 6, 7, 8, 9, 10, 11, 12, 13, 14, 15, 16, 17, 18, 19] _ _ rfl (by kernel_rfl) rfl rfl rfl rfl (fun K w' hk => ?_) ?_
      rotate_left
      · go_step; exact hk
      refine Ord.St.rd2 (T' := ?_) 3 [4, 5, 6, 7, 8, 9, 10, 11, 12, 13, 14, 15, 16, 17, 18, 19] _ _ rfl (by kernel_rfl) rfl rfl rfl rfl (fun K hk => ?_) ?_
      rotate_left
      · go_step; refine HKK.out.mono ?_; rintro e w'' ⟨rfl, rfl⟩; exact hk
      refine Ord.St.fl2 (T' := ?_) 4 [5, 6, 7, 8, 9, 10, 11, 12, 13, 14, 15, 16, 17, 18, 19] _ _ rfl (by kernel_rfl) rfl rfl rfl rfl (fun K w' hk => ?_) ?_
      rotate_left
      · go_step; exact hk
      refine Ord.St.fl2 (T' := ?_) 5 [6, 7, 8, 9, 10, 11, 12, 13, 14, 15, 16, 17, 18, 19] _ _ rfl (by kernel_rfl) rfl rfl rfl rfl (fun K w' hk => ?_) ?_
      rotate_left
      · go_step; exact hk
      refine Ord.St.rd2 (T' := ?_) 6 [7, 8, 9, 10, 11, 12, 13, 14, 15, 16, 17, 18, 19] _ _ rfl (by kernel_rfl) rfl rfl rfl rfl (fun K hk => ?_) ?_
      rotate_left
      · go_step; exact hk
      refine Ord.St.fl2 (T' := ?_) 7 [8, 9, 10, 11, 12, 13, 14, 15, 16, 17, 18, 19] _ _ rfl (by kernel_rfl) rfl rfl rfl rfl (fun K w' hk => ?_) ?_
      rotate_left
      · go_step; exact hk
      refine Ord.St.fl2 (T' := ?_) 8 [9, 10, 11, 12, 13, 14, 15, 16, 17, 18, 19] _ _ rfl (by kernel_rfl) rfl rfl rfl rfl (fun K w' hk => ?_) ?_
      rotate_left
      · go_step; exact hk
      first | (refine Ord.St.fl2 (T' := ?_) 9 [10, 11, 12, 13, 14, 15, 16, 17, 18, 19] _ _ rfl (by kernel_rfl) ?_ rfl rfl rfl (fun K w' hk => ?_) ?_; rotate_left; (first | rfl | (simp [Region.wanted, yielded, *]; done)); focus (go_step; exact hk)) | (refine Ord.St.skip 9 [10, 11, 12, 13, 14, 15, 16, 17, 18, 19] _ rfl (by kernel_rfl) ?_ (fun K hK => ?_); (first | rfl | (simp [Region.wanted, yielded, *]; done)); go_simp; refine hK _ ?_; clear hK K)
      first | (refine Ord.St.fl2 (T' := ?_) 10 [11, 12, 13, 14, 15, 16, 17, 18, 19] _ _ rfl (by kernel_rfl) ?_ rfl rfl rfl (fun K w' hk => ?_) ?_; rotate_left; (first | rfl | (simp [Region.wanted, yielded, *]; done)); focus (go_step; exact hk)) | (refine Ord.St.skip 10 [11, 12, 13, 14, 15, 16, 17, 18, 19] _ rfl (by kernel_rfl) ?_ (fun K hK => ?_); (first | rfl | (simp [Region.wanted, yielded, *]; done)); go_simp; refine hK _ ?_; clear hK K)
      first | (refine Ord.St.rd2 (T' := ?_) 11 [12, 13, 14, 15, 16, 17, 18, 19] _ _ rfl (by kernel_rfl) ?_ rfl rfl rfl (fun K hk => ?_) ?_; rotate_left; (first | rfl | (simp [Region.wanted, yielded, *]; done)); focus (go_step; exact hk)) | (refine Ord.St.skipr 11 [12, 13, 14, 15, 16, 17, 18, 19] _ rfl (by kernel_rfl) ?_ (fun K hK => ?_); (first | rfl | (simp [Region.wanted, yielded, *]; done)); go_simp; refine hK _ ?_; clear hK K)
      first | (refine Ord.St.fl2 (T' := ?_) 12 [13, 14, 15, 16, 17, 18, 19] _ _ rfl (by kernel_rfl) ?_ rfl rfl rfl (fun K w' hk => ?_) ?_; rotate_left; (first | rfl | (simp [Region.wanted, yielded, *]; done)); focus (go_step; exact hk)) | (refine Ord.St.skip 12 [13, 14, 15, 16, 17, 18, 19] _ rfl (by kernel_rfl) ?_ (fun K hK => ?_); (first | rfl | (simp [Region.wanted, yielded, *]; done)); go_simp; refine hK _ ?_; clear hK K)
      refine Ord.St.fl2 (T' := ?_) 13 [14, 15, 16, 17, 18, 19] _ _ rfl (by kernel_rfl) rfl rfl rfl rfl (fun K w' hk => ?_) ?_
      rotate_left
      · go_step; exact hk
      refine Ord.St.fl2 (T' := ?_) 14 [15, 16, 17, 18, 19] _ _ rfl (by kernel_rfl) rfl rfl rfl rfl (fun K w' hk => ?_) ?_
      rotate_left
      · go_step; exact hk
      first | (refine Ord.St.fl2 (T' := ?_) 15 [16, 17, 18, 19] _ _ rfl (by kernel_rfl) ?_ rfl rfl rfl (fun K w' hk => ?_) ?_; rotate_left; (first | rfl | (simp [Region.wanted, yielded, *]; done)); focus (go_step; exact hk)) | (refine Ord.St.skip 15 [16, 17, 18, 19] _ rfl (by kernel_rfl) ?_ (fun K hK => ?_); (first | rfl | (simp [Region.wanted, yielded, *]; done)); go_simp; refine hK _ ?_; clear hK K)
      first | (refine Ord.St.fl2 (T' := ?_) 16 [17, 18, 19] _ _ rfl (by kernel_rfl) ?_ rfl rfl rfl (fun K w' hk => ?_) ?_; rotate_left; (first | rfl | (simp [Region.wanted, yielded, *]; done)); focus (go_step; exact hk)) | (refine Ord.St.skip 16 [17, 18, 19] _ rfl (by kernel_rfl) ?_ (fun K hK => ?_); (first | rfl | (simp [Region.wanted, yielded, *]; done)); go_simp; refine hK _ ?_; clear hK K)
      first | (refine Ord.St.rd2 (T' := ?_) 17 [18, 19] _ _ rfl (by kernel_rfl) ?_ rfl rfl rfl (fun K hk => ?_) ?_; rotate_left; (first | rfl | (simp [Region.wanted, yielded, *]; done)); focus (go_step; exact hk)) | (refine Ord.St.skipr 17 [18, 19] _ rfl (by kernel_rfl) ?_ (fun K hK => ?_); (first | rfl | (simp [Region.wanted, yielded, *]; done)); go_simp; refine hK _ ?_; clear hK K)
      first | (refine Ord.St.fl2 (T' := ?_) 18 [19] _ _ rfl (by kernel_rfl) ?_ rfl rfl rfl (fun K w' hk => ?_) ?_; rotate_left; (first | rfl | (simp [Region.wanted, yielded, *]; done)); focus (go_step; exact hk)) | (refine Ord.St.skip 18 [19] _ rfl (by kernel_rfl) ?_ (fun K hK => ?_); (first | rfl | (simp [Region.wanted, yielded, *]; done)); go_simp; refine hK _ ?_; clear hK K)
      refine Ord.St.fl2 (T' := ?_) 19 [] _ _ rfl (by kernel_rfl) rfl rfl rfl rfl (fun K w' hk => ?_) ?_
      rotate_left
      · go_step; exact hk
      refine Ord.St.nil ?_
      go_wp2_with fail
      go_roundw
      case rel => exact ⟨k + 1, by omega, by go_num, HC13.out.drew⟩
      case measure => simp [intOf]; omega
    · have HC := Lib.hid hc; clear hc
      go_wp2_with fail
      go_ret
      exact ⟨rfl, HC.out⟩
end
end Go.Proofs.YtehljgigebhddaaGreat
namespace Go.Proofs.YtehljgigebhddaaGreat
open Go.RowKit Go.Mem Go.Aig
structure Both (w0 w : World) (g rb cap : Nat) (G : Gra) (F : List Nat) : Prop where
  gin : GIn w g G F
  rg : RG w rb cap G
  ap : rb ∉ F
  own : ∀ k ∈ F, w0.heap.size ≤ k
  rlo : w0.heap.size ≤ rb
  ch : Ch [] w0 w
theorem Both.same {w0 w w' : World} {g rb cap : Nat} {G : Gra} {F : List Nat} (h : Both w0 w g rb cap G F) (hc : Ch [] w w') : Both w0 w' g rb cap G F :=
  ⟨h.gin.same hc (by simp), h.rg.ch hc (by simp), h.ap, h.own, h.rlo, h.ch.trans hc (by simp)⟩
theorem Both.next {w0 w w1 w2 : World} {g rb cap : Nat} {G G' : Gra} {F F' : List Nat} (h : Both w0 w g rb cap G F) (hg : GIn w1 g G' F') (hc1 : Ch F w w1) (hF : ∀ k ∈ F', k ∈ F ∨ w.heap.size ≤ k) {rb' cap' : Nat} (hr : RG w2 rb' cap' G') (hc2 : Ch [] w1 w2) (hb : rb' = rb ∨ w1.heap.size ≤ rb') : Both w0 w2 g rb' cap' G' F' := by
  have hrl := h.rg.lt
  have hz := hc1.size
  refine ⟨hg.same hc2 (by simp), hr, fun hin => ?_, fun k hk => (hF k hk).elim (h.own k) (fun e => Nat.le_trans h.ch.size e), ?_, (h.ch.trans hc1 (fun k hk => .inr (h.own k hk))).trans hc2 (by simp)⟩
  · have hlt := hg.lt _ hin
    rcases hb with rfl | e
    · rcases hF _ hin with e | e
      · exact h.ap e
      · omega
    · omega
  · rcases hb with rfl | e
    · exact h.rlo
    · have := h.ch.size; omega
theorem Both.set {w0 w w' : World} {g rb cap b : Nat} {G : Gra} {F : List Nat} (h : Both w0 w g rb cap G F) (hc : Ch [b] w w') (hb : b ∉ F) (hr : rb ≠ b) (hlo : w0.heap.size ≤ b) : Both w0 w' g rb cap G F :=
  ⟨h.gin.same hc (fun k hk hk2 => hb (by rw [List.mem_singleton.1 hk2] at hk; exact hk)), h.rg.ch hc (by simpa using hr), h.ap, h.own, h.rlo, h.ch.trans hc (fun k hk => .inr (by rw [List.mem_singleton.1 hk]; exact hlo))⟩
section
set_option maxRecDepth 100000 in
set_option maxHeartbeats 4000000 in
theorem Begin23_no (w : World) (M : Int) (N : Nat) (hM : M < 1 ∨ 65536 < M) : Calls Tryz.prog 73 #[.agg #[.int .i64 M, .int .u8 N]] w fun e w' => e = .returned (.tuple #[.pointer none, .agg #[.int .i64 0, .slice none 0 0]]) ∧ Ch [] w w' := by
  have hN := fun W => New_no (w := W) M hM
  have hR := fun W => rNew_no W M hM
  clear hM
  go_enter Tryz.func73, Tryz.ntmps73
  go_wp2_with fail
  refine (hN _).mono ?_
  rintro e w' ⟨rfl, rfl⟩
  go_wp2_with fail
  refine calls_named fun W hW => ?_
  have b1 : blk W w.heap.size [.int .i64 M, .int .u8 N] := by rw [hW]; exact (blk.new' _ _ (by simp)).alloc _
  have b3 : blk W (w.heap.size + 1) [.int .i64 0, .slice none 0 0] := by rw [hW]; exact blk.new' _ _ (by simp)
  have hc : Ch [] w W := by rw [hW]; exact ((Ch.refl _ _).alloc _).alloc _
  clear hW
  refine (hR W).mono ?_
  rintro e w1 ⟨rfl, hc1⟩
  have b3 := b3.ch hc1 (by simp)
  have z0 := b3.cell (i := 0) rfl
  have z1 := b3.cell (i := 1) rfl
  have f0 := b3.frozen (i := 0)
  have f1 := b3.frozen (i := 1)
  have hz1 := b3.lt
  have HC := Lib.hid (hc.trans hc1 (by simp)); clear hc hc1 b3 b1
  go_wp2_with fail
  refine bodyPost_ret (v := .tuple #[.pointer none, .agg #[.int .i64 0, .slice none 0 0]]) (by simp [results, Tryz.results73, go_sem, z0, z1, hz1]) rfl ?_
  refine ⟨rfl, ?_⟩
  refine Ch.trans HC.out (F' := [w.heap.size + 1]) ?_ (fun k hk => .inr (by simp at hk; omega))
  repeat (first | exact Ch.refl _ _ | refine Ch.alloc ?_ _ | refine Ch.setCell ?_ (.inl (by simp)) _)
set_option maxRecDepth 100000 in
set_option maxHeartbeats 8000000 in
theorem Begin23_yes (w : World) (M N : Nat) (h1 : 1 ≤ M) (h2 : M ≤ 65536) (_hN : N ≤ 255) : Calls Tryz.prog 73 #[.agg #[.int .i64 M, .int .u8 N]] w fun e w' => ∃ g F rb cap G, e = .returned (.tuple #[.pointer (some ⟨g, 0, none⟩), .agg #[.int .i64 G.most, .slice (some ⟨rb, 0, none⟩) G.nodes.length cap]]) ∧ Both w w' g rb cap G F := by
  have hN := fun W => New_yes (w := W) M h1 h2
  have hR := fun W => rNew_yes W M h1 h2
  obtain ⟨n, hn, hn40⟩ : ∃ n, N % 40 = n ∧ n < 40 := ⟨_, rfl, by omega⟩
  have hni : (N : Int) % 40 = n := by omega
  clear hn
  have HN := Lib.hid hN; clear hN
  have HR := Lib.hid hR; clear hR
  go_enter Tryz.func73, Tryz.ntmps73
  go_wp2_with fail
  refine calls_named fun W hW => ?_
  have b1 : blk W w.heap.size [.int .i64 M, .int .u8 N] := by rw [hW]; exact (blk.new' _ _ (by simp)).alloc _
  have b3 : blk W (w.heap.size + 1) [.int .i64 0, .slice none 0 0] := by rw [hW]; exact blk.new' _ _ (by simp)
  have hc : Ch [] w W := by rw [hW]; exact ((Ch.refl _ _).alloc _).alloc _
  have hz : W.heap.size = w.heap.size + 2 := by rw [hW]; simp
  clear hW
  refine (HN.out W).mono ?_
  rintro e w1 ⟨g, F1, rfl, hg1, hF1, hc1⟩
  have b1 := b1.ch hc1 (by simp)
  have b3 := b3.ch hc1 (by simp)
  have hc := hc.trans hc1 (by simp)
  have x0 := b1.cell (i := 0) rfl
  have x1 := b1.cell (i := 1) rfl
  have hF2 : ∀ k ∈ F1, w.heap.size + 2 ≤ k ∧ k < w1.heap.size := fun k hk => ⟨by have := hF1 k hk; omega, hg1.lt k hk⟩
  have HF2 := Lib.hid hF2; clear hF2 hF1 hc1
  have HC := Lib.hid hc; clear hc
  have HG1 := Lib.hid hg1; clear hg1
  have B1 := Lib.hid b1; clear b1
  have B3 := Lib.hid b3; clear b3
  go_wp2_with fail
  refine (HR.out _).mono ?_
  rintro e w2 ⟨rb, cap, rfl, hrg, hc2, hlo⟩
  have hz2 := hc2.size
  have hz3 := B3.out.lt
  have hbt : Both w w2 g rb cap (newG M) F1 := ⟨HG1.out.same hc2 (by simp), hrg, fun hin => by have := HF2.out _ hin; omega, fun k hk => by have := HF2.out k hk; omega, by omega, HC.out.trans hc2 (by simp)⟩
  have b1 := B1.out.ch hc2 (by simp)
  have b3 := B3.out.ch hc2 (by simp)
  generalize newG M = G0 at *
  have HBT := Lib.hid hbt; clear hbt hrg hc2 HC HG1 x0 x1
  clear B1 B3
  have B1 := Lib.hid b1; clear b1
  have B3 := Lib.hid b3; clear b3
  go_upto_region 3 with fail
  refine wp_alw ?_
  intro W3 hW3
  have hb6 := alw_blk (xs := [.int .i64 G0.most, .slice (some ⟨rb, 0, none⟩) G0.nodes.length cap]) hW3
  have hc3 := alw_ch hW3
  have hbt := HBT.out.same hc3
  have b1 := B1.out.ch hc3 (by simp)
  have b3 := B3.out.ch hc3 (by simp)
  have hrb6 : rb ≠ w2.heap.size := rg_ne HBT.out.rg
  have hlo2 : w.heap.size + 2 ≤ rb := by omega
  have h6F : w2.heap.size ∉ F1 := fun hin => by have := HF2.out _ hin; omega
  have h3F : w.heap.size + 1 ∉ F1 := fun hin => by have := HF2.out _ hin; omega
  have h6lo : w.heap.size + 2 ≤ w2.heap.size := by omega
  clear hW3 hc3 HBT B1 B3 hlo
  generalize w2.heap.size = b6 at *
  have x0 := b1.cell (i := 0) rfl
  have x1 := b1.cell (i := 1) rfl
  have HBT := Lib.hid hbt; clear hbt
  have B6 := Lib.hid hb6; clear hb6
  have B3 := Lib.hid b3; clear b3 b1
  go_wp2_with fail
  clear hni
  go_loopw [39] (fun i wr => ∃ (k : Nat) (G : Gra) (F : List Nat) (rb cap : Nat), k ≤ n ∧ i = .int .i64 k ∧ Both w wr g rb cap G F ∧ b6 ∉ F ∧ w.heap.size + 1 ∉ F ∧ rb ≠ b6 ∧ w.heap.size + 2 ≤ rb ∧ blk wr b6 [.int .i64 G.most, .slice (some ⟨rb, 0, none⟩) G.nodes.length cap] ∧ blk wr (w.heap.size + 1) [.int .i64 0, .slice none 0 0]) (fun i _ => n - (intOf i).toNat)
  case atStart => exact ⟨0, G0, F1, rb, cap, by omega, rfl, HBT.out, h6F, h3F, hrb6, hlo2, B6.out, B3.out⟩
  case round =>
    clear HBT B6 B3 h6F h3F hrb6 hlo2 x0 x1 HN HR
    obtain ⟨k, G, F, rb, cap, hk, rfl, hbt, h6F, h3F, hrb6, hlo2, b6c, b3⟩ := hrel
    have hwr6 := b6c.lt
    by_cases hlt : k < n
    · have hI := Input_g hbt.gin
      have HI := Lib.hid hI; clear hI
      have HBT := Lib.hid hbt; clear hbt
      have B6 := Lib.hid b6c; clear b6c
      have B3 := Lib.hid b3; clear b3
      go_wp2_with fail
      refine HI.out.mono ?_
      rintro e w4 ⟨rfl, F', hg4, hc4, hF4, _⟩
      have hp := rPut_is (HBT.out.rg.ch hc4 HBT.out.ap) ⟨2, 0, 0, 0⟩ (fun hm => by
        have hok := hg4.ok
        unfold doInput put at hok
        rw [if_neg (by omega)] at hok
        exact hok)
      have b6c := B6.out.ch hc4 h6F
      have b3 := B3.out.ch hc4 h3F
      have y0 := b6c.cell (i := 0) rfl
      have y1 := b6c.cell (i := 1) rfl
      have h6F' : b6 ∉ F' := fun hin => by rcases hF4 _ hin with e | e; exact h6F e; omega
      have h3F' : w.heap.size + 1 ∉ F' := fun hin => by rcases hF4 _ hin with e | e; exact h3F e; have := B3.out.lt; omega
      have hz4 := b6c.lt
      have HP := Lib.hid hp; clear hp
      have HG4 := Lib.hid hg4; clear hg4
      have HC4 := Lib.hid hc4; clear hc4
      have HF4 := Lib.hid hF4; clear hF4
      have BB6 := Lib.hid b6c; clear b6c
      have BB3 := Lib.hid b3; clear b3
      go_wp2_with fail
      refine HP.out.mono ?_
      rintro e w5 ⟨rb', cap', rfl, hrg5, hc5, hfr⟩
      have hbt5 := HBT.out.next (G' := (put G ⟨2, 0, 0, 0⟩).1) HG4.out HC4.out HF4.out hrg5 hc5 hfr
      have hrb' : rb' ≠ b6 := by rcases hfr with e | e <;> omega
      have hlo' : w.heap.size + 2 ≤ rb' := by rcases hfr with e | e <;> omega
      generalize (put G ⟨2, 0, 0, 0⟩).1 = G1 at *
      have b6c := BB6.out.ch hc5 (by simp)
      have b3 := BB3.out.ch hc5 (by simp)
      have f0 := b6c.frozen (i := 0)
      have f1 := b6c.frozen (i := 1)
      have y0 := b6c.cell (i := 0) rfl
      have y1 := b6c.cell (i := 1) rfl
      have HBT5 := Lib.hid hbt5; clear hbt5
      have BC6 := Lib.hid b6c; clear b6c
      have BC3 := Lib.hid b3; clear b3
      clear HP HG4 HC4 HF4 BB6 BB3 hrg5 hc5 hfr HI
      go_wp2_with fail
      go_roundw
      case rel =>
        have hcs := set2_ch (w := w5) (b := b6) (u := .int .i64 G1.most) (v := .slice (some ⟨rb', 0, none⟩) G1.nodes.length cap') rfl
        exact ⟨k + 1, G1, F', rb', cap', by omega, by go_num, HBT5.out.set hcs h6F' hrb' (by omega), h6F', h3F', hrb', hlo', (BC6.out.set (i := 0) _).set (i := 1) _, BC3.out.ch hcs (by simp; omega)⟩
      case measure => simp [intOf]; omega
    · have HBT := Lib.hid hbt; clear hbt
      have B6 := Lib.hid b6c; clear b6c
      have B3 := Lib.hid b3; clear b3
      go_wp2_with fail
      go_loopw [9] (fun i wr => ∃ (k : Nat) (G : Gra) (F : List Nat) (rb cap : Nat), 1 ≤ k ∧ k ≤ n + 1 ∧ i = .int .i64 k ∧ Both w wr g rb cap G F ∧ b6 ∉ F ∧ w.heap.size + 1 ∉ F ∧ rb ≠ b6 ∧ w.heap.size + 2 ≤ rb ∧ blk wr b6 [.int .i64 G.most, .slice (some ⟨rb, 0, none⟩) G.nodes.length cap] ∧ blk wr (w.heap.size + 1) [.int .i64 0, .slice none 0 0]) (fun i _ => n - (intOf i).toNat)
      case atStart => exact ⟨1, G, F, rb, cap, by omega, by omega, rfl, HBT.out, h6F, h3F, hrb6, hlo2, B6.out, B3.out⟩
      case round =>
        clear HBT B6 B3 h6F h3F hrb6 hlo2 hwr6
        obtain ⟨k, G, F, rb, cap, hk1, hk, rfl, hbt, h6F, h3F, hrb6, hlo2, b6c, b3⟩ := hrel
        have hwr6 := b6c.lt
        have y0 := b6c.cell (i := 0) rfl
        have y1 := b6c.cell (i := 1) rfl
        by_cases hlt : k < n
        · have hRt := rRight_is hbt.rg (2 * (k : Int) + 2)
          have hrt : right G.nodes (2 * (k : Int) + 2) = true → 2 * k + 3 < 2 * G.nodes.length := fun e => by
            unfold right at e
            have := of_decide_eq_true e
            omega
          cases hq : right G.nodes (2 * (k : Int) + 2)
          · rw [hq] at hRt
            have HRT := Lib.hid hRt; clear hRt hrt hq
            have HBT := Lib.hid hbt; clear hbt
            have B6 := Lib.hid b6c; clear b6c
            have B3 := Lib.hid b3; clear b3
            go_wp2_with fail
            refine HRT.out.mono ?_
            rintro e w4 ⟨rfl, hc4⟩
            have HC4 := Lib.hid hc4; clear hc4 HRT
            go_wp2_with fail
            go_roundw
            case rel => exact ⟨k + 1, G, F, rb, cap, by omega, by omega, by go_num, HBT.out.same HC4.out, h6F, h3F, hrb6, hlo2, B6.out.ch HC4.out (by simp), B3.out.ch HC4.out (by simp)⟩
            case measure => simp [intOf]; omega
          · rw [hq] at hRt
            have hv := hrt hq
            have HRT := Lib.hid hRt; clear hRt hrt hq
            have HBT := Lib.hid hbt; clear hbt
            have B6 := Lib.hid b6c; clear b6c
            have B3 := Lib.hid b3; clear b3
            have hA := fun (W : World) (hW : Ch [] wr W) => And_r (HBT.out.same hW).gin (a := 2 * k) (b := 2 * k + 3) (by omega) hv
            have hB := fun (W : World) (F9 : List Nat) (hW : Ch F9 wr W) (hF : rb ∉ F9) => rAnd_is (HBT.out.rg.ch hW hF) (a := 2 * k) (b := 2 * k + 3) (by omega) hv
            rw [show ((2 * k : Nat) : Int) = 2 * (k : Int) by omega, show ((2 * k + 3 : Nat) : Int) = 2 * (k : Int) + 3 by omega] at hA hB
            generalize and G (2 * k) (2 * k + 3) = X at hA hB
            have HA := Lib.hid hA; clear hA
            have HB := Lib.hid hB; clear hB
            go_wp2_with fail
            refine HRT.out.mono ?_
            rintro e w4 ⟨rfl, hc4⟩
            have hA := HA.out w4 hc4
            have HA4 := Lib.hid hA; clear hA HA
            have HC4 := Lib.hid hc4; clear hc4 HRT
            go_wp2_with fail
            refine HA4.out.mono ?_
            rintro e w5 ⟨rfl, F', hg5, hc5, hF5, _⟩
            have hB5 := HB.out w5 F (HC4.out.mono (by simp) |>.trans hc5 (fun k hk => .inl hk)) HBT.out.ap
            have hwb := HBT.out.same HC4.out
            have b6c := (B6.out.ch HC4.out (by simp)).ch hc5 h6F
            have b3 := (B3.out.ch HC4.out (by simp)).ch hc5 h3F
            have y0 := b6c.cell (i := 0) rfl
            have y1 := b6c.cell (i := 1) rfl
            have hz4 := HC4.out.size
            have h6F' : b6 ∉ F' := fun hin => by rcases hF5 _ hin with e | e; exact h6F e; omega
            have h3F' : w.heap.size + 1 ∉ F' := fun hin => by rcases hF5 _ hin with e | e; exact h3F e; have := B3.out.lt; omega
            have hz5 := b6c.lt
            have HB5 := Lib.hid hB5; clear hB5 HB
            have HWB := Lib.hid hwb; clear hwb
            have HG5 := Lib.hid hg5; clear hg5
            have HC5 := Lib.hid hc5; clear hc5
            have HF5 := Lib.hid hF5; clear hF5
            have BB6 := Lib.hid b6c; clear b6c
            have BB3 := Lib.hid b3; clear b3
            go_wp2_with fail
            refine HB5.out.mono ?_
            rintro e w6 ⟨rb', cap', rfl, hrg6, hc6, hfr⟩
            have hbt6 := HWB.out.next (G' := X.1) HG5.out HC5.out HF5.out hrg6 hc6 hfr
            have hrb' : rb' ≠ b6 := by rcases hfr with e | e <;> omega
            have hlo' : w.heap.size + 2 ≤ rb' := by rcases hfr with e | e <;> omega
            obtain ⟨G1, r1, e1⟩ := X
            simp only at hbt6 hrg6
            have b6c := BB6.out.ch hc6 (by simp)
            have b3 := BB3.out.ch hc6 (by simp)
            have f0 := b6c.frozen (i := 0)
            have f1 := b6c.frozen (i := 1)
            have y0 := b6c.cell (i := 0) rfl
            have y1 := b6c.cell (i := 1) rfl
            have HBT6 := Lib.hid hbt6; clear hbt6
            have BC6 := Lib.hid b6c; clear b6c
            have BC3 := Lib.hid b3; clear b3
            clear HB5 HG5 HC5 HF5 BB6 BB3 hrg6 hc6 hfr HA4 HWB
            go_wp2_with fail
            go_roundw
            case rel =>
              have hcs := set2_ch (w := w6) (b := b6) (u := .int .i64 G1.most) (v := .slice (some ⟨rb', 0, none⟩) G1.nodes.length cap') rfl
              exact ⟨k + 1, G1, F', rb', cap', by omega, by omega, by go_num, HBT6.out.set hcs h6F' hrb' (by omega), h6F', h3F', hrb', hlo', (BC6.out.set (i := 0) _).set (i := 1) _, BC3.out.ch hcs (by simp; omega)⟩
            case measure => simp [intOf]; omega
        · have HBT := Lib.hid hbt; clear hbt
          have z0 := b3.cell (i := 0) rfl
          have z1 := b3.cell (i := 1) rfl
          have g0 := b3.frozen (i := 0)
          have g1 := b3.frozen (i := 1)
          clear b6c b3
          go_wp2_with fail
          refine Ord.St.door (fun _ => True) [.fl, .rd, .fl, .ef] [0, 0, 1, 7] [0, 1, 2, 3] mixed (by kernel_rfl) rfl ?_
          refine Ord.St.fl2 (T' := ?_) 0 [1, 2, 3] _ _ rfl (by kernel_rfl) rfl rfl rfl rfl (fun K w' hk => ?_) ?_
          rotate_left
          · go_step; exact hk
          refine Ord.St.rd2 (T' := ?_) 1 [2, 3] _ _ rfl (by kernel_rfl) rfl rfl rfl rfl (fun K hk => ?_) ?_
          rotate_left
          · go_step; exact hk
          refine Ord.St.fl2 (T' := ?_) 2 [3] _ _ rfl (by kernel_rfl) rfl rfl rfl rfl (fun K w' hk => ?_) ?_
          rotate_left
          · go_step; exact hk
          refine Ord.St.ef 3 [] _ rfl (by kernel_rfl) (fun K hK => ?_)
          go_wp2_with fail
          refine ⟨rfl, hK _ _ ?_⟩; clear hK K
          refine Ord.St.nil ?_
          go_wp2_with fail
          have hcs : Ch [w.heap.size + 1] wr ((wr.setCell ⟨w.heap.size + 1, 0, none⟩ (.int .i64 G.most)).setCell ⟨w.heap.size + 1, 1, none⟩ (.slice (some ⟨rb, 0, none⟩) G.nodes.length cap)).drew := (((Ch.refl _ _).setCell (by simp) _).setCell (by simp) _).drew
          refine bodyPost_ret (v := .tuple #[.pointer (some ⟨g, 0, none⟩), .agg #[.int .i64 G.most, .slice (some ⟨rb, 0, none⟩) G.nodes.length cap]]) (by simp [results, Tryz.results73, go_sem, z0, z1]) rfl ?_
          exact ⟨g, F, rb, cap, G, rfl, HBT.out.set hcs h3F (by omega) (by omega)⟩
end
end Go.Proofs.YtehljgigebhddaaGreat
namespace Go.Proofs.YtehljgigebhddaaGreat
open Go.RowKit Go.Mem Go.Aig
theorem Sl.ch2 {F : List Nat} {w w' : World} {a : Option Addr} {xs : List Int} (h : Sl w a xs) (hc : Ch F w w') (hF : 0 < xs.length → ∀ p, a = some p → p.block ∉ F) : Sl w' a xs :=
  ⟨fun i x hx => by
    obtain ⟨b, o, rfl, hcell⟩ := h.cells i x hx
    have hlt := (List.getElem?_eq_some_iff.1 hx).1
    exact ⟨b, o, rfl, (hc.cell (p := ⟨b, o + i, none⟩) (cell_lt hcell) (hF (by omega) ⟨b, o, none⟩ rfl)).trans hcell⟩, h.bd⟩
end Go.Proofs.YtehljgigebhddaaGreat
namespace Go.Proofs.YtehljgigebhddaaGreat
open Go.RowKit Go.Mem Go.Aig
def ShqB (w w' : World) : Prop := ∀ b ys, blk w b ys → ∃ ys', blk w' b ys' ∧ ys'.length = ys.length
theorem ShqB.refl (w : World) : ShqB w w := fun _ ys h => ⟨ys, h, rfl⟩
theorem ShqB.set {w w' : World} (h : ShqB w w') (b k : Nat) (v : Value) : ShqB w (w'.setCell ⟨b, k, none⟩ v) := fun c ys hc => by
  obtain ⟨zs, h1, h2⟩ := h c ys hc
  by_cases e : c = b
  · subst e; exact ⟨_, h1.set (i := k) v, by simpa using h2⟩
  · exact ⟨zs, h1.other e v, h2⟩
theorem ShqB.cell {w w' : World} {e : TypeId} {a : Option Addr} {n c k : Nat} {xs : List Value} (h : ShqB w w') (hr : row w e 1 (.slice a n c) n xs) (hk : k < n) : ∃ (b : Nat) (old : Value), a = some ⟨b, 0, none⟩ ∧ w'.cell? ⟨b, k, none⟩ = some old ∧ w'.frozen? ⟨b, k, none⟩ = false := by
  obtain ⟨b, ys, e1, hb, hl⟩ := rowBlk hr k hk
  obtain ⟨zs, h1, h2⟩ := h b ys hb
  exact ⟨b, _, e1, h1.cell (List.getElem?_eq_getElem (show k < zs.length by omega)), h1.frozen⟩
def ATo (W w : World) (g rb : Nat) (F : List Nat) (e : Ending) (w' : World) : Prop := ∃ G' F' rb' cap', e = .returned (.tuple #[.agg #[.int .i64 G'.most, .slice (some ⟨rb', 0, none⟩) G'.nodes.length cap'], .bool true]) ∧ Both W w' g rb' cap' G' F' ∧ (∀ q ∈ F', q ∈ F ∨ w.heap.size ≤ q) ∧ (rb' = rb ∨ w.heap.size ≤ rb') ∧ Ch F w w'
theorem ATo.of {W w w' : World} {g rb cap : Nat} {G : Gra} {F : List Nat} (hb : Both W w g rb cap G F) {G' : Gra} {F' : List Nat} {rb' cap' : Nat} (hg : GIn w' g G' F') (hr : RG w' rb' cap' G') (hap : rb' ∉ F') (hfn : ∀ q ∈ F', q ∈ F ∨ w.heap.size ≤ q) (hfr : rb' = rb ∨ w.heap.size ≤ rb') (hc : Ch F w w') :
    ATo W w g rb F (.returned (.tuple #[.agg #[.int .i64 G'.most, .slice (some ⟨rb', 0, none⟩) G'.nodes.length cap'], .bool true])) w' := by
  have hz := hb.ch.size
  have hlo := hb.rlo
  refine ⟨G', F', rb', cap', rfl, ⟨hg, hr, hap, fun q hq => ?_, by omega, hb.ch.trans hc (fun q hq => .inr (hb.own q hq))⟩, hfn, hfr, hc⟩
  rcases hfn q hq with e | e
  · exact hb.own q e
  · omega
section
end
end Go.Proofs.YtehljgigebhddaaGreat
namespace Go.Proofs.YtehljgigebhddaaGreat
open Go.ChangeShapes Go.WideShapes Go.ChangeAt Go.RowKit Go.Mem Go.Aig Go.Deep
section
variable {H : Type} {enc : TypeId × Value → H} {W : World}
set_option maxRecDepth 100000 in
theorem start_open23 {r : Reach} {b0 : Nat} {v : Value} {d : DataW H} {p : List MemPlace} (hv : Value.okWide Tryz.prog W r b0 23 v) (h : DataW.Trod enc Tryz.prog W 0 (fun _ => true) true 23 v d p) :
    ∃ (M : Int) (N : Nat), v = .agg #[.int .i64 M, .int .u8 N] ∧ (Lit.int .i64 M).wf = true ∧ N ≤ 255 := by
  obtain ⟨c0, c1, y0, y1, m, rfl, _, _, hy0, hy1⟩ := Joins.open_agg2 Tryz.underlying23 (by kernel_rfl) (by kernel_rfl) hv h
  obtain ⟨a, e0, _, wa⟩ := DataW.trod_int Tryz.underlying3 hy0
  obtain ⟨b, e1, _, wb⟩ := DataW.trod_int Tryz.underlying5 hy1
  simp at e0 e1
  subst e0 e1
  obtain ⟨k, rfl, hk⟩ := wf_u8 wb
  exact ⟨a, k, rfl, wa, hk⟩
end
end Go.Proofs.YtehljgigebhddaaGreat
namespace Go.Aig
def right26 (n : Int) : Bool := decide (1 ≤ n) && decide (n ≤ 16)
def array26 (n : Int) : Bool := decide (1 ≤ n) && decide (n ≤ 256)
end Go.Aig
namespace Go.Proofs.YtehljgigebhddaaGreat
open Go.RowKit Go.Mem Go.Aig
abbrev mzW : Value := .slice none 0 0
abbrev mzL : Value := .slice none 0 0
abbrev mzR : Value := .int .i64 0
def MB (w : World) (g : Nat) (G : Gra) (F : List Nat) (s : Mk) (Post : Value → List Nat → World → Prop) (z v : Value) (w' : World) : Prop :=
  ∃ F', GIn w' g (if s.2 = 0 then s.1 else G) F' ∧ Ch F w w' ∧ (∀ k ∈ F', k ∈ F ∨ w.heap.size ≤ k) ∧ F'[2]? = F[2]? ∧ (s.2 = 0 → Post v F' w') ∧ (s.2 ≠ 0 → v = z)
section
variable {w : World} {g m : Nat} {G : Gra} {F : List Nat}
set_option maxRecDepth 100000 in
set_option maxHeartbeats 1000000 in
theorem mright_is (n : Int) : Calls Tryz.prog 181 #[.int .i64 n] w fun e w' => e = .returned (.bool (right26 n)) ∧ w = w' := by
  unfold right26
  by_cases h : 1 ≤ n
  · have h1 : decide ((1 : Int) ≤ n) = true := decide_eq_true h
    go_enter Tryz.func181, Tryz.ntmps181
    go_wp2_with fail
    go_ret
    exact ⟨by rw [h1]; rfl, rfl⟩
  · have h1 : decide ((1 : Int) ≤ n) = false := decide_eq_false h
    go_enter Tryz.func181, Tryz.ntmps181
    go_wp2_with fail
    go_ret
    exact ⟨rfl, rfl⟩
set_option maxRecDepth 100000 in
set_option maxHeartbeats 1000000 in
theorem marray_is (n : Int) : Calls Tryz.prog 180 #[.int .i64 n] w fun e w' => e = .returned (.bool (array26 n)) ∧ w = w' := by
  unfold array26
  by_cases h : 1 ≤ n
  · have h1 : decide ((1 : Int) ≤ n) = true := decide_eq_true h
    go_enter Tryz.func180, Tryz.ntmps180
    go_wp2_with fail
    go_ret
    exact ⟨by rw [h1]; rfl, rfl⟩
  · have h1 : decide ((1 : Int) ≤ n) = false := decide_eq_false h
    go_enter Tryz.func180, Tryz.ntmps180
    go_wp2_with fail
    go_ret
    exact ⟨rfl, rfl⟩
set_option maxRecDepth 100000 in
set_option maxHeartbeats 1000000 in
theorem mnote_is {e : Nat} (hb : blk w m [.pointer (some ⟨g, 0, none⟩), .int .i64 e]) (r : Int) (f : Nat) :
    Calls Tryz.prog 187 #[.pointer (some ⟨m, 0, none⟩), .int .i64 r, .int .i64 f] w fun x w' => x = .returned (.int .i64 r) ∧ blk w' m [.pointer (some ⟨g, 0, none⟩), .int .i64 ((if e = 0 then f else e : Nat) : Int)] ∧ Ch [m] w w' := by
  have m1 := hb.cell (i := 1) rfl
  have m1f := hb.frozen (i := 1)
  have HB := Lib.hid hb; clear hb
  by_cases he : e = 0
  · subst he
    rw [if_pos rfl]
    go_enter Tryz.func187, Tryz.ntmps187
    go_wp2_with fail
    go_ret
    exact ⟨rfl, HB.out.set (i := 1) _, (Ch.refl _ _).setCell (by simp) _⟩
  · have hq : ((e : Int) == 0) = false := beqN (by omega)
    rw [if_neg he]
    go_enter Tryz.func187, Tryz.ntmps187
    go_wp2_with fail
    go_ret
    exact ⟨rfl, HB.out, Ch.refl _ _⟩
set_option maxRecDepth 100000 in
set_option maxHeartbeats 2000000 in
theorem mbuildW_is (h : GIn w g G F) (fid : Nat) (caps : Array Value) (hfn : Fnv fid) (s : Mk) (Post : Value → List Nat → World → Prop)
    (hf : ∀ W m, w.heap.size ≤ m → Ch [] w W → MIn W g m (G, 0) F → Calls Tryz.prog fid (#[.pointer (some ⟨m, 0, none⟩)] ++ caps) W fun e W' => ∃ v P F', e = .returned v ∧ Sim G P s ∧ MIn W' g m P F' ∧ Ch (m :: F) W W' ∧ (∀ k ∈ F', k ∈ F ∨ W.heap.size ≤ k) ∧ F'[2]? = F[2]? ∧ (s.2 = 0 → Post v F' W')) :
    Calls Tryz.prog 177 #[.pointer (some ⟨g, 0, none⟩), .func (.func fid) #[] caps] w fun e w' => ∃ v, e = .returned (.tuple #[v, .int .i64 s.2]) ∧ MB w g G F s Post mzW v w' := by
  have HL := Len_g h
  have hg := h.lt
  have hok := h.ok
  have hroom := h.ok.room
  have hmost := h.ok.most
  have hms : MIn (w.alloc (.cells #[.pointer (some ⟨g, 0, none⟩), .int .i64 0] 329)) g w.heap.size (G, 0) F := ⟨h.same ((Ch.refl [] _).alloc _) (by simp), blk.new' _ _ rfl, fun hm => by have := hg _ hm; omega⟩
  have HF := hf _ w.heap.size (Nat.le_refl _) ((Ch.refl _ _).alloc _) hms
  have hcf : ∀ args w, (callFunc fid args).run Tryz.prog w = .ok (.enter fid args) w := hfn
  have H := Lib.hid h; clear h
  have HG := Lib.hid hg; clear hg
  have HOK := Lib.hid hok; clear hok
  clear hf hms
  go_enter Tryz.func177, Tryz.ntmps177
  go_wp2_with fail
  refine HL.mono ?_
  rintro e w' ⟨rfl, rfl⟩
  go_wp2_with fail
  refine HF.mono ?_
  rintro e w1 ⟨v, P, F', rfl, hsim, hm, hc, hF', hF2, hpost⟩
  have m1 := hm.bk.cell (i := 1) rfl
  have hc0 : Ch F w w1 := (((Ch.refl F w).alloc (.cells #[.pointer (some ⟨g, 0, none⟩), .int .i64 0] 329))).trans hc (fun k hk => by
    simp only [List.mem_cons] at hk
    rcases hk with rfl | hk
    · right; omega
    · exact .inl hk)
  have hz := hc0.size
  have hF0 : ∀ k ∈ F', k ∈ F ∨ w.heap.size ≤ k := fun k hk => (hF' k hk).imp id (fun e => by simp at e; omega)
  have hrel := hsim.rel
  have hext := hsim.ext
  have HPOST := Lib.hid hpost; clear hpost
  have HC0 := Lib.hid hc0; clear hc0
  have HF0 := Lib.hid hF0; clear hF0
  have HM := Lib.hid hm; clear hm
  have HEXT := Lib.hid hext; clear hext
  clear hc hF' hsim
  rcases hrel with ⟨he, rfl⟩ | ⟨he, hp⟩
  · rw [he] at m1
    clear HOK
    have HE := Lib.hid he; clear he
    go_wp2_with fail
    go_ret2
    exact ⟨_, by rw [HE.out]; rfl, F', by rw [if_pos HE.out]; exact HM.out.gin, HC0.out, HF0.out, hF2, fun _ => HPOST.out HE.out, fun h => absurd HE.out h⟩
  · rw [hp] at m1
    have hcut := Cut_g HM.out.gin G.nodes.length (by omega) (by omega)
    rw [doCut_back HOK.out HEXT.out] at hcut
    have hmlt := HM.out.bk.lt
    have hmF := HM.out.apart
    have HE := Lib.hid he; clear he
    have HP := Lib.hid hp; clear hp
    have HMF := Lib.hid hmF; clear hmF
    go_wp2_with fail
    refine hcut.mono ?_
    rintro e w4 ⟨rfl, F4, hg4, hc4, hF4, hF42⟩
    have hm4 : w4.cell? ⟨w.heap.size, 1, none⟩ = some (.int .i64 201) := (hc4.cell (p := ⟨w.heap.size, 1, none⟩) hmlt HMF.out).trans m1
    clear m1
    have HG4 := Lib.hid hg4; clear hg4
    have HC4 := Lib.hid hc4; clear hc4
    have HF4 := Lib.hid hF4; clear hF4
    go_wp2_with fail
    refine Ord.St.door (fun _ => True) [.fl, .fl, .fl, .fl, .rd, .fl, .fl] [0, 0, 2, 6, 14, 1, 63] [0, 1, 2, 3, 4, 5, 6] mixed (by kernel_rfl) rfl ?_
    refine Ord.St.fl2 (T' := ?_) 0 [1, 2, 3, 4, 5, 6] _ _ rfl (by kernel_rfl) rfl rfl rfl rfl (fun K w' hk => ?_) ?_
    rotate_left
    · go_step; exact hk
    refine Ord.St.fl2 (T' := ?_) 1 [2, 3, 4, 5, 6] _ _ rfl (by kernel_rfl) rfl rfl rfl rfl (fun K w' hk => ?_) ?_
    rotate_left
    · go_step; exact hk
    refine Ord.St.fl2 (T' := ?_) 2 [3, 4, 5, 6] _ _ rfl (by kernel_rfl) rfl rfl rfl rfl (fun K w' hk => ?_) ?_
    rotate_left
    · go_step; exact hk
    refine Ord.St.fl2 (T' := ?_) 3 [4, 5, 6] _ _ rfl (by kernel_rfl) rfl rfl rfl rfl (fun K w' hk => ?_) ?_
    rotate_left
    · go_step; exact hk
    refine Ord.St.rd2 (T' := ?_) 4 [5, 6] _ _ rfl (by kernel_rfl) rfl rfl rfl rfl (fun K hk => ?_) ?_
    rotate_left
    · go_step; exact hk
    refine Ord.St.fl2 (T' := ?_) 5 [6] _ _ rfl (by kernel_rfl) rfl rfl rfl rfl (fun K w' hk => ?_) ?_
    rotate_left
    · go_step; exact hk
    refine Ord.St.fl2 (T' := ?_) 6 [] _ _ rfl (by kernel_rfl) rfl rfl rfl rfl (fun K w' hk => ?_) ?_
    rotate_left
    · go_step; exact hk
    refine Ord.St.nil ?_
    go_wp2_with fail
    go_ret2
    refine ⟨_, by rw [HE.out]; rfl, F4, by rw [if_neg (by rw [HE.out]; omega)]; exact HG4.out.same (F' := []) (Ch.refl _ _).drew (by simp), HC0.out.trans HC4.out.drew (fun k hk => HF0.out k hk), fun k hk => ?_, hF42.trans hF2, fun h => absurd h (by rw [HE.out]; omega), fun _ => rfl⟩
    rcases HF4.out k hk with e | e
    · exact HF0.out k e
    · exact .inr (by omega)
set_option maxRecDepth 100000 in
set_option maxHeartbeats 2000000 in
theorem mbuildL_is (h : GIn w g G F) (fid : Nat) (caps : Array Value) (hfn : Fnv fid) (s : Mk) (Post : Value → List Nat → World → Prop)
    (hf : ∀ W m, w.heap.size ≤ m → Ch [] w W → MIn W g m (G, 0) F → Calls Tryz.prog fid (#[.pointer (some ⟨m, 0, none⟩)] ++ caps) W fun e W' => ∃ v P F', e = .returned v ∧ Sim G P s ∧ MIn W' g m P F' ∧ Ch (m :: F) W W' ∧ (∀ k ∈ F', k ∈ F ∨ W.heap.size ≤ k) ∧ F'[2]? = F[2]? ∧ (s.2 = 0 → Post v F' W')) :
    Calls Tryz.prog 185 #[.pointer (some ⟨g, 0, none⟩), .func (.func fid) #[] caps] w fun e w' => ∃ v, e = .returned (.tuple #[v, .int .i64 s.2]) ∧ MB w g G F s Post mzL v w' := by
  have HL := Len_g h
  have hg := h.lt
  have hok := h.ok
  have hroom := h.ok.room
  have hmost := h.ok.most
  have hms : MIn (w.alloc (.cells #[.pointer (some ⟨g, 0, none⟩), .int .i64 0] 329)) g w.heap.size (G, 0) F := ⟨h.same ((Ch.refl [] _).alloc _) (by simp), blk.new' _ _ rfl, fun hm => by have := hg _ hm; omega⟩
  have HF := hf _ w.heap.size (Nat.le_refl _) ((Ch.refl _ _).alloc _) hms
  have hcf : ∀ args w, (callFunc fid args).run Tryz.prog w = .ok (.enter fid args) w := hfn
  have H := Lib.hid h; clear h
  have HG := Lib.hid hg; clear hg
  have HOK := Lib.hid hok; clear hok
  clear hf hms
  go_enter Tryz.func185, Tryz.ntmps185
  go_wp2_with fail
  refine HL.mono ?_
  rintro e w' ⟨rfl, rfl⟩
  go_wp2_with fail
  refine HF.mono ?_
  rintro e w1 ⟨v, P, F', rfl, hsim, hm, hc, hF', hF2, hpost⟩
  have m1 := hm.bk.cell (i := 1) rfl
  have hc0 : Ch F w w1 := (((Ch.refl F w).alloc (.cells #[.pointer (some ⟨g, 0, none⟩), .int .i64 0] 329))).trans hc (fun k hk => by
    simp only [List.mem_cons] at hk
    rcases hk with rfl | hk
    · right; omega
    · exact .inl hk)
  have hz := hc0.size
  have hF0 : ∀ k ∈ F', k ∈ F ∨ w.heap.size ≤ k := fun k hk => (hF' k hk).imp id (fun e => by simp at e; omega)
  have hrel := hsim.rel
  have hext := hsim.ext
  have HPOST := Lib.hid hpost; clear hpost
  have HC0 := Lib.hid hc0; clear hc0
  have HF0 := Lib.hid hF0; clear hF0
  have HM := Lib.hid hm; clear hm
  have HEXT := Lib.hid hext; clear hext
  clear hc hF' hsim
  rcases hrel with ⟨he, rfl⟩ | ⟨he, hp⟩
  · rw [he] at m1
    clear HOK
    have HE := Lib.hid he; clear he
    go_wp2_with fail
    go_ret2
    exact ⟨_, by rw [HE.out]; rfl, F', by rw [if_pos HE.out]; exact HM.out.gin, HC0.out, HF0.out, hF2, fun _ => HPOST.out HE.out, fun h => absurd HE.out h⟩
  · rw [hp] at m1
    have hcut := Cut_g HM.out.gin G.nodes.length (by omega) (by omega)
    rw [doCut_back HOK.out HEXT.out] at hcut
    have hmlt := HM.out.bk.lt
    have hmF := HM.out.apart
    have HE := Lib.hid he; clear he
    have HP := Lib.hid hp; clear hp
    have HMF := Lib.hid hmF; clear hmF
    go_wp2_with fail
    refine hcut.mono ?_
    rintro e w4 ⟨rfl, F4, hg4, hc4, hF4, hF42⟩
    have hm4 : w4.cell? ⟨w.heap.size, 1, none⟩ = some (.int .i64 201) := (hc4.cell (p := ⟨w.heap.size, 1, none⟩) hmlt HMF.out).trans m1
    clear m1
    have HG4 := Lib.hid hg4; clear hg4
    have HC4 := Lib.hid hc4; clear hc4
    have HF4 := Lib.hid hF4; clear hF4
    go_wp2_with fail
    refine Ord.St.door (fun _ => True) [.fl, .fl, .fl, .fl, .rd, .fl, .fl] [0, 0, 2, 6, 14, 1, 63] [0, 1, 2, 3, 4, 5, 6] mixed (by kernel_rfl) rfl ?_
    refine Ord.St.fl2 (T' := ?_) 0 [1, 2, 3, 4, 5, 6] _ _ rfl (by kernel_rfl) rfl rfl rfl rfl (fun K w' hk => ?_) ?_
    rotate_left
    · go_step; exact hk
    refine Ord.St.fl2 (T' := ?_) 1 [2, 3, 4, 5, 6] _ _ rfl (by kernel_rfl) rfl rfl rfl rfl (fun K w' hk => ?_) ?_
    rotate_left
    · go_step; exact hk
    refine Ord.St.fl2 (T' := ?_) 2 [3, 4, 5, 6] _ _ rfl (by kernel_rfl) rfl rfl rfl rfl (fun K w' hk => ?_) ?_
    rotate_left
    · go_step; exact hk
    refine Ord.St.fl2 (T' := ?_) 3 [4, 5, 6] _ _ rfl (by kernel_rfl) rfl rfl rfl rfl (fun K w' hk => ?_) ?_
    rotate_left
    · go_step; exact hk
    refine Ord.St.rd2 (T' := ?_) 4 [5, 6] _ _ rfl (by kernel_rfl) rfl rfl rfl rfl (fun K hk => ?_) ?_
    rotate_left
    · go_step; exact hk
    refine Ord.St.fl2 (T' := ?_) 5 [6] _ _ rfl (by kernel_rfl) rfl rfl rfl rfl (fun K w' hk => ?_) ?_
    rotate_left
    · go_step; exact hk
    refine Ord.St.fl2 (T' := ?_) 6 [] _ _ rfl (by kernel_rfl) rfl rfl rfl rfl (fun K w' hk => ?_) ?_
    rotate_left
    · go_step; exact hk
    refine Ord.St.nil ?_
    go_wp2_with fail
    go_ret2
    refine ⟨_, by rw [HE.out]; rfl, F4, by rw [if_neg (by rw [HE.out]; omega)]; exact HG4.out.same (F' := []) (Ch.refl _ _).drew (by simp), HC0.out.trans HC4.out.drew (fun k hk => HF0.out k hk), fun k hk => ?_, hF42.trans hF2, fun h => absurd h (by rw [HE.out]; omega), fun _ => rfl⟩
    rcases HF4.out k hk with e | e
    · exact HF0.out k e
    · exact .inr (by omega)
set_option maxRecDepth 100000 in
set_option maxHeartbeats 2000000 in
theorem mbuildR_is (h : GIn w g G F) (fid : Nat) (caps : Array Value) (hfn : Fnv fid) (s : Mk) (Post : Value → List Nat → World → Prop)
    (hf : ∀ W m, w.heap.size ≤ m → Ch [] w W → MIn W g m (G, 0) F → Calls Tryz.prog fid (#[.pointer (some ⟨m, 0, none⟩)] ++ caps) W fun e W' => ∃ v P F', e = .returned v ∧ Sim G P s ∧ MIn W' g m P F' ∧ Ch (m :: F) W W' ∧ (∀ k ∈ F', k ∈ F ∨ W.heap.size ≤ k) ∧ F'[2]? = F[2]? ∧ (s.2 = 0 → Post v F' W')) :
    Calls Tryz.prog 190 #[.pointer (some ⟨g, 0, none⟩), .func (.func fid) #[] caps] w fun e w' => ∃ v, e = .returned (.tuple #[v, .int .i64 s.2]) ∧ MB w g G F s Post mzR v w' := by
  have HL := Len_g h
  have hg := h.lt
  have hok := h.ok
  have hroom := h.ok.room
  have hmost := h.ok.most
  have hms : MIn (w.alloc (.cells #[.pointer (some ⟨g, 0, none⟩), .int .i64 0] 329)) g w.heap.size (G, 0) F := ⟨h.same ((Ch.refl [] _).alloc _) (by simp), blk.new' _ _ rfl, fun hm => by have := hg _ hm; omega⟩
  have HF := hf _ w.heap.size (Nat.le_refl _) ((Ch.refl _ _).alloc _) hms
  have hcf : ∀ args w, (callFunc fid args).run Tryz.prog w = .ok (.enter fid args) w := hfn
  have H := Lib.hid h; clear h
  have HG := Lib.hid hg; clear hg
  have HOK := Lib.hid hok; clear hok
  clear hf hms
  go_enter Tryz.func190, Tryz.ntmps190
  go_wp2_with fail
  refine HL.mono ?_
  rintro e w' ⟨rfl, rfl⟩
  go_wp2_with fail
  refine HF.mono ?_
  rintro e w1 ⟨v, P, F', rfl, hsim, hm, hc, hF', hF2, hpost⟩
  have m1 := hm.bk.cell (i := 1) rfl
  have hc0 : Ch F w w1 := (((Ch.refl F w).alloc (.cells #[.pointer (some ⟨g, 0, none⟩), .int .i64 0] 329))).trans hc (fun k hk => by
    simp only [List.mem_cons] at hk
    rcases hk with rfl | hk
    · right; omega
    · exact .inl hk)
  have hz := hc0.size
  have hF0 : ∀ k ∈ F', k ∈ F ∨ w.heap.size ≤ k := fun k hk => (hF' k hk).imp id (fun e => by simp at e; omega)
  have hrel := hsim.rel
  have hext := hsim.ext
  have HPOST := Lib.hid hpost; clear hpost
  have HC0 := Lib.hid hc0; clear hc0
  have HF0 := Lib.hid hF0; clear hF0
  have HM := Lib.hid hm; clear hm
  have HEXT := Lib.hid hext; clear hext
  clear hc hF' hsim
  rcases hrel with ⟨he, rfl⟩ | ⟨he, hp⟩
  · rw [he] at m1
    clear HOK
    have HE := Lib.hid he; clear he
    go_wp2_with fail
    go_ret2
    exact ⟨_, by rw [HE.out]; rfl, F', by rw [if_pos HE.out]; exact HM.out.gin, HC0.out, HF0.out, hF2, fun _ => HPOST.out HE.out, fun h => absurd HE.out h⟩
  · rw [hp] at m1
    have hcut := Cut_g HM.out.gin G.nodes.length (by omega) (by omega)
    rw [doCut_back HOK.out HEXT.out] at hcut
    have hmlt := HM.out.bk.lt
    have hmF := HM.out.apart
    have HE := Lib.hid he; clear he
    have HP := Lib.hid hp; clear hp
    have HMF := Lib.hid hmF; clear hmF
    go_wp2_with fail
    refine hcut.mono ?_
    rintro e w4 ⟨rfl, F4, hg4, hc4, hF4, hF42⟩
    have hm4 : w4.cell? ⟨w.heap.size, 1, none⟩ = some (.int .i64 201) := (hc4.cell (p := ⟨w.heap.size, 1, none⟩) hmlt HMF.out).trans m1
    clear m1
    have HG4 := Lib.hid hg4; clear hg4
    have HC4 := Lib.hid hc4; clear hc4
    have HF4 := Lib.hid hF4; clear hF4
    go_wp2_with fail
    refine Ord.St.door (fun _ => True) [.fl, .fl, .fl, .fl, .rd, .fl, .fl] [0, 0, 2, 6, 14, 1, 63] [0, 1, 2, 3, 4, 5, 6] mixed (by kernel_rfl) rfl ?_
    refine Ord.St.fl2 (T' := ?_) 0 [1, 2, 3, 4, 5, 6] _ _ rfl (by kernel_rfl) rfl rfl rfl rfl (fun K w' hk => ?_) ?_
    rotate_left
    · go_step; exact hk
    refine Ord.St.fl2 (T' := ?_) 1 [2, 3, 4, 5, 6] _ _ rfl (by kernel_rfl) rfl rfl rfl rfl (fun K w' hk => ?_) ?_
    rotate_left
    · go_step; exact hk
    refine Ord.St.fl2 (T' := ?_) 2 [3, 4, 5, 6] _ _ rfl (by kernel_rfl) rfl rfl rfl rfl (fun K w' hk => ?_) ?_
    rotate_left
    · go_step; exact hk
    refine Ord.St.fl2 (T' := ?_) 3 [4, 5, 6] _ _ rfl (by kernel_rfl) rfl rfl rfl rfl (fun K w' hk => ?_) ?_
    rotate_left
    · go_step; exact hk
    refine Ord.St.rd2 (T' := ?_) 4 [5, 6] _ _ rfl (by kernel_rfl) rfl rfl rfl rfl (fun K hk => ?_) ?_
    rotate_left
    · go_step; exact hk
    refine Ord.St.fl2 (T' := ?_) 5 [6] _ _ rfl (by kernel_rfl) rfl rfl rfl rfl (fun K w' hk => ?_) ?_
    rotate_left
    · go_step; exact hk
    refine Ord.St.fl2 (T' := ?_) 6 [] _ _ rfl (by kernel_rfl) rfl rfl rfl rfl (fun K w' hk => ?_) ?_
    rotate_left
    · go_step; exact hk
    refine Ord.St.nil ?_
    go_wp2_with fail
    go_ret2
    refine ⟨_, by rw [HE.out]; rfl, F4, by rw [if_neg (by rw [HE.out]; omega)]; exact HG4.out.same (F' := []) (Ch.refl _ _).drew (by simp), HC0.out.trans HC4.out.drew (fun k hk => HF0.out k hk), fun k hk => ?_, hF42.trans hF2, fun h => absurd h (by rw [HE.out]; omega), fun _ => rfl⟩
    rcases HF4.out k hk with e | e
    · exact HF0.out k e
    · exact .inr (by omega)
end
end Go.Proofs.YtehljgigebhddaaGreat
namespace Go.Proofs.YtehljgigebhddaaGreat
open Go.RowKit Go.Mem Go.Aig
theorem row_at2 {w : World} {e : TypeId} {b n c : Nat} {vs : List Value} (h : row w e 1 (.slice (some ⟨b, 0, none⟩) n c) n vs) {k : Nat} {v : Value} (hk : vs[k]? = some v) : w.cell? ⟨b, k, none⟩ = some v := by
  have := h.cells (g := b) rfl k v hk
  rw [Addr.add_lit] at this
  simpa using this
theorem row_fz {w : World} {e : TypeId} {b n c : Nat} {vs : List Value} (h : row w e 1 (.slice (some ⟨b, 0, none⟩) n c) n vs) (hn : 0 < n) (k : Nat) : w.frozen? ⟨b, k, none⟩ = false := by
  obtain ⟨b', ys, e1, hb, _⟩ := rowBlk h 0 hn
  cases e1
  exact hb.frozen
end Go.Proofs.YtehljgigebhddaaGreat
