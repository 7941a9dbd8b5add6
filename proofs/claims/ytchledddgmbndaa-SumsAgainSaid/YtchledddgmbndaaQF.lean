/-
  Walks over the closures of made (chapter 23's law): a result is noted; what is known while results are noted. Conditions: a graph in memory, words that are held.
  What is known while results are noted (made of chapter 23's law). Conditions: none beyond the hypotheses.
  Walk over made of chapter 23's law: what each operation makes of two words. Conditions: a graph in memory, words that are held.
  What SumsAgain asks, plainly: for words of one to five bits, by evaluation. No program in sight. Conditions: none.
  Walk over SumsAgain: true, whatever comes in. Conditions: none.
-/
import Derived.Test.YtchledddgmbndaaQD
namespace Go.Proofs.Ytchledddgmbndaa
open Go.RowKit Go.Mem Go.Aig
theorem infoRefs : (Try.prog.info? 29).map (fun i => (i.zero, i.size, i.bytes)) = some (some (.slice none 0 0), 1, 24) := by kernel_rfl
theorem slRows : SliceTy Try.prog 43 29 1 24 (.slice none 0 0) := ⟨Try.underlying43, infoRefs, rfl, by decide⟩
theorem fnvmade1 : Fnv 79 := fnv_of Try.func79 (by simp [Try.f79]) (by simp [Try.f79])
theorem fnvmade2 : Fnv 80 := fnv_of Try.func80 (by simp [Try.f80]) (by simp [Try.f80])
section
variable {w : World}
set_option maxRecDepth 100000 in
set_option maxHeartbeats 2000000 in
theorem made1_is {bok bout : Nat} {ok : Bool} {oa : Option Addr} {m oc : Nat} {vs : List Value} (hk : blk w bok [.bool ok]) (ho : blk w bout [.slice oa m oc]) (hne : bok ≠ bout) (hr : row w 29 1 (.slice oa m oc) m vs) (hm : m ≤ 1000) (hd : ∀ k ∈ (Value.slice oa m oc).ownBlock.toList, k ≠ bok ∧ k ≠ bout) (a : Option Addr) (n c : Nat) (e : Nat) :
    Calls Try.prog 79 (#[.slice a n c, .int .i64 e] ++ #[.pointer (some ⟨bok, 0, none⟩), .pointer (some ⟨bout, 0, none⟩)]) w fun en w' => (∃ v, en = .returned v) ∧ ∃ qa qc, blk w' bok [.bool (ok && (e == 0))] ∧ blk w' bout [.slice qa (m + 1) qc] ∧ row w' 29 1 (.slice qa (m + 1) qc) (m + 1) (vs ++ [.slice a n c]) ∧
      Ch (bok :: bout :: (Value.slice oa m oc).ownBlock.toList) w w' ∧ ∀ k, (Value.slice qa (m + 1) qc).ownBlock = some k → (Value.slice oa m oc).ownBlock = some k ∨ w.heap.size ≤ k := by
  show Calls Try.prog 79 #[.slice a n c, .int .i64 e, .pointer (some ⟨bok, 0, none⟩), .pointer (some ⟨bout, 0, none⟩)] w _
  have hkl := hk.lt
  have hol := ho.lt
  have k0 := hk.cell (i := 0) rfl
  have k1 := hk.frozen (i := 0)
  have hq : ((e : Int) == 0) = (e == 0) := by
    by_cases h : e = 0
    · subst h; rfl
    · rw [beqN (by omega)]; simp [h]
  have hdown : ∀ k ∈ (Value.slice oa m oc).ownBlock.toList, k ≠ bok ∧ k ≠ bout := hd
  have hfin : ∀ (b : Bool) (W4 : World) (gb gc : Nat), row W4 29 1 (.slice (some ⟨gb, 0, none⟩) (m + 1) gc) (m + 1) (vs ++ [.slice a n c]) → Ch (Value.slice oa m oc).ownBlock.toList ((w.setCell ⟨bok, 0, none⟩ (.bool b)).alloc (.cells #[.slice a n c] 29)) W4 →
      (∀ k, (Value.slice (some ⟨gb, 0, none⟩) (m + 1) gc).ownBlock = some k → (Value.slice oa m oc).ownBlock = some k ∨ ((w.setCell ⟨bok, 0, none⟩ (.bool b)).alloc (.cells #[.slice a n c] 29)).heap.size ≤ k) → b = (ok && (e == 0)) →
      ∃ qa qc, blk (W4.setCell ⟨bout, 0, none⟩ (.slice (some ⟨gb, 0, none⟩) (m + 1) gc)) bok [.bool (ok && (e == 0))] ∧ blk (W4.setCell ⟨bout, 0, none⟩ (.slice (some ⟨gb, 0, none⟩) (m + 1) gc)) bout [.slice qa (m + 1) qc] ∧ row (W4.setCell ⟨bout, 0, none⟩ (.slice (some ⟨gb, 0, none⟩) (m + 1) gc)) 29 1 (.slice qa (m + 1) qc) (m + 1) (vs ++ [.slice a n c]) ∧
        Ch (bok :: bout :: (Value.slice oa m oc).ownBlock.toList) w (W4.setCell ⟨bout, 0, none⟩ (.slice (some ⟨gb, 0, none⟩) (m + 1) gc)) ∧ ∀ k, (Value.slice qa (m + 1) qc).ownBlock = some k → (Value.slice oa m oc).ownBlock = some k ∨ w.heap.size ≤ k := by
    rintro b W4 gb gc hrow hc4 hf4 rfl
    have h1 : Ch (bok :: bout :: (Value.slice oa m oc).ownBlock.toList) w ((w.setCell ⟨bok, 0, none⟩ (.bool (ok && (e == 0)))).alloc (.cells #[.slice a n c] 29)) := ((Ch.refl _ _).setCell (.inl (by simp)) _).alloc _
    have h2 := h1.trans hc4 (fun k hk => .inl (by simp at hk; simp [hk]))
    have hz : ((w.setCell ⟨bok, 0, none⟩ (.bool (ok && (e == 0)))).alloc (.cells #[.slice a n c] 29)).heap.size = w.heap.size + 1 := by simp [World.setCell]
    have hnk : bok ∉ (Value.slice oa m oc).ownBlock.toList := fun h => (hd _ h).1 rfl
    have hno : bout ∉ (Value.slice oa m oc).ownBlock.toList := fun h => (hd _ h).2 rfl
    have hgb : gb ≠ bout := by
      rcases hf4 gb rfl with h | h
      · exact (hd gb (by simpa using h)).2
      · rw [hz] at h; omega
    have hK : blk W4 bok [.bool (ok && (e == 0))] := ((hk.set (i := 0) (.bool (ok && (e == 0)))).alloc (.cells #[.slice a n c] 29)).ch hc4 hnk
    have hO : blk W4 bout [.slice oa m oc] := ((ho.other (p := ⟨bok, 0, none⟩) (by exact hne.symm) (.bool (ok && (e == 0)))).alloc (.cells #[.slice a n c] 29)).ch hc4 hno
    refine ⟨some ⟨gb, 0, none⟩, gc, hK.other (by exact hne) _, hO.set (i := 0) _, hrow.ch (F := [bout]) ((Ch.refl _ _).setCell (by simp) _) (fun k hk => by cases hk; simpa using hgb), h2.setCell (.inl (by simp)) _, fun k hk => ?_⟩
    rcases hf4 k hk with h | h
    · exact .inl h
    · rw [hz] at h; exact .inr (by omega)
  have hrA : ∀ b : Bool, row ((w.setCell ⟨bok, 0, none⟩ (.bool b)).alloc (.cells #[.slice a n c] 29)) 29 1 (.slice oa m oc) m vs := fun b => hr.ch (F := [bok]) (((Ch.refl _ _).setCell (by simp) _).alloc _) (fun k hk2 => by have := hd k (by simpa using hk2); simp; exact this.1)
  have hbA : ∀ b : Bool, blk ((w.setCell ⟨bok, 0, none⟩ (.bool b)).alloc (.cells #[.slice a n c] 29)) (w.setCell ⟨bok, 0, none⟩ (.bool b)).heap.size [.slice a n c] := fun b => blk.new' _ _ rfl
  have hoB : ∀ (b : Bool) (W4 : World), Ch (Value.slice oa m oc).ownBlock.toList ((w.setCell ⟨bok, 0, none⟩ (.bool b)).alloc (.cells #[.slice a n c] 29)) W4 → W4.cell? ⟨bout, 0, none⟩ = some (.slice oa m oc) ∧ W4.frozen? ⟨bout, 0, none⟩ = false := fun b W4 hc => by
    have hO : blk W4 bout [.slice oa m oc] := ((ho.other (p := ⟨bok, 0, none⟩) (by exact hne.symm) (.bool b)).alloc (.cells #[.slice a n c] 29)).ch hc (fun h => (hd _ h).2 rfl)
    exact ⟨hO.cell rfl, hO.frozen⟩
  have o0 := ho.cell (i := 0) rfl
  have HRA := Lib.hid hrA; clear hrA hr
  have HBA := Lib.hid hbA; clear hbA
  have HOB := Lib.hid hoB; clear hoB
  have HFIN := Lib.hid hfin; clear hfin
  clear hk ho hd hdown
  have hne2 : bout ≠ bok := hne.symm
  cases ok
  · go_enter Try.func79, Try.ntmps79
    go_wp2_with (at_builtin; go_loud (refine wpList_append_row slRows rfl _ _ rfl (v := .slice oa m oc) (n := m) (xs := vs) rfl (HRA.out false) (ad := ⟨w.heap.size, 0, none⟩) (m := 1) (c := 1) (news := [.slice a n c]) rfl rfl (news_blk (by have := HBA.out false; simpa [World.setCell] using this)) (by simp [Value.oneCell']) (by omega) (by omega) ?_; intro v' w4 hown4 hC4 hf4; obtain ⟨gb, gc, rfl⟩ := row.parts hown4 (by omega); obtain ⟨s0, s1⟩ := HOB.out _ _ hC4; have HO4 := Lib.hid hown4; clear hown4; have HC4 := Lib.hid hC4; clear hC4; have HF4 := Lib.hid hf4; clear hf4))
    refine bodyPost_end (results_none rfl _ _ _) rfl ?_
    exact ⟨⟨_, rfl⟩, HFIN.out false _ gb gc HO4.out HC4.out HF4.out rfl⟩
  · go_enter Try.func79, Try.ntmps79
    go_wp2_with (at_builtin; go_loud (refine wpList_append_row slRows rfl _ _ rfl (v := .slice oa m oc) (n := m) (xs := vs) rfl (HRA.out (e == 0)) (ad := ⟨w.heap.size, 0, none⟩) (m := 1) (c := 1) (news := [.slice a n c]) rfl rfl (news_blk (by have := HBA.out (e == 0); simpa [World.setCell] using this)) (by simp [Value.oneCell']) (by omega) (by omega) ?_; intro v' w4 hown4 hC4 hf4; obtain ⟨gb, gc, rfl⟩ := row.parts hown4 (by omega); obtain ⟨s0, s1⟩ := HOB.out _ _ hC4; have HO4 := Lib.hid hown4; clear hown4; have HC4 := Lib.hid hC4; clear hC4; have HF4 := Lib.hid hf4; clear hf4))
    refine bodyPost_end (results_none rfl _ _ _) rfl ?_
    exact ⟨⟨_, rfl⟩, HFIN.out (e == 0) _ gb gc HO4.out HC4.out HF4.out (by simp)⟩
end
end Go.Proofs.Ytchledddgmbndaa
namespace Go.Proofs.Ytchledddgmbndaa
open Go.RowKit Go.Mem Go.Aig
structure MD (w0 w1 : World) (F0 : List Nat) (w : World) (g : Nat) (G : Gra) (F : List Nat) (L : List (Value × List Int)) (bok bout bfn : Nat) (ok : Bool) (oa : Option Addr) (m oc : Nat) (vs : List Value) : Prop where
  hold : Hold w0 w g G F L
  bk : blk w bok [.bool ok]
  bo : blk w bout [.slice oa m oc]
  bf : blk w bfn [.func (.func 79) #[] #[.pointer (some ⟨bok, 0, none⟩), .pointer (some ⟨bout, 0, none⟩)]]
  row : row w 29 1 (.slice oa m oc) m vs
  ge : w0.heap.size ≤ bok ∧ w0.heap.size ≤ bout ∧ w0.heap.size ≤ bfn
  ne : bok ≠ bout ∧ bok ≠ bfn ∧ bout ≠ bfn
  nF : bok ∉ F ∧ bout ∉ F ∧ bfn ∉ F
  oo : ∀ k, (Value.slice oa m oc).ownBlock = some k → w0.heap.size ≤ k ∧ k ∉ F ∧ k ≠ bok ∧ k ≠ bout ∧ k ≠ bfn
  sep : ∀ p ∈ L, ∀ k, p.1.ownBlock = some k → k ≠ bok ∧ k ≠ bout ∧ k ≠ bfn ∧ (Value.slice oa m oc).ownBlock ≠ some k
  ch1 : Ch F0 w1 w
  ge1 : w1.heap.size ≤ bok ∧ w1.heap.size ≤ bout ∧ w1.heap.size ≤ bfn
  oo1 : ∀ k, (Value.slice oa m oc).ownBlock = some k → w1.heap.size ≤ k
  f1 : ∀ k ∈ F, k ∈ F0 ∨ w1.heap.size ≤ k
section
variable {w0 w1 w : World} {F0 : List Nat} {g : Nat} {G : Gra} {F : List Nat} {L : List (Value × List Int)} {bok bout bfn : Nat} {ok : Bool} {oa : Option Addr} {m oc : Nat} {vs : List Value}
theorem Hold.chX {w' : World} {X : List Nat} (h : Hold w0 w g G F L) (hc : Ch X w w') (hX : ∀ k ∈ X, k ∉ F ∧ w0.heap.size ≤ k) (hL : ∀ p ∈ L, ∀ k, p.1.ownBlock = some k → k ∉ X) : Hold w0 w' g G F L :=
  ⟨⟨h.own.gin.same hc (fun k hk hk2 => (hX k hk2).1 hk), h.own.own, h.own.ch.trans hc (fun k hk => .inr (hX k hk).2)⟩, fun p hp => ⟨(h.held p hp).row.ch hc (hL p hp), (h.held p hp).len, (h.held p hp).bd, (h.held p hp).own⟩⟩
theorem MD.graph {w' : World} {G' : Gra} {F' : List Nat} {L' : List (Value × List Int)} (h : MD w0 w1 F0 w g G F L bok bout bfn ok oa m oc vs) (hh : Hold w0 w' g G' F' L') (hc : Ch F w w') (hF : ∀ k ∈ F', k ∈ F ∨ w.heap.size ≤ k) (hL : ∀ p ∈ L', p ∈ L ∨ ∀ k, p.1.ownBlock = some k → w.heap.size ≤ k) :
    MD w0 w1 F0 w' g G' F' L' bok bout bfn ok oa m oc vs := by
  have h1 := h.bk.lt; have h2 := h.bo.lt; have h3 := h.bf.lt
  have hn : ∀ k, k < w.heap.size → k ∉ F → k ∉ F' := fun k hk hkF hk2 => (hF k hk2).elim hkF (by omega)
  refine ⟨hh, h.bk.ch hc h.nF.1, h.bo.ch hc h.nF.2.1, h.bf.ch hc h.nF.2.2, h.row.ch hc (fun k hk => (h.oo k hk).2.1), h.ge, h.ne, ⟨hn _ h1 h.nF.1, hn _ h2 h.nF.2.1, hn _ h3 h.nF.2.2⟩, fun k hk => ?_, fun p hp k hk => ?_, ?_, h.ge1, h.oo1, fun k hk => ?_⟩
  · have h4 := h.oo k hk
    exact ⟨h4.1, hn k (h.row.lt k hk).2 h4.2.1, h4.2.2⟩
  · rcases hL p hp with hp | hp
    · exact h.sep p hp k hk
    · have h5 := hp k hk
      exact ⟨by omega, by omega, by omega, fun e => by have := (h.row.lt k e).2; omega⟩
  · exact h.ch1.trans hc h.f1
  · rcases hF k hk with e | e
    · exact h.f1 k e
    · exact .inr (Nat.le_trans h.ch1.size e)
theorem MD.same {w' : World} (h : MD w0 w1 F0 w g G F L bok bout bfn ok oa m oc vs) (hc : Ch [] w w') : MD w0 w1 F0 w' g G F L bok bout bfn ok oa m oc vs :=
  h.graph (h.hold.same hc) (hc.mono (by simp)) (fun _ hk => .inl hk) (fun _ hp => .inl hp)
theorem MD.word {w' : World} {G' : Gra} {v : Value} {l : List Nat} (h : MD w0 w1 F0 w g G F L bok bout bfn ok oa m oc vs) (ht : GVo w g G' [] F v l w') (hb : ∀ r ∈ l, r ≤ 1000000) (hl : l.length ≤ 1000000) : ∃ a c F', v = .slice a l.length c ∧ MD w0 w1 F0 w' g G' F' ((.slice a l.length c, natInts l) :: L) bok bout bfn ok oa m oc vs := by
  have ht0 := ht
  obtain ⟨F', h1, h2, h3, h4, h5, h6⟩ := ht
  obtain ⟨a, c, rfl⟩ := row.shape h5
  have hk2 := h.hold.to (G' := G') ⟨F', h1, h2, h3, h4⟩
  refine ⟨a, c, F', rfl, h.graph ⟨⟨h1, fun k hk => (h3 k hk).elim (h.hold.own.own k) (fun e => Nat.le_trans h.hold.own.ch.size e), h.hold.own.ch.trans h2 (fun k hk => .inr (h.hold.own.own k hk))⟩, fun p hp => ?_⟩ h2 h3 (fun p hp => ?_)⟩
  · rcases List.mem_cons.1 hp with rfl | hp
    · refine ⟨?_, by simpa using hl, fun r hr => ?_, fun k hk => ⟨Nat.le_trans h.hold.own.ch.size (h6 k hk).1, (h6 k hk).2⟩⟩
      · simp only [natInts_len]
        rw [← refs_natInts]
        exact h5
      · obtain ⟨q, hq, rfl⟩ := List.mem_map.1 hr
        have := hb q hq
        omega
    · exact (h.hold.held p hp).keep h2 h3
  · rcases List.mem_cons.1 hp with rfl | hp
    · exact .inr (fun k hk => (h6 k hk).1)
    · exact .inl hp
theorem MD.ref {w' : World} {G' : Gra} (h : MD w0 w1 F0 w g G F L bok bout bfn ok oa m oc vs) (ht : GTo w g G' F w') : ∃ F', MD w0 w1 F0 w' g G' F' L bok bout bfn ok oa m oc vs := by
  obtain ⟨F', h1, h2, h3, h4⟩ := ht
  exact ⟨F', h.graph ⟨⟨h1, fun k hk => (h3 k hk).elim (h.hold.own.own k) (fun e => Nat.le_trans h.hold.own.ch.size e), h.hold.own.ch.trans h2 (fun k hk => .inr (h.hold.own.own k hk))⟩, fun p hp => (h.hold.held p hp).keep h2 h3⟩ h2 h3 (fun _ hp => .inl hp)⟩
theorem MD.note {w' : World} {ok' : Bool} {qa : Option Addr} {qc : Nat} {vs' : List Value} (h : MD w0 w1 F0 w g G F L bok bout bfn ok oa m oc vs) (h1 : blk w' bok [.bool ok']) (h2 : blk w' bout [.slice qa (m + 1) qc]) (h3 : Go.Mem.row w' 29 1 (.slice qa (m + 1) qc) (m + 1) vs') (hc : Ch (bok :: bout :: (Value.slice oa m oc).ownBlock.toList) w w')
    (hf : ∀ k, (Value.slice qa (m + 1) qc).ownBlock = some k → (Value.slice oa m oc).ownBlock = some k ∨ w.heap.size ≤ k) : MD w0 w1 F0 w' g G F L bok bout bfn ok' qa (m + 1) qc vs' := by
  have k1 := h.bk.lt; have k2 := h.bo.lt; have k3 := h.bf.lt
  have hz := h.hold.own.ch.size
  have hX : ∀ k ∈ bok :: bout :: (Value.slice oa m oc).ownBlock.toList, k ∉ F ∧ w0.heap.size ≤ k := fun k hk => by
    simp only [List.mem_cons, Option.mem_toList] at hk
    rcases hk with rfl | rfl | hk
    · exact ⟨h.nF.1, h.ge.1⟩
    · exact ⟨h.nF.2.1, h.ge.2.1⟩
    · exact ⟨(h.oo k hk).2.1, (h.oo k hk).1⟩
  refine ⟨h.hold.chX hc hX (fun p hp k hk hk2 => ?_), h1, h2, h.bf.ch hc (fun hk => ?_), h3, h.ge, h.ne, h.nF, fun k hk => ?_, fun p hp k hk => ?_, h.ch1.trans hc (fun k hk => ?_), h.ge1, fun k hk => ?_, h.f1⟩
  · have hs := h.sep p hp k hk
    simp only [List.mem_cons, Option.mem_toList] at hk2
    rcases hk2 with e | e | e
    · exact hs.1 e
    · exact hs.2.1 e
    · exact hs.2.2.2 e
  · simp only [List.mem_cons, Option.mem_toList] at hk
    rcases hk with e | e | e
    · exact h.ne.2.1 e.symm
    · exact h.ne.2.2 e.symm
    · exact (h.oo bfn e).2.2.2.2 rfl
  · rcases hf k hk with e | e
    · exact h.oo k e
    · exact ⟨by omega, fun hkF => by have := GIn.lt h.hold.own.gin k hkF; omega, by omega, by omega, by omega⟩
  · have hs := h.sep p hp k hk
    refine ⟨hs.1, hs.2.1, hs.2.2.1, fun e => ?_⟩
    rcases hf k e with e2 | e2
    · exact hs.2.2.2 e2
    · have := ((h.hold.held p hp).row.lt k hk).2; omega
  · simp only [List.mem_cons, Option.mem_toList] at hk
    rcases hk with rfl | rfl | hk
    · exact .inr h.ge1.1
    · exact .inr h.ge1.2.1
    · exact .inr (h.oo1 k hk)
  · rcases hf k hk with e | e
    · exact h.oo1 k e
    · exact Nat.le_trans h.ch1.size e
/-- a result is noted -/
theorem MD.noted (h : MD w0 w1 F0 w g G F L bok bout bfn ok oa m oc vs) (hm : m ≤ 1000) (a : Option Addr) (n c e : Nat) :
    Calls Try.prog 79 #[.slice a n c, .int .i64 e, .pointer (some ⟨bok, 0, none⟩), .pointer (some ⟨bout, 0, none⟩)] w fun en w' => (∃ v, en = .returned v) ∧ ∃ qa qc, MD w0 w1 F0 w' g G F L bok bout bfn (ok && (e == 0)) qa (m + 1) qc (vs ++ [.slice a n c]) := by
  have h0 := made1_is h.bk h.bo h.ne.1 h.row hm (fun k hk => ⟨(h.oo k (by simpa using hk)).2.2.1, (h.oo k (by simpa using hk)).2.2.2.1⟩) a n c e
  change Calls Try.prog 79 #[.slice a n c, .int .i64 e, .pointer (some ⟨bok, 0, none⟩), .pointer (some ⟨bout, 0, none⟩)] w _ at h0
  refine h0.mono ?_
  rintro en w' ⟨hv, qa, qc, h1, h2, h3, hc, hf⟩
  exact ⟨hv, qa, qc, h.note h1 h2 h3 hc hf⟩
end
end Go.Proofs.Ytchledddgmbndaa
namespace Go.Aig
def bitR (R : Res) : Gra × List Nat × Nat := (R.1, [R.2.1], R.2.2)
/-- what the operations make -/
def mkOp (i : Nat) (G : Gra) (x y : List Int) : Gra × List Nat × Nat := match i with
  | 0 => wordG G [x] ((G, 0), (nats x).map neg)
  | 1 => subG G (List.replicate x.length 0) x
  | 2 => wordG G [x, y] (eachF (rop and) (G, 0) ((nats x).zip (nats y)))
  | 3 => wordG G [x, y] (eachF (rop rOr) (G, 0) ((nats x).zip (nats y)))
  | 4 => wordG G [x, y] (eachF (rop rXor) (G, 0) ((nats x).zip (nats y)))
  | 5 => wordG G [x, y] (sumW x.length (G, 0) ((nats x).zip (nats y)) 0)
  | 6 => subG G x y
  | 7 => bitR (negG (refG G [x, y] (neF (G, 0) ((nats x).zip (nats y)))))
  | 8 => bitR (refG G [x, y] (neF (G, 0) ((nats x).zip (nats y))))
  | 9 => bitR (refG G [x, y] (ltF (G, 0) ((nats x).zip (nats y))))
  | _ => bitR (negG (refG G [y, x] (ltF (G, 0) ((nats y).zip (nats x)))))
theorem mkOp_0 (G : Gra) (x y : List Int) : mkOp 0 G x y = wordG G [x] ((G, 0), (nats x).map neg) := rfl
theorem mkOp_1 (G : Gra) (x y : List Int) : mkOp 1 G x y = subG G (List.replicate x.length 0) x := rfl
theorem mkOp_2 (G : Gra) (x y : List Int) : mkOp 2 G x y = wordG G [x, y] (eachF (rop and) (G, 0) ((nats x).zip (nats y))) := rfl
theorem mkOp_3 (G : Gra) (x y : List Int) : mkOp 3 G x y = wordG G [x, y] (eachF (rop rOr) (G, 0) ((nats x).zip (nats y))) := rfl
theorem mkOp_4 (G : Gra) (x y : List Int) : mkOp 4 G x y = wordG G [x, y] (eachF (rop rXor) (G, 0) ((nats x).zip (nats y))) := rfl
theorem mkOp_5 (G : Gra) (x y : List Int) : mkOp 5 G x y = wordG G [x, y] (sumW x.length (G, 0) ((nats x).zip (nats y)) 0) := rfl
theorem mkOp_6 (G : Gra) (x y : List Int) : mkOp 6 G x y = subG G x y := rfl
theorem mkOp_7 (G : Gra) (x y : List Int) : mkOp 7 G x y = bitR (negG (refG G [x, y] (neF (G, 0) ((nats x).zip (nats y))))) := rfl
theorem mkOp_8 (G : Gra) (x y : List Int) : mkOp 8 G x y = bitR (refG G [x, y] (neF (G, 0) ((nats x).zip (nats y)))) := rfl
theorem mkOp_9 (G : Gra) (x y : List Int) : mkOp 9 G x y = bitR (refG G [x, y] (ltF (G, 0) ((nats x).zip (nats y)))) := rfl
theorem mkOp_10 (G : Gra) (x y : List Int) : mkOp 10 G x y = bitR (negG (refG G [y, x] (ltF (G, 0) ((nats y).zip (nats x))))) := rfl
def madeStep (x y : List Int) (s : Gra × List (List Nat) × Bool) (i : Nat) : Gra × List (List Nat) × Bool := ((mkOp i s.1 x y).1, s.2.1 ++ [(mkOp i s.1 x y).2.1], s.2.2 && ((mkOp i s.1 x y).2.2 == 0))
def madeG (G : Gra) (x y : List Int) (n : Nat) : Gra × List (List Nat) × Bool := (List.range n).foldl (madeStep x y) (G, [], true)
theorem madeG_succ (G : Gra) (x y : List Int) (n : Nat) : madeG G x y (n + 1) = madeStep x y (madeG G x y n) n := by
  unfold madeG
  rw [List.range_succ, List.foldl_append]; rfl
theorem eachF_len (op : Mk → Nat → Nat → Mk × Nat) (s : Mk) (l : List (Nat × Nat)) : (eachF op s l).2.length = l.length := by
  have : ∀ (l : List (Nat × Nat)) (q : Mk × List Nat), (l.foldl (eachS op) q).2.length = q.2.length + l.length := by
    intro l
    induction l with
    | nil => intro q; rfl
    | cons p l ih =>
      intro q
      rw [List.foldl_cons, ih]
      unfold eachS
      simp; omega
  have h := this l (s, [])
  simpa [eachF] using h
theorem wordG_len {G : Gra} {ws : List (List Int)} {R : Mk × List Nat} {n : Nat} (h : R.2.length ≤ n) : (wordG G ws R).2.1.length ≤ n := by
  unfold wordG wres
  split
  · simp
  · split
    · simp
    · exact h
theorem chk1_lt {G : Gra} {x : List Int} (h : chk G [x] = 0) : ∀ r ∈ nats x, r < 2 * G.nodes.length := (chk_ok h x (by simp)).lt
theorem subG_ok {G : Gra} (hG : Ok G) (x y : List Int) : WOk G (subG G x y) := wordG_ok hG fun hc => by
  have hp := hG.wf.pos
  have h1 := (chk_ok hc x (by simp)).lt
  have h2 := (chk_ok hc y (by simp)).lt
  exact sumF_lok hG _ _ (zip_lt h1 (fun r hr => by obtain ⟨q, hq, rfl⟩ := List.mem_map.1 hr; exact neg_lt (h2 q hq))) (by omega)
theorem subG_len {G : Gra} {x y : List Int} {n : Nat} (h : x.length ≤ n) : (subG G x y).2.1.length ≤ n := wordG_len (by
  unfold sumW
  dsimp only
  rw [Go.Proofs.Ytchledddgmbndaa.sumF_len, List.length_zip]
  simp only [nats_len]
  omega)
theorem bitR_ok {G : Gra} {R : Res} (h1 : Ok R.1) (h2 : Ext G R.1) (h3 : R.2.1 < 2 * R.1.nodes.length) : WOk G (bitR R) := ⟨h1, h2, fun r hr => by rw [List.mem_singleton.1 hr]; exact h3⟩
theorem negG_ok {G : Gra} {R : Res} (h : Ok R.1 ∧ Ext G R.1 ∧ R.2.1 < 2 * R.1.nodes.length) : Ok (negG R).1 ∧ Ext G (negG R).1 ∧ (negG R).2.1 < 2 * (negG R).1.nodes.length := by
  have := h.1.wf.pos
  unfold negG
  split
  · exact ⟨h.1, h.2.1, by show 0 < 2 * R.1.nodes.length; omega⟩
  · exact ⟨h.1, h.2.1, neg_lt h.2.2⟩
theorem mkOp_ok {G : Gra} (hG : Ok G) (i : Nat) (hi : i < 11) (x y : List Int) (hx : x.length ≤ 1000000) : WOk G (mkOp i G x y) ∧ (mkOp i G x y).2.1.length ≤ 1000000 := by
  have hp := hG.wf.pos
  rcases i with _ | _ | _ | _ | _ | _ | _ | _ | _ | _ | _ | i
  · exact ⟨wordG_ok hG fun hc => ⟨.start hG, fun r hr => by obtain ⟨q, hq, rfl⟩ := List.mem_map.1 hr; exact neg_lt (chk1_lt hc q hq)⟩, wordG_len (by simpa using hx)⟩
  · exact ⟨subG_ok hG _ _, subG_len (by simpa using hx)⟩
  · exact ⟨wordG_ok hG fun hc => eachF_lok hG full_and _ (chk_zip hc), wordG_len (by rw [eachF_len, List.length_zip]; simp only [nats_len]; omega)⟩
  · exact ⟨wordG_ok hG fun hc => eachF_lok hG full_or _ (chk_zip hc), wordG_len (by rw [eachF_len, List.length_zip]; simp only [nats_len]; omega)⟩
  · exact ⟨wordG_ok hG fun hc => eachF_lok hG full_xor _ (chk_zip hc), wordG_len (by rw [eachF_len, List.length_zip]; simp only [nats_len]; omega)⟩
  · exact ⟨wordG_ok hG fun hc => sumF_lok hG _ _ (chk_zip hc) (by omega), wordG_len (by unfold sumW; dsimp only; rw [Go.Proofs.Ytchledddgmbndaa.sumF_len, List.length_zip]; simp only [nats_len]; omega)⟩
  · exact ⟨subG_ok hG _ _, subG_len hx⟩
  · have h := negG_ok (refG_ok hG (ws := [x, y]) (R := neF (G, 0) ((nats x).zip (nats y))) fun hc => neF_vok hG _ (chk_zip hc))
    exact ⟨bitR_ok h.1 h.2.1 h.2.2, by show (1 : Nat) ≤ 1000000; omega⟩
  · have h := refG_ok hG (ws := [x, y]) (R := neF (G, 0) ((nats x).zip (nats y))) fun hc => neF_vok hG _ (chk_zip hc)
    exact ⟨bitR_ok h.1 h.2.1 h.2.2, by show (1 : Nat) ≤ 1000000; omega⟩
  · have h := refG_ok hG (ws := [x, y]) (R := ltF (G, 0) ((nats x).zip (nats y))) fun hc => ltF_vok hG _ (chk_zip hc)
    exact ⟨bitR_ok h.1 h.2.1 h.2.2, by show (1 : Nat) ≤ 1000000; omega⟩
  · have h := negG_ok (refG_ok hG (ws := [y, x]) (R := ltF (G, 0) ((nats y).zip (nats x))) fun hc => ltF_vok hG _ (chk_zip hc))
    exact ⟨bitR_ok h.1 h.2.1 h.2.2, by show (1 : Nat) ≤ 1000000; omega⟩
  · omega
theorem WOk.small {G : Gra} {R : Gra × List Nat × Nat} (h : WOk G R) : ∀ r ∈ R.2.1, r ≤ 1000000 := fun r hr => by
  have h1 := h.lt r hr
  have h2 := h.ok.small
  omega
end Go.Aig
namespace Go.Proofs.Ytchledddgmbndaa
open Go.RowKit Go.Mem Go.Aig
theorem run_storeFunc {P : Program} {w : World} {a : Addr} {m : Mode} (f : Fn) (b c : Array Value) : (store a (.func f b c) m).run P w = stored P w a (.func f b c) m := run_store P w a _ m rfl
attribute [local go_sem] run_storeFunc
def mfun (B : Nat) : Value := .func (.func 79) #[] #[.pointer (some ⟨B + 1, 0, none⟩), .pointer (some ⟨B, 0, none⟩)]
/-- values that are held words, one for each list -/
structure VL (vs : List Value) (ls : List (List Nat)) (L : List (Value × List Int)) : Prop where
  len : vs.length = ls.length
  mem : ∀ (i : Nat) (v : Value) (l : List Nat), vs[i]? = some v → ls[i]? = some l → (v, natInts l) ∈ L
theorem VL.snoc {vs : List Value} {ls : List (List Nat)} {L : List (Value × List Int)} (h : VL vs ls L) (v : Value) (l : List Nat) : VL (vs ++ [v]) (ls ++ [l]) ((v, natInts l) :: L) := by
  refine ⟨by simp [h.len], fun i u q hu hq => ?_⟩
  by_cases hi : i < vs.length
  · rw [List.getElem?_append_left hi] at hu
    rw [List.getElem?_append_left (by rw [← h.len]; exact hi)] at hq
    exact List.mem_cons_of_mem _ (h.mem i u q hu hq)
  · have hlt := (List.getElem?_eq_some_iff.1 hu).1
    rw [List.length_append] at hlt
    simp at hlt
    have he : i = vs.length := by omega
    subst he
    have hl := h.len
    rw [List.getElem?_append_right (by omega)] at hu
    rw [List.getElem?_append_right (by omega)] at hq
    simp at hu
    simp [hl] at hq
    rw [← hu, ← hq]
    exact List.mem_cons_self
section
variable {w0 w1 w : World} {F0 : List Nat} {g : Nat} {G : Gra} {F : List Nat} {L : List (Value × List Int)} {bok bout bfn : Nat} {ok : Bool} {oa : Option Addr} {m oc : Nat} {vs : List Value}
set_option maxRecDepth 100000 in
set_option maxHeartbeats 2000000 in
theorem made2_is (h : MD w0 w1 F0 w g G F L bok bout bfn ok oa m oc vs) (hm : m ≤ 1000) (r e : Nat) (hr : r ≤ 1000000) :
    Calls Try.prog 80 #[.int .i64 r, .int .i64 e, .pointer (some ⟨bfn, 0, none⟩)] w fun en w' => (∃ v, en = .returned v) ∧ ∃ a qa qc, MD w0 w1 F0 w' g G F ((.slice a 1 1, natInts [r]) :: L) bok bout bfn (ok && (e == 0)) qa (m + 1) qc (vs ++ [.slice a 1 1]) := by
  have hcf : ∀ args w, (callFunc 79 args).run Try.prog w = .ok (.enter 79 args) w := fnvmade1
  have f0 := h.bf.cell (i := 0) rfl
  have hN : ∀ W, W = w.alloc (.cells #[.int .i64 r] 34) → MD w0 w1 F0 W g G F ((.slice (some ⟨w.heap.size, 0, none⟩) 1 1, natInts [r]) :: L) bok bout bfn ok oa m oc vs := fun W hW => by
    have hc := alw_ch hW
    have hg := GIn.lt h.hold.own.gin
    have hz := h.hold.own.ch.size
    refine h.graph ⟨(h.hold.same hc).own, fun p hp => ?_⟩ (hc.mono (by simp)) (fun _ hk => .inl hk) (fun p hp => ?_)
    · rcases List.mem_cons.1 hp with rfl | hp
      · refine ⟨⟨rfl, .inr ⟨w.heap.size, 1, #[.int .i64 r], rfl, by omega, ?_, by simp [natInts], by unfold maxLen; omega, rfl, rfl⟩⟩, by simp [natInts], fun q hq => ?_, fun k hk => ?_⟩
        · rw [hW]; exact heap_alloc_new w _
        · simp [natInts] at hq; omega
        · cases hk
          exact ⟨hz, fun hk => by have := hg _ hk; simp at this⟩
      · exact (h.hold.same hc).held p hp
    · rcases List.mem_cons.1 hp with rfl | hp
      · exact .inr (fun k hk => by cases hk; exact Nat.le_refl _)
      · exact .inl hp
  have HN := Lib.hid hN; clear hN h
  go_enter Try.func80, Try.ntmps80
  go_wp2_with fail
  refine calls_named fun W0 hW0 => ?_
  refine ((HN.out W0 hW0).noted hm (some ⟨w.heap.size, 0, none⟩) 1 1 e).mono ?_
  rintro en w1 ⟨⟨v, rfl⟩, qa, qc, hmd⟩
  have HMD := Lib.hid hmd; clear hmd
  go_wp2_with fail
  refine bodyPost_end (results_none rfl _ _ _) rfl ?_
  exact ⟨⟨_, rfl⟩, _, qa, qc, HMD.out⟩
set_option maxRecDepth 100000 in
set_option maxHeartbeats 3000000 in
theorem made23_is (h : Hold w0 w g G F L) {xa ya : Option Addr} {xl yl : List Int} {n n2 xc yc : Nat} (hx : (.slice xa n xc, xl) ∈ L) (hxn : xl.length = n) (hy : (.slice ya n2 yc, yl) ∈ L) (hyn : yl.length = n2) :
    Calls Try.prog 33 #[.pointer (some ⟨g, 0, none⟩), .slice xa n xc, .slice ya n2 yc] w fun e w' => ∃ F' L' oa oc ba vs, e = .returned (.tuple #[.slice oa 11 oc, .slice (some ⟨ba, 0, none⟩) 11 11, .bool (madeG G xl yl 11).2.2]) ∧ Hold w0 w' g (madeG G xl yl 11).1 F' L' ∧ (∀ p ∈ L, p ∈ L') ∧ VL vs (madeG G xl yl 11).2.1 L' ∧
      row w' 29 1 (.slice oa 11 oc) 11 vs ∧ (∀ k, (Value.slice oa 11 oc).ownBlock = some k → w0.heap.size ≤ k ∧ k ∉ F') ∧ blk w' ba ([1, 2, 8, 9, 10, 3, 4, 13, 14, 15, 16].map fun (z : Int) => Value.int .u8 z) ∧ w0.heap.size ≤ ba ∧ ba ∉ F' ∧ Ch F w w' ∧ (∀ k ∈ F', k ∈ F ∨ w.heap.size ≤ k) := by
  have hcf : ∀ args w, (callFunc 79 args).run Try.prog w = .ok (.enter 79 args) w := fnvmade1
  have hcf2 : ∀ args w, (callFunc 80 args).run Try.prog w = .ok (.enter 80 args) w := fnvmade2
  subst hxn hyn
  have hlen : xl.length ≤ 1000000 := (h.at hx rfl).ok.len
  have H := Lib.hid h; clear h
  have HX := Lib.hid hx; clear hx
  have HY := Lib.hid hy; clear hy
  go_enter Try.func33, Try.ntmps33
  go_wp2_with fail
  refine wp_named fun W0 hW0 => ?_
  have hc0 : Ch [] w W0 := by rw [hW0]; exact (((Ch.refl _ _).alloc _).alloc _).alloc _
  have hz := H.out.own.ch.size
  have hg0 := GIn.lt H.out.own.gin
  have hmd : MD w0 w F W0 g G F L (w.heap.size + 1) w.heap.size (w.heap.size + 2) true none 0 0 [] := by
    refine ⟨H.out.same hc0, by rw [hW0]; exact (blk.new' _ _ (by simp)).alloc _, by rw [hW0]; exact ((blk.new' _ _ (by simp)).alloc _).alloc _, by rw [hW0]; exact blk.new' _ _ (by simp), ⟨rfl, .inl ⟨rfl, rfl⟩⟩, ⟨by omega, by omega, by omega⟩, ⟨by omega, by omega, by omega⟩, ⟨fun hk => ?_, fun hk => ?_, fun hk => ?_⟩, by simp [Value.ownBlock], fun p hp k hk => ?_, ?_, ?_, ?_, ?_⟩
    · have := hg0 _ hk; omega
    · have := hg0 _ hk; omega
    · have := hg0 _ hk; omega
    · have := ((H.out.held p hp).row.lt k hk).2
      exact ⟨by omega, by omega, by omega, by simp [Value.ownBlock]⟩
    · exact hc0.mono (by simp)
    · exact ⟨by omega, by omega, by omega⟩
    · exact fun k hk => by simp [Value.ownBlock] at hk
    · exact fun k hk => .inl hk
  clear hW0 hz hg0
  obtain ⟨vs0, hv0⟩ : ∃ X : List Value, X = [] := ⟨_, rfl⟩
  obtain ⟨L0, hL0⟩ : ∃ X, X = L := ⟨_, rfl⟩
  obtain ⟨F0, hF0⟩ : ∃ X, X = F := ⟨_, rfl⟩
  replace hmd : MD w0 w F W0 g (madeG G xl yl 0).1 F0 L0 (w.heap.size + 1) w.heap.size (w.heap.size + 2) (madeG G xl yl 0).2.2 none 0 0 vs0 := by rw [hv0, hL0, hF0]; exact hmd
  have hvl : VL vs0 (madeG G xl yl 0).2.1 L0 := by rw [hv0]; exact ⟨rfl, by simp⟩
  have HMD := Lib.hid hmd; clear hmd
  have HVL := Lib.hid hvl; clear hvl
  have HSub := Lib.hid (show ∀ p ∈ L, p ∈ L0 from fun _ h => hL0 ▸ h)
  have HC00 := Lib.hid hc0; clear hc0 hv0 hL0 hF0
  clear H
  obtain ⟨B, hB⟩ : ∃ B, B = w.heap.size := ⟨_, rfl⟩
  rw [← hB] at HMD ⊢
  clear hB
  -- Not
  have hok := mkOp_ok HMD.out.hold.own.gin.ok 0 (by omega) xl yl hlen
  obtain ⟨R0, hR⟩ : ∃ R, R = mkOp 0 (madeG G xl yl 0).1 xl yl := ⟨_, rfl⟩
  rw [← hR] at hok
  have HR := Lib.hid hR; clear hR
  have HOK := Lib.hid hok; clear hok
  go_wp2_with fail
  refine Ord.St.door (fun w' => w'.cell? ⟨B + 2, 0, none⟩ = some (mfun B)) [.ho, .fl, .fl, .ef, .fl, .fl, .ef] [0, 0, 0, 6, 14, 14, 63] [0, 1, 2, 3, 4, 5, 6] mixed (by kernel_rfl) rfl ?_
  obtain ⟨Wc, hWc⟩ : ∃ Wc, Wc = W0.drew := ⟨_, rfl⟩
  rw [← hWc]
  have hmd := HMD.out.same (by rw [hWc]; exact (Ch.refl _ _).drew : Ch [] _ Wc)
  clear hWc
  have hbf := hmd.bf
  have hC2 : Calls Try.prog 26 #[.pointer (some ⟨g, 0, none⟩), .slice xa xl.length xc] Wc fun e w' => ∃ v, e = .returned (.tuple #[v, .int .i64 R0.2.2]) ∧ GVo Wc g R0.1 [] F0 v R0.2.1 w' := by rw [HR.out, mkOp_0]; have hC := sNot_is hmd.hold.own.gin (hmd.hold.at (HSub.out _ HX.out) rfl); exact hC
  clear HMD
  have HMD := Lib.hid hmd; clear hmd
  refine Ord.St.ho2 (T' := ?_) 0 [1, 2, 3, 4, 5, 6] _ _ rfl (by kernel_rfl) rfl rfl rfl rfl ?_ (fun K w' hw' hk => ?_) ?_
  rotate_left
  · exact hbf.cell rfl
  · have q1 := hw'; clear hw'; unfold mfun at q1; go_step; exact hk
  refine Ord.St.fl2 (T' := ?_) 1 [2, 3, 4, 5, 6] _ _ rfl (by kernel_rfl) rfl rfl rfl rfl (fun K w' hk => ?_) ?_
  rotate_left
  · go_step; exact hk
  refine Ord.St.fl2 (T' := ?_) 2 [3, 4, 5, 6] _ _ rfl (by kernel_rfl) rfl rfl rfl rfl (fun K w' hk => ?_) ?_
  rotate_left
  · go_step; exact hk
  refine Ord.St.efC 3 [4, 5, 6] _ rfl (by kernel_rfl) (fun K hK => ?_)
  go_wp2_with fail
  refine hC2.mono ?_
  rintro e w1 ⟨v, rfl, hg⟩
  obtain ⟨a0, c0, F1, rfl, hmd⟩ := HMD.out.word hg HOK.out.1.small HOK.out.2
  replace hbf := hmd.bf
  have hN := hmd.noted (by omega) a0 R0.2.1.length c0 R0.2.2
  clear hC2 hg hmd
  go_wp2_with fail
  refine ⟨rfl, hK _ _ ?_ ?_⟩
  · exact hbf.cell rfl
  clear hK K
  refine Ord.St.fl2 (T' := ?_) 4 [5, 6] _ _ rfl (by kernel_rfl) rfl rfl rfl rfl (fun K w' hk => ?_) ?_
  rotate_left
  · go_step; exact hk
  refine Ord.St.fl2 (T' := ?_) 5 [6] _ _ rfl (by kernel_rfl) rfl rfl rfl rfl (fun K w' hk => ?_) ?_
  rotate_left
  · go_step; exact hk
  refine Ord.St.ef 6 [] _ rfl (by kernel_rfl) (fun K hK => ?_)
  go_wp2_with fail
  refine hN.mono ?_
  rintro e W1 ⟨⟨v, rfl⟩, qa0, qc0, hmd⟩
  clear hN HMD
  have HMD0 := Lib.hid hmd; clear hmd
  go_wp2_with fail
  refine ⟨rfl, hK _ _ ?_⟩; clear hK K
  refine Ord.St.nil ?_
  have hmd : MD w0 w F W1 g (madeG G xl yl 1).1 F1 ((.slice a0 R0.2.1.length c0, natInts R0.2.1) :: L0) (B + 1) B (B + 2) (madeG G xl yl 1).2.2 qa0 1 qc0 (vs0 ++ [.slice a0 R0.2.1.length c0]) := by rw [madeG_succ]; unfold madeStep; rw [← HR.out]; exact HMD0.out
  have hvl : VL (vs0 ++ [.slice a0 R0.2.1.length c0]) (madeG G xl yl 1).2.1 ((.slice a0 R0.2.1.length c0, natInts R0.2.1) :: L0) := by rw [madeG_succ]; unfold madeStep; rw [← HR.out]; exact HVL.out.snoc _ _
  obtain ⟨L1, hL⟩ : ∃ X, X = (.slice a0 R0.2.1.length c0, natInts R0.2.1) :: L0 := ⟨_, rfl⟩
  obtain ⟨vs1, hv⟩ : ∃ X, X = vs0 ++ [.slice a0 R0.2.1.length c0] := ⟨_, rfl⟩
  rw [← hL, ← hv] at hmd hvl
  have hsub : ∀ p ∈ L, p ∈ L1 := fun p hp => by rw [hL]; exact List.mem_cons_of_mem _ (HSub.out p hp)
  clear HMD0 hL hv
  have HMD := Lib.hid hmd; clear hmd
  have HVL2 := Lib.hid hvl; clear hvl HVL
  have HVL := HVL2; clear HVL2
  have HSub2 := Lib.hid hsub; clear hsub HSub
  have HSub := HSub2; clear HSub2
  -- Neg
  have hok := mkOp_ok HMD.out.hold.own.gin.ok 1 (by omega) xl yl hlen
  obtain ⟨R1, hR⟩ : ∃ R, R = mkOp 1 (madeG G xl yl 1).1 xl yl := ⟨_, rfl⟩
  rw [← hR] at hok
  have HR := Lib.hid hR; clear hR
  have HOK := Lib.hid hok; clear hok
  go_wp2_with fail
  refine Ord.St.door (fun w' => w'.cell? ⟨B + 2, 0, none⟩ = some (mfun B)) [.ho, .fl, .fl, .ef, .fl, .fl, .ef] [0, 0, 0, 6, 14, 14, 63] [0, 1, 2, 3, 4, 5, 6] mixed (by kernel_rfl) rfl ?_
  obtain ⟨Wc, hWc⟩ : ∃ Wc, Wc = W1.drew := ⟨_, rfl⟩
  rw [← hWc]
  have hmd := HMD.out.same (by rw [hWc]; exact (Ch.refl _ _).drew : Ch [] _ Wc)
  clear hWc
  have hbf := hmd.bf
  have hC2 : Calls Try.prog 27 #[.pointer (some ⟨g, 0, none⟩), .slice xa xl.length xc] Wc fun e w' => ∃ v, e = .returned (.tuple #[v, .int .i64 R1.2.2]) ∧ GVo Wc g R1.1 [] F1 v R1.2.1 w' := by rw [HR.out, mkOp_1]; have hC := sNeg_is hmd.hold.own.gin (hmd.hold.at (HSub.out _ HX.out) rfl); exact hC
  clear HMD
  have HMD := Lib.hid hmd; clear hmd
  refine Ord.St.ho2 (T' := ?_) 0 [1, 2, 3, 4, 5, 6] _ _ rfl (by kernel_rfl) rfl rfl rfl rfl ?_ (fun K w' hw' hk => ?_) ?_
  rotate_left
  · exact hbf.cell rfl
  · have q1 := hw'; clear hw'; unfold mfun at q1; go_step; exact hk
  refine Ord.St.fl2 (T' := ?_) 1 [2, 3, 4, 5, 6] _ _ rfl (by kernel_rfl) rfl rfl rfl rfl (fun K w' hk => ?_) ?_
  rotate_left
  · go_step; exact hk
  refine Ord.St.fl2 (T' := ?_) 2 [3, 4, 5, 6] _ _ rfl (by kernel_rfl) rfl rfl rfl rfl (fun K w' hk => ?_) ?_
  rotate_left
  · go_step; exact hk
  refine Ord.St.efC 3 [4, 5, 6] _ rfl (by kernel_rfl) (fun K hK => ?_)
  go_wp2_with fail
  refine hC2.mono ?_
  rintro e w1 ⟨v, rfl, hg⟩
  obtain ⟨a1, c1, F2, rfl, hmd⟩ := HMD.out.word hg HOK.out.1.small HOK.out.2
  replace hbf := hmd.bf
  have hN := hmd.noted (by omega) a1 R1.2.1.length c1 R1.2.2
  clear hC2 hg hmd
  go_wp2_with fail
  refine ⟨rfl, hK _ _ ?_ ?_⟩
  · exact hbf.cell rfl
  clear hK K
  refine Ord.St.fl2 (T' := ?_) 4 [5, 6] _ _ rfl (by kernel_rfl) rfl rfl rfl rfl (fun K w' hk => ?_) ?_
  rotate_left
  · go_step; exact hk
  refine Ord.St.fl2 (T' := ?_) 5 [6] _ _ rfl (by kernel_rfl) rfl rfl rfl rfl (fun K w' hk => ?_) ?_
  rotate_left
  · go_step; exact hk
  refine Ord.St.ef 6 [] _ rfl (by kernel_rfl) (fun K hK => ?_)
  go_wp2_with fail
  refine hN.mono ?_
  rintro e W2 ⟨⟨v, rfl⟩, qa1, qc1, hmd⟩
  clear hN HMD
  have HMD0 := Lib.hid hmd; clear hmd
  go_wp2_with fail
  refine ⟨rfl, hK _ _ ?_⟩; clear hK K
  refine Ord.St.nil ?_
  have hmd : MD w0 w F W2 g (madeG G xl yl 2).1 F2 ((.slice a1 R1.2.1.length c1, natInts R1.2.1) :: L1) (B + 1) B (B + 2) (madeG G xl yl 2).2.2 qa1 2 qc1 (vs1 ++ [.slice a1 R1.2.1.length c1]) := by rw [madeG_succ]; unfold madeStep; rw [← HR.out]; exact HMD0.out
  have hvl : VL (vs1 ++ [.slice a1 R1.2.1.length c1]) (madeG G xl yl 2).2.1 ((.slice a1 R1.2.1.length c1, natInts R1.2.1) :: L1) := by rw [madeG_succ]; unfold madeStep; rw [← HR.out]; exact HVL.out.snoc _ _
  obtain ⟨L2, hL⟩ : ∃ X, X = (.slice a1 R1.2.1.length c1, natInts R1.2.1) :: L1 := ⟨_, rfl⟩
  obtain ⟨vs2, hv⟩ : ∃ X, X = vs1 ++ [.slice a1 R1.2.1.length c1] := ⟨_, rfl⟩
  rw [← hL, ← hv] at hmd hvl
  have hsub : ∀ p ∈ L, p ∈ L2 := fun p hp => by rw [hL]; exact List.mem_cons_of_mem _ (HSub.out p hp)
  clear HMD0 hL hv
  have HMD := Lib.hid hmd; clear hmd
  have HVL2 := Lib.hid hvl; clear hvl HVL
  have HVL := HVL2; clear HVL2
  have HSub2 := Lib.hid hsub; clear hsub HSub
  have HSub := HSub2; clear HSub2
  -- And
  have hok := mkOp_ok HMD.out.hold.own.gin.ok 2 (by omega) xl yl hlen
  obtain ⟨R2, hR⟩ : ∃ R, R = mkOp 2 (madeG G xl yl 2).1 xl yl := ⟨_, rfl⟩
  rw [← hR] at hok
  have HR := Lib.hid hR; clear hR
  have HOK := Lib.hid hok; clear hok
  go_wp2_with fail
  refine Ord.St.door (fun w' => w'.cell? ⟨B + 2, 0, none⟩ = some (mfun B)) [.ho, .fl, .fl, .fl, .ef, .fl, .fl, .ef] [0, 0, 0, 0, 14, 30, 30, 127] [0, 1, 2, 3, 4, 5, 6, 7] mixed (by kernel_rfl) rfl ?_
  obtain ⟨Wc, hWc⟩ : ∃ Wc, Wc = W2.drew := ⟨_, rfl⟩
  rw [← hWc]
  have hmd := HMD.out.same (by rw [hWc]; exact (Ch.refl _ _).drew : Ch [] _ Wc)
  clear hWc
  have hbf := hmd.bf
  have hC2 : Calls Try.prog 17 #[.pointer (some ⟨g, 0, none⟩), .slice xa xl.length xc, .slice ya yl.length yc] Wc fun e w' => ∃ v, e = .returned (.tuple #[v, .int .i64 R2.2.2]) ∧ GVo Wc g R2.1 [] F2 v R2.2.1 w' := by rw [HR.out, mkOp_2]; have hC := sAnd_is hmd.hold.own.gin (hmd.hold.at (HSub.out _ HX.out) rfl) (hmd.hold.at (HSub.out _ HY.out) rfl); exact hC
  clear HMD
  have HMD := Lib.hid hmd; clear hmd
  refine Ord.St.ho2 (T' := ?_) 0 [1, 2, 3, 4, 5, 6, 7] _ _ rfl (by kernel_rfl) rfl rfl rfl rfl ?_ (fun K w' hw' hk => ?_) ?_
  rotate_left
  · exact hbf.cell rfl
  · have q1 := hw'; clear hw'; unfold mfun at q1; go_step; exact hk
  refine Ord.St.fl2 (T' := ?_) 1 [2, 3, 4, 5, 6, 7] _ _ rfl (by kernel_rfl) rfl rfl rfl rfl (fun K w' hk => ?_) ?_
  rotate_left
  · go_step; exact hk
  refine Ord.St.fl2 (T' := ?_) 2 [3, 4, 5, 6, 7] _ _ rfl (by kernel_rfl) rfl rfl rfl rfl (fun K w' hk => ?_) ?_
  rotate_left
  · go_step; exact hk
  refine Ord.St.fl2 (T' := ?_) 3 [4, 5, 6, 7] _ _ rfl (by kernel_rfl) rfl rfl rfl rfl (fun K w' hk => ?_) ?_
  rotate_left
  · go_step; exact hk
  refine Ord.St.efC 4 [5, 6, 7] _ rfl (by kernel_rfl) (fun K hK => ?_)
  go_wp2_with fail
  refine hC2.mono ?_
  rintro e w1 ⟨v, rfl, hg⟩
  obtain ⟨a2, c2, F3, rfl, hmd⟩ := HMD.out.word hg HOK.out.1.small HOK.out.2
  replace hbf := hmd.bf
  have hN := hmd.noted (by omega) a2 R2.2.1.length c2 R2.2.2
  clear hC2 hg hmd
  go_wp2_with fail
  refine ⟨rfl, hK _ _ ?_ ?_⟩
  · exact hbf.cell rfl
  clear hK K
  refine Ord.St.fl2 (T' := ?_) 5 [6, 7] _ _ rfl (by kernel_rfl) rfl rfl rfl rfl (fun K w' hk => ?_) ?_
  rotate_left
  · go_step; exact hk
  refine Ord.St.fl2 (T' := ?_) 6 [7] _ _ rfl (by kernel_rfl) rfl rfl rfl rfl (fun K w' hk => ?_) ?_
  rotate_left
  · go_step; exact hk
  refine Ord.St.ef 7 [] _ rfl (by kernel_rfl) (fun K hK => ?_)
  go_wp2_with fail
  refine hN.mono ?_
  rintro e W3 ⟨⟨v, rfl⟩, qa2, qc2, hmd⟩
  clear hN HMD
  have HMD0 := Lib.hid hmd; clear hmd
  go_wp2_with fail
  refine ⟨rfl, hK _ _ ?_⟩; clear hK K
  refine Ord.St.nil ?_
  have hmd : MD w0 w F W3 g (madeG G xl yl 3).1 F3 ((.slice a2 R2.2.1.length c2, natInts R2.2.1) :: L2) (B + 1) B (B + 2) (madeG G xl yl 3).2.2 qa2 3 qc2 (vs2 ++ [.slice a2 R2.2.1.length c2]) := by rw [madeG_succ]; unfold madeStep; rw [← HR.out]; exact HMD0.out
  have hvl : VL (vs2 ++ [.slice a2 R2.2.1.length c2]) (madeG G xl yl 3).2.1 ((.slice a2 R2.2.1.length c2, natInts R2.2.1) :: L2) := by rw [madeG_succ]; unfold madeStep; rw [← HR.out]; exact HVL.out.snoc _ _
  obtain ⟨L3, hL⟩ : ∃ X, X = (.slice a2 R2.2.1.length c2, natInts R2.2.1) :: L2 := ⟨_, rfl⟩
  obtain ⟨vs3, hv⟩ : ∃ X, X = vs2 ++ [.slice a2 R2.2.1.length c2] := ⟨_, rfl⟩
  rw [← hL, ← hv] at hmd hvl
  have hsub : ∀ p ∈ L, p ∈ L3 := fun p hp => by rw [hL]; exact List.mem_cons_of_mem _ (HSub.out p hp)
  clear HMD0 hL hv
  have HMD := Lib.hid hmd; clear hmd
  have HVL2 := Lib.hid hvl; clear hvl HVL
  have HVL := HVL2; clear HVL2
  have HSub2 := Lib.hid hsub; clear hsub HSub
  have HSub := HSub2; clear HSub2
  -- Or
  have hok := mkOp_ok HMD.out.hold.own.gin.ok 3 (by omega) xl yl hlen
  obtain ⟨R3, hR⟩ : ∃ R, R = mkOp 3 (madeG G xl yl 3).1 xl yl := ⟨_, rfl⟩
  rw [← hR] at hok
  have HR := Lib.hid hR; clear hR
  have HOK := Lib.hid hok; clear hok
  go_wp2_with fail
  refine Ord.St.door (fun w' => w'.cell? ⟨B + 2, 0, none⟩ = some (mfun B)) [.ho, .fl, .fl, .fl, .ef, .fl, .fl, .ef] [0, 0, 0, 0, 14, 30, 30, 127] [0, 1, 2, 3, 4, 5, 6, 7] mixed (by kernel_rfl) rfl ?_
  obtain ⟨Wc, hWc⟩ : ∃ Wc, Wc = W3.drew := ⟨_, rfl⟩
  rw [← hWc]
  have hmd := HMD.out.same (by rw [hWc]; exact (Ch.refl _ _).drew : Ch [] _ Wc)
  clear hWc
  have hbf := hmd.bf
  have hC2 : Calls Try.prog 18 #[.pointer (some ⟨g, 0, none⟩), .slice xa xl.length xc, .slice ya yl.length yc] Wc fun e w' => ∃ v, e = .returned (.tuple #[v, .int .i64 R3.2.2]) ∧ GVo Wc g R3.1 [] F3 v R3.2.1 w' := by rw [HR.out, mkOp_3]; have hC := sOr_is hmd.hold.own.gin (hmd.hold.at (HSub.out _ HX.out) rfl) (hmd.hold.at (HSub.out _ HY.out) rfl); exact hC
  clear HMD
  have HMD := Lib.hid hmd; clear hmd
  refine Ord.St.ho2 (T' := ?_) 0 [1, 2, 3, 4, 5, 6, 7] _ _ rfl (by kernel_rfl) rfl rfl rfl rfl ?_ (fun K w' hw' hk => ?_) ?_
  rotate_left
  · exact hbf.cell rfl
  · have q1 := hw'; clear hw'; unfold mfun at q1; go_step; exact hk
  refine Ord.St.fl2 (T' := ?_) 1 [2, 3, 4, 5, 6, 7] _ _ rfl (by kernel_rfl) rfl rfl rfl rfl (fun K w' hk => ?_) ?_
  rotate_left
  · go_step; exact hk
  refine Ord.St.fl2 (T' := ?_) 2 [3, 4, 5, 6, 7] _ _ rfl (by kernel_rfl) rfl rfl rfl rfl (fun K w' hk => ?_) ?_
  rotate_left
  · go_step; exact hk
  refine Ord.St.fl2 (T' := ?_) 3 [4, 5, 6, 7] _ _ rfl (by kernel_rfl) rfl rfl rfl rfl (fun K w' hk => ?_) ?_
  rotate_left
  · go_step; exact hk
  refine Ord.St.efC 4 [5, 6, 7] _ rfl (by kernel_rfl) (fun K hK => ?_)
  go_wp2_with fail
  refine hC2.mono ?_
  rintro e w1 ⟨v, rfl, hg⟩
  obtain ⟨a3, c3, F4, rfl, hmd⟩ := HMD.out.word hg HOK.out.1.small HOK.out.2
  replace hbf := hmd.bf
  have hN := hmd.noted (by omega) a3 R3.2.1.length c3 R3.2.2
  clear hC2 hg hmd
  go_wp2_with fail
  refine ⟨rfl, hK _ _ ?_ ?_⟩
  · exact hbf.cell rfl
  clear hK K
  refine Ord.St.fl2 (T' := ?_) 5 [6, 7] _ _ rfl (by kernel_rfl) rfl rfl rfl rfl (fun K w' hk => ?_) ?_
  rotate_left
  · go_step; exact hk
  refine Ord.St.fl2 (T' := ?_) 6 [7] _ _ rfl (by kernel_rfl) rfl rfl rfl rfl (fun K w' hk => ?_) ?_
  rotate_left
  · go_step; exact hk
  refine Ord.St.ef 7 [] _ rfl (by kernel_rfl) (fun K hK => ?_)
  go_wp2_with fail
  refine hN.mono ?_
  rintro e W4 ⟨⟨v, rfl⟩, qa3, qc3, hmd⟩
  clear hN HMD
  have HMD0 := Lib.hid hmd; clear hmd
  go_wp2_with fail
  refine ⟨rfl, hK _ _ ?_⟩; clear hK K
  refine Ord.St.nil ?_
  have hmd : MD w0 w F W4 g (madeG G xl yl 4).1 F4 ((.slice a3 R3.2.1.length c3, natInts R3.2.1) :: L3) (B + 1) B (B + 2) (madeG G xl yl 4).2.2 qa3 4 qc3 (vs3 ++ [.slice a3 R3.2.1.length c3]) := by rw [madeG_succ]; unfold madeStep; rw [← HR.out]; exact HMD0.out
  have hvl : VL (vs3 ++ [.slice a3 R3.2.1.length c3]) (madeG G xl yl 4).2.1 ((.slice a3 R3.2.1.length c3, natInts R3.2.1) :: L3) := by rw [madeG_succ]; unfold madeStep; rw [← HR.out]; exact HVL.out.snoc _ _
  obtain ⟨L4, hL⟩ : ∃ X, X = (.slice a3 R3.2.1.length c3, natInts R3.2.1) :: L3 := ⟨_, rfl⟩
  obtain ⟨vs4, hv⟩ : ∃ X, X = vs3 ++ [.slice a3 R3.2.1.length c3] := ⟨_, rfl⟩
  rw [← hL, ← hv] at hmd hvl
  have hsub : ∀ p ∈ L, p ∈ L4 := fun p hp => by rw [hL]; exact List.mem_cons_of_mem _ (HSub.out p hp)
  clear HMD0 hL hv
  have HMD := Lib.hid hmd; clear hmd
  have HVL2 := Lib.hid hvl; clear hvl HVL
  have HVL := HVL2; clear HVL2
  have HSub2 := Lib.hid hsub; clear hsub HSub
  have HSub := HSub2; clear HSub2
  -- Xor
  have hok := mkOp_ok HMD.out.hold.own.gin.ok 4 (by omega) xl yl hlen
  obtain ⟨R4, hR⟩ : ∃ R, R = mkOp 4 (madeG G xl yl 4).1 xl yl := ⟨_, rfl⟩
  rw [← hR] at hok
  have HR := Lib.hid hR; clear hR
  have HOK := Lib.hid hok; clear hok
  go_wp2_with fail
  refine Ord.St.door (fun w' => w'.cell? ⟨B + 2, 0, none⟩ = some (mfun B)) [.ho, .fl, .fl, .fl, .ef, .fl, .fl, .ef] [0, 0, 0, 0, 14, 30, 30, 127] [0, 1, 2, 3, 4, 5, 6, 7] mixed (by kernel_rfl) rfl ?_
  obtain ⟨Wc, hWc⟩ : ∃ Wc, Wc = W4.drew := ⟨_, rfl⟩
  rw [← hWc]
  have hmd := HMD.out.same (by rw [hWc]; exact (Ch.refl _ _).drew : Ch [] _ Wc)
  clear hWc
  have hbf := hmd.bf
  have hC2 : Calls Try.prog 19 #[.pointer (some ⟨g, 0, none⟩), .slice xa xl.length xc, .slice ya yl.length yc] Wc fun e w' => ∃ v, e = .returned (.tuple #[v, .int .i64 R4.2.2]) ∧ GVo Wc g R4.1 [] F4 v R4.2.1 w' := by rw [HR.out, mkOp_4]; have hC := sXor_is hmd.hold.own.gin (hmd.hold.at (HSub.out _ HX.out) rfl) (hmd.hold.at (HSub.out _ HY.out) rfl); exact hC
  clear HMD
  have HMD := Lib.hid hmd; clear hmd
  refine Ord.St.ho2 (T' := ?_) 0 [1, 2, 3, 4, 5, 6, 7] _ _ rfl (by kernel_rfl) rfl rfl rfl rfl ?_ (fun K w' hw' hk => ?_) ?_
  rotate_left
  · exact hbf.cell rfl
  · have q1 := hw'; clear hw'; unfold mfun at q1; go_step; exact hk
  refine Ord.St.fl2 (T' := ?_) 1 [2, 3, 4, 5, 6, 7] _ _ rfl (by kernel_rfl) rfl rfl rfl rfl (fun K w' hk => ?_) ?_
  rotate_left
  · go_step; exact hk
  refine Ord.St.fl2 (T' := ?_) 2 [3, 4, 5, 6, 7] _ _ rfl (by kernel_rfl) rfl rfl rfl rfl (fun K w' hk => ?_) ?_
  rotate_left
  · go_step; exact hk
  refine Ord.St.fl2 (T' := ?_) 3 [4, 5, 6, 7] _ _ rfl (by kernel_rfl) rfl rfl rfl rfl (fun K w' hk => ?_) ?_
  rotate_left
  · go_step; exact hk
  refine Ord.St.efC 4 [5, 6, 7] _ rfl (by kernel_rfl) (fun K hK => ?_)
  go_wp2_with fail
  refine hC2.mono ?_
  rintro e w1 ⟨v, rfl, hg⟩
  obtain ⟨a4, c4, F5, rfl, hmd⟩ := HMD.out.word hg HOK.out.1.small HOK.out.2
  replace hbf := hmd.bf
  have hN := hmd.noted (by omega) a4 R4.2.1.length c4 R4.2.2
  clear hC2 hg hmd
  go_wp2_with fail
  refine ⟨rfl, hK _ _ ?_ ?_⟩
  · exact hbf.cell rfl
  clear hK K
  refine Ord.St.fl2 (T' := ?_) 5 [6, 7] _ _ rfl (by kernel_rfl) rfl rfl rfl rfl (fun K w' hk => ?_) ?_
  rotate_left
  · go_step; exact hk
  refine Ord.St.fl2 (T' := ?_) 6 [7] _ _ rfl (by kernel_rfl) rfl rfl rfl rfl (fun K w' hk => ?_) ?_
  rotate_left
  · go_step; exact hk
  refine Ord.St.ef 7 [] _ rfl (by kernel_rfl) (fun K hK => ?_)
  go_wp2_with fail
  refine hN.mono ?_
  rintro e W5 ⟨⟨v, rfl⟩, qa4, qc4, hmd⟩
  clear hN HMD
  have HMD0 := Lib.hid hmd; clear hmd
  go_wp2_with fail
  refine ⟨rfl, hK _ _ ?_⟩; clear hK K
  refine Ord.St.nil ?_
  have hmd : MD w0 w F W5 g (madeG G xl yl 5).1 F5 ((.slice a4 R4.2.1.length c4, natInts R4.2.1) :: L4) (B + 1) B (B + 2) (madeG G xl yl 5).2.2 qa4 5 qc4 (vs4 ++ [.slice a4 R4.2.1.length c4]) := by rw [madeG_succ]; unfold madeStep; rw [← HR.out]; exact HMD0.out
  have hvl : VL (vs4 ++ [.slice a4 R4.2.1.length c4]) (madeG G xl yl 5).2.1 ((.slice a4 R4.2.1.length c4, natInts R4.2.1) :: L4) := by rw [madeG_succ]; unfold madeStep; rw [← HR.out]; exact HVL.out.snoc _ _
  obtain ⟨L5, hL⟩ : ∃ X, X = (.slice a4 R4.2.1.length c4, natInts R4.2.1) :: L4 := ⟨_, rfl⟩
  obtain ⟨vs5, hv⟩ : ∃ X, X = vs4 ++ [.slice a4 R4.2.1.length c4] := ⟨_, rfl⟩
  rw [← hL, ← hv] at hmd hvl
  have hsub : ∀ p ∈ L, p ∈ L5 := fun p hp => by rw [hL]; exact List.mem_cons_of_mem _ (HSub.out p hp)
  clear HMD0 hL hv
  have HMD := Lib.hid hmd; clear hmd
  have HVL2 := Lib.hid hvl; clear hvl HVL
  have HVL := HVL2; clear HVL2
  have HSub2 := Lib.hid hsub; clear hsub HSub
  have HSub := HSub2; clear HSub2
  -- Add
  have hok := mkOp_ok HMD.out.hold.own.gin.ok 5 (by omega) xl yl hlen
  obtain ⟨R5, hR⟩ : ∃ R, R = mkOp 5 (madeG G xl yl 5).1 xl yl := ⟨_, rfl⟩
  rw [← hR] at hok
  have HR := Lib.hid hR; clear hR
  have HOK := Lib.hid hok; clear hok
  go_wp2_with fail
  refine Ord.St.door (fun w' => w'.cell? ⟨B + 2, 0, none⟩ = some (mfun B)) [.ho, .fl, .fl, .fl, .ef, .fl, .fl, .ef] [0, 0, 0, 0, 14, 30, 30, 127] [0, 1, 2, 3, 4, 5, 6, 7] mixed (by kernel_rfl) rfl ?_
  obtain ⟨Wc, hWc⟩ : ∃ Wc, Wc = W5.drew := ⟨_, rfl⟩
  rw [← hWc]
  have hmd := HMD.out.same (by rw [hWc]; exact (Ch.refl _ _).drew : Ch [] _ Wc)
  clear hWc
  have hbf := hmd.bf
  have hC2 : Calls Try.prog 20 #[.pointer (some ⟨g, 0, none⟩), .slice xa xl.length xc, .slice ya yl.length yc] Wc fun e w' => ∃ v, e = .returned (.tuple #[v, .int .i64 R5.2.2]) ∧ GVo Wc g R5.1 [] F5 v R5.2.1 w' := by rw [HR.out, mkOp_5]; have hC := sAdd_is hmd.hold.own.gin (hmd.hold.at (HSub.out _ HX.out) rfl) (hmd.hold.at (HSub.out _ HY.out) rfl); exact hC
  clear HMD
  have HMD := Lib.hid hmd; clear hmd
  refine Ord.St.ho2 (T' := ?_) 0 [1, 2, 3, 4, 5, 6, 7] _ _ rfl (by kernel_rfl) rfl rfl rfl rfl ?_ (fun K w' hw' hk => ?_) ?_
  rotate_left
  · exact hbf.cell rfl
  · have q1 := hw'; clear hw'; unfold mfun at q1; go_step; exact hk
  refine Ord.St.fl2 (T' := ?_) 1 [2, 3, 4, 5, 6, 7] _ _ rfl (by kernel_rfl) rfl rfl rfl rfl (fun K w' hk => ?_) ?_
  rotate_left
  · go_step; exact hk
  refine Ord.St.fl2 (T' := ?_) 2 [3, 4, 5, 6, 7] _ _ rfl (by kernel_rfl) rfl rfl rfl rfl (fun K w' hk => ?_) ?_
  rotate_left
  · go_step; exact hk
  refine Ord.St.fl2 (T' := ?_) 3 [4, 5, 6, 7] _ _ rfl (by kernel_rfl) rfl rfl rfl rfl (fun K w' hk => ?_) ?_
  rotate_left
  · go_step; exact hk
  refine Ord.St.efC 4 [5, 6, 7] _ rfl (by kernel_rfl) (fun K hK => ?_)
  go_wp2_with fail
  refine hC2.mono ?_
  rintro e w1 ⟨v, rfl, hg⟩
  obtain ⟨a5, c5, F6, rfl, hmd⟩ := HMD.out.word hg HOK.out.1.small HOK.out.2
  replace hbf := hmd.bf
  have hN := hmd.noted (by omega) a5 R5.2.1.length c5 R5.2.2
  clear hC2 hg hmd
  go_wp2_with fail
  refine ⟨rfl, hK _ _ ?_ ?_⟩
  · exact hbf.cell rfl
  clear hK K
  refine Ord.St.fl2 (T' := ?_) 5 [6, 7] _ _ rfl (by kernel_rfl) rfl rfl rfl rfl (fun K w' hk => ?_) ?_
  rotate_left
  · go_step; exact hk
  refine Ord.St.fl2 (T' := ?_) 6 [7] _ _ rfl (by kernel_rfl) rfl rfl rfl rfl (fun K w' hk => ?_) ?_
  rotate_left
  · go_step; exact hk
  refine Ord.St.ef 7 [] _ rfl (by kernel_rfl) (fun K hK => ?_)
  go_wp2_with fail
  refine hN.mono ?_
  rintro e W6 ⟨⟨v, rfl⟩, qa5, qc5, hmd⟩
  clear hN HMD
  have HMD0 := Lib.hid hmd; clear hmd
  go_wp2_with fail
  refine ⟨rfl, hK _ _ ?_⟩; clear hK K
  refine Ord.St.nil ?_
  have hmd : MD w0 w F W6 g (madeG G xl yl 6).1 F6 ((.slice a5 R5.2.1.length c5, natInts R5.2.1) :: L5) (B + 1) B (B + 2) (madeG G xl yl 6).2.2 qa5 6 qc5 (vs5 ++ [.slice a5 R5.2.1.length c5]) := by rw [madeG_succ]; unfold madeStep; rw [← HR.out]; exact HMD0.out
  have hvl : VL (vs5 ++ [.slice a5 R5.2.1.length c5]) (madeG G xl yl 6).2.1 ((.slice a5 R5.2.1.length c5, natInts R5.2.1) :: L5) := by rw [madeG_succ]; unfold madeStep; rw [← HR.out]; exact HVL.out.snoc _ _
  obtain ⟨L6, hL⟩ : ∃ X, X = (.slice a5 R5.2.1.length c5, natInts R5.2.1) :: L5 := ⟨_, rfl⟩
  obtain ⟨vs6, hv⟩ : ∃ X, X = vs5 ++ [.slice a5 R5.2.1.length c5] := ⟨_, rfl⟩
  rw [← hL, ← hv] at hmd hvl
  have hsub : ∀ p ∈ L, p ∈ L6 := fun p hp => by rw [hL]; exact List.mem_cons_of_mem _ (HSub.out p hp)
  clear HMD0 hL hv
  have HMD := Lib.hid hmd; clear hmd
  have HVL2 := Lib.hid hvl; clear hvl HVL
  have HVL := HVL2; clear HVL2
  have HSub2 := Lib.hid hsub; clear hsub HSub
  have HSub := HSub2; clear HSub2
  -- Sub
  have hok := mkOp_ok HMD.out.hold.own.gin.ok 6 (by omega) xl yl hlen
  obtain ⟨R6, hR⟩ : ∃ R, R = mkOp 6 (madeG G xl yl 6).1 xl yl := ⟨_, rfl⟩
  rw [← hR] at hok
  have HR := Lib.hid hR; clear hR
  have HOK := Lib.hid hok; clear hok
  go_wp2_with fail
  refine Ord.St.door (fun w' => w'.cell? ⟨B + 2, 0, none⟩ = some (mfun B)) [.ho, .fl, .fl, .fl, .ef, .fl, .fl, .ef] [0, 0, 0, 0, 14, 30, 30, 127] [0, 1, 2, 3, 4, 5, 6, 7] mixed (by kernel_rfl) rfl ?_
  obtain ⟨Wc, hWc⟩ : ∃ Wc, Wc = W6.drew := ⟨_, rfl⟩
  rw [← hWc]
  have hmd := HMD.out.same (by rw [hWc]; exact (Ch.refl _ _).drew : Ch [] _ Wc)
  clear hWc
  have hbf := hmd.bf
  have hC2 : Calls Try.prog 21 #[.pointer (some ⟨g, 0, none⟩), .slice xa xl.length xc, .slice ya yl.length yc] Wc fun e w' => ∃ v, e = .returned (.tuple #[v, .int .i64 R6.2.2]) ∧ GVo Wc g R6.1 [] F6 v R6.2.1 w' := by rw [HR.out, mkOp_6]; have hC := sSub_is hmd.hold.own.gin (hmd.hold.at (HSub.out _ HX.out) rfl) (hmd.hold.at (HSub.out _ HY.out) rfl); exact hC
  clear HMD
  have HMD := Lib.hid hmd; clear hmd
  refine Ord.St.ho2 (T' := ?_) 0 [1, 2, 3, 4, 5, 6, 7] _ _ rfl (by kernel_rfl) rfl rfl rfl rfl ?_ (fun K w' hw' hk => ?_) ?_
  rotate_left
  · exact hbf.cell rfl
  · have q1 := hw'; clear hw'; unfold mfun at q1; go_step; exact hk
  refine Ord.St.fl2 (T' := ?_) 1 [2, 3, 4, 5, 6, 7] _ _ rfl (by kernel_rfl) rfl rfl rfl rfl (fun K w' hk => ?_) ?_
  rotate_left
  · go_step; exact hk
  refine Ord.St.fl2 (T' := ?_) 2 [3, 4, 5, 6, 7] _ _ rfl (by kernel_rfl) rfl rfl rfl rfl (fun K w' hk => ?_) ?_
  rotate_left
  · go_step; exact hk
  refine Ord.St.fl2 (T' := ?_) 3 [4, 5, 6, 7] _ _ rfl (by kernel_rfl) rfl rfl rfl rfl (fun K w' hk => ?_) ?_
  rotate_left
  · go_step; exact hk
  refine Ord.St.efC 4 [5, 6, 7] _ rfl (by kernel_rfl) (fun K hK => ?_)
  go_wp2_with fail
  refine hC2.mono ?_
  rintro e w1 ⟨v, rfl, hg⟩
  obtain ⟨a6, c6, F7, rfl, hmd⟩ := HMD.out.word hg HOK.out.1.small HOK.out.2
  replace hbf := hmd.bf
  have hN := hmd.noted (by omega) a6 R6.2.1.length c6 R6.2.2
  clear hC2 hg hmd
  go_wp2_with fail
  refine ⟨rfl, hK _ _ ?_ ?_⟩
  · exact hbf.cell rfl
  clear hK K
  refine Ord.St.fl2 (T' := ?_) 5 [6, 7] _ _ rfl (by kernel_rfl) rfl rfl rfl rfl (fun K w' hk => ?_) ?_
  rotate_left
  · go_step; exact hk
  refine Ord.St.fl2 (T' := ?_) 6 [7] _ _ rfl (by kernel_rfl) rfl rfl rfl rfl (fun K w' hk => ?_) ?_
  rotate_left
  · go_step; exact hk
  refine Ord.St.ef 7 [] _ rfl (by kernel_rfl) (fun K hK => ?_)
  go_wp2_with fail
  refine hN.mono ?_
  rintro e W7 ⟨⟨v, rfl⟩, qa6, qc6, hmd⟩
  clear hN HMD
  have HMD0 := Lib.hid hmd; clear hmd
  go_wp2_with fail
  refine ⟨rfl, hK _ _ ?_⟩; clear hK K
  refine Ord.St.nil ?_
  have hmd : MD w0 w F W7 g (madeG G xl yl 7).1 F7 ((.slice a6 R6.2.1.length c6, natInts R6.2.1) :: L6) (B + 1) B (B + 2) (madeG G xl yl 7).2.2 qa6 7 qc6 (vs6 ++ [.slice a6 R6.2.1.length c6]) := by rw [madeG_succ]; unfold madeStep; rw [← HR.out]; exact HMD0.out
  have hvl : VL (vs6 ++ [.slice a6 R6.2.1.length c6]) (madeG G xl yl 7).2.1 ((.slice a6 R6.2.1.length c6, natInts R6.2.1) :: L6) := by rw [madeG_succ]; unfold madeStep; rw [← HR.out]; exact HVL.out.snoc _ _
  obtain ⟨L7, hL⟩ : ∃ X, X = (.slice a6 R6.2.1.length c6, natInts R6.2.1) :: L6 := ⟨_, rfl⟩
  obtain ⟨vs7, hv⟩ : ∃ X, X = vs6 ++ [.slice a6 R6.2.1.length c6] := ⟨_, rfl⟩
  rw [← hL, ← hv] at hmd hvl
  have hsub : ∀ p ∈ L, p ∈ L7 := fun p hp => by rw [hL]; exact List.mem_cons_of_mem _ (HSub.out p hp)
  clear HMD0 hL hv
  have HMD := Lib.hid hmd; clear hmd
  have HVL2 := Lib.hid hvl; clear hvl HVL
  have HVL := HVL2; clear HVL2
  have HSub2 := Lib.hid hsub; clear hsub HSub
  have HSub := HSub2; clear HSub2
  -- Eq
  have hok := mkOp_ok HMD.out.hold.own.gin.ok 7 (by omega) xl yl hlen
  obtain ⟨R7, hR⟩ : ∃ R : Res, R = (negG (refG (madeG G xl yl 7).1 [xl, yl] (neF ((madeG G xl yl 7).1, 0) ((nats xl).zip (nats yl))))) := ⟨_, rfl⟩
  have hmk : mkOp 7 (madeG G xl yl 7).1 xl yl = bitR R7 := by rw [hR, mkOp_7]
  have hC2 : Calls Try.prog 22 #[.pointer (some ⟨g, 0, none⟩), .slice xa xl.length xc, .slice ya yl.length yc] W7 fun e w' => e = .returned (.tuple #[.int .i64 R7.2.1, .int .i64 R7.2.2]) ∧ GTo W7 g R7.1 F7 w' := by rw [hR]; have hC := sEq_is HMD.out.hold.own.gin (HMD.out.hold.at (HSub.out _ HX.out) rfl) (HMD.out.hold.at (HSub.out _ HY.out) rfl); exact hC
  rw [hmk] at hok
  have hrs := hok.1.small R7.2.1 (by simp [bitR])
  have HMK := Lib.hid hmk; clear hmk hR hok
  go_wp2_with fail
  refine hC2.mono ?_
  rintro e w1 ⟨rfl, hg⟩
  obtain ⟨F8, hmd⟩ := HMD.out.ref hg
  have hN := made2_is hmd (by omega) R7.2.1 R7.2.2 hrs
  clear hC2 hg hmd HMD
  go_wp2_with fail
  refine hN.mono ?_
  rintro e W8 ⟨⟨v, rfl⟩, a7, qa7, qc7, hmd0⟩
  have HMD0 := Lib.hid hmd0; clear hmd0 hN hrs
  have hmd : MD w0 w F W8 g (madeG G xl yl 8).1 F8 ((.slice a7 1 1, natInts [R7.2.1]) :: L7) (B + 1) B (B + 2) (madeG G xl yl 8).2.2 qa7 8 qc7 (vs7 ++ [.slice a7 1 1]) := by rw [madeG_succ]; unfold madeStep; rw [HMK.out]; exact HMD0.out
  have hvl : VL (vs7 ++ [.slice a7 1 1]) (madeG G xl yl 8).2.1 ((.slice a7 1 1, natInts [R7.2.1]) :: L7) := by rw [madeG_succ]; unfold madeStep; rw [HMK.out]; exact HVL.out.snoc _ _
  obtain ⟨L8, hL⟩ : ∃ X, X = (.slice a7 1 1, natInts [R7.2.1]) :: L7 := ⟨_, rfl⟩
  obtain ⟨vs8, hv⟩ : ∃ X, X = vs7 ++ [.slice a7 1 1] := ⟨_, rfl⟩
  rw [← hL, ← hv] at hmd hvl
  have hsub : ∀ p ∈ L, p ∈ L8 := fun p hp => by rw [hL]; exact List.mem_cons_of_mem _ (HSub.out p hp)
  clear HMD0 hL hv
  have HMD := Lib.hid hmd; clear hmd
  have HVL2 := Lib.hid hvl; clear hvl HVL
  have HVL := HVL2; clear HVL2
  have HSub2 := Lib.hid hsub; clear hsub HSub
  have HSub := HSub2; clear HSub2
  -- Ne
  have hok := mkOp_ok HMD.out.hold.own.gin.ok 8 (by omega) xl yl hlen
  obtain ⟨R8, hR⟩ : ∃ R : Res, R = (refG (madeG G xl yl 8).1 [xl, yl] (neF ((madeG G xl yl 8).1, 0) ((nats xl).zip (nats yl)))) := ⟨_, rfl⟩
  have hmk : mkOp 8 (madeG G xl yl 8).1 xl yl = bitR R8 := by rw [hR, mkOp_8]
  have hC2 : Calls Try.prog 23 #[.pointer (some ⟨g, 0, none⟩), .slice xa xl.length xc, .slice ya yl.length yc] W8 fun e w' => e = .returned (.tuple #[.int .i64 R8.2.1, .int .i64 R8.2.2]) ∧ GTo W8 g R8.1 F8 w' := by rw [hR]; have hC := sNe_is HMD.out.hold.own.gin (HMD.out.hold.at (HSub.out _ HX.out) rfl) (HMD.out.hold.at (HSub.out _ HY.out) rfl); exact hC
  rw [hmk] at hok
  have hrs := hok.1.small R8.2.1 (by simp [bitR])
  have HMK := Lib.hid hmk; clear hmk hR hok
  go_wp2_with fail
  refine hC2.mono ?_
  rintro e w1 ⟨rfl, hg⟩
  obtain ⟨F9, hmd⟩ := HMD.out.ref hg
  have hN := made2_is hmd (by omega) R8.2.1 R8.2.2 hrs
  clear hC2 hg hmd HMD
  go_wp2_with fail
  refine hN.mono ?_
  rintro e W9 ⟨⟨v, rfl⟩, a8, qa8, qc8, hmd0⟩
  have HMD0 := Lib.hid hmd0; clear hmd0 hN hrs
  have hmd : MD w0 w F W9 g (madeG G xl yl 9).1 F9 ((.slice a8 1 1, natInts [R8.2.1]) :: L8) (B + 1) B (B + 2) (madeG G xl yl 9).2.2 qa8 9 qc8 (vs8 ++ [.slice a8 1 1]) := by rw [madeG_succ]; unfold madeStep; rw [HMK.out]; exact HMD0.out
  have hvl : VL (vs8 ++ [.slice a8 1 1]) (madeG G xl yl 9).2.1 ((.slice a8 1 1, natInts [R8.2.1]) :: L8) := by rw [madeG_succ]; unfold madeStep; rw [HMK.out]; exact HVL.out.snoc _ _
  obtain ⟨L9, hL⟩ : ∃ X, X = (.slice a8 1 1, natInts [R8.2.1]) :: L8 := ⟨_, rfl⟩
  obtain ⟨vs9, hv⟩ : ∃ X, X = vs8 ++ [.slice a8 1 1] := ⟨_, rfl⟩
  rw [← hL, ← hv] at hmd hvl
  have hsub : ∀ p ∈ L, p ∈ L9 := fun p hp => by rw [hL]; exact List.mem_cons_of_mem _ (HSub.out p hp)
  clear HMD0 hL hv
  have HMD := Lib.hid hmd; clear hmd
  have HVL2 := Lib.hid hvl; clear hvl HVL
  have HVL := HVL2; clear HVL2
  have HSub2 := Lib.hid hsub; clear hsub HSub
  have HSub := HSub2; clear HSub2
  -- Lt
  have hok := mkOp_ok HMD.out.hold.own.gin.ok 9 (by omega) xl yl hlen
  obtain ⟨R9, hR⟩ : ∃ R : Res, R = (refG (madeG G xl yl 9).1 [xl, yl] (ltF ((madeG G xl yl 9).1, 0) ((nats xl).zip (nats yl)))) := ⟨_, rfl⟩
  have hmk : mkOp 9 (madeG G xl yl 9).1 xl yl = bitR R9 := by rw [hR, mkOp_9]
  have hC2 : Calls Try.prog 24 #[.pointer (some ⟨g, 0, none⟩), .slice xa xl.length xc, .slice ya yl.length yc] W9 fun e w' => e = .returned (.tuple #[.int .i64 R9.2.1, .int .i64 R9.2.2]) ∧ GTo W9 g R9.1 F9 w' := by rw [hR]; have hC := sLt_is HMD.out.hold.own.gin (HMD.out.hold.at (HSub.out _ HX.out) rfl) (HMD.out.hold.at (HSub.out _ HY.out) rfl); exact hC
  rw [hmk] at hok
  have hrs := hok.1.small R9.2.1 (by simp [bitR])
  have HMK := Lib.hid hmk; clear hmk hR hok
  go_wp2_with fail
  refine hC2.mono ?_
  rintro e w1 ⟨rfl, hg⟩
  obtain ⟨F10, hmd⟩ := HMD.out.ref hg
  have hN := made2_is hmd (by omega) R9.2.1 R9.2.2 hrs
  clear hC2 hg hmd HMD
  go_wp2_with fail
  refine hN.mono ?_
  rintro e W10 ⟨⟨v, rfl⟩, a9, qa9, qc9, hmd0⟩
  have HMD0 := Lib.hid hmd0; clear hmd0 hN hrs
  have hmd : MD w0 w F W10 g (madeG G xl yl 10).1 F10 ((.slice a9 1 1, natInts [R9.2.1]) :: L9) (B + 1) B (B + 2) (madeG G xl yl 10).2.2 qa9 10 qc9 (vs9 ++ [.slice a9 1 1]) := by rw [madeG_succ]; unfold madeStep; rw [HMK.out]; exact HMD0.out
  have hvl : VL (vs9 ++ [.slice a9 1 1]) (madeG G xl yl 10).2.1 ((.slice a9 1 1, natInts [R9.2.1]) :: L9) := by rw [madeG_succ]; unfold madeStep; rw [HMK.out]; exact HVL.out.snoc _ _
  obtain ⟨L10, hL⟩ : ∃ X, X = (.slice a9 1 1, natInts [R9.2.1]) :: L9 := ⟨_, rfl⟩
  obtain ⟨vs10, hv⟩ : ∃ X, X = vs9 ++ [.slice a9 1 1] := ⟨_, rfl⟩
  rw [← hL, ← hv] at hmd hvl
  have hsub : ∀ p ∈ L, p ∈ L10 := fun p hp => by rw [hL]; exact List.mem_cons_of_mem _ (HSub.out p hp)
  clear HMD0 hL hv
  have HMD := Lib.hid hmd; clear hmd
  have HVL2 := Lib.hid hvl; clear hvl HVL
  have HVL := HVL2; clear HVL2
  have HSub2 := Lib.hid hsub; clear hsub HSub
  have HSub := HSub2; clear HSub2
  -- Le
  have hok := mkOp_ok HMD.out.hold.own.gin.ok 10 (by omega) xl yl hlen
  obtain ⟨R10, hR⟩ : ∃ R : Res, R = (negG (refG (madeG G xl yl 10).1 [yl, xl] (ltF ((madeG G xl yl 10).1, 0) ((nats yl).zip (nats xl))))) := ⟨_, rfl⟩
  have hmk : mkOp 10 (madeG G xl yl 10).1 xl yl = bitR R10 := by rw [hR, mkOp_10]
  have hC2 : Calls Try.prog 25 #[.pointer (some ⟨g, 0, none⟩), .slice xa xl.length xc, .slice ya yl.length yc] W10 fun e w' => e = .returned (.tuple #[.int .i64 R10.2.1, .int .i64 R10.2.2]) ∧ GTo W10 g R10.1 F10 w' := by rw [hR]; have hC := sLe_is HMD.out.hold.own.gin (HMD.out.hold.at (HSub.out _ HX.out) rfl) (HMD.out.hold.at (HSub.out _ HY.out) rfl); exact hC
  rw [hmk] at hok
  have hrs := hok.1.small R10.2.1 (by simp [bitR])
  have HMK := Lib.hid hmk; clear hmk hR hok
  go_wp2_with fail
  refine hC2.mono ?_
  rintro e w1 ⟨rfl, hg⟩
  obtain ⟨F11, hmd⟩ := HMD.out.ref hg
  have hN := made2_is hmd (by omega) R10.2.1 R10.2.2 hrs
  clear hC2 hg hmd HMD
  go_wp2_with fail
  refine hN.mono ?_
  rintro e W11 ⟨⟨v, rfl⟩, a10, qa10, qc10, hmd0⟩
  have HMD0 := Lib.hid hmd0; clear hmd0 hN hrs
  have hmd : MD w0 w F W11 g (madeG G xl yl 11).1 F11 ((.slice a10 1 1, natInts [R10.2.1]) :: L10) (B + 1) B (B + 2) (madeG G xl yl 11).2.2 qa10 11 qc10 (vs10 ++ [.slice a10 1 1]) := by rw [madeG_succ]; unfold madeStep; rw [HMK.out]; exact HMD0.out
  have hvl : VL (vs10 ++ [.slice a10 1 1]) (madeG G xl yl 11).2.1 ((.slice a10 1 1, natInts [R10.2.1]) :: L10) := by rw [madeG_succ]; unfold madeStep; rw [HMK.out]; exact HVL.out.snoc _ _
  obtain ⟨L11, hL⟩ : ∃ X, X = (.slice a10 1 1, natInts [R10.2.1]) :: L10 := ⟨_, rfl⟩
  obtain ⟨vs11, hv⟩ : ∃ X, X = vs10 ++ [.slice a10 1 1] := ⟨_, rfl⟩
  rw [← hL, ← hv] at hmd hvl
  have hsub : ∀ p ∈ L, p ∈ L11 := fun p hp => by rw [hL]; exact List.mem_cons_of_mem _ (HSub.out p hp)
  clear HMD0 hL hv
  have HMD := Lib.hid hmd; clear hmd
  have HVL2 := Lib.hid hvl; clear hvl HVL
  have HVL := HVL2; clear HVL2
  have HSub2 := Lib.hid hsub; clear hsub HSub
  have HSub := HSub2; clear HSub2
  generalize hokk : (madeG G xl yl 11).2.2 = okk at *
  have HOKK := Lib.hid hokk; clear hokk
  have hbo := HMD.out.bo
  have hbk := HMD.out.bk
  go_wp2_with fail
  refine Ord.St.door (fun w' => w'.cell? ⟨B, 0, none⟩ = some (.slice qa10 11 qc10) ∧ w'.cell? ⟨B + 1, 0, none⟩ = some (.bool okk)) [.ho, .ef, .ho, .fl, .fl, .fl] [0, 0, 0, 1, 11, 31] [0, 1, 2, 3, 4, 5] mixed (by kernel_rfl) rfl ?_
  obtain ⟨Wc, hWc⟩ : ∃ Wc, Wc = W11.drew := ⟨_, rfl⟩
  rw [← hWc]
  have hmd := HMD.out.same (by rw [hWc]; exact (Ch.refl _ _).drew : Ch [] _ Wc)
  clear hWc HMD
  replace hbo := hmd.bo
  replace hbk := hmd.bk
  have HMD := Lib.hid hmd; clear hmd
  refine Ord.St.ho2 (T' := ?_) 0 [1, 2, 3, 4, 5] _ _ rfl (by kernel_rfl) rfl rfl rfl rfl ?_ (fun K w' hw' hk => ?_) ?_
  rotate_left
  · exact ⟨hbo.cell rfl, hbk.cell rfl⟩
  · obtain ⟨q1, q2⟩ := hw'; go_step; exact hk
  refine Ord.St.ho2 (T' := ?_) 2 [1, 3, 4, 5] _ _ rfl (by kernel_rfl) rfl rfl rfl rfl ?_ (fun K w' hw' hk => ?_) ?_
  rotate_left
  · exact ⟨hbo.cell rfl, hbk.cell rfl⟩
  · obtain ⟨q1, q2⟩ := hw'; go_step; exact hk
  refine Ord.St.fl2 (T' := ?_) 3 [1, 4, 5] _ _ rfl (by kernel_rfl) rfl rfl rfl rfl (fun K w' hk => ?_) ?_
  rotate_left
  · go_step; exact hk
  refine Ord.St.efC 1 [4, 5] _ rfl (by kernel_rfl) (fun K hK => ?_)
  go_wp2_with fail
  refine ⟨rfl, hK _ _ ?_ ?_⟩
  · exact ⟨(hbo.alloc _).cell rfl, (hbk.alloc _).cell rfl⟩
  clear hK K
  refine Ord.St.alw ?_; intro Wn hWn
  have hcn := alw_ch hWn
  have hops := alw_blk (xs := ([1, 2, 8, 9, 10, 3, 4, 13, 14, 15, 16].map fun (z : Int) => Value.int .u8 z)) hWn
  clear hWn
  replace hbo := hbo.ch hcn (by simp)
  replace hbk := hbk.ch hcn (by simp)
  refine Ord.St.fl2 (T' := ?_) 4 [5] _ _ rfl (by kernel_rfl) rfl rfl rfl rfl (fun K w' hk => ?_) ?_
  rotate_left
  · go_step; exact hk
  refine Ord.St.fl2 (T' := ?_) 5 [] _ _ rfl (by kernel_rfl) rfl rfl rfl rfl (fun K w' hk => ?_) ?_
  rotate_left
  · go_step; exact hk
  refine Ord.St.nil ?_
  go_wp2_with fail
  have hm2 := HMD.out.same hcn
  have hz2 := HMD.out.hold.own.ch.size
  have hlt2 := GIn.lt HMD.out.hold.own.gin
  go_ret3
  refine ⟨F11, L11, qa10, qc10, Wc.heap.size, vs11, ?_, hm2.hold, HSub.out, HVL.out, hm2.row, fun k hk => ⟨(hm2.oo k hk).1, (hm2.oo k hk).2.1⟩, hops, hz2, fun hk => (by have := hlt2 _ hk; omega), hm2.ch1, hm2.f1⟩
  rw [HOKK.out]; rfl
end
end Go.Proofs.Ytchledddgmbndaa
namespace Go.Aig
theorem madeG_len (G : Gra) (x y : List Int) : ∀ n, (madeG G x y n).2.1.length = n
  | 0 => rfl
  | n + 1 => by
    rw [madeG_succ]
    unfold madeStep
    simp [madeG_len G x y n]
def goodL (L A : List (List Nat)) : Prop := ∀ (i : Nat) (l a : List Nat), L[i]? = some l → A[i]? = some a → l = [] ∨ l = a ∨ l = [0]
def goodB (L A : List (List Nat)) : Bool := (L.zip A).all fun p => p.1 == [] || p.1 == p.2 || p.1 == [0]
theorem goodB_L {L A : List (List Nat)} (h : goodB L A = true) : goodL L A := fun i l a hl ha => by
  have hz : (L.zip A)[i]? = some (l, a) := by rw [List.getElem?_zip_eq_some]; exact ⟨hl, ha⟩
  have := List.all_eq_true.1 h (l, a) (List.mem_of_getElem? hz)
  simp at this
  rcases this with (h | h) | h
  · exact .inl h
  · exact .inr (.inl h)
  · exact .inr (.inr h)
def againB (n : Nat) : Bool :=
  let x := natInts (rIn 0 n)
  let y := natInts (rIn n n)
  let A := madeG (gIn 4000 (2 * n)) x y 11
  let N := A.1.nodes.length
  let B := madeG A.1 x y 11
  let C := madeG (gIn N (2 * n)) x y 11
  let D := madeG (gIn (N - 1) (2 * n)) x y 11
  A.2.2 && B.2.2 && B.1.nodes.length == N && A.2.1 == B.2.1 && C.2.2 && !D.2.2 && decide (D.1.nodes.length ≤ N - 1) && decide (2 * n + 1 < N - 1) && decide (N ≤ 4000) && goodB C.2.1 A.2.1 && goodB D.2.1 A.2.1
set_option maxRecDepth 100000 in
theorem again_all : (List.range 5).all (fun i => againB (i + 1)) = true := by decide +kernel
structure AgainF (n N : Nat) (GA GB GC GD : Gra) (lA lC lD : List (List Nat)) : Prop where
  a : madeG (gIn 4000 (2 * n)) (natInts (rIn 0 n)) (natInts (rIn n n)) 11 = (GA, lA, true)
  an : GA.nodes.length = N
  b : madeG GA (natInts (rIn 0 n)) (natInts (rIn n n)) 11 = (GB, lA, true)
  bn : GB.nodes.length = N
  c : madeG (gIn N (2 * n)) (natInts (rIn 0 n)) (natInts (rIn n n)) 11 = (GC, lC, true)
  d : madeG (gIn (N - 1) (2 * n)) (natInts (rIn 0 n)) (natInts (rIn n n)) 11 = (GD, lD, false)
  dn : GD.nodes.length ≤ N - 1
  lo : 2 * n + 1 < N - 1
  hi : N ≤ 4000
  gc : goodL lC lA
  gd : goodL lD lA
  la : lA.length = 11
  lc : lC.length = 11
  ld : lD.length = 11
theorem again_facts {n : Nat} (h1 : 1 ≤ n) (h5 : n ≤ 5) : ∃ N GA GB GC GD lA lC lD, AgainF n N GA GB GC GD lA lC lD := by
  have h := List.all_eq_true.1 again_all (n - 1) (List.mem_range.2 (by omega))
  rw [show n - 1 + 1 = n by omega] at h
  unfold againB at h
  dsimp only at h
  have l1 := madeG_len (gIn 4000 (2 * n)) (natInts (rIn 0 n)) (natInts (rIn n n)) 11
  generalize hA : madeG (gIn 4000 (2 * n)) (natInts (rIn 0 n)) (natInts (rIn n n)) 11 = A at h l1
  have l2 := madeG_len (gIn A.1.nodes.length (2 * n)) (natInts (rIn 0 n)) (natInts (rIn n n)) 11
  have l3 := madeG_len (gIn (A.1.nodes.length - 1) (2 * n)) (natInts (rIn 0 n)) (natInts (rIn n n)) 11
  generalize hB : madeG A.1 (natInts (rIn 0 n)) (natInts (rIn n n)) 11 = B at h
  generalize hC : madeG (gIn A.1.nodes.length (2 * n)) (natInts (rIn 0 n)) (natInts (rIn n n)) 11 = C at h l2
  generalize hD : madeG (gIn (A.1.nodes.length - 1) (2 * n)) (natInts (rIn 0 n)) (natInts (rIn n n)) 11 = D at h l3
  obtain ⟨GA, lA, oA⟩ := A
  obtain ⟨GB, lB, oB⟩ := B
  obtain ⟨GC, lC, oC⟩ := C
  obtain ⟨GD, lD, oD⟩ := D
  simp only [Bool.and_eq_true, Bool.not_eq_true', decide_eq_true_eq, beq_iff_eq] at h
  obtain ⟨⟨⟨⟨⟨⟨⟨⟨⟨⟨a1, a2⟩, a3⟩, a4⟩, a5⟩, a6⟩, a7⟩, a8⟩, a9⟩, a10⟩, a11⟩ := h
  subst a1 a2 a4 a5 a6
  exact ⟨GA.nodes.length, GA, GB, GC, GD, lA, lC, lD, ⟨hA, rfl, hB, a3, hC, hD, a7, a8, a9, goodB_L a10, goodB_L a11, l1, l2, l3⟩⟩
end Go.Aig
namespace Go.Proofs.Ytchledddgmbndaa
open Go.RowKit Go.Mem Go.Aig
theorem VL.at {w0 w : World} {g : Nat} {G : Gra} {F : List Nat} {L : List (Value × List Int)} {vs : List Value} {ls : List (List Nat)} (hv : VL vs ls L) (h : Hold w0 w g G F L) {k : Nat} {l : List Nat} (hl : ls[k]? = some l) : ∃ a c, vs[k]? = some (.slice a l.length c) ∧ (.slice a l.length c, natInts l) ∈ L := by
  have hlt := (List.getElem?_eq_some_iff.1 hl).1
  rw [← hv.len] at hlt
  have hu : vs[k]? = some vs[k] := List.getElem?_eq_getElem hlt
  have hm := hv.mem k _ l hu hl
  have hr := (h.held _ hm).row
  simp only [natInts_len] at hr
  obtain ⟨a, c, e⟩ := row.shape hr
  have e2 : vs[k] = .slice a l.length c := e
  rw [e2] at hu hm
  exact ⟨a, c, hu, hm⟩
theorem row_at {w : World} {e : TypeId} {b n c : Nat} {vs : List Value} (h : row w e 1 (.slice (some ⟨b, 0, none⟩) n c) n vs) {k : Nat} {v : Value} (hk : vs[k]? = some v) : w.cell? ⟨b, k, none⟩ = some v := by
  have := h.cells (g := b) rfl k v hk
  rw [Addr.add_lit] at this
  simpa using this
theorem max_nat (z : Int) (k m : Nat) (h : max z k = m) (ats : Array TypeId) (ty : TypeId) : Builtin.max_ ats ty #[.int .i64 z, .int .i64 (k : Int)] = pure (.int .i64 (m : Int)) := by
  have e : (if z < (k : Int) then (k : Int) else z) = m := by split <;> omega
  rw [← e]
  simp [Builtin.max_, Builtin.max2]
theorem max_one (z : Int) (m : Nat) (h : max z 1 = m) (ats : Array TypeId) (ty : TypeId) : Builtin.max_ ats ty #[.int .i64 z, .int .i64 1] = pure (.int .i64 (m : Int)) := max_nat z 1 m h ats ty
end Go.Proofs.Ytchledddgmbndaa
namespace Go.Proofs.Ytchledddgmbndaa
open Go.RowKit Go.Mem Go.Aig
set_option maxRecDepth 100000 in
set_option maxHeartbeats 8000000 in
theorem SumsAgain_walk {w : World} (wd : Nat) (hw : wd ≤ 255) : Calls Try.prog 5 #[.int .u8 wd] w fun e w' => e = .returned (.bool true) ∧ Ch [] w w' := by
  have HP := fun W => Pair_is W wd hw
  obtain ⟨n, hn⟩ : ∃ n, n = wd % 5 + 1 := ⟨_, rfl⟩
  rw [← hn] at HP
  have hn1 : 1 ≤ n := by omega
  have hn5 : n ≤ 5 := by omega
  clear hn
  obtain ⟨N, GA, GB, GC, GD, lA, lC, lD, hAF⟩ := again_facts hn1 hn5
  have HAF := Lib.hid hAF; clear hAF
  have HA := fun W => awake23_is W
  go_enter Try.func5, Try.ntmps5
  go_wp2_with fail
  refine (HA _).mono ?_
  rintro e w1 ⟨rfl, hc1⟩
  have HC1 := Lib.hid hc1; clear hc1 HA
  go_wp2_with fail
  refine (HP _).mono ?_
  rintro e w2 ⟨g, F2, xa, xc, ya, yc, rfl, ho⟩
  have HO := Lib.hid ho; clear ho HP
  have hM1 := made23_is HO.out (xa := xa) (xc := xc) (n := n) (xl := natInts (rIn 0 n)) (ya := ya) (yc := yc) (n2 := n) (yl := natInts (rIn n n)) (by simp) (by simp) (by simp) (by simp)
  rw [HAF.out.a] at hM1
  have HM1 := Lib.hid hM1; clear hM1
  go_wp2_with fail
  refine HM1.out.mono ?_
  rintro e w3 ⟨F3, L3, oa, oc, ba, vs, rfl, ho, hsub, hvl, hrow, hown, hops, hba, hbaF, hch, hFF⟩
  obtain ⟨ob, ocap, hoe⟩ := hrow.parts (by omega)
  cases hoe
  clear HO HM1 hops hba hbaF hch hFF
  have HO := Lib.hid ho; clear ho
  have HSUB := Lib.hid hsub; clear hsub
  have HVL := Lib.hid hvl; clear hvl
  have HROW := Lib.hid hrow; clear hrow
  have HOWN := Lib.hid hown; clear hown
  have hL := Len_g HO.out.own.gin
  rw [HAF.out.an] at hL
  go_wp2_with fail
  refine hL.mono ?_
  rintro e w4 ⟨rfl, rfl⟩
  clear hL
  have hM1 := made23_is HO.out (xa := xa) (xc := xc) (n := n) (xl := natInts (rIn 0 n)) (ya := ya) (yc := yc) (n2 := n) (yl := natInts (rIn n n)) (HSUB.out _ (by simp)) (by simp) (HSUB.out _ (by simp)) (by simp)
  rw [HAF.out.b] at hM1
  have HM1 := Lib.hid hM1; clear hM1
  go_wp2_with fail
  refine HM1.out.mono ?_
  rintro e w5 ⟨F5, L5, pa, pc, ba2, vs2, rfl, ho, hsub, hvl, hrow, hown, hops, hba, hbaF, hch, hFF⟩
  obtain ⟨pb, pcap, hoe⟩ := hrow.parts (by omega)
  cases hoe
  have hvl1 : VL vs lA L5 := ⟨HVL.out.len, fun i v l h1 h2 => hsub _ (HVL.out.mem i v l h1 h2)⟩
  have hsub5 : ∀ p ∈ [((Value.slice ya n yc), natInts (rIn n n)), ((Value.slice xa n xc), natInts (rIn 0 n))], p ∈ L5 := fun p hp => hsub _ (HSUB.out p hp)
  have hrow1 := HROW.out.ch hch (fun k hk => (HOWN.out k hk).2)
  clear HO HM1 hops hba hbaF hFF HVL HSUB HROW hown
  have HO := Lib.hid ho; clear ho
  have HSUB := Lib.hid hsub5; clear hsub hsub5
  have HVL1 := Lib.hid hvl1; clear hvl1
  have HVL2 := Lib.hid hvl; clear hvl
  have HROW1 := Lib.hid hrow1; clear hrow1
  have HROW2 := Lib.hid hrow; clear hrow
  clear hch HOWN
  have hL := Len_g HO.out.own.gin
  rw [HAF.out.bn] at hL
  go_wp2_with fail
  refine hL.mono ?_
  rintro e w6 ⟨rfl, rfl⟩
  clear hL
  go_wp2_with fail
  go_loopw [76] (fun i wr => ∃ k : Nat, k ≤ 11 ∧ i = .int .i64 k ∧ Ch [] w5 wr) (fun i _ => 11 - (intOf i).toNat)
  case atStart => exact ⟨0, by omega, rfl, Ch.refl _ _⟩
  case round =>
    obtain ⟨k, hk, rfl, hc⟩ := hrel
    by_cases hlt : k < 11
    · obtain ⟨l, hl⟩ : ∃ l, lA[k]? = some l := ⟨_, List.getElem?_eq_getElem (by rw [HAF.out.la]; exact hlt)⟩
      obtain ⟨a1, c1, hv1, hm1⟩ := HVL1.out.at HO.out hl
      obtain ⟨a2, c2, hv2, hm2⟩ := HVL2.out.at HO.out hl
      have d1 := row_at (HROW1.out.ch hc (by simp)) hv1
      have d2 := row_at (HROW2.out.ch hc (by simp)) hv2
      have hE := Eqref_is (w := wr) c1 c2 (xs := natInts l) (ys := natInts l) ((HO.out.same hc).sl hm1 (natInts_len l)) ((HO.out.same hc).sl hm2 (natInts_len l))
      simp only [natInts_len, decide_true] at hE
      have HE := Lib.hid hE; clear hE
      have hll : l.length ≤ 1000000 := by have := (HO.out.at hm1 (natInts_len l)).ok.len; simpa using this
      have HC := Lib.hid hc; clear hc
      clear hl hv1 hv2 hm1 hm2
      go_wp2_with fail
      refine HE.out.mono ?_
      rintro e wE ⟨rfl, hcE⟩
      have HCE := Lib.hid hcE; clear hcE
      go_wp2_with fail
      go_roundw
      case rel => exact ⟨k + 1, by omega, by go_num, HC.out.trans HCE.out (by simp)⟩
      case measure => simp [intOf] <;> omega
    · obtain ⟨w7, hw7⟩ : ∃ X : World, X = wr := ⟨_, rfl⟩
      rw [← hw7] at hc ⊢
      clear hw7
      have HO7 := Lib.hid (HO.out.same hc)
      have HR7 := Lib.hid (HROW1.out.ch hc (by simp))
      clear HO HROW1 HROW2 HVL2 hc
      go_wp2_with fail
      go_loopw [89] (fun i wr => ∃ k : Nat, k ≤ 2 ∧ i = .int .i64 k ∧ Ch [] w7 wr) (fun i _ => 2 - (intOf i).toNat)
      case atStart => exact ⟨0, by omega, rfl, Ch.refl _ _⟩
      case round =>
        obtain ⟨k, hk, rfl, hc⟩ := hrel
        by_cases hlt2 : k < 2
        · have hlo := HAF.out.lo
          have hhi := HAF.out.hi
          obtain ⟨M, hM⟩ : ∃ M : Nat, M = N - k := ⟨_, rfl⟩
          have hmx := max_one ((N : Int) - k) M (by omega)
          have hN := New_h (w := wr) M (by omega) (by omega)
          have HC := Lib.hid hc; clear hc
          have HNN := Lib.hid hN; clear hN
          have HMM := Lib.hid hM; clear hM
          go_wp2_with fail
          refine HNN.out.mono ?_
          rintro e wn ⟨h, FH, rfl, ho⟩
          clear HNN
          have HH := Lib.hid ho; clear ho
          go_wp2_with fail
          refine (sInput_h HH.out n (G' := gIn M n) (l := rIn 0 n) (e := 0) (k := n) (by have := inG_gIn (most := M) (s := 0) hn1 (by omega) (by have := HMM.out; omega); rw [Nat.zero_add] at this; exact this) (by simp) (fun r hr => by have := rIn_le hr; omega) (by omega)).mono ?_
          rintro e wn ⟨ua, uc, FH2, rfl, ho⟩
          clear HH
          have HH := Lib.hid ho; clear ho
          go_wp2_with fail
          refine (sInput_h HH.out n (G' := gIn M (2 * n)) (l := rIn n n) (e := 0) (k := n) (by have := inG_gIn (most := M) (s := n) hn1 (by omega) (by have := HMM.out; omega); rw [show n + n = 2 * n from by omega] at this; exact this) (by simp) (fun r hr => by have := rIn_le hr; omega) (by omega)).mono ?_
          rintro e wn2 ⟨ta, tc, FH3, rfl, ho⟩
          clear HH
          have HH := Lib.hid ho; clear ho
          have hM1 := made23_is HH.out (xa := ua) (xc := uc) (n := n) (xl := natInts (rIn 0 n)) (ya := ta) (yc := tc) (n2 := n) (yl := natInts (rIn n n)) (by simp) (by simp) (by simp) (by simp)
          clear hmx
          by_cases hk0 : k < 1
          · have hkk : k = 0 := by omega
            have q0 : ((k : Int) == 0) = true := beqI (by omega)
            have q1 : ((k : Int) == 1) = false := beqN (by omega)
            rw [show M = N from by have := HMM.out; omega, HAF.out.c] at hM1
            clear hkk
            have HM1 := Lib.hid hM1; clear hM1
            go_wp2_with fail
            refine HM1.out.mono ?_
            rintro e wm ⟨FM, LM, ra, rc, bam, vsm, rfl, ho, hsub, hvl, hrow, hown, hops, hba, hbaF, hch, hFF⟩
            obtain ⟨rb, rcap, hoe⟩ := hrow.parts (by omega)
            cases hoe
            clear HM1 hops hba hbaF hch hFF hown hsub HH
            have HH := Lib.hid ho; clear ho
            have HVLM := Lib.hid hvl; clear hvl
            have HROWM := Lib.hid hrow; clear hrow
            go_wp2_with fail
            go_loopw [159] (fun i wr => ∃ j : Nat, j ≤ 11 ∧ i = .int .i64 j ∧ Ch [] wm wr) (fun i _ => 11 - (intOf i).toNat)
            case atStart => exact ⟨0, by omega, rfl, Ch.refl _ _⟩
            case round =>
              obtain ⟨j, hj, rfl, hcj⟩ := hrel
              have hch7 : Ch [] w7 wr := (HC.out.trans HH.out.own.ch (by simp)).trans hcj (by simp)
              by_cases hlt3 : j < 11
              · obtain ⟨l, hl⟩ : ∃ l, lC[j]? = some l := ⟨_, List.getElem?_eq_getElem (by rw [HAF.out.lc]; exact hlt3)⟩
                obtain ⟨l2, hl2⟩ : ∃ l2, lA[j]? = some l2 := ⟨_, List.getElem?_eq_getElem (by rw [HAF.out.la]; exact hlt3)⟩
                have hgood := HAF.out.gc j l l2 hl hl2
                obtain ⟨a1, c1, hv1, hm1⟩ := HVLM.out.at HH.out hl
                obtain ⟨a2, c2, hv2, hm2⟩ := HVL1.out.at HO7.out hl2
                have d1 := row_at (HROWM.out.ch hcj (by simp)) hv1
                have d2 := row_at (HR7.out.ch hch7 (by simp)) hv2
                have hsl1 := (HH.out.same hcj).sl hm1 (natInts_len l)
                have hsl2 := (HO7.out.same hch7).sl hm2 (natInts_len l2)
                have hll : l.length ≤ 1000000 := by have := (HH.out.at hm1 (natInts_len l)).ok.len; simpa using this
                have hll2 : l2.length ≤ 1000000 := by have := (HO7.out.at hm2 (natInts_len l2)).ok.len; simpa using this
                have HCJ := Lib.hid hcj; clear hcj
                clear hl hl2 hv1 hv2 hm1 hm2 hch7
                by_cases hle : l.length = 0
                · have hz : ((l.length : Int) != 0) = false := by rw [hle]; rfl
                  have HLE := Lib.hid hle; clear hle hgood hsl1 hsl2
                  go_wp2_with fail
                  go_roundw
                  case rel => exact ⟨j + 1, by omega, by go_num, HCJ.out⟩
                  case measure => simp [intOf] <;> omega
                · have hz : ((l.length : Int) != 0) = true := bne_iff_ne.2 (by omega)
                  have hE := Eqref_is (w := wr) c1 c2 (xs := natInts l) (ys := natInts l2) hsl1 hsl2
                  simp only [natInts_len] at hE
                  by_cases hel : l = l2
                  · rw [show decide (natInts l = natInts l2) = true from decide_eq_true (by rw [hel])] at hE
                    have HE := Lib.hid hE; clear hE hel hle hgood hsl1 hsl2
                    go_wp2_with fail
                    refine HE.out.mono ?_
                    rintro e wE ⟨rfl, hcE⟩
                    have HCE := Lib.hid hcE; clear hcE
                    go_wp2_with fail
                    go_roundw
                    case rel => exact ⟨j + 1, by omega, by go_num, HCJ.out.trans HCE.out (by simp)⟩
                    case measure => simp [intOf] <;> omega
                  · have hl0 : l = [0] := by
                      rcases hgood with h1 | h1 | h1
                      · rw [h1] at hle; exact absurd rfl hle
                      · exact absurd h1 hel
                      · exact h1
                    rw [show decide (natInts l = natInts l2) = false from decide_eq_false (fun h1 => hel (by
                      have := congrArg (List.map Int.toNat) h1
                      unfold natInts at this
                      rwa [toNats, toNats] at this))] at hE
                    have HE := Lib.hid hE; clear hE hel hle hgood hsl2
                    have HSL := Lib.hid hsl1; clear hsl1
                    have HL0 := Lib.hid hl0; clear hl0
                    go_wp2_with fail
                    refine HE.out.mono ?_
                    rintro e wE ⟨rfl, hcE⟩
                    have hE2 := Eqref_is (w := wE.alloc (.cells #[.int .i64 0] 34)) c1 1 (xs := natInts l) (ys := [0]) (a := a1) (b := some ⟨wE.heap.size, 0, none⟩) ((HSL.out.ch hcE (by simp)).ch ((Ch.refl [] _).alloc _) (by simp)) ⟨fun i x hx => ⟨_, _, rfl, by
                      have hb : blk (wE.alloc (.cells #[.int .i64 0] 34)) wE.heap.size [.int .i64 0] := blk.new' _ _ rfl
                      rcases i with _ | i
                      · simp at hx; subst hx; exact hb.cell rfl
                      · simp at hx⟩, by simp⟩
                    rw [show decide (natInts l = [0]) = true from decide_eq_true (by rw [HL0.out]; rfl)] at hE2
                    simp only [natInts_len] at hE2
                    have HE2 := Lib.hid hE2; clear hE2
                    have HCE := Lib.hid hcE; clear hcE
                    go_wp2_with fail
                    refine HE2.out.mono ?_
                    rintro e wF ⟨rfl, hcF⟩
                    have HCF := Lib.hid hcF; clear hcF
                    go_wp2_with fail
                    go_roundw
                    case rel => exact ⟨j + 1, by omega, by go_num, ((HCJ.out.trans HCE.out (by simp)).alloc _).trans HCF.out (by simp)⟩
                    case measure => simp [intOf] <;> omega
              · have HC7 := Lib.hid hch7; clear hch7 hcj
                go_wp2_with fail
                go_roundw
                case rel => exact ⟨k + 1, by omega, by go_num, HC7.out⟩
                case measure => simp [intOf] <;> omega
          · have hkk : k = 1 := by omega
            have q0 : ((k : Int) == 0) = false := beqN (by omega)
            have q1 : ((k : Int) == 1) = true := beqI (by omega)
            rw [show M = N - 1 from by have := HMM.out; omega, HAF.out.d] at hM1
            clear hkk
            have HM1 := Lib.hid hM1; clear hM1
            go_wp2_with fail
            refine HM1.out.mono ?_
            rintro e wm ⟨FM, LM, ra, rc, bam, vsm, rfl, ho, hsub, hvl, hrow, hown, hops, hba, hbaF, hch, hFF⟩
            obtain ⟨rb, rcap, hoe⟩ := hrow.parts (by omega)
            cases hoe
            clear HM1 hops hba hbaF hch hFF hown hsub HH
            have HH := Lib.hid ho; clear ho
            have HVLM := Lib.hid hvl; clear hvl
            have HROWM := Lib.hid hrow; clear hrow
            have hdn := HAF.out.dn
            have hL := Len_g HH.out.own.gin
            generalize hgl : GD.nodes.length = gl at hL hdn
            clear hgl
            have hgt : decide ((N : Int) - 1 < gl) = false := decide_eq_false (by omega)
            go_wp2_with fail
            refine hL.mono ?_
            rintro e wq ⟨rfl, rfl⟩
            clear hL
            go_wp2_with fail
            go_loopw [159] (fun i wr => ∃ j : Nat, j ≤ 11 ∧ i = .int .i64 j ∧ Ch [] wm wr) (fun i _ => 11 - (intOf i).toNat)
            case atStart => exact ⟨0, by omega, rfl, Ch.refl _ _⟩
            case round =>
              obtain ⟨j, hj, rfl, hcj⟩ := hrel
              have hch7 : Ch [] w7 wr := (HC.out.trans HH.out.own.ch (by simp)).trans hcj (by simp)
              by_cases hlt3 : j < 11
              · obtain ⟨l, hl⟩ : ∃ l, lD[j]? = some l := ⟨_, List.getElem?_eq_getElem (by rw [HAF.out.ld]; exact hlt3)⟩
                obtain ⟨l2, hl2⟩ : ∃ l2, lA[j]? = some l2 := ⟨_, List.getElem?_eq_getElem (by rw [HAF.out.la]; exact hlt3)⟩
                have hgood := HAF.out.gd j l l2 hl hl2
                obtain ⟨a1, c1, hv1, hm1⟩ := HVLM.out.at HH.out hl
                obtain ⟨a2, c2, hv2, hm2⟩ := HVL1.out.at HO7.out hl2
                have d1 := row_at (HROWM.out.ch hcj (by simp)) hv1
                have d2 := row_at (HR7.out.ch hch7 (by simp)) hv2
                have hsl1 := (HH.out.same hcj).sl hm1 (natInts_len l)
                have hsl2 := (HO7.out.same hch7).sl hm2 (natInts_len l2)
                have hll : l.length ≤ 1000000 := by have := (HH.out.at hm1 (natInts_len l)).ok.len; simpa using this
                have hll2 : l2.length ≤ 1000000 := by have := (HO7.out.at hm2 (natInts_len l2)).ok.len; simpa using this
                have HCJ := Lib.hid hcj; clear hcj
                clear hl hl2 hv1 hv2 hm1 hm2 hch7
                by_cases hle : l.length = 0
                · have hz : ((l.length : Int) != 0) = false := by rw [hle]; rfl
                  have HLE := Lib.hid hle; clear hle hgood hsl1 hsl2
                  go_wp2_with fail
                  go_roundw
                  case rel => exact ⟨j + 1, by omega, by go_num, HCJ.out⟩
                  case measure => simp [intOf] <;> omega
                · have hz : ((l.length : Int) != 0) = true := bne_iff_ne.2 (by omega)
                  have hE := Eqref_is (w := wr) c1 c2 (xs := natInts l) (ys := natInts l2) hsl1 hsl2
                  simp only [natInts_len] at hE
                  by_cases hel : l = l2
                  · rw [show decide (natInts l = natInts l2) = true from decide_eq_true (by rw [hel])] at hE
                    have HE := Lib.hid hE; clear hE hel hle hgood hsl1 hsl2
                    go_wp2_with fail
                    refine HE.out.mono ?_
                    rintro e wE ⟨rfl, hcE⟩
                    have HCE := Lib.hid hcE; clear hcE
                    go_wp2_with fail
                    go_roundw
                    case rel => exact ⟨j + 1, by omega, by go_num, HCJ.out.trans HCE.out (by simp)⟩
                    case measure => simp [intOf] <;> omega
                  · have hl0 : l = [0] := by
                      rcases hgood with h1 | h1 | h1
                      · rw [h1] at hle; exact absurd rfl hle
                      · exact absurd h1 hel
                      · exact h1
                    rw [show decide (natInts l = natInts l2) = false from decide_eq_false (fun h1 => hel (by
                      have := congrArg (List.map Int.toNat) h1
                      unfold natInts at this
                      rwa [toNats, toNats] at this))] at hE
                    have HE := Lib.hid hE; clear hE hel hle hgood hsl2
                    have HSL := Lib.hid hsl1; clear hsl1
                    have HL0 := Lib.hid hl0; clear hl0
                    go_wp2_with fail
                    refine HE.out.mono ?_
                    rintro e wE ⟨rfl, hcE⟩
                    have hE2 := Eqref_is (w := wE.alloc (.cells #[.int .i64 0] 34)) c1 1 (xs := natInts l) (ys := [0]) (a := a1) (b := some ⟨wE.heap.size, 0, none⟩) ((HSL.out.ch hcE (by simp)).ch ((Ch.refl [] _).alloc _) (by simp)) ⟨fun i x hx => ⟨_, _, rfl, by
                      have hb : blk (wE.alloc (.cells #[.int .i64 0] 34)) wE.heap.size [.int .i64 0] := blk.new' _ _ rfl
                      rcases i with _ | i
                      · simp at hx; subst hx; exact hb.cell rfl
                      · simp at hx⟩, by simp⟩
                    rw [show decide (natInts l = [0]) = true from decide_eq_true (by rw [HL0.out]; rfl)] at hE2
                    simp only [natInts_len] at hE2
                    have HE2 := Lib.hid hE2; clear hE2
                    have HCE := Lib.hid hcE; clear hcE
                    go_wp2_with fail
                    refine HE2.out.mono ?_
                    rintro e wF ⟨rfl, hcF⟩
                    have HCF := Lib.hid hcF; clear hcF
                    go_wp2_with fail
                    go_roundw
                    case rel => exact ⟨j + 1, by omega, by go_num, ((HCJ.out.trans HCE.out (by simp)).alloc _).trans HCF.out (by simp)⟩
                    case measure => simp [intOf] <;> omega
              · have HC7 := Lib.hid hch7; clear hch7 hcj
                go_wp2_with fail
                go_roundw
                case rel => exact ⟨k + 1, by omega, by go_num, HC7.out⟩
                case measure => simp [intOf] <;> omega
        · have HC9 := Lib.hid (HC1.out.trans (HO7.out.own.ch.trans hc (by simp)) (by simp)); clear hc
          go_wp2_with fail
          go_ret
          exact ⟨rfl, HC9.out⟩
end Go.Proofs.Ytchledddgmbndaa
