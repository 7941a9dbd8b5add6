/-
  Walk over law 27's assignments: all values of at most six inputs. Conditions: a number up to six.
  Walk over the iterator of formula.Models: it yields the models, in order. Conditions: a formula in memory, right, of at most sixteen variables.
  Walks over formula.Models and formula.Count. Conditions: a formula in memory, right, of at most sixteen variables.
  Plainly: what more roots do to a formula. No program in sight. Conditions: a graph that is right, roots of it.
  Walk over TseitinRoots: true, whatever comes in. Conditions: a slice of nodes of any integers, a slice of bytes, any byte.
-/
import Derived.Test.YtkedpifopclipaaQC
namespace Go.Proofs.Ytkedpifopclipaa
open Go.RowKit Go.Mem Go.Aig
theorem infoBools : (Try.prog.info? 56).map (fun i => (i.zero, i.size, i.bytes)) = some (some (.slice none 0 0), 1, 24) := by kernel_rfl
theorem slBoolss : SliceTy Try.prog 69 56 1 24 (.slice none 0 0) := ⟨Try.underlying69, infoBools, rfl, by decide⟩
/-- lists of truths in memory: their slices, apart from the blocks O -/
structure BsIn (w : World) (O : List Nat) (es : List Value) (cls : List (List Bool)) : Prop where
  len : es.length = cls.length
  each : ∀ (i : Nat) (c : List Bool), cls[i]? = some c → ∃ a cc, es[i]? = some (.slice a c.length cc) ∧ Sb w a c ∧ ∀ p, a = some p → p.block < w.heap.size ∧ p.block ∉ O
theorem BsIn.ch {w w' : World} {O O' F : List Nat} {es : List Value} {cls : List (List Bool)} (h : BsIn w O es cls) (hc : Ch F w w') (hF : ∀ q ∈ F, q ∈ O ∨ w.heap.size ≤ q) (hO : ∀ q ∈ O', q ∈ O ∨ w.heap.size ≤ q) : BsIn w' O' es cls :=
  ⟨h.len, fun i c hi => by
    obtain ⟨a, cc, h1, h4, h5⟩ := h.each i c hi
    refine ⟨a, cc, h1, h4.ch hc (fun p hp hin => ?_), fun p hp => ⟨Nat.lt_of_lt_of_le (h5 p hp).1 hc.size, fun hin => ?_⟩⟩
    · have := h5 p hp
      rcases hF _ hin with e | e
      · exact this.2 e
      · omega
    · have := h5 p hp
      rcases hO _ hin with e | e
      · exact this.2 e
      · omega⟩
theorem BsIn.snoc {w : World} {O : List Nat} {es : List Value} {cls : List (List Bool)} (h : BsIn w O es cls) {a : Option Addr} {c : List Bool} {cc : Nat} (h4 : Sb w a c) (h5 : ∀ p, a = some p → p.block < w.heap.size ∧ p.block ∉ O) : BsIn w O (es ++ [.slice a c.length cc]) (cls ++ [c]) :=
  ⟨by simp [h.len], fun i d hi => by
    by_cases hlt : i < cls.length
    · rw [List.getElem?_append_left hlt] at hi
      obtain ⟨a', cc', q1, q2⟩ := h.each i d hi
      exact ⟨a', cc', by rw [List.getElem?_append_left (by rw [h.len]; exact hlt)]; exact q1, q2⟩
    · have hlt2 := (List.getElem?_eq_some_iff.1 hi).1
      rw [List.length_append] at hlt2
      have hie : i = cls.length := by simp at hlt2; omega
      subst hie
      rw [List.getElem?_append_right (Nat.le_refl _), Nat.sub_self] at hi
      have hd : c = d := by simpa using hi
      subst hd
      exact ⟨a, cc, by rw [List.getElem?_append_right (by rw [h.len]; exact Nat.le_refl _), h.len, Nat.sub_self]; rfl, h4, h5⟩⟩
theorem patL_snoc {n x j : Nat} (hj : j < n) : (patL n x).take (j + 1) = (patL n x).take j ++ [x.testBit j] := by
  rw [List.take_add_one]
  congr 1
  unfold patL
  rw [List.getElem?_map, List.getElem?_range hj]
  rfl
theorem pow64 {n D : Nat} (hD : 2 ^ n = D) (hn : n ≤ 20) : wrap64 ((2 : Int) ^ n) = ((D : Nat) : Int) := by
  have e : (2 : Int) ^ n = ((2 ^ n : Nat) : Int) := by simp
  have h2 : 2 ^ n ≤ 2 ^ 20 := Nat.pow_le_pow_right (by omega) hn
  rw [e, hD]
  rw [hD] at h2
  exact IntWalk.wrap64_in _ ⟨by omega, by omega⟩
set_option maxRecDepth 100000 in
set_option maxHeartbeats 4000000 in
theorem assign27_is (w : World) (n : Nat) (hn : n ≤ 6) :
    Calls Try.prog 37 #[.int .i64 n] w fun e w' => ∃ v es, e = .returned v ∧ row w' 56 1 v (2 ^ n) es ∧ BsIn w' v.ownBlock.toList es ((List.range (2 ^ n)).map (patL n)) ∧ (∀ q ∈ v.ownBlock.toList, w.heap.size ≤ q) ∧ Ch [] w w' := by
  obtain ⟨D, hD⟩ : ∃ D, 2 ^ n = D := ⟨_, rfl⟩
  have hwD0 := pow64 hD (by omega)
  have hwD : ∀ [Nonempty Unit], wrap64 ((2 : Int) ^ n) = ((D : Nat) : Int) := hwD0
  have hD64 : D ≤ 64 := by rw [← hD]; exact Nat.pow_le_pow_right (by omega) hn
  have hmin := min_nat n 6 n (by omega)
  rw [hD]
  clear hwD0 hD
  have HWD := Lib.hid hwD; clear hwD
  have HMIN := Lib.hid hmin
  have d0 : decide ((0 : Int) ≤ (n : Int)) = true := decide_eq_true (by omega)
  have d1 : decide ((n : Int) < 64) = true := decide_eq_true (by omega)
  rw [show ((6 : Nat) : Int) = 6 from rfl] at hmin
  go_enter Try.func37, Try.ntmps37
  have hwD : ∀ [Nonempty Unit], wrap64 ((2 : Int) ^ n) = ((D : Nat) : Int) := HWD.out
  go_wp2_with fail
  rw [HWD.out]
  clear hwD
  go_loopw [3, 10] (fun o i wr => ∃ (k : Nat) (es : List Value), k ≤ D ∧ i = .int .i64 k ∧ Ch [] w wr ∧ row wr 56 1 o k es ∧ BsIn wr o.ownBlock.toList es ((List.range k).map (patL n)) ∧ ∀ q ∈ o.ownBlock.toList, w.heap.size ≤ q) (fun _ i _ => D - (intOf i).toNat)
  case atStart => exact ⟨0, [], by omega, rfl, Ch.refl _ _, ⟨rfl, .inl ⟨rfl, rfl⟩⟩, ⟨rfl, by simp⟩, by simp⟩
  case round =>
    obtain ⟨k, es, hk, rfl, hc, hrow, hbs, hlo⟩ := hrel
    obtain ⟨oa, oc, rfl⟩ := row.shape hrow
    by_cases hlt : k < D
    · have hbz := fun d => bit_i64 k d (by omega)
      have HBZ := Lib.hid hbz; clear hbz
      obtain ⟨wo, hwo⟩ : ∃ wo, wo = wr := ⟨_, rfl⟩
      subst hwo
      have HC := Lib.hid hc; clear hc
      have HROW := Lib.hid hrow; clear hrow
      have HBS := Lib.hid hbs; clear hbs
      have HLO := Lib.hid hlo; clear hlo
      have hpl : (patL n k).length = n := patL_len n k
      have hps := fun j (hj : j < n) => patL_snoc (n := n) (x := k) hj
      obtain ⟨P, hP⟩ : ∃ P, patL n k = P := ⟨_, rfl⟩
      rw [hP] at hpl hps
      have HP := Lib.hid hP; clear hP
      have HPL := Lib.hid hpl; clear hpl
      have HPS := Lib.hid hps; clear hps
      have dk : decide ((k : Int) < (D : Int)) = true := decide_eq_true (by omega)
      go_wp2_with fail
      go_loopw [5, 14] (fun u i wr => ∃ j : Nat, j ≤ n ∧ i = .int .i64 j ∧ Ch [] wo wr ∧ row wr 4 1 u j (bools (P.take j)) ∧ ∀ q ∈ u.ownBlock.toList, wo.heap.size ≤ q) (fun _ i _ => n - (intOf i).toNat)
      case atStart => exact ⟨0, by omega, rfl, Ch.refl _ _, ⟨rfl, .inl ⟨rfl, rfl⟩⟩, by simp⟩
      case round =>
        obtain ⟨j, hj, rfl, hc, hrow, hlo⟩ := hrel
        obtain ⟨ua, uc, rfl⟩ := row.shape hrow
        by_cases hltj : j < n
        · have hbit := HBZ.out j
          rw [← Nat.testBit_eq_decide_div_mod_eq] at hbit
          have hps := HPS.out j hltj
          have h1 : decide ((0 : Int) ≤ j) = true := decide_eq_true (by omega)
          have h2 : decide ((j : Int) < 64) = true := decide_eq_true (by omega)
          generalize k.testBit j = tb at hps hbit
          have hcA : Ch [] wr (wr.alloc (.cells #[.bool tb] 4)) := (Ch.refl _ _).alloc _
          have hrA := hrow.ch hcA (by simp)
          have hbA : blk (wr.alloc (.cells #[.bool tb] 4)) wr.heap.size [.bool tb] := blk.new' _ _ rfl
          have HSU := Lib.hid hps; clear hps
          have HRA := Lib.hid hrA; clear hrA hrow
          have HBA := Lib.hid hbA; clear hbA
          have HCA := Lib.hid hcA; clear hcA
          have HCP := Lib.hid hc; clear hc
          have HLO2 := Lib.hid hlo; clear hlo
          go_wp2_with (at_builtin; go_loud (refine wpList_append_row slBools rfl _ _ rfl (v := .slice ua j uc) (n := j) (xs := bools (P.take j)) rfl HRA.out (ad := ⟨wr.heap.size, 0, none⟩) (m := 1) (c := 1) (news := [.bool tb]) rfl rfl (news_blk HBA.out) (by simp [Value.oneCell']) (by omega) (by omega) ?_; intro v' w5 hown4 hC4 hf4; have HO4 := Lib.hid hown4; clear hown4; have HCC4 := Lib.hid hC4; clear hC4; have HF4 := Lib.hid hf4; clear hf4))
          go_roundw
          case rel =>
            obtain ⟨q1, q2⟩ := app_step HCP.out HCA.out HLO2.out HCC4.out HF4.out
            refine ⟨j + 1, by omega, by go_num, q1, ?_, q2⟩
            rw [HSU.out, show bools (P.take j ++ [tb]) = bools (P.take j) ++ [.bool tb] by simp [bools]]
            exact HO4.out
          case measure => simp [intOf]; omega
        · have hjn : j = n := by omega
          subst hjn
          rw [List.take_of_length_le (by rw [HPL.out]; exact Nat.le_refl _)] at hrow
          have hcA : Ch [] wr (wr.alloc (.cells #[.slice ua j uc] 56)) := (Ch.refl _ _).alloc _
          have hcOA := hc.trans hcA (by simp)
          have hrA := HROW.out.ch hcOA (by simp)
          have hbA : blk (wr.alloc (.cells #[.slice ua j uc] 56)) wr.heap.size [.slice ua j uc] := blk.new' _ _ rfl
          have hsb := row.sv hrow rfl (by omega)
          have hsbA := hsb.ch hcA (by simp)
          have hlt2 : ∀ p, ua = some p → p.block < wr.heap.size ∧ wo.heap.size ≤ p.block := fun p hp => by
            subst hp
            rcases hrow.2 with ⟨e1, _⟩ | ⟨g, cap, cur, e1, _⟩
            · cases e1
            · cases e1
              exact ⟨(hrow.lt g rfl).2, hlo g (by simp)⟩
          have hol : ∀ q, (Value.slice oa k oc).ownBlock = some q → q < wo.heap.size := fun q hq => (HROW.out.lt q hq).2
          have hlo2 := HLO.out
          have HSBA := Lib.hid hsbA; clear hsbA hsb
          have HLT2 := Lib.hid hlt2; clear hlt2
          have HOL := Lib.hid hol; clear hol
          have HBSA := Lib.hid (HBS.out.ch hcOA (by simp) (fun q hq => .inl hq)); clear HBS
          have HRA := Lib.hid hrA; clear hrA hrow HROW
          have HBA := Lib.hid hbA; clear hbA
          have HCA := Lib.hid hcOA; clear hcOA hcA
          have HCP := Lib.hid HC.out; clear HC hc hlo hlo2
          go_wp2_with (at_builtin; go_loud (refine wpList_append_row slBoolss rfl _ _ rfl (v := .slice oa k oc) (n := k) (xs := es) rfl HRA.out (ad := ⟨wr.heap.size, 0, none⟩) (m := 1) (c := 1) (news := [.slice ua j uc]) rfl rfl (news_blk HBA.out) (by simp [Value.oneCell']) (by omega) (by omega) ?_; intro v' w5 hown4 hC4 hf4; have HO4 := Lib.hid hown4; clear hown4; have HCC4 := Lib.hid hC4; clear hC4; have HF4 := Lib.hid hf4; clear hf4))
          go_roundw
          case rel =>
            obtain ⟨q1, q2⟩ := app_step HCP.out HCA.out HLO.out HCC4.out HF4.out
            refine ⟨k + 1, es ++ [Value.slice ua j uc], by omega, by go_num, q1, HO4.out, ?_, q2⟩
            rw [List.range_succ, List.map_append, show List.map (patL j) [k] = [P] by rw [← HP.out]; rfl]
            have h5 := HBSA.out.ch (O' := v'.ownBlock.toList) HCC4.out (fun q hq => .inl hq) (fun q hq => by
              rcases HF4.out q (by simpa using hq) with e | e
              · exact .inl (by rw [e]; simp)
              · exact .inr e)
            have h6 := h5.snoc (a := ua) (c := P) (cc := uc) (HSBA.out.ch HCC4.out (fun p hp hin => by
              have h7 := HLT2.out p hp
              have h8 := HOL.out p.block (by simpa using hin)
              omega)) (fun p hp => ⟨by have h7 := HLT2.out p hp; have := HCC4.out.size; simp at this; omega, fun hin => by
              have h7 := HLT2.out p hp
              rcases HF4.out p.block (by simpa using hin) with e | e
              · have h8 := HOL.out p.block e
                omega
              · simp at e; omega⟩)
            rw [HPL.out] at h6
            exact h6
          case measure => simp [intOf]; omega
    · have hkD : k = D := by omega
      subst hkD
      have HROW := Lib.hid hrow; clear hrow
      have HBS := Lib.hid hbs; clear hbs
      have HLO := Lib.hid hlo; clear hlo
      have HC := Lib.hid hc; clear hc
      go_wp2_with fail
      go_ret
      exact ⟨_, _, rfl, HROW.out, HBS.out, HLO.out, HC.out⟩
end Go.Proofs.Ytkedpifopclipaa
namespace Go.Aig
/-- the models of clauses with a number up to one, in order -/
def modsTo (n : Nat) (cls : List (List Int)) (k : Nat) : List (List Bool) := ((List.range k).filter fun way => forV (patH n way) cls).map (patH n)
def modsOf (n : Nat) (cls : List (List Int)) : List (List Bool) := modsTo n cls (2 ^ n)
theorem modsTo_succ (n : Nat) (cls : List (List Int)) (k : Nat) : modsTo n cls (k + 1) = modsTo n cls k ++ if forV (patH n k) cls then [patH n k] else [] := by
  unfold modsTo
  rw [List.range_succ, List.filter_append, List.map_append]
  congr 1
  cases h : forV (patH n k) cls <;> simp [List.filter, h]
theorem modsTo_at {n : Nat} {cls : List (List Int)} {k : Nat} (hk : k < 2 ^ n) (h : forV (patH n k) cls = true) : (modsOf n cls)[(modsTo n cls k).length]? = some (patH n k) := by
  have hpre : ∀ d, ∃ t, modsTo n cls (k + 1 + d) = modsTo n cls (k + 1) ++ t := by
    intro d
    induction d with
    | zero => exact ⟨[], by simp⟩
    | succ d ih =>
      obtain ⟨t, e⟩ := ih
      exact ⟨t ++ _, by rw [← Nat.add_assoc, modsTo_succ, e, List.append_assoc]⟩
  obtain ⟨t, e⟩ := hpre (2 ^ n - (k + 1))
  rw [show k + 1 + (2 ^ n - (k + 1)) = 2 ^ n by omega, modsTo_succ, h, if_pos rfl] at e
  unfold modsOf
  rw [e, List.append_assoc, List.getElem?_append_right (Nat.le_refl _), Nat.sub_self]
  rfl
theorem patH_snoc {n way j : Nat} (hj : j < n) : (patH n way)[j]? = some (way.testBit (n - 1 - j)) := by
  unfold patH
  rw [List.getElem?_map, List.getElem?_range hj]
  rfl
end Go.Aig
namespace Go.Proofs.Ytkedpifopclipaa
open Go.RowKit Go.Mem Go.Aig
/-- a model that is yielded: which one, and its block -/
structure MC where
  k : Nat
  b : Nat
def mcEnc (n : Nat) (x : MC) : Array Value := #[.slice (some ⟨x.b, 0, none⟩) n n]
/-- what is known when a model is yielded, and what has to be known behind it; I k: k models were taken; the blocks O are the consumer's -/
def MK (B : Nat) (ml : List (List Bool)) (O : List Nat) (I : Nat → World → Prop) (x : MC) (W : World) : Prop := ∃ c, I x.k W ∧ ml[x.k]? = some c ∧ blk W x.b (bools c) ∧ x.b ∉ O ∧ x.b ≠ B ∧ x.b ≠ B + 1
def MJ (I : Nat → World → Prop) (x : MC) (W : World) : Prop := I (x.k + 1) W
/-- what a consumer's state has to stand, and to give -/
structure MI (bo n : Nat) (ca : Option Addr) (z cc : Nat) (es : List Value) (cls : List (List Int)) (O : List Nat) (I : Nat → World → Prop) : Prop where
  lt : ∀ k W, I k W → ∀ q ∈ O, q < W.heap.size
  ch : ∀ k A A', I k A → Ch [] A A' → I k A'
  f : ∀ k W, I k W → blk W bo [.int .i64 n, .slice ca z cc] ∧ Sv W ca es ∧ ClsIn W [] es cls
section
set_option maxRecDepth 100000 in
set_option maxHeartbeats 8000000 in
theorem models1_seq {bo n : Nat} {ca : Option Addr} {z cc : Nat} {es : List Value} {cls : List (List Int)} (hz : cls.length = z) (hok : forOk n cls) (hn16 : n ≤ 16) {O : List Nat} {I : Nat → World → Prop} (hI : MI bo n ca z cc es cls O I)
    (N : Nat) (hN : 1 ≤ N) (B : Nat) (lp : Nat) (X : World → Prop) (hX : ∀ A A' L, X A → Ch L A A' → (∀ q ∈ L, q ≠ B ∧ q ≠ B + 1) → X A') (hXB : ∀ A, X A → B + 2 ≤ A.heap.size)
    (hY : ∀ x W, MK B (modsOf n cls) O I x W → X W → YieldAt Fence.wide (N - 1) Try.prog lp (mcEnc n x) W fun e W' => e = .returned (.bool true) ∧ MJ I x W' ∧ X W')
    (W : World) (hI0 : I 0 W) (hXW : X W) :
    CallsIn Fence.wide N Try.prog 113 (#[.func (.yield lp) #[] #[]] ++ #[.pointer (some ⟨bo, 0, none⟩)]) W fun e W' => (∃ v, e = .returned v) ∧ I (modsOf n cls).length W' ∧ X W' := by
  show CallsIn Fence.wide N Try.prog 113 #[.func (.yield lp) #[] #[], .pointer (some ⟨bo, 0, none⟩)] W _
  obtain ⟨D, hD⟩ : ∃ D, 2 ^ n = D := ⟨_, rfl⟩
  have hwD := pow64 hD (by omega)
  have hD64 : D ≤ 65536 := by rw [← hD]; exact Nat.pow_le_pow_right (by omega) hn16
  have HWD := Lib.hid hwD; clear hwD
  have hmods : modsOf n cls = modsTo n cls D := by unfold modsOf; rw [hD]
  have hat := fun (k : Nat) (hk : k < D) => modsTo_at (n := n) (cls := cls) (k := k) (by rw [hD]; exact hk)
  rw [hmods] at hY ⊢
  simp only [hmods] at hat
  have y0 := (hI.f _ _ hI0).1.cell (i := 0) rfl
  have d0 : decide ((0 : Int) ≤ (n : Int)) = true := decide_eq_true (by omega)
  have d1 : decide ((n : Int) < 64) = true := decide_eq_true (by omega)
  have HAT := Lib.hid hat; clear hat hmods
  have HD := Lib.hid hD; clear hD
  have HI := Lib.hid hI; clear hI
  have HX := Lib.hid hX; clear hX
  have HY := Lib.hid hY; clear hY
  have HXB := Lib.hid hXB; clear hXB
  have HI0 := Lib.hid hI0; clear hI0
  have HXW := Lib.hid hXW; clear hXW
  have HOK := Lib.hid hok; clear hok
  have HZ := Lib.hid hz; clear hz
  refine callsIn_of_wp Try.func113 rfl trivial ?_ rfl
  simp only [Try.ntmps113, List.size_toArray, List.length_cons, List.length_nil, Nat.reduceAdd, Nat.reduceSub, Array.replicate_succ, Array.replicate_zero, List.push_toArray, List.append_toArray, List.nil_append, List.cons_append]
  have hwD : ∀ [Nonempty Unit], wrap64 ((2 : Int) ^ n) = ((D : Nat) : Int) := HWD.out
  gi_wp2
  rw [HWD.out]
  clear hwD y0
  gi_loopw [9] (fun i wr => ∃ k : Nat, k ≤ D ∧ i = .int .i64 k ∧ I (modsTo n cls k).length wr ∧ X wr) (fun i _ => D - (intOf i).toNat)
  case atStart => exact ⟨0, by omega, rfl, HI0.out, HXW.out⟩
  case round =>
    clear HI0 HXW
    obtain ⟨k, hk, rfl, hi, hx⟩ := hrel
    by_cases hlt : k < D
    · have hf := HI.out.f _ _ hi
      have y0 := hf.1.cell (i := 0) rfl
      have hmk := fun W => run_make_bools W n (by omega)
      have dk : decide ((k : Int) < (D : Int)) = true := decide_eq_true (by omega)
      have hbz := fun d => bit_i64 k d (by omega)
      have hph := fun j (hj : j < n) => patH_snoc (n := n) (way := k) hj
      have hpl := patH_len n k
      have hsu := modsTo_succ n cls k
      have hat := HAT.out k hlt
      obtain ⟨P, hP⟩ : ∃ P, patH n k = P := ⟨_, rfl⟩
      rw [hP] at hph hpl hsu hat
      clear hP
      have HBZ := Lib.hid hbz; clear hbz
      have HPH := Lib.hid hph; clear hph
      have HPL := Lib.hid hpl; clear hpl
      have HSU := Lib.hid hsu; clear hsu
      have HATK := Lib.hid hat; clear hat
      have HIK := Lib.hid hi; clear hi
      have HXK := Lib.hid hx; clear hx
      have HF := Lib.hid hf; clear hf
      gi_wp2
      obtain ⟨wo, hwo⟩ : ∃ wo, wo = wr := ⟨_, rfl⟩
      rw [← hwo]
      refine wpIn_named fun W7 hW7 => ?_
      have hb0 := alw_blk (xs := bools (List.replicate n false)) hW7
      have hc0 := alw_ch hW7
      subst hwo
      clear hW7
      obtain ⟨mb, hmb⟩ : ∃ mb, mb = wo.heap.size := ⟨_, rfl⟩
      rw [← hmb] at hb0 ⊢
      have HMB := Lib.hid hmb; clear hmb
      have HB0 := Lib.hid hb0; clear hb0
      have HC0 := Lib.hid hc0; clear hc0
      gi_wp2
      clear y0
      gi_loopw [17] (fun i wr => ∃ j : Nat, j ≤ n ∧ i = .int .i64 j ∧ Ch [] wo wr ∧ blk wr mb (bools (P.take j ++ List.replicate (n - j) false))) (fun i _ => n - (intOf i).toNat)
      case atStart => exact ⟨0, by omega, rfl, HC0.out, HB0.out⟩
      case round =>
        clear HC0 HB0
        obtain ⟨j, hj, rfl, hc, hb⟩ := hrel
        by_cases hltj : j < n
        · obtain ⟨s, hs⟩ : ∃ s, n - 1 - j = s := ⟨_, rfl⟩
          have hph := HPH.out j hltj
          rw [hs] at hph
          have hbit := HBZ.out s
          rw [← Nat.testBit_eq_decide_div_mod_eq] at hbit
          generalize k.testBit s = tb at hph hbit
          have hse : (n : Int) - 1 - (j : Int) = (s : Int) := by omega
          have y0 := (HF.out.1.ch hc (by simp)).cell (i := 0) rfl
          have h1 : decide ((0 : Int) ≤ s) = true := decide_eq_true (by omega)
          have h2 : decide ((s : Int) < 64) = true := decide_eq_true (by omega)
          obtain ⟨old, c0⟩ : ∃ old, wr.cell? ⟨mb, j, none⟩ = some old := by
            obtain ⟨v, hv⟩ : ∃ v, (bools (P.take j ++ List.replicate (n - j) false))[j]? = some v := ⟨_, List.getElem?_eq_getElem (by simp [bools, HPL.out]; omega)⟩
            exact ⟨v, hb.cell hv⟩
          have f0 := hb.frozen (i := j)
          have hset := hb.set (i := j) (.bool tb)
          have e1 : (bools (P.take j ++ List.replicate (n - j) false)).set j (.bool tb) = bools (P.take (j + 1) ++ List.replicate (n - (j + 1)) false) := by
            have e2 : P.take (j + 1) = P.take j ++ [tb] := by rw [List.take_add_one, hph]; rfl
            rw [e2]
            unfold bools
            rw [List.map_append, List.set_append_right _ _ (by simp [HPL.out]; omega), List.length_map, List.length_take, HPL.out, Nat.min_eq_left (by omega), Nat.sub_self, show n - j = (n - (j + 1)) + 1 by omega, List.replicate_succ, List.map_cons, List.set_cons_zero]
            simp
          rw [e1] at hset
          have HSET := Lib.hid hset; clear hset e1
          have HC := Lib.hid hc; clear hc hb hph hs
          gi_wp2
          exact ⟨⟨j + 1, by omega, by go_num, HC.out.setCell (.inr (by rw [HMB.out]; exact Nat.le_refl _)) _, HSET.out⟩, by simp [intOf]; omega⟩
        · have hjn : j = n := by omega
          subst hjn
          rw [List.take_of_length_le (by rw [HPL.out]; exact Nat.le_refl _), Nat.sub_self, show P ++ List.replicate 0 false = P by simp] at hb
          have hf := HF.out
          have y0 := (hf.1.ch hc (by simp)).cell (i := 0) rfl
          have y1 := (hf.1.ch hc (by simp)).cell (i := 1) rfl
          have hfl := fofails_is (w := wr) z cc HZ.out (hf.2.1.ch hc (by simp)) (hf.2.2.ch hc (by simp) (O' := []) (by simp)) HOK.out (va := some ⟨mb, 0, none⟩) (mv := P) j HPL.out (Sv.of_blk hb (by simp [HPL.out]; omega))
          have HFL := Lib.hid hfl; clear hfl
          have HC := Lib.hid hc; clear hc
          have HB := Lib.hid hb; clear hb hf
          gi_wp2
          clear y0 y1
          refine ⟨trivial, callsIn_wide.2 (HFL.out.mono ?_)⟩
          rintro e w9 ⟨i, hi1, hi2, hi3, rfl, hc9⟩
          have hcA := HC.out.trans hc9 (by simp)
          have hik := HI.out.ch _ _ _ HIK.out hcA
          have hxk := HX.out _ _ _ HXK.out hcA (by simp)
          have hb9 := HB.out.ch hc9 (by simp)
          have hsu := HSU.out
          have hat := HATK.out
          clear HC HB HFL hc9
          cases hfv : forV P cls
          · rw [hfv] at hi3 hsu
            have d9 : decide (i < 0) = false := decide_eq_false (by have := of_decide_eq_true (p := 0 ≤ i) (by rw [hi3]; rfl); omega)
            rw [if_neg (by simp), List.append_nil] at hsu
            rw [← hsu] at hik
            have HIK2 := Lib.hid hik; clear hik
            have HXK2 := Lib.hid hxk; clear hxk
            clear hat hsu hi1 hi2 hi3 hb9 hcA hfv
            gi_wp2
            refine ⟨fun f hf => (nomatch hf), ?_⟩
            gi_wp2
            go_roundw
            case rel => exact ⟨k + 1, by omega, by go_num, HIK2.out, HXK2.out⟩
            case measure => simp [intOf]; omega
          · rw [hfv] at hi3 hsu
            have d9 : decide (i < 0) = true := decide_eq_true (by have := of_decide_eq_false (p := 0 ≤ i) (by rw [hi3]; rfl); omega)
            rw [if_pos rfl] at hsu
            have hsl : (modsTo j cls (k + 1)).length = (modsTo j cls k).length + 1 := by rw [hsu]; simp
            have hxb := HXB.out _ HXK.out
            have hmb := HMB.out
            have hY1 := HY.out ⟨(modsTo j cls k).length, mb⟩ w9 ⟨P, hik, hat hfv, hb9, (show mb ∉ O from fun hin => by have := HI.out.lt _ _ HIK.out _ hin; omega), (show mb ≠ B by omega), (show mb ≠ B + 1 by omega)⟩ hxk
            obtain ⟨fn, tmps, assign, body, hy1, hR⟩ := hY1
            simp only [mcEnc] at hy1
            have HSL := Lib.hid hsl; clear hsl
            clear hat hsu hi1 hi2 hi3 hb9 hcA hfv hik hxk hxb hmb
            gi_wp2
            refine hR.mono ?_
            rintro e W2 ⟨rfl, hj, hx'⟩
            unfold MJ at hj
            rw [← HSL.out] at hj
            have HIK2 := Lib.hid hj; clear hj
            have HXK2 := Lib.hid hx'; clear hx' hR hy1
            gi_wp2
            go_roundw
            case rel => exact ⟨k + 1, by omega, by go_num, HIK2.out, HXK2.out⟩
            case measure => simp [intOf]; omega
    · have hkD : k = D := by omega
      subst hkD
      have HIK := Lib.hid hi; clear hi
      have HXK := Lib.hid hx; clear hx
      gi_wp2
      go_end0
      exact ⟨⟨_, rfl⟩, HIK.out, HXK.out⟩
end
end Go.Proofs.Ytkedpifopclipaa
namespace Go.Proofs.Ytkedpifopclipaa
open Go.RowKit Go.Mem Go.Aig
theorem fnvfoModels1 : Fnv 113 := fnv_of Try.func113 (by simp [Try.f113]) (by simp [Try.f113])
set_option maxRecDepth 100000 in
set_option maxHeartbeats 4000000 in
theorem foModels_is {w : World} {vars : Nat} {ca : Option Addr} {es : List Value} {cls : List (List Int)} (n cc : Nat) (hn : cls.length = n) (hv : Sv w ca es) (hI : ClsIn w [] es cls) (hok : forOk vars cls) (h16 : vars ≤ 16) :
    Calls Try.prog 45 #[.agg #[.int .i64 vars, .slice ca n cc]] w fun e w' => ∃ bo cb cc2 es2, e = .returned (.tuple #[.func (.func 113) #[] #[.pointer (some ⟨bo, 0, none⟩)], .int .i64 0]) ∧ w.heap.size ≤ bo ∧ blk w' bo [.int .i64 vars, .slice cb n cc2] ∧ Sv w' cb es2 ∧ ClsIn w' [] es2 cls ∧ (∀ p, cb = some p → p.block < w'.heap.size) ∧ Ch [] w w' := by
  have hCk := fun W (h : Ch [] w W) => foCheck_ok (w := W) n cc hn (hv.ch h (by simp)) (hI.ch h (by simp) (by simp)) hok
  have hn6 : n ≤ 300000 := by have := hok.2.1; omega
  have hCp := fun W (h : Ch [] w W) => foCopy_is (w := W) (vars := vars) n cc hn hn6 (hv.ch h (by simp)) (hI.ch h (by simp) (by simp)) (fun c hc => (hok.2.2 c hc).2.2.1)
  clear hv hI hok
  have HN := Lib.hid hn; clear hn
  have HCK := Lib.hid hCk; clear hCk
  have HCP := Lib.hid hCp; clear hCp
  have d0 : decide (16 < vars) = false := decide_eq_false (by omega)
  go_enter Try.func45, Try.ntmps45
  go_wp2_with fail
  refine calls_named fun W1 hW1 => ?_
  have hb := alw_blk (xs := [.int .i64 vars, .slice ca n cc]) hW1
  have hc1 := alw_ch hW1
  clear hW1
  obtain ⟨bx, hbx⟩ : ∃ bx, bx = w.heap.size := ⟨_, rfl⟩
  rw [← hbx] at hb ⊢
  clear hbx
  have HB := Lib.hid hb; clear hb
  refine (HCK.out W1 hc1).mono ?_
  rintro e w2 ⟨rfl, hc2⟩
  have HB2 := Lib.hid (HB.out.ch hc2 (by simp))
  have HC2 := Lib.hid (hc1.trans hc2 (by simp)); clear hc2 hc1 HB
  have c0 := HB2.out.cell (i := 0) rfl
  have c1 := HB2.out.cell (i := 1) rfl
  go_wp2_with fail
  refine (HCP.out w2 HC2.out).mono ?_
  rintro e w3 ⟨cv, rfl, hfor, hc3⟩
  obtain ⟨es2, h1, h2⟩ := hfor.ex
  rw [HN.out] at h1
  obtain ⟨cb, cc2, rfl⟩ := row.shape h1
  have hal := row.alt h1
  have HAL := Lib.hid hal; clear hal
  have HSV := Lib.hid (row.sv h1 rfl (by omega)); clear h1
  have HCI := Lib.hid h2; clear h2 hfor
  have HC3 := Lib.hid (HC2.out.trans hc3 (by simp)); clear hc3 HC2 c0 c1
  have hsz := HC3.out.size
  have HSZ := Lib.hid hsz; clear hsz
  go_upto_region 7 with fail
  refine wp_alw ?_
  intro W4 hW4
  have hb := alw_blk (xs := [.int .i64 vars, .slice cb n cc2]) hW4
  have hc4 := alw_ch hW4
  clear hW4
  have hsz := HSZ.out
  have hal4 : ∀ p, cb = some p → p.block < W4.heap.size := fun p hp => by have := HAL.out p hp; have := hc4.size; omega
  have HAL4 := Lib.hid hal4; clear hal4 HAL
  generalize w3.heap.size = bo at *
  have HB := Lib.hid hb; clear hb
  have HSV4 := Lib.hid (HSV.out.ch hc4 (by simp))
  have HCI4 := Lib.hid (HCI.out.ch (O' := []) hc4 (by simp) (by simp))
  have HC4 := Lib.hid (HC3.out.trans hc4 (by simp)); clear hc4
  have HSZ := Lib.hid hsz; clear hsz
  go_wp2_with fail
  go_ret2
  exact ⟨bo, cb, cc2, es2, rfl, HSZ.out, HB.out, HSV4.out, HCI4.out, HAL4.out, HC4.out⟩
/-- what a loop over models knows of the formula, beside what it changes -/
structure CtF (B bn bo vars : Nat) (ca : Option Addr) (z cc : Nat) (es : List Value) (cls : List (List Int)) (W : World) : Prop where
  b : blk W bo [.int .i64 vars, .slice ca z cc]
  s : Sv W ca es
  c : ClsIn W [bn, B, B + 1] es cls
  ne : bo ∉ [bn, B, B + 1]
  al : ∀ p, ca = some p → p.block ∉ [bn, B, B + 1]
theorem CtF.ch {B bn bo vars : Nat} {ca : Option Addr} {z cc : Nat} {es : List Value} {cls : List (List Int)} {A A' : World} {F : List Nat} (h : CtF B bn bo vars ca z cc es cls A) (hc : Ch F A A') (hF : ∀ q ∈ F, q ∈ [bn, B, B + 1]) : CtF B bn bo vars ca z cc es cls A' :=
  ⟨h.b.ch hc (fun hin => h.ne (hF _ hin)), h.s.ch hc (fun p hp hin => h.al p hp (hF _ hin)), h.c.ch hc (fun q hq => .inl (hF q hq)) (fun q hq => .inl hq), h.ne, h.al⟩
theorem CtF.new {B bn bo vars : Nat} {ca : Option Addr} {z cc : Nat} {es : List Value} {cls : List (List Int)} {w A : World} (hb : blk w bo [.int .i64 vars, .slice ca z cc]) (hs : Sv w ca es) (hcl : ClsIn w [] es cls) (hal : ∀ p, ca = some p → p.block < w.heap.size) (hc : Ch [] w A) (hbn : w.heap.size ≤ bn) (hB : w.heap.size ≤ B) : CtF B bn bo vars ca z cc es cls A :=
  ⟨hb.ch hc (by simp), hs.ch hc (by simp), hcl.ch hc (by simp) (fun q hq => .inr (by simp at hq; omega)), by have := hb.lt; simp; omega, fun p hp => by have := hal p hp; simp; omega⟩
/-- what Count knows when k models were taken -/
structure CtI (B bn bo vars : Nat) (ca : Option Addr) (z cc : Nat) (es : List Value) (cls : List (List Int)) (W0 : World) (k : Nat) (W : World) : Prop where
  n : blk W bn [.int .i64 k]
  f : CtF B bn bo vars ca z cc es cls W
  c : Ch [bn, B, B + 1] W0 W
theorem CtI.mi {B bn bo vars : Nat} {ca : Option Addr} {z cc : Nat} {es : List Value} {cls : List (List Int)} {W0 : World} : MI bo vars ca z cc es cls [bn] (CtI B bn bo vars ca z cc es cls W0) :=
  ⟨fun k W h q hq => by simp at hq; subst hq; exact h.n.lt,
    fun k A A' h hc => ⟨h.n.ch hc (by simp), h.f.ch hc (by simp), h.c.trans hc (by simp)⟩,
    fun k W h => ⟨h.f.b, h.f.s, h.f.c.ch (Ch.refl [] _) (by simp) (by simp)⟩⟩
theorem CtI.books {B bn bo vars : Nat} {ca : Option Addr} {z cc : Nat} {es : List Value} {cls : List (List Int)} {W0 A A' : World} {k : Nat} (hb : bn < B) (h : CtI B bn bo vars ca z cc es cls W0 k A) (hc : Ch [B, B + 1] A A') : CtI B bn bo vars ca z cc es cls W0 k A' :=
  ⟨h.n.ch hc (by simp; omega), h.f.ch hc (fun q hq => List.mem_cons_of_mem _ hq), h.c.trans hc (fun q hq => .inl (List.mem_cons_of_mem _ hq))⟩
section
attribute [local go_sem] Oper.semAt_some
set_option maxRecDepth 100000 in
set_option maxHeartbeats 4000000 in
theorem foCount_is {w : World} {vars : Nat} {ca : Option Addr} {es : List Value} {cls : List (List Int)} (n cc : Nat) (hn : cls.length = n) (hv : Sv w ca es) (hI : ClsIn w [] es cls) (hok : forOk vars cls) (h16 : vars ≤ 16) :
    Calls Try.prog 42 #[.agg #[.int .i64 vars, .slice ca n cc]] w fun e w' => e = .returned (.tuple #[.int .i64 (modsOf vars cls).length, .int .i64 0]) ∧ Ch [] w w' := by
  have hMo := fun W (h : Ch [] w W) => foModels_is (w := W) n cc hn (hv.ch h (by simp)) (hI.ch h (by simp) (by simp)) hok h16
  have hml : (modsOf vars cls).length ≤ 65536 := by
    unfold modsOf modsTo
    rw [List.length_map]
    refine Nat.le_trans (List.length_filter_le _ _) ?_
    rw [List.length_range]
    exact Nat.pow_le_pow_right (n := 2) (by omega) h16
  clear hv hI
  have HN := Lib.hid hn; clear hn
  have HOK := Lib.hid hok; clear hok
  have HMO := Lib.hid hMo; clear hMo
  refine callsIn_wide (n := 4) |>.1 ?_
  refine callsIn_of_wp_marks Try.func42 rfl trivial ?_ rfl
  simp only [Try.ntmps42, List.size_toArray, List.length_cons, List.length_nil, Nat.reduceAdd, Nat.reduceSub, Array.replicate_succ, Array.replicate_zero, List.push_toArray, List.append_toArray, List.nil_append, List.cons_append]
  refine wpIn_wide.2 ?_
  go_wp2_with fail
  refine calls_named fun W1 hW1 => ?_
  have hc1 := alw_ch hW1
  clear hW1
  refine (HMO.out W1 hc1).mono ?_
  rintro e w2 ⟨bo, cb, cc2, es2, rfl, hbo, hb, hsv, hci, hal, hc2⟩
  have hcw := hc1.trans hc2 (by simp)
  have HB := Lib.hid hb; clear hb
  have HSV := Lib.hid hsv; clear hsv
  have HCI := Lib.hid hci; clear hci
  have HAL := Lib.hid hal; clear hal
  have HC := Lib.hid hcw; clear hcw hc1 hc2 HMO
  clear hbo
  go_upto_region 5 with fail
  refine wp_alw ?_
  intro W3 hW3
  have hbn := alw_blk (xs := [.int .i64 0]) hW3
  have hc3 := alw_ch hW3
  clear hW3
  have hwl := HC.out.size
  have hz3 := hc3.size
  obtain ⟨B, hB⟩ : ∃ B, W3.heap.size = B := ⟨_, rfl⟩
  have hf := CtF.new (B := B) (bn := w2.heap.size) HB.out HSV.out HCI.out HAL.out hc3 (Nat.le_refl _) (by omega)
  generalize w2.heap.size = bn at *
  have hbB : bn < B := by rw [← hB]; exact hbn.lt
  have hi0 : CtI B bn bo vars cb n cc2 es2 cls W3 0 W3 := ⟨hbn, hf, Ch.refl _ _⟩
  have hseq := fun (N : Nat) (hN : 1 ≤ N) => models1_seq HN.out HOK.out h16 (CtI.mi (B := B) (bn := bn) (bo := bo) (vars := vars) (ca := cb) (z := n) (cc := cc2) (es := es2) (cls := cls) (W0 := W3)) N hN B
  have HC4 := Lib.hid (HC.out.trans hc3 (by simp))
  have HSEQ := Lib.hid hseq; clear hseq
  have HI0 := Lib.hid hi0; clear hi0
  clear hf hbn HB HSV HCI HAL hc3 hz3 HC
  go_wp2_with fail
  refine (wpIn_wide (n := 4)).1 ?_
  refine wpIn_rangeFunc_Q (n := 4) B hB rfl (by omega) rfl trivial (fun args w => fnvfoModels1 args w) (encs := mcEnc vars) (fun _ => rfl)
    (CtI B bn bo vars cb n cc2 es2 cls W3 0) (MK B (modsOf vars cls) [bn] (CtI B bn bo vars cb n cc2 es2 cls W3)) (MJ (CtI B bn bo vars cb n cc2 es2 cls W3)) (CtI B bn bo vars cb n cc2 es2 cls W3 (modsOf vars cls).length) ?seq ?j0 ?k ?j ?d HI0.out ?a1 ?assign ?body ?done
  case assign =>
    intro q x W K hK
    simp only [mcEnc]
    gi_wp2
    exact hK
  case j0 => exact fun A A' h hc => h.books hbB hc
  case k =>
    rintro x A A' ⟨c, h1, h2, h3, h4, h5⟩ hc
    exact ⟨c, h1.books hbB hc, h2, h3.ch hc (by simp; omega), h4, h5⟩
  case j => exact fun x A A' h hc => CtI.books hbB h hc
  case d => exact fun A A' h hc => h.books hbB hc
  case seq =>
    rintro lp X hX hXB hY W hi hXW
    refine (HSEQ.out 3 (by omega) lp X hX hXB (fun x W hk hx => (hY x W hk hx).mono ?_) W hi hXW).mono ?_
    · rintro e W' ⟨h1, h2, h3⟩
      exact ⟨h1, h2, h3⟩
    · rintro e W' h
      exact h
  case body =>
    rintro lp x W ⟨c, hi, h2, h3, h4, h5⟩ hWl
    have hkl := (List.getElem?_eq_some_iff.1 h2).1
    have c0 := hi.n.cell (i := 0) rfl
    have f0 := hi.n.frozen (i := 0)
    have HI := Lib.hid hi; clear hi h2 h3 h4 h5
    have hlo : (x.k : Int) ≤ 1000000 := by omega
    gi_wp2
    have hwr : ((x.k : Nat) : Int) + 1 = ((x.k + 1 : Nat) : Int) := by omega
    have hcs : Ch [bn] W (W.setCell ⟨bn, 0, none⟩ (.int .i64 ((x.k : Int) + 1))) := (Ch.refl _ _).setCell (.inl (by simp)) _
    have hbs := HI.out.n.set (i := 0) (.int .i64 ((x.k : Int) + 1))
    refine ⟨Books.of_ch hcs hWl (by simp; omega), ⟨by rw [hwr] at hbs ⊢; simpa using hbs, HI.out.f.ch hcs (by simp), HI.out.c.trans hcs (fun q hq => .inl (by simp at hq; simp [hq]))⟩⟩
  case done =>
    rintro W hi hK _
    have c0 := hi.n.cell (i := 0) rfl
    have HI := Lib.hid hi; clear hi
    have HK := Lib.hid hK; clear hK
    go_wp2_with fail
    refine ⟨by simp, .inl ⟨_, _, rfl, run_takeDeferred HK.out, ?_⟩⟩
    refine ⟨_, results_tmp2 rfl _ _ _, rfl, ?_⟩
    refine HC4.out.trans (HI.out.c.trans (ch_put (l := B) (L := [B]) (by simp)) (fun q hq => .inl (by simp at hq; simp [hq]))) (fun q hq => .inr (by have := HC4.out.size; simp only [List.mem_cons, List.not_mem_nil, or_false] at hq; omega))
end
end Go.Proofs.Ytkedpifopclipaa
namespace Go.Aig
open Go.Proofs.Ytkedpifopclipaa
theorem coneFrom_least {ns : List Nd} (hw : WF ns) (S : Nat → Prop) (hS : ∀ d x, S d → ns[d]? = some x → x.k = 3 → S (x.l / 2) ∧ S (x.r / 2)) : ∀ (n : Nat) (met : List Bool), met.length = ns.length → (∀ m, met.getD m false = true → S m) → ∀ d ∈ coneFrom ns n met, S d
  | 0, _, _, _, d, hd => by cases hd
  | n + 1, met, hl, hm, d, hd => by
    unfold coneFrom at hd
    split at hd
    · rename_i h1
      rcases List.mem_cons.1 hd with e | hd
      · rw [e]; exact hm n h1
      · refine coneFrom_least hw S hS n _ (by rw [stepMet_len, hl]) (fun m h2 => ?_) d hd
        rcases (stepMet_getD hw hl m).1 h2 with h3 | ⟨x, hx, h3, e⟩
        · exact hm m h3
        · have h4 := hS n x (hm n h1) hx h3
          rcases e with e | e
          · rw [e]; exact h4.1
          · rw [e]; exact h4.2
    · exact coneFrom_least hw S hS n _ hl hm d hd
/-- references of nodes that are there, or of the constant, make no more variables -/
theorem mapN_more {ns : List Nd} (hw : WF ns) {l t : List Nat} (hl : ∀ r ∈ l, r < 2 * ns.length) (ht : ∀ r ∈ t, r < 2 * ns.length ∧ (r / 2 = 0 ∨ ∃ q ∈ l, r / 2 = q / 2)) : mapN ns (l ++ t) = mapN ns l := by
  have h1 : ∀ d ∈ cone ns (l ++ t), d = 0 ∨ d ∈ cone ns l := by
    intro d hd
    unfold cone coneDown at hd
    rw [List.mem_reverse] at hd
    refine coneFrom_least hw (fun d => d = 0 ∨ d ∈ cone ns l) ?_ ns.length _ (met0_len _ _) ?_ d hd
    · rintro d x (rfl | h) hx h3
      · rw [hw.const] at hx; cases hx; simp at h3
      · have := cone_closed hw h hx h3
        exact ⟨.inr this.1, .inr this.2⟩
    · intro m hm
      unfold met0 at hm
      rcases mem_marked _ _ m hm with h | ⟨r, hr, rfl⟩
      · rw [List.getD_eq_getElem?_getD, List.getElem?_replicate] at h
        split at h <;> simp at h
      · rcases List.mem_append.1 hr with hr | hr
        · exact .inr (cone_has hw hr (hl r hr))
        · rcases (ht r hr).2 with e | ⟨q, hq, e⟩
          · exact .inl e
          · rw [e]; exact .inr (cone_has hw hq (hl q hq))
  have h2 : ∀ d ∈ cone ns l, d ∈ cone ns (l ++ t) := cone_sub hw fun r hr => ⟨hl r hr, r, List.mem_append_left _ hr, rfl⟩
  unfold mapN
  rw [cone_filter hw l, cone_filter hw (l ++ t), List.filter_filter, List.filter_filter]
  refine List.filter_congr fun d hd => ?_
  rw [List.mem_range] at hd
  have e1 := mem_cone hw l d
  have e2 := mem_cone hw (l ++ t) d
  by_cases h0 : d = 0
  · simp [h0]
  · congr 1
    rw [Bool.eq_iff_iff]
    constructor
    · intro h
      exact (e1.1 ((h1 d (e2.2 ⟨hd, h⟩)).resolve_left h0)).2
    · intro h
      exact (e2.1 (h2 d (e1.2 ⟨hd, h⟩))).2
theorem modsOf_congr {n : Nat} {c1 c2 : List (List Int)} (h : ∀ mv, forV mv c1 = forV mv c2) : modsOf n c1 = modsOf n c2 := by
  unfold modsOf modsTo
  simp only [h]
theorem modsOf_none {n : Nat} {c : List (List Int)} (h : ∀ mv, forV mv c = false) : modsOf n c = [] := by
  unfold modsOf modsTo
  simp only [h]
  simp
section
variable {ns : List Nd} {m : List Nat} {l : List Nat}
theorem clsOf_snoc (mv : List Bool) (l t : List Nat) : forV mv (clsOf ns (natInts m) (natInts (l ++ t))) = (forV mv (clsOf ns (natInts m) (natInts l)) && forV mv (rootsCls (natInts m) (natInts t))) := by
  have e : rootsCls (natInts m) (natInts (l ++ t)) = rootsCls (natInts m) (natInts l) ++ rootsCls (natInts m) (natInts t) := by simp [rootsCls, natInts]
  unfold clsOf
  rw [e, forV_app, forV_app, forV_app, Bool.and_assoc]
theorem rootsCls_one (mv : List Bool) (r : Nat) : forV mv (rootsCls (natInts m) (natInts [r])) = if r = 1 then true else if r = 0 then false else litV mv (litOf (natInts m) r) := by
  have e : rootsCls (natInts m) (natInts [r]) = rootCls (natInts m) r := by simp [rootsCls, natInts]
  rw [e]
  unfold rootCls
  by_cases h1 : r = 1
  · rw [if_pos (by omega), if_pos h1]; rfl
  · rw [if_neg (by omega), if_neg h1]
    by_cases h0 : r = 0
    · rw [if_pos (by omega), if_pos h0]; rfl
    · rw [if_neg (by omega), if_neg h0]; simp [forV, clsV]
/-- the same root once more, and True, say nothing new -/
theorem roots_twice (mv : List Bool) (r : Nat) : forV mv (clsOf ns (natInts m) (natInts (l ++ [r] ++ [r, 1]))) = forV mv (clsOf ns (natInts m) (natInts (l ++ [r]))) := by
  have e : rootsCls (natInts m) (natInts [r, 1]) = rootsCls (natInts m) (natInts [r]) ++ rootsCls (natInts m) (natInts [1]) := by simp [rootsCls, natInts]
  rw [clsOf_snoc mv (l ++ [r]) [r, 1], clsOf_snoc mv l [r], e, forV_app, rootsCls_one mv 1, if_pos rfl, Bool.and_true, Bool.and_assoc, Bool.and_self]
/-- a root and its negation leave no model -/
theorem roots_none (hm : m.Pairwise (fun a b => a < b)) (mv : List Bool) {r : Nat} (hr : 2 ≤ r → r / 2 ∈ m) : forV mv (clsOf ns (natInts m) (natInts (l ++ [r] ++ [neg r]))) = false := by
  rw [clsOf_snoc mv (l ++ [r]) [neg r], clsOf_snoc mv l [r], rootsCls_one, rootsCls_one]
  by_cases h0 : r = 0
  · subst h0
    simp
  · by_cases h1 : r = 1
    · subst h1
      simp [neg]
    · have hne := lit_ne hm (hr (by omega))
      have e : litOf (natInts m) (neg r) = -litOf (natInts m) r := by
        unfold litOf neg
        by_cases h2 : r % 2 = 0
        · rw [if_pos h2, if_pos (by omega), if_neg (by omega), show ((r + 1 : Nat) : Int) / 2 = (r : Int) / 2 by omega]
        · rw [if_neg h2, if_neg (by omega), if_pos (by omega), show ((r - 1 : Nat) : Int) / 2 = (r : Int) / 2 by omega]
          omega
      have hn : neg r ≠ 0 ∧ neg r ≠ 1 := by unfold neg; split <;> omega
      rw [if_neg h1, if_neg h0, if_neg hn.2, if_neg hn.1, e, litV_neg mv hne]
      cases litV mv (litOf (natInts m) r) <;> simp
/-- False leaves none -/
theorem roots_zero (mv : List Bool) (l : List Nat) : forV mv (clsOf ns (natInts m) (natInts (l ++ [0]))) = false := by
  rw [clsOf_snoc mv l [0], rootsCls_one]
  simp
end
end Go.Aig
namespace Go.Proofs.Ytkedpifopclipaa
open Go.RowKit Go.Mem Go.Aig
section
set_option maxRecDepth 100000 in
set_option maxHeartbeats 8000000 in
theorem TseitinRoots_walk {w : World} {a : Option Addr} {n cap : Nat} {l : List N21} (hS : NodeS w a n cap l) {xa : Option Addr} {xn xc : Nat} {ys : List Nat} (hU : NumS .u8 8 w xa xn xc ys) (y : Nat) (hy : y ≤ 255) :
    Calls Try.prog 8 #[.slice a n cap, .slice xa xn xc, .int .u8 y] w fun e w' => e = .returned (.bool true) ∧ Ch [] w w' := by
  have HS := Lib.hid hS; clear hS
  have HU := Lib.hid hU; clear hU
  go_enter Try.func8, Try.ntmps8
  go_wp2_with fail
  refine (awake27_is w).mono ?_
  rintro e w1 ⟨rfl, hc1⟩
  have HC1 := Lib.hid hc1; clear hc1
  go_wp2_with fail
  refine (made27_is (HS.out.ch HC1.out) (HU.out.ch HC1.out)).mono ?_
  rintro e w2 ⟨g, G, F, v, R, rfl, ho, hm, hN31, hi6, hR4, hRl, hrow, hv⟩
  obtain ⟨ra, rc, rfl⟩ := row.shape hrow
  have hlt := row.alt hrow
  have hok := ho.gin.ok
  have hpos := hok.wf.pos
  obtain ⟨N, hNl⟩ : ∃ N, G.nodes.length = N := ⟨_, rfl⟩
  obtain ⟨r, hr⟩ : ∃ r, y % (2 * N) = r := ⟨_, rfl⟩
  have hrN : r < 2 * N := by rw [← hr]; exact Nat.mod_lt _ (by omega)
  have hre : (y : Int) % (2 * (N : Int)) = (r : Int) := by rw [← hr, Int.natCast_emod, Int.natCast_mul]; rfl
  have hL0 : ∀ x ∈ R ++ [r], x < 2 * G.nodes.length := fun x hx => by
    rcases List.mem_append.1 hx with h | h
    · exact hRl x h
    · simp at h; omega
  have hme : ∀ t : List Nat, (∀ x ∈ t, x < 2 * G.nodes.length ∧ (x / 2 = 0 ∨ x / 2 = r / 2)) → mapN G.nodes (R ++ [r] ++ t) = mapN G.nodes (R ++ [r]) := fun t ht => mapN_more hok.wf hL0 fun x hx => ⟨(ht x hx).1, (ht x hx).2.imp id fun e => ⟨r, by simp, e⟩⟩
  have hmk := mapN_ok hok.wf (R ++ [r])
  have hrgt := mapN_right hok.wf (by omega) (R ++ [r])
  have hml : (mapN G.nodes (R ++ [r])).length ≤ 31 := by
    have h1 := mapN_len hok (R ++ [r])
    have h3 : (mapN G.nodes (R ++ [r])).length ≤ (List.range G.nodes.length).length := sub_len (by
      refine (Go.Aig.mapN_asc hok.wf (R ++ [r])).imp ?_
      intro a b h
      omega) (fun x hx => List.mem_range.2 (mapN_lt hok.wf hx).2)
    rw [List.length_range] at h3
    omega
  have hrin : ∀ x ∈ R ++ [r], 2 ≤ x → x / 2 ∈ mapN G.nodes (R ++ [r]) := fun x hx h2 => roots_in hok.wf x hx (hL0 x hx) h2
  have hrin2 : ∀ t : List Nat, (∀ x ∈ t, x / 2 = 0 ∨ x / 2 = r / 2) → ∀ x ∈ R ++ [r] ++ t, 2 ≤ x → x / 2 ∈ mapN G.nodes (R ++ [r]) := fun t ht x hx h2 => by
    rcases List.mem_append.1 hx with h | h
    · exact hrin x h h2
    · rcases ht x h with e | e
      · omega
      · rw [e]; exact hrin r (by simp) (by omega)
  obtain ⟨k, hkl⟩ : ∃ k, R.length = k := ⟨_, rfl⟩
  obtain ⟨q, hqi⟩ : ∃ q, (inputs G.nodes).length = q := ⟨_, rfl⟩
  have hen := fun (t : List Nat) (s : Nat) (ht : ∀ x ∈ t, x < 2 * G.nodes.length ∧ (x / 2 = 0 ∨ x / 2 = r / 2)) (hs : t.length = s) (hs9 : s ≤ 3) (W : World) (hc : Ch [] w2 W) (za : Option Addr) (zc : Nat) (hrw : row W 45 1 (.slice za (k + 1 + s) zc) (k + 1 + s) (intCells (natInts (R ++ [r] ++ t)))) => by
    have hl2 : ∀ x ∈ R ++ [r] ++ t, x < 2 * G.nodes.length := fun x hx => by
      rcases List.mem_append.1 hx with h | h
      · exact hL0 x h
      · exact (ht x h).1
    have h9 := tsEncode_yes (ho.gin.same hc (by simp)) (l := R ++ [r] ++ t) (k + 1 + s) zc (by simp [hkl, hs]; omega) (by omega) (Sl.of_ints hrw (by omega)) (row.alt hrw) hl2 1048576 (by omega) (by omega) (by rw [hme t ht]; omega)
    rw [hme t ht] at h9
    exact h9
  have hfok := fun (t : List Nat) (ht : ∀ x ∈ t, x / 2 = 0 ∨ x / 2 = r / 2) (hs : t.length ≤ 3) => forOk_cls hok.wf hmk (hrin2 t ht) (by omega) (by simp [hkl]; omega)
  have hcln := fun t : List Nat => clsOf_len G.nodes (natInts (mapN G.nodes (R ++ [r]))) (natInts (R ++ [r] ++ t))
  have t1 : ∀ x ∈ ([] : List Nat), x < 2 * G.nodes.length ∧ (x / 2 = 0 ∨ x / 2 = r / 2) := by simp
  have t2 : ∀ x ∈ [r, 1], x < 2 * G.nodes.length ∧ (x / 2 = 0 ∨ x / 2 = r / 2) := fun x hx => by simp at hx; omega
  have hng : neg r < 2 * N ∧ neg r / 2 = r / 2 := by unfold neg; split <;> omega
  have t3 : ∀ x ∈ [neg r], x < 2 * G.nodes.length ∧ (x / 2 = 0 ∨ x / 2 = r / 2) := fun x hx => by simp at hx; subst hx; omega
  have t4 : ∀ x ∈ [0], x < 2 * G.nodes.length ∧ (x / 2 = 0 ∨ x / 2 = r / 2) := fun x hx => by simp at hx; omega
  have hE1 := hen [] 0 t1 rfl (by omega)
  have hE2 := hen [r, 1] 2 t2 rfl (by omega)
  have hE3 := hen [neg r] 1 t3 rfl (by omega)
  have hE4 := hen [0] 1 t4 rfl (by omega)
  have ok1 := hfok [] (fun x hx => (t1 x hx).2) (by simp)
  have ok2 := hfok [r, 1] (fun x hx => (t2 x hx).2) (by simp)
  have ok3 := hfok [neg r] (fun x hx => (t3 x hx).2) (by simp)
  have ok4 := hfok [0] (fun x hx => (t4 x hx).2) (by simp)
  have l1 := hcln []
  have l2 := hcln [r, 1]
  have l3 := hcln [neg r]
  have l4 := hcln [0]
  rw [natInts_len, natInts_len] at l1 l2 l3 l4
  have m2 := fun n => modsOf_congr (n := n) (fun mv => roots_twice (ns := G.nodes) (m := mapN G.nodes (R ++ [r])) (l := R) mv r)
  have m3 := fun n => modsOf_none (n := n) (fun mv => roots_none (ns := G.nodes) (m := mapN G.nodes (R ++ [r])) (l := R) hmk.asc mv (r := r) (hrin r (by simp)))
  have m4 := fun n => modsOf_none (n := n) (fun mv => roots_zero (ns := G.nodes) (m := mapN G.nodes (R ++ [r])) mv (R ++ [r]))
  have hsl : Sl w2 ra (natInts R) := Sl.of_ints hrow (by omega)
  have hRb : ∀ z ∈ natInts R, 0 ≤ z ∧ z ≤ 62 := fun z hz => by
    obtain ⟨d, hd, rfl⟩ := List.mem_map.1 hz
    have := hRl d hd
    omega
  have hCl := fun (W : World) (hc : Ch [] w2 W) => Clref_w (w := W) (x := ⟨ra, natInts R, rc⟩) ⟨hsl.ch hc (by simp), fun r hr => by have := hRb r hr; omega, by simp only [natInts_len]; omega⟩ k (by simpa using hkl)
  have hC2 := fun (W : World) (za : Option Addr) (zc : Nat) (hrw : row W 45 1 (.slice za (k + 1) zc) (k + 1) (intCells (natInts (R ++ [r])))) => Clref_w (w := W) (x := ⟨za, natInts (R ++ [r]), zc⟩) ⟨Sl.of_ints hrw (by omega), fun z hz => by
    obtain ⟨d, hd, rfl⟩ := List.mem_map.1 hz
    have := hL0 d hd
    omega, by simp only [natInts_len]; simp [hkl]; omega⟩ (k + 1) (by simp [hkl])
  have hLn := fun (W : World) (hc : Ch [] w2 W) => Len_g (ho.gin.same hc (by simp))
  have hIp := fun (W : World) (hc : Ch [] w2 W) => Inputs_g (ho.gin.same hc (by simp))
  have hBi := fun (W : World) (hc : Ch [] w2 W) (xa : Option Addr) (xc : Nat) (ins : List Bool) (hk : ins.length = q) (hB : Sb W xa ins) => by
    have h9 := simBits_is (ho.gin.same hc (by simp)) q xc hk hB (by omega) (a := ra) (l := natInts R) R.length rc (by rw [natInts_len]) (hsl.ch hc (by simp)) (fun r hr => by have := hRb r hr; omega) (by omega)
    rw [bitsR_yes hRl (by rw [hk, hqi])] at h9
    exact h9
  have hMo := fun (m : Nat) (hm9 : (mapN G.nodes (R ++ [r])).length = m) (W : World) (b : Option Addr) (c : Nat) (hc : Ch [] w2 W) (hr : row W 3 1 (.slice b m c) m (intCells (natInts (mapN G.nodes (R ++ [r]))))) (xa : Option Addr) (xc : Nat) (ins : List Bool) (hk : ins.length = q) (hB : Sb W xa ins) => by
    have h9 := tsModel_is (ho.gin.same hc (by simp)) (m := natInts (mapN G.nodes (R ++ [r]))) m c (by rw [natInts_len]; exact hm9) (by omega) (Sl.of_ints hr (by omega)) q xc hk hB (by omega)
    rw [modelR_yes hrgt (by rw [hk, hqi])] at h9
    exact h9
  have hMiff := fun (env : Nat → Bool) => modV_iff hok.wf hmk env hrin
  have hbef : ∀ env : Nat → Bool, forV (modV env G.nodes (mapN G.nodes (R ++ [r]))) (clsOf G.nodes (natInts (mapN G.nodes (R ++ [r]))) (natInts (R ++ [r]))) = true → (R.map (bv env G.nodes)).any (fun b => b == false) = false := fun env h => by
    rw [hMiff env, List.all_eq_true] at h
    rw [List.any_eq_false]
    intro b hb
    obtain ⟨x, hx, rfl⟩ := List.mem_map.1 hb
    rw [h x (List.mem_append_left _ hx)]
    simp
  have HC := Lib.hid (Ch.refl [] w2)
  have HC12 := Lib.hid ho.ch
  simp only [List.append_nil, Nat.add_zero] at hE1 ok1 l1
  obtain ⟨ms, hms⟩ : ∃ ms, mapN G.nodes (R ++ [r]) = ms := ⟨_, rfl⟩
  simp only [hms] at hE1 hE2 hE3 hE4 ok1 ok2 ok3 ok4 l1 l2 l3 l4 m2 m3 m4 hml hMo hbef
  obtain ⟨m, hml2⟩ : ∃ m, ms.length = m := ⟨_, rfl⟩
  replace hMo := hMo m hml2
  have hmV : ∀ env : Nat → Bool, (modV env G.nodes ms).length = m := fun env => by simp [modV, hml2]
  simp only [hml2] at hE1 hE2 hE3 hE4 ok1 ok2 ok3 ok4 l1 l2 l3 l4 hml
  simp only [List.length_append, List.length_cons, List.length_nil, hkl] at l1 l2 l3 l4
  replace m2 := m2 m
  replace m3 := m3 m
  replace m4 := m4 m
  generalize hc1 : clsOf G.nodes (natInts ms) (natInts (R ++ [r])) = cls1 at *
  generalize hc2 : clsOf G.nodes (natInts ms) (natInts (R ++ [r] ++ [r, 1])) = cls2 at *
  generalize hc3 : clsOf G.nodes (natInts ms) (natInts (R ++ [r] ++ [neg r])) = cls3 at *
  generalize hc4 : clsOf G.nodes (natInts ms) (natInts (R ++ [r] ++ [0])) = cls4 at *
  obtain ⟨z1, hz1⟩ : ∃ z, cls1.length = z := ⟨_, rfl⟩
  obtain ⟨z2, hz2⟩ : ∃ z, cls2.length = z := ⟨_, rfl⟩
  obtain ⟨z3, hz3⟩ : ∃ z, cls3.length = z := ⟨_, rfl⟩
  obtain ⟨z4, hz4⟩ : ∃ z, cls4.length = z := ⟨_, rfl⟩
  rw [hz1] at l1
  rw [hz2] at l2
  rw [hz3] at l3
  rw [hz4] at l4
  have hct := fun (h11 : m ≤ 11) (W : World) (ca : Option Addr) (cc : Nat) (es : List Value) (hv : Sv W ca es) (hI : ClsIn W [] es cls1) => foCount_is (w := W) z1 cc hz1 hv hI ok1 (by omega)
  have hct2 := fun (h11 : m ≤ 11) (W : World) (ca : Option Addr) (cc : Nat) (es : List Value) (hv : Sv W ca es) (hI : ClsIn W [] es cls2) => foCount_is (w := W) z2 cc hz2 hv hI ok2 (by omega)
  have hct3 := fun (h11 : m ≤ 11) (W : World) (ca : Option Addr) (cc : Nat) (es : List Value) (hv : Sv W ca es) (hI : ClsIn W [] es cls3) => foCount_is (w := W) z3 cc hz3 hv hI ok3 (by omega)
  have hct4 := fun (h11 : m ≤ 11) (W : World) (ca : Option Addr) (cc : Nat) (es : List Value) (hv : Sv W ca es) (hI : ClsIn W [] es cls4) => foCount_is (w := W) z4 cc hz4 hv hI ok4 (by omega)
  rw [m2] at hct2
  rw [m3] at hct3
  rw [m4] at hct4
  simp only [List.length_nil] at hct3 hct4
  obtain ⟨M, hM⟩ : ∃ M, (modsOf m cls1).length = M := ⟨_, rfl⟩
  rw [hM] at hct hct2
  have hVa := fun (W : World) (ca : Option Addr) (cc : Nat) (es : List Value) (hv : Sv W ca es) (hI : ClsIn W [] es cls1) (va : Option Addr) (vc : Nat) (mv : List Bool) (hk : mv.length = m) (hB : Sb W va mv) => foValue_is (w := W) z1 cc hz1 hv hI ok1 vc hk hB
  rw [hqi] at hi6
  have hAs := fun (W : World) => assign27_is W q hi6
  have hNt := fun W => Not_any r W (by omega)
  rw [hkl] at hR4
  rw [hNl] at hN31 hLn hpos
  simp only [hqi] at hIp
  simp only [hkl] at hBi
  have HE1 := Lib.hid hE1; clear hE1
  have HE2 := Lib.hid hE2; clear hE2
  have HE3 := Lib.hid hE3; clear hE3
  have HE4 := Lib.hid hE4; clear hE4
  have HCT1 := Lib.hid hct; clear hct
  have HCT2 := Lib.hid hct2; clear hct2
  have HCT3 := Lib.hid hct3; clear hct3
  have HCT4 := Lib.hid hct4; clear hct4
  have HCL := Lib.hid hCl; clear hCl
  have HC2L := Lib.hid hC2; clear hC2
  have HLN := Lib.hid hLn; clear hLn
  have HIP := Lib.hid hIp; clear hIp
  have HBI := Lib.hid hBi; clear hBi
  have HMO := Lib.hid hMo; clear hMo
  have HBEF := Lib.hid hbef; clear hbef
  have HVA := Lib.hid hVa; clear hVa
  have HMV := Lib.hid hmV; clear hmV
  have HAS := Lib.hid hAs; clear hAs
  have HNT := Lib.hid hNt; clear hNt
  have HZ1 := Lib.hid hz1; clear hz1
  have HZ2 := Lib.hid hz2; clear hz2
  have HZ3 := Lib.hid hz3; clear hz3
  have HZ4 := Lib.hid hz4; clear hz4
  have HML := Lib.hid hml2; clear hml2
  have HKL := Lib.hid hkl
  have HNG := Lib.hid hng.1; clear hng
  have hNI : (neg r : Int) ≤ 1000 := by have := HNG.out; omega
  rw [hkl]
  clear ho hm hRl hrow hv hok hmk hsl hms hkl hNl hqi HS HU hlt hRb hrgt hrin hrin2 hL0 hme hen hfok hcln t1 t2 t3 t4 ok1 ok2 ok3 ok4 m2 m3 m4 hMiff hr hM
  clear hc1 hc2 hc3 hc4
  have hln := HLN.out w2 HC.out
  have d6 : ¬ (2 * (N : Int)) = 0 := by omega
  go_wp2_with fail
  refine hln.mono ?_
  rintro e w' ⟨rfl, rfl⟩
  clear hln HLN
  go_upto_region 7 with fail
  try rw [hre]
  clear hre d6
  have hcl := HCL.out w2 HC.out
  have HX := Lib.hid hcl; clear hcl HCL
  go_wp2_with fail
  refine HX.out.mono ?_
  rintro e w3 ⟨v, rfl, hrv, hvo, hcs⟩
  rw [show (intCells (natInts R)).length = k by simp [intCells]; exact HKL.out] at hrv
  obtain ⟨va, vc, rfl⟩ := row.shape hrv
  clear HX
  have hcA : Ch [] w3 (w3.alloc (.cells #[.int .i64 r] 45)) := (Ch.refl _ _).alloc _
  have hrA := hrv.ch hcA (by simp)
  have hbA : blk (w3.alloc (.cells #[.int .i64 r] 45)) w3.heap.size [.int .i64 r] := blk.new' _ _ rfl
  have HRA := Lib.hid hrA; clear hrA hrv
  have HBA := Lib.hid hbA; clear hbA
  have HVO := Lib.hid hvo; clear hvo
  have HCA := Lib.hid (hcs.trans hcA (by simp)); clear hcA hcs
  go_wp2_with (at_builtin; go_loud (refine wpList_append_row slRefs rfl _ _ rfl (v := .slice va k vc) (n := k) (xs := intCells (natInts R)) rfl HRA.out (ad := ⟨w3.heap.size, 0, none⟩) (m := 1) (c := 1) (news := [.int .i64 r]) rfl rfl (news_blk HBA.out) (by simp [Value.oneCell']) (by omega) (by omega) ?_; intro v' w4 hown4 hC4 hf4; obtain ⟨a0, c0, rfl⟩ := row.shape hown4; have HO4 := Lib.hid hown4; clear hown4; have HC4 := Lib.hid hC4; clear hC4; clear hf4))
  have hown := HO4.out
  rw [show intCells (natInts R) ++ [.int .i64 r] = intCells (natInts (R ++ [r])) by simp [intCells, natInts]] at hown
  have hc5 := HC.out.trans (HCA.out.trans HC4.out (fun q hq => .inr (HVO.out q hq))) (by simp)
  clear HC4 HCA HBA HRA HVO HC HO4
  have HC := Lib.hid hc5; clear hc5
  have HR0 := Lib.hid hown; clear hown
  have hen := HE1.out w4 HC.out _ _ HR0.out
  have HX := Lib.hid hen; clear hen HE1
  try go_wp2_with fail
  refine HX.out.mono ?_
  rintro e w5 ⟨cv, mv, rfl, hfor, hrm, hmo, hcs⟩
  clear HX
  obtain ⟨es1, hes1, hes2⟩ := hfor.ex
  rw [HZ1.out] at hes1
  obtain ⟨ca1, cc1, rfl⟩ := row.shape hes1
  obtain ⟨ma1, mc1, rfl⟩ := row.shape hrm
  have hsv := row.sv hes1 rfl (by omega)
  clear hfor hes1 hmo
  have hq2 := HR0.out.ch hcs (by simp); clear HR0; have HR0 := Lib.hid hq2; clear hq2
  have hcc := HC.out.trans hcs (by simp); clear HC; have HC := Lib.hid hcc; clear hcc
  clear hcs
  have HSV1 := Lib.hid hsv; clear hsv
  have HCI1 := Lib.hid hes2; clear hes2
  have HM1 := Lib.hid hrm; clear hrm
  go_upto_region 9 with fail
  refine wp_alw ?_
  intro w5f hWf
  have hfb := alw_blk (xs := [.int .i64 m, .slice ca1 z1 cc1]) hWf
  have hcd := alw_ch hWf
  clear hWf
  generalize w5.heap.size = bf1 at *
  have hq2 := HR0.out.ch hcd (by simp); clear HR0; have HR0 := Lib.hid hq2; clear hq2
  have hq2 := HSV1.out.ch hcd (by simp); clear HSV1; have HSV1 := Lib.hid hq2; clear hq2
  have hq2 := HM1.out.ch hcd (by simp); clear HM1; have HM1 := Lib.hid hq2; clear hq2
  have hq2 := HCI1.out.ch (O' := []) hcd (by simp) (by simp); clear HCI1; have HCI1 := Lib.hid hq2; clear hq2
  have hcc := HC.out.trans hcd (by simp); clear HC; have HC := Lib.hid hcc; clear hcc
  clear hcd
  have HFB1 := Lib.hid hfb; clear hfb
  have hcl := HC2L.out w5f a0 c0 HR0.out
  have HX := Lib.hid hcl; clear hcl
  go_wp2_with fail
  refine HX.out.mono ?_
  rintro e w5fc ⟨v, rfl, hrv, hvo, hcs⟩
  rw [show (intCells (natInts (R ++ [r]))).length = k + 1 by simp [intCells, natInts]; exact HKL.out] at hrv
  obtain ⟨va, vc, rfl⟩ := row.shape hrv
  clear HX
  have hcA : Ch [] w5fc (w5fc.alloc (.cells #[.int .i64 r, .int .i64 1] 45)) := (Ch.refl _ _).alloc _
  have hrA := hrv.ch hcA (by simp)
  have hbA : blk (w5fc.alloc (.cells #[.int .i64 r, .int .i64 1] 45)) w5fc.heap.size [.int .i64 r, .int .i64 1] := blk.new' _ _ rfl
  have HRA := Lib.hid hrA; clear hrA hrv
  have HBA := Lib.hid hbA; clear hbA
  have HVO := Lib.hid hvo; clear hvo
  have HCA := Lib.hid (hcs.trans hcA (by simp)); clear hcA hcs
  go_wp2_with (at_builtin; go_loud (refine wpList_append_row slRefs rfl _ _ rfl (v := .slice va (k + 1) vc) (n := k + 1) (xs := intCells (natInts (R ++ [r]))) rfl HRA.out (ad := ⟨w5fc.heap.size, 0, none⟩) (m := 2) (c := 2) (news := [.int .i64 r, .int .i64 1]) rfl rfl (news_blk HBA.out) (by simp [Value.oneCell']) (by omega) (by omega) ?_; intro v' w5fa hown4 hC4 hf4; obtain ⟨ba2, bc2, rfl⟩ := row.shape hown4; have HO4 := Lib.hid hown4; clear hown4; have HC4 := Lib.hid hC4; clear hC4; clear hf4))
  have hown := HO4.out
  rw [show intCells (natInts (R ++ [r])) ++ [.int .i64 r, .int .i64 1] = intCells (natInts (R ++ [r] ++ [r, 1])) by simp [intCells, natInts]] at hown
  have hc5 := HCA.out.trans HC4.out (fun q hq => .inr (HVO.out q hq))
  clear HC4 HCA HBA HRA HVO HO4
  have hq2 := HR0.out.ch hc5 (by simp); clear HR0; have HR0 := Lib.hid hq2; clear hq2
  have hq2 := HSV1.out.ch hc5 (by simp); clear HSV1; have HSV1 := Lib.hid hq2; clear hq2
  have hq2 := HM1.out.ch hc5 (by simp); clear HM1; have HM1 := Lib.hid hq2; clear hq2
  have hq2 := HCI1.out.ch (O' := []) hc5 (by simp) (by simp); clear HCI1; have HCI1 := Lib.hid hq2; clear hq2
  have hq2 := HFB1.out.ch hc5 (by simp); clear HFB1; have HFB1 := Lib.hid hq2; clear hq2
  have hcc := HC.out.trans hc5 (by simp); clear HC; have HC := Lib.hid hcc; clear hcc
  clear hc5
  have HRN := Lib.hid hown; clear hown
  have hen := HE2.out w5fa HC.out _ _ HRN.out
  have HX := Lib.hid hen; clear hen HE2
  try go_wp2_with fail
  refine HX.out.mono ?_
  rintro e w6 ⟨cv, mv, rfl, hfor, hrm, hmo, hcs⟩
  clear HX
  obtain ⟨es2, hes1, hes2⟩ := hfor.ex
  rw [HZ2.out] at hes1
  obtain ⟨ca2, cc2, rfl⟩ := row.shape hes1
  obtain ⟨ma2, mc2, rfl⟩ := row.shape hrm
  have hsv := row.sv hes1 rfl (by omega)
  clear hfor hes1 hmo
  have hq2 := HR0.out.ch hcs (by simp); clear HR0; have HR0 := Lib.hid hq2; clear hq2
  have hq2 := HSV1.out.ch hcs (by simp); clear HSV1; have HSV1 := Lib.hid hq2; clear hq2
  have hq2 := HM1.out.ch hcs (by simp); clear HM1; have HM1 := Lib.hid hq2; clear hq2
  have hq2 := HCI1.out.ch (O' := []) hcs (by simp) (by simp); clear HCI1; have HCI1 := Lib.hid hq2; clear hq2
  have hq2 := HFB1.out.ch hcs (by simp); clear HFB1; have HFB1 := Lib.hid hq2; clear hq2
  have hcc := HC.out.trans hcs (by simp); clear HC; have HC := Lib.hid hcc; clear hcc
  clear hcs
  have HSV2 := Lib.hid hsv; clear hsv
  have HCI2 := Lib.hid hes2; clear hes2
  have HM2 := Lib.hid hrm; clear hrm
  go_upto_region 10 with fail
  refine wp_alw ?_
  intro w6f hWf
  have hfb := alw_blk (xs := [.int .i64 m, .slice ca2 z2 cc2]) hWf
  have hcd := alw_ch hWf
  clear hWf
  generalize w6.heap.size = bf2 at *
  have hq2 := HR0.out.ch hcd (by simp); clear HR0; have HR0 := Lib.hid hq2; clear hq2
  have hq2 := HSV1.out.ch hcd (by simp); clear HSV1; have HSV1 := Lib.hid hq2; clear hq2
  have hq2 := HM1.out.ch hcd (by simp); clear HM1; have HM1 := Lib.hid hq2; clear hq2
  have hq2 := HCI1.out.ch (O' := []) hcd (by simp) (by simp); clear HCI1; have HCI1 := Lib.hid hq2; clear hq2
  have hq2 := HFB1.out.ch hcd (by simp); clear HFB1; have HFB1 := Lib.hid hq2; clear hq2
  have hq2 := HSV2.out.ch hcd (by simp); clear HSV2; have HSV2 := Lib.hid hq2; clear hq2
  have hq2 := HM2.out.ch hcd (by simp); clear HM2; have HM2 := Lib.hid hq2; clear hq2
  have hq2 := HCI2.out.ch (O' := []) hcd (by simp) (by simp); clear HCI2; have HCI2 := Lib.hid hq2; clear hq2
  have hcc := HC.out.trans hcd (by simp); clear HC; have HC := Lib.hid hcc; clear hcc
  clear hcd
  have HFB2 := Lib.hid hfb; clear hfb
  clear HRN
  have hcl := HC2L.out w6f a0 c0 HR0.out
  have HX := Lib.hid hcl; clear hcl
  go_wp2_with fail
  refine HX.out.mono ?_
  rintro e w6fc ⟨v, rfl, hrv, hvo, hcs⟩
  rw [show (intCells (natInts (R ++ [r]))).length = k + 1 by simp [intCells, natInts]; exact HKL.out] at hrv
  obtain ⟨va, vc, rfl⟩ := row.shape hrv
  clear HX
  have hnt := HNT.out w6fc
  have HX := Lib.hid hnt; clear hnt HNT
  have HRV := Lib.hid hrv; clear hrv
  have HVO := Lib.hid hvo; clear hvo
  have HCS := Lib.hid hcs; clear hcs
  go_wp2_with fail
  refine HX.out.mono ?_
  rintro e w' ⟨rfl, rfl⟩
  have hrv := HRV.out
  have hvo := HVO.out
  have hcs := HCS.out
  clear HX HRV HVO HCS
  have hcA : Ch [] w6fc (w6fc.alloc (.cells #[.int .i64 (neg r : Nat)] 45)) := (Ch.refl _ _).alloc _
  have hrA := hrv.ch hcA (by simp)
  have hbA : blk (w6fc.alloc (.cells #[.int .i64 (neg r : Nat)] 45)) w6fc.heap.size [.int .i64 (neg r : Nat)] := blk.new' _ _ rfl
  have HRA := Lib.hid hrA; clear hrA hrv
  have HBA := Lib.hid hbA; clear hbA
  have HVO := Lib.hid hvo; clear hvo
  have HCA := Lib.hid (hcs.trans hcA (by simp)); clear hcA hcs
  go_wp2_with (at_builtin; go_loud (refine wpList_append_row slRefs rfl _ _ rfl (v := .slice va (k + 1) vc) (n := k + 1) (xs := intCells (natInts (R ++ [r]))) rfl HRA.out (ad := ⟨w6fc.heap.size, 0, none⟩) (m := 1) (c := 1) (news := [.int .i64 (neg r : Nat)]) rfl rfl (news_blk HBA.out) (by simp [Value.oneCell']) (by omega) (by omega) ?_; intro v' w6fa hown4 hC4 hf4; obtain ⟨ba3, bc3, rfl⟩ := row.shape hown4; have HO4 := Lib.hid hown4; clear hown4; have HC4 := Lib.hid hC4; clear hC4; clear hf4))
  have hown := HO4.out
  rw [show intCells (natInts (R ++ [r])) ++ [.int .i64 (neg r : Nat)] = intCells (natInts (R ++ [r] ++ [neg r])) by simp [intCells, natInts]] at hown
  have hc5 := HCA.out.trans HC4.out (fun q hq => .inr (HVO.out q hq))
  clear HC4 HCA HBA HRA HVO HO4
  have hq2 := HR0.out.ch hc5 (by simp); clear HR0; have HR0 := Lib.hid hq2; clear hq2
  have hq2 := HSV1.out.ch hc5 (by simp); clear HSV1; have HSV1 := Lib.hid hq2; clear hq2
  have hq2 := HM1.out.ch hc5 (by simp); clear HM1; have HM1 := Lib.hid hq2; clear hq2
  have hq2 := HCI1.out.ch (O' := []) hc5 (by simp) (by simp); clear HCI1; have HCI1 := Lib.hid hq2; clear hq2
  have hq2 := HFB1.out.ch hc5 (by simp); clear HFB1; have HFB1 := Lib.hid hq2; clear hq2
  have hq2 := HSV2.out.ch hc5 (by simp); clear HSV2; have HSV2 := Lib.hid hq2; clear hq2
  have hq2 := HM2.out.ch hc5 (by simp); clear HM2; have HM2 := Lib.hid hq2; clear hq2
  have hq2 := HCI2.out.ch (O' := []) hc5 (by simp) (by simp); clear HCI2; have HCI2 := Lib.hid hq2; clear hq2
  have hq2 := HFB2.out.ch hc5 (by simp); clear HFB2; have HFB2 := Lib.hid hq2; clear hq2
  have hcc := HC.out.trans hc5 (by simp); clear HC; have HC := Lib.hid hcc; clear hcc
  clear hc5
  have HRN := Lib.hid hown; clear hown
  have hen := HE3.out w6fa HC.out _ _ HRN.out
  have HX := Lib.hid hen; clear hen HE3
  try go_wp2_with fail
  refine HX.out.mono ?_
  rintro e w7 ⟨cv, mv, rfl, hfor, hrm, hmo, hcs⟩
  clear HX
  obtain ⟨es3, hes1, hes2⟩ := hfor.ex
  rw [HZ3.out] at hes1
  obtain ⟨ca3, cc3, rfl⟩ := row.shape hes1
  obtain ⟨ma3, mc3, rfl⟩ := row.shape hrm
  have hsv := row.sv hes1 rfl (by omega)
  clear hfor hes1 hmo
  have hq2 := HR0.out.ch hcs (by simp); clear HR0; have HR0 := Lib.hid hq2; clear hq2
  have hq2 := HSV1.out.ch hcs (by simp); clear HSV1; have HSV1 := Lib.hid hq2; clear hq2
  have hq2 := HM1.out.ch hcs (by simp); clear HM1; have HM1 := Lib.hid hq2; clear hq2
  have hq2 := HCI1.out.ch (O' := []) hcs (by simp) (by simp); clear HCI1; have HCI1 := Lib.hid hq2; clear hq2
  have hq2 := HFB1.out.ch hcs (by simp); clear HFB1; have HFB1 := Lib.hid hq2; clear hq2
  have hq2 := HSV2.out.ch hcs (by simp); clear HSV2; have HSV2 := Lib.hid hq2; clear hq2
  have hq2 := HM2.out.ch hcs (by simp); clear HM2; have HM2 := Lib.hid hq2; clear hq2
  have hq2 := HCI2.out.ch (O' := []) hcs (by simp) (by simp); clear HCI2; have HCI2 := Lib.hid hq2; clear hq2
  have hq2 := HFB2.out.ch hcs (by simp); clear HFB2; have HFB2 := Lib.hid hq2; clear hq2
  have hcc := HC.out.trans hcs (by simp); clear HC; have HC := Lib.hid hcc; clear hcc
  clear hcs
  have HSV3 := Lib.hid hsv; clear hsv
  have HCI3 := Lib.hid hes2; clear hes2
  have HM3 := Lib.hid hrm; clear hrm
  go_upto_region 11 with fail
  refine wp_alw ?_
  intro w7f hWf
  have hfb := alw_blk (xs := [.int .i64 m, .slice ca3 z3 cc3]) hWf
  have hcd := alw_ch hWf
  clear hWf
  generalize w7.heap.size = bf3 at *
  have hq2 := HR0.out.ch hcd (by simp); clear HR0; have HR0 := Lib.hid hq2; clear hq2
  have hq2 := HSV1.out.ch hcd (by simp); clear HSV1; have HSV1 := Lib.hid hq2; clear hq2
  have hq2 := HM1.out.ch hcd (by simp); clear HM1; have HM1 := Lib.hid hq2; clear hq2
  have hq2 := HCI1.out.ch (O' := []) hcd (by simp) (by simp); clear HCI1; have HCI1 := Lib.hid hq2; clear hq2
  have hq2 := HFB1.out.ch hcd (by simp); clear HFB1; have HFB1 := Lib.hid hq2; clear hq2
  have hq2 := HSV2.out.ch hcd (by simp); clear HSV2; have HSV2 := Lib.hid hq2; clear hq2
  have hq2 := HM2.out.ch hcd (by simp); clear HM2; have HM2 := Lib.hid hq2; clear hq2
  have hq2 := HCI2.out.ch (O' := []) hcd (by simp) (by simp); clear HCI2; have HCI2 := Lib.hid hq2; clear hq2
  have hq2 := HFB2.out.ch hcd (by simp); clear HFB2; have HFB2 := Lib.hid hq2; clear hq2
  have hq2 := HSV3.out.ch hcd (by simp); clear HSV3; have HSV3 := Lib.hid hq2; clear hq2
  have hq2 := HM3.out.ch hcd (by simp); clear HM3; have HM3 := Lib.hid hq2; clear hq2
  have hq2 := HCI3.out.ch (O' := []) hcd (by simp) (by simp); clear HCI3; have HCI3 := Lib.hid hq2; clear hq2
  have hcc := HC.out.trans hcd (by simp); clear HC; have HC := Lib.hid hcc; clear hcc
  clear hcd
  have HFB3 := Lib.hid hfb; clear hfb
  clear HRN
  have hcl := HC2L.out w7f a0 c0 HR0.out
  have HX := Lib.hid hcl; clear hcl
  go_wp2_with fail
  refine HX.out.mono ?_
  rintro e w7fc ⟨v, rfl, hrv, hvo, hcs⟩
  rw [show (intCells (natInts (R ++ [r]))).length = k + 1 by simp [intCells, natInts]; exact HKL.out] at hrv
  obtain ⟨va, vc, rfl⟩ := row.shape hrv
  clear HX
  have hcA : Ch [] w7fc (w7fc.alloc (.cells #[.int .i64 0] 45)) := (Ch.refl _ _).alloc _
  have hrA := hrv.ch hcA (by simp)
  have hbA : blk (w7fc.alloc (.cells #[.int .i64 0] 45)) w7fc.heap.size [.int .i64 0] := blk.new' _ _ rfl
  have HRA := Lib.hid hrA; clear hrA hrv
  have HBA := Lib.hid hbA; clear hbA
  have HVO := Lib.hid hvo; clear hvo
  have HCA := Lib.hid (hcs.trans hcA (by simp)); clear hcA hcs
  go_wp2_with (at_builtin; go_loud (refine wpList_append_row slRefs rfl _ _ rfl (v := .slice va (k + 1) vc) (n := k + 1) (xs := intCells (natInts (R ++ [r]))) rfl HRA.out (ad := ⟨w7fc.heap.size, 0, none⟩) (m := 1) (c := 1) (news := [.int .i64 0]) rfl rfl (news_blk HBA.out) (by simp [Value.oneCell']) (by omega) (by omega) ?_; intro v' w7fa hown4 hC4 hf4; obtain ⟨ba4, bc4, rfl⟩ := row.shape hown4; have HO4 := Lib.hid hown4; clear hown4; have HC4 := Lib.hid hC4; clear hC4; clear hf4))
  have hown := HO4.out
  rw [show intCells (natInts (R ++ [r])) ++ [.int .i64 0] = intCells (natInts (R ++ [r] ++ [0])) by simp [intCells, natInts]] at hown
  have hc5 := HCA.out.trans HC4.out (fun q hq => .inr (HVO.out q hq))
  clear HC4 HCA HBA HRA HVO HO4
  have hq2 := HR0.out.ch hc5 (by simp); clear HR0; have HR0 := Lib.hid hq2; clear hq2
  have hq2 := HSV1.out.ch hc5 (by simp); clear HSV1; have HSV1 := Lib.hid hq2; clear hq2
  have hq2 := HM1.out.ch hc5 (by simp); clear HM1; have HM1 := Lib.hid hq2; clear hq2
  have hq2 := HCI1.out.ch (O' := []) hc5 (by simp) (by simp); clear HCI1; have HCI1 := Lib.hid hq2; clear hq2
  have hq2 := HFB1.out.ch hc5 (by simp); clear HFB1; have HFB1 := Lib.hid hq2; clear hq2
  have hq2 := HSV2.out.ch hc5 (by simp); clear HSV2; have HSV2 := Lib.hid hq2; clear hq2
  have hq2 := HM2.out.ch hc5 (by simp); clear HM2; have HM2 := Lib.hid hq2; clear hq2
  have hq2 := HCI2.out.ch (O' := []) hc5 (by simp) (by simp); clear HCI2; have HCI2 := Lib.hid hq2; clear hq2
  have hq2 := HFB2.out.ch hc5 (by simp); clear HFB2; have HFB2 := Lib.hid hq2; clear hq2
  have hq2 := HSV3.out.ch hc5 (by simp); clear HSV3; have HSV3 := Lib.hid hq2; clear hq2
  have hq2 := HM3.out.ch hc5 (by simp); clear HM3; have HM3 := Lib.hid hq2; clear hq2
  have hq2 := HCI3.out.ch (O' := []) hc5 (by simp) (by simp); clear HCI3; have HCI3 := Lib.hid hq2; clear hq2
  have hq2 := HFB3.out.ch hc5 (by simp); clear HFB3; have HFB3 := Lib.hid hq2; clear hq2
  have hcc := HC.out.trans hc5 (by simp); clear HC; have HC := Lib.hid hcc; clear hcc
  clear hc5
  have HRN := Lib.hid hown; clear hown
  have hen := HE4.out w7fa HC.out _ _ HRN.out
  have HX := Lib.hid hen; clear hen HE4
  try go_wp2_with fail
  refine HX.out.mono ?_
  rintro e w8 ⟨cv, mv, rfl, hfor, hrm, hmo, hcs⟩
  clear HX
  obtain ⟨es4, hes1, hes2⟩ := hfor.ex
  rw [HZ4.out] at hes1
  obtain ⟨ca4, cc4, rfl⟩ := row.shape hes1
  obtain ⟨ma4, mc4, rfl⟩ := row.shape hrm
  have hsv := row.sv hes1 rfl (by omega)
  clear hfor hes1 hmo
  have hq2 := HR0.out.ch hcs (by simp); clear HR0; have HR0 := Lib.hid hq2; clear hq2
  have hq2 := HSV1.out.ch hcs (by simp); clear HSV1; have HSV1 := Lib.hid hq2; clear hq2
  have hq2 := HM1.out.ch hcs (by simp); clear HM1; have HM1 := Lib.hid hq2; clear hq2
  have hq2 := HCI1.out.ch (O' := []) hcs (by simp) (by simp); clear HCI1; have HCI1 := Lib.hid hq2; clear hq2
  have hq2 := HFB1.out.ch hcs (by simp); clear HFB1; have HFB1 := Lib.hid hq2; clear hq2
  have hq2 := HSV2.out.ch hcs (by simp); clear HSV2; have HSV2 := Lib.hid hq2; clear hq2
  have hq2 := HM2.out.ch hcs (by simp); clear HM2; have HM2 := Lib.hid hq2; clear hq2
  have hq2 := HCI2.out.ch (O' := []) hcs (by simp) (by simp); clear HCI2; have HCI2 := Lib.hid hq2; clear hq2
  have hq2 := HFB2.out.ch hcs (by simp); clear HFB2; have HFB2 := Lib.hid hq2; clear hq2
  have hq2 := HSV3.out.ch hcs (by simp); clear HSV3; have HSV3 := Lib.hid hq2; clear hq2
  have hq2 := HM3.out.ch hcs (by simp); clear HM3; have HM3 := Lib.hid hq2; clear hq2
  have hq2 := HCI3.out.ch (O' := []) hcs (by simp) (by simp); clear HCI3; have HCI3 := Lib.hid hq2; clear hq2
  have hq2 := HFB3.out.ch hcs (by simp); clear HFB3; have HFB3 := Lib.hid hq2; clear hq2
  have hcc := HC.out.trans hcs (by simp); clear HC; have HC := Lib.hid hcc; clear hcc
  clear hcs
  have HSV4 := Lib.hid hsv; clear hsv
  have HCI4 := Lib.hid hes2; clear hes2
  have HM4 := Lib.hid hrm; clear hrm
  go_upto_region 12 with fail
  refine wp_alw ?_
  intro w8f hWf
  have hfb := alw_blk (xs := [.int .i64 m, .slice ca4 z4 cc4]) hWf
  have hcd := alw_ch hWf
  clear hWf
  generalize w8.heap.size = bf4 at *
  have hq2 := HR0.out.ch hcd (by simp); clear HR0; have HR0 := Lib.hid hq2; clear hq2
  have hq2 := HSV1.out.ch hcd (by simp); clear HSV1; have HSV1 := Lib.hid hq2; clear hq2
  have hq2 := HM1.out.ch hcd (by simp); clear HM1; have HM1 := Lib.hid hq2; clear hq2
  have hq2 := HCI1.out.ch (O' := []) hcd (by simp) (by simp); clear HCI1; have HCI1 := Lib.hid hq2; clear hq2
  have hq2 := HFB1.out.ch hcd (by simp); clear HFB1; have HFB1 := Lib.hid hq2; clear hq2
  have hq2 := HSV2.out.ch hcd (by simp); clear HSV2; have HSV2 := Lib.hid hq2; clear hq2
  have hq2 := HM2.out.ch hcd (by simp); clear HM2; have HM2 := Lib.hid hq2; clear hq2
  have hq2 := HCI2.out.ch (O' := []) hcd (by simp) (by simp); clear HCI2; have HCI2 := Lib.hid hq2; clear hq2
  have hq2 := HFB2.out.ch hcd (by simp); clear HFB2; have HFB2 := Lib.hid hq2; clear hq2
  have hq2 := HSV3.out.ch hcd (by simp); clear HSV3; have HSV3 := Lib.hid hq2; clear hq2
  have hq2 := HM3.out.ch hcd (by simp); clear HM3; have HM3 := Lib.hid hq2; clear hq2
  have hq2 := HCI3.out.ch (O' := []) hcd (by simp) (by simp); clear HCI3; have HCI3 := Lib.hid hq2; clear hq2
  have hq2 := HFB3.out.ch hcd (by simp); clear HFB3; have HFB3 := Lib.hid hq2; clear hq2
  have hq2 := HSV4.out.ch hcd (by simp); clear HSV4; have HSV4 := Lib.hid hq2; clear hq2
  have hq2 := HM4.out.ch hcd (by simp); clear HM4; have HM4 := Lib.hid hq2; clear hq2
  have hq2 := HCI4.out.ch (O' := []) hcd (by simp) (by simp); clear HCI4; have HCI4 := Lib.hid hq2; clear hq2
  have hcc := HC.out.trans hcd (by simp); clear HC; have HC := Lib.hid hcc; clear hcc
  clear hcd
  have HFB4 := Lib.hid hfb; clear hfb
  clear HRN
  clear HR0 HM3 HM4 HC2L
  have hE := EQmap_is (xs := natInts ms) (ys := natInts ms) mc1 mc2 (Sl.of_ints HM1.out (by omega)) (Sl.of_ints HM2.out (by omega))
  rw [natInts_len, HML.out, decide_eq_true rfl] at hE
  have HE := Lib.hid hE; clear hE
  go_wp2_with fail
  refine HE.out.mono ?_
  rintro e w9 ⟨rfl, hcs⟩
  have hq2 := HSV1.out.ch hcs (by simp); clear HSV1; have HSV1 := Lib.hid hq2; clear hq2
  have hq2 := HM1.out.ch hcs (by simp); clear HM1; have HM1 := Lib.hid hq2; clear hq2
  have hq2 := HCI1.out.ch (O' := []) hcs (by simp) (by simp); clear HCI1; have HCI1 := Lib.hid hq2; clear hq2
  have hq2 := HFB1.out.ch hcs (by simp); clear HFB1; have HFB1 := Lib.hid hq2; clear hq2
  have hq2 := HSV2.out.ch hcs (by simp); clear HSV2; have HSV2 := Lib.hid hq2; clear hq2
  have hq2 := HM2.out.ch hcs (by simp); clear HM2; have HM2 := Lib.hid hq2; clear hq2
  have hq2 := HCI2.out.ch (O' := []) hcs (by simp) (by simp); clear HCI2; have HCI2 := Lib.hid hq2; clear hq2
  have hq2 := HFB2.out.ch hcs (by simp); clear HFB2; have HFB2 := Lib.hid hq2; clear hq2
  have hq2 := HSV3.out.ch hcs (by simp); clear HSV3; have HSV3 := Lib.hid hq2; clear hq2
  have hq2 := HCI3.out.ch (O' := []) hcs (by simp) (by simp); clear HCI3; have HCI3 := Lib.hid hq2; clear hq2
  have hq2 := HFB3.out.ch hcs (by simp); clear HFB3; have HFB3 := Lib.hid hq2; clear hq2
  have hq2 := HSV4.out.ch hcs (by simp); clear HSV4; have HSV4 := Lib.hid hq2; clear hq2
  have hq2 := HCI4.out.ch (O' := []) hcs (by simp) (by simp); clear HCI4; have HCI4 := Lib.hid hq2; clear hq2
  have hq2 := HFB4.out.ch hcs (by simp); clear HFB4; have HFB4 := Lib.hid hq2; clear hq2
  have hcc := HC.out.trans hcs (by simp); clear HC; have HC := Lib.hid hcc; clear hcc
  clear hcs HE HM2
  have x0 := HFB1.out.cell (i := 0) rfl
  by_cases h11 : 11 < m
  · have d11 : decide (11 < m) = true := decide_eq_true h11
    go_wp2_with fail
    go_ret
    exact ⟨rfl, (HC1.out.trans HC12.out (by simp)).trans HC.out (by simp)⟩
  · have d11 : decide (11 < m) = false := decide_eq_false h11
    have h11 : m ≤ 11 := by omega
    have y0 := HFB1.out.cell (i := 0) rfl
    have y1 := HFB1.out.cell (i := 1) rfl
    have hct := HCT1.out h11 w9 ca1 cc1 es1 HSV1.out HCI1.out
    have HX := Lib.hid hct; clear hct HCT1
    go_wp2_with fail
    clear x0
    clear y0 y1
    refine HX.out.mono ?_
    rintro e w10 ⟨rfl, hcs⟩
    have hq2 := HSV1.out.ch hcs (by simp); clear HSV1; have HSV1 := Lib.hid hq2; clear hq2
    have hq2 := HM1.out.ch hcs (by simp); clear HM1; have HM1 := Lib.hid hq2; clear hq2
    have hq2 := HCI1.out.ch (O' := []) hcs (by simp) (by simp); clear HCI1; have HCI1 := Lib.hid hq2; clear hq2
    have hq2 := HFB1.out.ch hcs (by simp); clear HFB1; have HFB1 := Lib.hid hq2; clear hq2
    have hq2 := HSV2.out.ch hcs (by simp); clear HSV2; have HSV2 := Lib.hid hq2; clear hq2
    have hq2 := HCI2.out.ch (O' := []) hcs (by simp) (by simp); clear HCI2; have HCI2 := Lib.hid hq2; clear hq2
    have hq2 := HFB2.out.ch hcs (by simp); clear HFB2; have HFB2 := Lib.hid hq2; clear hq2
    have hq2 := HSV3.out.ch hcs (by simp); clear HSV3; have HSV3 := Lib.hid hq2; clear hq2
    have hq2 := HCI3.out.ch (O' := []) hcs (by simp) (by simp); clear HCI3; have HCI3 := Lib.hid hq2; clear hq2
    have hq2 := HFB3.out.ch hcs (by simp); clear HFB3; have HFB3 := Lib.hid hq2; clear hq2
    have hq2 := HSV4.out.ch hcs (by simp); clear HSV4; have HSV4 := Lib.hid hq2; clear hq2
    have hq2 := HCI4.out.ch (O' := []) hcs (by simp) (by simp); clear HCI4; have HCI4 := Lib.hid hq2; clear hq2
    have hq2 := HFB4.out.ch hcs (by simp); clear HFB4; have HFB4 := Lib.hid hq2; clear hq2
    have hcc := HC.out.trans hcs (by simp); clear HC; have HC := Lib.hid hcc; clear hcc
    clear hcs HX
    have y0 := HFB2.out.cell (i := 0) rfl
    have y1 := HFB2.out.cell (i := 1) rfl
    have hct := HCT2.out h11 w10 ca2 cc2 es2 HSV2.out HCI2.out
    have HX := Lib.hid hct; clear hct HCT2
    go_wp2_with fail
    skip
    clear y0 y1
    refine HX.out.mono ?_
    rintro e w11 ⟨rfl, hcs⟩
    clear HSV2 HCI2 HFB2
    have hq2 := HSV1.out.ch hcs (by simp); clear HSV1; have HSV1 := Lib.hid hq2; clear hq2
    have hq2 := HM1.out.ch hcs (by simp); clear HM1; have HM1 := Lib.hid hq2; clear hq2
    have hq2 := HCI1.out.ch (O' := []) hcs (by simp) (by simp); clear HCI1; have HCI1 := Lib.hid hq2; clear hq2
    have hq2 := HFB1.out.ch hcs (by simp); clear HFB1; have HFB1 := Lib.hid hq2; clear hq2
    have hq2 := HSV3.out.ch hcs (by simp); clear HSV3; have HSV3 := Lib.hid hq2; clear hq2
    have hq2 := HCI3.out.ch (O' := []) hcs (by simp) (by simp); clear HCI3; have HCI3 := Lib.hid hq2; clear hq2
    have hq2 := HFB3.out.ch hcs (by simp); clear HFB3; have HFB3 := Lib.hid hq2; clear hq2
    have hq2 := HSV4.out.ch hcs (by simp); clear HSV4; have HSV4 := Lib.hid hq2; clear hq2
    have hq2 := HCI4.out.ch (O' := []) hcs (by simp) (by simp); clear HCI4; have HCI4 := Lib.hid hq2; clear hq2
    have hq2 := HFB4.out.ch hcs (by simp); clear HFB4; have HFB4 := Lib.hid hq2; clear hq2
    have hcc := HC.out.trans hcs (by simp); clear HC; have HC := Lib.hid hcc; clear hcc
    clear hcs HX
    have y0 := HFB3.out.cell (i := 0) rfl
    have y1 := HFB3.out.cell (i := 1) rfl
    have hct := HCT3.out h11 w11 ca3 cc3 es3 HSV3.out HCI3.out
    have HX := Lib.hid hct; clear hct HCT3
    go_wp2_with fail
    skip
    clear y0 y1
    refine HX.out.mono ?_
    rintro e w12 ⟨rfl, hcs⟩
    clear HSV3 HCI3 HFB3
    have hq2 := HSV1.out.ch hcs (by simp); clear HSV1; have HSV1 := Lib.hid hq2; clear hq2
    have hq2 := HM1.out.ch hcs (by simp); clear HM1; have HM1 := Lib.hid hq2; clear hq2
    have hq2 := HCI1.out.ch (O' := []) hcs (by simp) (by simp); clear HCI1; have HCI1 := Lib.hid hq2; clear hq2
    have hq2 := HFB1.out.ch hcs (by simp); clear HFB1; have HFB1 := Lib.hid hq2; clear hq2
    have hq2 := HSV4.out.ch hcs (by simp); clear HSV4; have HSV4 := Lib.hid hq2; clear hq2
    have hq2 := HCI4.out.ch (O' := []) hcs (by simp) (by simp); clear HCI4; have HCI4 := Lib.hid hq2; clear hq2
    have hq2 := HFB4.out.ch hcs (by simp); clear HFB4; have HFB4 := Lib.hid hq2; clear hq2
    have hcc := HC.out.trans hcs (by simp); clear HC; have HC := Lib.hid hcc; clear hcc
    clear hcs HX
    have y0 := HFB4.out.cell (i := 0) rfl
    have y1 := HFB4.out.cell (i := 1) rfl
    have hct := HCT4.out h11 w12 ca4 cc4 es4 HSV4.out HCI4.out
    have HX := Lib.hid hct; clear hct HCT4
    go_wp2_with fail
    skip
    clear y0 y1
    refine HX.out.mono ?_
    rintro e w13 ⟨rfl, hcs⟩
    clear HSV4 HCI4 HFB4
    have hq2 := HSV1.out.ch hcs (by simp); clear HSV1; have HSV1 := Lib.hid hq2; clear hq2
    have hq2 := HM1.out.ch hcs (by simp); clear HM1; have HM1 := Lib.hid hq2; clear hq2
    have hq2 := HCI1.out.ch (O' := []) hcs (by simp) (by simp); clear HCI1; have HCI1 := Lib.hid hq2; clear hq2
    have hq2 := HFB1.out.ch hcs (by simp); clear HFB1; have HFB1 := Lib.hid hq2; clear hq2
    have hcc := HC.out.trans hcs (by simp); clear HC; have HC := Lib.hid hcc; clear hcc
    clear hcs HX
    go_wp2_with fail
    refine (HIP.out w13 HC.out).mono ?_
    rintro e w14 ⟨v, rfl, hrv, _, hcs⟩
    obtain ⟨ia, ic, rfl⟩ := row.shape hrv
    have hq2 := HSV1.out.ch hcs (by simp); clear HSV1; have HSV1 := Lib.hid hq2; clear hq2
    have hq2 := HM1.out.ch hcs (by simp); clear HM1; have HM1 := Lib.hid hq2; clear hq2
    have hq2 := HCI1.out.ch (O' := []) hcs (by simp) (by simp); clear HCI1; have HCI1 := Lib.hid hq2; clear hq2
    have hq2 := HFB1.out.ch hcs (by simp); clear HFB1; have HFB1 := Lib.hid hq2; clear hq2
    have hcc := HC.out.trans hcs (by simp); clear HC; have HC := Lib.hid hcc; clear hcc
    clear hcs hrv HIP
    go_wp2_with fail
    refine (HAS.out w14).mono ?_
    rintro e w15 ⟨v, es9, rfl, hrv, hbs, _, hcs⟩
    obtain ⟨D, hD⟩ : ∃ D, 2 ^ q = D := ⟨_, rfl⟩
    have hD64 : D ≤ 64 := by rw [← hD]; exact Nat.pow_le_pow_right (by omega) hi6
    rw [hD] at hrv hbs
    obtain ⟨aa, ac, rfl⟩ := row.shape hrv
    have hsv2 := row.sv hrv rfl (by omega)
    have hq2 := HSV1.out.ch hcs (by simp); clear HSV1; have HSV1 := Lib.hid hq2; clear hq2
    have hq2 := HM1.out.ch hcs (by simp); clear HM1; have HM1 := Lib.hid hq2; clear hq2
    have hq2 := HCI1.out.ch (O' := []) hcs (by simp) (by simp); clear HCI1; have HCI1 := Lib.hid hq2; clear hq2
    have hq2 := HFB1.out.ch hcs (by simp); clear HFB1; have HFB1 := Lib.hid hq2; clear hq2
    have hcc := HC.out.trans hcs (by simp); clear HC; have HC := Lib.hid hcc; clear hcc
    clear hcs hrv HAS hD
    have HES := Lib.hid hsv2; clear hsv2
    have HBS := Lib.hid hbs; clear hbs
    go_wp2_with fail
    go_loopw [161] (fun i wr => ∃ x : Nat, x ≤ D ∧ i = .int .i64 x ∧ Ch [] w15 wr) (fun i _ => D - (intOf i).toNat)
    case atStart => exact ⟨0, by omega, rfl, Ch.refl _ _⟩
    case round =>
      obtain ⟨x, hx, rfl, hc⟩ := hrel
      have hcw := HC.out.trans hc (by simp)
      by_cases hlt : x < D
      · obtain ⟨ins, hins⟩ : ∃ ins, patL q x = ins := ⟨_, rfl⟩
        have hil : ins.length = q := by rw [← hins, patL_len]
        obtain ⟨ja, jc, he, hsb, hjb⟩ := HBS.out.each x ins (by rw [List.getElem?_map, List.getElem?_range hlt]; simp [hins])
        rw [hil] at he
        obtain ⟨xb, xo, rfl, hcl⟩ := (HES.out.ch hc (by simp)).cells x _ he
        have hsbw := hsb.ch hc (by simp)
        obtain ⟨env, henv⟩ : ∃ env : Nat → Bool, (fun i => ins.getD i false) = env := ⟨_, rfl⟩
        have hbi := HBI.out wr hcw ja jc ins hil hsbw
        have hmo := fun (W : World) (h : Ch [] wr W) => HMO.out W ma1 mc1 (hcw.trans h (by simp)) ((HM1.out.ch hc (by simp)).ch h (by simp)) ja jc ins hil (hsbw.ch h (by simp))
        simp only [henv] at hmo hbi
        have hbef := HBEF.out env
        have hml3 := HMV.out env
        have hbl : (R.map (bv env G.nodes)).length = k := by rw [List.length_map]; exact HKL.out
        generalize modV env G.nodes ms = mv at *
        generalize R.map (bv env G.nodes) = bl at *
        have HBI1 := Lib.hid hbi; clear hbi
        have HMO1 := Lib.hid hmo; clear hmo
        have HBE := Lib.hid hbef; clear hbef
        have HML3 := Lib.hid hml3; clear hml3
        have HBL := Lib.hid hbl; clear hbl
        have HCX := Lib.hid hc; clear hc hcw
        clear he hsb hjb hins hil hsbw henv
        go_wp2_with fail
        clear hcl
        refine HBI1.out.mono ?_
        rintro e w16 ⟨v, rfl, hbr, hbo, hcs⟩
        obtain ⟨va, vc, rfl⟩ := row.shape hbr
        rw [HBL.out] at hbr ⊢
        have hco := CObool_is (w := w16) (a := va) k vc HBL.out (by omega) (row.sv hbr rfl (by omega)) false
        have hmo := HMO1.out w16 hcs
        have HX := Lib.hid hmo; clear hmo HMO1 HBI1
        have HBR := Lib.hid hbr; clear hbr hbo hco
        have HCX2 := Lib.hid (HCX.out.trans hcs (by simp)); clear HCX hcs
        go_wp2_with fail
        refine HX.out.mono ?_
        rintro e w17 ⟨v, rfl, hmr, hmo, hcs⟩
        obtain ⟨ua, uc, rfl⟩ := row.shape hmr
        rw [HML3.out] at hmr ⊢
        have hcA := HCX2.out.trans hcs (by simp)
        have hb17 := HFB1.out.ch hcA (by simp)
        have y0 := hb17.cell (i := 0) rfl
        have y1 := hb17.cell (i := 1) rfl
        have hva := HVA.out w17 ca1 cc1 es1 (HSV1.out.ch hcA (by simp)) (HCI1.out.ch hcA (by simp) (by simp)) ua uc mv HML3.out (row.sv hmr rfl (by omega))
        have HY := Lib.hid hva; clear hva HX
        have HBR2 := Lib.hid (HBR.out.ch hcs (by simp)); clear HBR
        have HCX := Lib.hid hcA; clear hcA HCX2 hcs hb17 hmr hmo
        go_wp2_with fail
        clear y0 y1
        refine HY.out.mono ?_
        rintro e w18 ⟨rfl, hcs⟩
        have hbr := HBR2.out.ch hcs (by simp)
        have hco := CObool_is (w := w18) (a := va) k vc HBL.out (by omega) (row.sv hbr rfl (by omega)) false
        have HCX2 := Lib.hid (HCX.out.trans hcs (by simp)); clear HCX hcs hbr HBR2 HY
        obtain ⟨t, ht⟩ : ∃ t, forV mv cls1 = t := ⟨_, rfl⟩
        have hbe := HBE.out
        rw [ht] at hbe
        rw [ht]
        have HCO := Lib.hid hco; clear hco ht
        cases t
        · clear hbe
          go_wp2_with fail
          go_roundw
          case rel => exact ⟨x + 1, by omega, by go_num, HCX2.out⟩
          case measure => simp [intOf]; omega
        · have hb9 := hbe rfl
          have hco := HCO.out
          rw [hb9] at hco
          have HCO2 := Lib.hid hco; clear hco hb9 hbe HCO
          go_wp2_with fail
          refine HCO2.out.mono ?_
          rintro e w' ⟨rfl, rfl⟩
          go_wp2_with fail
          go_roundw
          case rel => exact ⟨x + 1, by omega, by go_num, HCX2.out⟩
          case measure => simp [intOf]; omega
      · have HCW := Lib.hid hcw; clear hcw hc
        go_wp2_with fail
        go_ret
        exact ⟨rfl, (HC1.out.trans HC12.out (by simp)).trans HCW.out (by simp)⟩
end
end Go.Proofs.Ytkedpifopclipaa
