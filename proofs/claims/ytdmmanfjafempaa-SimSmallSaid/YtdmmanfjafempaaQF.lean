/-
  The reference of chapter 21: True, Support. Conditions: a graph of the reference that can be read, at most 17 inputs.
  Words and bits of all references, plainly. Conditions: none beyond the hypotheses.
  What tables, counts and first assignments are, plainly, for the laws of chapter 21. Conditions: none beyond the hypotheses.
  The reference of chapter 21: Parted. Conditions: a graph of the reference that can be read, at most 17 inputs.
  The reference of chapter 21: Support. Conditions: a graph of the reference that can be read, references of it.
  Walk over Begin of chapter 23's laws: a graph, and the same one of the reference. Conditions: numbers in range.
  Walks over build and inputs of chapter 21's laws: a graph, and the same one of the reference. Conditions: a slice of at most 61 nodes of any integers.
  Plain facts of a graph of sixteen inputs: its table, count and first assignments. Conditions: none.
  Walk over wide of chapter 21's laws: tables of sixteen inputs. Conditions: a slice of sixteen nodes, all inputs.
  Walks over EqualFunc of two slices that agree, over same of chapter 21's laws. Conditions: slices that can be read.
  A table out of the numbers for which something is true, plainly; a reference's graph among the slices that are held. Conditions: none beyond the hypotheses.
  Walk over tables of chapter 21's laws: true. Conditions: a slice of at most 61 nodes of any integers, of which at most 9 are inputs, or more than 16; any integers.
  Walk over columns of chapter 21's laws: true. Conditions: a graph of the reference that can be read; the words of its nodes and of references.
  Walk over words of chapter 21's laws: true. Conditions: a slice of at most 61 nodes of any integers, at most 70 words, at most 20 references of any integers.
  Walk over slices.Clone of nodes; nodes in a block of one's own. Conditions: a slice that can be read.
-/
import Derived.Test.YtdmmanfjafempaaQE
import Derived.Test.YtdmmanfjafempaaQD
import Derived.Test.YtdmmanfjafempaaQC
namespace Go.Aig
/-- the numbers for which something is true -/
def trueL (n : Nat) (p : Nat → Bool) : List Nat := (List.range (2 ^ n)).filter p
theorem filter_succ (p : Nat → Bool) (x : Nat) : (List.range (x + 1)).filter p = (List.range x).filter p ++ (if p x then [x] else []) := by
  rw [List.range_succ, List.filter_append]
  congr 1
  cases h : p x <;> simp [h]
theorem filter_len_le (p : Nat → Bool) (x : Nat) : ((List.range x).filter p).length ≤ x := by
  have := List.length_filter_le p (List.range x)
  rwa [List.length_range] at this
end Go.Aig
namespace Go.Proofs.Ytdmmanfjafempaa
open Go.RowKit Go.Mem Go.Aig
section
variable {w : World}
theorem tell_val {ns : List Nd} {n r : Nat} (x : Nat) : wref 1 (valsN (asgN n x) ns) r = (tellR ns n r x).toNat := by
  rw [vals_bv (asgN_le n x), asgN_bits]
  rfl
set_option maxRecDepth 100000 in
set_option maxHeartbeats 2000000 in
theorem r21True_is {rb cap : Nat} {G : Gra} (h : RG w rb cap G) {n : Nat} (hn : (inputs G.nodes).length = n) (hn17 : n ≤ 17) (r : Nat) (hr : r < 2 * G.nodes.length) :
    Calls Try.prog 55 #[.agg #[.int .i64 G.most, .slice (some ⟨rb, 0, none⟩) G.nodes.length cap], .int .i64 r] w fun e w' => ∃ v, e = .returned v ∧ row w' 3 1 v (trueL n (tellR G.nodes n r)).length (refsCells (trueL n (tellR G.nodes n r))) ∧ (∀ q ∈ v.ownBlock.toList, w.heap.size ≤ q) ∧ Ch [] w w' := by
  obtain ⟨hl, hp, hmo⟩ := h.len
  have hVAL := fun (W : World) (hW : Ch [] w W) (x : Nat) (xa : Option Addr) (xc : Nat) (hI : Sv W xa (refsCells (asgN n x))) => r21Value_is (h.ch hW (by simp)) (xa := xa) n xc (asgN_len n x) hI (asgN_le n x) (by omega) r hr
  simp only [tell_val] at hVAL
  have hIN := fun (W : World) (hW : Ch [] w W) => rInputs_is (h.ch hW (by simp))
  simp only [hn] at hIN
  have hAS := fun (W : World) (x : Nat) (hx : x ≤ 9223372036854775807) => r21Assignment_is (w := W) n x (by omega) hx
  obtain ⟨P, hP⟩ : ∃ P : Nat → Nat, P = fun k => 2 ^ k := ⟨_, rfl⟩
  have hP0 : P 0 = 1 := by rw [hP]
  have hPs : ∀ k, P (k + 1) = 2 * P k := fun k => by rw [hP]; exact Nat.pow_succ'
  have hPb : ∀ k, k ≤ 17 → P k ≤ 131072 := fun k hk => by
    rw [hP]
    have : (2 : Nat) ^ k ≤ 2 ^ 17 := Nat.pow_le_pow_right (by omega) hk
    exact this
  have hPn : trueL n (tellR G.nodes n r) = (List.range (P n)).filter (tellR G.nodes n r) := by rw [hP]; rfl
  rw [hPn]
  have hrb : r ≤ 200000 := by omega
  clear h hP hPn hn hr
  generalize tellR G.nodes n r = p at *
  have HVAL := Lib.hid hVAL; clear hVAL
  have HIN := Lib.hid hIN; clear hIN
  have HAS := Lib.hid hAS; clear hAS
  have HP0 := Lib.hid hP0; clear hP0
  have HPS := Lib.hid hPs; clear hPs
  have HPB := Lib.hid hPb; clear hPb
  go_enter Try.func55, Try.ntmps55
  go_wp2_with fail
  refine calls_named fun W0 hW0 => ?_
  have hc0 : Ch [] w W0 := by rw [hW0]; exact (Ch.refl _ _).alloc _
  have b2 : blk W0 w.heap.size [.int .i64 G.most, .slice (some ⟨rb, 0, none⟩) G.nodes.length cap] := by rw [hW0]; exact blk.new' (w := w) [.int .i64 G.most, .slice (some ⟨rb, 0, none⟩) G.nodes.length cap] 83 rfl
  clear hW0
  refine (HIN.out W0 hc0).mono ?_
  rintro e w1 ⟨v, rfl, hrow, _, hc1⟩
  obtain ⟨ia, ic, rfl⟩ := row.shape hrow
  have B2 := Lib.hid (b2.ch hc1 (by simp)); clear b2
  have HC1 := Lib.hid (hc0.trans hc1 (by simp)); clear hc0 hc1 hrow HIN
  generalize w.heap.size = bx at B2 ⊢
  go_wp2_with fail
  go_loopw [6, 7] (fun q i wr => ∃ k : Nat, k ≤ n ∧ i = .int .i64 k ∧ q = .int .i64 (P k : Nat) ∧ w1 = wr) (fun _ i _ => n - (intOf i).toNat)
  case atStart => exact ⟨0, by omega, rfl, by rw [HP0.out]; rfl, rfl⟩
  case round =>
    obtain ⟨k, hk, rfl, rfl, rfl⟩ := hrel
    by_cases hlt : k < n
    · have hps := HPS.out k
      have hpb := HPB.out k (by omega)
      obtain ⟨q, hq⟩ : ∃ q, P k = q := ⟨_, rfl⟩
      rw [hq] at hps hpb ⊢
      have HPK := Lib.hid hps; clear hps hq
      go_wp2_with fail
      go_roundw
      case rel => exact ⟨k + 1, by omega, by go_num, by rw [HPK.out]; go_num, trivial⟩
      case measure => simp [intOf]; omega
    · have hkn : k = n := by omega
      subst hkn
      have hDb := HPB.out k hn17
      obtain ⟨D, hD⟩ : ∃ D, P k = D := ⟨_, rfl⟩
      rw [hD] at hDb ⊢
      have HD := Lib.hid hD; clear hD
      clear HPB HPS HP0
      go_wp2_with fail
      go_loopw [8, 9] (fun o i wr => ∃ x : Nat, x ≤ D ∧ i = .int .i64 x ∧ Ch [] w1 wr ∧ row wr 3 1 o ((List.range x).filter p).length (refsCells ((List.range x).filter p)) ∧ ∀ q ∈ o.ownBlock.toList, w1.heap.size ≤ q) (fun _ i _ => D - (intOf i).toNat)
      case atStart => exact ⟨0, by omega, rfl, Ch.refl _ _, ⟨rfl, .inl ⟨rfl, rfl⟩⟩, by simp⟩
      case round =>
        obtain ⟨x, hx, rfl, hc, hrow, hlo⟩ := hrel
        obtain ⟨oa, oc, rfl⟩ := row.shape hrow
        by_cases hlt2 : x < D
        · have hfs := filter_succ p x
          have hfl := filter_len_le p x
          generalize hLx : (List.range x).filter p = Lx at *
          have HFS := Lib.hid hfs; clear hfs hLx
          have HROW := Lib.hid hrow; clear hrow
          have HLO := Lib.hid hlo; clear hlo
          have bR := B2.out.ch hc (by simp)
          have HBR := Lib.hid bR
          have cx0 := bR.cell (i := 0) rfl
          have cx1 := bR.cell (i := 1) rfl
          have HC := Lib.hid hc; clear hc bR
          go_wp2_with fail
          refine Ord.St.door (fun w' => w'.cell? ⟨bx, 0, none⟩ = some (.int .i64 G.most) ∧ w'.cell? ⟨bx, 1, none⟩ = some (.slice (some ⟨rb, 0, none⟩) G.nodes.length cap)) [.ho, .fl, .fl, .ef, .fl, .ef, .fl] [0, 0, 0, 6, 0, 31, 63] [0, 1, 2, 3, 4, 5, 6] mixed (by kernel_rfl) rfl ?_
          obtain ⟨Wc, hWc⟩ : ∃ Wc, Wc = wr.drew := ⟨_, rfl⟩
          rw [← hWc]
          have hcc : Ch [] wr Wc := by rw [hWc]; exact (Ch.refl _ _).drew
          clear hWc cx0 cx1
          have HCC := Lib.hid hcc
          have cx0 := (HBR.out.ch hcc (by simp)).cell (i := 0) rfl
          have cx1 := (HBR.out.ch hcc (by simp)).cell (i := 1) rfl
          clear hcc
          refine Ord.St.ho2 (T' := ?_) 0 [1, 2, 3, 4, 5, 6] _ _ rfl (by kernel_rfl) rfl rfl rfl rfl ?_ (fun K w' hw' hk => ?_) ?_
          rotate_left
          · exact ⟨cx0, cx1⟩
          · obtain ⟨q1, q2⟩ := hw'; go_step; exact hk
          refine Ord.St.fl2 (T' := ?_) 1 [2, 3, 4, 5, 6] _ _ rfl (by kernel_rfl) rfl rfl rfl rfl (fun K w' hk => ?_) ?_
          rotate_left
          · go_step; exact hk
          refine Ord.St.fl2 (T' := ?_) 2 [3, 4, 5, 6] _ _ rfl (by kernel_rfl) rfl rfl rfl rfl (fun K w' hk => ?_) ?_
          rotate_left
          · go_step; exact hk
          refine Ord.St.fl2 (T' := ?_) 4 [3, 5, 6] _ _ rfl (by kernel_rfl) rfl rfl rfl rfl (fun K w' hk => ?_) ?_
          rotate_left
          · go_step; exact hk
          refine Ord.St.efC 3 [5, 6] _ rfl (by kernel_rfl) (fun K hK => ?_)
          go_wp2_with fail
          refine (HAS.out Wc x (by omega)).mono ?_
          rintro e w3 ⟨v, rfl, hrw, _, hc3⟩
          obtain ⟨aa, ac, rfl⟩ := row.shape hrw
          have hsv := row.sv hrw rfl (by omega)
          have HSV := Lib.hid hsv
          have HCD := Lib.hid (HCC.out.trans hc3 (by simp))
          clear hrw hsv hc3 cx0 cx1
          have cx0 := (HBR.out.ch HCD.out (by simp)).cell (i := 0) rfl
          have cx1 := (HBR.out.ch HCD.out (by simp)).cell (i := 1) rfl
          go_wp2_with fail
          refine ⟨rfl, hK _ _ ?_ ?_⟩
          · exact ⟨cx0, cx1⟩
          clear hK K
          refine Ord.St.ef 5 [6] _ rfl (by kernel_rfl) (fun K hK => ?_)
          have hvv := HVAL.out w3 ((HC1.out.trans HC.out (by simp)).trans HCD.out (by simp)) x aa ac HSV.out
          obtain ⟨pb, hpb⟩ : ∃ pb, p x = pb := ⟨_, rfl⟩
          rw [hpb] at hvv
          have HVV := Lib.hid hvv
          have hfs := HFS.out
          rw [hpb] at hfs
          have HFS2 := Lib.hid hfs
          clear hvv hpb hfs HFS
          go_wp2_with fail
          refine HVV.out.mono ?_
          rintro e w4 ⟨rfl, hc4⟩
          have HCE := Lib.hid (HCD.out.trans hc4 (by simp))
          clear hc4 HVV cx0 cx1
          go_wp2_with fail
          refine ⟨rfl, hK _ _ ?_⟩; clear hK K
          refine Ord.St.fl2 (T' := ?_) 6 [] _ _ rfl (by kernel_rfl) rfl rfl rfl rfl (fun K w' hk => ?_) ?_
          rotate_left
          · go_step; exact hk
          refine Ord.St.nil ?_
          cases pb
          · go_wp2_with fail
            go_roundw
            case rel => exact ⟨x + 1, by omega, by go_num, HC.out.trans HCE.out (by simp), by rw [HFS2.out]; simpa using HROW.out.ch HCE.out (by simp), HLO.out⟩
            case measure => simp [intOf]; omega
          · have hcA : Ch [] w4 (w4.alloc (.cells #[.int .i64 x] 3)) := (Ch.refl _ _).alloc _
            have hrA := (HROW.out.ch HCE.out (by simp)).ch hcA (by simp)
            have hbA : blk (w4.alloc (.cells #[.int .i64 x] 3)) w4.heap.size [.int .i64 x] := blk.new' _ _ rfl
            have HRA := Lib.hid hrA; clear hrA
            have HBA := Lib.hid hbA; clear hbA
            have HCA := Lib.hid hcA; clear hcA
            go_wp2_with (at_builtin; go_loud (refine wpList_append_row slInts rfl _ _ rfl (v := .slice oa Lx.length oc) (n := Lx.length) (xs := refsCells Lx) rfl HRA.out (ad := ⟨w4.heap.size, 0, none⟩) (m := 1) (c := 1) (news := [.int .i64 x]) rfl rfl (news_blk HBA.out) (by simp [Value.oneCell']) (by omega) (by omega) ?_; intro v' w5 hown4 hC4 hf4; have HO4 := Lib.hid hown4; clear hown4; have HC4 := Lib.hid hC4; clear hC4; have HF4 := Lib.hid hf4; clear hf4))
            go_roundw
            case rel =>
              obtain ⟨q1, q2⟩ := app_step (HC.out.trans HCE.out (by simp)) HCA.out HLO.out HC4.out HF4.out
              refine ⟨x + 1, by omega, by go_num, q1, ?_, q2⟩
              rw [HFS2.out, if_pos rfl, show refsCells (Lx ++ [x]) = refsCells Lx ++ [.int .i64 x] by simp [refsCells], List.length_append]
              exact HO4.out
            case measure => simp [intOf]; omega
        · have hxD : x = D := by omega
          subst hxD
          have HROW := Lib.hid hrow; clear hrow
          have HLO := Lib.hid hlo; clear hlo
          have HC := Lib.hid hc; clear hc
          go_wp2_with fail
          go_ret
          refine ⟨_, rfl, ?_, fun q hq => Nat.le_trans HC1.out.size (HLO.out q hq), HC1.out.trans HC.out (by simp)⟩
          rw [HD.out]
          exact HROW.out
end
end Go.Proofs.Ytdmmanfjafempaa
namespace Go.Proofs.Ytdmmanfjafempaa
open Go.RowKit Go.Mem Go.Aig
theorem badIn_range {G : Gra} {m : Nat} (h : m ≤ 2 * G.nodes.length) : badIn G (natInts (List.range m)) = false := by
  unfold badIn natInts
  rw [List.any_map, List.any_eq_false]
  intro r hr
  have := List.mem_range.1 hr
  simp [right]
  omega
theorem nats_natInts (l : List Nat) : nats (natInts l) = l := toNats l
/-- the words of the first references -/
def allW (V : List Nat) (m : Nat) : List Nat := (List.range m).map (wref U64 V)
theorem allW_len (V : List Nat) (m : Nat) : (allW V m).length = m := by simp [allW]
theorem allW_at (V : List Nat) {m r : Nat} (h : r < m) : (allW V m)[r]? = some (wref U64 V r) := by
  unfold allW
  rw [List.getElem?_map, List.getElem?_range h]
  rfl
theorem range_snoc2 (k : Nat) : List.range (2 * (k + 1)) = List.range (2 * k) ++ [2 * k, 2 * k + 1] := by
  rw [show 2 * (k + 1) = 2 * k + 1 + 1 by omega, List.range_succ, List.range_succ, List.append_assoc]
  rfl
theorem words_all {G : Gra} {I : List Nat} (hI : I.length = (inputs G.nodes).length) {m : Nat} (h : m ≤ 2 * G.nodes.length) : wordsR G I (natInts (List.range m)) = (allW (wvF U64 I G.nodes).1 m, 0) := by
  unfold wordsR
  rw [badIn_range h, if_neg (by simp), if_neg (by simpa using hI), nats_natInts]
  rfl
theorem bits_words {G : Gra} {I : List Nat} (hI : I.length = (inputs G.nodes).length) {l : List Int} (hb : badIn G l = false) {kk : Nat} (hk : kk < 64) : bitsR G (I.map fun v => v.testBit kk) l = ((wsOf I G.nodes (nats l)).map fun v => v.testBit kk, 0) := by
  unfold bitsR
  rw [hb, if_neg (by simp), if_neg (by simpa using hI)]
  congr 1
  unfold bsOf wsOf
  rw [List.map_map]
  apply List.map_congr_left
  intro r _
  have := wv_bv (N := 64) hk I G.nodes r
  rw [u64_pow] at this
  show _ = (wref 18446744073709551615 (wvF 18446744073709551615 I G.nodes).1 r).testBit kk
  rw [this]
  congr 1
  funext i
  rw [List.getD_eq_getElem?_getD, List.getD_eq_getElem?_getD, List.getElem?_map]
  cases I[i]? <;> simp
end Go.Proofs.Ytdmmanfjafempaa
namespace Go.Aig
theorem tabE_zero {G : Gra} {l : List Nat} (hr : ∀ r ∈ l, r < 2 * G.nodes.length) (hk : (inputs G.nodes).length ≤ 16) : Go.Proofs.Ytdmmanfjafempaa.tabE G (natInts l) = 0 := by
  have hb : badIn G (natInts l) = false := by
    unfold badIn natInts
    rw [List.any_map, List.any_eq_false]
    intro r h
    have := hr r h
    simp [right]
    omega
  unfold Go.Proofs.Ytdmmanfjafempaa.tabE
  rw [hb, if_neg (by simp), if_neg (by omega)]
theorem table_ok {G : Gra} {r k : Nat} (hr : r < 2 * G.nodes.length) (hk : (inputs G.nodes).length = k) (h16 : k ≤ 16) : Go.Proofs.Ytdmmanfjafempaa.tableR G (r : Int) = (tabW G.nodes (Go.Proofs.Ytdmmanfjafempaa.oneF r) k, 0) := by
  have h := tabE_zero (G := G) (l := [r]) (by simpa using hr) (by omega)
  unfold Go.Proofs.Ytdmmanfjafempaa.tableR
  rw [show [(r : Int)] = natInts [r] from rfl, h, if_pos rfl, hk]
theorem count_ok {G : Gra} {r k : Nat} (hr : r < 2 * G.nodes.length) (hk : (inputs G.nodes).length = k) (h16 : k ≤ 16) : Go.Proofs.Ytdmmanfjafempaa.countR G (r : Int) = (countV k (tellR G.nodes k r), 0) := by
  have h := tabE_zero (G := G) (l := [r]) (by simpa using hr) (by omega)
  unfold Go.Proofs.Ytdmmanfjafempaa.countR
  rw [show [(r : Int)] = natInts [r] from rfl, h, if_pos rfl, hk]
  rfl
theorem first_ok {G : Gra} {r k : Nat} (hr : r < 2 * G.nodes.length) (hk : (inputs G.nodes).length = k) (h16 : k ≤ 16) : Go.Proofs.Ytdmmanfjafempaa.firstG G (r : Int) = (firstR k (tellR G.nodes k r), 0) := by
  have h := tabE_zero (G := G) (l := [r]) (by simpa using hr) (by omega)
  unfold Go.Proofs.Ytdmmanfjafempaa.firstG
  rw [show [(r : Int)] = natInts [r] from rfl, h, if_pos rfl, hk]
  rfl
theorem parts_ok {G : Gra} {r s k : Nat} (hr : r < 2 * G.nodes.length) (hs : s < 2 * G.nodes.length) (hk : (inputs G.nodes).length = k) (h16 : k ≤ 16) : Go.Proofs.Ytdmmanfjafempaa.partsG G (r : Int) (s : Int) = (firstR k (tellX G.nodes k r s), 0) := by
  have h := tabE_zero (G := G) (l := [r, s]) (by intro x hx; simp only [List.mem_cons, List.not_mem_nil, or_false] at hx; rcases hx with rfl | rfl <;> assumption) (by omega)
  unfold Go.Proofs.Ytdmmanfjafempaa.partsG
  rw [show [(r : Int), (s : Int)] = natInts [r, s] from rfl, h, if_pos rfl, hk]
  rfl
theorem tellR_neg (ns : List Nd) (k r : Nat) : tellR ns k (neg r) = fun a => !tellR ns k r a := by
  funext a
  unfold tellR
  rw [bv_neg]
theorem firstR_len (k : Nat) (p : Nat → Bool) : (firstR k p).1.length = if (firstR k p).2 then k else 0 := by
  unfold firstR
  cases firstV k p with
  | none => rfl
  | some a => simp [asgBits_len]
theorem firstR_is (k : Nat) (p : Nat → Bool) : (firstR k p).2 = decide (0 < countV k p) := by
  cases h : firstV k p with
  | none =>
    have h2 := firstV_none.1 h
    have : ¬ 0 < countV k p := fun h0 => by
      obtain ⟨a, h1, h3⟩ := (countV_pos k p).1 h0
      rw [h2 a h1] at h3; cases h3
    unfold firstR
    rw [h, decide_eq_false this]
  | some a =>
    obtain ⟨h1, h2, _⟩ := firstV_some h
    have : 0 < countV k p := (countV_pos k p).2 ⟨a, h1, h2⟩
    unfold firstR
    rw [h, decide_eq_true this]
/-- the first number below a of which p is true; -1 if there is none -/
def fstI (p : Nat → Bool) (a : Nat) : Int := match (List.range a).find? p with
  | none => -1
  | some x => x
theorem fstI_succ (p : Nat → Bool) (a : Nat) : fstI p (a + 1) = if fstI p a < 0 ∧ p a = true then (a : Int) else fstI p a := by
  unfold fstI
  rw [List.range_succ, List.find?_append]
  cases h : (List.range a).find? p with
  | none =>
    cases hp : p a with
    | false => simp [hp]
    | true => simp [hp]
  | some x => simp; omega
theorem fstI_lt (p : Nat → Bool) (a : Nat) : fstI p a < a ∧ -1 ≤ fstI p a := by
  unfold fstI
  cases h : (List.range a).find? p with
  | none => simp; omega
  | some x =>
    have := List.mem_of_find?_eq_some h
    have := List.mem_range.1 this
    simp; omega
theorem fstI_neg {p : Nat → Bool} {a : Nat} (h : fstI p a < 0) : ∀ b, b < a → p b = false := by
  unfold fstI at h
  cases hf : (List.range a).find? p with
  | none =>
    intro b hb
    have := List.find?_eq_none.1 hf b (List.mem_range.2 hb)
    simpa using this
  | some x => rw [hf] at h; simp at h; omega
theorem cnt_succ (p : Nat → Bool) (a : Nat) : ((List.range (a + 1)).filter p).length = ((List.range a).filter p).length + (p a).toNat := by
  rw [List.range_succ, List.filter_append, List.length_append]
  cases h : p a <;> simp [h]
end Go.Aig
namespace Go.Proofs.Ytdmmanfjafempaa
open Go.RowKit Go.Mem Go.Aig
theorem tab_bit64 {T : List Nat} {n : Nat} {p : Nat → Bool} (h : TabOf T n p) (hT : ∀ v ∈ T, v < 2 ^ 64) {a : Nat} (ha : a < 2 ^ n) : ∃ x, T[a / 64]? = some x ∧ (bits .and .u64 ((x : Int) / 2 ^ (a % 64)) 1 == 1) = p a := by
  have hle := blocks_le n
  have hl : a / 64 < T.length := by rw [h.len]; omega
  refine ⟨T[a / 64], List.getElem?_eq_getElem hl, ?_⟩
  rw [bit_u64 _ _ (hT _ (List.getElem_mem hl)), ← h.at' a ha]
  unfold tbit
  rw [List.getD_eq_getElem?_getD, List.getElem?_eq_getElem hl]
  rfl
theorem bits_one {G : Gra} {k a r : Nat} (hk : (inputs G.nodes).length = k) (hr : r < 2 * G.nodes.length) : bitsR G (asgBits k a) [(r : Int)] = ([tellR G.nodes k r a], 0) := by
  have hb : badIn G (natInts [r]) = false := by
    unfold badIn natInts
    simp [right]
    omega
  unfold bitsR
  rw [show [(r : Int)] = natInts [r] from rfl, hb, if_neg (by simp), if_neg (by rw [asgBits_len, hk]; simp), nats_natInts]
  unfold bsOf tellR
  rw [asgBits_at]
  rfl
theorem Eqbool_c {w : World} {a b : Option Addr} {xs ys : List Bool} {n m ca cb : Nat} (hx : Sb w a xs) (hy : Sb w b ys) (hn : xs.length = n) (hm : ys.length = m) {q : Bool} (hq : decide (xs = ys) = q) :
    Calls Try.prog 61 #[.slice a n ca, .slice b m cb] w fun e w' => e = .returned (.bool q) ∧ Ch [] w w' := by
  subst hn hm hq
  exact Eqbool_is ca cb hx hy
end Go.Proofs.Ytdmmanfjafempaa
namespace Go.Aig
theorem filter_at (p : Nat → Bool) : ∀ (N k z : Nat), ((List.range N).filter p)[k]? = some z → p z = true ∧ z < N ∧ ((List.range N).filter p).take k = (List.range z).filter p
  | 0, k, z, h => by simp at h
  | N + 1, k, z, h => by
    rw [filter_succ] at h ⊢
    by_cases hk : k < ((List.range N).filter p).length
    · rw [List.getElem?_append_left hk] at h
      obtain ⟨h1, h2, h3⟩ := filter_at p N k z h
      exact ⟨h1, by omega, by rw [List.take_append_of_le_length (by omega)]; exact h3⟩
    · rw [List.getElem?_append_right (by omega)] at h
      by_cases hp : p N = true
      · rw [if_pos hp] at h
        have hlt := (List.getElem?_eq_some_iff.1 h).1
        simp only [List.length_cons, List.length_nil] at hlt
        have e : k - ((List.range N).filter p).length = 0 := by omega
        rw [e] at h
        have hz : N = z := by simpa using h
        subst hz
        refine ⟨hp, by omega, ?_⟩
        rw [List.take_append_of_le_length (by omega), List.take_of_length_le (by omega)]
      · rw [if_neg hp] at h
        simp at h
theorem mem_filter_range {p : Nat → Bool} {z j : Nat} : j ∈ (List.range z).filter p ↔ j < z ∧ p j = true := by rw [List.mem_filter, List.mem_range]
/-- the first number for which two are not the same, -1 if there is none -/
def partL (n : Nat) (p q : Nat → Bool) : Int := match firstV n (fun k => p k ^^ q k) with
  | none => -1
  | some x => x
theorem partL_some {n d : Nat} {p q : Nat → Bool} (hd : d < 2 ^ n) (h1 : p d ≠ q d) (h2 : ∀ j, j < d → p j = q j) : partL n p q = d := by
  have : firstV n (fun k => p k ^^ q k) = some d := by
    unfold firstV
    refine find_range _ d ?_ (fun b hb => ?_) _ hd
    · cases h3 : p d <;> cases h4 : q d <;> simp_all
    · rw [h2 b hb, Bool.xor_self]
  unfold partL
  rw [this]
section
variable {n k z u : Nat} {p q : Nat → Bool} (ht : (trueL n p).take k = (trueL n q).take k)
include ht
theorem part_both (hx : (trueL n p)[k]? = some z) (hy : (trueL n q)[k]? = some u) (hne : z ≠ u) : partL n p q = (min z u : Nat) := by
  obtain ⟨a1, a2, a3⟩ := filter_at p _ k z hx
  obtain ⟨b1, b2, b3⟩ := filter_at q _ k u hy
  have ht' : (List.range z).filter p = (List.range u).filter q := by rw [← a3, ← b3]; exact ht
  have key : ∀ j, (j < z ∧ p j = true) ↔ (j < u ∧ q j = true) := fun j => by rw [← mem_filter_range, ← mem_filter_range, ht']
  have hb : ∀ j, j < min z u → p j = q j := fun j hj => by
    have := key j
    cases h3 : p j <;> cases h4 : q j <;> simp_all <;> omega
  refine partL_some (by omega) ?_ hb
  by_cases hzu : z < u
  · rw [Nat.min_eq_left (by omega), a1]
    intro e
    have := (key z).2 ⟨hzu, e.symm⟩
    omega
  · rw [Nat.min_eq_right (by omega), b1]
    intro e
    have := (key u).1 ⟨by omega, e⟩
    omega
theorem part_right (hx : (trueL n p).length = k) (hy : (trueL n q)[k]? = some u) : partL n p q = u := by
  obtain ⟨b1, b2, b3⟩ := filter_at q _ k u hy
  have ht' : (List.range (2 ^ n)).filter p = (List.range u).filter q := by
    rw [← b3]
    have := ht
    rw [List.take_of_length_le (by omega)] at this
    exact this
  have key : ∀ j, (j < 2 ^ n ∧ p j = true) ↔ (j < u ∧ q j = true) := fun j => by rw [← mem_filter_range, ← mem_filter_range, ht']
  refine partL_some b2 ?_ (fun j hj => ?_)
  · rw [b1]
    intro e
    have := (key u).1 ⟨b2, e⟩
    omega
  · have := key j
    cases h3 : p j <;> cases h4 : q j <;> simp_all <;> omega
theorem part_left (hy : (trueL n q).length = k) (hx : (trueL n p)[k]? = some z) : partL n p q = z := by
  obtain ⟨b1, b2, b3⟩ := filter_at p _ k z hx
  have ht' : (List.range z).filter p = (List.range (2 ^ n)).filter q := by
    rw [← b3]
    have := ht
    rw [List.take_of_length_le (l := trueL n q) (by omega)] at this
    exact this
  have key : ∀ j, (j < z ∧ p j = true) ↔ (j < 2 ^ n ∧ q j = true) := fun j => by rw [← mem_filter_range, ← mem_filter_range, ht']
  refine partL_some b2 ?_ (fun j hj => ?_)
  · rw [b1]
    intro e
    have := (key z).2 ⟨b2, e.symm⟩
    omega
  · have := key j
    cases h3 : p j <;> cases h4 : q j <;> simp_all <;> omega
theorem part_none (hx : (trueL n p).length = k) (hy : (trueL n q).length = k) : partL n p q = -1 := by
  have ht' : (List.range (2 ^ n)).filter p = (List.range (2 ^ n)).filter q := by
    have := ht
    rw [List.take_of_length_le (by omega), List.take_of_length_le (by omega)] at this
    exact this
  have key : ∀ j, (j < 2 ^ n ∧ p j = true) ↔ (j < 2 ^ n ∧ q j = true) := fun j => by rw [← mem_filter_range, ← mem_filter_range, ht']
  have : firstV n (fun k => p k ^^ q k) = none := firstV_none.2 fun j hj => by
    have := key j
    cases h3 : p j <;> cases h4 : q j <;> simp_all
  unfold partL
  rw [this]
end
end Go.Aig
namespace Go.Proofs.Ytdmmanfjafempaa
open Go.RowKit Go.Mem Go.Aig
section
variable {w : World}
theorem takeR_succ {xs ys : List Nat} {k x y : Nat} (h : xs.take k = ys.take k) (hx : xs[k]? = some x) (hy : ys[k]? = some y) (e : x = y) : xs.take (k + 1) = ys.take (k + 1) := by
  rw [List.take_add_one, List.take_add_one, h, hx, hy, e]
set_option maxRecDepth 100000 in
set_option maxHeartbeats 2000000 in
theorem r21Parted_is {rb cap : Nat} {G : Gra} (h : RG w rb cap G) {n : Nat} (hn : (inputs G.nodes).length = n) (hn17 : n ≤ 17) (r s : Nat) (hr : r < 2 * G.nodes.length) (hs : s < 2 * G.nodes.length) :
    Calls Try.prog 57 #[.agg #[.int .i64 G.most, .slice (some ⟨rb, 0, none⟩) G.nodes.length cap], .int .i64 r, .int .i64 s] w fun e w' => e = .returned (.int .i64 (partL n (tellR G.nodes n r) (tellR G.nodes n s))) ∧ Ch [] w w' := by
  have hT1 := fun (W : World) (hW : Ch [] w W) => r21True_is (h.ch hW (by simp)) hn hn17 r hr
  have hT2 := fun (W : World) (hW : Ch [] w W) => r21True_is (h.ch hW (by simp)) hn hn17 s hs
  have hD : (2 : Nat) ^ n ≤ 131072 := Nat.pow_le_pow_right (by omega) hn17
  have hxl := filter_len_le (tellR G.nodes n r) (2 ^ n)
  have hyl := filter_len_le (tellR G.nodes n s) (2 ^ n)
  have hxm : ∀ z ∈ trueL n (tellR G.nodes n r), z < 2 ^ n := fun z hz => List.mem_range.1 (List.mem_filter.1 hz).1
  have hym : ∀ z ∈ trueL n (tellR G.nodes n s), z < 2 ^ n := fun z hz => List.mem_range.1 (List.mem_filter.1 hz).1
  have q1 := fun {k z u} => @part_both n k z u (tellR G.nodes n r) (tellR G.nodes n s)
  have q2 := fun {k u} => @part_right n k u (tellR G.nodes n r) (tellR G.nodes n s)
  have q3 := fun {k z} => @part_left n k z (tellR G.nodes n r) (tellR G.nodes n s)
  have q4 := fun {k} => @part_none n k (tellR G.nodes n r) (tellR G.nodes n s)
  change (trueL n (tellR G.nodes n r)).length ≤ 2 ^ n at hxl
  change (trueL n (tellR G.nodes n s)).length ≤ 2 ^ n at hyl
  obtain ⟨m, hm⟩ : ∃ m, partL n (tellR G.nodes n r) (tellR G.nodes n s) = m := ⟨_, rfl⟩
  rw [hm]
  simp only [hm] at q1 q2 q3 q4
  obtain ⟨X, hX⟩ : ∃ X, trueL n (tellR G.nodes n r) = X := ⟨_, rfl⟩
  obtain ⟨Y, hY⟩ : ∃ Y, trueL n (tellR G.nodes n s) = Y := ⟨_, rfl⟩
  simp only [hX] at hT1 hxl hxm q1 q2 q3 q4
  simp only [hY] at hT2 hyl hym q1 q2 q3 q4
  replace hxl : X.length ≤ 131072 := by omega
  replace hyl : Y.length ≤ 131072 := by omega
  replace hxm : ∀ z ∈ X, z < 131072 := fun z hz => by have := hxm z hz; omega
  replace hym : ∀ z ∈ Y, z < 131072 := fun z hz => by have := hym z hz; omega
  clear hX hY hm hr hs hD
  have HT1 := Lib.hid hT1; clear hT1
  have HT2 := Lib.hid hT2; clear hT2
  have HXM := Lib.hid hxm; clear hxm
  have HYM := Lib.hid hym; clear hym
  have Q1 := Lib.hid (fun (k z u : Nat) => q1 (k := k) (z := z) (u := u)); clear q1
  have Q2 := Lib.hid (fun (k u : Nat) => q2 (k := k) (u := u)); clear q2
  have Q3 := Lib.hid (fun (k z : Nat) => q3 (k := k) (z := z)); clear q3
  have Q4 := Lib.hid (fun (k : Nat) => q4 (k := k)); clear q4
  clear hn h
  go_enter Try.func57, Try.ntmps57
  go_wp2_with fail
  refine wp_named fun W0 hW0 => ?_
  have hc0 : Ch [] w W0 := by rw [hW0]; exact (Ch.refl _ _).alloc _
  have b2 : blk W0 w.heap.size [.int .i64 G.most, .slice (some ⟨rb, 0, none⟩) G.nodes.length cap] := by rw [hW0]; exact blk.new' (w := w) [.int .i64 G.most, .slice (some ⟨rb, 0, none⟩) G.nodes.length cap] 83 rfl
  clear hW0
  have cx0 := b2.cell (i := 0) rfl
  have cx1 := b2.cell (i := 1) rfl
  have HBR := Lib.hid b2; clear b2
  have HC0 := Lib.hid hc0; clear hc0
  generalize w.heap.size = bx at HBR cx0 cx1 ⊢
  go_upto_region 1 with fail
  go_cut [7, 8] (fun a b wd => ∃ xa xc ya yc, a = .slice xa X.length xc ∧ b = .slice ya Y.length yc ∧ Sv wd xa (refsCells X) ∧ Sv wd ya (refsCells Y) ∧ Ch [] w wd)
  case first =>
    refine Ord.St.door (fun w' => w'.cell? ⟨bx, 0, none⟩ = some (.int .i64 G.most) ∧ w'.cell? ⟨bx, 1, none⟩ = some (.slice (some ⟨rb, 0, none⟩) G.nodes.length cap)) [.rd, .fl, .ef, .ho, .fl, .ef, .fl, .fl] [0, 0, 3, 0, 0, 31, 63, 127] [0, 1, 2, 3, 4, 5, 6, 7] mixed (by kernel_rfl) rfl ?_
    obtain ⟨Wc, hWc⟩ : ∃ Wc, Wc = W0.drew := ⟨_, rfl⟩
    rw [← hWc]
    have hcc : Ch [] W0 Wc := by rw [hWc]; exact (Ch.refl _ _).drew
    clear hWc cx0 cx1
    have HCC := Lib.hid hcc
    have cx0 := (HBR.out.ch hcc (by simp)).cell (i := 0) rfl
    have cx1 := (HBR.out.ch hcc (by simp)).cell (i := 1) rfl
    clear hcc
    refine Ord.St.rd2 (T' := ?_) 0 [1, 2, 3, 4, 5, 6, 7] _ _ rfl (by kernel_rfl) rfl rfl rfl rfl (fun K hk => ?_) ?_
    rotate_left
    · go_step; exact hk
    refine Ord.St.fl2 (T' := ?_) 1 [2, 3, 4, 5, 6, 7] _ _ rfl (by kernel_rfl) rfl rfl rfl rfl (fun K w' hk => ?_) ?_
    rotate_left
    · go_step; exact hk
    refine Ord.St.ho2 (T' := ?_) 3 [2, 4, 5, 6, 7] _ _ rfl (by kernel_rfl) rfl rfl rfl rfl ?_ (fun K w' hw' hk => ?_) ?_
    rotate_left
    · exact ⟨cx0, cx1⟩
    · obtain ⟨q1, q2⟩ := hw'; go_step; exact hk
    refine Ord.St.fl2 (T' := ?_) 4 [2, 5, 6, 7] _ _ rfl (by kernel_rfl) rfl rfl rfl rfl (fun K w' hk => ?_) ?_
    rotate_left
    · go_step; exact hk
    refine Ord.St.efC 2 [5, 6, 7] _ rfl (by kernel_rfl) (fun K hK => ?_)
    go_wp2_with fail
    refine (HT1.out Wc (HC0.out.trans HCC.out (by simp))).mono ?_
    rintro e w3 ⟨v, rfl, hrw, _, hc3⟩
    obtain ⟨aa, ac, rfl⟩ := row.shape hrw
    have hsv := row.sv hrw rfl (by omega)
    have HSV := Lib.hid hsv
    have HCD := Lib.hid (HCC.out.trans hc3 (by simp))
    clear hrw hsv hc3 cx0 cx1
    have cx0 := (HBR.out.ch HCD.out (by simp)).cell (i := 0) rfl
    have cx1 := (HBR.out.ch HCD.out (by simp)).cell (i := 1) rfl
    go_wp2_with fail
    refine ⟨rfl, hK _ _ ?_ ?_⟩
    · exact ⟨cx0, cx1⟩
    clear hK K
    refine Ord.St.ef 5 [6, 7] _ rfl (by kernel_rfl) (fun K hK => ?_)
    go_wp2_with fail
    refine (HT2.out w3 (HC0.out.trans HCD.out (by simp))).mono ?_
    rintro e w4 ⟨v, rfl, hrw, _, hc4⟩
    obtain ⟨ab, ad, rfl⟩ := row.shape hrw
    have hsv := row.sv hrw rfl (by omega)
    have HSW := Lib.hid hsv
    have HCE := Lib.hid (HCD.out.trans hc4 (by simp))
    have HSX := Lib.hid (HSV.out.ch hc4 (by simp))
    clear hrw hsv hc4 cx0 cx1
    go_wp2_with fail
    refine ⟨rfl, hK _ _ ?_⟩; clear hK K
    refine Ord.St.fl2 (T' := ?_) 6 [7] _ _ rfl (by kernel_rfl) rfl rfl rfl rfl (fun K w' hk => ?_) ?_
    rotate_left
    · go_step; exact hk
    refine Ord.St.fl2 (T' := ?_) 7 [] _ _ rfl (by kernel_rfl) rfl rfl rfl rfl (fun K w' hk => ?_) ?_
    rotate_left
    · go_step; exact hk
    refine Ord.St.nil ?_
    go_wp2_with fail
    go_meet
    case rel => exact ⟨aa, ac, ab, ad, rfl, rfl, HSX.out, HSW.out, HC0.out.trans HCE.out (by simp)⟩
  case rest =>
    obtain ⟨xa, xc, ya, yc, rfl, rfl, hsx, hsy, hcw⟩ := hcut
    have HSX := Lib.hid hsx; clear hsx
    have HSY := Lib.hid hsy; clear hsy
    have HCW := Lib.hid hcw; clear hcw
    clear HT1 HT2 HBR cx0 cx1
    go_wp2_with fail
    go_loopw [9] (fun i wr => ∃ k : Nat, k ≤ X.length ∧ k ≤ Y.length ∧ i = .int .i64 k ∧ X.take k = Y.take k ∧ Ch [] wc wr) (fun i _ => X.length - (intOf i).toNat)
    case atStart => exact ⟨0, by omega, by omega, rfl, rfl, Ch.refl _ _⟩
    case round =>
      obtain ⟨k, hkx, hky, rfl, ht, hc⟩ := hrel
      have HT := Lib.hid ht; clear ht
      have hcc := HCW.out.trans hc (by simp)
      by_cases hx : k < X.length
      · have d1 : decide (k < X.length) = true := decide_eq_true hx
        have d1' : decide (X.length ≤ k) = false := decide_eq_false (by omega)
        obtain ⟨z, hz⟩ : ∃ z, X[k]? = some z := ⟨_, List.getElem?_eq_getElem hx⟩
        obtain ⟨b1, o1, rfl, c1⟩ := (HSX.out.ch hc (by simp)).cells k (.int .i64 z) (by unfold refsCells; rw [List.getElem?_map, hz]; rfl)
        by_cases hy : k < Y.length
        · have d2 : decide (Y.length ≤ k) = false := decide_eq_false (by omega)
          obtain ⟨u, hu⟩ : ∃ u, Y[k]? = some u := ⟨_, List.getElem?_eq_getElem hy⟩
          obtain ⟨b2, o2, rfl, c2⟩ := (HSY.out.ch hc (by simp)).cells k (.int .i64 u) (by unfold refsCells; rw [List.getElem?_map, hu]; rfl)
          have HZ := Lib.hid hz; clear hz
          have HU := Lib.hid hu; clear hu
          have HC := Lib.hid hc; clear hc
          have HCC := Lib.hid hcc; clear hcc
          by_cases hzu : z = u
          · have e1 : ((z : Int) != u) = false := by rw [hzu]; simp
            have HE := Lib.hid hzu; clear hzu
            go_wp2_with fail
            refine Ord.St.door (fun _ => True) [.fl, .fl, .fl, .rd, .fl, .fl, .fl, .rd, .fl] [0, 0, 3, 7, 0, 0, 48, 112, 255] [0, 1, 2, 3, 4, 5, 6, 7, 8] mixed (by kernel_rfl) rfl ?_
            refine Ord.St.fl2 (T' := ?_) 0 [1, 2, 3, 4, 5, 6, 7, 8] _ _ rfl (by kernel_rfl) rfl rfl rfl rfl (fun K w' hk => ?_) ?_
            rotate_left
            · go_step; exact hk
            refine Ord.St.fl2 (T' := ?_) 1 [2, 3, 4, 5, 6, 7, 8] _ _ rfl (by kernel_rfl) rfl rfl rfl rfl (fun K w' hk => ?_) ?_
            rotate_left
            · go_step; exact hk
            refine Ord.St.fl2 (T' := ?_) 2 [3, 4, 5, 6, 7, 8] _ _ rfl (by kernel_rfl) rfl rfl rfl rfl (fun K w' hk => ?_) ?_
            rotate_left
            · go_step; exact hk
            refine Ord.St.rd2 (T' := ?_) 3 [4, 5, 6, 7, 8] _ _ rfl (by kernel_rfl) rfl rfl rfl rfl (fun K hk => ?_) ?_
            rotate_left
            · go_step; exact hk
            refine Ord.St.fl2 (T' := ?_) 4 [5, 6, 7, 8] _ _ rfl (by kernel_rfl) rfl rfl rfl rfl (fun K w' hk => ?_) ?_
            rotate_left
            · go_step; exact hk
            refine Ord.St.fl2 (T' := ?_) 5 [6, 7, 8] _ _ rfl (by kernel_rfl) rfl rfl rfl rfl (fun K w' hk => ?_) ?_
            rotate_left
            · go_step; exact hk
            refine Ord.St.fl2 (T' := ?_) 6 [7, 8] _ _ rfl (by kernel_rfl) rfl rfl rfl rfl (fun K w' hk => ?_) ?_
            rotate_left
            · go_step; exact hk
            refine Ord.St.rd2 (T' := ?_) 7 [8] _ _ rfl (by kernel_rfl) rfl rfl rfl rfl (fun K hk => ?_) ?_
            rotate_left
            · go_step; exact hk
            refine Ord.St.fl2 (T' := ?_) 8 [] _ _ rfl (by kernel_rfl) rfl rfl rfl rfl (fun K w' hk => ?_) ?_
            rotate_left
            · go_step; exact hk
            refine Ord.St.nil ?_
            go_wp2_with fail
            go_roundw
            case rel => exact ⟨k + 1, by omega, by omega, by go_num, takeR_succ HT.out HZ.out HU.out HE.out, HC.out.drew⟩
            case measure => simp [intOf]; omega
          · have e1 : ((z : Int) != u) = true := by rw [bne_iff_ne]; omega
            have hmin := min_nat z u (min z u) rfl
            have hq := Q1.out k z u HT.out HZ.out HU.out hzu
            have HQ := Lib.hid hq; clear hq hzu
            generalize min z u = mm at hmin HQ
            go_wp2_with fail
            refine Ord.St.door (fun _ => True) [.fl, .fl, .fl, .rd, .fl, .fl, .fl, .rd, .fl] [0, 0, 3, 7, 0, 0, 48, 112, 255] [0, 1, 2, 3, 4, 5, 6, 7, 8] mixed (by kernel_rfl) rfl ?_
            refine Ord.St.fl2 (T' := ?_) 0 [1, 2, 3, 4, 5, 6, 7, 8] _ _ rfl (by kernel_rfl) rfl rfl rfl rfl (fun K w' hk => ?_) ?_
            rotate_left
            · go_step; exact hk
            refine Ord.St.fl2 (T' := ?_) 1 [2, 3, 4, 5, 6, 7, 8] _ _ rfl (by kernel_rfl) rfl rfl rfl rfl (fun K w' hk => ?_) ?_
            rotate_left
            · go_step; exact hk
            refine Ord.St.fl2 (T' := ?_) 2 [3, 4, 5, 6, 7, 8] _ _ rfl (by kernel_rfl) rfl rfl rfl rfl (fun K w' hk => ?_) ?_
            rotate_left
            · go_step; exact hk
            refine Ord.St.rd2 (T' := ?_) 3 [4, 5, 6, 7, 8] _ _ rfl (by kernel_rfl) rfl rfl rfl rfl (fun K hk => ?_) ?_
            rotate_left
            · go_step; exact hk
            refine Ord.St.fl2 (T' := ?_) 4 [5, 6, 7, 8] _ _ rfl (by kernel_rfl) rfl rfl rfl rfl (fun K w' hk => ?_) ?_
            rotate_left
            · go_step; exact hk
            refine Ord.St.fl2 (T' := ?_) 5 [6, 7, 8] _ _ rfl (by kernel_rfl) rfl rfl rfl rfl (fun K w' hk => ?_) ?_
            rotate_left
            · go_step; exact hk
            refine Ord.St.fl2 (T' := ?_) 6 [7, 8] _ _ rfl (by kernel_rfl) rfl rfl rfl rfl (fun K w' hk => ?_) ?_
            rotate_left
            · go_step; exact hk
            refine Ord.St.rd2 (T' := ?_) 7 [8] _ _ rfl (by kernel_rfl) rfl rfl rfl rfl (fun K hk => ?_) ?_
            rotate_left
            · go_step; exact hk
            refine Ord.St.fl2 (T' := ?_) 8 [] _ _ rfl (by kernel_rfl) rfl rfl rfl rfl (fun K w' hk => ?_) ?_
            rotate_left
            · go_step; exact hk
            refine Ord.St.nil ?_
            go_wp2_with fail
            refine Ord.St.door (fun _ => True) [.fl, .fl, .fl, .rd, .fl, .fl, .fl, .rd, .fl, .fl] [0, 0, 3, 7, 0, 0, 48, 112, 255, 511] [0, 1, 2, 3, 4, 5, 6, 7, 8, 9] mixed (by kernel_rfl) rfl ?_
            refine Ord.St.fl2 (T' := ?_) 0 [1, 2, 3, 4, 5, 6, 7, 8, 9] _ _ rfl (by kernel_rfl) rfl rfl rfl rfl (fun K w' hk => ?_) ?_
            rotate_left
            · go_step; exact hk
            refine Ord.St.fl2 (T' := ?_) 1 [2, 3, 4, 5, 6, 7, 8, 9] _ _ rfl (by kernel_rfl) rfl rfl rfl rfl (fun K w' hk => ?_) ?_
            rotate_left
            · go_step; exact hk
            refine Ord.St.fl2 (T' := ?_) 2 [3, 4, 5, 6, 7, 8, 9] _ _ rfl (by kernel_rfl) rfl rfl rfl rfl (fun K w' hk => ?_) ?_
            rotate_left
            · go_step; exact hk
            refine Ord.St.rd2 (T' := ?_) 3 [4, 5, 6, 7, 8, 9] _ _ rfl (by kernel_rfl) rfl rfl rfl rfl (fun K hk => ?_) ?_
            rotate_left
            · go_step; exact hk
            refine Ord.St.fl2 (T' := ?_) 4 [5, 6, 7, 8, 9] _ _ rfl (by kernel_rfl) rfl rfl rfl rfl (fun K w' hk => ?_) ?_
            rotate_left
            · go_step; exact hk
            refine Ord.St.fl2 (T' := ?_) 5 [6, 7, 8, 9] _ _ rfl (by kernel_rfl) rfl rfl rfl rfl (fun K w' hk => ?_) ?_
            rotate_left
            · go_step; exact hk
            refine Ord.St.fl2 (T' := ?_) 6 [7, 8, 9] _ _ rfl (by kernel_rfl) rfl rfl rfl rfl (fun K w' hk => ?_) ?_
            rotate_left
            · go_step; exact hk
            refine Ord.St.rd2 (T' := ?_) 7 [8, 9] _ _ rfl (by kernel_rfl) rfl rfl rfl rfl (fun K hk => ?_) ?_
            rotate_left
            · go_step; exact hk
            refine Ord.St.fl2 (T' := ?_) 8 [9] _ _ rfl (by kernel_rfl) rfl rfl rfl rfl (fun K w' hk => ?_) ?_
            rotate_left
            · go_step; exact hk
            refine Ord.St.fl2 (T' := ?_) 9 [] _ _ rfl (by kernel_rfl) rfl rfl rfl rfl (fun K w' hk => ?_) ?_
            rotate_left
            · go_step; exact hk
            refine Ord.St.nil ?_
            go_wp2_with fail
            go_ret
            rw [HQ.out]
            exact ⟨rfl, HCC.out.drew.drew⟩
        · have d2 : decide (Y.length ≤ k) = true := decide_eq_true (by omega)
          have hq := Q3.out k z HT.out (by omega) hz
          have HQ := Lib.hid hq; clear hq hz
          have HCC := Lib.hid hcc; clear hcc hc
          go_wp2_with fail
          go_ret
          rw [HQ.out]
          exact ⟨rfl, HCC.out⟩
      · have d1 : decide (k < X.length) = false := decide_eq_false hx
        by_cases hy : k < Y.length
        · have d1' : decide (X.length ≤ k) = true := decide_eq_true (by omega)
          have d2 : decide (k < Y.length) = true := decide_eq_true hy
          obtain ⟨u, hu⟩ : ∃ u, Y[k]? = some u := ⟨_, List.getElem?_eq_getElem hy⟩
          obtain ⟨b2, o2, rfl, c2⟩ := (HSY.out.ch hc (by simp)).cells k (.int .i64 u) (by unfold refsCells; rw [List.getElem?_map, hu]; rfl)
          have hq := Q2.out k u HT.out (by omega) hu
          have HQ := Lib.hid hq; clear hq hu
          have HCC := Lib.hid hcc; clear hcc hc
          go_wp2_with fail
          go_ret
          rw [HQ.out]
          exact ⟨rfl, HCC.out⟩
        · have d2 : decide (k < Y.length) = false := decide_eq_false hy
          have hq := Q4.out k HT.out (by omega) (by omega)
          have HQ := Lib.hid hq; clear hq
          have HCC := Lib.hid hcc; clear hcc hc
          go_wp2_with fail
          go_ret
          rw [HQ.out]
          exact ⟨rfl, HCC.out⟩
end
end Go.Proofs.Ytdmmanfjafempaa
namespace Go.Aig
theorem inputs_even {ns : List Nd} {i z : Nat} (h : (inputs ns)[i]? = some z) : z % 2 = 0 ∧ z < 2 * ns.length := by
  have := inputsFrom_ge ns 0 z (List.mem_of_getElem? h)
  exact ⟨this.2.1, by omega⟩
/-- an input, if its node is among those met so far -/
def metI (C : List Nat) (z i c : Nat) : List Nat := if z / 2 ∈ C.take c then [i] else []
theorem metI_zero (C : List Nat) (z i : Nat) : metI C z i 0 = [] := by unfold metI; simp
theorem metI_succ {C : List Nat} (hC : C.Pairwise (fun a b => a < b)) {z i c d : Nat} (hz : z % 2 = 0) (hd : C[c]? = some d) : metI C z i (c + 1) = metI C z i c ++ (if 2 * d = z then [i] else []) := by
  have hlt := (List.getElem?_eq_some_iff.1 hd).1
  have hde := (List.getElem?_eq_some_iff.1 hd).2
  unfold metI
  rw [List.take_add_one, hd]
  by_cases h : 2 * d = z
  · have hn : z / 2 ∉ C.take c := fun hin => by
      obtain ⟨j, hj, e⟩ := List.mem_iff_getElem.1 hin
      have hjl : j < C.length := by rw [List.length_take] at hj; omega
      have hjc : j < c := by rw [List.length_take] at hj; omega
      have := List.pairwise_iff_getElem.1 hC j c hjl hlt hjc
      rw [List.getElem_take] at e
      rw [e, hde] at this
      omega
    rw [if_neg hn, if_pos h, if_pos (by simp; right; omega)]
    rfl
  · rw [if_neg h, List.append_nil]
    have : (z / 2 ∈ C.take c ++ (some d).toList) ↔ z / 2 ∈ C.take c := by
      simp only [Option.toList_some, List.mem_append, List.mem_singleton]
      constructor
      · rintro (h1 | h1)
        · exact h1
        · omega
      · exact .inl
    by_cases h2 : z / 2 ∈ C.take c
    · rw [if_pos h2, if_pos (this.2 h2)]
    · rw [if_neg h2, if_neg (fun h3 => h2 (this.1 h3))]
theorem metI_all {C : List Nat} {z i : Nat} : metI C z i C.length = if z / 2 ∈ C then [i] else [] := by
  unfold metI
  rw [List.take_length]
theorem metI_len (C : List Nat) (z i c : Nat) : (metI C z i c).length ≤ 1 := by unfold metI; split <;> simp
end Go.Aig
namespace Go.Proofs.Ytdmmanfjafempaa
open Go.RowKit Go.Mem Go.Aig
section
variable {w : World}
set_option maxRecDepth 100000 in
set_option maxHeartbeats 2000000 in
theorem r21Support_is {rb cap : Nat} {G : Gra} (h : RG w rb cap G) {a : Option Addr} {l : List Nat} (n acap : Nat) (hn : l.length = n) (hs : Sl w a (natInts l)) (hr : ∀ r ∈ l, r < 2 * G.nodes.length) (hm : n ≤ 1000000) :
    Calls Try.prog 46 #[.agg #[.int .i64 G.most, .slice (some ⟨rb, 0, none⟩) G.nodes.length cap], .slice a n acap] w fun e w' => ∃ v, e = .returned v ∧ row w' 3 1 v (suppL G.nodes l (inputs G.nodes).length).length (refsCells (suppL G.nodes l (inputs G.nodes).length)) ∧ (∀ q ∈ v.ownBlock.toList, w.heap.size ≤ q) ∧ Ch [] w w' := by
  obtain ⟨hl, hp, hmo⟩ := h.len
  have hIN := fun (W : World) (hW : Ch [] w W) => rInputs_is (h.ch hW (by simp))
  have hCO := fun (W : World) (hW : Ch [] w W) => rCone_is (h.ch hW (by simp)) (a := a) (l := l) n acap hn (hs.ch hW (by simp)) hr hm
  have hasc := cone_asc G.nodes l
  have hcb : ∀ d ∈ cone G.nodes l, d < G.nodes.length := fun d hd => ((mem_cone h.ok.wf l d).1 hd).1
  have hev := fun i z => @inputs_even G.nodes i z
  have hss := suppL_succ G.nodes l
  have hsl := suppL_len G.nodes l
  have hil : (inputs G.nodes).length ≤ G.nodes.length := by
    have : ∀ (l : List Nd) (k : Nat), (inputsFrom l k).length ≤ l.length := fun l => by
      induction l with
      | nil => intro n; simp [inputsFrom]
      | cons a l ih => intro n; unfold inputsFrom; split <;> simp <;> have := ih (n + 1) <;> omega
    exact this G.nodes 0
  have hcl : (cone G.nodes l).length ≤ 65536 := by
    have : (cone G.nodes l).length ≤ G.nodes.length := by
      unfold cone coneDown
      rw [List.length_reverse]
      exact coneFrom_len _ _ _
    omega
  obtain ⟨C, hC⟩ : ∃ C, cone G.nodes l = C := ⟨_, rfl⟩
  obtain ⟨I, hI⟩ : ∃ I, inputs G.nodes = I := ⟨_, rfl⟩
  obtain ⟨S, hS⟩ : ∃ S, suppL G.nodes l = S := ⟨_, rfl⟩
  have hS0 : S 0 = [] := by rw [← hS]; rfl
  rw [hI] at hil
  rw [hC] at hasc hcl
  simp only [hC] at hCO hcb
  simp only [hI] at hIN hev hss
  simp only [hS] at hss hsl
  simp only [hC] at hss
  rw [hS, hI]
  clear h hs hC hI hS hr
  have HIN := Lib.hid hIN; clear hIN
  have HCO := Lib.hid hCO; clear hCO
  have HASC := Lib.hid hasc; clear hasc
  have HCB := Lib.hid hcb; clear hcb
  have HEV := Lib.hid hev; clear hev
  have HSS := Lib.hid hss; clear hss
  have HSL := Lib.hid hsl; clear hsl
  have HS0 := Lib.hid hS0; clear hS0
  go_enter Try.func46, Try.ntmps46
  go_wp2_with fail
  refine calls_named fun W0 hW0 => ?_
  have hc0 : Ch [] w W0 := by rw [hW0]; exact (Ch.refl _ _).alloc _
  have b2 : blk W0 w.heap.size [.int .i64 G.most, .slice (some ⟨rb, 0, none⟩) G.nodes.length cap] := by rw [hW0]; exact blk.new' (w := w) [.int .i64 G.most, .slice (some ⟨rb, 0, none⟩) G.nodes.length cap] 83 rfl
  clear hW0
  have HBR := Lib.hid b2; clear b2
  have HC0 := Lib.hid hc0; clear hc0
  generalize w.heap.size = bx at HBR ⊢
  refine (HCO.out W0 HC0.out).mono ?_
  rintro e w1 ⟨v, rfl, hrow, _, hc1⟩
  obtain ⟨ca, cc, rfl⟩ := row.shape hrow
  have hsv := row.sv hrow rfl (by omega)
  have hbr := HBR.out.ch hc1 (by simp)
  have cx0 := hbr.cell (i := 0) rfl
  have cx1 := hbr.cell (i := 1) rfl
  have HSC := Lib.hid hsv; clear hsv
  have HC1 := Lib.hid (HC0.out.trans hc1 (by simp)); clear hrow hc1 HCO HBR hbr
  go_wp2_with fail
  refine (HIN.out w1 HC1.out).mono ?_
  rintro e w2 ⟨v, rfl, hrow, _, hc2⟩
  obtain ⟨ia, ic, rfl⟩ := row.shape hrow
  have hsv := row.sv hrow rfl (by omega)
  have HSI := Lib.hid hsv; clear hsv
  have HSC2 := Lib.hid (HSC.out.ch hc2 (by simp))
  have HC2 := Lib.hid (HC1.out.trans hc2 (by simp)); clear hrow hc2 HIN cx0 cx1 HC1 HSC
  go_wp2_with fail
  go_loopw [7, 8] (fun o i wr => ∃ x : Nat, x ≤ I.length ∧ i = .int .i64 x ∧ Ch [] w2 wr ∧ row wr 3 1 o (S x).length (refsCells (S x)) ∧ ∀ q ∈ o.ownBlock.toList, w2.heap.size ≤ q) (fun _ i _ => I.length - (intOf i).toNat)
  case atStart => exact ⟨0, by omega, rfl, Ch.refl _ _, by rw [HS0.out]; exact ⟨rfl, .inl ⟨rfl, rfl⟩⟩, by simp⟩
  case round =>
    obtain ⟨x, hx, rfl, hc, hrow, hlo⟩ := hrel
    by_cases hlt : x < I.length
    · obtain ⟨z, hz⟩ : ∃ z, I[x]? = some z := ⟨_, List.getElem?_eq_getElem hlt⟩
      obtain ⟨hz2, hzl⟩ := HEV.out x z hz
      have hss := HSS.out x
      rw [List.getD_eq_getElem?_getD, hz] at hss
      simp only [Option.getD_some] at hss
      rw [← metI_all (z := z) (i := x)] at hss
      have hmz := metI_zero C z x
      have hms := fun (c d : Nat) (hd : C[c]? = some d) => metI_succ HASC.out (z := z) (i := x) hz2 hd
      have hml := metI_len C z x
      have hsl := HSL.out x
      obtain ⟨T, hT⟩ : ∃ T, S x = T := ⟨_, rfl⟩
      rw [hT] at hrow hss hsl
      generalize metI C z x = f at *
      have HSX := Lib.hid hss; clear hss hT
      have HMZ := Lib.hid hmz; clear hmz
      have HMS := Lib.hid hms; clear hms
      have HML := Lib.hid hml; clear hml
      have HLO := Lib.hid hlo; clear hlo
      have HROW := Lib.hid hrow; clear hrow
      have HC := Lib.hid hc; clear hc
      have HZ := Lib.hid hz; clear hz
      obtain ⟨wo, hwo⟩ : ∃ wo, wo = wr := ⟨_, rfl⟩
      subst hwo
      go_wp2_with fail
      go_loopw [7, 9] (fun o i wr => ∃ c : Nat, c ≤ C.length ∧ i = .int .i64 c ∧ Ch [] w2 wr ∧ row wr 3 1 o (T.length + (f c).length) (refsCells (T ++ f c)) ∧ ∀ q ∈ o.ownBlock.toList, w2.heap.size ≤ q) (fun _ i _ => C.length - (intOf i).toNat)
      case atStart => exact ⟨0, by omega, rfl, HC.out, by rw [HMZ.out, List.append_nil]; exact HROW.out, HLO.out⟩
      case round =>
        clear HROW HC HLO
        obtain ⟨c, hcl', rfl, hc, hrow, hlo⟩ := hrel
        obtain ⟨oa, oc, rfl⟩ := row.shape hrow
        have HROW := Lib.hid hrow; clear hrow
        have HLO := Lib.hid hlo; clear hlo
        by_cases hlt2 : c < C.length
        · obtain ⟨d, hd⟩ : ∃ d, C[c]? = some d := ⟨_, List.getElem?_eq_getElem hlt2⟩
          have hdb := HCB.out d (List.mem_of_getElem? hd)
          have hms := HMS.out c d hd
          have hml := HML.out c
          obtain ⟨b1, o1, rfl, c1⟩ := (HSC2.out.ch hc (by simp)).cells c (.int .i64 d) (by unfold refsCells; rw [List.getElem?_map, hd]; rfl)
          obtain ⟨b2, o2, rfl, c2⟩ := (HSI.out.ch hc (by simp)).cells x (.int .i64 z) (by unfold refsCells; rw [List.getElem?_map, HZ.out]; rfl)
          have HC := Lib.hid hc; clear hc hd
          have HMS1 := Lib.hid hms; clear hms
          have hd2 : 2 * (d : Int) ≤ 131072 := by omega
          by_cases hq : 2 * d = z
          · have e1 : ((2 * (d : Int)) == (z : Int)) = true := by rw [beq_iff_eq]; omega
            have hms := HMS1.out
            rw [if_pos hq] at hms
            have HMS2 := Lib.hid hms; clear hms HMS1 hq
            obtain ⟨m, hm⟩ : ∃ m, T.length + (f c).length = m := ⟨_, rfl⟩
            have hmb : m ≤ 200000 := by omega
            have HM := Lib.hid hm
            rw [hm] at HROW HLO ⊢
            clear hm
            go_wp2_with fail
            refine Ord.St.door (fun _ => True) [.fl, .fl, .fl, .rd, .fl, .fl, .fl, .fl, .rd, .fl] [0, 0, 3, 7, 15, 0, 0, 96, 224, 511] [0, 1, 2, 3, 4, 5, 6, 7, 8, 9] mixed (by kernel_rfl) rfl ?_
            refine Ord.St.fl2 (T' := ?_) 0 [1, 2, 3, 4, 5, 6, 7, 8, 9] _ _ rfl (by kernel_rfl) rfl rfl rfl rfl (fun K w' hk => ?_) ?_
            rotate_left
            · go_step; exact hk
            refine Ord.St.fl2 (T' := ?_) 1 [2, 3, 4, 5, 6, 7, 8, 9] _ _ rfl (by kernel_rfl) rfl rfl rfl rfl (fun K w' hk => ?_) ?_
            rotate_left
            · go_step; exact hk
            refine Ord.St.fl2 (T' := ?_) 2 [3, 4, 5, 6, 7, 8, 9] _ _ rfl (by kernel_rfl) rfl rfl rfl rfl (fun K w' hk => ?_) ?_
            rotate_left
            · go_step; exact hk
            refine Ord.St.rd2 (T' := ?_) 3 [4, 5, 6, 7, 8, 9] _ _ rfl (by kernel_rfl) rfl rfl rfl rfl (fun K hk => ?_) ?_
            rotate_left
            · go_step; exact hk
            refine Ord.St.fl2 (T' := ?_) 4 [5, 6, 7, 8, 9] _ _ rfl (by kernel_rfl) rfl rfl rfl rfl (fun K w' hk => ?_) ?_
            rotate_left
            · go_step; exact hk
            refine Ord.St.fl2 (T' := ?_) 5 [6, 7, 8, 9] _ _ rfl (by kernel_rfl) rfl rfl rfl rfl (fun K w' hk => ?_) ?_
            rotate_left
            · go_step; exact hk
            refine Ord.St.fl2 (T' := ?_) 6 [7, 8, 9] _ _ rfl (by kernel_rfl) rfl rfl rfl rfl (fun K w' hk => ?_) ?_
            rotate_left
            · go_step; exact hk
            refine Ord.St.fl2 (T' := ?_) 7 [8, 9] _ _ rfl (by kernel_rfl) rfl rfl rfl rfl (fun K w' hk => ?_) ?_
            rotate_left
            · go_step; exact hk
            refine Ord.St.rd2 (T' := ?_) 8 [9] _ _ rfl (by kernel_rfl) rfl rfl rfl rfl (fun K hk => ?_) ?_
            rotate_left
            · go_step; exact hk
            refine Ord.St.fl2 (T' := ?_) 9 [] _ _ rfl (by kernel_rfl) rfl rfl rfl rfl (fun K w' hk => ?_) ?_
            rotate_left
            · go_step; exact hk
            refine Ord.St.nil ?_
            have hcA : Ch [] wr.drew (wr.drew.alloc (.cells #[.int .i64 x] 3)) := (Ch.refl _ _).alloc _
            have hrA := (HROW.out.ch ((Ch.refl [] wr).drew) (by simp)).ch hcA (by simp)
            have hbA : blk (wr.drew.alloc (.cells #[.int .i64 x] 3)) wr.drew.heap.size [.int .i64 x] := blk.new' _ _ rfl
            have HRA := Lib.hid hrA; clear hrA
            have HBA := Lib.hid hbA; clear hbA
            have HCA := Lib.hid hcA; clear hcA
            clear c1 c2
            go_wp2_with (at_builtin; go_loud (refine wpList_append_row slInts rfl _ _ rfl (v := .slice oa m oc) (n := m) (xs := refsCells (T ++ f c)) rfl HRA.out (ad := ⟨wr.drew.heap.size, 0, none⟩) (m := 1) (c := 1) (news := [.int .i64 x]) rfl rfl (news_blk HBA.out) (by simp [Value.oneCell']) (by omega) (by omega) ?_; intro v' w5 hown4 hC4 hf4; have HO4 := Lib.hid hown4; clear hown4; have HC4 := Lib.hid hC4; clear hC4; have HF4 := Lib.hid hf4; clear hf4))
            go_roundw
            case rel =>
              obtain ⟨q1, q2⟩ := app_step HC.out.drew HCA.out HLO.out HC4.out HF4.out
              refine ⟨c + 1, by omega, by go_num, q1, ?_, q2⟩
              rw [HMS2.out, List.length_append, ← Nat.add_assoc, HM.out, ← List.append_assoc, show refsCells (T ++ f c ++ [x]) = refsCells (T ++ f c) ++ [.int .i64 x] by simp [refsCells]]
              exact HO4.out
            case measure => simp [intOf]; omega
          · have e1 : ((2 * (d : Int)) == (z : Int)) = false := by rw [beq_eq_false_iff_ne]; omega
            have hms := HMS1.out
            rw [if_neg hq, List.append_nil] at hms
            have HMS2 := Lib.hid hms; clear hms HMS1 hq
            go_wp2_with fail
            refine Ord.St.door (fun _ => True) [.fl, .fl, .fl, .rd, .fl, .fl, .fl, .fl, .rd, .fl] [0, 0, 3, 7, 15, 0, 0, 96, 224, 511] [0, 1, 2, 3, 4, 5, 6, 7, 8, 9] mixed (by kernel_rfl) rfl ?_
            refine Ord.St.fl2 (T' := ?_) 0 [1, 2, 3, 4, 5, 6, 7, 8, 9] _ _ rfl (by kernel_rfl) rfl rfl rfl rfl (fun K w' hk => ?_) ?_
            rotate_left
            · go_step; exact hk
            refine Ord.St.fl2 (T' := ?_) 1 [2, 3, 4, 5, 6, 7, 8, 9] _ _ rfl (by kernel_rfl) rfl rfl rfl rfl (fun K w' hk => ?_) ?_
            rotate_left
            · go_step; exact hk
            refine Ord.St.fl2 (T' := ?_) 2 [3, 4, 5, 6, 7, 8, 9] _ _ rfl (by kernel_rfl) rfl rfl rfl rfl (fun K w' hk => ?_) ?_
            rotate_left
            · go_step; exact hk
            refine Ord.St.rd2 (T' := ?_) 3 [4, 5, 6, 7, 8, 9] _ _ rfl (by kernel_rfl) rfl rfl rfl rfl (fun K hk => ?_) ?_
            rotate_left
            · go_step; exact hk
            refine Ord.St.fl2 (T' := ?_) 4 [5, 6, 7, 8, 9] _ _ rfl (by kernel_rfl) rfl rfl rfl rfl (fun K w' hk => ?_) ?_
            rotate_left
            · go_step; exact hk
            refine Ord.St.fl2 (T' := ?_) 5 [6, 7, 8, 9] _ _ rfl (by kernel_rfl) rfl rfl rfl rfl (fun K w' hk => ?_) ?_
            rotate_left
            · go_step; exact hk
            refine Ord.St.fl2 (T' := ?_) 6 [7, 8, 9] _ _ rfl (by kernel_rfl) rfl rfl rfl rfl (fun K w' hk => ?_) ?_
            rotate_left
            · go_step; exact hk
            refine Ord.St.fl2 (T' := ?_) 7 [8, 9] _ _ rfl (by kernel_rfl) rfl rfl rfl rfl (fun K w' hk => ?_) ?_
            rotate_left
            · go_step; exact hk
            refine Ord.St.rd2 (T' := ?_) 8 [9] _ _ rfl (by kernel_rfl) rfl rfl rfl rfl (fun K hk => ?_) ?_
            rotate_left
            · go_step; exact hk
            refine Ord.St.fl2 (T' := ?_) 9 [] _ _ rfl (by kernel_rfl) rfl rfl rfl rfl (fun K w' hk => ?_) ?_
            rotate_left
            · go_step; exact hk
            refine Ord.St.nil ?_
            go_wp2_with fail
            go_roundw
            case rel => exact ⟨c + 1, by omega, by go_num, HC.out.drew, by rw [HMS2.out]; exact HROW.out.ch ((Ch.refl [] wr).drew) (by simp), HLO.out⟩
            case measure => simp [intOf]; omega
        · have hcC : c = C.length := by omega
          have HC := Lib.hid hc; clear hc
          go_wp2_with fail
          go_roundw
          case rel =>
            have hr := HROW.out
            rw [hcC] at hr
            refine ⟨x + 1, by omega, by go_num, HC.out, ?_, HLO.out⟩
            rw [HSX.out, List.length_append]
            rw [hcC]
            exact hr
          case measure => simp [intOf]; omega
    · have hxI : x = I.length := by omega
      subst hxI
      have HROW := Lib.hid hrow; clear hrow
      have HLO := Lib.hid hlo; clear hlo
      have HC := Lib.hid hc; clear hc
      go_wp2_with fail
      go_ret
      refine ⟨_, rfl, ?_, fun q hq => Nat.le_trans HC2.out.size (HLO.out q hq), HC2.out.trans HC.out (by simp)⟩
      exact HROW.out
end
end Go.Proofs.Ytdmmanfjafempaa
namespace Go.Proofs.Ytdmmanfjafempaa
open Go.RowKit Go.Mem Go.Aig
/-- a graph, and the same one of the reference, apart from each other, made since a world -/
structure Both (w0 w : World) (g rb cap : Nat) (G : Gra) (F : List Nat) : Prop where
  gin : GIn w g G F
  rg : RG w rb cap G
  ap : rb ∉ F
  own : ∀ k ∈ F, w0.heap.size ≤ k
  rlo : w0.heap.size ≤ rb
  ch : Ch [] w0 w
theorem Both.same {w0 w w' : World} {g rb cap : Nat} {G : Gra} {F : List Nat} (h : Both w0 w g rb cap G F) (hc : Ch [] w w') : Both w0 w' g rb cap G F :=
  ⟨h.gin.same hc (by simp), h.rg.ch hc (by simp), h.ap, h.own, h.rlo, h.ch.trans hc (by simp)⟩
/-- both graphs are changed in the same way -/
theorem Both.next {w0 w w1 w2 : World} {g rb cap : Nat} {G G' : Gra} {F F' : List Nat} (h : Both w0 w g rb cap G F) (hg : GIn w1 g G' F') (hc1 : Ch F w w1) (hF : ∀ k ∈ F', k ∈ F ∨ w.heap.size ≤ k) {rb' cap' : Nat} (hr : RG w2 rb' cap' G') (hc2 : Ch [] w1 w2) (hb : rb' = rb ∨ w1.heap.size ≤ rb') : Both w0 w2 g rb' cap' G' F' := by
  have hrl := h.rg.lt
  have hz := hc1.size
  refine ⟨hg.same hc2 (by simp), hr, fun hin => ?_, fun k hk => (hF k hk).elim (h.own k) (fun e => Nat.le_trans h.ch.size e), ?_, (h.ch.trans hc1 (fun k hk => .inr (h.own k hk))).trans hc2 (by simp)⟩
  · have hlt := hg.lt _ hin
    rcases hb with rfl | e
    · rcases hF _ hin with e | e
      · exact h.ap e
      · omega
    · omega
  · rcases hb with rfl | e
    · exact h.rlo
    · have := h.ch.size; omega
theorem Both.set {w0 w w' : World} {g rb cap b : Nat} {G : Gra} {F : List Nat} (h : Both w0 w g rb cap G F) (hc : Ch [b] w w') (hb : b ∉ F) (hr : rb ≠ b) (hlo : w0.heap.size ≤ b) : Both w0 w' g rb cap G F :=
  ⟨h.gin.same hc (fun k hk hk2 => hb (by rw [List.mem_singleton.1 hk2] at hk; exact hk)), h.rg.ch hc (by simpa using hr), h.ap, h.own, h.rlo, h.ch.trans hc (fun k hk => .inr (by rw [List.mem_singleton.1 hk]; exact hlo))⟩
section
end
end Go.Proofs.Ytdmmanfjafempaa
namespace Go.Proofs.Ytdmmanfjafempaa
open Go.RowKit Go.Mem Go.Aig
/-- a graph of inputs alone -/
def inK : Nat → Gra
  | 0 => newG 200
  | k + 1 => (put (inK k) ⟨2, 0, 0, 0⟩).1
def AllI (l : List N21) (k : Nat) (G : Gra) : Prop := (∀ x ∈ l.take k, x.inp = true) → G = inK k
section
variable {w : World}
set_option maxRecDepth 100000 in
set_option maxHeartbeats 2000000 in
theorem inputs21_any {a : Option Addr} {n cap : Nat} {l : List N21} (hS : NodeS w a n cap l) :
    Calls Try.prog 40 #[.slice a n cap] w fun e w' => e = .returned (.int .i64 (cntI l : Nat)) ∧ Ch [] w w' := by
  have hlen := hS.len
  have hle := hS.le
  have hmx := hS.max
  have hcn : ∀ k x, l[k]? = some x → cntI (l.take (k + 1)) = cntI (l.take k) + x.inp.toNat := fun k x hx => by rw [List.take_add_one, hx]; exact cntI_snoc _ _
  have hcl : ∀ k, cntI (l.take k) ≤ k := fun k => by
    have := List.length_filter_le (fun x : N21 => x.inp) (l.take k)
    rw [List.length_take] at this
    unfold cntI
    omega
  have hfull : cntI (l.take n) = cntI l := by rw [List.take_of_length_le (by omega)]
  obtain ⟨Q, hQ⟩ : ∃ Q : Nat → Nat, Q = fun k => cntI (l.take k) := ⟨_, rfl⟩
  have hQ0 : Q 0 = 0 := by rw [hQ]; rfl
  have hQs : ∀ k x, l[k]? = some x → Q (k + 1) = Q k + x.inp.toNat := fun k x hx => by rw [hQ]; exact hcn k x hx
  have hQl : ∀ k, Q k ≤ k := fun k => by rw [hQ]; exact hcl k
  have hQn : cntI l = Q n := by rw [hQ]; exact hfull.symm
  rw [hQn]
  clear hQ hQn hcn hcl hfull
  have HS := Lib.hid hS; clear hS
  have HLEN := Lib.hid hlen; clear hlen
  have HQ0 := Lib.hid hQ0; clear hQ0
  have HQS := Lib.hid hQs; clear hQs
  have HQL := Lib.hid hQl; clear hQl
  go_enter Try.func40, Try.ntmps40
  go_wp2_with fail
  go_loopw [3, 8] (fun q i wr => ∃ k : Nat, k ≤ n ∧ i = .int .i64 k ∧ q = .int .i64 (Q k : Nat) ∧ Ch [] w wr) (fun _ i _ => n - (intOf i).toNat)
  case atStart => exact ⟨0, by omega, rfl, by rw [HQ0.out]; rfl, Ch.refl _ _⟩
  case round =>
    obtain ⟨k, hk, rfl, rfl, hc⟩ := hrel
    by_cases hlt : k < n
    · obtain ⟨x, hx⟩ : ∃ x, l[k]? = some x := ⟨_, List.getElem?_eq_getElem (by rw [HLEN.out]; omega)⟩
      obtain ⟨ab, ao, rfl, d0, d1, d2⟩ := (HS.out.ch hc).cells k x hx
      have hqs := HQS.out k x hx
      have hql := HQL.out k
      obtain ⟨q, hq⟩ : ∃ q, Q k = q := ⟨_, rfl⟩
      rw [hq] at hqs hql ⊢
      have HC := Lib.hid hc; clear hc hq hx
      obtain ⟨inp, xl, xr⟩ := x
      simp only at d0 d1 d2 hqs
      have HQK := Lib.hid hqs; clear hqs
      go_upto_region 5 with fail
      refine wp_named fun W1 hW1 => ?_
      have hcA : Ch [] wr W1 := by rw [hW1]; exact (Ch.refl _ _).alloc _
      have hb1 : blk W1 wr.heap.size [.bool inp, .int .i64 xl, .int .i64 xr] := by rw [hW1]; exact blk.new' _ _ rfl
      have e0 := hb1.cell (i := 0) rfl
      clear hW1 hb1 d0 d1 d2
      have HCA := Lib.hid hcA; clear hcA
      cases inp
      · go_wp2_with fail
        go_roundw
        case rel => exact ⟨k + 1, by omega, by go_num, by rw [HQK.out]; rfl, HC.out.trans HCA.out (by simp)⟩
        case measure => simp [intOf]; omega
      · go_wp2_with fail
        go_roundw
        case rel => exact ⟨k + 1, by omega, by go_num, by rw [HQK.out]; go_num, HC.out.trans HCA.out (by simp)⟩
        case measure => simp [intOf]; omega
    · have hkn : k = n := by omega
      subst hkn
      have HC := Lib.hid hc; clear hc
      go_wp2_with fail
      go_ret
      exact ⟨rfl, HC.out⟩
theorem inputs21_is {a : Option Addr} {n cap : Nat} {l : List N21} (hS : NodeS w a n cap l) (_hn : n ≤ 1000000) :
    Calls Try.prog 40 #[.slice a n cap] w fun e w' => e = .returned (.int .i64 (cntI l : Nat)) ∧ Ch [] w w' := inputs21_any hS
set_option maxRecDepth 100000 in
set_option maxHeartbeats 8000000 in
theorem build21_full {a : Option Addr} {n ncap : Nat} {l : List N21} (hS : NodeS w a n ncap l) (hn : n ≤ 61) :
    Calls Try.prog 37 #[.slice a n ncap] w fun e w' => ∃ g F rb cap G, e = .returned (.tuple #[.pointer (some ⟨g, 0, none⟩), .agg #[.int .i64 G.most, .slice (some ⟨rb, 0, none⟩) G.nodes.length cap], .bool true]) ∧ Both w w' g rb cap G F ∧ G.most = 200 ∧ G.nodes.length ≤ n + 1 ∧ (inputs G.nodes).length = cntI l ∧ AllI l n G := by
  have hlen := hS.len
  have hbd := hS.bd
  have hN := fun W => New_yes (w := W) 200 (by decide) (by decide)
  have hR := fun W => rNew_yes W 200 (by decide) (by decide)
  have hcn : ∀ k x, l[k]? = some x → cntI (l.take (k + 1)) = cntI (l.take k) + x.inp.toNat := fun k x hx => by rw [List.take_add_one, hx]; exact cntI_snoc _ _
  have hfull : cntI (l.take n) = cntI l := by rw [List.take_of_length_le (by omega)]
  have HN := Lib.hid hN; clear hN
  have HR := Lib.hid hR; clear hR
  have HS := Lib.hid hS; clear hS
  have HLEN := Lib.hid hlen; clear hlen
  have HBD := Lib.hid hbd; clear hbd
  have HCN := Lib.hid hcn; clear hcn
  have HFULL := Lib.hid hfull; clear hfull
  go_enter Try.func37, Try.ntmps37
  go_wp2_with fail
  refine calls_named fun W hW => ?_
  have b3 : blk W w.heap.size [.int .i64 0, .slice none 0 0] := by rw [hW]; exact blk.new' _ _ (by simp)
  have hc : Ch [] w W := by rw [hW]; exact (Ch.refl _ _).alloc _
  have hz : W.heap.size = w.heap.size + 1 := by rw [hW]; simp
  clear hW
  refine (HN.out W).mono ?_
  rintro e w1 ⟨g, F1, rfl, hg1, hF1, hc1⟩
  have b3 := b3.ch hc1 (by simp)
  have hc := hc.trans hc1 (by simp)
  have hF2 : ∀ k ∈ F1, w.heap.size + 1 ≤ k ∧ k < w1.heap.size := fun k hk => ⟨by have := hF1 k hk; omega, hg1.lt k hk⟩
  have HF2 := Lib.hid hF2; clear hF2 hF1 hc1
  have HC := Lib.hid hc; clear hc
  have HG1 := Lib.hid hg1; clear hg1
  have B3 := Lib.hid b3; clear b3
  go_wp2_with fail
  refine (HR.out _).mono ?_
  rintro e w2 ⟨rb, cap, rfl, hrg, hc2, hlo⟩
  have hz2 := hc2.size
  have hz3 := B3.out.lt
  have hbt : Both w w2 g rb cap (newG 200) F1 := ⟨HG1.out.same hc2 (by simp), hrg, fun hin => by have := HF2.out _ hin; omega, fun k hk => by have := HF2.out k hk; omega, by omega, HC.out.trans hc2 (by simp)⟩
  have b3 := B3.out.ch hc2 (by simp)
  have hG0 : (newG 200).most = 200 ∧ (newG 200).nodes.length = 1 ∧ (inputs (newG 200).nodes).length = 0 ∧ newG 200 = inK 0 := ⟨rfl, rfl, rfl, rfl⟩
  generalize newG 200 = G0 at *
  have HBT := Lib.hid hbt; clear hbt hrg hc2 HC HG1
  clear B3
  have B3 := Lib.hid b3; clear b3
  go_upto_region 3 with fail
  refine wp_alw ?_
  intro W3 hW3
  have hb6 : blk W3 w2.heap.size [.int .i64 G0.most, .slice (some ⟨rb, 0, none⟩) G0.nodes.length cap] := by
    rw [hG0.1, hG0.2.1]
    exact alw_blk (xs := [.int .i64 200, .slice (some ⟨rb, 0, none⟩) 1 cap]) hW3
  have hc3 := alw_ch hW3
  have hbt := HBT.out.same hc3
  have b3 := B3.out.ch hc3 (by simp)
  have hrb6 : rb ≠ w2.heap.size := rg_ne HBT.out.rg
  have hlo2 : w.heap.size + 1 ≤ rb := by omega
  have h6F : w2.heap.size ∉ F1 := fun hin => by have := HF2.out _ hin; omega
  have h3F : w.heap.size ∉ F1 := fun hin => by have := HF2.out _ hin; omega
  have h6lo : w.heap.size + 1 ≤ w2.heap.size := by omega
  clear hW3 hc3 HBT B3 hlo
  generalize w2.heap.size = b6 at *
  have HBT := Lib.hid hbt; clear hbt
  have B6 := Lib.hid hb6; clear hb6
  have B3 := Lib.hid b3; clear b3
  have HG0 := Lib.hid hG0; clear hG0
  go_wp2_with fail
  go_loopw [31] (fun i wr => ∃ (k : Nat) (G : Gra) (F : List Nat) (rb cap : Nat), k ≤ n ∧ i = .int .i64 k ∧ Both w wr g rb cap G F ∧ b6 ∉ F ∧ w.heap.size ∉ F ∧ rb ≠ b6 ∧ w.heap.size + 1 ≤ rb ∧ blk wr b6 [.int .i64 G.most, .slice (some ⟨rb, 0, none⟩) G.nodes.length cap] ∧ blk wr w.heap.size [.int .i64 0, .slice none 0 0] ∧ G.most = 200 ∧ G.nodes.length ≤ k + 1 ∧ (inputs G.nodes).length = cntI (l.take k) ∧ AllI l k G) (fun i _ => n - (intOf i).toNat)
  case atStart => exact ⟨0, G0, F1, rb, cap, by omega, rfl, HBT.out, h6F, h3F, hrb6, hlo2, B6.out, B3.out, HG0.out.1, by rw [HG0.out.2.1]; omega, HG0.out.2.2.1, fun _ => HG0.out.2.2.2⟩
  case round =>
    clear HBT B6 B3 h6F h3F hrb6 hlo2 HN HR HF2 HG0
    obtain ⟨k, G, F, rb, cap, hk, rfl, hbt, h6F, h3F, hrb6, hlo2, b6c, b3, hm, hnl, hil⟩ := hrel
    have hwr6 := b6c.lt
    have HM := Lib.hid hm; clear hm
    have HIL := Lib.hid hil; clear hil
    by_cases hlt : k < n
    · obtain ⟨x, hx⟩ : ∃ x, l[k]? = some x := ⟨_, List.getElem?_eq_getElem (by rw [HLEN.out]; omega)⟩
      obtain ⟨ab, ao, rfl, d0, d1, d2⟩ := (HS.out.ch hbt.ch).cells k x hx
      have hxb := HBD.out x (List.mem_of_getElem? hx)
      have hcn := HCN.out k x hx
      have hmem : x ∈ l.take (k + 1) := by rw [List.take_add_one, hx]; simp
      have HMEM := Lib.hid hmem; clear hmem
      have HCNK := Lib.hid hcn; clear hcn hx
      obtain ⟨inp, xl, xr⟩ := x
      simp only at d0 d1 d2 hxb HCNK HMEM
      have HBT := Lib.hid hbt; clear hbt
      have B6 := Lib.hid b6c; clear b6c
      have B3 := Lib.hid b3; clear b3
      go_upto_region 8 with fail
      refine wp_named fun W1 hW1 => ?_
      have hcA : Ch [] wr W1 := by rw [hW1]; exact (Ch.refl _ _).alloc _
      have hb1 : blk W1 wr.heap.size [.bool inp, .int .i64 xl, .int .i64 xr] := by rw [hW1]; exact blk.new' _ _ rfl
      have e0 := hb1.cell (i := 0) rfl
      have hbt := HBT.out.same hcA
      have b6c := B6.out.ch hcA (by simp)
      have b3 := B3.out.ch hcA (by simp)
      have hzA := hcA.size
      clear hW1 d0 d1 d2 HBT B6 B3 hcA
      have HBT := Lib.hid hbt; clear hbt
      have B6 := Lib.hid b6c
      have B3 := Lib.hid b3; clear b3
      have y0 := b6c.cell (i := 0) rfl
      have y1 := b6c.cell (i := 1) rfl
      have hwr6 := b6c.lt
      have hpos := HBT.out.gin.ok.wf.pos
      clear b6c
      cases inp
      · obtain ⟨N, hN⟩ : ∃ N, G.nodes.length = N := ⟨_, rfl⟩
        rw [hN] at hnl hpos
        obtain ⟨p, hp, hpl⟩ : ∃ p : Nat, xl % ((2 * N : Nat) : Int) = p ∧ p < 2 * N := ⟨(xl % ((2 * N : Nat) : Int)).toNat, by
          have := Int.emod_nonneg xl (show ((2 * N : Nat) : Int) ≠ 0 by omega)
          omega, by
          have := Int.emod_nonneg xl (show ((2 * N : Nat) : Int) ≠ 0 by omega)
          have := Int.emod_lt_of_pos xl (show (0 : Int) < ((2 * N : Nat) : Int) by omega)
          omega⟩
        obtain ⟨q, hq, hql⟩ : ∃ q : Nat, xr % ((2 * N : Nat) : Int) = q ∧ q < 2 * N := ⟨(xr % ((2 * N : Nat) : Int)).toNat, by
          have := Int.emod_nonneg xr (show ((2 * N : Nat) : Int) ≠ 0 by omega)
          omega, by
          have := Int.emod_nonneg xr (show ((2 * N : Nat) : Int) ≠ 0 by omega)
          have := Int.emod_lt_of_pos xr (show (0 : Int) < ((2 * N : Nat) : Int) by omega)
          omega⟩
        have HI1 := fun W => index21_is W xl hxb.1 (2 * N) (by omega) (by omega)
        have HI2 := fun W => index21_is W xr hxb.2 (2 * N) (by omega) (by omega)
        simp only [hp] at HI1
        simp only [hq] at HI2
        rw [show ((2 * N : Nat) : Int) = 2 * (N : Int) by omega] at HI1 HI2
        have hroom := and_room21 (G := G) p q (by rw [hN, HM.out]; omega)
        have hand : doAnd G p q = Aig.and G p q := doAnd_r (by omega) (by omega)
        have HAN := fun (W : World) (hW : Ch [] W1 W) => And_g (HBT.out.same hW).gin p q (by omega) (by omega)
        simp only [hand, hroom.1] at HAN
        have HRA := fun (W : World) (F9 : List Nat) (hW : Ch F9 W1 W) (hF : rb ∉ F9) => rAnd_is (HBT.out.rg.ch hW hF) (a := p) (b := q) (by omega) (by omega)
        have HROOM := Lib.hid hroom; clear hroom
        have HI1 := Lib.hid HI1
        have HI2 := Lib.hid HI2
        have HAN := Lib.hid HAN
        have HRA := Lib.hid HRA
        have HBK := Lib.hid hb1; clear hb1
        have HNN := Lib.hid hN
        clear hand hp hq
        rw [hN] at y1
        clear hN
        have hp2 : p ≤ 1000 := by omega
        have hq2 : q ≤ 1000 := by omega
        go_wp2_with fail
        refine Ord.St.door (fun w' => w'.cell? ⟨wr.heap.size, 1, none⟩ = some (.int .i64 xl) ∧ w'.cell? ⟨wr.heap.size, 2, none⟩ = some (.int .i64 xr)) [.fl, .ho, .fl, .ef, .fl, .ho, .fl, .ef, .fl, .fl] [0, 1, 0, 7, 0, 16, 0, 127, 255, 511] [0, 1, 2, 3, 4, 5, 6, 7, 8, 9] mixed (by kernel_rfl) rfl ?_
        obtain ⟨Wc, hWc⟩ : ∃ Wc, Wc = W1.drew := ⟨_, rfl⟩
        rw [← hWc]
        have hcur : Ch [] W1 Wc := by rw [hWc]; exact (Ch.refl _ _).drew
        clear hWc
        have hbk := HBK.out.ch hcur (by simp)
        have HCUR := Lib.hid hcur
        refine Ord.St.fl2 (T' := ?_) 0 [1, 2, 3, 4, 5, 6, 7, 8, 9] _ _ rfl (by kernel_rfl) rfl rfl rfl rfl (fun K w' hk => ?_) ?_
        rotate_left
        · go_step; exact hk
        refine Ord.St.ho2 (T' := ?_) 1 [2, 3, 4, 5, 6, 7, 8, 9] _ _ rfl (by kernel_rfl) rfl rfl rfl rfl ?_ (fun K w' hw' hk => ?_) ?_
        rotate_left
        · exact ⟨hbk.cell rfl, hbk.cell rfl⟩
        · obtain ⟨q1, q2⟩ := hw'; go_step; exact hk
        refine Ord.St.fl2 (T' := ?_) 2 [3, 4, 5, 6, 7, 8, 9] _ _ rfl (by kernel_rfl) rfl rfl rfl rfl (fun K w' hk => ?_) ?_
        rotate_left
        · go_step; exact hk
        refine Ord.St.fl2 (T' := ?_) 4 [3, 5, 6, 7, 8, 9] _ _ rfl (by kernel_rfl) rfl rfl rfl rfl (fun K w' hk => ?_) ?_
        rotate_left
        · go_step; exact hk
        refine Ord.St.ho2 (T' := ?_) 5 [3, 6, 7, 8, 9] _ _ rfl (by kernel_rfl) rfl rfl rfl rfl ?_ (fun K w' hw' hk => ?_) ?_
        rotate_left
        · exact ⟨hbk.cell rfl, hbk.cell rfl⟩
        · obtain ⟨q1, q2⟩ := hw'; go_step; exact hk
        refine Ord.St.fl2 (T' := ?_) 6 [3, 7, 8, 9] _ _ rfl (by kernel_rfl) rfl rfl rfl rfl (fun K w' hk => ?_) ?_
        rotate_left
        · go_step; exact hk
        refine Ord.St.efC 3 [7, 8, 9] _ rfl (by kernel_rfl) (fun K hK => ?_)
        go_wp2_with fail
        refine (HI1.out _).mono ?_
        rintro e w' ⟨rfl, rfl⟩
        go_wp2_with fail
        refine ⟨rfl, hK _ _ ?_ ?_⟩
        · exact ⟨hbk.cell rfl, hbk.cell rfl⟩
        clear hK K
        refine Ord.St.ef 7 [8, 9] _ rfl (by kernel_rfl) (fun K hK => ?_)
        go_wp2_with fail
        refine (HI2.out _).mono ?_
        rintro e w' ⟨rfl, rfl⟩
        go_wp2_with fail
        refine ⟨rfl, hK _ _ ?_⟩; clear hK K
        refine Ord.St.fl2 (T' := ?_) 8 [9] _ _ rfl (by kernel_rfl) rfl rfl rfl rfl (fun K w' hk => ?_) ?_
        rotate_left
        · go_step; exact hk
        refine Ord.St.fl2 (T' := ?_) 9 [] _ _ rfl (by kernel_rfl) rfl rfl rfl rfl (fun K w' hk => ?_) ?_
        rotate_left
        · go_step; exact hk
        refine Ord.St.nil ?_
        have han := HAN.out Wc HCUR.out
        have HAN1 := Lib.hid han; clear han HAN
        have hbtc := HBT.out.same HCUR.out
        have B6c := Lib.hid (B6.out.ch HCUR.out (by simp))
        have B3c := Lib.hid (B3.out.ch HCUR.out (by simp))
        have hzc := HCUR.out.size
        have HBTc := Lib.hid hbtc; clear hbtc hbk
        go_wp2_with fail
        refine HAN1.out.mono ?_
        rintro e w5 ⟨rfl, F', hg5, hc5, hF5, _⟩
        have hB5 := HRA.out w5 F (HCUR.out.mono (by simp) |>.trans hc5 (fun k hk => .inl hk)) HBT.out.ap
        have b6c := B6c.out.ch hc5 h6F
        have b3 := B3c.out.ch hc5 h3F
        have y0 := b6c.cell (i := 0) rfl
        have y1 := b6c.cell (i := 1) rfl
        have h6F' : b6 ∉ F' := fun hin => by rcases hF5 _ hin with e | e; exact h6F e; have := B6c.out.lt; omega
        have h3F' : w.heap.size ∉ F' := fun hin => by rcases hF5 _ hin with e | e; exact h3F e; have := B3c.out.lt; omega
        have hz5 := b6c.lt
        have HB5 := Lib.hid hB5; clear hB5 HRA
        have HG5 := Lib.hid hg5; clear hg5
        have HC5 := Lib.hid hc5; clear hc5
        have HF5 := Lib.hid hF5; clear hF5
        have BB6 := Lib.hid b6c; clear b6c
        have BB3 := Lib.hid b3; clear b3
        clear B6 B3 B6c B3c HAN1
        go_wp2_with fail
        refine HB5.out.mono ?_
        rintro e w6 ⟨rb', cap', rfl, hrg6, hc6, hfr⟩
        have hbt6 := HBTc.out.next (G' := (Aig.and G p q).1) HG5.out HC5.out HF5.out hrg6 hc6 hfr
        clear HB5 HG5 HC5 HF5 HBTc HBT
        obtain ⟨G1, hG1⟩ : ∃ G1, (Aig.and G p q).1 = G1 := ⟨_, rfl⟩
        have hrm := HROOM.out
        rw [hG1] at hbt6 hrg6 hrm ⊢
        have HRM := Lib.hid hrm; clear hrm HROOM hG1
        have hrb' : rb' ≠ b6 := by rcases hfr with e | e <;> omega
        have hlo' : w.heap.size + 1 ≤ rb' := by rcases hfr with e | e <;> omega
        have b6c := BB6.out.ch hc6 (by simp)
        have b3 := BB3.out.ch hc6 (by simp)
        have f0 := b6c.frozen (i := 0)
        have f1 := b6c.frozen (i := 1)
        have y0 := b6c.cell (i := 0) rfl
        have y1 := b6c.cell (i := 1) rfl
        have HBT6 := Lib.hid hbt6; clear hbt6
        have BC6 := Lib.hid b6c; clear b6c
        have BC3 := Lib.hid b3; clear b3
        clear BB6 BB3 hrg6 hc6 hfr
        go_upto_region 15 with fail
        refine wp_named fun W7 hW7 => ?_
        have hcs : Ch [b6] w6 W7 := set2_ch (u := .int .i64 G1.most) (v := .slice (some ⟨rb', 0, none⟩) G1.nodes.length cap') hW7
        have hbt7 := HBT6.out.set hcs h6F' hrb' (by omega)
        have b67 : blk W7 b6 [.int .i64 G1.most, .slice (some ⟨rb', 0, none⟩) G1.nodes.length cap'] := by rw [hW7]; exact (BC6.out.set (i := 0) _).set (i := 1) _
        have b37 := BC3.out.ch hcs (by simp; omega)
        clear hW7 hcs y0 y1 f0 f1 BC6 BC3 HBT6
        have y1 := b67.cell (i := 1) rfl
        have HBT7 := Lib.hid hbt7; clear hbt7
        have B67 := Lib.hid b67; clear b67
        have B37 := Lib.hid b37; clear b37
        have hLn := fun (W : World) (hW : Ch [] W7 W) => Len_g (HBT7.out.same hW).gin
        have HLN := Lib.hid hLn; clear hLn
        obtain ⟨N1, hN1⟩ : ∃ N1, G1.nodes.length = N1 := ⟨_, rfl⟩
        rw [hN1] at HLN y1
        have e9 : ((N1 : Int) != (N1 : Int)) = false := by simp
        have HN1 := Lib.hid hN1; clear hN1
        refine Ord.St.door (fun _ => True) [.fl, .fl, .fl, .fl, .rd, .fl, .rd, .rd, .fl, .fl] [0, 1, 3, 7, 15, 7, 39, 103, 255, 511] [0, 1, 2, 3, 4, 5, 6, 7, 8, 9] mixed (by kernel_rfl) rfl ?_
        refine Ord.St.fl2 (T' := ?_) 0 [1, 2, 3, 4, 5, 6, 7, 8, 9] _ _ rfl (by kernel_rfl) rfl rfl rfl rfl (fun K w' hk => ?_) ?_
        rotate_left
        · go_step; exact hk
        refine Ord.St.fl2 (T' := ?_) 1 [2, 3, 4, 5, 6, 7, 8, 9] _ _ rfl (by kernel_rfl) rfl rfl rfl rfl (fun K w' hk => ?_) ?_
        rotate_left
        · go_step; exact hk
        refine Ord.St.fl2 (T' := ?_) 2 [3, 4, 5, 6, 7, 8, 9] _ _ rfl (by kernel_rfl) rfl rfl rfl rfl (fun K w' hk => ?_) ?_
        rotate_left
        · go_step; exact hk
        first | (refine Ord.St.fl2 (T' := ?_) 3 [4, 5, 6, 7, 8, 9] _ _ rfl (by kernel_rfl) ?_ rfl rfl rfl (fun K w' hk => ?_) ?_; rotate_left; (first | rfl | (simp [Region.wanted, yielded, *]; done)); focus (go_step; exact hk)) | (refine Ord.St.skip 3 [4, 5, 6, 7, 8, 9] _ rfl (by kernel_rfl) ?_ (fun K hK => ?_); (first | rfl | (simp [Region.wanted, yielded, *]; done)); go_simp; refine hK _ ?_; clear hK K)
        first | (refine Ord.St.rd2 (T' := ?_) 4 [5, 6, 7, 8, 9] _ _ rfl (by kernel_rfl) ?_ rfl rfl rfl (fun K hk => ?_) ?_; rotate_left; (first | rfl | (simp [Region.wanted, yielded, *]; done)); focus (go_step; refine (HLN.out _ (Ch.refl _ _).drew).mono ?_; rintro e w' ⟨rfl, rfl⟩; exact hk)) | (refine Ord.St.skipr 4 [5, 6, 7, 8, 9] _ rfl (by kernel_rfl) ?_ (fun K hK => ?_); (first | rfl | (simp [Region.wanted, yielded, *]; done)); go_simp; refine hK _ ?_; clear hK K)
        first | (refine Ord.St.fl2 (T' := ?_) 5 [6, 7, 8, 9] _ _ rfl (by kernel_rfl) ?_ rfl rfl rfl (fun K w' hk => ?_) ?_; rotate_left; (first | rfl | (simp [Region.wanted, yielded, *]; done)); focus (go_step; exact hk)) | (refine Ord.St.skip 5 [6, 7, 8, 9] _ rfl (by kernel_rfl) ?_ (fun K hK => ?_); (first | rfl | (simp [Region.wanted, yielded, *]; done)); go_simp; refine hK _ ?_; clear hK K)
        first | (refine Ord.St.rd2 (T' := ?_) 6 [7, 8, 9] _ _ rfl (by kernel_rfl) ?_ rfl rfl rfl (fun K hk => ?_) ?_; rotate_left; (first | rfl | (simp [Region.wanted, yielded, *]; done)); focus (go_step; exact hk)) | (refine Ord.St.skipr 6 [7, 8, 9] _ rfl (by kernel_rfl) ?_ (fun K hK => ?_); (first | rfl | (simp [Region.wanted, yielded, *]; done)); go_simp; refine hK _ ?_; clear hK K)
        first | (refine Ord.St.rd2 (T' := ?_) 7 [8, 9] _ _ rfl (by kernel_rfl) ?_ rfl rfl rfl (fun K hk => ?_) ?_; rotate_left; (first | rfl | (simp [Region.wanted, yielded, *]; done)); focus (go_step; exact hk)) | (refine Ord.St.skipr 7 [8, 9] _ rfl (by kernel_rfl) ?_ (fun K hK => ?_); (first | rfl | (simp [Region.wanted, yielded, *]; done)); go_simp; refine hK _ ?_; clear hK K)
        first | (refine Ord.St.fl2 (T' := ?_) 8 [9] _ _ rfl (by kernel_rfl) ?_ rfl rfl rfl (fun K w' hk => ?_) ?_; rotate_left; (first | rfl | (simp [Region.wanted, yielded, *]; done)); focus (go_step; exact hk)) | (refine Ord.St.skip 8 [9] _ rfl (by kernel_rfl) ?_ (fun K hK => ?_); (first | rfl | (simp [Region.wanted, yielded, *]; done)); go_simp; refine hK _ ?_; clear hK K)
        refine Ord.St.fl2 (T' := ?_) 9 [] _ _ rfl (by kernel_rfl) rfl rfl rfl rfl (fun K w' hk => ?_) ?_
        rotate_left
        · go_step; exact hk
        refine Ord.St.nil ?_
        go_wp2_with fail
        go_roundw
        case rel => exact ⟨k + 1, G1, F', rb', cap', by omega, by go_num, HBT7.out.same (Ch.refl _ _).drew, h6F', h3F', hrb', hlo', B67.out.ch (Ch.refl [] _).drew (by simp), B37.out.ch (Ch.refl [] _).drew (by simp), by rw [HRM.out.2.1]; exact HM.out, by have := HRM.out.2.2.1; have := HNN.out; omega, by rw [HRM.out.2.2.2, HCNK.out, HIL.out.1]; rfl, fun hh => by have := hh _ HMEM.out; simp at this⟩
        case measure => simp [intOf]; omega
      · have hroom := input_room (G := G) (by rw [HM.out]; omega)
        have hI := Input_g HBT.out.gin
        rw [hroom.1] at hI
        have HI := Lib.hid hI; clear hI
        have HROOM := Lib.hid hroom; clear hroom hb1
        go_wp2_with fail
        refine HI.out.mono ?_
        rintro e w5 ⟨rfl, F', hg5, hc5, hF5, _⟩
        have hB5 := rPut_is (HBT.out.rg.ch hc5 HBT.out.ap) ⟨2, 0, 0, 0⟩ (fun hm => by
          have hok := hg5.ok
          unfold doInput put at hok
          rw [if_neg (by omega)] at hok
          exact hok)
        have b6c := B6.out.ch hc5 h6F
        have b3 := B3.out.ch hc5 h3F
        have y0 := b6c.cell (i := 0) rfl
        have y1 := b6c.cell (i := 1) rfl
        have h6F' : b6 ∉ F' := fun hin => by rcases hF5 _ hin with e | e; exact h6F e; have := B6.out.lt; omega
        have h3F' : w.heap.size ∉ F' := fun hin => by rcases hF5 _ hin with e | e; exact h3F e; have := B3.out.lt; omega
        have hz5 := b6c.lt
        have HB5 := Lib.hid hB5; clear hB5
        have HG5 := Lib.hid hg5; clear hg5
        have HC5 := Lib.hid hc5; clear hc5
        have HF5 := Lib.hid hF5; clear hF5
        have BB6 := Lib.hid b6c; clear b6c
        have BB3 := Lib.hid b3; clear b3
        clear B6 B3 HI
        go_wp2_with fail
        refine HB5.out.mono ?_
        rintro e w6 ⟨rb', cap', rfl, hrg6, hc6, hfr⟩
        have hbt6 := HBT.out.next (G' := (put G ⟨2, 0, 0, 0⟩).1) HG5.out HC5.out HF5.out hrg6 hc6 hfr
        clear HB5 HG5 HC5 HF5 HBT
        obtain ⟨G1, hG1⟩ : ∃ G1, (put G ⟨2, 0, 0, 0⟩).1 = G1 := ⟨_, rfl⟩
        have hrm := HROOM.out
        change (put G ⟨2, 0, 0, 0⟩).2.2 = 0 ∧ (put G ⟨2, 0, 0, 0⟩).1.most = G.most ∧ (put G ⟨2, 0, 0, 0⟩).1.nodes.length = G.nodes.length + 1 ∧ (inputs (put G ⟨2, 0, 0, 0⟩).1.nodes).length = (inputs G.nodes).length + 1 at hrm
        rw [hG1] at hbt6 hrg6 hrm ⊢
        have HPG := Lib.hid hG1
        have HRM := Lib.hid hrm; clear hrm HROOM hG1
        have hrb' : rb' ≠ b6 := by rcases hfr with e | e <;> omega
        have hlo' : w.heap.size + 1 ≤ rb' := by rcases hfr with e | e <;> omega
        have b6c := BB6.out.ch hc6 (by simp)
        have b3 := BB3.out.ch hc6 (by simp)
        have f0 := b6c.frozen (i := 0)
        have f1 := b6c.frozen (i := 1)
        have y0 := b6c.cell (i := 0) rfl
        have y1 := b6c.cell (i := 1) rfl
        have HBT6 := Lib.hid hbt6; clear hbt6
        have BC6 := Lib.hid b6c; clear b6c
        have BC3 := Lib.hid b3; clear b3
        clear BB6 BB3 hrg6 hc6 hfr
        go_upto_region 15 with fail
        refine wp_named fun W7 hW7 => ?_
        have hcs : Ch [b6] w6 W7 := set2_ch (u := .int .i64 G1.most) (v := .slice (some ⟨rb', 0, none⟩) G1.nodes.length cap') hW7
        have hbt7 := HBT6.out.set hcs h6F' hrb' (by omega)
        have b67 : blk W7 b6 [.int .i64 G1.most, .slice (some ⟨rb', 0, none⟩) G1.nodes.length cap'] := by rw [hW7]; exact (BC6.out.set (i := 0) _).set (i := 1) _
        have b37 := BC3.out.ch hcs (by simp; omega)
        clear hW7 hcs y0 y1 f0 f1 BC6 BC3 HBT6
        have y1 := b67.cell (i := 1) rfl
        have HBT7 := Lib.hid hbt7; clear hbt7
        have B67 := Lib.hid b67; clear b67
        have B37 := Lib.hid b37; clear b37
        have hLn := fun (W : World) (hW : Ch [] W7 W) => Len_g (HBT7.out.same hW).gin
        have HLN := Lib.hid hLn; clear hLn
        obtain ⟨N1, hN1⟩ : ∃ N1, G1.nodes.length = N1 := ⟨_, rfl⟩
        rw [hN1] at HLN y1
        have e9 : ((N1 : Int) != (N1 : Int)) = false := by simp
        have HN1 := Lib.hid hN1; clear hN1
        refine Ord.St.door (fun _ => True) [.fl, .fl, .fl, .fl, .rd, .fl, .rd, .rd, .fl, .fl] [0, 1, 3, 7, 15, 7, 39, 103, 255, 511] [0, 1, 2, 3, 4, 5, 6, 7, 8, 9] mixed (by kernel_rfl) rfl ?_
        refine Ord.St.fl2 (T' := ?_) 0 [1, 2, 3, 4, 5, 6, 7, 8, 9] _ _ rfl (by kernel_rfl) rfl rfl rfl rfl (fun K w' hk => ?_) ?_
        rotate_left
        · go_step; exact hk
        refine Ord.St.fl2 (T' := ?_) 1 [2, 3, 4, 5, 6, 7, 8, 9] _ _ rfl (by kernel_rfl) rfl rfl rfl rfl (fun K w' hk => ?_) ?_
        rotate_left
        · go_step; exact hk
        refine Ord.St.fl2 (T' := ?_) 2 [3, 4, 5, 6, 7, 8, 9] _ _ rfl (by kernel_rfl) rfl rfl rfl rfl (fun K w' hk => ?_) ?_
        rotate_left
        · go_step; exact hk
        first | (refine Ord.St.fl2 (T' := ?_) 3 [4, 5, 6, 7, 8, 9] _ _ rfl (by kernel_rfl) ?_ rfl rfl rfl (fun K w' hk => ?_) ?_; rotate_left; (first | rfl | (simp [Region.wanted, yielded, *]; done)); focus (go_step; exact hk)) | (refine Ord.St.skip 3 [4, 5, 6, 7, 8, 9] _ rfl (by kernel_rfl) ?_ (fun K hK => ?_); (first | rfl | (simp [Region.wanted, yielded, *]; done)); go_simp; refine hK _ ?_; clear hK K)
        first | (refine Ord.St.rd2 (T' := ?_) 4 [5, 6, 7, 8, 9] _ _ rfl (by kernel_rfl) ?_ rfl rfl rfl (fun K hk => ?_) ?_; rotate_left; (first | rfl | (simp [Region.wanted, yielded, *]; done)); focus (go_step; refine (HLN.out _ (Ch.refl _ _).drew).mono ?_; rintro e w' ⟨rfl, rfl⟩; exact hk)) | (refine Ord.St.skipr 4 [5, 6, 7, 8, 9] _ rfl (by kernel_rfl) ?_ (fun K hK => ?_); (first | rfl | (simp [Region.wanted, yielded, *]; done)); go_simp; refine hK _ ?_; clear hK K)
        first | (refine Ord.St.fl2 (T' := ?_) 5 [6, 7, 8, 9] _ _ rfl (by kernel_rfl) ?_ rfl rfl rfl (fun K w' hk => ?_) ?_; rotate_left; (first | rfl | (simp [Region.wanted, yielded, *]; done)); focus (go_step; exact hk)) | (refine Ord.St.skip 5 [6, 7, 8, 9] _ rfl (by kernel_rfl) ?_ (fun K hK => ?_); (first | rfl | (simp [Region.wanted, yielded, *]; done)); go_simp; refine hK _ ?_; clear hK K)
        first | (refine Ord.St.rd2 (T' := ?_) 6 [7, 8, 9] _ _ rfl (by kernel_rfl) ?_ rfl rfl rfl (fun K hk => ?_) ?_; rotate_left; (first | rfl | (simp [Region.wanted, yielded, *]; done)); focus (go_step; exact hk)) | (refine Ord.St.skipr 6 [7, 8, 9] _ rfl (by kernel_rfl) ?_ (fun K hK => ?_); (first | rfl | (simp [Region.wanted, yielded, *]; done)); go_simp; refine hK _ ?_; clear hK K)
        first | (refine Ord.St.rd2 (T' := ?_) 7 [8, 9] _ _ rfl (by kernel_rfl) ?_ rfl rfl rfl (fun K hk => ?_) ?_; rotate_left; (first | rfl | (simp [Region.wanted, yielded, *]; done)); focus (go_step; exact hk)) | (refine Ord.St.skipr 7 [8, 9] _ rfl (by kernel_rfl) ?_ (fun K hK => ?_); (first | rfl | (simp [Region.wanted, yielded, *]; done)); go_simp; refine hK _ ?_; clear hK K)
        first | (refine Ord.St.fl2 (T' := ?_) 8 [9] _ _ rfl (by kernel_rfl) ?_ rfl rfl rfl (fun K w' hk => ?_) ?_; rotate_left; (first | rfl | (simp [Region.wanted, yielded, *]; done)); focus (go_step; exact hk)) | (refine Ord.St.skip 8 [9] _ rfl (by kernel_rfl) ?_ (fun K hK => ?_); (first | rfl | (simp [Region.wanted, yielded, *]; done)); go_simp; refine hK _ ?_; clear hK K)
        refine Ord.St.fl2 (T' := ?_) 9 [] _ _ rfl (by kernel_rfl) rfl rfl rfl rfl (fun K w' hk => ?_) ?_
        rotate_left
        · go_step; exact hk
        refine Ord.St.nil ?_
        go_wp2_with fail
        go_roundw
        case rel => exact ⟨k + 1, G1, F', rb', cap', by omega, by go_num, HBT7.out.same (Ch.refl _ _).drew, h6F', h3F', hrb', hlo', B67.out.ch (Ch.refl [] _).drew (by simp), B37.out.ch (Ch.refl [] _).drew (by simp), by rw [HRM.out.2.1]; exact HM.out, by have := HRM.out.2.2.1; omega, by rw [HRM.out.2.2.2, HCNK.out, HIL.out.1]; rfl, fun hh => by rw [← HPG.out, HIL.out.2 (fun x hx => hh x (by rw [List.take_add_one]; exact List.mem_append_left _ hx))]; rfl⟩
        case measure => simp [intOf]; omega
    · have hkn : k = n := by omega
      have HBT := Lib.hid hbt; clear hbt
      have z0 := b3.cell (i := 0) rfl
      have z1 := b3.cell (i := 1) rfl
      have g0 := b3.frozen (i := 0)
      have g1 := b3.frozen (i := 1)
      have y0 := b6c.cell (i := 0) rfl
      have y1 := b6c.cell (i := 1) rfl
      clear b6c b3
      go_wp2_with fail
      refine Ord.St.door (fun _ => True) [.fl, .rd, .fl, .ef, .fl] [0, 0, 1, 7, 15] [0, 1, 2, 3, 4] mixed (by kernel_rfl) rfl ?_
      refine Ord.St.fl2 (T' := ?_) 0 [1, 2, 3, 4] _ _ rfl (by kernel_rfl) rfl rfl rfl rfl (fun K w' hk => ?_) ?_
      rotate_left
      · go_step; exact hk
      refine Ord.St.rd2 (T' := ?_) 1 [2, 3, 4] _ _ rfl (by kernel_rfl) rfl rfl rfl rfl (fun K hk => ?_) ?_
      rotate_left
      · go_step; exact hk
      refine Ord.St.fl2 (T' := ?_) 2 [3, 4] _ _ rfl (by kernel_rfl) rfl rfl rfl rfl (fun K w' hk => ?_) ?_
      rotate_left
      · go_step; exact hk
      refine Ord.St.ef 3 [4] _ rfl (by kernel_rfl) (fun K hK => ?_)
      go_wp2_with fail
      refine ⟨rfl, hK _ _ ?_⟩; clear hK K
      refine Ord.St.fl2 (T' := ?_) 4 [] _ _ rfl (by kernel_rfl) rfl rfl rfl rfl (fun K w' hk => ?_) ?_
      rotate_left
      · go_step; exact hk
      refine Ord.St.nil ?_
      go_wp2_with fail
      have hcs : Ch [w.heap.size] wr ((wr.setCell ⟨w.heap.size, 0, none⟩ (.int .i64 G.most)).setCell ⟨w.heap.size, 1, none⟩ (.slice (some ⟨rb, 0, none⟩) G.nodes.length cap)).drew := (((Ch.refl _ _).setCell (by simp) _).setCell (by simp) _).drew
      refine bodyPost_ret (v := .tuple #[.pointer (some ⟨g, 0, none⟩), .agg #[.int .i64 G.most, .slice (some ⟨rb, 0, none⟩) G.nodes.length cap], .bool true]) (by simp [results, Try.results37, go_sem, z0, z1]) rfl ?_
      refine ⟨g, F, rb, cap, G, rfl, HBT.out.set hcs h3F (by omega) (by omega), HM.out, by omega, ?_, ?_⟩
      · rw [HIL.out.1, hkn, HFULL.out]
      · rw [← hkn]; exact HIL.out.2
theorem build21_is {a : Option Addr} {n ncap : Nat} {l : List N21} (hS : NodeS w a n ncap l) (hn : n ≤ 61) :
    Calls Try.prog 37 #[.slice a n ncap] w fun e w' => ∃ g F rb cap G, e = .returned (.tuple #[.pointer (some ⟨g, 0, none⟩), .agg #[.int .i64 G.most, .slice (some ⟨rb, 0, none⟩) G.nodes.length cap], .bool true]) ∧ Both w w' g rb cap G F ∧ G.most = 200 ∧ G.nodes.length ≤ n + 1 ∧ (inputs G.nodes).length = cntI l :=
  (build21_full hS hn).mono (by rintro e w' ⟨g, F, rb, cap, G, h1, h2, h3, h4, h5, _⟩; exact ⟨g, F, rb, cap, G, h1, h2, h3, h4, h5⟩)
end
end Go.Proofs.Ytdmmanfjafempaa
namespace Go.Aig
/-- a constant and k inputs -/
def inL (k : Nat) : List Nd := ⟨1, 0, 0, 0⟩ :: List.replicate k ⟨2, 0, 0, 0⟩
theorem inL_succ (k : Nat) : inL (k + 1) = inL k ++ [⟨2, 0, 0, 0⟩] := by unfold inL; rw [List.replicate_succ']; rfl
theorem inK_nodes : ∀ k, k ≤ 199 → (Go.Proofs.Ytdmmanfjafempaa.inK k).nodes = inL k ∧ (Go.Proofs.Ytdmmanfjafempaa.inK k).most = 200
  | 0, _ => ⟨rfl, rfl⟩
  | k + 1, h => by
    obtain ⟨h1, h2⟩ := inK_nodes k (by omega)
    have hl : (inL k).length = k + 1 := by simp [inL]
    unfold Go.Proofs.Ytdmmanfjafempaa.inK put
    rw [h1, h2, hl, if_neg (by omega), inL_succ]
    exact ⟨rfl, rfl⟩
theorem nv_inL (env : Nat → Bool) : ∀ k, nv env (inL k) = (false :: (List.range k).map env, k)
  | 0 => rfl
  | k + 1 => by
    rw [inL_succ, nv_snoc, nv_inL env k]
    unfold nvStep
    rw [if_neg (by decide), if_pos rfl, List.range_succ, List.map_append]
    rfl
theorem wv_inL (M : Nat) (ins : List Nat) : ∀ k, k ≤ ins.length → wvF M ins (inL k) = (0 :: ins.take k, ins.drop k)
  | 0, _ => rfl
  | k + 1, h => by
    rw [inL_succ, wvF_snoc, wv_inL M ins k (by omega)]
    unfold wvStep
    rw [if_neg (by decide), if_pos rfl, List.take_add_one, List.getElem?_eq_getElem (by omega)]
    simp [List.headD_eq_head?_getD, List.head?_drop, List.getElem?_eq_getElem (show k < ins.length by omega)]
theorem inputs_inL : ∀ k, (inputs (inL k)).length = k
  | 0 => by decide
  | k + 1 => by
    rw [inL_succ, Go.Proofs.Ytdmmanfjafempaa.inputs_input rfl, List.length_append, inputs_inL k]
    rfl
theorem inK16 : (Go.Proofs.Ytdmmanfjafempaa.inK 16).nodes.length = 17 ∧ (inputs (Go.Proofs.Ytdmmanfjafempaa.inK 16).nodes).length = 16 := by
  rw [(inK_nodes 16 (by omega)).1, inputs_inL]
  exact ⟨by simp [inL], rfl⟩
theorem bv_inL (p : Nat → Bool) {k i : Nat} (h : i < k) : bv p (inL k) (2 * (i + 1)) = p i ∧ bv p (inL k) (2 * (i + 1) + 1) = !p i := by
  unfold bv rv
  rw [nv_inL, show 2 * (i + 1) / 2 = i + 1 by omega, show (2 * (i + 1) + 1) / 2 = i + 1 by omega, decide_eq_false (by omega), decide_eq_true (show (2 * (i + 1) + 1) % 2 = 1 by omega)]
  simp [List.getD_eq_getElem?_getD, h]
theorem bv16_32 (p : Nat → Bool) : bv p (Go.Proofs.Ytdmmanfjafempaa.inK 16).nodes 32 = p 15 := by rw [(inK_nodes 16 (by omega)).1]; exact (bv_inL p (i := 15) (by omega)).1
theorem bv16_33 (p : Nat → Bool) : bv p (Go.Proofs.Ytdmmanfjafempaa.inK 16).nodes 33 = !p 15 := by rw [(inK_nodes 16 (by omega)).1]; exact (bv_inL p (i := 15) (by omega)).2
theorem bv16_30 (p : Nat → Bool) : bv p (Go.Proofs.Ytdmmanfjafempaa.inK 16).nodes 30 = p 14 := by rw [(inK_nodes 16 (by omega)).1]; exact (bv_inL p (i := 14) (by omega)).1
theorem asg16 (a i : Nat) (h : i < 16) : asg 16 a i = a.testBit i := by unfold asg; rw [decide_eq_true h, Bool.true_and]
theorem bit15 {a : Nat} (h : a < 65536) : a.testBit 15 = decide (32768 ≤ a) := by
  rw [Nat.testBit_eq_decide_div_mod_eq]
  exact decide_eq_decide.2 (by omega)
theorem bit14 {a : Nat} (_h : a < 65536) : a.testBit 14 = decide (16384 ≤ a % 32768) := by
  rw [Nat.testBit_eq_decide_div_mod_eq]
  exact decide_eq_decide.2 (by omega)
theorem count16 : countV 16 (tellR (Go.Proofs.Ytdmmanfjafempaa.inK 16).nodes 16 33) = 32768 := by
  have hp : ∀ a, a < 65536 → tellR (Go.Proofs.Ytdmmanfjafempaa.inK 16).nodes 16 33 a = decide (a < 32768) := fun a ha => by
    unfold tellR
    rw [bv16_33, asg16 _ _ (by omega), bit15 ha, ← decide_not]
    exact decide_eq_decide.2 (by omega)
  unfold countV
  generalize tellR (Go.Proofs.Ytdmmanfjafempaa.inK 16).nodes 16 33 = q at hp ⊢
  have h := filter_upto (fun _ => true) q 32768 (fun a ha => by rw [hp a (by omega)]; exact decide_eq_true ha) 32768 (fun a h1 h2 => by rw [hp a (by omega)]; exact decide_eq_false (by omega))
  rw [show (2 ^ 16 : Nat) = 32768 + 32768 from rfl, h, List.filter_eq_self.2 (by simp), List.length_range]
theorem firstR_of {n a : Nat} {p : Nat → Bool} (hm : a < 2 ^ n) (hp : p a = true) (h : ∀ b, b < a → p b = false) : firstR n p = (asgBits n a, true) := by
  have h2 : firstV n p = some a := find_range p a hp h _ hm
  unfold firstR
  rw [h2]
theorem first16 : firstR 16 (tellR (Go.Proofs.Ytdmmanfjafempaa.inK 16).nodes 16 32) = (asgBits 16 32768, true) := by
  have hp : ∀ a, a < 65536 → tellR (Go.Proofs.Ytdmmanfjafempaa.inK 16).nodes 16 32 a = decide (32768 ≤ a) := fun a ha => by
    unfold tellR
    rw [bv16_32, asg16 _ _ (by omega), bit15 ha]
  generalize tellR (Go.Proofs.Ytdmmanfjafempaa.inK 16).nodes 16 32 = q at hp ⊢
  exact firstR_of (n := 16) (by decide) (by rw [hp _ (by omega)]; exact decide_eq_true (by omega)) (fun b hb => by rw [hp _ (by omega)]; exact decide_eq_false (by omega))
theorem parts16 : firstR 16 (tellX (Go.Proofs.Ytdmmanfjafempaa.inK 16).nodes 16 32 30) = (asgBits 16 16384, true) := by
  have hp : ∀ a, a < 32768 → tellX (Go.Proofs.Ytdmmanfjafempaa.inK 16).nodes 16 32 30 a = decide (16384 ≤ a) := fun a ha => by
    unfold tellX
    rw [bv16_32, bv16_30, asg16 _ _ (by omega), asg16 _ _ (by omega), bit15 (by omega), bit14 (by omega), decide_eq_false (by omega), Bool.false_xor]
    exact decide_eq_decide.2 (by omega)
  generalize tellX (Go.Proofs.Ytdmmanfjafempaa.inK 16).nodes 16 32 30 = q at hp ⊢
  exact firstR_of (n := 16) (by decide) (by rw [hp _ (by omega)]; exact decide_eq_true (by omega)) (fun b hb => by rw [hp _ (by omega)]; exact decide_eq_false (by omega))
theorem word16 (ins : List Nat) (h : ins.length = 16) : wref M64 (wvF M64 ins (Go.Proofs.Ytdmmanfjafempaa.inK 16).nodes).1 32 = ins.getD 15 0 := by
  rw [(inK_nodes 16 (by omega)).1, wv_inL _ _ _ (by omega), List.take_of_length_le (by omega)]
  unfold wref
  rw [if_neg (by omega)]
  rfl
theorem table16 {i : Nat} (hi : i < 1024) : (tabW (Go.Proofs.Ytdmmanfjafempaa.inK 16).nodes (Go.Proofs.Ytdmmanfjafempaa.oneF 32) 16)[i]? = some (if i < 512 then 0 else 18446744073709551615) := by
  rw [tab_at _ _ _ (show i < 2 ^ (16 - 6) from hi)]
  have h : Go.Proofs.Ytdmmanfjafempaa.oneF 32 (wvF M64 (inW 16 i) (Go.Proofs.Ytdmmanfjafempaa.inK 16).nodes).1 = (inW 16 i).getD 15 0 := word16 _ (inW_len _ _)
  have h2 : (inW 16 i).getD 15 0 = if i / 512 % 2 = 1 then M64 else 0 := rfl
  rw [h, h2]
  by_cases hl : i < 512
  · rw [if_pos hl, if_neg (by omega), Nat.zero_and]
  · rw [if_neg hl, if_pos (by omega)]; rfl
theorem tab16_len : (tabW (Go.Proofs.Ytdmmanfjafempaa.inK 16).nodes (Go.Proofs.Ytdmmanfjafempaa.oneF 32) 16).length = 1024 := tab_len _ _ _
theorem tableR16 : Go.Proofs.Ytdmmanfjafempaa.tableR (Go.Proofs.Ytdmmanfjafempaa.inK 16) 32 = (tabW (Go.Proofs.Ytdmmanfjafempaa.inK 16).nodes (Go.Proofs.Ytdmmanfjafempaa.oneF 32) 16, 0) := table_ok (r := 32) (by rw [inK16.1]; omega) inK16.2 (by omega)
theorem countR16 : Go.Proofs.Ytdmmanfjafempaa.countR (Go.Proofs.Ytdmmanfjafempaa.inK 16) 33 = (32768, 0) := by
  have h := count_ok (G := Go.Proofs.Ytdmmanfjafempaa.inK 16) (r := 33) (by rw [inK16.1]; omega) inK16.2 (by omega)
  rw [count16] at h
  exact h
theorem firstG16 : Go.Proofs.Ytdmmanfjafempaa.firstG (Go.Proofs.Ytdmmanfjafempaa.inK 16) 32 = ((asgBits 16 32768, true), 0) := by
  have h := first_ok (G := Go.Proofs.Ytdmmanfjafempaa.inK 16) (r := 32) (by rw [inK16.1]; omega) inK16.2 (by omega)
  rw [first16] at h
  exact h
theorem partsG16 : Go.Proofs.Ytdmmanfjafempaa.partsG (Go.Proofs.Ytdmmanfjafempaa.inK 16) 32 30 = ((asgBits 16 16384, true), 0) := by
  have h := parts_ok (G := Go.Proofs.Ytdmmanfjafempaa.inK 16) (r := 32) (s := 30) (by rw [inK16.1]; omega) (by rw [inK16.1]; omega) inK16.2 (by omega)
  rw [parts16] at h
  exact h
end Go.Aig
namespace Go.Proofs.Ytdmmanfjafempaa
open Go.RowKit Go.Mem Go.Aig
theorem bools_get {l : List Bool} {i : Nat} {x : Bool} (h : l[i]? = some x) : (bools l)[i]? = some (.bool x) := by simp [bools, h]
theorem u64s_at {l : List Nat} {i x : Nat} (h : l[i]? = some x) : (u64s l)[i]? = some (.int .u64 x) := by simp [u64s, h]
section
variable {w : World}
set_option maxRecDepth 100000 in
set_option maxHeartbeats 8000000 in
theorem wide21_is {a : Option Addr} {ncap : Nat} {l : List N21} (hS : NodeS w a 16 ncap l) (hall : ∀ x ∈ l, x.inp = true) :
    Calls Try.prog 11 #[.slice a 16 ncap] w fun e w' => e = .returned (.bool true) ∧ Ch [] w w' := by
  have hB := build21_full hS (by omega)
  have HALL := Lib.hid (fun x hx => hall x (List.mem_of_mem_take (i := 16) hx))
  have HB := Lib.hid hB; clear hB hS hall
  have z0 : ((0 : Nat) : Int) = 0 := rfl
  have z1 : ((32768 : Nat) : Int) = 32768 := rfl
  have hT := fun (W : World) (F : List Nat) (g : Nat) (h : GIn W g (inK 16) F) => simTable_is h 32 (by decide)
  have hC := fun (W : World) (F : List Nat) (g : Nat) (h : GIn W g (inK 16) F) => simCount_is h 33 (by decide)
  have hF := fun (W : World) (F : List Nat) (g : Nat) (h : GIn W g (inK 16) F) => simFirst_is h 32 (by decide)
  have hP := fun (W : World) (F : List Nat) (g : Nat) (h : GIn W g (inK 16) F) => simParts_is h 32 30 (by decide) (by decide)
  simp only [tableR16, z0] at hT
  simp only [countR16, z0, z1] at hC
  simp only [firstG16, z0] at hF
  simp only [partsG16, z0] at hP
  have HT := Lib.hid hT; clear hT
  have HC := Lib.hid hC; clear hC
  have HF := Lib.hid hF; clear hF
  have HP := Lib.hid hP; clear hP
  clear z0 z1
  go_enter Try.func11, Try.ntmps11
  go_wp2_with fail
  refine HB.out.mono ?_
  rintro e w1 ⟨g, F, rb, cap, G, rfl, hb, hm, hnl, hil, hai⟩
  obtain rfl : G = inK 16 := hai HALL.out
  have hg := hb.gin
  have hc := hb.ch
  clear hb hm hnl hil hai HB HALL
  have HG := Lib.hid hg; clear hg
  have HH := Lib.hid hc; clear hc
  go_upto_region 2 with fail
  refine wp_alw ?_
  intro W1 hW1
  have hcA : Ch [] w1 W1 := by rw [hW1]; exact (Ch.refl _ _).alloc _
  have hg := HG.out.same hcA (by simp)
  replace HH := Lib.hid (HH.out.trans hcA (by simp))
  clear hW1 hcA HG
  have HX1 := Lib.hid (HT.out W1 F g hg)
  have HG := Lib.hid hg; clear hg HT
  go_wp2_with fail
  refine HX1.out.mono ?_
  rintro e w2 ⟨tv, rfl, hrow, _, hc2⟩
  obtain ⟨ta, tc, rfl⟩ := row.shape hrow
  rw [tab16_len] at hrow ⊢
  have hg := HG.out.same hc2 (by simp)
  replace HH := Lib.hid (HH.out.trans hc2 (by simp))
  have HROW := Lib.hid hrow; clear hrow hc2 HX1 HG
  have HX1 := Lib.hid (HC.out w2 F g hg)
  have HG := Lib.hid hg; clear hg HC
  go_wp2_with fail
  refine HX1.out.mono ?_
  rintro e w3 ⟨rfl, hc3⟩
  have hg := HG.out.same hc3 (by simp)
  replace HH := Lib.hid (HH.out.trans hc3 (by simp))
  replace HROW := Lib.hid (HROW.out.ch hc3 (by simp)); clear hc3 HX1 HG
  have HX1 := Lib.hid (HF.out w3 F g hg)
  have HG := Lib.hid hg; clear hg HF
  go_wp2_with fail
  refine HX1.out.mono ?_
  rintro e w4 ⟨fv, rfl, hfr, _, hc4⟩
  obtain ⟨fa, fc, rfl⟩ := row.shape hfr
  have hfl : (asgBits 16 32768).length = 16 := rfl
  simp only [hfl] at hfr ⊢
  have hg := HG.out.same hc4 (by simp)
  replace HH := Lib.hid (HH.out.trans hc4 (by simp))
  replace HROW := Lib.hid (HROW.out.ch hc4 (by simp)); clear hc4 HX1 HG hfl
  have HFR := Lib.hid hfr; clear hfr
  have HX1 := Lib.hid (HP.out w4 F g hg)
  clear hg HP
  go_wp2_with fail
  refine HX1.out.mono ?_
  rintro e w5 ⟨pv, rfl, hpr, _, hc5⟩
  obtain ⟨pa, pc, rfl⟩ := row.shape hpr
  have hpl : (asgBits 16 16384).length = 16 := rfl
  simp only [hpl] at hpr ⊢
  replace HH := Lib.hid (HH.out.trans hc5 (by simp))
  replace HROW := Lib.hid (HROW.out.ch hc5 (by simp))
  replace HFR := Lib.hid (HFR.out.ch hc5 (by simp)); clear hc5 HX1 hpl
  have HPR := Lib.hid hpr; clear hpr
  go_wp2_with fail
  go_loopw [85] (fun i wr => ∃ k : Nat, k ≤ 1024 ∧ i = .int .i64 k ∧ Ch [] w5 wr) (fun i _ => 1024 - (intOf i).toNat)
  case atStart => exact ⟨0, by omega, rfl, Ch.refl _ _⟩
  case round =>
    obtain ⟨k, hk, rfl, hcur⟩ := hrel
    by_cases hlt : k < 1024
    · have hrow := HROW.out.ch hcur (by simp)
      obtain ⟨tb, tcap, e⟩ := hrow.parts (by omega)
      cases e
      have c0 := row_cell hrow (u64s_at (table16 hlt))
      clear hrow
      have HCUR := Lib.hid hcur; clear hcur
      by_cases h5 : k < 512
      · rw [if_pos h5] at c0
        have e1 : decide ((k : Int) < 512) = true := decide_eq_true (by omega)
        have H5 := Lib.hid h5; clear h5
        go_wp2_with fail
        go_roundw
        case rel => exact ⟨k + 1, by omega, by go_num, HCUR.out⟩
        case measure => simp [intOf]; omega
      · rw [if_neg h5] at c0
        have e1 : decide ((k : Int) < 512) = false := decide_eq_false (by omega)
        have H5 := Lib.hid h5; clear h5
        go_wp2_with fail
        go_roundw
        case rel => exact ⟨k + 1, by omega, by go_num, HCUR.out⟩
        case measure => simp [intOf]; omega
    · have hfr := HFR.out.ch hcur (by simp)
      have hpr := HPR.out.ch hcur (by simp)
      obtain ⟨fb, fcap, e⟩ := hfr.parts (by omega)
      cases e
      obtain ⟨pb, pcap, e⟩ := hpr.parts (by omega)
      cases e
      have f15 := row_cell hfr (bools_get (i := 15) (x := true) (by decide))
      have f14 := row_cell hfr (bools_get (i := 14) (x := false) (by decide))
      have p15 := row_cell hpr (bools_get (i := 15) (x := false) (by decide))
      have p14 := row_cell hpr (bools_get (i := 14) (x := true) (by decide))
      have p0 := row_cell hpr (bools_get (i := 0) (x := false) (by decide))
      replace HH := Lib.hid (HH.out.trans hcur (by simp))
      clear hfr hpr hcur
      go_wp2_with fail
      go_ret
      exact ⟨rfl, HH.out⟩
end
end Go.Proofs.Ytdmmanfjafempaa
namespace Go.Proofs.Ytdmmanfjafempaa
open Go.RowKit Go.Mem Go.Aig
section
variable {w : World}
set_option maxRecDepth 100000 in
set_option maxHeartbeats 1000000 in
theorem EFbool_yes {a b : Option Addr} {xs : List Bool} {ys : List Int} (n ca cb fid : Nat) (hx : xs.length = n) (hy : ys.length = n) (hn : n ≤ 1000000) (h : Sb w a xs) (h2 : Sl w b ys) (hf : ∀ (k : Nat) x y, xs[k]? = some x → ys[k]? = some y → Calls Try.prog fid #[.bool x, .int .i64 y] w fun e w' => e = .returned (.bool true) ∧ w = w') (hfn : Fnv fid) :
    Calls Try.prog 120 #[.slice a n ca, .slice b n cb, .func (.func fid) #[] #[]] w fun e w' => e = .returned (.bool true) ∧ w = w' := by
  have hcf : ∀ (args : Array Value) (w : World), (callFunc fid args).run Try.prog w = .ok (.enter fid args) w := hfn
  have HF := Lib.hid hf; clear hf
  have H := Lib.hid h; clear h
  have H2 := Lib.hid h2; clear h2
  have HX := Lib.hid hx; clear hx
  have HY := Lib.hid hy; clear hy
  go_enter Try.func120, Try.ntmps120
  go_wp2_with fail
  go_loopw [17] (fun i wr => ∃ k : Nat, k ≤ n ∧ i = .int .i64 k ∧ w = wr) (fun i _ => n - (intOf i).toNat)
  case atStart => exact ⟨0, by omega, rfl, rfl⟩
  case round =>
    obtain ⟨k, hk, rfl, rfl⟩ := hrel
    by_cases hlt : k < n
    · obtain ⟨x, hx⟩ : ∃ x, xs[k]? = some x := ⟨_, List.getElem?_eq_getElem (by rw [HX.out]; exact hlt)⟩
      obtain ⟨y, hy⟩ : ∃ y, ys[k]? = some y := ⟨_, List.getElem?_eq_getElem (by rw [HY.out]; exact hlt)⟩
      have HC := Lib.hid (HF.out k x y hx hy)
      obtain ⟨b1, o1, rfl, c1⟩ := H.out.cells k (.bool x) (by simp [hx])
      obtain ⟨b2, o2, rfl, c2⟩ := H2.out.cells k y hy
      clear hx hy
      go_wp2_with fail
      refine HC.out.mono ?_
      rintro e w' ⟨rfl, rfl⟩
      go_wp2_with fail
      go_roundw
      case rel => exact ⟨k + 1, by omega, by go_num, trivial⟩
      case measure => simp [intOf]; omega
    · go_wp2_with fail
      go_ret
      exact ⟨rfl, rfl⟩
set_option maxRecDepth 100000 in
set_option maxHeartbeats 1000000 in
theorem EFref_yes {a b : Option Addr} {xs ys : List Int} (n ca cb fid : Nat) (hx : xs.length = n) (hy : ys.length = n) (hn : n ≤ 1000000) (h : Sl w a xs) (h2 : Sl w b ys) (hf : ∀ (k : Nat) x y, xs[k]? = some x → ys[k]? = some y → Calls Try.prog fid #[.int .i64 x, .int .i64 y] w fun e w' => e = .returned (.bool true) ∧ w = w') (hfn : Fnv fid) :
    Calls Try.prog 49 #[.slice a n ca, .slice b n cb, .func (.func fid) #[] #[]] w fun e w' => e = .returned (.bool true) ∧ w = w' := by
  have hcf : ∀ (args : Array Value) (w : World), (callFunc fid args).run Try.prog w = .ok (.enter fid args) w := hfn
  have HF := Lib.hid hf; clear hf
  have H := Lib.hid h; clear h
  have H2 := Lib.hid h2; clear h2
  have HX := Lib.hid hx; clear hx
  have HY := Lib.hid hy; clear hy
  go_enter Try.func49, Try.ntmps49
  go_wp2_with fail
  go_loopw [17] (fun i wr => ∃ k : Nat, k ≤ n ∧ i = .int .i64 k ∧ w = wr) (fun i _ => n - (intOf i).toNat)
  case atStart => exact ⟨0, by omega, rfl, rfl⟩
  case round =>
    obtain ⟨k, hk, rfl, rfl⟩ := hrel
    by_cases hlt : k < n
    · obtain ⟨x, hx⟩ : ∃ x, xs[k]? = some x := ⟨_, List.getElem?_eq_getElem (by rw [HX.out]; exact hlt)⟩
      obtain ⟨y, hy⟩ : ∃ y, ys[k]? = some y := ⟨_, List.getElem?_eq_getElem (by rw [HY.out]; exact hlt)⟩
      have HC := Lib.hid (HF.out k x y hx hy)
      obtain ⟨b1, o1, rfl, c1⟩ := H.out.cells k x hx
      obtain ⟨b2, o2, rfl, c2⟩ := H2.out.cells k y hy
      clear hx hy
      go_wp2_with fail
      refine HC.out.mono ?_
      rintro e w' ⟨rfl, rfl⟩
      go_wp2_with fail
      go_roundw
      case rel => exact ⟨k + 1, by omega, by go_num, trivial⟩
      case measure => simp [intOf]; omega
    · go_wp2_with fail
      go_ret
      exact ⟨rfl, rfl⟩
theorem fnvsame21_1 : Fnv 121 := fnv_of Try.func121 (by simp [Try.f121]) (by simp [Try.f121])
theorem fnvwords21_1 : Fnv 50 := fnv_of Try.func50 (by simp [Try.f50]) (by simp [Try.f50])
set_option maxRecDepth 100000 in
theorem same21_1_is (x : Bool) : Calls Try.prog 121 #[.bool x, .int .i64 (x.toNat : Nat)] w fun e w' => e = .returned (.bool true) ∧ w = w' := by
  cases x
  · go_enter Try.func121, Try.ntmps121
    go_wp2_with fail
    go_ret
    exact ⟨rfl, rfl⟩
  · go_enter Try.func121, Try.ntmps121
    go_wp2_with fail
    go_ret
    exact ⟨rfl, rfl⟩
set_option maxRecDepth 100000 in
theorem words21_1_is (x : Int) : Calls Try.prog 50 #[.int .i64 x, .int .i64 x] w fun e w' => e = .returned (.bool true) ∧ w = w' := by
  have e1 : (x == x) = true := by simp
  go_enter Try.func50, Try.ntmps50
  go_wp2_with fail
  go_ret
  exact ⟨ret_bool (by simp), rfl⟩
set_option maxRecDepth 100000 in
set_option maxHeartbeats 1000000 in
theorem same21_no (k c : Nat) (a : Option Addr) (z : Int) (hz : z < 0) : Calls Try.prog 56 #[.slice a 0 c, .bool false, .int .i64 k, .int .i64 z] w fun e w' => e = .returned (.bool true) ∧ Ch [] w w' := by
  go_enter Try.func56, Try.ntmps56
  go_wp2_with fail
  go_ret
  exact ⟨rfl, Ch.refl _ _⟩
set_option maxRecDepth 100000 in
set_option maxHeartbeats 1000000 in
theorem same21_yes (k c x : Nat) (hk : k ≤ 60) (hx : x ≤ 9223372036854775807) {a : Option Addr} (h : Sb w a (asgBits k x)) : Calls Try.prog 56 #[.slice a k c, .bool true, .int .i64 k, .int .i64 x] w fun e w' => e = .returned (.bool true) ∧ Ch [] w w' := by
  have hAS := r21Assignment_is (w := w) k x hk hx
  have hEF := fun (W : World) (hW : Ch [] w W) (b : Option Addr) (cb : Nat) (hb : Sv W b (refsCells (asgN k x))) => EFbool_yes (w := W) (a := a) (b := b) (xs := asgBits k x) (ys := natInts (asgN k x)) k c cb 121 (asgBits_len k x) (by rw [natInts_len, asgN_len]) (by omega) (h.ch hW (by simp)) ⟨fun i y hy => hb.cells i _ (by
      unfold natInts at hy
      unfold refsCells
      rw [List.getElem?_map] at hy ⊢
      cases h1 : (asgN k x)[i]? with
      | none => rw [h1] at hy; cases hy
      | some r => rw [h1] at hy; simp at hy; subst hy; rfl), by simp [natInts, asgN]; omega⟩ (fun i u y hu hy => by
      have h1 : y = ((u.toNat : Nat) : Int) := by
        unfold asgBits at hu
        unfold natInts asgN at hy
        rw [List.getElem?_map] at hu
        rw [List.getElem?_map, List.getElem?_map] at hy
        cases h2 : (List.range k)[i]? with
        | none => rw [h2] at hu; cases hu
        | some q => rw [h2] at hu hy; simp at hu hy; rw [← hu, ← hy]
      rw [h1]
      exact same21_1_is u) fnvsame21_1
  have HAS := Lib.hid hAS; clear hAS
  have HEF := Lib.hid hEF; clear hEF h
  go_enter Try.func56, Try.ntmps56
  go_wp2_with fail
  refine HAS.out.mono ?_
  rintro e w1 ⟨v, rfl, hrow, _, hc1⟩
  obtain ⟨ba, bc, rfl⟩ := row.shape hrow
  have hef := HEF.out w1 hc1 ba bc (row.sv hrow rfl (by omega))
  have HEF1 := Lib.hid hef; clear hef hrow
  have HC1 := Lib.hid hc1; clear hc1
  go_wp2_with fail
  refine HEF1.out.mono ?_
  rintro e w' ⟨rfl, rfl⟩
  go_wp2_with fail
  go_ret
  exact ⟨rfl, HC1.out⟩
end
end Go.Proofs.Ytdmmanfjafempaa
namespace Go.Aig
def setB (T : List Nat) (i : Nat) : List Nat := T.set (i / 64) (T.getD (i / 64) 0 ||| 2 ^ (i % 64))
theorem setB_len (T : List Nat) (i : Nat) : (setB T i).length = T.length := by simp [setB]
theorem setB_bit {T : List Nat} {i : Nat} (hi : i / 64 < T.length) (a : Nat) : tbit (setB T i) a = (tbit T a || decide (a = i)) := by
  unfold tbit setB
  rw [List.getD_eq_getElem?_getD, List.getElem?_set]
  by_cases h : i / 64 = a / 64
  · rw [if_pos h, if_pos hi]
    simp only [Option.getD_some]
    rw [Nat.testBit_or, h, Nat.testBit_two_pow]
    congr 1
    by_cases h2 : i % 64 = a % 64
    · rw [decide_eq_true h2, decide_eq_true (by omega)]
    · rw [decide_eq_false h2, decide_eq_false (by omega)]
  · rw [if_neg h, ← List.getD_eq_getElem?_getD, decide_eq_false (by omega), Bool.or_false]
theorem setB_lt {T : List Nat} (h : ∀ v ∈ T, v < 2 ^ 64) (i : Nat) : ∀ v ∈ setB T i, v < 2 ^ 64 := fun v hv => by
  unfold setB at hv
  rcases List.mem_or_eq_of_mem_set hv with h1 | h1
  · exact h v h1
  · rw [h1]
    refine Nat.or_lt_two_pow ?_ (Nat.pow_lt_pow_right (by omega) (by omega))
    by_cases hi : i / 64 < T.length
    · rw [List.getD_eq_getElem?_getD, List.getElem?_eq_getElem hi]
      exact h _ (List.getElem_mem _)
    · rw [List.getD_eq_getElem?_getD, List.getElem?_eq_none (by omega)]
      decide
def setBs (T : List Nat) (X : List Nat) : List Nat := X.foldl setB T
theorem setBs_snoc (T X : List Nat) (i : Nat) : setBs T (X ++ [i]) = setB (setBs T X) i := by unfold setBs; rw [List.foldl_append]; rfl
theorem setBs_len (T : List Nat) : ∀ X, (setBs T X).length = T.length := fun X => by
  induction X using List.snocRec with
  | nil => rfl
  | snoc X x ih => rw [setBs_snoc, setB_len, ih]
theorem setBs_lt {T : List Nat} (h : ∀ v ∈ T, v < 2 ^ 64) : ∀ X, ∀ v ∈ setBs T X, v < 2 ^ 64 := fun X => by
  induction X using List.snocRec with
  | nil => exact h
  | snoc X x ih => rw [setBs_snoc]; exact setB_lt ih x
theorem setBs_bit {C : Nat} : ∀ X : List Nat, (∀ i ∈ X, i / 64 < C) → ∀ a, tbit (setBs (List.replicate C 0) X) a = decide (a ∈ X) := fun X => by
  induction X using List.snocRec with
  | nil =>
    intro _ a
    have : (List.replicate C 0).getD (a / 64) 0 = 0 := by
      rw [List.getD_eq_getElem?_getD, List.getElem?_replicate]
      split <;> rfl
    show ((List.replicate C 0).getD (a / 64) 0).testBit (a % 64) = _
    rw [this]
    simp
  | snoc X x ih =>
    intro h a
    rw [setBs_snoc, setB_bit (by rw [setBs_len, List.length_replicate]; exact h x (by simp)), ih (fun i hi => h i (by simp [hi]))]
    by_cases h1 : a ∈ X <;> by_cases h2 : a = x <;> simp [h1, h2]
/-- the table that is built out of the numbers is the table -/
theorem table_of {n : Nat} {p : Nat → Bool} {T : List Nat} (hT : TabOf T n p) (hTb : ∀ v ∈ T, v < 2 ^ 64) : setBs (List.replicate (2 ^ (n - 6)) 0) (trueL n p) = T := by
  have hle := blocks_le n
  have hX : ∀ i ∈ trueL n p, i / 64 < 2 ^ (n - 6) := fun i hi => by
    have := List.mem_range.1 (List.mem_filter.1 hi).1
    omega
  have hb := setBs_bit (C := 2 ^ (n - 6)) (trueL n p) hX
  refine TabOf.ext (n := n) (p := p) ⟨by rw [setBs_len, List.length_replicate], fun a ha => ?_, fun a h1 _ => ?_⟩ hT (setBs_lt (fun v hv => by rw [(List.mem_replicate.1 hv).2]; decide) _) hTb
  · rw [hb a]
    unfold trueL
    cases h : p a
    · exact decide_eq_false (fun hin => by rw [(List.mem_filter.1 hin).2] at h; cases h)
    · exact decide_eq_true (List.mem_filter.2 ⟨List.mem_range.2 ha, h⟩)
  · rw [hb a]
    exact decide_eq_false (fun hin => by have := List.mem_range.1 (List.mem_filter.1 hin).1; omega)
/-- the first one -/
theorem first_none {n : Nat} {p : Nat → Bool} (h : trueL n p = []) : firstR n p = ([], false) := by
  have : firstV n p = none := firstV_none.2 fun a ha => by
    cases h2 : p a
    · rfl
    · have : a ∈ trueL n p := List.mem_filter.2 ⟨List.mem_range.2 ha, h2⟩
      rw [h] at this
      cases this
  unfold firstR
  rw [this]
theorem first_some {n x : Nat} {p : Nat → Bool} (h : (trueL n p)[0]? = some x) : firstR n p = (asgBits n x, true) ∧ x < 2 ^ n := by
  obtain ⟨h1, h2, h3⟩ := filter_at p _ 0 x h
  have : firstV n p = some x := by
    unfold firstV
    refine find_range p x h1 (fun b hb => ?_) _ h2
    cases h4 : p b
    · rfl
    · have : b ∈ (List.range x).filter p := mem_filter_range.2 ⟨hb, h4⟩
      rw [← h3] at this
      simp at this
  unfold firstR
  rw [this]
  exact ⟨rfl, h2⟩
theorem part_first {ns : List Nd} {n a b : Nat} : (partL n (tellR ns n a) (tellR ns n b) = -1 ∧ firstR n (tellX ns n a b) = ([], false)) ∨ ∃ x : Nat, partL n (tellR ns n a) (tellR ns n b) = x ∧ firstR n (tellX ns n a b) = (asgBits n x, true) ∧ x < 2 ^ n := by
  have e : partL n (tellR ns n a) (tellR ns n b) = match firstV n (tellX ns n a b) with
    | none => -1
    | some x => (x : Int) := rfl
  cases h : firstV n (tellX ns n a b) with
  | none =>
    refine .inl ⟨by rw [e, h], ?_⟩
    unfold firstR
    rw [h]
  | some x =>
    refine .inr ⟨x, by rw [e, h], ?_, (firstV_some h).1⟩
    unfold firstR
    rw [h]
end Go.Aig
namespace Go.Proofs.Ytdmmanfjafempaa
open Go.RowKit Go.Mem Go.Aig
theorem rCells_len0 (ns : List Nd) : (rCells ns).length = ns.length * 3 := rCells_length ns
/-- the reference's graph out of a slice that is held -/
theorem RG.held {w : World} {rb cap : Nat} {G : Gra} (h : Sv w (some ⟨rb, 0, none⟩) (rCells G.nodes)) (hle : G.nodes.length ≤ cap) (hmx : cap ≤ 9223372036854775807) (ok : Ok G) : RG w rb cap G := by
  have hc : ∀ j u, (rCells G.nodes)[j]? = some u → w.cell? ⟨rb, j, none⟩ = some u := fun j u hu => by
    obtain ⟨b, o, e, hh⟩ := h.cells j u hu
    cases e
    rwa [Nat.zero_add] at hh
  have hp := ok.wf.pos
  refine ⟨hc, ?_, hle, hmx, ok⟩
  have hl := rCells_length G.nodes
  have := hc 0 _ (List.getElem?_eq_getElem (by omega))
  exact cell_lt this
theorem RG.sv {w : World} {rb cap : Nat} {G : Gra} (h : RG w rb cap G) : Sv w (some ⟨rb, 0, none⟩) (rCells G.nodes) := ⟨fun i x hx => ⟨rb, 0, rfl, by rw [Nat.zero_add]; exact h.cells i x hx⟩, by
  have := h.len
  rw [rCells_length]
  omega⟩
theorem bits_or_u64_pow (u r : Nat) (hu : u < 18446744073709551616) (hr : r < 64) : bits .or .u64 (u : Int) (IntKind.u64.wrap ((2 : Int) ^ r)) = ((u ||| 2 ^ r : Nat) : Int) := by
  have hp : 2 ^ r < 2 ^ 64 := Nat.pow_lt_pow_right (by omega) hr
  have h0 : ((2 : Int) ^ r) = ((2 ^ r : Nat) : Int) := by simp
  rw [h0]
  generalize 2 ^ r = P at hp
  have hw : IntKind.u64.wrap (P : Int) = (P : Int) := by simp only [IntKind.wrap, show IntKind.u64.bits = 64 from rfl, show IntKind.u64.signed = false from rfl]; simp; omega
  rw [hw]
  have hx : u ||| P < 2 ^ 64 := Nat.or_lt_two_pow (by omega) hp
  have h1 : (BitVec.ofInt 64 (u : Int)).toNat = u := by
    rw [BitVec.ofInt_natCast, BitVec.toNat_ofNat]; exact Nat.mod_eq_of_lt (by omega)
  have h2 : (BitVec.ofInt 64 (P : Int)).toNat = P := by
    rw [BitVec.ofInt_natCast, BitVec.toNat_ofNat]; exact Nat.mod_eq_of_lt (by omega)
  show IntKind.u64.wrap ((BitVec.ofInt 64 (u : Int) ||| BitVec.ofInt 64 (P : Int)).toNat : Int) = _
  rw [BitVec.toNat_or, h1, h2]
  simp only [IntKind.wrap, show IntKind.u64.bits = 64 from rfl, show IntKind.u64.signed = false from rfl]
  simp
  omega
end Go.Proofs.Ytdmmanfjafempaa
namespace Go.Proofs.Ytdmmanfjafempaa
open Go.RowKit Go.Mem Go.Aig
section
variable {w : World}
theorem HS.cellT {w0 w : World} {g : Nat} {G : Gra} {F : List Nat} {L : List (Option Addr × List Value)} (h : HS w0 w g G F L) {b : Nat} {xs : List Value} (hm : (some ⟨b, 0, none⟩, xs) ∈ L) {i : Nat} {x : Value} (hx : xs[i]? = some x) : w.cell? ⟨b, i, none⟩ = some x := by
  obtain ⟨b1, o1, e, hc⟩ := (h.held _ hm).cells i x hx
  cases e
  rwa [Nat.zero_add] at hc
theorem HS.slT {w0 w : World} {g : Nat} {G : Gra} {F : List Nat} {L : List (Option Addr × List Value)} (h : HS w0 w g G F L) {a : Option Addr} {l : List Nat} (hm : (a, refsCells l) ∈ L) : Sl w a (natInts l) := by
  have hs := h.held _ hm
  refine ⟨fun i x hx => hs.cells i _ ?_, by have := hs.bd; simpa [natInts, refsCells] using this⟩
  unfold natInts at hx
  unfold refsCells
  rw [List.getElem?_map] at hx ⊢
  cases h1 : l[i]? with
  | none => rw [h1] at hx; cases hx
  | some r => rw [h1] at hx; simp at hx; subst hx; rfl
theorem tabE_big {G : Gra} {l : List Int} (h : badIn G l = false) (hk : 16 < (inputs G.nodes).length) : tabE G l = 211 := by unfold tabE; rw [h, if_neg (by simp), if_pos hk]
theorem tabE_bad {G : Gra} {l : List Int} (h : badIn G l = true) : tabE G l = 200 := by unfold tabE; rw [h]; rfl
set_option maxRecDepth 100000 in
set_option maxHeartbeats 8000000 in
theorem tables21_is {a : Option Addr} {n ncap : Nat} {l : List N21} (hS : NodeS w a n ncap l) (hn : n ≤ 61) (hk : cntI l ≤ 9 ∨ 17 ≤ cntI l) (A B : Int) (hA : -9223372036854775808 ≤ A ∧ A ≤ 9223372036854775807) (hB : -9223372036854775808 ≤ B ∧ B ≤ 9223372036854775807) :
    Calls Try.prog 9 #[.slice a n ncap, .int .i64 A, .int .i64 B] w fun e w' => e = .returned (.bool true) ∧ Ch [] w w' := by
  have hBU := build21_is hS hn
  have hIN := fun (W : World) (hW : Ch [] w W) => inputs21_is (hS.ch hW) (by omega)
  have HBU := Lib.hid hBU; clear hBU
  have HIN := Lib.hid hIN; clear hIN hS
  go_enter Try.func9, Try.ntmps9
  go_wp2_with fail
  refine HBU.out.mono ?_
  rintro e w1 ⟨g, F, rb, rcap, G, rfl, hb, hm, hnl, hil⟩
  have HBO := Lib.hid hb; clear hb HBU
  have HM := Lib.hid hm; clear hm
  have HIL0 := Lib.hid hil; clear hil
  go_upto_region 2 with fail
  refine wp_named fun W2 hW2 => ?_
  have hb2 := alw_blk (xs := [.int .i64 G.most, .slice (some ⟨rb, 0, none⟩) G.nodes.length rcap]) hW2
  have hb := HBO.out.same (alw_ch hW2)
  have ho : HS w W2 g G F [(some ⟨w1.heap.size, 0, none⟩, [.int .i64 G.most, .slice (some ⟨rb, 0, none⟩) G.nodes.length rcap]), (some ⟨rb, 0, none⟩, rCells G.nodes)] := (((⟨⟨hb.gin, hb.own, hb.ch⟩, by simp⟩ : HS w W2 g G F []).add hb.rg.sv).blk hb2 (by simp))
  have hle := hb.rg.le
  have hmx := hb.rg.mx
  have hok := hb.rg.ok
  have hpos := hok.wf.pos
  clear hW2 hb2 hb HBO
  generalize w1.heap.size = bx at ho ⊢
  have HO := Lib.hid ho; clear ho
  have HOK := Lib.hid hok; clear hok
  have hil := HIL0.out
  clear HIL0
  obtain ⟨k, hkk⟩ : ∃ k, cntI l = k := ⟨_, rfl⟩
  simp only [hkk] at HIN
  rw [hkk] at hil hk
  clear hkk
  have HIL := Lib.hid hil; clear hil
  have hRT : ∀ (W : World) (L : List (Option Addr × List Value)) (_ : HS w W g G F L) (_ : (some ⟨rb, 0, none⟩, rCells G.nodes) ∈ L) (r : Int), Calls Try.prog 38 #[.agg #[.int .i64 G.most, .slice (some ⟨rb, 0, none⟩) G.nodes.length rcap], .int .i64 r] W fun e w' => e = .returned (.bool (right G.nodes r)) ∧ HS w w' g G F L := fun W L hh hmem r => (rRight_is (RG.held (hh.held _ hmem) hle hmx HOK.out) r).mono fun e w' ⟨h1, h2⟩ => ⟨h1, hh.same h2⟩
  have HRT := Lib.hid hRT; clear hRT
  cases hrA : right G.nodes A
  · have hbad1 : badIn G [A] = true := by simp [badIn, hrA]
    have hbad2 : badIn G [A, B] = true := by simp [badIn, hrA]
    have r1 : tableR G A = ([], 200) := by unfold tableR; rw [tabE_bad hbad1]; rfl
    have R1 := Lib.hid r1; clear r1
    have r2 : countR G A = (0, 200) := by unfold countR; rw [tabE_bad hbad1]; rfl
    have R2 := Lib.hid r2; clear r2
    have r3 : firstG G A = (([], false), 200) := by unfold firstG; rw [tabE_bad hbad1]; rfl
    have R3 := Lib.hid r3; clear r3
    have r4 : partsG G A B = (([], false), 200) := by unfold partsG; rw [tabE_bad hbad2]; rfl
    have R4 := Lib.hid r4; clear r4
    have HRA := Lib.hid hrA; clear hrA hbad1 hbad2
    go_wp2_with fail
    (with_reducible refine (simTable_h HO.out A hA R1.out (k := 0) rfl (by omega)).mono ?_)
    rintro e W3 ⟨a1, s1, rfl, ho⟩
    clear HO; have HO := Lib.hid ho; clear ho
    go_wp2_with fail
    refine (simCount_h HO.out A hA R2.out).mono ?_
    rintro e W4 ⟨rfl, ho⟩
    clear HO; have HO := Lib.hid ho; clear ho
    go_wp2_with fail
    refine (simFirst_h HO.out A hA R3.out (k := 0) rfl (by omega)).mono ?_
    rintro e W5 ⟨a2, s2, rfl, ho⟩
    clear HO; have HO := Lib.hid ho; clear ho
    go_wp2_with fail
    refine (simParts_h HO.out A B hA hB R4.out (k := 0) rfl (by omega)).mono ?_
    rintro e W6 ⟨a3, s3, rfl, ho⟩
    clear HO; have HO := Lib.hid ho; clear ho
    have hin := HIN.out W6 HO.out.own.ch
    have HIN1 := Lib.hid hin; clear hin
    go_wp2_with fail
    refine HIN1.out.mono ?_
    rintro e W7 ⟨rfl, hc7⟩
    have ho := HO.out.same hc7
    clear HO hc7 HIN1; have HO := Lib.hid ho; clear ho
    by_cases hbig : 16 < k
    · have e16 : decide ((k : Int) > 16) = true := decide_eq_true (by omega)
      have cx0 := HO.out.cellT (b := bx) (xs := [.int .i64 G.most, .slice (some ⟨rb, 0, none⟩) G.nodes.length rcap]) (by simp) (i := 0) rfl
      have cx1 := HO.out.cellT (b := bx) (xs := [.int .i64 G.most, .slice (some ⟨rb, 0, none⟩) G.nodes.length rcap]) (by simp) (i := 1) rfl
      go_wp2_with fail
      refine (HRT.out _ _ HO.out (by simp) A).mono ?_
      rintro e W8 ⟨rfl, ho⟩
      rw [HRA.out]
      clear cx0 cx1
      clear HO; have HO := Lib.hid ho; clear ho
      have cx0 := HO.out.cellT (b := bx) (xs := [.int .i64 G.most, .slice (some ⟨rb, 0, none⟩) G.nodes.length rcap]) (by simp) (i := 0) rfl
      have cx1 := HO.out.cellT (b := bx) (xs := [.int .i64 G.most, .slice (some ⟨rb, 0, none⟩) G.nodes.length rcap]) (by simp) (i := 1) rfl
      go_wp2_with fail
      refine (HRT.out _ _ HO.out (by simp) A).mono ?_
      rintro e W9 ⟨rfl, ho⟩
      rw [HRA.out]
      clear cx0 cx1
      clear HO; have HO := Lib.hid ho; clear ho
      go_wp2_with fail
      go_ret
      exact ⟨rfl, HO.out.own.ch⟩
    · have e16 : decide ((k : Int) > 16) = false := decide_eq_false (by omega)
      have cx0 := HO.out.cellT (b := bx) (xs := [.int .i64 G.most, .slice (some ⟨rb, 0, none⟩) G.nodes.length rcap]) (by simp) (i := 0) rfl
      have cx1 := HO.out.cellT (b := bx) (xs := [.int .i64 G.most, .slice (some ⟨rb, 0, none⟩) G.nodes.length rcap]) (by simp) (i := 1) rfl
      go_wp2_with fail
      refine (HRT.out _ _ HO.out (by simp) A).mono ?_
      rintro e W8 ⟨rfl, ho⟩
      rw [HRA.out]
      clear cx0 cx1
      clear HO; have HO := Lib.hid ho; clear ho
      have cx0 := HO.out.cellT (b := bx) (xs := [.int .i64 G.most, .slice (some ⟨rb, 0, none⟩) G.nodes.length rcap]) (by simp) (i := 0) rfl
      have cx1 := HO.out.cellT (b := bx) (xs := [.int .i64 G.most, .slice (some ⟨rb, 0, none⟩) G.nodes.length rcap]) (by simp) (i := 1) rfl
      go_wp2_with fail
      refine (HRT.out _ _ HO.out (by simp) A).mono ?_
      rintro e W9 ⟨rfl, ho⟩
      rw [HRA.out]
      clear cx0 cx1
      clear HO; have HO := Lib.hid ho; clear ho
      go_wp2_with fail
      go_ret
      exact ⟨rfl, HO.out.own.ch⟩
  · have hAn : ∃ p : Nat, A = p ∧ p < 2 * G.nodes.length := by
      unfold right at hrA
      have := of_decide_eq_true hrA
      exact ⟨A.toNat, by omega, by omega⟩
    have hbad1 : badIn G [A] = false := by simp [badIn, hrA]
    by_cases hbig : 16 < k
    · have hkb : 16 < (inputs G.nodes).length := by rw [HIL.out]; exact hbig
      have r1 : tableR G A = ([], 211) := by unfold tableR; rw [tabE_big hbad1 hkb]; rfl
      have R1 := Lib.hid r1; clear r1
      have r2 : countR G A = (0, 211) := by unfold countR; rw [tabE_big hbad1 hkb]; rfl
      have R2 := Lib.hid r2; clear r2
      have r3 : firstG G A = (([], false), 211) := by unfold firstG; rw [tabE_big hbad1 hkb]; rfl
      have R3 := Lib.hid r3; clear r3
      have e16 : decide ((k : Int) > 16) = true := decide_eq_true (by omega)
      cases hrB : right G.nodes B
      · have r4 : partsG G A B = (([], false), 200) := by unfold partsG; rw [tabE_bad (by simp [badIn, hrA, hrB])]; rfl
        have R4 := Lib.hid r4; clear r4
        have HRA := Lib.hid hrA; clear hrA hbad1 hAn hkb
        have HRB := Lib.hid hrB; clear hrB
        go_wp2_with fail
        (with_reducible refine (simTable_h HO.out A hA R1.out (k := 0) rfl (by omega)).mono ?_)
        rintro e W3 ⟨a1, s1, rfl, ho⟩
        clear HO; have HO := Lib.hid ho; clear ho
        go_wp2_with fail
        refine (simCount_h HO.out A hA R2.out).mono ?_
        rintro e W4 ⟨rfl, ho⟩
        clear HO; have HO := Lib.hid ho; clear ho
        go_wp2_with fail
        refine (simFirst_h HO.out A hA R3.out (k := 0) rfl (by omega)).mono ?_
        rintro e W5 ⟨a2, s2, rfl, ho⟩
        clear HO; have HO := Lib.hid ho; clear ho
        go_wp2_with fail
        refine (simParts_h HO.out A B hA hB R4.out (k := 0) rfl (by omega)).mono ?_
        rintro e W6 ⟨a3, s3, rfl, ho⟩
        clear HO; have HO := Lib.hid ho; clear ho
        have hin := HIN.out W6 HO.out.own.ch
        have HIN1 := Lib.hid hin; clear hin
        go_wp2_with fail
        refine HIN1.out.mono ?_
        rintro e W7 ⟨rfl, hc7⟩
        have ho := HO.out.same hc7
        clear HO hc7 HIN1; have HO := Lib.hid ho; clear ho
        have cx0 := HO.out.cellT (b := bx) (xs := [.int .i64 G.most, .slice (some ⟨rb, 0, none⟩) G.nodes.length rcap]) (by simp) (i := 0) rfl
        have cx1 := HO.out.cellT (b := bx) (xs := [.int .i64 G.most, .slice (some ⟨rb, 0, none⟩) G.nodes.length rcap]) (by simp) (i := 1) rfl
        go_wp2_with fail
        refine (HRT.out _ _ HO.out (by simp) A).mono ?_
        rintro e W8 ⟨rfl, ho⟩
        rw [HRA.out]
        clear cx0 cx1
        clear HO; have HO := Lib.hid ho; clear ho
        have cx0 := HO.out.cellT (b := bx) (xs := [.int .i64 G.most, .slice (some ⟨rb, 0, none⟩) G.nodes.length rcap]) (by simp) (i := 0) rfl
        have cx1 := HO.out.cellT (b := bx) (xs := [.int .i64 G.most, .slice (some ⟨rb, 0, none⟩) G.nodes.length rcap]) (by simp) (i := 1) rfl
        go_wp2_with fail
        refine (HRT.out _ _ HO.out (by simp) A).mono ?_
        rintro e W9 ⟨rfl, ho⟩
        rw [HRA.out]
        clear cx0 cx1
        clear HO; have HO := Lib.hid ho; clear ho
        have cx0 := HO.out.cellT (b := bx) (xs := [.int .i64 G.most, .slice (some ⟨rb, 0, none⟩) G.nodes.length rcap]) (by simp) (i := 0) rfl
        have cx1 := HO.out.cellT (b := bx) (xs := [.int .i64 G.most, .slice (some ⟨rb, 0, none⟩) G.nodes.length rcap]) (by simp) (i := 1) rfl
        go_wp2_with fail
        refine (HRT.out _ _ HO.out (by simp) B).mono ?_
        rintro e W10 ⟨rfl, ho⟩
        rw [HRB.out]
        clear cx0 cx1
        clear HO; have HO := Lib.hid ho; clear ho
        go_wp2_with fail
        go_ret
        exact ⟨rfl, HO.out.own.ch⟩
      · have r4 : partsG G A B = (([], false), 211) := by unfold partsG; rw [tabE_big (by simp [badIn, hrA, hrB]) hkb]; rfl
        have R4 := Lib.hid r4; clear r4
        have HRA := Lib.hid hrA; clear hrA hbad1 hAn hkb
        have HRB := Lib.hid hrB; clear hrB
        go_wp2_with fail
        (with_reducible refine (simTable_h HO.out A hA R1.out (k := 0) rfl (by omega)).mono ?_)
        rintro e W3 ⟨a1, s1, rfl, ho⟩
        clear HO; have HO := Lib.hid ho; clear ho
        go_wp2_with fail
        refine (simCount_h HO.out A hA R2.out).mono ?_
        rintro e W4 ⟨rfl, ho⟩
        clear HO; have HO := Lib.hid ho; clear ho
        go_wp2_with fail
        refine (simFirst_h HO.out A hA R3.out (k := 0) rfl (by omega)).mono ?_
        rintro e W5 ⟨a2, s2, rfl, ho⟩
        clear HO; have HO := Lib.hid ho; clear ho
        go_wp2_with fail
        refine (simParts_h HO.out A B hA hB R4.out (k := 0) rfl (by omega)).mono ?_
        rintro e W6 ⟨a3, s3, rfl, ho⟩
        clear HO; have HO := Lib.hid ho; clear ho
        have hin := HIN.out W6 HO.out.own.ch
        have HIN1 := Lib.hid hin; clear hin
        go_wp2_with fail
        refine HIN1.out.mono ?_
        rintro e W7 ⟨rfl, hc7⟩
        have ho := HO.out.same hc7
        clear HO hc7 HIN1; have HO := Lib.hid ho; clear ho
        have cx0 := HO.out.cellT (b := bx) (xs := [.int .i64 G.most, .slice (some ⟨rb, 0, none⟩) G.nodes.length rcap]) (by simp) (i := 0) rfl
        have cx1 := HO.out.cellT (b := bx) (xs := [.int .i64 G.most, .slice (some ⟨rb, 0, none⟩) G.nodes.length rcap]) (by simp) (i := 1) rfl
        go_wp2_with fail
        refine (HRT.out _ _ HO.out (by simp) A).mono ?_
        rintro e W8 ⟨rfl, ho⟩
        rw [HRA.out]
        clear cx0 cx1
        clear HO; have HO := Lib.hid ho; clear ho
        have cx0 := HO.out.cellT (b := bx) (xs := [.int .i64 G.most, .slice (some ⟨rb, 0, none⟩) G.nodes.length rcap]) (by simp) (i := 0) rfl
        have cx1 := HO.out.cellT (b := bx) (xs := [.int .i64 G.most, .slice (some ⟨rb, 0, none⟩) G.nodes.length rcap]) (by simp) (i := 1) rfl
        go_wp2_with fail
        refine (HRT.out _ _ HO.out (by simp) A).mono ?_
        rintro e W9 ⟨rfl, ho⟩
        rw [HRA.out]
        clear cx0 cx1
        clear HO; have HO := Lib.hid ho; clear ho
        have cx0 := HO.out.cellT (b := bx) (xs := [.int .i64 G.most, .slice (some ⟨rb, 0, none⟩) G.nodes.length rcap]) (by simp) (i := 0) rfl
        have cx1 := HO.out.cellT (b := bx) (xs := [.int .i64 G.most, .slice (some ⟨rb, 0, none⟩) G.nodes.length rcap]) (by simp) (i := 1) rfl
        go_wp2_with fail
        refine (HRT.out _ _ HO.out (by simp) B).mono ?_
        rintro e W10 ⟨rfl, ho⟩
        rw [HRB.out]
        clear cx0 cx1
        clear HO; have HO := Lib.hid ho; clear ho
        go_wp2_with fail
        go_ret
        exact ⟨rfl, HO.out.own.ch⟩
    · have hk9 : k ≤ 9 := by omega
      have e16 : decide ((k : Int) > 16) = false := decide_eq_false (by omega)
      obtain ⟨p, hAp, hpl⟩ := hAn
      subst hAp
      have r1 := table_ok hpl HIL.out (by omega)
      have r2 := count_ok hpl HIL.out (by omega)
      have r3 := first_ok hpl HIL.out (by omega)
      have hTo : TabOf (tabW G.nodes (oneF p) k) k (tellR G.nodes k p) := tabW_of G.nodes p k
      have hTb := tabW_lt G.nodes (oneF p) k
      have htl : (tabW G.nodes (oneF p) k).length = 2 ^ (k - 6) := tab_len _ _ _
      have htab := table_of hTo hTb
      have hcv : countV k (tellR G.nodes k p) = (trueL k (tellR G.nodes k p)).length := rfl
      have hfl := firstR_len k (tellR G.nodes k p)
      have hTR : ∀ (W : World) (L : List (Option Addr × List Value)) (_ : HS w W g G F L) (_ : (some ⟨rb, 0, none⟩, rCells G.nodes) ∈ L), _ := fun W L hh hmem => r21True_is (RG.held (hh.held _ hmem) hle hmx HOK.out) HIL.out (by omega) p hpl
      have HTR := Lib.hid hTR; clear hTR
      obtain ⟨C, hC⟩ : ∃ C, 2 ^ (k - 6) = C := ⟨_, rfl⟩
      have hC8 : C ≤ 8 := by
        have : (2 : Nat) ^ (k - 6) ≤ 2 ^ 3 := Nat.pow_le_pow_right (by omega) (by omega)
        omega
      have hD9 : (2 : Nat) ^ k ≤ 512 := Nat.pow_le_pow_right (n := 2) (by omega) hk9
      have hble := blocks_le k
      rw [hC] at htl htab hble
      have hxl := filter_len_le (tellR G.nodes k p) (2 ^ k)
      change (trueL k (tellR G.nodes k p)).length ≤ 2 ^ k at hxl
      have hxm : ∀ x ∈ trueL k (tellR G.nodes k p), x / 64 < C ∧ x < 512 := fun x hx => by
        have := List.mem_range.1 (List.mem_filter.1 hx).1
        omega
      have hf0 := first_none (n := k) (p := tellR G.nodes k p)
      have hf1 := fun x => first_some (n := k) (x := x) (p := tellR G.nodes k p)
      have hmax : ∀ ats ty, Builtin.max_ ats ty #[.int .i64 ((k : Int) - 6), .int .i64 0] = pure (.int .i64 ((k - 6 : Nat) : Int)) := fun ats ty => by
        have := max_nat ((k : Int) - 6) 0 (k - 6) (by omega) ats ty
        simpa using this
      have hC6 : C ≤ 1000000 := by omega
      have hwC : wrap64 ((2 : Int) ^ (k - 6)) = ((C : Nat) : Int) := by
        have : ((2 : Int) ^ (k - 6)) = ((2 ^ (k - 6) : Nat) : Int) := by simp
        rw [this, hC]
        exact IntWalk.wrap64_in _ (by omega)
      have hmk : ∀ W : World, (Instr.makeSlice 27 (.int .i64 (wrap64 ((2 : Int) ^ (k - 6)))) (.int .i64 (wrap64 ((2 : Int) ^ (k - 6))))).run Try.prog W = .ok (.slice (some ⟨W.heap.size, 0, none⟩) C C) (W.alloc (.cells (u64s (List.replicate C 0)).toArray 26)) := fun W => by rw [hwC]; exact run_make_u64s W C hC6
      have HMK := Lib.hid hmk; clear hmk hwC
      have HMAX := Lib.hid hmax; clear hmax
      have HPART := Lib.hid (fun q => part_first (ns := G.nodes) (n := k) (a := p) (b := q))
      have hTP : ∀ (q : Nat) (_ : q < 2 * G.nodes.length) (W : World) (L : List (Option Addr × List Value)) (_ : HS w W g G F L) (_ : (some ⟨rb, 0, none⟩, rCells G.nodes) ∈ L), _ := fun q hq W L hh hmem => r21Parted_is (RG.held (hh.held _ hmem) hle hmx HOK.out) HIL.out (by omega) p q hpl hq
      have HTP := Lib.hid hTP; clear hTP
      have hp4 := fun q hq => parts_ok (G := G) (r := p) (s := q) (k := k) hpl hq HIL.out (by omega)
      have HP4 := Lib.hid hp4; clear hp4
      have hpl2 : p ≤ 1000 := by omega
      generalize hpp : tellR G.nodes k p = pt at *
      generalize hXX : trueL k pt = X at *
      obtain ⟨xl, hxe⟩ : ∃ xl, X.length = xl := ⟨_, rfl⟩
      rw [hxe] at hxl hcv
      have hxl9 : xl ≤ 512 := by omega
      rw [hcv] at r2
      obtain ⟨T, hT⟩ : ∃ T, tabW G.nodes (oneF p) k = T := ⟨_, rfl⟩
      rw [hT] at r1 htl htab
      obtain ⟨⟨f, b⟩, hfR⟩ : ∃ fr, firstR k pt = fr := ⟨_, rfl⟩
      rw [hfR] at r3 hfl hf0
      simp only [hfR] at hf1
      simp only at hfl
      obtain ⟨fl, hfle⟩ : ∃ fl, f.length = fl := ⟨_, rfl⟩
      have hfl9 : fl ≤ 9 := by rw [← hfle, hfl]; split <;> omega
      have R1 := Lib.hid r1; clear r1
      have R2 := Lib.hid r2; clear r2
      have R3 := Lib.hid r3; clear r3
      have HFLE := Lib.hid hfle; clear hfle hfl hfR hpp
      have HTL := Lib.hid htl; clear htl
      have HTAB := Lib.hid htab; clear htab hTo hTb hT
      have HXM := Lib.hid hxm; clear hxm
      have HXE := Lib.hid hxe; clear hxe hxl hcv
      have HF0 := Lib.hid hf0; clear hf0
      have HF1 := Lib.hid hf1; clear hf1 hXX hC hble hD9
      cases hrB : right G.nodes B
      · have r4 : partsG G p B = (([], false), 200) := by unfold partsG; rw [tabE_bad (by simp [badIn, hrA, hrB])]; rfl
        have R4 := Lib.hid r4; clear r4
        have HRA := Lib.hid hrA; clear hrA hbad1
        have HRB := Lib.hid hrB; clear hrB
        go_wp2_with fail
        (with_reducible refine (simTable_h HO.out p (by omega) R1.out (k := C) HTL.out (by omega)).mono ?_)
        rintro e W3 ⟨a1, s1, rfl, ho⟩
        clear HO; have HO := Lib.hid ho; clear ho
        go_wp2_with fail
        refine (simCount_h HO.out p (by omega) R2.out).mono ?_
        rintro e W4 ⟨rfl, ho⟩
        clear HO; have HO := Lib.hid ho; clear ho
        go_wp2_with fail
        refine (simFirst_h HO.out p (by omega) R3.out (k := fl) HFLE.out (by omega)).mono ?_
        rintro e W5 ⟨a2, s2, rfl, ho⟩
        clear HO; have HO := Lib.hid ho; clear ho
        go_wp2_with fail
        refine (simParts_h HO.out p B (by omega) hB R4.out (k := 0) rfl (by omega)).mono ?_
        rintro e W6 ⟨a3, s3, rfl, ho⟩
        clear HO; have HO := Lib.hid ho; clear ho
        have hin := HIN.out W6 HO.out.own.ch
        have HIN1 := Lib.hid hin; clear hin
        go_wp2_with fail
        refine HIN1.out.mono ?_
        rintro e W7 ⟨rfl, hc7⟩
        have ho := HO.out.same hc7
        clear HO hc7 HIN1; have HO := Lib.hid ho; clear ho
        have cx0 := HO.out.cellT (b := bx) (xs := [.int .i64 G.most, .slice (some ⟨rb, 0, none⟩) G.nodes.length rcap]) (by simp) (i := 0) rfl
        have cx1 := HO.out.cellT (b := bx) (xs := [.int .i64 G.most, .slice (some ⟨rb, 0, none⟩) G.nodes.length rcap]) (by simp) (i := 1) rfl
        go_wp2_with fail
        refine (HRT.out _ _ HO.out (by simp) p).mono ?_
        rintro e W8 ⟨rfl, ho⟩
        rw [HRA.out]
        clear cx0 cx1
        clear HO; have HO := Lib.hid ho; clear ho
        have cx0 := HO.out.cellT (b := bx) (xs := [.int .i64 G.most, .slice (some ⟨rb, 0, none⟩) G.nodes.length rcap]) (by simp) (i := 0) rfl
        have cx1 := HO.out.cellT (b := bx) (xs := [.int .i64 G.most, .slice (some ⟨rb, 0, none⟩) G.nodes.length rcap]) (by simp) (i := 1) rfl
        go_wp2_with fail
        refine (HRT.out _ _ HO.out (by simp) p).mono ?_
        rintro e W9 ⟨rfl, ho⟩
        rw [HRA.out]
        clear cx0 cx1
        clear HO; have HO := Lib.hid ho; clear ho
        have cx0 := HO.out.cellT (b := bx) (xs := [.int .i64 G.most, .slice (some ⟨rb, 0, none⟩) G.nodes.length rcap]) (by simp) (i := 0) rfl
        have cx1 := HO.out.cellT (b := bx) (xs := [.int .i64 G.most, .slice (some ⟨rb, 0, none⟩) G.nodes.length rcap]) (by simp) (i := 1) rfl
        go_wp2_with fail
        refine (HRT.out _ _ HO.out (by simp) B).mono ?_
        rintro e W10 ⟨rfl, ho⟩
        rw [HRB.out]
        clear cx0 cx1
        clear HO; have HO := Lib.hid ho; clear ho
        have hin := HIN.out W10 HO.out.own.ch
        have HIN1 := Lib.hid hin; clear hin
        go_wp2_with fail
        refine HIN1.out.mono ?_
        rintro e W11 ⟨rfl, hc11⟩
        have ho := HO.out.same hc11
        clear HO hc11 HIN1; have HO := Lib.hid ho; clear ho
        have cx0 := HO.out.cellT (b := bx) (xs := [.int .i64 G.most, .slice (some ⟨rb, 0, none⟩) G.nodes.length rcap]) (by simp) (i := 0) rfl
        have cx1 := HO.out.cellT (b := bx) (xs := [.int .i64 G.most, .slice (some ⟨rb, 0, none⟩) G.nodes.length rcap]) (by simp) (i := 1) rfl
        have htr := HTR.out W11 _ HO.out (by simp)
        rw [HXE.out] at htr
        have HTR1 := Lib.hid htr; clear htr
        go_wp2_with fail
        refine HTR1.out.mono ?_
        rintro e W12 ⟨v, rfl, hrow, _, hc12⟩
        obtain ⟨xa, xc, rfl⟩ := row.shape hrow
        have ho := (HO.out.same hc12).add (row.sv hrow rfl (by omega))
        clear HO hc12 HTR1 hrow cx0 cx1; have HO := Lib.hid ho; clear ho
        have hmk := HMK.out
        have hmax := HMAX.out
        go_wp2_with fail
        clear hmk hmax
        refine wp_alw ?_
        intro W13 hW13
        have hbt := alw_blk (xs := u64s (List.replicate C 0)) hW13
        have hc13 := alw_ch hW13
        clear hW13
        generalize htb : W12.heap.size = tb at hbt ⊢
        have htb2 : W12.heap.size ≤ tb := by omega
        clear htb
        have HBT := Lib.hid hbt; clear hbt
        have HC13 := Lib.hid hc13; clear hc13
        go_loopw [136] (fun i wr => ∃ j : Nat, j ≤ xl ∧ i = .int .i64 j ∧ Ch [] W12 wr ∧ blk wr tb (u64s (setBs (List.replicate C 0) (X.take j)))) (fun i _ => xl - (intOf i).toNat)
        case atStart => exact ⟨0, by omega, rfl, HC13.out, HBT.out⟩
        case round =>
          clear HBT HC13
          obtain ⟨j, hj, rfl, hc, hbk⟩ := hrel
          by_cases hlt : j < xl
          · obtain ⟨x, hx⟩ : ∃ x, X[j]? = some x := ⟨_, List.getElem?_eq_getElem (by rw [HXE.out]; exact hlt)⟩
            obtain ⟨hxC, hx9⟩ := HXM.out x (List.mem_of_getElem? hx)
            obtain ⟨b1, o1, rfl, c1⟩ := ((HO.out.same hc).held (xa, refsCells X) (by simp)).cells j (.int .i64 x) (by unfold refsCells; rw [List.getElem?_map, hx]; rfl)
            have hts : setBs (List.replicate C 0) (X.take (j + 1)) = setB (setBs (List.replicate C 0) (X.take j)) x := by rw [List.take_add_one, hx]; exact setBs_snoc _ _ _
            have hsl := setBs_len (List.replicate C 0) (X.take j)
            rw [List.length_replicate] at hsl
            have hst := setBs_lt (T := List.replicate C 0) (fun v hv => by rw [(List.mem_replicate.1 hv).2]; decide) (X.take j)
            generalize setBs (List.replicate C 0) (X.take j) = S at *
            obtain ⟨u, hu⟩ : ∃ u, S[x / 64]? = some u := ⟨_, List.getElem?_eq_getElem (by omega)⟩
            have hub := hst u (List.mem_of_getElem? hu)
            unfold setB at hts
            rw [List.getD_eq_getElem?_getD, hu] at hts
            simp only [Option.getD_some] at hts
            obtain ⟨A64, hA64⟩ : ∃ A64, x / 64 = A64 := ⟨_, rfl⟩
            obtain ⟨R64, hR64⟩ : ∃ R64, x % 64 = R64 := ⟨_, rfl⟩
            rw [hA64] at hu hts hxC
            rw [hR64] at hts
            have eA : (x : Int) / 64 = (A64 : Int) := by omega
            have eR : (x : Int) % 64 = (R64 : Int) := by omega
            have hR6 : R64 < 64 := by omega
            have c2 := hbk.cell (i := A64) (v := .int .u64 u) (by unfold u64s; rw [List.getElem?_map, hu]; rfl)
            have f2 := hbk.frozen (i := A64)
            have HBK := Lib.hid hbk; clear hbk
            have HTS := Lib.hid hts; clear hts
            have HC := Lib.hid hc; clear hc hx hst hsl hu hA64 hR64
            go_wp2_with fail
            refine Ord.St.door (fun _ => True) [.fl, .fl, .fl, .fl, .rd, .fl, .fl, .fl, .fl, .fl, .ef] [0, 0, 2, 7, 15, 0, 32, 96, 255, 511, 1023] [0, 1, 2, 3, 4, 5, 6, 7, 8, 9, 10] mixed (by kernel_rfl) rfl ?_
            refine Ord.St.fl2 (T' := ?_) 0 [1, 2, 3, 4, 5, 6, 7, 8, 9, 10] _ _ rfl (by kernel_rfl) rfl rfl rfl rfl (fun K w' hk => ?_) ?_
            rotate_left
            · go_step; exact hk
            refine Ord.St.fl2 (T' := ?_) 1 [2, 3, 4, 5, 6, 7, 8, 9, 10] _ _ rfl (by kernel_rfl) rfl rfl rfl rfl (fun K w' hk => ?_) ?_
            rotate_left
            · go_step; exact hk
            refine Ord.St.fl2 (T' := ?_) 2 [3, 4, 5, 6, 7, 8, 9, 10] _ _ rfl (by kernel_rfl) rfl rfl rfl rfl (fun K w' hk => ?_) ?_
            rotate_left
            · go_step; exact hk
            refine Ord.St.fl2 (T' := ?_) 3 [4, 5, 6, 7, 8, 9, 10] _ _ rfl (by kernel_rfl) rfl rfl rfl rfl (fun K w' hk => ?_) ?_
            rotate_left
            · go_step; exact hk
            refine Ord.St.rd2 (T' := ?_) 4 [5, 6, 7, 8, 9, 10] _ _ rfl (by kernel_rfl) rfl rfl rfl rfl (fun K hk => ?_) ?_
            rotate_left
            · go_step; exact hk
            refine Ord.St.fl2 (T' := ?_) 5 [6, 7, 8, 9, 10] _ _ rfl (by kernel_rfl) rfl rfl rfl rfl (fun K w' hk => ?_) ?_
            rotate_left
            · go_step; exact hk
            refine Ord.St.fl2 (T' := ?_) 6 [7, 8, 9, 10] _ _ rfl (by kernel_rfl) rfl rfl rfl rfl (fun K w' hk => ?_) ?_
            rotate_left
            · go_step; exact hk
            refine Ord.St.fl2 (T' := ?_) 7 [8, 9, 10] _ _ rfl (by kernel_rfl) rfl rfl rfl rfl (fun K w' hk => ?_) ?_
            rotate_left
            · go_step; exact hk
            refine Ord.St.fl2 (T' := ?_) 8 [9, 10] _ _ rfl (by kernel_rfl) rfl rfl rfl rfl (fun K w' hk => ?_) ?_
            rotate_left
            · go_step; exact hk
            refine Ord.St.fl2 (T' := ?_) 9 [10] _ _ rfl (by kernel_rfl) rfl rfl rfl rfl (fun K w' hk => ?_) ?_
            rotate_left
            · go_step; exact hk
            refine Ord.St.ef 10 [] _ rfl (by kernel_rfl) (fun K hK => ?_)
            go_wp2_with fail
            refine ⟨rfl, hK _ _ ?_⟩; clear hK K
            refine Ord.St.nil ?_
            have hor := bits_or_u64_pow u R64 (by omega) hR6
            rw [hor]
            clear hor c1 c2 f2 eA eR
            go_wp2_with fail
            go_roundw
            case rel =>
              refine ⟨j + 1, by omega, by go_num, (HC.out.setCell (.inr htb2) _).drew, ?_⟩
              rw [HTS.out, show u64s (S.set A64 (u ||| 2 ^ R64)) = (u64s S).set A64 (.int .u64 (u ||| 2 ^ R64 : Nat)) by unfold u64s; rw [List.map_set]]
              exact (HBK.out.set _).ch ((Ch.refl [] _).drew) (by simp)
            case measure => simp [intOf]; omega
          · have hjx : j = xl := by omega
            rw [hjx, List.take_of_length_le (by rw [HXE.out]; omega), HTAB.out] at hbk
            have ho := (HO.out.same hc).blk hbk (by rw [show (u64s T).length = T.length by simp [u64s], HTL.out]; omega)
            clear HO hc hbk htb2 hjx
            have HO := Lib.hid ho; clear ho
            have exl : ((xl : Int) != (xl : Int)) = false := by simp
            by_cases hx0 : xl = 0
            · have hfb := HF0.out (List.eq_nil_of_length_eq_zero (by rw [HXE.out]; exact hx0))
              cases hfb
              have hfl0 := HFLE.out
              simp at hfl0
              subst hfl0
              subst hx0
              have egt : decide (((0 : Nat) : Int) > 0) = false := by decide
              go_wp2_with fail
              refine (EQu64_h HO.out (a := a1) (b := some ⟨tb, 0, none⟩) (xs := T) (ys := T) (ca := s1) (cb := C) (by simp) (HO.out.held (some ⟨tb, 0, none⟩, u64s T) (by simp)) HTL.out HTL.out (decide_eq_true rfl)).mono ?_
              rintro e W14 ⟨rfl, ho⟩
              clear HO; have HO := Lib.hid ho; clear ho
              have hsm := same21_no (w := W14) k s2 a2 (-1) (by omega)
              have HSM := Lib.hid hsm; clear hsm
              go_wp2_with fail
              refine HSM.out.mono ?_
              rintro e W15 ⟨rfl, hc15⟩
              have ho := HO.out.same hc15
              clear HO hc15 HSM; have HO := Lib.hid ho; clear ho
              go_wp2_with fail
              go_ret
              exact ⟨rfl, HO.out.own.ch⟩
            · obtain ⟨x0, hx0v⟩ : ∃ x0, X[0]? = some x0 := ⟨_, List.getElem?_eq_getElem (by rw [HXE.out]; omega)⟩
              obtain ⟨hfb, hx0l⟩ := HF1.out x0 hx0v
              cases hfb
              have hfl0 := HFLE.out
              rw [asgBits_len] at hfl0
              subst hfl0
              have hx0b : x0 ≤ 512 := by have := (HXM.out x0 (List.mem_of_getElem? hx0v)).2; omega
              obtain ⟨xb, xo, rfl, cX⟩ := (HO.out.held (xa, refsCells X) (by simp)).cells 0 (.int .i64 x0) (by unfold refsCells; rw [List.getElem?_map, hx0v]; rfl)
              rw [Nat.add_zero] at cX
              have egt : decide ((xl : Int) > 0) = true := decide_eq_true (by omega)
              clear hx0l hx0v
              go_wp2_with fail
              refine (EQu64_h HO.out (a := a1) (b := some ⟨tb, 0, none⟩) (xs := T) (ys := T) (ca := s1) (cb := C) (by simp) (HO.out.held (some ⟨tb, 0, none⟩, u64s T) (by simp)) HTL.out HTL.out (decide_eq_true rfl)).mono ?_
              rintro e W14 ⟨rfl, ho⟩
              clear HO; have HO := Lib.hid ho; clear ho
              have hsm := same21_yes (w := W14) k s2 x0 (by omega) (by omega) (a := a2) (HO.out.held (a2, bools (asgBits k x0)) (by simp))
              have HSM := Lib.hid hsm; clear hsm
              go_wp2_with fail
              refine HSM.out.mono ?_
              rintro e W15 ⟨rfl, hc15⟩
              have ho := HO.out.same hc15
              clear HO hc15 HSM; have HO := Lib.hid ho; clear ho
              go_wp2_with fail
              go_ret
              exact ⟨rfl, HO.out.own.ch⟩
      · obtain ⟨q, hBq, hql⟩ : ∃ q : Nat, B = q ∧ q < 2 * G.nodes.length := by
          unfold right at hrB
          have := of_decide_eq_true hrB
          exact ⟨B.toNat, by omega, by omega⟩
        subst hBq
        have r4 := HP4.out q hql
        have hpa := HPART.out q
        have htp := HTP.out q hql
        generalize firstR k (tellX G.nodes k p q) = PF at r4 hpa
        obtain ⟨pf, pb⟩ := PF
        obtain ⟨pfl, hpfl⟩ : ∃ pfl, pf.length = pfl := ⟨_, rfl⟩
        have hpf9 : pfl ≤ 9 := by
          rcases hpa with ⟨_, h2⟩ | ⟨x, _, h2, _⟩
          · cases h2; rw [← hpfl]; simp
          · cases h2; rw [← hpfl, asgBits_len]; exact hk9
        have R4 := Lib.hid r4; clear r4
        have HPA := Lib.hid hpa; clear hpa
        have HTPQ := Lib.hid htp; clear htp
        have HPFL := Lib.hid hpfl; clear hpfl
        have hq2 : q ≤ 1000 := by omega
        have HRA := Lib.hid hrA; clear hrA hbad1
        have HRB := Lib.hid hrB; clear hrB
        go_wp2_with fail
        (with_reducible refine (simTable_h HO.out p (by omega) R1.out (k := C) HTL.out (by omega)).mono ?_)
        rintro e W3 ⟨a1, s1, rfl, ho⟩
        clear HO; have HO := Lib.hid ho; clear ho
        go_wp2_with fail
        refine (simCount_h HO.out p (by omega) R2.out).mono ?_
        rintro e W4 ⟨rfl, ho⟩
        clear HO; have HO := Lib.hid ho; clear ho
        go_wp2_with fail
        refine (simFirst_h HO.out p (by omega) R3.out (k := fl) HFLE.out (by omega)).mono ?_
        rintro e W5 ⟨a2, s2, rfl, ho⟩
        clear HO; have HO := Lib.hid ho; clear ho
        go_wp2_with fail
        refine (simParts_h HO.out p q (by omega) (by omega) R4.out (k := pfl) HPFL.out (by omega)).mono ?_
        rintro e W6 ⟨a3, s3, rfl, ho⟩
        clear HO; have HO := Lib.hid ho; clear ho
        have hin := HIN.out W6 HO.out.own.ch
        have HIN1 := Lib.hid hin; clear hin
        go_wp2_with fail
        refine HIN1.out.mono ?_
        rintro e W7 ⟨rfl, hc7⟩
        have ho := HO.out.same hc7
        clear HO hc7 HIN1; have HO := Lib.hid ho; clear ho
        have cx0 := HO.out.cellT (b := bx) (xs := [.int .i64 G.most, .slice (some ⟨rb, 0, none⟩) G.nodes.length rcap]) (by simp) (i := 0) rfl
        have cx1 := HO.out.cellT (b := bx) (xs := [.int .i64 G.most, .slice (some ⟨rb, 0, none⟩) G.nodes.length rcap]) (by simp) (i := 1) rfl
        go_wp2_with fail
        refine (HRT.out _ _ HO.out (by simp) p).mono ?_
        rintro e W8 ⟨rfl, ho⟩
        rw [HRA.out]
        clear cx0 cx1
        clear HO; have HO := Lib.hid ho; clear ho
        have cx0 := HO.out.cellT (b := bx) (xs := [.int .i64 G.most, .slice (some ⟨rb, 0, none⟩) G.nodes.length rcap]) (by simp) (i := 0) rfl
        have cx1 := HO.out.cellT (b := bx) (xs := [.int .i64 G.most, .slice (some ⟨rb, 0, none⟩) G.nodes.length rcap]) (by simp) (i := 1) rfl
        go_wp2_with fail
        refine (HRT.out _ _ HO.out (by simp) p).mono ?_
        rintro e W9 ⟨rfl, ho⟩
        rw [HRA.out]
        clear cx0 cx1
        clear HO; have HO := Lib.hid ho; clear ho
        have cx0 := HO.out.cellT (b := bx) (xs := [.int .i64 G.most, .slice (some ⟨rb, 0, none⟩) G.nodes.length rcap]) (by simp) (i := 0) rfl
        have cx1 := HO.out.cellT (b := bx) (xs := [.int .i64 G.most, .slice (some ⟨rb, 0, none⟩) G.nodes.length rcap]) (by simp) (i := 1) rfl
        go_wp2_with fail
        refine (HRT.out _ _ HO.out (by simp) q).mono ?_
        rintro e W10 ⟨rfl, ho⟩
        rw [HRB.out]
        clear cx0 cx1
        clear HO; have HO := Lib.hid ho; clear ho
        have hin := HIN.out W10 HO.out.own.ch
        have HIN1 := Lib.hid hin; clear hin
        go_wp2_with fail
        refine HIN1.out.mono ?_
        rintro e W11 ⟨rfl, hc11⟩
        have ho := HO.out.same hc11
        clear HO hc11 HIN1; have HO := Lib.hid ho; clear ho
        have cx0 := HO.out.cellT (b := bx) (xs := [.int .i64 G.most, .slice (some ⟨rb, 0, none⟩) G.nodes.length rcap]) (by simp) (i := 0) rfl
        have cx1 := HO.out.cellT (b := bx) (xs := [.int .i64 G.most, .slice (some ⟨rb, 0, none⟩) G.nodes.length rcap]) (by simp) (i := 1) rfl
        have htr := HTR.out W11 _ HO.out (by simp)
        rw [HXE.out] at htr
        have HTR1 := Lib.hid htr; clear htr
        go_wp2_with fail
        refine HTR1.out.mono ?_
        rintro e W12 ⟨v, rfl, hrow, _, hc12⟩
        obtain ⟨xa, xc, rfl⟩ := row.shape hrow
        have ho := (HO.out.same hc12).add (row.sv hrow rfl (by omega))
        clear HO hc12 HTR1 hrow cx0 cx1; have HO := Lib.hid ho; clear ho
        have hmk := HMK.out
        have hmax := HMAX.out
        go_wp2_with fail
        clear hmk hmax
        refine wp_alw ?_
        intro W13 hW13
        have hbt := alw_blk (xs := u64s (List.replicate C 0)) hW13
        have hc13 := alw_ch hW13
        clear hW13
        generalize htb : W12.heap.size = tb at hbt ⊢
        have htb2 : W12.heap.size ≤ tb := by omega
        clear htb
        have HBT := Lib.hid hbt; clear hbt
        have HC13 := Lib.hid hc13; clear hc13
        go_loopw [136] (fun i wr => ∃ j : Nat, j ≤ xl ∧ i = .int .i64 j ∧ Ch [] W12 wr ∧ blk wr tb (u64s (setBs (List.replicate C 0) (X.take j)))) (fun i _ => xl - (intOf i).toNat)
        case atStart => exact ⟨0, by omega, rfl, HC13.out, HBT.out⟩
        case round =>
          clear HBT HC13
          obtain ⟨j, hj, rfl, hc, hbk⟩ := hrel
          by_cases hlt : j < xl
          · obtain ⟨x, hx⟩ : ∃ x, X[j]? = some x := ⟨_, List.getElem?_eq_getElem (by rw [HXE.out]; exact hlt)⟩
            obtain ⟨hxC, hx9⟩ := HXM.out x (List.mem_of_getElem? hx)
            obtain ⟨b1, o1, rfl, c1⟩ := ((HO.out.same hc).held (xa, refsCells X) (by simp)).cells j (.int .i64 x) (by unfold refsCells; rw [List.getElem?_map, hx]; rfl)
            have hts : setBs (List.replicate C 0) (X.take (j + 1)) = setB (setBs (List.replicate C 0) (X.take j)) x := by rw [List.take_add_one, hx]; exact setBs_snoc _ _ _
            have hsl := setBs_len (List.replicate C 0) (X.take j)
            rw [List.length_replicate] at hsl
            have hst := setBs_lt (T := List.replicate C 0) (fun v hv => by rw [(List.mem_replicate.1 hv).2]; decide) (X.take j)
            generalize setBs (List.replicate C 0) (X.take j) = S at *
            obtain ⟨u, hu⟩ : ∃ u, S[x / 64]? = some u := ⟨_, List.getElem?_eq_getElem (by omega)⟩
            have hub := hst u (List.mem_of_getElem? hu)
            unfold setB at hts
            rw [List.getD_eq_getElem?_getD, hu] at hts
            simp only [Option.getD_some] at hts
            obtain ⟨A64, hA64⟩ : ∃ A64, x / 64 = A64 := ⟨_, rfl⟩
            obtain ⟨R64, hR64⟩ : ∃ R64, x % 64 = R64 := ⟨_, rfl⟩
            rw [hA64] at hu hts hxC
            rw [hR64] at hts
            have eA : (x : Int) / 64 = (A64 : Int) := by omega
            have eR : (x : Int) % 64 = (R64 : Int) := by omega
            have hR6 : R64 < 64 := by omega
            have c2 := hbk.cell (i := A64) (v := .int .u64 u) (by unfold u64s; rw [List.getElem?_map, hu]; rfl)
            have f2 := hbk.frozen (i := A64)
            have HBK := Lib.hid hbk; clear hbk
            have HTS := Lib.hid hts; clear hts
            have HC := Lib.hid hc; clear hc hx hst hsl hu hA64 hR64
            go_wp2_with fail
            refine Ord.St.door (fun _ => True) [.fl, .fl, .fl, .fl, .rd, .fl, .fl, .fl, .fl, .fl, .ef] [0, 0, 2, 7, 15, 0, 32, 96, 255, 511, 1023] [0, 1, 2, 3, 4, 5, 6, 7, 8, 9, 10] mixed (by kernel_rfl) rfl ?_
            refine Ord.St.fl2 (T' := ?_) 0 [1, 2, 3, 4, 5, 6, 7, 8, 9, 10] _ _ rfl (by kernel_rfl) rfl rfl rfl rfl (fun K w' hk => ?_) ?_
            rotate_left
            · go_step; exact hk
            refine Ord.St.fl2 (T' := ?_) 1 [2, 3, 4, 5, 6, 7, 8, 9, 10] _ _ rfl (by kernel_rfl) rfl rfl rfl rfl (fun K w' hk => ?_) ?_
            rotate_left
            · go_step; exact hk
            refine Ord.St.fl2 (T' := ?_) 2 [3, 4, 5, 6, 7, 8, 9, 10] _ _ rfl (by kernel_rfl) rfl rfl rfl rfl (fun K w' hk => ?_) ?_
            rotate_left
            · go_step; exact hk
            refine Ord.St.fl2 (T' := ?_) 3 [4, 5, 6, 7, 8, 9, 10] _ _ rfl (by kernel_rfl) rfl rfl rfl rfl (fun K w' hk => ?_) ?_
            rotate_left
            · go_step; exact hk
            refine Ord.St.rd2 (T' := ?_) 4 [5, 6, 7, 8, 9, 10] _ _ rfl (by kernel_rfl) rfl rfl rfl rfl (fun K hk => ?_) ?_
            rotate_left
            · go_step; exact hk
            refine Ord.St.fl2 (T' := ?_) 5 [6, 7, 8, 9, 10] _ _ rfl (by kernel_rfl) rfl rfl rfl rfl (fun K w' hk => ?_) ?_
            rotate_left
            · go_step; exact hk
            refine Ord.St.fl2 (T' := ?_) 6 [7, 8, 9, 10] _ _ rfl (by kernel_rfl) rfl rfl rfl rfl (fun K w' hk => ?_) ?_
            rotate_left
            · go_step; exact hk
            refine Ord.St.fl2 (T' := ?_) 7 [8, 9, 10] _ _ rfl (by kernel_rfl) rfl rfl rfl rfl (fun K w' hk => ?_) ?_
            rotate_left
            · go_step; exact hk
            refine Ord.St.fl2 (T' := ?_) 8 [9, 10] _ _ rfl (by kernel_rfl) rfl rfl rfl rfl (fun K w' hk => ?_) ?_
            rotate_left
            · go_step; exact hk
            refine Ord.St.fl2 (T' := ?_) 9 [10] _ _ rfl (by kernel_rfl) rfl rfl rfl rfl (fun K w' hk => ?_) ?_
            rotate_left
            · go_step; exact hk
            refine Ord.St.ef 10 [] _ rfl (by kernel_rfl) (fun K hK => ?_)
            go_wp2_with fail
            refine ⟨rfl, hK _ _ ?_⟩; clear hK K
            refine Ord.St.nil ?_
            have hor := bits_or_u64_pow u R64 (by omega) hR6
            rw [hor]
            clear hor c1 c2 f2 eA eR
            go_wp2_with fail
            go_roundw
            case rel =>
              refine ⟨j + 1, by omega, by go_num, (HC.out.setCell (.inr htb2) _).drew, ?_⟩
              rw [HTS.out, show u64s (S.set A64 (u ||| 2 ^ R64)) = (u64s S).set A64 (.int .u64 (u ||| 2 ^ R64 : Nat)) by unfold u64s; rw [List.map_set]]
              exact (HBK.out.set _).ch ((Ch.refl [] _).drew) (by simp)
            case measure => simp [intOf]; omega
          · have hjx : j = xl := by omega
            rw [hjx, List.take_of_length_le (by rw [HXE.out]; omega), HTAB.out] at hbk
            have ho := (HO.out.same hc).blk hbk (by rw [show (u64s T).length = T.length by simp [u64s], HTL.out]; omega)
            clear HO hc hbk htb2 hjx
            have HO := Lib.hid ho; clear ho
            have exl : ((xl : Int) != (xl : Int)) = false := by simp
            by_cases hx0 : xl = 0
            · have hfb := HF0.out (List.eq_nil_of_length_eq_zero (by rw [HXE.out]; exact hx0))
              cases hfb
              have hfl0 := HFLE.out
              simp at hfl0
              subst hfl0
              subst hx0
              have egt : decide (((0 : Nat) : Int) > 0) = false := by decide
              go_wp2_with fail
              refine (EQu64_h HO.out (a := a1) (b := some ⟨tb, 0, none⟩) (xs := T) (ys := T) (ca := s1) (cb := C) (by simp) (HO.out.held (some ⟨tb, 0, none⟩, u64s T) (by simp)) HTL.out HTL.out (decide_eq_true rfl)).mono ?_
              rintro e W14 ⟨rfl, ho⟩
              clear HO; have HO := Lib.hid ho; clear ho
              have hsm := same21_no (w := W14) k s2 a2 (-1) (by omega)
              have HSM := Lib.hid hsm; clear hsm
              go_wp2_with fail
              refine HSM.out.mono ?_
              rintro e W15 ⟨rfl, hc15⟩
              have ho := HO.out.same hc15
              clear HO hc15 HSM; have HO := Lib.hid ho; clear ho
              have cx0 := HO.out.cellT (b := bx) (xs := [.int .i64 G.most, .slice (some ⟨rb, 0, none⟩) G.nodes.length rcap]) (by simp) (i := 0) rfl
              have cx1 := HO.out.cellT (b := bx) (xs := [.int .i64 G.most, .slice (some ⟨rb, 0, none⟩) G.nodes.length rcap]) (by simp) (i := 1) rfl
              have htp := HTPQ.out W15 _ HO.out (by simp)
              rcases HPA.out with ⟨m1, m2⟩ | ⟨y0, m1, m2, m3⟩
              · rw [m1] at htp
                cases m2
                have hpl0 := HPFL.out
                simp at hpl0
                subst hpl0
                have HTP1 := Lib.hid htp; clear htp m1
                go_wp2_with fail
                refine HTP1.out.mono ?_
                rintro e W16 ⟨rfl, hc16⟩
                have ho := HO.out.same hc16
                clear HO hc16 HTP1 cx0 cx1; have HO := Lib.hid ho; clear ho
                have hsm := same21_no (w := W16) k s3 a3 (-1) (by omega)
                have HSM := Lib.hid hsm; clear hsm
                go_wp2_with fail
                refine HSM.out.mono ?_
                rintro e W17 ⟨rfl, hc17⟩
                go_wp2_with fail
                go_ret
                exact ⟨rfl, HO.out.own.ch.trans hc17 (by simp)⟩
              · rw [m1] at htp
                cases m2
                have hpl0 := HPFL.out
                rw [asgBits_len] at hpl0
                subst hpl0
                have HTP1 := Lib.hid htp; clear htp m1
                go_wp2_with fail
                refine HTP1.out.mono ?_
                rintro e W16 ⟨rfl, hc16⟩
                have ho := HO.out.same hc16
                clear HO hc16 HTP1 cx0 cx1; have HO := Lib.hid ho; clear ho
                have hsm := same21_yes (w := W16) k s3 y0 (by omega) (by have : (2 : Nat) ^ k ≤ 512 := Nat.pow_le_pow_right (n := 2) (by omega) hk9; omega) (a := a3) (HO.out.held (a3, bools (asgBits k y0)) (by simp))
                have HSM := Lib.hid hsm; clear hsm
                go_wp2_with fail
                refine HSM.out.mono ?_
                rintro e W17 ⟨rfl, hc17⟩
                go_wp2_with fail
                go_ret
                exact ⟨rfl, HO.out.own.ch.trans hc17 (by simp)⟩
            · obtain ⟨x0, hx0v⟩ : ∃ x0, X[0]? = some x0 := ⟨_, List.getElem?_eq_getElem (by rw [HXE.out]; omega)⟩
              obtain ⟨hfb, hx0l⟩ := HF1.out x0 hx0v
              cases hfb
              have hfl0 := HFLE.out
              rw [asgBits_len] at hfl0
              subst hfl0
              have hx0b : x0 ≤ 512 := by have := (HXM.out x0 (List.mem_of_getElem? hx0v)).2; omega
              obtain ⟨xb, xo, rfl, cX⟩ := (HO.out.held (xa, refsCells X) (by simp)).cells 0 (.int .i64 x0) (by unfold refsCells; rw [List.getElem?_map, hx0v]; rfl)
              rw [Nat.add_zero] at cX
              have egt : decide ((xl : Int) > 0) = true := decide_eq_true (by omega)
              clear hx0l hx0v
              go_wp2_with fail
              refine (EQu64_h HO.out (a := a1) (b := some ⟨tb, 0, none⟩) (xs := T) (ys := T) (ca := s1) (cb := C) (by simp) (HO.out.held (some ⟨tb, 0, none⟩, u64s T) (by simp)) HTL.out HTL.out (decide_eq_true rfl)).mono ?_
              rintro e W14 ⟨rfl, ho⟩
              clear HO; have HO := Lib.hid ho; clear ho
              have hsm := same21_yes (w := W14) k s2 x0 (by omega) (by omega) (a := a2) (HO.out.held (a2, bools (asgBits k x0)) (by simp))
              have HSM := Lib.hid hsm; clear hsm
              go_wp2_with fail
              refine HSM.out.mono ?_
              rintro e W15 ⟨rfl, hc15⟩
              have ho := HO.out.same hc15
              clear HO hc15 HSM; have HO := Lib.hid ho; clear ho
              have cx0 := HO.out.cellT (b := bx) (xs := [.int .i64 G.most, .slice (some ⟨rb, 0, none⟩) G.nodes.length rcap]) (by simp) (i := 0) rfl
              have cx1 := HO.out.cellT (b := bx) (xs := [.int .i64 G.most, .slice (some ⟨rb, 0, none⟩) G.nodes.length rcap]) (by simp) (i := 1) rfl
              have htp := HTPQ.out W15 _ HO.out (by simp)
              rcases HPA.out with ⟨m1, m2⟩ | ⟨y0, m1, m2, m3⟩
              · rw [m1] at htp
                cases m2
                have hpl0 := HPFL.out
                simp at hpl0
                subst hpl0
                have HTP1 := Lib.hid htp; clear htp m1
                go_wp2_with fail
                refine HTP1.out.mono ?_
                rintro e W16 ⟨rfl, hc16⟩
                have ho := HO.out.same hc16
                clear HO hc16 HTP1 cx0 cx1; have HO := Lib.hid ho; clear ho
                have hsm := same21_no (w := W16) k s3 a3 (-1) (by omega)
                have HSM := Lib.hid hsm; clear hsm
                go_wp2_with fail
                refine HSM.out.mono ?_
                rintro e W17 ⟨rfl, hc17⟩
                go_wp2_with fail
                go_ret
                exact ⟨rfl, HO.out.own.ch.trans hc17 (by simp)⟩
              · rw [m1] at htp
                cases m2
                have hpl0 := HPFL.out
                rw [asgBits_len] at hpl0
                subst hpl0
                have HTP1 := Lib.hid htp; clear htp m1
                go_wp2_with fail
                refine HTP1.out.mono ?_
                rintro e W16 ⟨rfl, hc16⟩
                have ho := HO.out.same hc16
                clear HO hc16 HTP1 cx0 cx1; have HO := Lib.hid ho; clear ho
                have hsm := same21_yes (w := W16) k s3 y0 (by omega) (by have : (2 : Nat) ^ k ≤ 512 := Nat.pow_le_pow_right (n := 2) (by omega) hk9; omega) (a := a3) (HO.out.held (a3, bools (asgBits k y0)) (by simp))
                have HSM := Lib.hid hsm; clear hsm
                go_wp2_with fail
                refine HSM.out.mono ?_
                rintro e W17 ⟨rfl, hc17⟩
                go_wp2_with fail
                go_ret
                exact ⟨rfl, HO.out.own.ch.trans hc17 (by simp)⟩
end
end Go.Proofs.Ytdmmanfjafempaa
namespace Go.Proofs.Ytdmmanfjafempaa
open Go.RowKit Go.Mem Go.Aig
section
variable {w : World}
/-- the bit of a word is what the reference says -/
theorem col_val {I : List Nat} (ns : List Nd) (r k : Nat) : wref 1 (valsN (colN I k) ns) r = ((wref U64 (wvF U64 I ns).1 r).testBit k && decide (k < 64)).toNat ∨ 64 ≤ k := by
  by_cases hk : k < 64
  · refine .inl ?_
    rw [vals_bv (colN_le I k), colN_bits, decide_eq_true hk, Bool.and_true]
    have := wv_bv (N := 64) hk I ns r
    rw [u64_pow] at this
    rw [this]
  · exact .inr (by omega)
theorem col_ref {I : List Nat} (ns : List Nd) (r k : Nat) (hk : k < 64) : wref 1 (valsN (colN I k) ns) r = ((wref U64 (wvF U64 I ns).1 r).testBit k).toNat := by
  rcases col_val (I := I) ns r k with h | h
  · rw [h, decide_eq_true hk, Bool.and_true]
  · omega
theorem col_node {I : List Nat} (ns : List Nd) (n k : Nat) (hk : k < 64) (hn : n < ns.length) : ∃ v x, (wvF U64 I ns).1[n]? = some x ∧ (valsN (colN I k) ns)[n]? = some v ∧ v = (x.testBit k).toNat := by
  have h := col_ref (I := I) ns (2 * n) k hk
  have h1 : (wvF U64 I ns).1.length = ns.length := wvF_len _ _ _
  have h2 := valsN_len (colN I k) ns
  refine ⟨_, _, List.getElem?_eq_getElem (by omega), List.getElem?_eq_getElem (by omega), ?_⟩
  unfold wref at h
  rw [if_neg (by omega), if_neg (by omega), show 2 * n / 2 = n by omega, List.getD_eq_getElem?_getD, List.getD_eq_getElem?_getD, List.getElem?_eq_getElem (by omega), List.getElem?_eq_getElem (by omega)] at h
  exact h
set_option maxRecDepth 100000 in
set_option maxHeartbeats 8000000 in
theorem columns21_is {rb rcap : Nat} {G : Gra} (h : RG w rb rcap G) {xa : Option Addr} {I : List Nat} (m xc : Nat) (hm : I.length = m) (hI : Sv w xa (u64s I)) (hlt : ∀ v ∈ I, v < 2 ^ 64) (hml : m ≤ 1000) (hin : (inputs G.nodes).length = m)
    {ra : Option Addr} {R : List Int} (rn rc : Nat) (hrn : R.length = rn) (hR : Sl w ra R) (hrl : rn ≤ 1000)
    {na : Option Addr} (nc : Nat) (hV : Sv w na (u64s (wvF U64 I G.nodes).1))
    {ga : Option Addr} {gs : List Nat} (gn gc : Nat) (hgn : gs.length = gn) (hG : Sv w ga (u64s gs)) {oa : Option Addr} {os : List Bool} (on oc : Nat) (hon : os.length = on) (hO : Sb w oa os) (b : Bool)
    (hb : b = true → badIn G R = false ∧ gs = wsOf I G.nodes (nats R) ∧ os = (wsOf I G.nodes (nats R)).map fun v => v.testBit 0) :
    Calls Try.prog 47 #[.agg #[.int .i64 G.most, .slice (some ⟨rb, 0, none⟩) G.nodes.length rcap], .slice xa m xc, .slice ra rn rc, .slice na G.nodes.length nc, .slice ga gn gc, .slice oa on oc, .bool b] w fun e w' => e = .returned (.bool true) ∧ Ch [] w w' := by
  obtain ⟨hl, hp, hmo⟩ := h.len
  have hVAL := fun (W : World) (hW : Ch [] w W) (k : Nat) (ya : Option Addr) (yc : Nat) (hI : Sv W ya (refsCells (colN I k))) => r21Values_is (h.ch hW (by simp)) (xa := ya) m yc (by rw [colN_len, hm]) hI (colN_le I k) (by omega)
  have hCOL := fun (W : World) (hW : Ch [] w W) (k : Nat) (hk : k ≤ 63) => r21Column_is (w := W) (xa := xa) (I := I) m xc k hm (hI.ch hW (by simp)) hlt (by omega) hk
  have hnode := fun (i k : Nat) (hk : k < 64) (hi : i < G.nodes.length) => col_node (I := I) G.nodes i k hk hi
  have href := fun (r k : Nat) (hk : k < 64) => col_ref (I := I) G.nodes r k hk
  have hVlt := (wvF_lt (N := 64) hlt G.nodes).1
  rw [u64_pow] at hVlt
  have hgl : b = true → gs.length = rn ∧ os.length = rn := fun hb1 => by
    obtain ⟨h1, h2, h3⟩ := hb hb1
    have : (nats R).length = rn := by unfold nats; rw [List.length_map, hrn]
    rw [h2, h3]
    unfold wsOf
    simp [this]
  have hgat : b = true → ∀ (i : Nat) (z : Int), R[i]? = some z → ∃ r g : Nat, z = r ∧ r < 2 * G.nodes.length ∧ gs[i]? = some g ∧ g < 2 ^ 64 ∧ g = wref U64 (wvF U64 I G.nodes).1 r ∧ os[i]? = some (g.testBit 0) := fun hb1 i z hz => by
    obtain ⟨h1, h2, h3⟩ := hb hb1
    obtain ⟨q1, q2⟩ := badIn_no h1
    have hz2 : (nats R)[i]? = some z.toNat := by unfold nats; rw [List.getElem?_map, hz]; rfl
    have hzr := q2 _ (List.mem_of_getElem? hz2)
    have hznn : z = (z.toNat : Int) := by
      have : ((nats R).map (fun (r : Nat) => (r : Int)))[i]? = some z := by rw [q1, hz]
      rw [List.getElem?_map, hz2] at this
      simpa using this.symm
    have hw : (wsOf I G.nodes (nats R))[i]? = some (wref U64 (wvF U64 I G.nodes).1 z.toNat) := by
      unfold wsOf
      rw [List.getElem?_map, hz2]
      rfl
    refine ⟨z.toNat, _, hznn, hzr, by rw [h2]; exact hw, ?_, rfl, by rw [h3, List.getElem?_map, hw]; rfl⟩
    have := wref_lt (N := 64) (vs := (wvF U64 I G.nodes).1) hVlt z.toNat
    rw [u64_pow] at this
    exact this
  have hVl : (wvF U64 I G.nodes).1.length = G.nodes.length := wvF_len _ _ _
  have hvn1 := fun k => valsN_le (colN_le I k) G.nodes
  have hvnl := fun k => valsN_len (colN I k) G.nodes
  have hwr1 := fun (k r : Nat) => wref1 (valsN (colN I k) G.nodes) r
  generalize (wvF U64 I G.nodes).1 = V at *
  have hgl1 : b = true → gn = rn ∧ on = rn := fun hb1 => by
    obtain ⟨h1, h2⟩ := hgl hb1
    omega
  have HRG := Lib.hid h; clear h
  have HVAL := Lib.hid hVAL; clear hVAL
  have HCOL := Lib.hid hCOL; clear hCOL
  have HNODE := Lib.hid hnode; clear hnode
  have HREF := Lib.hid href; clear href
  have HVLT := Lib.hid hVlt; clear hVlt
  have HGAT := Lib.hid hgat; clear hgat
  have HVL := Lib.hid hVl; clear hVl
  have HVN1 := Lib.hid hvn1; clear hvn1
  have HVNL := Lib.hid hvnl; clear hvnl
  have HWR1 := Lib.hid hwr1; clear hwr1
  have HR := Lib.hid hR; clear hR
  have HV := Lib.hid hV; clear hV
  have HG := Lib.hid hG; clear hG
  have HO := Lib.hid hO; clear hO
  have HRN := Lib.hid hrn; clear hrn
  have e1 : ((G.nodes.length : Int) != (G.nodes.length : Int)) = false := by simp
  have hgb : (b = false) ∨ (b = true ∧ gn = rn ∧ on = rn) := by
    cases b
    · exact .inl rfl
    · exact .inr ⟨rfl, hgl1 rfl⟩
  clear hb hgl hgl1 hm hI hlt hgn hon hin
  have hgo : ∀ (gn' on' : Nat), (b = true → gn' = rn ∧ on' = rn) → True := fun _ _ _ => trivial
  clear hgo
  go_enter Try.func47, Try.ntmps47
  go_upto_region 1 with fail
  refine wp_alw ?_
  intro W0 hW0
  have hb0 := alw_blk (xs := [.int .i64 G.most, .slice (some ⟨rb, 0, none⟩) G.nodes.length rcap]) hW0
  have HC0 := Lib.hid (alw_ch hW0)
  clear hW0
  generalize w.heap.size = bx at hb0 ⊢
  have cx1 := hb0.cell (i := 1) rfl
  have HB0 := Lib.hid hb0; clear hb0
  have e2 : ((rn : Int) != (rn : Int)) = false := by simp
  rcases hgb with hb0 | ⟨hb1, hg1, ho1⟩
  · subst hb0
    clear HGAT
    go_wp2_with fail
    clear cx1
    go_loopw [45] (fun i wr => ∃ k : Nat, k ≤ 64 ∧ i = .int .i64 k ∧ Ch [] W0 wr) (fun i _ => 64 - (intOf i).toNat)
    case atStart => exact ⟨0, by omega, rfl, Ch.refl _ _⟩
    case round =>
      obtain ⟨k, hk, rfl, hc⟩ := hrel
      by_cases hlt : k < 64
      · have d1 : decide ((k : Int) < 64) = true := decide_eq_true (by omega)
        have bR := HB0.out.ch hc (by simp)
        have HBR := Lib.hid bR
        have cx0 := bR.cell (i := 0) rfl
        have cx1 := bR.cell (i := 1) rfl
        have HC := Lib.hid hc; clear hc bR
        go_upto_region 6 with fail
        go_cut [16] (fun v wd => ∃ va vc, v = .slice va G.nodes.length vc ∧ Sv wd va (refsCells (valsN (colN I k) G.nodes)) ∧ Ch [] W0 wd)
        case first =>
          refine Ord.St.door (fun w' => w'.cell? ⟨bx, 0, none⟩ = some (.int .i64 G.most) ∧ w'.cell? ⟨bx, 1, none⟩ = some (.slice (some ⟨rb, 0, none⟩) G.nodes.length rcap)) [.ho, .fl, .fl, .ef, .ef, .fl] [0, 0, 0, 6, 15, 31] [0, 1, 2, 3, 4, 5] mixed (by kernel_rfl) rfl ?_
          obtain ⟨Wc, hWc⟩ : ∃ Wc, Wc = wr.drew := ⟨_, rfl⟩
          rw [← hWc]
          have hcc : Ch [] wr Wc := by rw [hWc]; exact (Ch.refl _ _).drew
          clear hWc cx0 cx1
          have HCC := Lib.hid hcc
          have cx0 := (HBR.out.ch hcc (by simp)).cell (i := 0) rfl
          have cx1 := (HBR.out.ch hcc (by simp)).cell (i := 1) rfl
          clear hcc
          refine Ord.St.ho2 (T' := ?_) 0 [1, 2, 3, 4, 5] _ _ rfl (by kernel_rfl) rfl rfl rfl rfl ?_ (fun K w' hw' hk => ?_) ?_
          rotate_left
          · exact ⟨cx0, cx1⟩
          · obtain ⟨q1, q2⟩ := hw'; go_step; exact hk
          refine Ord.St.fl2 (T' := ?_) 1 [2, 3, 4, 5] _ _ rfl (by kernel_rfl) rfl rfl rfl rfl (fun K w' hk => ?_) ?_
          rotate_left
          · go_step; exact hk
          refine Ord.St.fl2 (T' := ?_) 2 [3, 4, 5] _ _ rfl (by kernel_rfl) rfl rfl rfl rfl (fun K w' hk => ?_) ?_
          rotate_left
          · go_step; exact hk
          refine Ord.St.efC 3 [4, 5] _ rfl (by kernel_rfl) (fun K hK => ?_)
          have hco := HCOL.out Wc ((HC0.out.trans HC.out (by simp)).trans HCC.out (by simp)) k (by omega)
          have HCO := Lib.hid hco
          clear hco
          go_wp2_with fail
          refine HCO.out.mono ?_
          rintro e w3 ⟨v, rfl, hrw, _, hc3⟩
          obtain ⟨aa, ac, rfl⟩ := row.shape hrw
          have hsv := row.sv hrw rfl (by omega)
          have HCD := Lib.hid (HCC.out.trans hc3 (by simp))
          have hvv := HVAL.out w3 ((HC0.out.trans HC.out (by simp)).trans HCD.out (by simp)) k aa ac hsv
          have HVV := Lib.hid hvv
          clear hrw hsv hvv hc3 cx0 cx1 HCO
          have cx0 := (HBR.out.ch HCD.out (by simp)).cell (i := 0) rfl
          have cx1 := (HBR.out.ch HCD.out (by simp)).cell (i := 1) rfl
          go_wp2_with fail
          refine ⟨rfl, hK _ _ ?_ ?_⟩
          · exact ⟨cx0, cx1⟩
          clear hK K
          refine Ord.St.ef 4 [5] _ rfl (by kernel_rfl) (fun K hK => ?_)
          go_wp2_with fail
          refine HVV.out.mono ?_
          rintro e w4 ⟨v, rfl, hrw, _, hc4⟩
          obtain ⟨ab, ad, rfl⟩ := row.shape hrw
          have hsv := row.sv hrw rfl (by omega)
          have HSV := Lib.hid hsv
          have HCE := Lib.hid ((HC.out.trans HCD.out (by simp)).trans hc4 (by simp))
          clear hrw hsv hc4 cx0 cx1 HVV
          go_wp2_with fail
          refine ⟨rfl, hK _ _ ?_⟩; clear hK K
          refine Ord.St.fl2 (T' := ?_) 5 [] _ _ rfl (by kernel_rfl) rfl rfl rfl rfl (fun K w' hk => ?_) ?_
          rotate_left
          · go_step; exact hk
          refine Ord.St.nil ?_
          go_wp2_with fail
          go_meet
          case rel => exact ⟨ab, ad, rfl, HSV.out, HCE.out⟩
        case rest =>
          obtain ⟨va, vc, rfl, hsv, hcc⟩ := hcut
          have HSV := Lib.hid hsv; clear hsv
          have HCC := Lib.hid hcc; clear hcc
          clear cx0 cx1 HBR HC
          have hvl := HVNL.out k
          have hv1 := HVN1.out k
          have hnd := fun i hi => HNODE.out i k hlt hi
          have hrf := fun r => HREF.out r k hlt
          have hwr := HWR1.out k
          generalize valsN (colN I k) G.nodes = VV at *
          have HND := Lib.hid hnd; clear hnd
          have HRF := Lib.hid hrf; clear hrf
          have HWR := Lib.hid hwr; clear hwr
          have HVVL := Lib.hid hvl; clear hvl
          have HVV1 := Lib.hid hv1; clear hv1
          go_wp2_with fail
          go_loopw [55] (fun i wr => ∃ j : Nat, j ≤ G.nodes.length ∧ i = .int .i64 j ∧ Ch [] wc wr) (fun i _ => G.nodes.length - (intOf i).toNat)
          case atStart => exact ⟨0, by omega, rfl, Ch.refl _ _⟩
          case round =>
            obtain ⟨j, hj, rfl, hc⟩ := hrel
            by_cases hjl : j < G.nodes.length
            · obtain ⟨v, x, hx, hv, hvx⟩ := HND.out j hjl
              have hxb := HVLT.out x (List.mem_of_getElem? hx)
              obtain ⟨b1, o1, rfl, c1⟩ := (HV.out.ch ((HC0.out.trans HCC.out (by simp)).trans hc (by simp)) (by simp)).cells j (.int .u64 x) (u64s_get hx)
              obtain ⟨b2, o2, rfl, c2⟩ := (HSV.out.ch hc (by simp)).cells j (.int .i64 v) (by unfold refsCells; rw [List.getElem?_map, hv]; rfl)
              have hqb := half_bit x k
              obtain ⟨q, hq⟩ : ∃ q, x / 2 ^ k = q := ⟨_, rfl⟩
              have hqx : q ≤ x := by rw [← hq]; exact Nat.div_le_self _ _
              rw [← hvx, hq] at hqb
              have hvb : v ≤ 1 := by omega
              have ee2 : (q : Int) % 2 = (v : Int) := by omega
              have ee1 : ∀ [Nonempty Unit], (x : Int) / 2 ^ k = (q : Int) := by rw [← hq]; simp
              have evv : ((v : Int) != (v : Int)) = false := by simp
              have HC := Lib.hid hc; clear hc hx hv hvx hqb hq
              go_wp2_with fail
              refine Ord.St.door (fun _ => True) [.fl, .fl, .fl, .fl, .fl, .fl, .fl, .fl, .rd, .fl] [0, 0, 3, 7, 15, 0, 0, 96, 224, 511] [0, 1, 2, 3, 4, 5, 6, 7, 8, 9] mixed (by kernel_rfl) rfl ?_
              refine Ord.St.fl2 (T' := ?_) 0 [1, 2, 3, 4, 5, 6, 7, 8, 9] _ _ rfl (by kernel_rfl) rfl rfl rfl rfl (fun K w' hk => ?_) ?_
              rotate_left
              · go_step; exact hk
              refine Ord.St.fl2 (T' := ?_) 1 [2, 3, 4, 5, 6, 7, 8, 9] _ _ rfl (by kernel_rfl) rfl rfl rfl rfl (fun K w' hk => ?_) ?_
              rotate_left
              · go_step; exact hk
              refine Ord.St.fl2 (T' := ?_) 2 [3, 4, 5, 6, 7, 8, 9] _ _ rfl (by kernel_rfl) rfl rfl rfl rfl (fun K w' hk => ?_) ?_
              rotate_left
              · go_step; exact hk
              refine Ord.St.fl2 (T' := ?_) 3 [4, 5, 6, 7, 8, 9] _ _ rfl (by kernel_rfl) rfl rfl rfl rfl (fun K w' hk => ?_) ?_
              rotate_left
              · go_step; exact hk
              refine Ord.St.fl2 (T' := ?_) 4 [5, 6, 7, 8, 9] _ _ rfl (by kernel_rfl) rfl rfl rfl rfl (fun K w' hk => ?_) ?_
              rotate_left
              · go_step; exact hk
              refine Ord.St.fl2 (T' := ?_) 5 [6, 7, 8, 9] _ _ rfl (by kernel_rfl) rfl rfl rfl rfl (fun K w' hk => ?_) ?_
              rotate_left
              · go_step; exact hk
              refine Ord.St.fl2 (T' := ?_) 6 [7, 8, 9] _ _ rfl (by kernel_rfl) rfl rfl rfl rfl (fun K w' hk => ?_) ?_
              rotate_left
              · go_step; exact hk
              refine Ord.St.fl2 (T' := ?_) 7 [8, 9] _ _ rfl (by kernel_rfl) rfl rfl rfl rfl (fun K w' hk => ?_) ?_
              rotate_left
              · go_step; exact hk
              refine Ord.St.rd2 (T' := ?_) 8 [9] _ _ rfl (by kernel_rfl) rfl rfl rfl rfl (fun K hk => ?_) ?_
              rotate_left
              · go_step; exact hk
              refine Ord.St.fl2 (T' := ?_) 9 [] _ _ rfl (by kernel_rfl) rfl rfl rfl rfl (fun K w' hk => ?_) ?_
              rotate_left
              · go_step; exact hk
              refine Ord.St.nil ?_
              clear c1 c2 ee1 ee2 evv
              go_wp2_with fail
              go_roundw
              case rel => exact ⟨j + 1, by omega, by go_num, HC.out.drew⟩
              case measure => simp [intOf]; omega
            · have HC1 := Lib.hid (HCC.out.trans hc (by simp))
              have HSVr := Lib.hid (HSV.out.ch hc (by simp)); clear hc
              obtain ⟨wo, hwo⟩ : ∃ wo, wo = wr := ⟨_, rfl⟩
              subst hwo
              go_wp2_with fail
              go_loopw [73] (fun i wr => ∃ j : Nat, j ≤ rn ∧ i = .int .i64 j ∧ wo = wr) (fun i _ => rn - (intOf i).toNat)
              case atStart => exact ⟨0, by omega, rfl, rfl⟩
              case round =>
                obtain ⟨j2, hj2, rfl, rfl⟩ := hrel
                by_cases hjr : j2 < rn
                · obtain ⟨z, hz⟩ : ∃ z, R[j2]? = some z := ⟨_, List.getElem?_eq_getElem (by rw [HRN.out]; exact hjr)⟩
                  obtain ⟨b3, o3, rfl, c3⟩ := (HR.out.ch (HC0.out.trans HC1.out (by simp)) (by simp)).cells j2 z hz
                  go_wp2_with fail
                  go_roundw
                  case rel => exact ⟨k + 1, by omega, by go_num, HC1.out⟩
                  case measure => simp [intOf]; omega
                · go_wp2_with fail
                  go_roundw
                  case rel => exact ⟨k + 1, by omega, by go_num, HC1.out⟩
                  case measure => simp [intOf]; omega
      · have HC := Lib.hid hc; clear hc
        go_wp2_with fail
        go_ret
        exact ⟨rfl, HC0.out.trans HC.out (by simp)⟩
  · subst hb1
    obtain rfl : rn = gn := hg1.symm
    obtain rfl : rn = on := ho1.symm
    have HGA := Lib.hid (HGAT.out rfl); clear HGAT
    go_wp2_with fail
    clear cx1
    go_loopw [45] (fun i wr => ∃ k : Nat, k ≤ 64 ∧ i = .int .i64 k ∧ Ch [] W0 wr) (fun i _ => 64 - (intOf i).toNat)
    case atStart => exact ⟨0, by omega, rfl, Ch.refl _ _⟩
    case round =>
      obtain ⟨k, hk, rfl, hc⟩ := hrel
      by_cases hlt : k < 64
      · have d1 : decide ((k : Int) < 64) = true := decide_eq_true (by omega)
        have bR := HB0.out.ch hc (by simp)
        have HBR := Lib.hid bR
        have cx0 := bR.cell (i := 0) rfl
        have cx1 := bR.cell (i := 1) rfl
        have HC := Lib.hid hc; clear hc bR
        go_upto_region 6 with fail
        go_cut [16] (fun v wd => ∃ va vc, v = .slice va G.nodes.length vc ∧ Sv wd va (refsCells (valsN (colN I k) G.nodes)) ∧ Ch [] W0 wd)
        case first =>
          refine Ord.St.door (fun w' => w'.cell? ⟨bx, 0, none⟩ = some (.int .i64 G.most) ∧ w'.cell? ⟨bx, 1, none⟩ = some (.slice (some ⟨rb, 0, none⟩) G.nodes.length rcap)) [.ho, .fl, .fl, .ef, .ef, .fl] [0, 0, 0, 6, 15, 31] [0, 1, 2, 3, 4, 5] mixed (by kernel_rfl) rfl ?_
          obtain ⟨Wc, hWc⟩ : ∃ Wc, Wc = wr.drew := ⟨_, rfl⟩
          rw [← hWc]
          have hcc : Ch [] wr Wc := by rw [hWc]; exact (Ch.refl _ _).drew
          clear hWc cx0 cx1
          have HCC := Lib.hid hcc
          have cx0 := (HBR.out.ch hcc (by simp)).cell (i := 0) rfl
          have cx1 := (HBR.out.ch hcc (by simp)).cell (i := 1) rfl
          clear hcc
          refine Ord.St.ho2 (T' := ?_) 0 [1, 2, 3, 4, 5] _ _ rfl (by kernel_rfl) rfl rfl rfl rfl ?_ (fun K w' hw' hk => ?_) ?_
          rotate_left
          · exact ⟨cx0, cx1⟩
          · obtain ⟨q1, q2⟩ := hw'; go_step; exact hk
          refine Ord.St.fl2 (T' := ?_) 1 [2, 3, 4, 5] _ _ rfl (by kernel_rfl) rfl rfl rfl rfl (fun K w' hk => ?_) ?_
          rotate_left
          · go_step; exact hk
          refine Ord.St.fl2 (T' := ?_) 2 [3, 4, 5] _ _ rfl (by kernel_rfl) rfl rfl rfl rfl (fun K w' hk => ?_) ?_
          rotate_left
          · go_step; exact hk
          refine Ord.St.efC 3 [4, 5] _ rfl (by kernel_rfl) (fun K hK => ?_)
          have hco := HCOL.out Wc ((HC0.out.trans HC.out (by simp)).trans HCC.out (by simp)) k (by omega)
          have HCO := Lib.hid hco
          clear hco
          go_wp2_with fail
          refine HCO.out.mono ?_
          rintro e w3 ⟨v, rfl, hrw, _, hc3⟩
          obtain ⟨aa, ac, rfl⟩ := row.shape hrw
          have hsv := row.sv hrw rfl (by omega)
          have HCD := Lib.hid (HCC.out.trans hc3 (by simp))
          have hvv := HVAL.out w3 ((HC0.out.trans HC.out (by simp)).trans HCD.out (by simp)) k aa ac hsv
          have HVV := Lib.hid hvv
          clear hrw hsv hvv hc3 cx0 cx1 HCO
          have cx0 := (HBR.out.ch HCD.out (by simp)).cell (i := 0) rfl
          have cx1 := (HBR.out.ch HCD.out (by simp)).cell (i := 1) rfl
          go_wp2_with fail
          refine ⟨rfl, hK _ _ ?_ ?_⟩
          · exact ⟨cx0, cx1⟩
          clear hK K
          refine Ord.St.ef 4 [5] _ rfl (by kernel_rfl) (fun K hK => ?_)
          go_wp2_with fail
          refine HVV.out.mono ?_
          rintro e w4 ⟨v, rfl, hrw, _, hc4⟩
          obtain ⟨ab, ad, rfl⟩ := row.shape hrw
          have hsv := row.sv hrw rfl (by omega)
          have HSV := Lib.hid hsv
          have HCE := Lib.hid ((HC.out.trans HCD.out (by simp)).trans hc4 (by simp))
          clear hrw hsv hc4 cx0 cx1 HVV
          go_wp2_with fail
          refine ⟨rfl, hK _ _ ?_⟩; clear hK K
          refine Ord.St.fl2 (T' := ?_) 5 [] _ _ rfl (by kernel_rfl) rfl rfl rfl rfl (fun K w' hk => ?_) ?_
          rotate_left
          · go_step; exact hk
          refine Ord.St.nil ?_
          go_wp2_with fail
          go_meet
          case rel => exact ⟨ab, ad, rfl, HSV.out, HCE.out⟩
        case rest =>
          obtain ⟨va, vc, rfl, hsv, hcc⟩ := hcut
          have HSV := Lib.hid hsv; clear hsv
          have HCC := Lib.hid hcc; clear hcc
          clear cx0 cx1 HBR HC
          have hvl := HVNL.out k
          have hv1 := HVN1.out k
          have hnd := fun i hi => HNODE.out i k hlt hi
          have hrf := fun r => HREF.out r k hlt
          have hwr := HWR1.out k
          generalize valsN (colN I k) G.nodes = VV at *
          have HND := Lib.hid hnd; clear hnd
          have HRF := Lib.hid hrf; clear hrf
          have HWR := Lib.hid hwr; clear hwr
          have HVVL := Lib.hid hvl; clear hvl
          have HVV1 := Lib.hid hv1; clear hv1
          go_wp2_with fail
          go_loopw [55] (fun i wr => ∃ j : Nat, j ≤ G.nodes.length ∧ i = .int .i64 j ∧ Ch [] wc wr) (fun i _ => G.nodes.length - (intOf i).toNat)
          case atStart => exact ⟨0, by omega, rfl, Ch.refl _ _⟩
          case round =>
            obtain ⟨j, hj, rfl, hc⟩ := hrel
            by_cases hjl : j < G.nodes.length
            · obtain ⟨v, x, hx, hv, hvx⟩ := HND.out j hjl
              have hxb := HVLT.out x (List.mem_of_getElem? hx)
              obtain ⟨b1, o1, rfl, c1⟩ := (HV.out.ch ((HC0.out.trans HCC.out (by simp)).trans hc (by simp)) (by simp)).cells j (.int .u64 x) (u64s_get hx)
              obtain ⟨b2, o2, rfl, c2⟩ := (HSV.out.ch hc (by simp)).cells j (.int .i64 v) (by unfold refsCells; rw [List.getElem?_map, hv]; rfl)
              have hqb := half_bit x k
              obtain ⟨q, hq⟩ : ∃ q, x / 2 ^ k = q := ⟨_, rfl⟩
              have hqx : q ≤ x := by rw [← hq]; exact Nat.div_le_self _ _
              rw [← hvx, hq] at hqb
              have hvb : v ≤ 1 := by omega
              have ee2 : (q : Int) % 2 = (v : Int) := by omega
              have ee1 : ∀ [Nonempty Unit], (x : Int) / 2 ^ k = (q : Int) := by rw [← hq]; simp
              have evv : ((v : Int) != (v : Int)) = false := by simp
              have HC := Lib.hid hc; clear hc hx hv hvx hqb hq
              go_wp2_with fail
              refine Ord.St.door (fun _ => True) [.fl, .fl, .fl, .fl, .fl, .fl, .fl, .fl, .rd, .fl] [0, 0, 3, 7, 15, 0, 0, 96, 224, 511] [0, 1, 2, 3, 4, 5, 6, 7, 8, 9] mixed (by kernel_rfl) rfl ?_
              refine Ord.St.fl2 (T' := ?_) 0 [1, 2, 3, 4, 5, 6, 7, 8, 9] _ _ rfl (by kernel_rfl) rfl rfl rfl rfl (fun K w' hk => ?_) ?_
              rotate_left
              · go_step; exact hk
              refine Ord.St.fl2 (T' := ?_) 1 [2, 3, 4, 5, 6, 7, 8, 9] _ _ rfl (by kernel_rfl) rfl rfl rfl rfl (fun K w' hk => ?_) ?_
              rotate_left
              · go_step; exact hk
              refine Ord.St.fl2 (T' := ?_) 2 [3, 4, 5, 6, 7, 8, 9] _ _ rfl (by kernel_rfl) rfl rfl rfl rfl (fun K w' hk => ?_) ?_
              rotate_left
              · go_step; exact hk
              refine Ord.St.fl2 (T' := ?_) 3 [4, 5, 6, 7, 8, 9] _ _ rfl (by kernel_rfl) rfl rfl rfl rfl (fun K w' hk => ?_) ?_
              rotate_left
              · go_step; exact hk
              refine Ord.St.fl2 (T' := ?_) 4 [5, 6, 7, 8, 9] _ _ rfl (by kernel_rfl) rfl rfl rfl rfl (fun K w' hk => ?_) ?_
              rotate_left
              · go_step; exact hk
              refine Ord.St.fl2 (T' := ?_) 5 [6, 7, 8, 9] _ _ rfl (by kernel_rfl) rfl rfl rfl rfl (fun K w' hk => ?_) ?_
              rotate_left
              · go_step; exact hk
              refine Ord.St.fl2 (T' := ?_) 6 [7, 8, 9] _ _ rfl (by kernel_rfl) rfl rfl rfl rfl (fun K w' hk => ?_) ?_
              rotate_left
              · go_step; exact hk
              refine Ord.St.fl2 (T' := ?_) 7 [8, 9] _ _ rfl (by kernel_rfl) rfl rfl rfl rfl (fun K w' hk => ?_) ?_
              rotate_left
              · go_step; exact hk
              refine Ord.St.rd2 (T' := ?_) 8 [9] _ _ rfl (by kernel_rfl) rfl rfl rfl rfl (fun K hk => ?_) ?_
              rotate_left
              · go_step; exact hk
              refine Ord.St.fl2 (T' := ?_) 9 [] _ _ rfl (by kernel_rfl) rfl rfl rfl rfl (fun K w' hk => ?_) ?_
              rotate_left
              · go_step; exact hk
              refine Ord.St.nil ?_
              clear c1 c2 ee1 ee2 evv
              go_wp2_with fail
              go_roundw
              case rel => exact ⟨j + 1, by omega, by go_num, HC.out.drew⟩
              case measure => simp [intOf]; omega
            · have HC1 := Lib.hid (HCC.out.trans hc (by simp))
              have HSVr := Lib.hid (HSV.out.ch hc (by simp)); clear hc
              obtain ⟨wo, hwo⟩ : ∃ wo, wo = wr := ⟨_, rfl⟩
              subst hwo
              go_wp2_with fail
              go_loopw [73] (fun i wr => ∃ j : Nat, j ≤ rn ∧ i = .int .i64 j ∧ wo = wr) (fun i _ => rn - (intOf i).toNat)
              case atStart => exact ⟨0, by omega, rfl, rfl⟩
              case round =>
                obtain ⟨j2, hj2, rfl, rfl⟩ := hrel
                by_cases hjr : j2 < rn
                · obtain ⟨z, hz⟩ : ∃ z, R[j2]? = some z := ⟨_, List.getElem?_eq_getElem (by rw [HRN.out]; exact hjr)⟩
                  obtain ⟨b3, o3, rfl, c3⟩ := (HR.out.ch (HC0.out.trans HC1.out (by simp)) (by simp)).cells j2 z hz
                  obtain ⟨r, gv, hzr, hrl2, hgv, hgb2, hgw, hov⟩ := HGA.out j2 z hz
                  subst hzr
                  obtain ⟨L, hL⟩ : ∃ L, r / 2 = L := ⟨_, rfl⟩
                  obtain ⟨rm, hrm⟩ : ∃ rm, r % 2 = rm := ⟨_, rfl⟩
                  obtain ⟨p, hp2⟩ : ∃ p, VV[L]? = some p := ⟨_, List.getElem?_eq_getElem (by rw [HVVL.out]; omega)⟩
                  have hp1 := HVV1.out p (List.mem_of_getElem? hp2)
                  have hx1 := HWR.out r
                  rw [HRF.out r, hL, hrm, List.getD_eq_getElem?_getD, hp2, ← hgw] at hx1
                  simp only [Option.getD_some] at hx1
                  obtain ⟨b4, o4, rfl, c4⟩ := (HSVr.out).cells L (.int .i64 p) (by unfold refsCells; rw [List.getElem?_map, hp2]; rfl)
                  obtain ⟨b5, o5, rfl, c5⟩ := (HG.out.ch (HC0.out.trans HC1.out (by simp)) (by simp)).cells j2 (.int .u64 gv) (u64s_get hgv)
                  obtain ⟨b6, o6, rfl, c6⟩ := (HO.out.ch (HC0.out.trans HC1.out (by simp)) (by simp)).cells j2 (.bool (gv.testBit 0)) (by rw [List.getElem?_map, hov]; rfl)
                  have ex1 := bits_xor_i64_nat p rm (by omega) (by omega)
                  have hqb := half_bit gv k
                  rw [hx1] at hqb
                  have h0b := half_bit gv 0
                  obtain ⟨A, hA⟩ : ∃ A, p ^^^ rm = A := ⟨_, rfl⟩
                  rw [hA] at ex1 hqb hx1
                  obtain ⟨q, hq⟩ : ∃ q, gv / 2 ^ k = q := ⟨_, rfl⟩
                  have hqx : q ≤ gv := by rw [← hq]; exact Nat.div_le_self _ _
                  rw [hq] at hqb
                  have hAb : A ≤ 1 := by omega
                  have ee2 : (q : Int) % 2 = (A : Int) := by omega
                  have ee1 : ∀ [Nonempty Unit], (gv : Int) / 2 ^ k = (q : Int) := by rw [← hq]; simp
                  have evv : ((A : Int) != (A : Int)) = false := by simp
                  have el1 : (r : Int) / 2 = (L : Int) := by omega
                  have el2 : (r : Int) % 2 = (rm : Int) := by omega
                  have hLN : L < G.nodes.length := by omega
                  have hk0 : k = 0 → ((A : Int) == 1) = gv.testBit 0 := fun e => by
                    rw [e] at hx1
                    rw [← hx1]
                    cases gv.testBit 0 <;> rfl
                  have hrb2 : r ≤ 200000 := by omega
                  clear hz hgv hgw hov hp2 hL hrm hx1 hqb h0b hA hq
                  by_cases hk00 : k = 0
                  · have eq1 := hk0 hk00
                    obtain ⟨tb, htb⟩ : ∃ tb, gv.testBit 0 = tb := ⟨_, rfl⟩
                    rw [htb] at eq1 c6
                    have ek : ((k : Int) == 0) = true := by rw [hk00]; rfl
                    have ebb : (tb != tb) = false := by cases tb <;> rfl
                    clear htb hk0 hk00
                    go_wp2_with fail
                    go_roundw
                    case rel => exact ⟨j2 + 1, by omega, by go_num, trivial⟩
                    case measure => simp [intOf]; omega
                  · have ek : ((k : Int) == 0) = false := by rw [beq_eq_false_iff_ne]; omega
                    clear hk0
                    go_wp2_with fail
                    go_roundw
                    case rel => exact ⟨j2 + 1, by omega, by go_num, trivial⟩
                    case measure => simp [intOf]; omega
                · go_wp2_with fail
                  go_roundw
                  case rel => exact ⟨k + 1, by omega, by go_num, HC1.out⟩
                  case measure => simp [intOf]; omega
      · have HC := Lib.hid hc; clear hc
        go_wp2_with fail
        go_ret
        exact ⟨rfl, HC0.out.trans HC.out (by simp)⟩
end
end Go.Proofs.Ytdmmanfjafempaa
namespace Go.Proofs.Ytdmmanfjafempaa
open Go.RowKit Go.Mem Go.Aig
section
variable {w : World}
theorem intSl {w : World} {a : Option Addr} {n c : Nat} {l : List Int} (h : row w 39 1 (.slice a n c) n (intCells l)) (hn : n ≤ 1000000) : Sl w a l := Sl.of_ints h hn
theorem badIn_take {G : Gra} {R : List Int} {j : Nat} {z : Int} (hz : R[j]? = some z) : (!badIn G (R.take (j + 1))) = (!badIn G (R.take j) && right G.nodes z) := by
  unfold badIn
  rw [List.take_add_one, hz, List.any_append]
  simp
set_option maxRecDepth 100000 in
set_option maxHeartbeats 8000000 in
theorem words21_is {a : Option Addr} {n ncap : Nat} {l : List N21} (hS : NodeS w a n ncap l) (hn : n ≤ 61) {xa : Option Addr} {m xc : Nat} {I : List Nat} (hX : NumS .u64 64 w xa m xc I) (hm70 : m ≤ 70) {ra : Option Addr} {rn rc : Nat} {R : List Int} (hR : IntS w ra rn rc R) (hr20 : rn ≤ 20) :
    Calls Try.prog 8 #[.slice a n ncap, .slice xa m xc, .slice ra rn rc] w fun e w' => e = .returned (.bool true) ∧ Ch [] w w' := by
  have hBU := build21_is hS hn
  have hIN := fun (W : World) (hW : Ch [] w W) => inputs21_is (hS.ch hW) (by omega)
  have hlen := hX.len
  have hle := hX.le
  have hmx := hX.max
  have HBU := Lib.hid hBU; clear hBU
  have HIN := Lib.hid hIN; clear hIN hS
  have HX := Lib.hid hX; clear hX
  have hrlen := hR.len
  have hrle := hR.le
  have hrmx := hR.max
  have hRbd := hR.bd
  have HRR := Lib.hid hR; clear hR
  have HRB := Lib.hid hRbd; clear hRbd
  have HRL := Lib.hid hrlen; clear hrlen
  have HXL := Lib.hid hlen; clear hlen
  go_enter Try.func8, Try.ntmps8
  go_wp2_with fail
  refine HBU.out.mono ?_
  rintro e w1 ⟨g, F, rb, rcap, G, rfl, hb, hm, hnl, hil⟩
  have HBO := Lib.hid hb; clear hb HBU
  have HM := Lib.hid hm; clear hm
  have HIL0 := Lib.hid hil; clear hil
  go_upto_region 2 with fail
  refine wp_named fun W2 hW2 => ?_
  have hb2 := alw_blk (xs := [.int .i64 G.most, .slice (some ⟨rb, 0, none⟩) G.nodes.length rcap]) hW2
  have hb := HBO.out.same (alw_ch hW2)
  have ho : HS w W2 g G F [(some ⟨w1.heap.size, 0, none⟩, [.int .i64 G.most, .slice (some ⟨rb, 0, none⟩) G.nodes.length rcap]), (some ⟨rb, 0, none⟩, rCells G.nodes)] := (((⟨⟨hb.gin, hb.own, hb.ch⟩, by simp⟩ : HS w W2 g G F []).add hb.rg.sv).blk hb2 (by simp))
  have hgle := hb.rg.le
  have hgmx := hb.rg.mx
  have hok := hb.rg.ok
  have hpos := hok.wf.pos
  clear hW2 hb2 hb HBO
  generalize w1.heap.size = bx at ho ⊢
  have HO := Lib.hid ho; clear ho
  have HOK := Lib.hid hok; clear hok
  have hil := HIL0.out
  clear HIL0
  obtain ⟨k, hkk⟩ : ∃ k, cntI l = k := ⟨_, rfl⟩
  simp only [hkk] at HIN
  rw [hkk] at hil
  clear hkk
  have hk61 : k ≤ 62 := by
    have : ∀ (l : List Nd) (k : Nat), (inputsFrom l k).length ≤ l.length := fun l => by
      induction l with
      | nil => intro n; simp [inputsFrom]
      | cons a l ih => intro n; unfold inputsFrom; split <;> simp <;> have := ih (n + 1) <;> omega
    have := this G.nodes 0
    unfold inputs at hil
    omega
  have HIL := Lib.hid hil; clear hil
  have hRT : ∀ (W : World) (L : List (Option Addr × List Value)) (_ : HS w W g G F L) (_ : (some ⟨rb, 0, none⟩, rCells G.nodes) ∈ L) (r : Int), Calls Try.prog 38 #[.agg #[.int .i64 G.most, .slice (some ⟨rb, 0, none⟩) G.nodes.length rcap], .int .i64 r] W fun e w' => e = .returned (.bool (right G.nodes r)) ∧ Ch [] W w' := fun W L hh hmem r => rRight_is (RG.held (hh.held _ hmem) hgle hgmx HOK.out) r
  have HRT := Lib.hid hRT; clear hRT
  have HBT := Lib.hid (fun j z (hz : R[j]? = some z) => badIn_take (G := G) hz)
  have hb00 : (!badIn G (R.take 0)) = true := rfl
  have HB00 := Lib.hid hb00; clear hb00
  go_wp2_with fail
  go_loopw [10, 11, 38] (fun o q i wr => ∃ j : Nat, j ≤ rn ∧ i = .int .i64 j ∧ q = .bool (!badIn G (R.take j)) ∧ Ch [] W2 wr ∧ row wr 39 1 o j (intCells (R.take j)) ∧ (j = 0 → o = .slice none 0 0) ∧ ∀ z ∈ o.ownBlock.toList, W2.heap.size ≤ z) (fun _ _ i _ => rn - (intOf i).toNat)
  case atStart => exact ⟨0, by omega, rfl, by rw [HB00.out], Ch.refl _ _, ⟨rfl, .inl ⟨rfl, rfl⟩⟩, fun _ => rfl, by simp⟩
  case round =>
    obtain ⟨j, hj, rfl, rfl, hc, hrow, hj0, hlo⟩ := hrel
    obtain ⟨oa, oc, rfl⟩ := row.shape hrow
    have HJ0 := Lib.hid hj0; clear hj0
    have HROW := Lib.hid hrow; clear hrow
    have HLO := Lib.hid hlo; clear hlo
    by_cases hlt : j < rn
    · obtain ⟨z, hz⟩ : ∃ z, R[j]? = some z := ⟨_, List.getElem?_eq_getElem (by rw [HRL.out]; exact hlt)⟩
      have hbt := HBT.out j z hz
      have hts : R.take (j + 1) = R.take j ++ [z] := by rw [List.take_add_one, hz]; rfl
      obtain ⟨b1, o1, rfl, c1⟩ := (HRR.out.sl.ch (HO.out.own.ch.trans hc (by simp)) (by simp)).cells j z hz
      have hO := HO.out.same hc
      have HOr := Lib.hid hO; clear hO
      have HTS := Lib.hid hts; clear hts
      have HC := Lib.hid hc; clear hc hz
      obtain ⟨q, hq⟩ : ∃ q, (!badIn G (R.take j)) = q := ⟨_, rfl⟩
      rw [hq] at hbt ⊢
      have HBTJ := Lib.hid hbt; clear hbt hq
      have hcA : Ch [] wr (wr.alloc (.cells #[.int .i64 z] 39)) := (Ch.refl _ _).alloc _
      have hrA := HROW.out.ch hcA (by simp)
      have hbA : blk (wr.alloc (.cells #[.int .i64 z] 39)) wr.heap.size [.int .i64 z] := blk.new' _ _ rfl
      have HRA := Lib.hid hrA; clear hrA
      have HBA := Lib.hid hbA; clear hbA
      have HCA := Lib.hid hcA; clear hcA
      go_upto_region 10 with (at_builtin; go_loud (refine wpList_append_row slRefs rfl _ _ rfl (v := .slice oa j oc) (n := j) (xs := intCells (R.take j)) rfl HRA.out (ad := ⟨wr.heap.size, 0, none⟩) (m := 1) (c := 1) (news := [.int .i64 z]) rfl rfl (news_blk HBA.out) (by simp [Value.oneCell']) (by omega) (by omega) ?_; intro v' w5 hown4 hC4 hf4; have HO4 := Lib.hid hown4; clear hown4; have HC4 := Lib.hid hC4; clear hC4; have HF4 := Lib.hid hf4; clear hf4))
      have hown := HO4.out
      rw [show intCells (R.take j) ++ [.int .i64 z] = intCells (R.take j ++ [z]) by simp [intCells], ← HTS.out] at hown
      have HO5 := Lib.hid hown; clear hown HO4
      have hq5 := app_step HC.out HCA.out HLO.out HC4.out HF4.out
      have hH5 := HO.out.same hq5.1
      have HQ5 := Lib.hid hq5; clear hq5 HC4 HF4 HCA HBA HRA HROW HLO HC HOr
      have HH5 := Lib.hid hH5; clear hH5
      cases q
      · go_wp2_with fail
        go_roundw
        case rel => exact ⟨j + 1, by omega, by go_num, by rw [HBTJ.out]; rfl, HQ5.out.1, HO5.out, fun e => by omega, HQ5.out.2⟩
        case measure => simp [intOf]; omega
      · have cx0 := HH5.out.cellT (b := bx) (xs := [.int .i64 G.most, .slice (some ⟨rb, 0, none⟩) G.nodes.length rcap]) (by simp) (i := 0) rfl
        have cx1 := HH5.out.cellT (b := bx) (xs := [.int .i64 G.most, .slice (some ⟨rb, 0, none⟩) G.nodes.length rcap]) (by simp) (i := 1) rfl
        have hrt := HRT.out w5 _ HH5.out (by simp) z
        have HRT1 := Lib.hid hrt; clear hrt
        go_wp2_with fail
        refine HRT1.out.mono ?_
        rintro e w6 ⟨rfl, hc6⟩
        have HC6 := Lib.hid hc6; clear hc6 cx0 cx1
        go_wp2_with fail
        go_roundw
        case rel => exact ⟨j + 1, by omega, by go_num, by rw [HBTJ.out]; rfl, HQ5.out.1.trans HC6.out (by simp), HO5.out.ch HC6.out (by simp), fun e => by omega, HQ5.out.2⟩
        case measure => simp [intOf]; omega
    · have hjr : j = rn := by omega
      subst hjr
      have hrow := HROW.out
      rw [List.take_of_length_le (by rw [HRL.out]; omega)] at hrow
      have hosl := intSl hrow (by omega)
      have hosv := row.sv hrow rfl (by omega)
      obtain ⟨bad, hbad⟩ : ∃ bad, badIn G R = bad := ⟨_, rfl⟩
      rw [List.take_of_length_le (by rw [HRL.out]; omega), hbad]
      have ho := (HO.out.same hc).add hosv
      clear HO HROW HLO hc hrow hosv hlt hj
      have HO := Lib.hid ho; clear ho
      have HOSL := Lib.hid hosl; clear hosl
      have HBAD := Lib.hid hbad; clear hbad
      have hcl := CLu64_is (w := wr) (a := xa) (l := I) m xc HXL.out (HX.out.sv.ch HO.out.own.ch (by simp)) (by omega)
      have HCL := Lib.hid hcl; clear hcl
      go_wp2_with fail
      refine HCL.out.mono ?_
      rintro e w4 ⟨v, rfl, hrow, hv, hc4⟩
      obtain ⟨za, zc, rfl⟩ := row.shape hrow
      have hzcap := row.capLe' hrow
      have ho := (HO.out.same hc4).add (row.sv hrow rfl (by omega))
      have HOSL4 := Lib.hid (HOSL.out.ch hc4 (by simp))
      clear HO hrow hv hc4 HCL HOSL
      have HO := Lib.hid ho; clear ho
      have hIlt := HX.out.bd
      have HILT := Lib.hid hIlt; clear hIlt
      obtain ⟨B, hB⟩ : ∃ B, I.map (fun v => v.testBit 0) = B := ⟨_, rfl⟩
      have hBl : B.length = m := by rw [← hB, List.length_map, HXL.out]
      have hBt : ∀ (i v : Nat), I[i]? = some v → B.take (i + 1) = B.take i ++ [v.testBit 0] := fun i v hv => by
        rw [List.take_add_one]
        congr 1
        rw [← hB, List.getElem?_map, hv]
        rfl
      have HB := Lib.hid hB; clear hB
      have HBL := Lib.hid hBl; clear hBl
      have HBTK := Lib.hid hBt; clear hBt
      have HXS := Lib.hid (HX.out.sv.ch HO.out.own.ch (by simp))
      obtain ⟨wo, hwo⟩ : ∃ wo, wo = w4 := ⟨_, rfl⟩
      subst hwo
      go_wp2_with fail
      go_loopw [15, 57] (fun o i wr => ∃ s : Nat, s ≤ m ∧ i = .int .i64 s ∧ Ch [] wo wr ∧ row wr 4 1 o s (bools (B.take s)) ∧ ∀ q ∈ o.ownBlock.toList, wo.heap.size ≤ q) (fun _ i _ => m - (intOf i).toNat)
      case atStart => exact ⟨0, by omega, rfl, Ch.refl _ _, ⟨rfl, .inl ⟨rfl, rfl⟩⟩, by simp⟩
      case round =>
        obtain ⟨s, hs, rfl, hc, hrow, hlo⟩ := hrel
        obtain ⟨ba, bc, rfl⟩ := row.shape hrow
        have HROW := Lib.hid hrow; clear hrow
        have HLO := Lib.hid hlo; clear hlo
        by_cases hlt : s < m
        · obtain ⟨v, hv⟩ : ∃ v, I[s]? = some v := ⟨_, List.getElem?_eq_getElem (by rw [HXL.out]; exact hlt)⟩
          have hvb := HILT.out v (List.mem_of_getElem? hv)
          have hsn := HBTK.out s v hv
          obtain ⟨b1, o1, rfl, c1⟩ := (HXS.out.ch hc (by simp)).cells s (.int .u64 v) (by rw [List.getElem?_map, hv]; rfl)
          have hbit : (((v : Int) % 2) == 1) = v.testBit 0 := by
            have h1 := half_bit v 0
            rw [Nat.pow_zero, Nat.div_one] at h1
            cases h2 : v.testBit 0
            · rw [h2] at h1
              rw [beq_eq_false_iff_ne]
              simp at h1
              omega
            · rw [h2] at h1
              rw [beq_iff_eq]
              simp at h1
              omega
          have HC := Lib.hid hc; clear hc hv
          generalize v.testBit 0 = tb at hsn hbit
          have HSU := Lib.hid hsn; clear hsn
          have hcA : Ch [] wr (wr.alloc (.cells #[.bool tb] 4)) := (Ch.refl _ _).alloc _
          have hrA := HROW.out.ch hcA (by simp)
          have hbA : blk (wr.alloc (.cells #[.bool tb] 4)) wr.heap.size [.bool tb] := blk.new' _ _ rfl
          have HRA := Lib.hid hrA; clear hrA
          have HBA := Lib.hid hbA; clear hbA
          have HCA := Lib.hid hcA; clear hcA
          go_wp2_with (at_builtin; go_loud (refine wpList_append_row slBools rfl _ _ rfl (v := .slice ba s bc) (n := s) (xs := bools (B.take s)) rfl HRA.out (ad := ⟨wr.heap.size, 0, none⟩) (m := 1) (c := 1) (news := [.bool tb]) rfl rfl (news_blk HBA.out) (by simp [Value.oneCell']) (by omega) (by omega) ?_; intro v' w5 hown4 hC4 hf4; have HO4 := Lib.hid hown4; clear hown4; have HCC4 := Lib.hid hC4; clear hC4; have HF4 := Lib.hid hf4; clear hf4))
          go_roundw
          case rel =>
            obtain ⟨q1, q2⟩ := app_step HC.out HCA.out HLO.out HCC4.out HF4.out
            refine ⟨s + 1, by omega, by go_num, q1, ?_, q2⟩
            rw [HSU.out, show bools (B.take s ++ [tb]) = bools (B.take s) ++ [.bool tb] by simp [bools]]
            exact HO4.out
          case measure => simp [intOf]; omega
        · have hsm : s = m := by omega
          have hrow := HROW.out
          rw [hsm, List.take_of_length_le (by rw [HBL.out]; omega)] at hrow
          have ho := (HO.out.same hc).add (row.sv hrow rfl (by omega))
          have hin := HIN.out wr ho.own.ch
          have HIN1 := Lib.hid hin; clear hin
          have HOSL5 := Lib.hid (HOSL4.out.ch hc (by simp))
          rw [hsm]
          clear HO hc hrow HROW HLO hsm HOSL4
          have HO := Lib.hid ho; clear ho
          go_wp2_with fail
          refine HIN1.out.mono ?_
          rintro e w6 ⟨rfl, hc6⟩
          have ho := HO.out.same hc6
          have HOSL6 := Lib.hid (HOSL5.out.ch hc6 (by simp))
          clear HO hc6 HIN1 HOSL5
          have HO := Lib.hid ho; clear ho
          have hhl : ∀ (W : World) (L : List (Option Addr × List Value)) (_ : HS w W g G F L) (_ : (oa, intCells R) ∈ L), ∀ q, oa = some q → q.block < W.heap.size := fun W L hh hmem q hq => by
            by_cases h0 : j = 0
            · have := HJ0.out h0
              cases this
              cases hq
            · obtain ⟨b1, o1, e1, c1⟩ := (hh.held _ hmem).cells 0 _ (List.getElem?_eq_getElem (by simp [intCells, HRL.out]; omega))
              rw [hq] at e1
              cases e1
              exact cell_lt c1
          have HHL := Lib.hid hhl; clear hhl
          have hsl : ∀ (W : World) (L : List (Option Addr × List Value)) (_ : HS w W g G F L) (_ : (oa, intCells R) ∈ L), Sl W oa R := fun W L hh hmem => ⟨fun i x hx => (hh.held _ hmem).cells i _ (by unfold intCells; rw [List.getElem?_map, hx]; rfl), by have := (hh.held _ hmem).bd; simpa [intCells] using this⟩
          have HSL := Lib.hid hsl; clear hsl HOSL6
          by_cases hmk : m = k
          · have emk : ((m : Int) == (k : Int)) = true := by rw [hmk]; simp
            have hmI : I.length = (inputs G.nodes).length := by rw [HXL.out, HIL.out]; exact hmk
            have hmB : B.length = (inputs G.nodes).length := by rw [HBL.out, HIL.out]; exact hmk
            have hkm : (inputs G.nodes).length = m := by rw [HIL.out]; exact hmk.symm
            cases bad
            · have hbad := HBAD.out
              have nR : nodesR G I = ((wvF U64 I G.nodes).1, 0) := by unfold nodesR; rw [if_neg (by simpa using hmI)]
              have wR : wordsR G I R = (wsOf I G.nodes (nats R), 0) := by unfold wordsR; rw [hbad, if_neg (by simp), if_neg (by simpa using hmI)]
              have bR := bits_words hmI hbad (kk := 0) (by omega)
              rw [HB.out] at bR
              have hwl : (wsOf I G.nodes (nats R)).length = j := by unfold wsOf; rw [List.length_map]; unfold nats; rw [List.length_map, HRL.out]
              have sR : suppR G R = (suppL G.nodes (nats R) k, 0) := by unfold suppR; rw [hbad, HIL.out]; rfl
              obtain ⟨hbn1, hbn2⟩ := badIn_no hbad
              have hsl := suppL_len G.nodes (nats R) k
              obtain ⟨sn, hsn⟩ : ∃ sn, (suppL G.nodes (nats R) k).length = sn := ⟨_, rfl⟩
              rw [hsn] at hsl
              have HBN1 := Lib.hid hbn1; clear hbn1
              have HBN2 := Lib.hid hbn2; clear hbn2
              have HSN := Lib.hid hsn; clear hsn
              have WR := Lib.hid wR; clear wR
              have BR := Lib.hid bR; clear bR
              have SR := Lib.hid sR; clear sR
              have hND := simNodes_is HO.out.own.gin (xa := za) (ins := I) m zc HXL.out (HO.out.held (za, u64s I) (by simp)) HILT.out hzcap.1 hzcap.2 (by omega)
              rw [nR] at hND
              have HND := Lib.hid hND; clear hND nR hbad hmI hmB hmk
              have HWL := Lib.hid hwl; clear hwl
              have HKM := Lib.hid hkm; clear hkm
              go_wp2_with fail
              refine HND.out.mono ?_
              rintro e w7 ⟨v, rfl, hv1, hv2, hc7⟩
              obtain ⟨nb, hvn, _, hbn⟩ := hv1 (by first | rfl | trivial)
              subst hvn
              have ho := (HO.out.same hc7).blk hbn (by have := wvF_len U64 I G.nodes; rw [show (u64s (wvF U64 I G.nodes).1).length = (wvF U64 I G.nodes).1.length by simp [u64s], this]; omega)
              clear hv1 hv2 hc7 HND hbn
              clear HO; have HO := Lib.hid ho; clear ho
              go_wp2_with fail
              refine (simWords_h HO.out (xa := za) (ins := I) (by simp) HXL.out HILT.out hzcap.1 hzcap.2 (a := oa) (l := R) (n := j) (c := oc) HRL.out (HSL.out _ _ HO.out (by simp)) HRB.out (by omega) WR.out (k := j) HWL.out (by omega)).mono ?_
              rintro e w8 ⟨ga, gc, rfl, ho⟩
              clear HO; have HO := Lib.hid ho; clear ho
              go_wp2_with fail
              refine (simBits_h HO.out (xa := ba) (ins := B) (m := m) (by simp) HBL.out (by omega) (a := oa) (l := R) (n := j) (c := oc) HRL.out (HSL.out _ _ HO.out (by simp)) HRB.out (by omega) BR.out (k := j) (by rw [List.length_map]; exact HWL.out) (by omega)).mono ?_
              rintro e w9 ⟨ta, tc, rfl, ho⟩
              clear HO; have HO := Lib.hid ho; clear ho
              go_wp2_with fail
              refine (simSupport_h HO.out (a := oa) (l := R) (n := j) (c := oc) HRL.out (HSL.out _ _ HO.out (by simp)) (HHL.out _ _ HO.out (by simp)) HRB.out SR.out (k := sn) HSN.out (by omega)).mono ?_
              rintro e w10 ⟨ya, yc, rfl, ho⟩
              clear HO; have HO := Lib.hid ho; clear ho
              have cx0 := HO.out.cellT (b := bx) (xs := [.int .i64 G.most, .slice (some ⟨rb, 0, none⟩) G.nodes.length rcap]) (by simp) (i := 0) rfl
              have cx1 := HO.out.cellT (b := bx) (xs := [.int .i64 G.most, .slice (some ⟨rb, 0, none⟩) G.nodes.length rcap]) (by simp) (i := 1) rfl
              have hsp := r21Support_is (RG.held (HO.out.held (some ⟨rb, 0, none⟩, rCells G.nodes) (by simp)) hgle hgmx HOK.out) (a := ra) (l := nats R) j rc (by unfold nats; rw [List.length_map]; exact HRL.out) (by rw [show natInts (nats R) = R from HBN1.out]; exact HRR.out.sl.ch HO.out.own.ch (by simp)) HBN2.out (by omega)
              rw [HIL.out, HSN.out] at hsp
              have HSP := Lib.hid hsp; clear hsp
              go_wp2_with fail
              refine HSP.out.mono ?_
              rintro e w11 ⟨v, rfl, hrow, _, hc11⟩
              obtain ⟨qa, qc, rfl⟩ := row.shape hrow
              have ho := (HO.out.same hc11).add (row.sv hrow rfl (by omega))
              clear hrow hc11 HSP cx0 cx1
              clear HO; have HO := Lib.hid ho; clear ho
              go_wp2_with fail
              refine (Eqint_h HO.out (a := ya) (b := qa) (ca := yc) (cb := qc) (xs := natInts (suppL G.nodes (nats R) k)) (ys := natInts (suppL G.nodes (nats R) k)) (HO.out.slT (by simp)) (HO.out.slT (List.mem_cons_self ..)) (by rw [natInts_len]; exact HSN.out) (by rw [natInts_len]; exact HSN.out) (decide_eq_true rfl)).mono ?_
              rintro e w12 ⟨rfl, ho⟩
              clear HO; have HO := Lib.hid ho; clear ho
              have cx0 := HO.out.cellT (b := bx) (xs := [.int .i64 G.most, .slice (some ⟨rb, 0, none⟩) G.nodes.length rcap]) (by simp) (i := 0) rfl
              have cx1 := HO.out.cellT (b := bx) (xs := [.int .i64 G.most, .slice (some ⟨rb, 0, none⟩) G.nodes.length rcap]) (by simp) (i := 1) rfl
              have hco := columns21_is (RG.held (HO.out.held (some ⟨rb, 0, none⟩, rCells G.nodes) (by simp)) hgle hgmx HOK.out) (xa := xa) (I := I) m xc HXL.out (HX.out.sv.ch HO.out.own.ch (by simp)) HILT.out (by omega) HKM.out (ra := ra) (R := R) j rc HRL.out (HRR.out.sl.ch HO.out.own.ch (by simp)) (by omega) (na := some ⟨nb, 0, none⟩) G.nodes.length (HO.out.held (some ⟨nb, 0, none⟩, u64s (wvF U64 I G.nodes).1) (by simp)) (ga := ga) (gs := wsOf I G.nodes (nats R)) j gc HWL.out (HO.out.held (ga, u64s (wsOf I G.nodes (nats R))) (by simp)) (oa := ta) (os := (wsOf I G.nodes (nats R)).map fun (v : Nat) => v.testBit 0) j tc (by rw [List.length_map]; exact HWL.out) (HO.out.held (ta, bools ((wsOf I G.nodes (nats R)).map fun (v : Nat) => v.testBit 0)) (by simp)) true (fun _ => ⟨HBAD.out, rfl, rfl⟩)
              have HCO := Lib.hid hco; clear hco
              go_wp2_with fail
              refine HCO.out.mono ?_
              rintro e w13 ⟨rfl, hc13⟩
              have ho := HO.out.same hc13
              clear hc13 HCO cx0 cx1
              clear HO; have HO := Lib.hid ho; clear ho
              go_wp2_with fail
              refine (EQu64_h HO.out (a := za) (b := xa) (xs := I) (ys := I) (ca := zc) (cb := xc) (by simp) (HX.out.sv.ch HO.out.own.ch (by simp)) HXL.out HXL.out (decide_eq_true rfl)).mono ?_
              rintro e w14 ⟨rfl, ho⟩
              clear HO; have HO := Lib.hid ho; clear ho
              have hef := EFref_yes (w := w14) (a := oa) (b := ra) (xs := R) (ys := R) j oc rc 50 HRL.out HRL.out (by omega) (HSL.out _ _ HO.out (by simp)) (HRR.out.sl.ch HO.out.own.ch (by simp)) (fun i x y hx hy => by rw [hx] at hy; cases hy; exact words21_1_is x) fnvwords21_1
              have HEF := Lib.hid hef; clear hef
              go_wp2_with fail
              refine HEF.out.mono ?_
              rintro e w' ⟨rfl, rfl⟩
              go_wp2_with fail
              go_ret
              exact ⟨rfl, HO.out.own.ch⟩
            · have hbad := HBAD.out
              have nR : nodesR G I = ((wvF U64 I G.nodes).1, 0) := by unfold nodesR; rw [if_neg (by simpa using hmI)]
              have wR : wordsR G I R = ([], 200) := by unfold wordsR; rw [hbad]; rfl
              have bR : bitsR G B R = ([], 200) := by unfold bitsR; rw [hbad]; rfl
              have sR : suppR G R = ([], 200) := by unfold suppR; rw [hbad]; rfl
              have WR := Lib.hid wR; clear wR
              have BR := Lib.hid bR; clear bR
              have SR := Lib.hid sR; clear sR
              have hND := simNodes_is HO.out.own.gin (xa := za) (ins := I) m zc HXL.out (HO.out.held (za, u64s I) (by simp)) HILT.out hzcap.1 hzcap.2 (by omega)
              rw [nR] at hND
              have HND := Lib.hid hND; clear hND nR hbad hmI hmB hmk
              have HKM := Lib.hid hkm; clear hkm
              go_wp2_with fail
              refine HND.out.mono ?_
              rintro e w7 ⟨v, rfl, hv1, hv2, hc7⟩
              obtain ⟨nb, hvn, _, hbn⟩ := hv1 (by first | rfl | trivial)
              subst hvn
              have ho := (HO.out.same hc7).blk hbn (by have := wvF_len U64 I G.nodes; rw [show (u64s (wvF U64 I G.nodes).1).length = (wvF U64 I G.nodes).1.length by simp [u64s], this]; omega)
              clear hv1 hv2 hc7 HND hbn
              clear HO; have HO := Lib.hid ho; clear ho
              go_wp2_with fail
              refine (simWords_h HO.out (xa := za) (ins := I) (by simp) HXL.out HILT.out hzcap.1 hzcap.2 (a := oa) (l := R) (n := j) (c := oc) HRL.out (HSL.out _ _ HO.out (by simp)) HRB.out (by omega) WR.out (k := 0) rfl (by omega)).mono ?_
              rintro e w8 ⟨ga, gc, rfl, ho⟩
              clear HO; have HO := Lib.hid ho; clear ho
              go_wp2_with fail
              refine (simBits_h HO.out (xa := ba) (ins := B) (m := m) (by simp) HBL.out (by omega) (a := oa) (l := R) (n := j) (c := oc) HRL.out (HSL.out _ _ HO.out (by simp)) HRB.out (by omega) BR.out (k := 0) rfl (by omega)).mono ?_
              rintro e w9 ⟨ta, tc, rfl, ho⟩
              clear HO; have HO := Lib.hid ho; clear ho
              go_wp2_with fail
              refine (simSupport_h HO.out (a := oa) (l := R) (n := j) (c := oc) HRL.out (HSL.out _ _ HO.out (by simp)) (HHL.out _ _ HO.out (by simp)) HRB.out SR.out (k := 0) rfl (by omega)).mono ?_
              rintro e w10 ⟨ya, yc, rfl, ho⟩
              clear HO; have HO := Lib.hid ho; clear ho
              have cx0 := HO.out.cellT (b := bx) (xs := [.int .i64 G.most, .slice (some ⟨rb, 0, none⟩) G.nodes.length rcap]) (by simp) (i := 0) rfl
              have cx1 := HO.out.cellT (b := bx) (xs := [.int .i64 G.most, .slice (some ⟨rb, 0, none⟩) G.nodes.length rcap]) (by simp) (i := 1) rfl
              have hco := columns21_is (RG.held (HO.out.held (some ⟨rb, 0, none⟩, rCells G.nodes) (by simp)) hgle hgmx HOK.out) (xa := xa) (I := I) m xc HXL.out (HX.out.sv.ch HO.out.own.ch (by simp)) HILT.out (by omega) HKM.out (ra := ra) (R := R) j rc HRL.out (HRR.out.sl.ch HO.out.own.ch (by simp)) (by omega) (na := some ⟨nb, 0, none⟩) G.nodes.length (HO.out.held (some ⟨nb, 0, none⟩, u64s (wvF U64 I G.nodes).1) (by simp)) (ga := ga) (gs := []) 0 gc rfl (HO.out.held (ga, u64s []) (by simp)) (oa := ta) (os := []) 0 tc rfl (HO.out.held (ta, bools []) (by simp)) false (fun h => by cases h)
              have HCO := Lib.hid hco; clear hco
              go_wp2_with fail
              refine HCO.out.mono ?_
              rintro e w13 ⟨rfl, hc13⟩
              have ho := HO.out.same hc13
              clear hc13 HCO cx0 cx1
              clear HO; have HO := Lib.hid ho; clear ho
              go_wp2_with fail
              refine (EQu64_h HO.out (a := za) (b := xa) (xs := I) (ys := I) (ca := zc) (cb := xc) (by simp) (HX.out.sv.ch HO.out.own.ch (by simp)) HXL.out HXL.out (decide_eq_true rfl)).mono ?_
              rintro e w14 ⟨rfl, ho⟩
              clear HO; have HO := Lib.hid ho; clear ho
              have hef := EFref_yes (w := w14) (a := oa) (b := ra) (xs := R) (ys := R) j oc rc 50 HRL.out HRL.out (by omega) (HSL.out _ _ HO.out (by simp)) (HRR.out.sl.ch HO.out.own.ch (by simp)) (fun i x y hx hy => by rw [hx] at hy; cases hy; exact words21_1_is x) fnvwords21_1
              have HEF := Lib.hid hef; clear hef
              go_wp2_with fail
              refine HEF.out.mono ?_
              rintro e w' ⟨rfl, rfl⟩
              go_wp2_with fail
              go_ret
              exact ⟨rfl, HO.out.own.ch⟩
          · have emk : ((m : Int) == (k : Int)) = false := by rw [beq_eq_false_iff_ne]; omega
            have hmI : I.length ≠ (inputs G.nodes).length := by rw [HXL.out, HIL.out]; exact hmk
            have hmB : B.length ≠ (inputs G.nodes).length := by rw [HBL.out, HIL.out]; exact hmk
            cases bad
            · have hbad := HBAD.out
              have nR : nodesR G I = ([], 210) := by unfold nodesR; rw [if_pos hmI]
              have wR : wordsR G I R = ([], 210) := by unfold wordsR; rw [hbad, if_neg (by simp), if_pos hmI]
              have bR : bitsR G B R = ([], 210) := by unfold bitsR; rw [hbad, if_neg (by simp), if_pos hmB]
              have sR : suppR G R = (suppL G.nodes (nats R) k, 0) := by unfold suppR; rw [hbad, HIL.out]; rfl
              obtain ⟨hbn1, hbn2⟩ := badIn_no hbad
              have hsl := suppL_len G.nodes (nats R) k
              obtain ⟨sn, hsn⟩ : ∃ sn, (suppL G.nodes (nats R) k).length = sn := ⟨_, rfl⟩
              rw [hsn] at hsl
              have HBN1 := Lib.hid hbn1; clear hbn1
              have HBN2 := Lib.hid hbn2; clear hbn2
              have HSN := Lib.hid hsn; clear hsn
              have WR := Lib.hid wR; clear wR
              have BR := Lib.hid bR; clear bR
              have SR := Lib.hid sR; clear sR
              have hND := simNodes_is HO.out.own.gin (xa := za) (ins := I) m zc HXL.out (HO.out.held (za, u64s I) (by simp)) HILT.out hzcap.1 hzcap.2 (by omega)
              rw [nR] at hND
              have HND := Lib.hid hND; clear hND nR hbad hmI hmB hmk
              go_wp2_with fail
              refine HND.out.mono ?_
              rintro e w7 ⟨v, rfl, hv1, hv2, hc7⟩
              have hv := hv2 (by decide)
              subst hv
              have ho := HO.out.same hc7
              clear hv1 hv2 hc7 HND
              clear HO; have HO := Lib.hid ho; clear ho
              go_wp2_with fail
              refine (simWords_h HO.out (xa := za) (ins := I) (by simp) HXL.out HILT.out hzcap.1 hzcap.2 (a := oa) (l := R) (n := j) (c := oc) HRL.out (HSL.out _ _ HO.out (by simp)) HRB.out (by omega) WR.out (k := 0) rfl (by omega)).mono ?_
              rintro e w8 ⟨ga, gc, rfl, ho⟩
              clear HO; have HO := Lib.hid ho; clear ho
              go_wp2_with fail
              refine (simBits_h HO.out (xa := ba) (ins := B) (m := m) (by simp) HBL.out (by omega) (a := oa) (l := R) (n := j) (c := oc) HRL.out (HSL.out _ _ HO.out (by simp)) HRB.out (by omega) BR.out (k := 0) rfl (by omega)).mono ?_
              rintro e w9 ⟨ta, tc, rfl, ho⟩
              clear HO; have HO := Lib.hid ho; clear ho
              go_wp2_with fail
              refine (simSupport_h HO.out (a := oa) (l := R) (n := j) (c := oc) HRL.out (HSL.out _ _ HO.out (by simp)) (HHL.out _ _ HO.out (by simp)) HRB.out SR.out (k := sn) HSN.out (by omega)).mono ?_
              rintro e w10 ⟨ya, yc, rfl, ho⟩
              clear HO; have HO := Lib.hid ho; clear ho
              have cx0 := HO.out.cellT (b := bx) (xs := [.int .i64 G.most, .slice (some ⟨rb, 0, none⟩) G.nodes.length rcap]) (by simp) (i := 0) rfl
              have cx1 := HO.out.cellT (b := bx) (xs := [.int .i64 G.most, .slice (some ⟨rb, 0, none⟩) G.nodes.length rcap]) (by simp) (i := 1) rfl
              have hsp := r21Support_is (RG.held (HO.out.held (some ⟨rb, 0, none⟩, rCells G.nodes) (by simp)) hgle hgmx HOK.out) (a := ra) (l := nats R) j rc (by unfold nats; rw [List.length_map]; exact HRL.out) (by rw [show natInts (nats R) = R from HBN1.out]; exact HRR.out.sl.ch HO.out.own.ch (by simp)) HBN2.out (by omega)
              rw [HIL.out, HSN.out] at hsp
              have HSP := Lib.hid hsp; clear hsp
              go_wp2_with fail
              refine HSP.out.mono ?_
              rintro e w11 ⟨v, rfl, hrow, _, hc11⟩
              obtain ⟨qa, qc, rfl⟩ := row.shape hrow
              have ho := (HO.out.same hc11).add (row.sv hrow rfl (by omega))
              clear hrow hc11 HSP cx0 cx1
              clear HO; have HO := Lib.hid ho; clear ho
              go_wp2_with fail
              refine (Eqint_h HO.out (a := ya) (b := qa) (ca := yc) (cb := qc) (xs := natInts (suppL G.nodes (nats R) k)) (ys := natInts (suppL G.nodes (nats R) k)) (HO.out.slT (by simp)) (HO.out.slT (List.mem_cons_self ..)) (by rw [natInts_len]; exact HSN.out) (by rw [natInts_len]; exact HSN.out) (decide_eq_true rfl)).mono ?_
              rintro e w12 ⟨rfl, ho⟩
              clear HO; have HO := Lib.hid ho; clear ho
              go_wp2_with fail
              refine (EQu64_h HO.out (a := za) (b := xa) (xs := I) (ys := I) (ca := zc) (cb := xc) (by simp) (HX.out.sv.ch HO.out.own.ch (by simp)) HXL.out HXL.out (decide_eq_true rfl)).mono ?_
              rintro e w14 ⟨rfl, ho⟩
              clear HO; have HO := Lib.hid ho; clear ho
              have hef := EFref_yes (w := w14) (a := oa) (b := ra) (xs := R) (ys := R) j oc rc 50 HRL.out HRL.out (by omega) (HSL.out _ _ HO.out (by simp)) (HRR.out.sl.ch HO.out.own.ch (by simp)) (fun i x y hx hy => by rw [hx] at hy; cases hy; exact words21_1_is x) fnvwords21_1
              have HEF := Lib.hid hef; clear hef
              go_wp2_with fail
              refine HEF.out.mono ?_
              rintro e w' ⟨rfl, rfl⟩
              go_wp2_with fail
              go_ret
              exact ⟨rfl, HO.out.own.ch⟩
            · have hbad := HBAD.out
              have nR : nodesR G I = ([], 210) := by unfold nodesR; rw [if_pos hmI]
              have wR : wordsR G I R = ([], 200) := by unfold wordsR; rw [hbad]; rfl
              have bR : bitsR G B R = ([], 200) := by unfold bitsR; rw [hbad]; rfl
              have sR : suppR G R = ([], 200) := by unfold suppR; rw [hbad]; rfl
              have WR := Lib.hid wR; clear wR
              have BR := Lib.hid bR; clear bR
              have SR := Lib.hid sR; clear sR
              have hND := simNodes_is HO.out.own.gin (xa := za) (ins := I) m zc HXL.out (HO.out.held (za, u64s I) (by simp)) HILT.out hzcap.1 hzcap.2 (by omega)
              rw [nR] at hND
              have HND := Lib.hid hND; clear hND nR hbad hmI hmB hmk
              go_wp2_with fail
              refine HND.out.mono ?_
              rintro e w7 ⟨v, rfl, hv1, hv2, hc7⟩
              have hv := hv2 (by decide)
              subst hv
              have ho := HO.out.same hc7
              clear hv1 hv2 hc7 HND
              clear HO; have HO := Lib.hid ho; clear ho
              go_wp2_with fail
              refine (simWords_h HO.out (xa := za) (ins := I) (by simp) HXL.out HILT.out hzcap.1 hzcap.2 (a := oa) (l := R) (n := j) (c := oc) HRL.out (HSL.out _ _ HO.out (by simp)) HRB.out (by omega) WR.out (k := 0) rfl (by omega)).mono ?_
              rintro e w8 ⟨ga, gc, rfl, ho⟩
              clear HO; have HO := Lib.hid ho; clear ho
              go_wp2_with fail
              refine (simBits_h HO.out (xa := ba) (ins := B) (m := m) (by simp) HBL.out (by omega) (a := oa) (l := R) (n := j) (c := oc) HRL.out (HSL.out _ _ HO.out (by simp)) HRB.out (by omega) BR.out (k := 0) rfl (by omega)).mono ?_
              rintro e w9 ⟨ta, tc, rfl, ho⟩
              clear HO; have HO := Lib.hid ho; clear ho
              go_wp2_with fail
              refine (simSupport_h HO.out (a := oa) (l := R) (n := j) (c := oc) HRL.out (HSL.out _ _ HO.out (by simp)) (HHL.out _ _ HO.out (by simp)) HRB.out SR.out (k := 0) rfl (by omega)).mono ?_
              rintro e w10 ⟨ya, yc, rfl, ho⟩
              clear HO; have HO := Lib.hid ho; clear ho
              go_wp2_with fail
              refine (EQu64_h HO.out (a := za) (b := xa) (xs := I) (ys := I) (ca := zc) (cb := xc) (by simp) (HX.out.sv.ch HO.out.own.ch (by simp)) HXL.out HXL.out (decide_eq_true rfl)).mono ?_
              rintro e w14 ⟨rfl, ho⟩
              clear HO; have HO := Lib.hid ho; clear ho
              have hef := EFref_yes (w := w14) (a := oa) (b := ra) (xs := R) (ys := R) j oc rc 50 HRL.out HRL.out (by omega) (HSL.out _ _ HO.out (by simp)) (HRR.out.sl.ch HO.out.own.ch (by simp)) (fun i x y hx hy => by rw [hx] at hy; cases hy; exact words21_1_is x) fnvwords21_1
              have HEF := Lib.hid hef; clear hef
              go_wp2_with fail
              refine HEF.out.mono ?_
              rintro e w' ⟨rfl, rfl⟩
              go_wp2_with fail
              go_ret
              exact ⟨rfl, HO.out.own.ch⟩
end
end Go.Proofs.Ytdmmanfjafempaa
namespace Go.Proofs.Ytdmmanfjafempaa
open Go.RowKit Go.Mem Go.Aig
theorem eqSliceNilN (w : World) (a : Option Addr) (n c : Nat) : (binOp .eql 24 (.slice a n c) (.slice none 0 0)).run Try.prog w = .ok (.bool a.isNone) w := by
  have h : Try.prog.underlying 24 = some (.slice 23) := Try.underlying24
  simp only [binOp]
  simp [run_equal_slice_nil w _ _ a n c h]
attribute [local go_sem] eqSliceNilN
abbrev I64 (x : Int) : Prop := -9223372036854775808 ≤ x ∧ x ≤ 9223372036854775807
theorem NodeS.of_blk {w : World} {b n : Nat} {l : List N21} (h : blk w b (n21Cells l)) (hl : l.length = n) (hn : n ≤ 1000000) (hb : ∀ x ∈ l, I64 x.l ∧ I64 x.r) : NodeS w (some ⟨b, 0, none⟩) n n l :=
  ⟨hl, Nat.le_refl _, by omega, fun i x hx => by
    obtain ⟨t0, t1, t2⟩ := n21_at hx
    exact ⟨b, 0, rfl, by simpa using h.cell t0, by simpa using h.cell t1, by simpa using h.cell t2⟩, hb⟩
theorem n21Cells_len (l : List N21) : (n21Cells l).length = l.length * 3 := by
  induction l with
  | nil => rfl
  | cons x l ih => rw [show n21Cells (x :: l) = [.bool x.inp, .int .i64 x.l, .int .i64 x.r] ++ n21Cells l by simp [n21Cells], List.length_append, ih]; simp; omega
theorem NodeS.of_row {w : World} {b n c : Nat} {l : List N21} (h : row w 23 3 (.slice (some ⟨b, 0, none⟩) n c) n (n21Cells l)) (hb : ∀ x ∈ l, I64 x.l ∧ I64 x.r) : NodeS w (some ⟨b, 0, none⟩) n c l := by
  have hl : l.length = n := by have := h.1; rw [n21Cells_len] at this; omega
  have hc : n ≤ c ∧ c ≤ 9223372036854775807 := by
    rcases h.2 with ⟨e, _⟩ | ⟨g, cap, cur, e, _, _, h1, h2, _⟩
    · cases e
    · cases e; unfold maxLen at h2; exact ⟨h1, h2⟩
  refine ⟨hl, hc.1, hc.2, fun i x hx => ?_, hb⟩
  obtain ⟨t0, t1, t2⟩ := n21_at hx
  exact ⟨b, 0, rfl, by simpa using row_cell h t0, by simpa using row_cell h t1, by simpa using row_cell h t2⟩
theorem NodeS.take {w : World} {a : Option Addr} {n c m : Nat} {l : List N21} (h : NodeS w a n c l) (hm : m ≤ n) : NodeS w a m c (l.take m) :=
  ⟨by rw [List.length_take, h.len]; omega, by have := h.le; omega, h.max, fun i x hx => by
    by_cases hi : i < m
    · rw [List.getElem?_take_of_lt hi] at hx
      exact h.cells i x hx
    · rw [List.getElem?_eq_none (by rw [List.length_take]; omega)] at hx
      exact absurd hx (by simp), fun x hx => h.bd x (List.mem_of_mem_take hx)⟩
theorem IntS.of_blk {w : World} {b n : Nat} {l : List Int} (h : blk w b (l.map fun z => .int .i64 z)) (hl : l.length = n) (hn : n ≤ 1000000) (hb : ∀ z ∈ l, I64 z) : IntS w (some ⟨b, 0, none⟩) n n l :=
  ⟨⟨fun i x hx => ⟨b, 0, rfl, by simpa using h.cell (i := i) (v := .int .i64 x) (by simp [hx])⟩, by omega⟩, hl, hb, Nat.le_refl _, by omega⟩
theorem NumS.of_blk {w : World} {b n : Nat} {l : List Nat} (h : blk w b (l.map fun z => .int .u64 (z : Nat))) (hl : l.length = n) (hn : n ≤ 1000000) (hb : ∀ z ∈ l, z < 2 ^ 64) : NumS .u64 64 w (some ⟨b, 0, none⟩) n n l :=
  ⟨⟨fun i x hx => ⟨b, 0, rfl, by simpa using h.cell (i := i) hx⟩, by simp; omega⟩, hl, hb, Nat.le_refl _, by omega⟩
theorem NumS.nil (w : World) : NumS .u64 64 w none 0 0 [] := ⟨⟨by simp, by simp⟩, rfl, by simp, Nat.le_refl _, by omega⟩
set_option maxRecDepth 100000 in
set_option maxHeartbeats 1000000 in
theorem CLnode21_is {w : World} {a : Option Addr} {n c : Nat} {L : List N21} (h : row w 23 3 (.slice a n c) n (n21Cells L)) (hm : n ≤ 1000000) :
    Calls Try.prog 10 #[.slice a n c] w fun e w' => ∃ v, e = .returned v ∧ row w' 23 3 v n (n21Cells L) ∧ (∀ q ∈ v.ownBlock.toList, w.heap.size ≤ q) ∧ Ch [] w w' := by
  have hlen : (n21Cells L).length = n * 3 := h.1
  cases a with
  | none =>
    have hl : n = 0 := by
      cases n with
      | zero => rfl
      | succ n =>
        obtain ⟨g, cap, e⟩ := h.parts (by omega)
        cases e
    subst hl
    have hL : n21Cells L = [] := List.length_eq_zero_iff.1 (by omega)
    rw [hL]
    clear h hlen hL
    go_enter Try.func10, Try.ntmps10
    go_wp2_with fail
    go_ret
    exact ⟨_, rfl, ⟨rfl, .inl ⟨rfl, rfl⟩⟩, by simp, Ch.refl _ _⟩
  | some p =>
    obtain ⟨b, rfl⟩ : ∃ b, p = ⟨b, 0, none⟩ := by
      rcases h.2 with ⟨e, _⟩ | ⟨g, cap, cur, e, _⟩
      · cases e
      · cases e; exact ⟨_, rfl⟩
    have hO : row (w.alloc (.cells #[] 23)) 23 3 (.slice (some ⟨w.heap.size, 0, none⟩) 0 0) 0 [] := ⟨rfl, .inr ⟨w.heap.size, 0, #[], rfl, by omega, heap_alloc_new w _, by omega, by unfold maxLen; omega, rfl, rfl⟩⟩
    have hN : ∀ j u, (n21Cells L)[j]? = some u → (w.alloc (.cells #[] 23)).cell? ((⟨b, 0, none⟩ : Addr).add j) = some u := fun j u hu => by
      have hc := row_cell h hu
      rw [Addr.add_lit, Nat.zero_add]
      exact (((Ch.refl [] w).alloc _).cell (cell_lt hc) (by simp)).trans hc
    have h1 : ∀ u ∈ n21Cells L, u.oneCell' = true := fun u hu => by
      obtain ⟨x, _, hx⟩ := List.mem_flatMap.1 hu
      simp only [List.mem_cons, List.not_mem_nil, or_false] at hx
      rcases hx with rfl | rfl | rfl <;> rfl
    have HO := Lib.hid hO; clear hO
    have HN := Lib.hid hN; clear hN h
    have H1 := Lib.hid h1; clear h1
    have HLEN := Lib.hid hlen; clear hlen
    go_enter Try.func10, Try.ntmps10
    go_wp2_with (at_builtin; go_loud (refine wpList_append_row slNodes21 rfl _ _ rfl (v := .slice (some ⟨w.heap.size, 0, none⟩) 0 0) (n := 0) (xs := []) rfl HO.out (ad := ⟨b, 0, none⟩) (m := n) (c := c) (news := n21Cells L) rfl HLEN.out HN.out H1.out (by omega) (by omega) ?_; intro v' w2 hown hC2 hfresh; have HOWN := Lib.hid hown; clear hown; have HC2 := Lib.hid hC2; clear hC2; have HFR := Lib.hid hfresh; clear hfresh))
    go_ret
    have hown := HOWN.out
    rw [Nat.zero_add, List.nil_append] at hown
    refine ⟨_, rfl, hown, fun k hk => ?_, (((Ch.refl [] w).alloc (.cells #[] 23))).trans HC2.out (by simp)⟩
    rcases HFR.out k (by simpa using hk) with e | e
    · simp at e; omega
    · simp at e; omega
end Go.Proofs.Ytdmmanfjafempaa
