/-
  Walks over the reference of chapter 27: Rising, Lit, Ref. Conditions: a slice of ints that can be read.
  Walks over the reference of chapter 27: Lit, Ref. Conditions: a slice of ints that can be read.
  Walk over the reference of chapter 27: Ref. Conditions: a slice of ints that can be read.
  Walk over law 27's refs: Lit and Ref beside the reference's. Conditions: a map that can be read, two integers.
  Walks over slices.Clone of ints and over law 27's reads. Conditions: a slice of at most sixty nodes, a map and values of at most seventy each.
  Walk over the reference of chapter 27: Map. Conditions: the reference's graph in memory, references of it.
  Parts of the walk over the reference of chapter 27's Encode: clauses while they are put together. Conditions: none beyond the hypotheses.
  Walk over the reference of chapter 27: Encode. Conditions: the reference's graph in memory, any references, any number.
  Walks over EqualFunc of two slices that agree, over same of chapter 21's laws. Conditions: slices that can be read.
  Plainly: the clauses that Encode writes are right. Conditions: a map of a graph.
  Walk over law 27's writes, and over TseitinWrites: true, whatever comes in. Conditions: a slice of nodes of any integers, a slice of ints, three ints.
-/
import Derived.Test.YtkedpifopclipaaQC
namespace Go.Aig
theorem rising_snoc {l : List Int} {x : Int} (h : rising l = true) (hx : 0 < x ∧ x < 65536) (hl : ∀ k y, k + 1 = l.length → l[k]? = some y → y < x) : rising (l ++ [x]) = true := by
  obtain ⟨h1, h2⟩ := (rising_iff l).1 h
  rw [rising_iff]
  refine ⟨fun n hn => ?_, ?_⟩
  · rcases List.mem_append.1 hn with h | h
    · exact h1 n h
    · simp at h; subst h; exact hx
  · rw [List.pairwise_append]
    refine ⟨h2, by simp, fun y hy z hz => ?_⟩
    simp at hz
    subst hz
    obtain ⟨i, hi, rfl⟩ := List.getElem_of_mem hy
    have hk : l.length - 1 < l.length := by omega
    have h3 := hl (l.length - 1) l[l.length - 1] (by omega) (List.getElem?_eq_getElem hk)
    by_cases e : i = l.length - 1
    · subst e; exact h3
    · have h4 := (List.pairwise_iff_getElem.1 h2) i (l.length - 1) hi hk (by omega)
      omega
theorem rising_not {m : List Int} {k : Nat} {x : Int} (hx : m[k]? = some x) (h : x < 1 ∨ 65535 < x) : rising m = false := by
  rw [← Bool.not_eq_true]
  intro h2
  have := ((rising_iff m).1 h2).1 x (List.mem_of_getElem? hx)
  omega
theorem rising_not2 {m : List Int} {k : Nat} {x y : Int} (hy : m[k]? = some y) (hx : m[k + 1]? = some x) (h : x ≤ y) : rising m = false := by
  rw [← Bool.not_eq_true]
  intro h2
  have h3 := ((rising_iff m).1 h2).2
  obtain ⟨h4, e4⟩ := List.getElem?_eq_some_iff.1 hy
  obtain ⟨h5, e5⟩ := List.getElem?_eq_some_iff.1 hx
  have := (List.pairwise_iff_getElem.1 h3) k (k + 1) h4 h5 (by omega)
  omega
end Go.Aig
namespace Go.Proofs.Ytkedpifopclipaa
open Go.RowKit Go.Mem Go.Aig
set_option maxRecDepth 100000 in
set_option maxHeartbeats 4000000 in
theorem r27Rising_is {w : World} {a : Option Addr} {m : List Int} (n c : Nat) (hn : m.length = n) (hnl : n ≤ 1000000) (hS : Sl w a m) : Calls Try.prog 167 #[.slice a n c] w fun e w' => e = .returned (.bool (rising m)) ∧ Ch [] w w' := by
  have HS := Lib.hid hS; clear hS
  have HN := Lib.hid hn; clear hn
  go_enter Try.func167, Try.ntmps167
  go_wp2_with fail
  go_loopw [3] (fun i wr => ∃ k : Nat, k ≤ n ∧ i = .int .i64 k ∧ Ch [] w wr ∧ rising (m.take k) = true) (fun i _ => n - (intOf i).toNat)
  case atStart => exact ⟨0, by omega, rfl, Ch.refl _ _, by simp [rising, risingF]⟩
  case round =>
    obtain ⟨k, hk, rfl, hc, hr⟩ := hrel
    have HSW := Lib.hid (HS.out.ch hc (by simp))
    have HC := Lib.hid hc; clear hc
    by_cases hlt : k < n
    · obtain ⟨x, hx⟩ : ∃ x, m[k]? = some x := ⟨_, List.getElem?_eq_getElem (by have := HN.out; omega)⟩
      obtain ⟨xb, xo, rfl, hcl⟩ := HSW.out.cells k x hx
      have hts : m.take (k + 1) = m.take k ++ [x] := by rw [List.take_add_one, hx]; rfl
      have HX := Lib.hid hx; clear hx
      have HT := Lib.hid hts; clear hts
      have HR := Lib.hid hr; clear hr
      by_cases h1 : x < 1
      · have d1 : decide (x < 1) = true := decide_eq_true h1
        go_wp2_with fail
        refine Ord.St.door (fun _ => True) [.fl, .fl, .fl, .rd, .fl, .fl, .fl, .fl, .fl, .rd, .fl, .fl, .fl, .fl, .fl, .fl, .fl, .fl, .fl, .rd, .fl, .fl, .fl, .fl, .rd, .fl, .fl, .fl] [0, 0, 3, 7, 15, 31, 63, 63, 255, 511, 1023, 2047, 4095, 8191, 16383, 32767, 65535, 65535, 262143, 524287, 65535, 65535, 2162687, 7405567, 15794175, 33554431, 67108863, 134217727] [0, 1, 2, 3, 4, 5, 6, 7, 8, 9, 10, 11, 12, 13, 14, 15, 16, 17, 18, 19, 20, 21, 22, 23, 24, 25, 26, 27] mixed (by kernel_rfl) rfl ?_
        refine Ord.St.fl2 (T' := ?_) 0 [1, 2, 3, 4, 5, 6, 7, 8, 9, 10, 11, 12, 13, 14, 15, 16, 17, 18, 19, 20, 21, 22, 23, 24, 25, 26, 27] _ _ rfl (by kernel_rfl) rfl rfl rfl rfl (fun K w' hk => ?_) ?_
        rotate_left
        · go_step; exact hk
        refine Ord.St.fl2 (T' := ?_) 1 [2, 3, 4, 5, 6, 7, 8, 9, 10, 11, 12, 13, 14, 15, 16, 17, 18, 19, 20, 21, 22, 23, 24, 25, 26, 27] _ _ rfl (by kernel_rfl) rfl rfl rfl rfl (fun K w' hk => ?_) ?_
        rotate_left
        · go_step; exact hk
        refine Ord.St.fl2 (T' := ?_) 2 [3, 4, 5, 6, 7, 8, 9, 10, 11, 12, 13, 14, 15, 16, 17, 18, 19, 20, 21, 22, 23, 24, 25, 26, 27] _ _ rfl (by kernel_rfl) rfl rfl rfl rfl (fun K w' hk => ?_) ?_
        rotate_left
        · go_step; exact hk
        refine Ord.St.rd2 (T' := ?_) 3 [4, 5, 6, 7, 8, 9, 10, 11, 12, 13, 14, 15, 16, 17, 18, 19, 20, 21, 22, 23, 24, 25, 26, 27] _ _ rfl (by kernel_rfl) rfl rfl rfl rfl (fun K hk => ?_) ?_
        rotate_left
        · go_step; exact hk
        refine Ord.St.fl2 (T' := ?_) 4 [5, 6, 7, 8, 9, 10, 11, 12, 13, 14, 15, 16, 17, 18, 19, 20, 21, 22, 23, 24, 25, 26, 27] _ _ rfl (by kernel_rfl) rfl rfl rfl rfl (fun K w' hk => ?_) ?_
        rotate_left
        · go_step; exact hk
        refine Ord.St.fl2 (T' := ?_) 5 [6, 7, 8, 9, 10, 11, 12, 13, 14, 15, 16, 17, 18, 19, 20, 21, 22, 23, 24, 25, 26, 27] _ _ rfl (by kernel_rfl) rfl rfl rfl rfl (fun K w' hk => ?_) ?_
        rotate_left
        · go_step; exact hk
        first | (refine Ord.St.fl2 (T' := ?_) 6 [7, 8, 9, 10, 11, 12, 13, 14, 15, 16, 17, 18, 19, 20, 21, 22, 23, 24, 25, 26, 27] _ _ rfl (by kernel_rfl) ?_ rfl rfl rfl (fun K w' hk => ?_) ?_; rotate_left; (first | rfl | (simp [Region.wanted, yielded, *]; done)); focus (go_step; exact hk)) | (refine Ord.St.skip 6 [7, 8, 9, 10, 11, 12, 13, 14, 15, 16, 17, 18, 19, 20, 21, 22, 23, 24, 25, 26, 27] _ rfl (by kernel_rfl) ?_ (fun K hK => ?_); (first | rfl | (simp [Region.wanted, yielded, *]; done)); go_simp; refine hK _ ?_; clear hK K)
        first | (refine Ord.St.fl2 (T' := ?_) 7 [8, 9, 10, 11, 12, 13, 14, 15, 16, 17, 18, 19, 20, 21, 22, 23, 24, 25, 26, 27] _ _ rfl (by kernel_rfl) ?_ rfl rfl rfl (fun K w' hk => ?_) ?_; rotate_left; (first | rfl | (simp [Region.wanted, yielded, *]; done)); focus (go_step; exact hk)) | (refine Ord.St.skip 7 [8, 9, 10, 11, 12, 13, 14, 15, 16, 17, 18, 19, 20, 21, 22, 23, 24, 25, 26, 27] _ rfl (by kernel_rfl) ?_ (fun K hK => ?_); (first | rfl | (simp [Region.wanted, yielded, *]; done)); go_simp; refine hK _ ?_; clear hK K)
        first | (refine Ord.St.fl2 (T' := ?_) 8 [9, 10, 11, 12, 13, 14, 15, 16, 17, 18, 19, 20, 21, 22, 23, 24, 25, 26, 27] _ _ rfl (by kernel_rfl) ?_ rfl rfl rfl (fun K w' hk => ?_) ?_; rotate_left; (first | rfl | (simp [Region.wanted, yielded, *]; done)); focus (go_step; exact hk)) | (refine Ord.St.skip 8 [9, 10, 11, 12, 13, 14, 15, 16, 17, 18, 19, 20, 21, 22, 23, 24, 25, 26, 27] _ rfl (by kernel_rfl) ?_ (fun K hK => ?_); (first | rfl | (simp [Region.wanted, yielded, *]; done)); go_simp; refine hK _ ?_; clear hK K)
        first | (refine Ord.St.rd2 (T' := ?_) 9 [10, 11, 12, 13, 14, 15, 16, 17, 18, 19, 20, 21, 22, 23, 24, 25, 26, 27] _ _ rfl (by kernel_rfl) ?_ rfl rfl rfl (fun K hk => ?_) ?_; rotate_left; (first | rfl | (simp [Region.wanted, yielded, *]; done)); focus (go_step; exact hk)) | (refine Ord.St.skipr 9 [10, 11, 12, 13, 14, 15, 16, 17, 18, 19, 20, 21, 22, 23, 24, 25, 26, 27] _ rfl (by kernel_rfl) ?_ (fun K hK => ?_); (first | rfl | (simp [Region.wanted, yielded, *]; done)); go_simp; refine hK _ ?_; clear hK K)
        first | (refine Ord.St.fl2 (T' := ?_) 10 [11, 12, 13, 14, 15, 16, 17, 18, 19, 20, 21, 22, 23, 24, 25, 26, 27] _ _ rfl (by kernel_rfl) ?_ rfl rfl rfl (fun K w' hk => ?_) ?_; rotate_left; (first | rfl | (simp [Region.wanted, yielded, *]; done)); focus (go_step; exact hk)) | (refine Ord.St.skip 10 [11, 12, 13, 14, 15, 16, 17, 18, 19, 20, 21, 22, 23, 24, 25, 26, 27] _ rfl (by kernel_rfl) ?_ (fun K hK => ?_); (first | rfl | (simp [Region.wanted, yielded, *]; done)); go_simp; refine hK _ ?_; clear hK K)
        refine Ord.St.fl2 (T' := ?_) 11 [12, 13, 14, 15, 16, 17, 18, 19, 20, 21, 22, 23, 24, 25, 26, 27] _ _ rfl (by kernel_rfl) rfl rfl rfl rfl (fun K w' hk => ?_) ?_
        rotate_left
        · go_step; exact hk
        refine Ord.St.fl2 (T' := ?_) 12 [13, 14, 15, 16, 17, 18, 19, 20, 21, 22, 23, 24, 25, 26, 27] _ _ rfl (by kernel_rfl) rfl rfl rfl rfl (fun K w' hk => ?_) ?_
        rotate_left
        · go_step; exact hk
        first | (refine Ord.St.fl2 (T' := ?_) 13 [14, 15, 16, 17, 18, 19, 20, 21, 22, 23, 24, 25, 26, 27] _ _ rfl (by kernel_rfl) ?_ rfl rfl rfl (fun K w' hk => ?_) ?_; rotate_left; (first | rfl | (simp [Region.wanted, yielded, *]; done)); focus (go_step; exact hk)) | (refine Ord.St.skip 13 [14, 15, 16, 17, 18, 19, 20, 21, 22, 23, 24, 25, 26, 27] _ rfl (by kernel_rfl) ?_ (fun K hK => ?_); (first | rfl | (simp [Region.wanted, yielded, *]; done)); go_simp; refine hK _ ?_; clear hK K)
        first | (refine Ord.St.fl2 (T' := ?_) 14 [15, 16, 17, 18, 19, 20, 21, 22, 23, 24, 25, 26, 27] _ _ rfl (by kernel_rfl) ?_ rfl rfl rfl (fun K w' hk => ?_) ?_; rotate_left; (first | rfl | (simp [Region.wanted, yielded, *]; done)); focus (go_step; exact hk)) | (refine Ord.St.skip 14 [15, 16, 17, 18, 19, 20, 21, 22, 23, 24, 25, 26, 27] _ rfl (by kernel_rfl) ?_ (fun K hK => ?_); (first | rfl | (simp [Region.wanted, yielded, *]; done)); go_simp; refine hK _ ?_; clear hK K)
        first | (refine Ord.St.fl2 (T' := ?_) 15 [16, 17, 18, 19, 20, 21, 22, 23, 24, 25, 26, 27] _ _ rfl (by kernel_rfl) ?_ rfl rfl rfl (fun K w' hk => ?_) ?_; rotate_left; (first | rfl | (simp [Region.wanted, yielded, *]; done)); focus (go_step; exact hk)) | (refine Ord.St.skip 15 [16, 17, 18, 19, 20, 21, 22, 23, 24, 25, 26, 27] _ rfl (by kernel_rfl) ?_ (fun K hK => ?_); (first | rfl | (simp [Region.wanted, yielded, *]; done)); go_simp; refine hK _ ?_; clear hK K)
        first | (refine Ord.St.fl2 (T' := ?_) 16 [17, 18, 19, 20, 21, 22, 23, 24, 25, 26, 27] _ _ rfl (by kernel_rfl) ?_ rfl rfl rfl (fun K w' hk => ?_) ?_; rotate_left; (first | rfl | (simp [Region.wanted, yielded, *]; done)); focus (go_step; exact hk)) | (refine Ord.St.skip 16 [17, 18, 19, 20, 21, 22, 23, 24, 25, 26, 27] _ rfl (by kernel_rfl) ?_ (fun K hK => ?_); (first | rfl | (simp [Region.wanted, yielded, *]; done)); go_simp; refine hK _ ?_; clear hK K)
        first | (refine Ord.St.fl2 (T' := ?_) 17 [18, 19, 20, 21, 22, 23, 24, 25, 26, 27] _ _ rfl (by kernel_rfl) ?_ rfl rfl rfl (fun K w' hk => ?_) ?_; rotate_left; (first | rfl | (simp [Region.wanted, yielded, *]; done)); focus (go_step; exact hk)) | (refine Ord.St.skip 17 [18, 19, 20, 21, 22, 23, 24, 25, 26, 27] _ rfl (by kernel_rfl) ?_ (fun K hK => ?_); (first | rfl | (simp [Region.wanted, yielded, *]; done)); go_simp; refine hK _ ?_; clear hK K)
        first | (refine Ord.St.fl2 (T' := ?_) 18 [19, 20, 21, 22, 23, 24, 25, 26, 27] _ _ rfl (by kernel_rfl) ?_ rfl rfl rfl (fun K w' hk => ?_) ?_; rotate_left; (first | rfl | (simp [Region.wanted, yielded, *]; done)); focus (go_step; exact hk)) | (refine Ord.St.skip 18 [19, 20, 21, 22, 23, 24, 25, 26, 27] _ rfl (by kernel_rfl) ?_ (fun K hK => ?_); (first | rfl | (simp [Region.wanted, yielded, *]; done)); go_simp; refine hK _ ?_; clear hK K)
        first | (refine Ord.St.rd2 (T' := ?_) 19 [20, 21, 22, 23, 24, 25, 26, 27] _ _ rfl (by kernel_rfl) ?_ rfl rfl rfl (fun K hk => ?_) ?_; rotate_left; (first | rfl | (simp [Region.wanted, yielded, *]; done)); focus (go_step; exact hk)) | (refine Ord.St.skipr 19 [20, 21, 22, 23, 24, 25, 26, 27] _ rfl (by kernel_rfl) ?_ (fun K hK => ?_); (first | rfl | (simp [Region.wanted, yielded, *]; done)); go_simp; refine hK _ ?_; clear hK K)
        first | (refine Ord.St.fl2 (T' := ?_) 20 [21, 22, 23, 24, 25, 26, 27] _ _ rfl (by kernel_rfl) ?_ rfl rfl rfl (fun K w' hk => ?_) ?_; rotate_left; (first | rfl | (simp [Region.wanted, yielded, *]; done)); focus (go_step; exact hk)) | (refine Ord.St.skip 20 [21, 22, 23, 24, 25, 26, 27] _ rfl (by kernel_rfl) ?_ (fun K hK => ?_); (first | rfl | (simp [Region.wanted, yielded, *]; done)); go_simp; refine hK _ ?_; clear hK K)
        first | (refine Ord.St.fl2 (T' := ?_) 21 [22, 23, 24, 25, 26, 27] _ _ rfl (by kernel_rfl) ?_ rfl rfl rfl (fun K w' hk => ?_) ?_; rotate_left; (first | rfl | (simp [Region.wanted, yielded, *]; done)); focus (go_step; exact hk)) | (refine Ord.St.skip 21 [22, 23, 24, 25, 26, 27] _ rfl (by kernel_rfl) ?_ (fun K hK => ?_); (first | rfl | (simp [Region.wanted, yielded, *]; done)); go_simp; refine hK _ ?_; clear hK K)
        first | (refine Ord.St.fl2 (T' := ?_) 22 [23, 24, 25, 26, 27] _ _ rfl (by kernel_rfl) ?_ rfl rfl rfl (fun K w' hk => ?_) ?_; rotate_left; (first | rfl | (simp [Region.wanted, yielded, *]; done)); focus (go_step; exact hk)) | (refine Ord.St.skip 22 [23, 24, 25, 26, 27] _ rfl (by kernel_rfl) ?_ (fun K hK => ?_); (first | rfl | (simp [Region.wanted, yielded, *]; done)); go_simp; refine hK _ ?_; clear hK K)
        first | (refine Ord.St.fl2 (T' := ?_) 23 [24, 25, 26, 27] _ _ rfl (by kernel_rfl) ?_ rfl rfl rfl (fun K w' hk => ?_) ?_; rotate_left; (first | rfl | (simp [Region.wanted, yielded, *]; done)); focus (go_step; exact hk)) | (refine Ord.St.skip 23 [24, 25, 26, 27] _ rfl (by kernel_rfl) ?_ (fun K hK => ?_); (first | rfl | (simp [Region.wanted, yielded, *]; done)); go_simp; refine hK _ ?_; clear hK K)
        first | (refine Ord.St.rd2 (T' := ?_) 24 [25, 26, 27] _ _ rfl (by kernel_rfl) ?_ rfl rfl rfl (fun K hk => ?_) ?_; rotate_left; (first | rfl | (simp [Region.wanted, yielded, *]; done)); focus (go_step; exact hk)) | (refine Ord.St.skipr 24 [25, 26, 27] _ rfl (by kernel_rfl) ?_ (fun K hK => ?_); (first | rfl | (simp [Region.wanted, yielded, *]; done)); go_simp; refine hK _ ?_; clear hK K)
        first | (refine Ord.St.fl2 (T' := ?_) 25 [26, 27] _ _ rfl (by kernel_rfl) ?_ rfl rfl rfl (fun K w' hk => ?_) ?_; rotate_left; (first | rfl | (simp [Region.wanted, yielded, *]; done)); focus (go_step; exact hk)) | (refine Ord.St.skip 25 [26, 27] _ rfl (by kernel_rfl) ?_ (fun K hK => ?_); (first | rfl | (simp [Region.wanted, yielded, *]; done)); go_simp; refine hK _ ?_; clear hK K)
        first | (refine Ord.St.fl2 (T' := ?_) 26 [27] _ _ rfl (by kernel_rfl) ?_ rfl rfl rfl (fun K w' hk => ?_) ?_; rotate_left; (first | rfl | (simp [Region.wanted, yielded, *]; done)); focus (go_step; exact hk)) | (refine Ord.St.skip 26 [27] _ rfl (by kernel_rfl) ?_ (fun K hK => ?_); (first | rfl | (simp [Region.wanted, yielded, *]; done)); go_simp; refine hK _ ?_; clear hK K)
        refine Ord.St.fl2 (T' := ?_) 27 [] _ _ rfl (by kernel_rfl) rfl rfl rfl rfl (fun K w' hk => ?_) ?_
        rotate_left
        · go_step; exact hk
        refine Ord.St.nil ?_
        go_wp2_with fail
        go_ret
        exact ⟨by rw [rising_not HX.out (.inl h1)]; rfl, HC.out.drew⟩
      · have d1 : decide (x < 1) = false := decide_eq_false h1
        by_cases h2 : 65535 < x
        · have d2 : decide (65535 < x) = true := decide_eq_true h2
          go_wp2_with fail
          refine Ord.St.door (fun _ => True) [.fl, .fl, .fl, .rd, .fl, .fl, .fl, .fl, .fl, .rd, .fl, .fl, .fl, .fl, .fl, .fl, .fl, .fl, .fl, .rd, .fl, .fl, .fl, .fl, .rd, .fl, .fl, .fl] [0, 0, 3, 7, 15, 31, 63, 63, 255, 511, 1023, 2047, 4095, 8191, 16383, 32767, 65535, 65535, 262143, 524287, 65535, 65535, 2162687, 7405567, 15794175, 33554431, 67108863, 134217727] [0, 1, 2, 3, 4, 5, 6, 7, 8, 9, 10, 11, 12, 13, 14, 15, 16, 17, 18, 19, 20, 21, 22, 23, 24, 25, 26, 27] mixed (by kernel_rfl) rfl ?_
          refine Ord.St.fl2 (T' := ?_) 0 [1, 2, 3, 4, 5, 6, 7, 8, 9, 10, 11, 12, 13, 14, 15, 16, 17, 18, 19, 20, 21, 22, 23, 24, 25, 26, 27] _ _ rfl (by kernel_rfl) rfl rfl rfl rfl (fun K w' hk => ?_) ?_
          rotate_left
          · go_step; exact hk
          refine Ord.St.fl2 (T' := ?_) 1 [2, 3, 4, 5, 6, 7, 8, 9, 10, 11, 12, 13, 14, 15, 16, 17, 18, 19, 20, 21, 22, 23, 24, 25, 26, 27] _ _ rfl (by kernel_rfl) rfl rfl rfl rfl (fun K w' hk => ?_) ?_
          rotate_left
          · go_step; exact hk
          refine Ord.St.fl2 (T' := ?_) 2 [3, 4, 5, 6, 7, 8, 9, 10, 11, 12, 13, 14, 15, 16, 17, 18, 19, 20, 21, 22, 23, 24, 25, 26, 27] _ _ rfl (by kernel_rfl) rfl rfl rfl rfl (fun K w' hk => ?_) ?_
          rotate_left
          · go_step; exact hk
          refine Ord.St.rd2 (T' := ?_) 3 [4, 5, 6, 7, 8, 9, 10, 11, 12, 13, 14, 15, 16, 17, 18, 19, 20, 21, 22, 23, 24, 25, 26, 27] _ _ rfl (by kernel_rfl) rfl rfl rfl rfl (fun K hk => ?_) ?_
          rotate_left
          · go_step; exact hk
          refine Ord.St.fl2 (T' := ?_) 4 [5, 6, 7, 8, 9, 10, 11, 12, 13, 14, 15, 16, 17, 18, 19, 20, 21, 22, 23, 24, 25, 26, 27] _ _ rfl (by kernel_rfl) rfl rfl rfl rfl (fun K w' hk => ?_) ?_
          rotate_left
          · go_step; exact hk
          refine Ord.St.fl2 (T' := ?_) 5 [6, 7, 8, 9, 10, 11, 12, 13, 14, 15, 16, 17, 18, 19, 20, 21, 22, 23, 24, 25, 26, 27] _ _ rfl (by kernel_rfl) rfl rfl rfl rfl (fun K w' hk => ?_) ?_
          rotate_left
          · go_step; exact hk
          first | (refine Ord.St.fl2 (T' := ?_) 6 [7, 8, 9, 10, 11, 12, 13, 14, 15, 16, 17, 18, 19, 20, 21, 22, 23, 24, 25, 26, 27] _ _ rfl (by kernel_rfl) ?_ rfl rfl rfl (fun K w' hk => ?_) ?_; rotate_left; (first | rfl | (simp [Region.wanted, yielded, *]; done)); focus (go_step; exact hk)) | (refine Ord.St.skip 6 [7, 8, 9, 10, 11, 12, 13, 14, 15, 16, 17, 18, 19, 20, 21, 22, 23, 24, 25, 26, 27] _ rfl (by kernel_rfl) ?_ (fun K hK => ?_); (first | rfl | (simp [Region.wanted, yielded, *]; done)); go_simp; refine hK _ ?_; clear hK K)
          first | (refine Ord.St.fl2 (T' := ?_) 7 [8, 9, 10, 11, 12, 13, 14, 15, 16, 17, 18, 19, 20, 21, 22, 23, 24, 25, 26, 27] _ _ rfl (by kernel_rfl) ?_ rfl rfl rfl (fun K w' hk => ?_) ?_; rotate_left; (first | rfl | (simp [Region.wanted, yielded, *]; done)); focus (go_step; exact hk)) | (refine Ord.St.skip 7 [8, 9, 10, 11, 12, 13, 14, 15, 16, 17, 18, 19, 20, 21, 22, 23, 24, 25, 26, 27] _ rfl (by kernel_rfl) ?_ (fun K hK => ?_); (first | rfl | (simp [Region.wanted, yielded, *]; done)); go_simp; refine hK _ ?_; clear hK K)
          first | (refine Ord.St.fl2 (T' := ?_) 8 [9, 10, 11, 12, 13, 14, 15, 16, 17, 18, 19, 20, 21, 22, 23, 24, 25, 26, 27] _ _ rfl (by kernel_rfl) ?_ rfl rfl rfl (fun K w' hk => ?_) ?_; rotate_left; (first | rfl | (simp [Region.wanted, yielded, *]; done)); focus (go_step; exact hk)) | (refine Ord.St.skip 8 [9, 10, 11, 12, 13, 14, 15, 16, 17, 18, 19, 20, 21, 22, 23, 24, 25, 26, 27] _ rfl (by kernel_rfl) ?_ (fun K hK => ?_); (first | rfl | (simp [Region.wanted, yielded, *]; done)); go_simp; refine hK _ ?_; clear hK K)
          first | (refine Ord.St.rd2 (T' := ?_) 9 [10, 11, 12, 13, 14, 15, 16, 17, 18, 19, 20, 21, 22, 23, 24, 25, 26, 27] _ _ rfl (by kernel_rfl) ?_ rfl rfl rfl (fun K hk => ?_) ?_; rotate_left; (first | rfl | (simp [Region.wanted, yielded, *]; done)); focus (go_step; exact hk)) | (refine Ord.St.skipr 9 [10, 11, 12, 13, 14, 15, 16, 17, 18, 19, 20, 21, 22, 23, 24, 25, 26, 27] _ rfl (by kernel_rfl) ?_ (fun K hK => ?_); (first | rfl | (simp [Region.wanted, yielded, *]; done)); go_simp; refine hK _ ?_; clear hK K)
          first | (refine Ord.St.fl2 (T' := ?_) 10 [11, 12, 13, 14, 15, 16, 17, 18, 19, 20, 21, 22, 23, 24, 25, 26, 27] _ _ rfl (by kernel_rfl) ?_ rfl rfl rfl (fun K w' hk => ?_) ?_; rotate_left; (first | rfl | (simp [Region.wanted, yielded, *]; done)); focus (go_step; exact hk)) | (refine Ord.St.skip 10 [11, 12, 13, 14, 15, 16, 17, 18, 19, 20, 21, 22, 23, 24, 25, 26, 27] _ rfl (by kernel_rfl) ?_ (fun K hK => ?_); (first | rfl | (simp [Region.wanted, yielded, *]; done)); go_simp; refine hK _ ?_; clear hK K)
          refine Ord.St.fl2 (T' := ?_) 11 [12, 13, 14, 15, 16, 17, 18, 19, 20, 21, 22, 23, 24, 25, 26, 27] _ _ rfl (by kernel_rfl) rfl rfl rfl rfl (fun K w' hk => ?_) ?_
          rotate_left
          · go_step; exact hk
          refine Ord.St.fl2 (T' := ?_) 12 [13, 14, 15, 16, 17, 18, 19, 20, 21, 22, 23, 24, 25, 26, 27] _ _ rfl (by kernel_rfl) rfl rfl rfl rfl (fun K w' hk => ?_) ?_
          rotate_left
          · go_step; exact hk
          first | (refine Ord.St.fl2 (T' := ?_) 13 [14, 15, 16, 17, 18, 19, 20, 21, 22, 23, 24, 25, 26, 27] _ _ rfl (by kernel_rfl) ?_ rfl rfl rfl (fun K w' hk => ?_) ?_; rotate_left; (first | rfl | (simp [Region.wanted, yielded, *]; done)); focus (go_step; exact hk)) | (refine Ord.St.skip 13 [14, 15, 16, 17, 18, 19, 20, 21, 22, 23, 24, 25, 26, 27] _ rfl (by kernel_rfl) ?_ (fun K hK => ?_); (first | rfl | (simp [Region.wanted, yielded, *]; done)); go_simp; refine hK _ ?_; clear hK K)
          first | (refine Ord.St.fl2 (T' := ?_) 14 [15, 16, 17, 18, 19, 20, 21, 22, 23, 24, 25, 26, 27] _ _ rfl (by kernel_rfl) ?_ rfl rfl rfl (fun K w' hk => ?_) ?_; rotate_left; (first | rfl | (simp [Region.wanted, yielded, *]; done)); focus (go_step; exact hk)) | (refine Ord.St.skip 14 [15, 16, 17, 18, 19, 20, 21, 22, 23, 24, 25, 26, 27] _ rfl (by kernel_rfl) ?_ (fun K hK => ?_); (first | rfl | (simp [Region.wanted, yielded, *]; done)); go_simp; refine hK _ ?_; clear hK K)
          first | (refine Ord.St.fl2 (T' := ?_) 15 [16, 17, 18, 19, 20, 21, 22, 23, 24, 25, 26, 27] _ _ rfl (by kernel_rfl) ?_ rfl rfl rfl (fun K w' hk => ?_) ?_; rotate_left; (first | rfl | (simp [Region.wanted, yielded, *]; done)); focus (go_step; exact hk)) | (refine Ord.St.skip 15 [16, 17, 18, 19, 20, 21, 22, 23, 24, 25, 26, 27] _ rfl (by kernel_rfl) ?_ (fun K hK => ?_); (first | rfl | (simp [Region.wanted, yielded, *]; done)); go_simp; refine hK _ ?_; clear hK K)
          first | (refine Ord.St.fl2 (T' := ?_) 16 [17, 18, 19, 20, 21, 22, 23, 24, 25, 26, 27] _ _ rfl (by kernel_rfl) ?_ rfl rfl rfl (fun K w' hk => ?_) ?_; rotate_left; (first | rfl | (simp [Region.wanted, yielded, *]; done)); focus (go_step; exact hk)) | (refine Ord.St.skip 16 [17, 18, 19, 20, 21, 22, 23, 24, 25, 26, 27] _ rfl (by kernel_rfl) ?_ (fun K hK => ?_); (first | rfl | (simp [Region.wanted, yielded, *]; done)); go_simp; refine hK _ ?_; clear hK K)
          first | (refine Ord.St.fl2 (T' := ?_) 17 [18, 19, 20, 21, 22, 23, 24, 25, 26, 27] _ _ rfl (by kernel_rfl) ?_ rfl rfl rfl (fun K w' hk => ?_) ?_; rotate_left; (first | rfl | (simp [Region.wanted, yielded, *]; done)); focus (go_step; exact hk)) | (refine Ord.St.skip 17 [18, 19, 20, 21, 22, 23, 24, 25, 26, 27] _ rfl (by kernel_rfl) ?_ (fun K hK => ?_); (first | rfl | (simp [Region.wanted, yielded, *]; done)); go_simp; refine hK _ ?_; clear hK K)
          first | (refine Ord.St.fl2 (T' := ?_) 18 [19, 20, 21, 22, 23, 24, 25, 26, 27] _ _ rfl (by kernel_rfl) ?_ rfl rfl rfl (fun K w' hk => ?_) ?_; rotate_left; (first | rfl | (simp [Region.wanted, yielded, *]; done)); focus (go_step; exact hk)) | (refine Ord.St.skip 18 [19, 20, 21, 22, 23, 24, 25, 26, 27] _ rfl (by kernel_rfl) ?_ (fun K hK => ?_); (first | rfl | (simp [Region.wanted, yielded, *]; done)); go_simp; refine hK _ ?_; clear hK K)
          first | (refine Ord.St.rd2 (T' := ?_) 19 [20, 21, 22, 23, 24, 25, 26, 27] _ _ rfl (by kernel_rfl) ?_ rfl rfl rfl (fun K hk => ?_) ?_; rotate_left; (first | rfl | (simp [Region.wanted, yielded, *]; done)); focus (go_step; exact hk)) | (refine Ord.St.skipr 19 [20, 21, 22, 23, 24, 25, 26, 27] _ rfl (by kernel_rfl) ?_ (fun K hK => ?_); (first | rfl | (simp [Region.wanted, yielded, *]; done)); go_simp; refine hK _ ?_; clear hK K)
          first | (refine Ord.St.fl2 (T' := ?_) 20 [21, 22, 23, 24, 25, 26, 27] _ _ rfl (by kernel_rfl) ?_ rfl rfl rfl (fun K w' hk => ?_) ?_; rotate_left; (first | rfl | (simp [Region.wanted, yielded, *]; done)); focus (go_step; exact hk)) | (refine Ord.St.skip 20 [21, 22, 23, 24, 25, 26, 27] _ rfl (by kernel_rfl) ?_ (fun K hK => ?_); (first | rfl | (simp [Region.wanted, yielded, *]; done)); go_simp; refine hK _ ?_; clear hK K)
          first | (refine Ord.St.fl2 (T' := ?_) 21 [22, 23, 24, 25, 26, 27] _ _ rfl (by kernel_rfl) ?_ rfl rfl rfl (fun K w' hk => ?_) ?_; rotate_left; (first | rfl | (simp [Region.wanted, yielded, *]; done)); focus (go_step; exact hk)) | (refine Ord.St.skip 21 [22, 23, 24, 25, 26, 27] _ rfl (by kernel_rfl) ?_ (fun K hK => ?_); (first | rfl | (simp [Region.wanted, yielded, *]; done)); go_simp; refine hK _ ?_; clear hK K)
          first | (refine Ord.St.fl2 (T' := ?_) 22 [23, 24, 25, 26, 27] _ _ rfl (by kernel_rfl) ?_ rfl rfl rfl (fun K w' hk => ?_) ?_; rotate_left; (first | rfl | (simp [Region.wanted, yielded, *]; done)); focus (go_step; exact hk)) | (refine Ord.St.skip 22 [23, 24, 25, 26, 27] _ rfl (by kernel_rfl) ?_ (fun K hK => ?_); (first | rfl | (simp [Region.wanted, yielded, *]; done)); go_simp; refine hK _ ?_; clear hK K)
          first | (refine Ord.St.fl2 (T' := ?_) 23 [24, 25, 26, 27] _ _ rfl (by kernel_rfl) ?_ rfl rfl rfl (fun K w' hk => ?_) ?_; rotate_left; (first | rfl | (simp [Region.wanted, yielded, *]; done)); focus (go_step; exact hk)) | (refine Ord.St.skip 23 [24, 25, 26, 27] _ rfl (by kernel_rfl) ?_ (fun K hK => ?_); (first | rfl | (simp [Region.wanted, yielded, *]; done)); go_simp; refine hK _ ?_; clear hK K)
          first | (refine Ord.St.rd2 (T' := ?_) 24 [25, 26, 27] _ _ rfl (by kernel_rfl) ?_ rfl rfl rfl (fun K hk => ?_) ?_; rotate_left; (first | rfl | (simp [Region.wanted, yielded, *]; done)); focus (go_step; exact hk)) | (refine Ord.St.skipr 24 [25, 26, 27] _ rfl (by kernel_rfl) ?_ (fun K hK => ?_); (first | rfl | (simp [Region.wanted, yielded, *]; done)); go_simp; refine hK _ ?_; clear hK K)
          first | (refine Ord.St.fl2 (T' := ?_) 25 [26, 27] _ _ rfl (by kernel_rfl) ?_ rfl rfl rfl (fun K w' hk => ?_) ?_; rotate_left; (first | rfl | (simp [Region.wanted, yielded, *]; done)); focus (go_step; exact hk)) | (refine Ord.St.skip 25 [26, 27] _ rfl (by kernel_rfl) ?_ (fun K hK => ?_); (first | rfl | (simp [Region.wanted, yielded, *]; done)); go_simp; refine hK _ ?_; clear hK K)
          first | (refine Ord.St.fl2 (T' := ?_) 26 [27] _ _ rfl (by kernel_rfl) ?_ rfl rfl rfl (fun K w' hk => ?_) ?_; rotate_left; (first | rfl | (simp [Region.wanted, yielded, *]; done)); focus (go_step; exact hk)) | (refine Ord.St.skip 26 [27] _ rfl (by kernel_rfl) ?_ (fun K hK => ?_); (first | rfl | (simp [Region.wanted, yielded, *]; done)); go_simp; refine hK _ ?_; clear hK K)
          refine Ord.St.fl2 (T' := ?_) 27 [] _ _ rfl (by kernel_rfl) rfl rfl rfl rfl (fun K w' hk => ?_) ?_
          rotate_left
          · go_step; exact hk
          refine Ord.St.nil ?_
          go_wp2_with fail
          go_ret
          exact ⟨by rw [rising_not HX.out (.inr h2)]; rfl, HC.out.drew⟩
        · have d2 : decide (65535 < x) = false := decide_eq_false h2
          cases k with
          | zero =>
            have hr1 : rising (m.take (0 + 1)) = true := by
              rw [HT.out]
              exact rising_snoc HR.out (by omega) (fun k y h => by simp at h)
            have HR1 := Lib.hid hr1; clear hr1 h1 h2
            rw [Nat.add_zero] at hcl
            rw [show ((0 : Nat) : Int) = 0 from rfl]
            go_wp2_with fail
            refine Ord.St.door (fun _ => True) [.fl, .fl, .fl, .rd, .fl, .fl, .fl, .fl, .fl, .rd, .fl, .fl, .fl, .fl, .fl, .fl, .fl, .fl, .fl, .rd, .fl, .fl, .fl, .fl, .rd, .fl, .fl, .fl] [0, 0, 3, 7, 15, 31, 63, 63, 255, 511, 1023, 2047, 4095, 8191, 16383, 32767, 65535, 65535, 262143, 524287, 65535, 65535, 2162687, 7405567, 15794175, 33554431, 67108863, 134217727] [0, 1, 2, 3, 4, 5, 6, 7, 8, 9, 10, 11, 12, 13, 14, 15, 16, 17, 18, 19, 20, 21, 22, 23, 24, 25, 26, 27] mixed (by kernel_rfl) rfl ?_
            refine Ord.St.fl2 (T' := ?_) 0 [1, 2, 3, 4, 5, 6, 7, 8, 9, 10, 11, 12, 13, 14, 15, 16, 17, 18, 19, 20, 21, 22, 23, 24, 25, 26, 27] _ _ rfl (by kernel_rfl) rfl rfl rfl rfl (fun K w' hk => ?_) ?_
            rotate_left
            · go_step; exact hk
            refine Ord.St.fl2 (T' := ?_) 1 [2, 3, 4, 5, 6, 7, 8, 9, 10, 11, 12, 13, 14, 15, 16, 17, 18, 19, 20, 21, 22, 23, 24, 25, 26, 27] _ _ rfl (by kernel_rfl) rfl rfl rfl rfl (fun K w' hk => ?_) ?_
            rotate_left
            · go_step; exact hk
            refine Ord.St.fl2 (T' := ?_) 2 [3, 4, 5, 6, 7, 8, 9, 10, 11, 12, 13, 14, 15, 16, 17, 18, 19, 20, 21, 22, 23, 24, 25, 26, 27] _ _ rfl (by kernel_rfl) rfl rfl rfl rfl (fun K w' hk => ?_) ?_
            rotate_left
            · go_step; exact hk
            refine Ord.St.rd2 (T' := ?_) 3 [4, 5, 6, 7, 8, 9, 10, 11, 12, 13, 14, 15, 16, 17, 18, 19, 20, 21, 22, 23, 24, 25, 26, 27] _ _ rfl (by kernel_rfl) rfl rfl rfl rfl (fun K hk => ?_) ?_
            rotate_left
            · go_step; exact hk
            refine Ord.St.fl2 (T' := ?_) 4 [5, 6, 7, 8, 9, 10, 11, 12, 13, 14, 15, 16, 17, 18, 19, 20, 21, 22, 23, 24, 25, 26, 27] _ _ rfl (by kernel_rfl) rfl rfl rfl rfl (fun K w' hk => ?_) ?_
            rotate_left
            · go_step; exact hk
            refine Ord.St.fl2 (T' := ?_) 5 [6, 7, 8, 9, 10, 11, 12, 13, 14, 15, 16, 17, 18, 19, 20, 21, 22, 23, 24, 25, 26, 27] _ _ rfl (by kernel_rfl) rfl rfl rfl rfl (fun K w' hk => ?_) ?_
            rotate_left
            · go_step; exact hk
            first | (refine Ord.St.fl2 (T' := ?_) 6 [7, 8, 9, 10, 11, 12, 13, 14, 15, 16, 17, 18, 19, 20, 21, 22, 23, 24, 25, 26, 27] _ _ rfl (by kernel_rfl) ?_ rfl rfl rfl (fun K w' hk => ?_) ?_; rotate_left; (first | rfl | (simp [Region.wanted, yielded, *]; done)); focus (go_step; exact hk)) | (refine Ord.St.skip 6 [7, 8, 9, 10, 11, 12, 13, 14, 15, 16, 17, 18, 19, 20, 21, 22, 23, 24, 25, 26, 27] _ rfl (by kernel_rfl) ?_ (fun K hK => ?_); (first | rfl | (simp [Region.wanted, yielded, *]; done)); go_simp; refine hK _ ?_; clear hK K)
            first | (refine Ord.St.fl2 (T' := ?_) 7 [8, 9, 10, 11, 12, 13, 14, 15, 16, 17, 18, 19, 20, 21, 22, 23, 24, 25, 26, 27] _ _ rfl (by kernel_rfl) ?_ rfl rfl rfl (fun K w' hk => ?_) ?_; rotate_left; (first | rfl | (simp [Region.wanted, yielded, *]; done)); focus (go_step; exact hk)) | (refine Ord.St.skip 7 [8, 9, 10, 11, 12, 13, 14, 15, 16, 17, 18, 19, 20, 21, 22, 23, 24, 25, 26, 27] _ rfl (by kernel_rfl) ?_ (fun K hK => ?_); (first | rfl | (simp [Region.wanted, yielded, *]; done)); go_simp; refine hK _ ?_; clear hK K)
            first | (refine Ord.St.fl2 (T' := ?_) 8 [9, 10, 11, 12, 13, 14, 15, 16, 17, 18, 19, 20, 21, 22, 23, 24, 25, 26, 27] _ _ rfl (by kernel_rfl) ?_ rfl rfl rfl (fun K w' hk => ?_) ?_; rotate_left; (first | rfl | (simp [Region.wanted, yielded, *]; done)); focus (go_step; exact hk)) | (refine Ord.St.skip 8 [9, 10, 11, 12, 13, 14, 15, 16, 17, 18, 19, 20, 21, 22, 23, 24, 25, 26, 27] _ rfl (by kernel_rfl) ?_ (fun K hK => ?_); (first | rfl | (simp [Region.wanted, yielded, *]; done)); go_simp; refine hK _ ?_; clear hK K)
            first | (refine Ord.St.rd2 (T' := ?_) 9 [10, 11, 12, 13, 14, 15, 16, 17, 18, 19, 20, 21, 22, 23, 24, 25, 26, 27] _ _ rfl (by kernel_rfl) ?_ rfl rfl rfl (fun K hk => ?_) ?_; rotate_left; (first | rfl | (simp [Region.wanted, yielded, *]; done)); focus (go_step; exact hk)) | (refine Ord.St.skipr 9 [10, 11, 12, 13, 14, 15, 16, 17, 18, 19, 20, 21, 22, 23, 24, 25, 26, 27] _ rfl (by kernel_rfl) ?_ (fun K hK => ?_); (first | rfl | (simp [Region.wanted, yielded, *]; done)); go_simp; refine hK _ ?_; clear hK K)
            first | (refine Ord.St.fl2 (T' := ?_) 10 [11, 12, 13, 14, 15, 16, 17, 18, 19, 20, 21, 22, 23, 24, 25, 26, 27] _ _ rfl (by kernel_rfl) ?_ rfl rfl rfl (fun K w' hk => ?_) ?_; rotate_left; (first | rfl | (simp [Region.wanted, yielded, *]; done)); focus (go_step; exact hk)) | (refine Ord.St.skip 10 [11, 12, 13, 14, 15, 16, 17, 18, 19, 20, 21, 22, 23, 24, 25, 26, 27] _ rfl (by kernel_rfl) ?_ (fun K hK => ?_); (first | rfl | (simp [Region.wanted, yielded, *]; done)); go_simp; refine hK _ ?_; clear hK K)
            refine Ord.St.fl2 (T' := ?_) 11 [12, 13, 14, 15, 16, 17, 18, 19, 20, 21, 22, 23, 24, 25, 26, 27] _ _ rfl (by kernel_rfl) rfl rfl rfl rfl (fun K w' hk => ?_) ?_
            rotate_left
            · go_step; exact hk
            refine Ord.St.fl2 (T' := ?_) 12 [13, 14, 15, 16, 17, 18, 19, 20, 21, 22, 23, 24, 25, 26, 27] _ _ rfl (by kernel_rfl) rfl rfl rfl rfl (fun K w' hk => ?_) ?_
            rotate_left
            · go_step; exact hk
            first | (refine Ord.St.fl2 (T' := ?_) 13 [14, 15, 16, 17, 18, 19, 20, 21, 22, 23, 24, 25, 26, 27] _ _ rfl (by kernel_rfl) ?_ rfl rfl rfl (fun K w' hk => ?_) ?_; rotate_left; (first | rfl | (simp [Region.wanted, yielded, *]; done)); focus (go_step; exact hk)) | (refine Ord.St.skip 13 [14, 15, 16, 17, 18, 19, 20, 21, 22, 23, 24, 25, 26, 27] _ rfl (by kernel_rfl) ?_ (fun K hK => ?_); (first | rfl | (simp [Region.wanted, yielded, *]; done)); go_simp; refine hK _ ?_; clear hK K)
            first | (refine Ord.St.fl2 (T' := ?_) 14 [15, 16, 17, 18, 19, 20, 21, 22, 23, 24, 25, 26, 27] _ _ rfl (by kernel_rfl) ?_ rfl rfl rfl (fun K w' hk => ?_) ?_; rotate_left; (first | rfl | (simp [Region.wanted, yielded, *]; done)); focus (go_step; exact hk)) | (refine Ord.St.skip 14 [15, 16, 17, 18, 19, 20, 21, 22, 23, 24, 25, 26, 27] _ rfl (by kernel_rfl) ?_ (fun K hK => ?_); (first | rfl | (simp [Region.wanted, yielded, *]; done)); go_simp; refine hK _ ?_; clear hK K)
            first | (refine Ord.St.fl2 (T' := ?_) 15 [16, 17, 18, 19, 20, 21, 22, 23, 24, 25, 26, 27] _ _ rfl (by kernel_rfl) ?_ rfl rfl rfl (fun K w' hk => ?_) ?_; rotate_left; (first | rfl | (simp [Region.wanted, yielded, *]; done)); focus (go_step; exact hk)) | (refine Ord.St.skip 15 [16, 17, 18, 19, 20, 21, 22, 23, 24, 25, 26, 27] _ rfl (by kernel_rfl) ?_ (fun K hK => ?_); (first | rfl | (simp [Region.wanted, yielded, *]; done)); go_simp; refine hK _ ?_; clear hK K)
            first | (refine Ord.St.fl2 (T' := ?_) 16 [17, 18, 19, 20, 21, 22, 23, 24, 25, 26, 27] _ _ rfl (by kernel_rfl) ?_ rfl rfl rfl (fun K w' hk => ?_) ?_; rotate_left; (first | rfl | (simp [Region.wanted, yielded, *]; done)); focus (go_step; exact hk)) | (refine Ord.St.skip 16 [17, 18, 19, 20, 21, 22, 23, 24, 25, 26, 27] _ rfl (by kernel_rfl) ?_ (fun K hK => ?_); (first | rfl | (simp [Region.wanted, yielded, *]; done)); go_simp; refine hK _ ?_; clear hK K)
            first | (refine Ord.St.fl2 (T' := ?_) 17 [18, 19, 20, 21, 22, 23, 24, 25, 26, 27] _ _ rfl (by kernel_rfl) ?_ rfl rfl rfl (fun K w' hk => ?_) ?_; rotate_left; (first | rfl | (simp [Region.wanted, yielded, *]; done)); focus (go_step; exact hk)) | (refine Ord.St.skip 17 [18, 19, 20, 21, 22, 23, 24, 25, 26, 27] _ rfl (by kernel_rfl) ?_ (fun K hK => ?_); (first | rfl | (simp [Region.wanted, yielded, *]; done)); go_simp; refine hK _ ?_; clear hK K)
            first | (refine Ord.St.fl2 (T' := ?_) 18 [19, 20, 21, 22, 23, 24, 25, 26, 27] _ _ rfl (by kernel_rfl) ?_ rfl rfl rfl (fun K w' hk => ?_) ?_; rotate_left; (first | rfl | (simp [Region.wanted, yielded, *]; done)); focus (go_step; exact hk)) | (refine Ord.St.skip 18 [19, 20, 21, 22, 23, 24, 25, 26, 27] _ rfl (by kernel_rfl) ?_ (fun K hK => ?_); (first | rfl | (simp [Region.wanted, yielded, *]; done)); go_simp; refine hK _ ?_; clear hK K)
            first | (refine Ord.St.rd2 (T' := ?_) 19 [20, 21, 22, 23, 24, 25, 26, 27] _ _ rfl (by kernel_rfl) ?_ rfl rfl rfl (fun K hk => ?_) ?_; rotate_left; (first | rfl | (simp [Region.wanted, yielded, *]; done)); focus (go_step; exact hk)) | (refine Ord.St.skipr 19 [20, 21, 22, 23, 24, 25, 26, 27] _ rfl (by kernel_rfl) ?_ (fun K hK => ?_); (first | rfl | (simp [Region.wanted, yielded, *]; done)); go_simp; refine hK _ ?_; clear hK K)
            first | (refine Ord.St.fl2 (T' := ?_) 20 [21, 22, 23, 24, 25, 26, 27] _ _ rfl (by kernel_rfl) ?_ rfl rfl rfl (fun K w' hk => ?_) ?_; rotate_left; (first | rfl | (simp [Region.wanted, yielded, *]; done)); focus (go_step; exact hk)) | (refine Ord.St.skip 20 [21, 22, 23, 24, 25, 26, 27] _ rfl (by kernel_rfl) ?_ (fun K hK => ?_); (first | rfl | (simp [Region.wanted, yielded, *]; done)); go_simp; refine hK _ ?_; clear hK K)
            first | (refine Ord.St.fl2 (T' := ?_) 21 [22, 23, 24, 25, 26, 27] _ _ rfl (by kernel_rfl) ?_ rfl rfl rfl (fun K w' hk => ?_) ?_; rotate_left; (first | rfl | (simp [Region.wanted, yielded, *]; done)); focus (go_step; exact hk)) | (refine Ord.St.skip 21 [22, 23, 24, 25, 26, 27] _ rfl (by kernel_rfl) ?_ (fun K hK => ?_); (first | rfl | (simp [Region.wanted, yielded, *]; done)); go_simp; refine hK _ ?_; clear hK K)
            first | (refine Ord.St.fl2 (T' := ?_) 22 [23, 24, 25, 26, 27] _ _ rfl (by kernel_rfl) ?_ rfl rfl rfl (fun K w' hk => ?_) ?_; rotate_left; (first | rfl | (simp [Region.wanted, yielded, *]; done)); focus (go_step; exact hk)) | (refine Ord.St.skip 22 [23, 24, 25, 26, 27] _ rfl (by kernel_rfl) ?_ (fun K hK => ?_); (first | rfl | (simp [Region.wanted, yielded, *]; done)); go_simp; refine hK _ ?_; clear hK K)
            first | (refine Ord.St.fl2 (T' := ?_) 23 [24, 25, 26, 27] _ _ rfl (by kernel_rfl) ?_ rfl rfl rfl (fun K w' hk => ?_) ?_; rotate_left; (first | rfl | (simp [Region.wanted, yielded, *]; done)); focus (go_step; exact hk)) | (refine Ord.St.skip 23 [24, 25, 26, 27] _ rfl (by kernel_rfl) ?_ (fun K hK => ?_); (first | rfl | (simp [Region.wanted, yielded, *]; done)); go_simp; refine hK _ ?_; clear hK K)
            first | (refine Ord.St.rd2 (T' := ?_) 24 [25, 26, 27] _ _ rfl (by kernel_rfl) ?_ rfl rfl rfl (fun K hk => ?_) ?_; rotate_left; (first | rfl | (simp [Region.wanted, yielded, *]; done)); focus (go_step; exact hk)) | (refine Ord.St.skipr 24 [25, 26, 27] _ rfl (by kernel_rfl) ?_ (fun K hK => ?_); (first | rfl | (simp [Region.wanted, yielded, *]; done)); go_simp; refine hK _ ?_; clear hK K)
            first | (refine Ord.St.fl2 (T' := ?_) 25 [26, 27] _ _ rfl (by kernel_rfl) ?_ rfl rfl rfl (fun K w' hk => ?_) ?_; rotate_left; (first | rfl | (simp [Region.wanted, yielded, *]; done)); focus (go_step; exact hk)) | (refine Ord.St.skip 25 [26, 27] _ rfl (by kernel_rfl) ?_ (fun K hK => ?_); (first | rfl | (simp [Region.wanted, yielded, *]; done)); go_simp; refine hK _ ?_; clear hK K)
            first | (refine Ord.St.fl2 (T' := ?_) 26 [27] _ _ rfl (by kernel_rfl) ?_ rfl rfl rfl (fun K w' hk => ?_) ?_; rotate_left; (first | rfl | (simp [Region.wanted, yielded, *]; done)); focus (go_step; exact hk)) | (refine Ord.St.skip 26 [27] _ rfl (by kernel_rfl) ?_ (fun K hK => ?_); (first | rfl | (simp [Region.wanted, yielded, *]; done)); go_simp; refine hK _ ?_; clear hK K)
            refine Ord.St.fl2 (T' := ?_) 27 [] _ _ rfl (by kernel_rfl) rfl rfl rfl rfl (fun K w' hk => ?_) ?_
            rotate_left
            · go_step; exact hk
            refine Ord.St.nil ?_
            go_wp2_with fail
            go_roundw
            case rel => exact ⟨1, by omega, by go_num, HC.out.drew, HR1.out⟩
            case measure => simp [intOf]; omega
          | succ j =>
            obtain ⟨y, hy⟩ : ∃ y, m[j]? = some y := ⟨_, List.getElem?_eq_getElem (by have := HN.out; omega)⟩
            obtain ⟨yb, yo, e, hcy⟩ := HSW.out.cells j y hy
            cases e
            by_cases h3 : x ≤ y
            · have d3 : decide (x ≤ y) = true := decide_eq_true h3
              have HY := Lib.hid hy; clear hy
              go_wp2_with fail
              refine Ord.St.door (fun _ => True) [.fl, .fl, .fl, .rd, .fl, .fl, .fl, .fl, .fl, .rd, .fl, .fl, .fl, .fl, .fl, .fl, .fl, .fl, .fl, .rd, .fl, .fl, .fl, .fl, .rd, .fl, .fl, .fl] [0, 0, 3, 7, 15, 31, 63, 63, 255, 511, 1023, 2047, 4095, 8191, 16383, 32767, 65535, 65535, 262143, 524287, 65535, 65535, 2162687, 7405567, 15794175, 33554431, 67108863, 134217727] [0, 1, 2, 3, 4, 5, 6, 7, 8, 9, 10, 11, 12, 13, 14, 15, 16, 17, 18, 19, 20, 21, 22, 23, 24, 25, 26, 27] mixed (by kernel_rfl) rfl ?_
              refine Ord.St.fl2 (T' := ?_) 0 [1, 2, 3, 4, 5, 6, 7, 8, 9, 10, 11, 12, 13, 14, 15, 16, 17, 18, 19, 20, 21, 22, 23, 24, 25, 26, 27] _ _ rfl (by kernel_rfl) rfl rfl rfl rfl (fun K w' hk => ?_) ?_
              rotate_left
              · go_step; exact hk
              refine Ord.St.fl2 (T' := ?_) 1 [2, 3, 4, 5, 6, 7, 8, 9, 10, 11, 12, 13, 14, 15, 16, 17, 18, 19, 20, 21, 22, 23, 24, 25, 26, 27] _ _ rfl (by kernel_rfl) rfl rfl rfl rfl (fun K w' hk => ?_) ?_
              rotate_left
              · go_step; exact hk
              refine Ord.St.fl2 (T' := ?_) 2 [3, 4, 5, 6, 7, 8, 9, 10, 11, 12, 13, 14, 15, 16, 17, 18, 19, 20, 21, 22, 23, 24, 25, 26, 27] _ _ rfl (by kernel_rfl) rfl rfl rfl rfl (fun K w' hk => ?_) ?_
              rotate_left
              · go_step; exact hk
              refine Ord.St.rd2 (T' := ?_) 3 [4, 5, 6, 7, 8, 9, 10, 11, 12, 13, 14, 15, 16, 17, 18, 19, 20, 21, 22, 23, 24, 25, 26, 27] _ _ rfl (by kernel_rfl) rfl rfl rfl rfl (fun K hk => ?_) ?_
              rotate_left
              · go_step; exact hk
              refine Ord.St.fl2 (T' := ?_) 4 [5, 6, 7, 8, 9, 10, 11, 12, 13, 14, 15, 16, 17, 18, 19, 20, 21, 22, 23, 24, 25, 26, 27] _ _ rfl (by kernel_rfl) rfl rfl rfl rfl (fun K w' hk => ?_) ?_
              rotate_left
              · go_step; exact hk
              refine Ord.St.fl2 (T' := ?_) 5 [6, 7, 8, 9, 10, 11, 12, 13, 14, 15, 16, 17, 18, 19, 20, 21, 22, 23, 24, 25, 26, 27] _ _ rfl (by kernel_rfl) rfl rfl rfl rfl (fun K w' hk => ?_) ?_
              rotate_left
              · go_step; exact hk
              first | (refine Ord.St.fl2 (T' := ?_) 6 [7, 8, 9, 10, 11, 12, 13, 14, 15, 16, 17, 18, 19, 20, 21, 22, 23, 24, 25, 26, 27] _ _ rfl (by kernel_rfl) ?_ rfl rfl rfl (fun K w' hk => ?_) ?_; rotate_left; (first | rfl | (simp [Region.wanted, yielded, *]; done)); focus (go_step; exact hk)) | (refine Ord.St.skip 6 [7, 8, 9, 10, 11, 12, 13, 14, 15, 16, 17, 18, 19, 20, 21, 22, 23, 24, 25, 26, 27] _ rfl (by kernel_rfl) ?_ (fun K hK => ?_); (first | rfl | (simp [Region.wanted, yielded, *]; done)); go_simp; refine hK _ ?_; clear hK K)
              first | (refine Ord.St.fl2 (T' := ?_) 7 [8, 9, 10, 11, 12, 13, 14, 15, 16, 17, 18, 19, 20, 21, 22, 23, 24, 25, 26, 27] _ _ rfl (by kernel_rfl) ?_ rfl rfl rfl (fun K w' hk => ?_) ?_; rotate_left; (first | rfl | (simp [Region.wanted, yielded, *]; done)); focus (go_step; exact hk)) | (refine Ord.St.skip 7 [8, 9, 10, 11, 12, 13, 14, 15, 16, 17, 18, 19, 20, 21, 22, 23, 24, 25, 26, 27] _ rfl (by kernel_rfl) ?_ (fun K hK => ?_); (first | rfl | (simp [Region.wanted, yielded, *]; done)); go_simp; refine hK _ ?_; clear hK K)
              first | (refine Ord.St.fl2 (T' := ?_) 8 [9, 10, 11, 12, 13, 14, 15, 16, 17, 18, 19, 20, 21, 22, 23, 24, 25, 26, 27] _ _ rfl (by kernel_rfl) ?_ rfl rfl rfl (fun K w' hk => ?_) ?_; rotate_left; (first | rfl | (simp [Region.wanted, yielded, *]; done)); focus (go_step; exact hk)) | (refine Ord.St.skip 8 [9, 10, 11, 12, 13, 14, 15, 16, 17, 18, 19, 20, 21, 22, 23, 24, 25, 26, 27] _ rfl (by kernel_rfl) ?_ (fun K hK => ?_); (first | rfl | (simp [Region.wanted, yielded, *]; done)); go_simp; refine hK _ ?_; clear hK K)
              first | (refine Ord.St.rd2 (T' := ?_) 9 [10, 11, 12, 13, 14, 15, 16, 17, 18, 19, 20, 21, 22, 23, 24, 25, 26, 27] _ _ rfl (by kernel_rfl) ?_ rfl rfl rfl (fun K hk => ?_) ?_; rotate_left; (first | rfl | (simp [Region.wanted, yielded, *]; done)); focus (go_step; exact hk)) | (refine Ord.St.skipr 9 [10, 11, 12, 13, 14, 15, 16, 17, 18, 19, 20, 21, 22, 23, 24, 25, 26, 27] _ rfl (by kernel_rfl) ?_ (fun K hK => ?_); (first | rfl | (simp [Region.wanted, yielded, *]; done)); go_simp; refine hK _ ?_; clear hK K)
              first | (refine Ord.St.fl2 (T' := ?_) 10 [11, 12, 13, 14, 15, 16, 17, 18, 19, 20, 21, 22, 23, 24, 25, 26, 27] _ _ rfl (by kernel_rfl) ?_ rfl rfl rfl (fun K w' hk => ?_) ?_; rotate_left; (first | rfl | (simp [Region.wanted, yielded, *]; done)); focus (go_step; exact hk)) | (refine Ord.St.skip 10 [11, 12, 13, 14, 15, 16, 17, 18, 19, 20, 21, 22, 23, 24, 25, 26, 27] _ rfl (by kernel_rfl) ?_ (fun K hK => ?_); (first | rfl | (simp [Region.wanted, yielded, *]; done)); go_simp; refine hK _ ?_; clear hK K)
              refine Ord.St.fl2 (T' := ?_) 11 [12, 13, 14, 15, 16, 17, 18, 19, 20, 21, 22, 23, 24, 25, 26, 27] _ _ rfl (by kernel_rfl) rfl rfl rfl rfl (fun K w' hk => ?_) ?_
              rotate_left
              · go_step; exact hk
              refine Ord.St.fl2 (T' := ?_) 12 [13, 14, 15, 16, 17, 18, 19, 20, 21, 22, 23, 24, 25, 26, 27] _ _ rfl (by kernel_rfl) rfl rfl rfl rfl (fun K w' hk => ?_) ?_
              rotate_left
              · go_step; exact hk
              first | (refine Ord.St.fl2 (T' := ?_) 13 [14, 15, 16, 17, 18, 19, 20, 21, 22, 23, 24, 25, 26, 27] _ _ rfl (by kernel_rfl) ?_ rfl rfl rfl (fun K w' hk => ?_) ?_; rotate_left; (first | rfl | (simp [Region.wanted, yielded, *]; done)); focus (go_step; exact hk)) | (refine Ord.St.skip 13 [14, 15, 16, 17, 18, 19, 20, 21, 22, 23, 24, 25, 26, 27] _ rfl (by kernel_rfl) ?_ (fun K hK => ?_); (first | rfl | (simp [Region.wanted, yielded, *]; done)); go_simp; refine hK _ ?_; clear hK K)
              first | (refine Ord.St.fl2 (T' := ?_) 14 [15, 16, 17, 18, 19, 20, 21, 22, 23, 24, 25, 26, 27] _ _ rfl (by kernel_rfl) ?_ rfl rfl rfl (fun K w' hk => ?_) ?_; rotate_left; (first | rfl | (simp [Region.wanted, yielded, *]; done)); focus (go_step; exact hk)) | (refine Ord.St.skip 14 [15, 16, 17, 18, 19, 20, 21, 22, 23, 24, 25, 26, 27] _ rfl (by kernel_rfl) ?_ (fun K hK => ?_); (first | rfl | (simp [Region.wanted, yielded, *]; done)); go_simp; refine hK _ ?_; clear hK K)
              first | (refine Ord.St.fl2 (T' := ?_) 15 [16, 17, 18, 19, 20, 21, 22, 23, 24, 25, 26, 27] _ _ rfl (by kernel_rfl) ?_ rfl rfl rfl (fun K w' hk => ?_) ?_; rotate_left; (first | rfl | (simp [Region.wanted, yielded, *]; done)); focus (go_step; exact hk)) | (refine Ord.St.skip 15 [16, 17, 18, 19, 20, 21, 22, 23, 24, 25, 26, 27] _ rfl (by kernel_rfl) ?_ (fun K hK => ?_); (first | rfl | (simp [Region.wanted, yielded, *]; done)); go_simp; refine hK _ ?_; clear hK K)
              first | (refine Ord.St.fl2 (T' := ?_) 16 [17, 18, 19, 20, 21, 22, 23, 24, 25, 26, 27] _ _ rfl (by kernel_rfl) ?_ rfl rfl rfl (fun K w' hk => ?_) ?_; rotate_left; (first | rfl | (simp [Region.wanted, yielded, *]; done)); focus (go_step; exact hk)) | (refine Ord.St.skip 16 [17, 18, 19, 20, 21, 22, 23, 24, 25, 26, 27] _ rfl (by kernel_rfl) ?_ (fun K hK => ?_); (first | rfl | (simp [Region.wanted, yielded, *]; done)); go_simp; refine hK _ ?_; clear hK K)
              first | (refine Ord.St.fl2 (T' := ?_) 17 [18, 19, 20, 21, 22, 23, 24, 25, 26, 27] _ _ rfl (by kernel_rfl) ?_ rfl rfl rfl (fun K w' hk => ?_) ?_; rotate_left; (first | rfl | (simp [Region.wanted, yielded, *]; done)); focus (go_step; exact hk)) | (refine Ord.St.skip 17 [18, 19, 20, 21, 22, 23, 24, 25, 26, 27] _ rfl (by kernel_rfl) ?_ (fun K hK => ?_); (first | rfl | (simp [Region.wanted, yielded, *]; done)); go_simp; refine hK _ ?_; clear hK K)
              first | (refine Ord.St.fl2 (T' := ?_) 18 [19, 20, 21, 22, 23, 24, 25, 26, 27] _ _ rfl (by kernel_rfl) ?_ rfl rfl rfl (fun K w' hk => ?_) ?_; rotate_left; (first | rfl | (simp [Region.wanted, yielded, *]; done)); focus (go_step; exact hk)) | (refine Ord.St.skip 18 [19, 20, 21, 22, 23, 24, 25, 26, 27] _ rfl (by kernel_rfl) ?_ (fun K hK => ?_); (first | rfl | (simp [Region.wanted, yielded, *]; done)); go_simp; refine hK _ ?_; clear hK K)
              first | (refine Ord.St.rd2 (T' := ?_) 19 [20, 21, 22, 23, 24, 25, 26, 27] _ _ rfl (by kernel_rfl) ?_ rfl rfl rfl (fun K hk => ?_) ?_; rotate_left; (first | rfl | (simp [Region.wanted, yielded, *]; done)); focus (go_step; exact hk)) | (refine Ord.St.skipr 19 [20, 21, 22, 23, 24, 25, 26, 27] _ rfl (by kernel_rfl) ?_ (fun K hK => ?_); (first | rfl | (simp [Region.wanted, yielded, *]; done)); go_simp; refine hK _ ?_; clear hK K)
              first | (refine Ord.St.fl2 (T' := ?_) 20 [21, 22, 23, 24, 25, 26, 27] _ _ rfl (by kernel_rfl) ?_ rfl rfl rfl (fun K w' hk => ?_) ?_; rotate_left; (first | rfl | (simp [Region.wanted, yielded, *]; done)); focus (go_step; exact hk)) | (refine Ord.St.skip 20 [21, 22, 23, 24, 25, 26, 27] _ rfl (by kernel_rfl) ?_ (fun K hK => ?_); (first | rfl | (simp [Region.wanted, yielded, *]; done)); go_simp; refine hK _ ?_; clear hK K)
              first | (refine Ord.St.fl2 (T' := ?_) 21 [22, 23, 24, 25, 26, 27] _ _ rfl (by kernel_rfl) ?_ rfl rfl rfl (fun K w' hk => ?_) ?_; rotate_left; (first | rfl | (simp [Region.wanted, yielded, *]; done)); focus (go_step; exact hk)) | (refine Ord.St.skip 21 [22, 23, 24, 25, 26, 27] _ rfl (by kernel_rfl) ?_ (fun K hK => ?_); (first | rfl | (simp [Region.wanted, yielded, *]; done)); go_simp; refine hK _ ?_; clear hK K)
              first | (refine Ord.St.fl2 (T' := ?_) 22 [23, 24, 25, 26, 27] _ _ rfl (by kernel_rfl) ?_ rfl rfl rfl (fun K w' hk => ?_) ?_; rotate_left; (first | rfl | (simp [Region.wanted, yielded, *]; done)); focus (go_step; exact hk)) | (refine Ord.St.skip 22 [23, 24, 25, 26, 27] _ rfl (by kernel_rfl) ?_ (fun K hK => ?_); (first | rfl | (simp [Region.wanted, yielded, *]; done)); go_simp; refine hK _ ?_; clear hK K)
              first | (refine Ord.St.fl2 (T' := ?_) 23 [24, 25, 26, 27] _ _ rfl (by kernel_rfl) ?_ rfl rfl rfl (fun K w' hk => ?_) ?_; rotate_left; (first | rfl | (simp [Region.wanted, yielded, *]; done)); focus (go_step; exact hk)) | (refine Ord.St.skip 23 [24, 25, 26, 27] _ rfl (by kernel_rfl) ?_ (fun K hK => ?_); (first | rfl | (simp [Region.wanted, yielded, *]; done)); go_simp; refine hK _ ?_; clear hK K)
              first | (refine Ord.St.rd2 (T' := ?_) 24 [25, 26, 27] _ _ rfl (by kernel_rfl) ?_ rfl rfl rfl (fun K hk => ?_) ?_; rotate_left; (first | rfl | (simp [Region.wanted, yielded, *]; done)); focus (go_step; exact hk)) | (refine Ord.St.skipr 24 [25, 26, 27] _ rfl (by kernel_rfl) ?_ (fun K hK => ?_); (first | rfl | (simp [Region.wanted, yielded, *]; done)); go_simp; refine hK _ ?_; clear hK K)
              first | (refine Ord.St.fl2 (T' := ?_) 25 [26, 27] _ _ rfl (by kernel_rfl) ?_ rfl rfl rfl (fun K w' hk => ?_) ?_; rotate_left; (first | rfl | (simp [Region.wanted, yielded, *]; done)); focus (go_step; exact hk)) | (refine Ord.St.skip 25 [26, 27] _ rfl (by kernel_rfl) ?_ (fun K hK => ?_); (first | rfl | (simp [Region.wanted, yielded, *]; done)); go_simp; refine hK _ ?_; clear hK K)
              first | (refine Ord.St.fl2 (T' := ?_) 26 [27] _ _ rfl (by kernel_rfl) ?_ rfl rfl rfl (fun K w' hk => ?_) ?_; rotate_left; (first | rfl | (simp [Region.wanted, yielded, *]; done)); focus (go_step; exact hk)) | (refine Ord.St.skip 26 [27] _ rfl (by kernel_rfl) ?_ (fun K hK => ?_); (first | rfl | (simp [Region.wanted, yielded, *]; done)); go_simp; refine hK _ ?_; clear hK K)
              refine Ord.St.fl2 (T' := ?_) 27 [] _ _ rfl (by kernel_rfl) rfl rfl rfl rfl (fun K w' hk => ?_) ?_
              rotate_left
              · go_step; exact hk
              refine Ord.St.nil ?_
              go_wp2_with fail
              go_ret
              exact ⟨by rw [rising_not2 HY.out HX.out h3]; rfl, HC.out.drew⟩
            · have d3 : decide (x ≤ y) = false := decide_eq_false h3
              have hr1 : rising (m.take (j + 1 + 1)) = true := by
                rw [HT.out]
                refine rising_snoc HR.out (by omega) (fun i z h hz => ?_)
                rw [List.length_take, HN.out] at h
                obtain rfl : i = j := by omega
                rw [List.getElem?_take_of_lt (by omega), hy] at hz
                cases hz
                omega
              have HR1 := Lib.hid hr1; clear hr1 h1 h2 h3 hy
              go_wp2_with fail
              refine Ord.St.door (fun _ => True) [.fl, .fl, .fl, .rd, .fl, .fl, .fl, .fl, .fl, .rd, .fl, .fl, .fl, .fl, .fl, .fl, .fl, .fl, .fl, .rd, .fl, .fl, .fl, .fl, .rd, .fl, .fl, .fl] [0, 0, 3, 7, 15, 31, 63, 63, 255, 511, 1023, 2047, 4095, 8191, 16383, 32767, 65535, 65535, 262143, 524287, 65535, 65535, 2162687, 7405567, 15794175, 33554431, 67108863, 134217727] [0, 1, 2, 3, 4, 5, 6, 7, 8, 9, 10, 11, 12, 13, 14, 15, 16, 17, 18, 19, 20, 21, 22, 23, 24, 25, 26, 27] mixed (by kernel_rfl) rfl ?_
              refine Ord.St.fl2 (T' := ?_) 0 [1, 2, 3, 4, 5, 6, 7, 8, 9, 10, 11, 12, 13, 14, 15, 16, 17, 18, 19, 20, 21, 22, 23, 24, 25, 26, 27] _ _ rfl (by kernel_rfl) rfl rfl rfl rfl (fun K w' hk => ?_) ?_
              rotate_left
              · go_step; exact hk
              refine Ord.St.fl2 (T' := ?_) 1 [2, 3, 4, 5, 6, 7, 8, 9, 10, 11, 12, 13, 14, 15, 16, 17, 18, 19, 20, 21, 22, 23, 24, 25, 26, 27] _ _ rfl (by kernel_rfl) rfl rfl rfl rfl (fun K w' hk => ?_) ?_
              rotate_left
              · go_step; exact hk
              refine Ord.St.fl2 (T' := ?_) 2 [3, 4, 5, 6, 7, 8, 9, 10, 11, 12, 13, 14, 15, 16, 17, 18, 19, 20, 21, 22, 23, 24, 25, 26, 27] _ _ rfl (by kernel_rfl) rfl rfl rfl rfl (fun K w' hk => ?_) ?_
              rotate_left
              · go_step; exact hk
              refine Ord.St.rd2 (T' := ?_) 3 [4, 5, 6, 7, 8, 9, 10, 11, 12, 13, 14, 15, 16, 17, 18, 19, 20, 21, 22, 23, 24, 25, 26, 27] _ _ rfl (by kernel_rfl) rfl rfl rfl rfl (fun K hk => ?_) ?_
              rotate_left
              · go_step; exact hk
              refine Ord.St.fl2 (T' := ?_) 4 [5, 6, 7, 8, 9, 10, 11, 12, 13, 14, 15, 16, 17, 18, 19, 20, 21, 22, 23, 24, 25, 26, 27] _ _ rfl (by kernel_rfl) rfl rfl rfl rfl (fun K w' hk => ?_) ?_
              rotate_left
              · go_step; exact hk
              refine Ord.St.fl2 (T' := ?_) 5 [6, 7, 8, 9, 10, 11, 12, 13, 14, 15, 16, 17, 18, 19, 20, 21, 22, 23, 24, 25, 26, 27] _ _ rfl (by kernel_rfl) rfl rfl rfl rfl (fun K w' hk => ?_) ?_
              rotate_left
              · go_step; exact hk
              first | (refine Ord.St.fl2 (T' := ?_) 6 [7, 8, 9, 10, 11, 12, 13, 14, 15, 16, 17, 18, 19, 20, 21, 22, 23, 24, 25, 26, 27] _ _ rfl (by kernel_rfl) ?_ rfl rfl rfl (fun K w' hk => ?_) ?_; rotate_left; (first | rfl | (simp [Region.wanted, yielded, *]; done)); focus (go_step; exact hk)) | (refine Ord.St.skip 6 [7, 8, 9, 10, 11, 12, 13, 14, 15, 16, 17, 18, 19, 20, 21, 22, 23, 24, 25, 26, 27] _ rfl (by kernel_rfl) ?_ (fun K hK => ?_); (first | rfl | (simp [Region.wanted, yielded, *]; done)); go_simp; refine hK _ ?_; clear hK K)
              first | (refine Ord.St.fl2 (T' := ?_) 7 [8, 9, 10, 11, 12, 13, 14, 15, 16, 17, 18, 19, 20, 21, 22, 23, 24, 25, 26, 27] _ _ rfl (by kernel_rfl) ?_ rfl rfl rfl (fun K w' hk => ?_) ?_; rotate_left; (first | rfl | (simp [Region.wanted, yielded, *]; done)); focus (go_step; exact hk)) | (refine Ord.St.skip 7 [8, 9, 10, 11, 12, 13, 14, 15, 16, 17, 18, 19, 20, 21, 22, 23, 24, 25, 26, 27] _ rfl (by kernel_rfl) ?_ (fun K hK => ?_); (first | rfl | (simp [Region.wanted, yielded, *]; done)); go_simp; refine hK _ ?_; clear hK K)
              first | (refine Ord.St.fl2 (T' := ?_) 8 [9, 10, 11, 12, 13, 14, 15, 16, 17, 18, 19, 20, 21, 22, 23, 24, 25, 26, 27] _ _ rfl (by kernel_rfl) ?_ rfl rfl rfl (fun K w' hk => ?_) ?_; rotate_left; (first | rfl | (simp [Region.wanted, yielded, *]; done)); focus (go_step; exact hk)) | (refine Ord.St.skip 8 [9, 10, 11, 12, 13, 14, 15, 16, 17, 18, 19, 20, 21, 22, 23, 24, 25, 26, 27] _ rfl (by kernel_rfl) ?_ (fun K hK => ?_); (first | rfl | (simp [Region.wanted, yielded, *]; done)); go_simp; refine hK _ ?_; clear hK K)
              first | (refine Ord.St.rd2 (T' := ?_) 9 [10, 11, 12, 13, 14, 15, 16, 17, 18, 19, 20, 21, 22, 23, 24, 25, 26, 27] _ _ rfl (by kernel_rfl) ?_ rfl rfl rfl (fun K hk => ?_) ?_; rotate_left; (first | rfl | (simp [Region.wanted, yielded, *]; done)); focus (go_step; exact hk)) | (refine Ord.St.skipr 9 [10, 11, 12, 13, 14, 15, 16, 17, 18, 19, 20, 21, 22, 23, 24, 25, 26, 27] _ rfl (by kernel_rfl) ?_ (fun K hK => ?_); (first | rfl | (simp [Region.wanted, yielded, *]; done)); go_simp; refine hK _ ?_; clear hK K)
              first | (refine Ord.St.fl2 (T' := ?_) 10 [11, 12, 13, 14, 15, 16, 17, 18, 19, 20, 21, 22, 23, 24, 25, 26, 27] _ _ rfl (by kernel_rfl) ?_ rfl rfl rfl (fun K w' hk => ?_) ?_; rotate_left; (first | rfl | (simp [Region.wanted, yielded, *]; done)); focus (go_step; exact hk)) | (refine Ord.St.skip 10 [11, 12, 13, 14, 15, 16, 17, 18, 19, 20, 21, 22, 23, 24, 25, 26, 27] _ rfl (by kernel_rfl) ?_ (fun K hK => ?_); (first | rfl | (simp [Region.wanted, yielded, *]; done)); go_simp; refine hK _ ?_; clear hK K)
              refine Ord.St.fl2 (T' := ?_) 11 [12, 13, 14, 15, 16, 17, 18, 19, 20, 21, 22, 23, 24, 25, 26, 27] _ _ rfl (by kernel_rfl) rfl rfl rfl rfl (fun K w' hk => ?_) ?_
              rotate_left
              · go_step; exact hk
              refine Ord.St.fl2 (T' := ?_) 12 [13, 14, 15, 16, 17, 18, 19, 20, 21, 22, 23, 24, 25, 26, 27] _ _ rfl (by kernel_rfl) rfl rfl rfl rfl (fun K w' hk => ?_) ?_
              rotate_left
              · go_step; exact hk
              first | (refine Ord.St.fl2 (T' := ?_) 13 [14, 15, 16, 17, 18, 19, 20, 21, 22, 23, 24, 25, 26, 27] _ _ rfl (by kernel_rfl) ?_ rfl rfl rfl (fun K w' hk => ?_) ?_; rotate_left; (first | rfl | (simp [Region.wanted, yielded, *]; done)); focus (go_step; exact hk)) | (refine Ord.St.skip 13 [14, 15, 16, 17, 18, 19, 20, 21, 22, 23, 24, 25, 26, 27] _ rfl (by kernel_rfl) ?_ (fun K hK => ?_); (first | rfl | (simp [Region.wanted, yielded, *]; done)); go_simp; refine hK _ ?_; clear hK K)
              first | (refine Ord.St.fl2 (T' := ?_) 14 [15, 16, 17, 18, 19, 20, 21, 22, 23, 24, 25, 26, 27] _ _ rfl (by kernel_rfl) ?_ rfl rfl rfl (fun K w' hk => ?_) ?_; rotate_left; (first | rfl | (simp [Region.wanted, yielded, *]; done)); focus (go_step; exact hk)) | (refine Ord.St.skip 14 [15, 16, 17, 18, 19, 20, 21, 22, 23, 24, 25, 26, 27] _ rfl (by kernel_rfl) ?_ (fun K hK => ?_); (first | rfl | (simp [Region.wanted, yielded, *]; done)); go_simp; refine hK _ ?_; clear hK K)
              first | (refine Ord.St.fl2 (T' := ?_) 15 [16, 17, 18, 19, 20, 21, 22, 23, 24, 25, 26, 27] _ _ rfl (by kernel_rfl) ?_ rfl rfl rfl (fun K w' hk => ?_) ?_; rotate_left; (first | rfl | (simp [Region.wanted, yielded, *]; done)); focus (go_step; exact hk)) | (refine Ord.St.skip 15 [16, 17, 18, 19, 20, 21, 22, 23, 24, 25, 26, 27] _ rfl (by kernel_rfl) ?_ (fun K hK => ?_); (first | rfl | (simp [Region.wanted, yielded, *]; done)); go_simp; refine hK _ ?_; clear hK K)
              first | (refine Ord.St.fl2 (T' := ?_) 16 [17, 18, 19, 20, 21, 22, 23, 24, 25, 26, 27] _ _ rfl (by kernel_rfl) ?_ rfl rfl rfl (fun K w' hk => ?_) ?_; rotate_left; (first | rfl | (simp [Region.wanted, yielded, *]; done)); focus (go_step; exact hk)) | (refine Ord.St.skip 16 [17, 18, 19, 20, 21, 22, 23, 24, 25, 26, 27] _ rfl (by kernel_rfl) ?_ (fun K hK => ?_); (first | rfl | (simp [Region.wanted, yielded, *]; done)); go_simp; refine hK _ ?_; clear hK K)
              first | (refine Ord.St.fl2 (T' := ?_) 17 [18, 19, 20, 21, 22, 23, 24, 25, 26, 27] _ _ rfl (by kernel_rfl) ?_ rfl rfl rfl (fun K w' hk => ?_) ?_; rotate_left; (first | rfl | (simp [Region.wanted, yielded, *]; done)); focus (go_step; exact hk)) | (refine Ord.St.skip 17 [18, 19, 20, 21, 22, 23, 24, 25, 26, 27] _ rfl (by kernel_rfl) ?_ (fun K hK => ?_); (first | rfl | (simp [Region.wanted, yielded, *]; done)); go_simp; refine hK _ ?_; clear hK K)
              first | (refine Ord.St.fl2 (T' := ?_) 18 [19, 20, 21, 22, 23, 24, 25, 26, 27] _ _ rfl (by kernel_rfl) ?_ rfl rfl rfl (fun K w' hk => ?_) ?_; rotate_left; (first | rfl | (simp [Region.wanted, yielded, *]; done)); focus (go_step; exact hk)) | (refine Ord.St.skip 18 [19, 20, 21, 22, 23, 24, 25, 26, 27] _ rfl (by kernel_rfl) ?_ (fun K hK => ?_); (first | rfl | (simp [Region.wanted, yielded, *]; done)); go_simp; refine hK _ ?_; clear hK K)
              first | (refine Ord.St.rd2 (T' := ?_) 19 [20, 21, 22, 23, 24, 25, 26, 27] _ _ rfl (by kernel_rfl) ?_ rfl rfl rfl (fun K hk => ?_) ?_; rotate_left; (first | rfl | (simp [Region.wanted, yielded, *]; done)); focus (go_step; exact hk)) | (refine Ord.St.skipr 19 [20, 21, 22, 23, 24, 25, 26, 27] _ rfl (by kernel_rfl) ?_ (fun K hK => ?_); (first | rfl | (simp [Region.wanted, yielded, *]; done)); go_simp; refine hK _ ?_; clear hK K)
              first | (refine Ord.St.fl2 (T' := ?_) 20 [21, 22, 23, 24, 25, 26, 27] _ _ rfl (by kernel_rfl) ?_ rfl rfl rfl (fun K w' hk => ?_) ?_; rotate_left; (first | rfl | (simp [Region.wanted, yielded, *]; done)); focus (go_step; exact hk)) | (refine Ord.St.skip 20 [21, 22, 23, 24, 25, 26, 27] _ rfl (by kernel_rfl) ?_ (fun K hK => ?_); (first | rfl | (simp [Region.wanted, yielded, *]; done)); go_simp; refine hK _ ?_; clear hK K)
              first | (refine Ord.St.fl2 (T' := ?_) 21 [22, 23, 24, 25, 26, 27] _ _ rfl (by kernel_rfl) ?_ rfl rfl rfl (fun K w' hk => ?_) ?_; rotate_left; (first | rfl | (simp [Region.wanted, yielded, *]; done)); focus (go_step; exact hk)) | (refine Ord.St.skip 21 [22, 23, 24, 25, 26, 27] _ rfl (by kernel_rfl) ?_ (fun K hK => ?_); (first | rfl | (simp [Region.wanted, yielded, *]; done)); go_simp; refine hK _ ?_; clear hK K)
              first | (refine Ord.St.fl2 (T' := ?_) 22 [23, 24, 25, 26, 27] _ _ rfl (by kernel_rfl) ?_ rfl rfl rfl (fun K w' hk => ?_) ?_; rotate_left; (first | rfl | (simp [Region.wanted, yielded, *]; done)); focus (go_step; exact hk)) | (refine Ord.St.skip 22 [23, 24, 25, 26, 27] _ rfl (by kernel_rfl) ?_ (fun K hK => ?_); (first | rfl | (simp [Region.wanted, yielded, *]; done)); go_simp; refine hK _ ?_; clear hK K)
              first | (refine Ord.St.fl2 (T' := ?_) 23 [24, 25, 26, 27] _ _ rfl (by kernel_rfl) ?_ rfl rfl rfl (fun K w' hk => ?_) ?_; rotate_left; (first | rfl | (simp [Region.wanted, yielded, *]; done)); focus (go_step; exact hk)) | (refine Ord.St.skip 23 [24, 25, 26, 27] _ rfl (by kernel_rfl) ?_ (fun K hK => ?_); (first | rfl | (simp [Region.wanted, yielded, *]; done)); go_simp; refine hK _ ?_; clear hK K)
              first | (refine Ord.St.rd2 (T' := ?_) 24 [25, 26, 27] _ _ rfl (by kernel_rfl) ?_ rfl rfl rfl (fun K hk => ?_) ?_; rotate_left; (first | rfl | (simp [Region.wanted, yielded, *]; done)); focus (go_step; exact hk)) | (refine Ord.St.skipr 24 [25, 26, 27] _ rfl (by kernel_rfl) ?_ (fun K hK => ?_); (first | rfl | (simp [Region.wanted, yielded, *]; done)); go_simp; refine hK _ ?_; clear hK K)
              first | (refine Ord.St.fl2 (T' := ?_) 25 [26, 27] _ _ rfl (by kernel_rfl) ?_ rfl rfl rfl (fun K w' hk => ?_) ?_; rotate_left; (first | rfl | (simp [Region.wanted, yielded, *]; done)); focus (go_step; exact hk)) | (refine Ord.St.skip 25 [26, 27] _ rfl (by kernel_rfl) ?_ (fun K hK => ?_); (first | rfl | (simp [Region.wanted, yielded, *]; done)); go_simp; refine hK _ ?_; clear hK K)
              first | (refine Ord.St.fl2 (T' := ?_) 26 [27] _ _ rfl (by kernel_rfl) ?_ rfl rfl rfl (fun K w' hk => ?_) ?_; rotate_left; (first | rfl | (simp [Region.wanted, yielded, *]; done)); focus (go_step; exact hk)) | (refine Ord.St.skip 26 [27] _ rfl (by kernel_rfl) ?_ (fun K hK => ?_); (first | rfl | (simp [Region.wanted, yielded, *]; done)); go_simp; refine hK _ ?_; clear hK K)
              refine Ord.St.fl2 (T' := ?_) 27 [] _ _ rfl (by kernel_rfl) rfl rfl rfl rfl (fun K w' hk => ?_) ?_
              rotate_left
              · go_step; exact hk
              refine Ord.St.nil ?_
              go_wp2_with fail
              go_roundw
              case rel => exact ⟨j + 2, by omega, by go_num, HC.out.drew, HR1.out⟩
              case measure => simp [intOf]; omega
    · have hkn : k = n := by omega
      subst hkn
      rw [List.take_of_length_le (by have := HN.out; omega)] at hr
      have HR := Lib.hid hr; clear hr
      go_wp2_with fail
      go_ret
      exact ⟨by rw [HR.out]; rfl, HC.out⟩
end Go.Proofs.Ytkedpifopclipaa
namespace Go.Proofs.Ytkedpifopclipaa
open Go.RowKit Go.Mem Go.Aig
set_option maxRecDepth 100000 in
set_option maxHeartbeats 4000000 in
theorem r27Lit_is {w : World} {a : Option Addr} {m : List Int} (n c : Nat) (hn : m.length = n) (hnl : n ≤ 1000000) (hS : Sl w a m) (r : Int) (hr : -9223372036854775808 ≤ r ∧ r ≤ 9223372036854775807) :
    Calls Try.prog 153 #[.slice a n c, .int .i64 r] w fun e w' => e = .returned (.int .i64 (litF m r)) ∧ Ch [] w w' := by
  have HRI := Lib.hid (r27Rising_is n c hn hnl hS)
  obtain ⟨E, hE⟩ : ∃ E, litF m r = E := ⟨_, rfl⟩
  rw [hE]
  have HE := Lib.hid hE; clear hE
  have HS := Lib.hid hS; clear hS
  have HN := Lib.hid hn; clear hn
  go_enter Try.func153, Try.ntmps153
  go_wp2_with fail
  refine HRI.out.mono ?_
  rintro e w1 ⟨rfl, hc1⟩
  have HC1 := Lib.hid hc1; clear hc1 HRI
  cases hri : rising m
  · have hz : E = 0 := by rw [← HE.out]; unfold litF; rw [if_neg (by rw [hri]; simp)]
    subst hz
    clear hri
    go_wp2_with fail
    go_ret
    exact ⟨rfl, HC1.out⟩
  by_cases h0 : r < 0
  · have hz : E = 0 := by rw [← HE.out]; unfold litF; rw [if_neg (by omega)]
    have d1 : decide (r < 0) = true := decide_eq_true h0
    subst hz
    clear hri
    go_wp2_with fail
    go_ret
    exact ⟨rfl, HC1.out⟩
  have hz : E = litOf m r := by rw [← HE.out]; unfold litF; rw [if_pos ⟨hri, by omega⟩]
  have d1 : decide (r < 0) = false := decide_eq_false h0
  obtain ⟨q, hq⟩ : ∃ q, r / 2 = q := ⟨_, rfl⟩
  have hq0 : 0 ≤ q ∧ q ≤ 9223372036854775807 := by omega
  have hp := ((rising_iff m).1 hri).2
  have HEZ := Lib.hid hz
  have HP := Lib.hid hp; clear hp hz hri HE
  have HQ := Lib.hid hq
  go_wp2_with fail
  go_loopw [5] (fun i wr => ∃ k : Nat, k ≤ n ∧ i = .int .i64 k ∧ Ch [] w wr ∧ ∀ j, j < k → m[j]? ≠ some q) (fun i _ => n - (intOf i).toNat)
  case atStart => exact ⟨0, by omega, rfl, HC1.out, fun j h => by omega⟩
  case round =>
    clear HC1
    obtain ⟨k, hk, rfl, hc, hno⟩ := hrel
    have HSW := Lib.hid (HS.out.ch hc (by simp))
    have HC := Lib.hid hc; clear hc
    have HNO := Lib.hid hno; clear hno
    have d5 : decide ((k : Int) < 1048576) = true := decide_eq_true (by omega)
    by_cases hlt : k < n
    · obtain ⟨x, hx⟩ : ∃ x, m[k]? = some x := ⟨_, List.getElem?_eq_getElem (by have := HN.out; omega)⟩
      obtain ⟨xb, xo, rfl, hcl⟩ := HSW.out.cells k x hx
      have HX := Lib.hid hx; clear hx
      by_cases h1 : x = q
      · have hv : varOf m (r / 2) = k + 1 := varOf_at HP.out (by rw [HX.out, h1, HQ.out])
        have d2 : (x == q) = true := by rw [h1]; simp
        by_cases h2 : r % 2 = 1
        · have d3 : (r % 2 == 1) = true := by rw [h2]; rfl
          have hz : litOf m r = -(k : Int) - 1 := by unfold litOf; rw [if_pos h2, hv]; omega
          have HZ := Lib.hid hz; clear hz hv h1
          go_wp2_with fail
          go_ret
          exact ⟨by rw [HEZ.out, HZ.out]; rfl, HC.out⟩
        · have d3 : (r % 2 == 1) = false := by rw [beq_eq_false_iff_ne]; exact h2
          have hz : litOf m r = (k : Int) + 1 := by unfold litOf; rw [if_neg h2, hv]; omega
          have HZ := Lib.hid hz; clear hz hv h1
          go_wp2_with fail
          go_ret
          exact ⟨by rw [HEZ.out, HZ.out]; rfl, HC.out⟩
      · have d2 : (x == q) = false := by rw [beq_eq_false_iff_ne]; exact h1
        go_wp2_with fail
        go_roundw
        case rel =>
          refine ⟨k + 1, by omega, by go_num, HC.out, fun j h => ?_⟩
          by_cases e : j = k
          · subst e; rw [HX.out]; simpa using h1
          · exact HNO.out j (by omega)
        case measure => simp [intOf]; omega
    · have hkn : k = n := by omega
      subst hkn
      have hz : litOf m r = 0 := (litOf_zero m r).2 (varOf_none (fun h => by
        obtain ⟨i, hi⟩ := List.getElem?_of_mem h
        have h5 := (List.getElem?_eq_some_iff.1 hi).1
        exact HNO.out i (by rw [← HN.out]; exact h5) (by rw [hi, HQ.out])))
      have HZ := Lib.hid hz; clear hz
      go_wp2_with fail
      go_ret
      exact ⟨by rw [HEZ.out, HZ.out]; rfl, HC.out⟩
end Go.Proofs.Ytkedpifopclipaa
namespace Go.Aig
theorem refF_no {m : List Int} {l : Int} (h : rising m = false ∨ l.natAbs < 1 ∨ m.length < l.natAbs ∨ 1048576 < l.natAbs) : refF m l = -1 := by
  unfold refF
  rw [if_neg]
  rintro ⟨h1, h2, h3, h4⟩
  rcases h with h | h | h | h
  · rw [h1] at h; cases h
  all_goals omega
theorem refF_yes {m : List Int} {l : Int} {j : Nat} {x : Int} (hr : rising m = true) (ha : l.natAbs = j + 1) (hx : m[j]? = some x) (hb : j < 1048576) : refF m l = 2 * x + (if l < 0 then 1 else 0) := by
  unfold refF
  have h5 := (List.getElem?_eq_some_iff.1 hx).1
  rw [if_pos ⟨hr, by omega, by omega, by omega⟩, ha, Nat.add_sub_cancel, List.getD_eq_getElem?_getD, hx]
  rfl
end Go.Aig
namespace Go.Proofs.Ytkedpifopclipaa
open Go.RowKit Go.Mem Go.Aig
set_option maxRecDepth 100000 in
set_option maxHeartbeats 4000000 in
theorem r27Ref_pos {w : World} {a : Option Addr} {m : List Int} (n c : Nat) (hn : m.length = n) (hnl : n ≤ 1000000) (hS : Sl w a m) (A : Nat) (hA : A ≤ 9223372036854775807) :
    Calls Try.prog 158 #[.slice a n c, .int .i64 ((A : Int))] w fun e w' => e = .returned (.int .i64 (refF m ((A : Int)))) ∧ Ch [] w w' := by
  have HRI := Lib.hid (r27Rising_is n c hn hnl hS)
  obtain ⟨E, hE⟩ : ∃ E, refF m ((A : Int)) = E := ⟨_, rfl⟩
  rw [hE]
  have hab : (((A : Int)) : Int).natAbs = A := by omega
  have HAB := Lib.hid hab; clear hab
  have HE := Lib.hid hE; clear hE
  have HS := Lib.hid hS; clear hS
  have HN := Lib.hid hn; clear hn
  have dn : decide (((A : Int)) < (0 : Int)) = false := by exact decide_eq_false (by omega)
  go_enter Try.func158, Try.ntmps158
  go_wp2_with fail
  refine HRI.out.mono ?_
  rintro e w1 ⟨rfl, hc1⟩
  have HC1 := Lib.hid hc1; clear hc1 HRI
  cases hri : rising m
  · have hz : E = -1 := by rw [← HE.out]; exact refF_no (.inl hri)
    subst hz
    clear hri
    go_wp2_with fail
    go_ret
    exact ⟨rfl, HC1.out⟩
  by_cases h1 : A < 1
  · have hz : E = -1 := by rw [← HE.out]; exact refF_no (.inr (.inl (by rw [HAB.out]; exact h1)))
    have d1 : decide ((A : Int) < 1) = true := decide_eq_true (by omega)
    subst hz
    clear hri
    go_wp2_with fail
    go_ret
    exact ⟨rfl, HC1.out⟩
  have d1 : decide ((A : Int) < 1) = false := decide_eq_false (by omega)
  by_cases h2 : n < A
  · have hz : E = -1 := by rw [← HE.out]; exact refF_no (.inr (.inr (.inl (by rw [HAB.out, HN.out]; exact h2))))
    have d2 : decide ((n : Int) < (A : Int)) = true := decide_eq_true (by omega)
    subst hz
    clear hri
    go_wp2_with fail
    go_ret
    exact ⟨rfl, HC1.out⟩
  have d2 : decide ((n : Int) < (A : Int)) = false := decide_eq_false (by omega)
  have d3 : decide ((1048576 : Int) < (A : Int)) = false := decide_eq_false (by omega)
  clear d1 d2 d3
  have hjn : A - 1 < n := by omega
  obtain ⟨j, rfl⟩ : ∃ j, A = j + 1 := ⟨A - 1, by omega⟩
  rw [Nat.add_sub_cancel] at hjn
  have d1 : decide ((j : Int) + 1 < 1) = false := decide_eq_false (by omega)
  have d2 : decide ((n : Int) < (j : Int) + 1) = false := decide_eq_false (by omega)
  have d3 : decide ((1048576 : Int) < (j : Int) + 1) = false := decide_eq_false (by omega)
  obtain ⟨x, hx⟩ : ∃ x, m[j]? = some x := ⟨_, List.getElem?_eq_getElem (by have := HN.out; omega)⟩
  have hxb := ((rising_iff m).1 hri).1 x (List.mem_of_getElem? hx)
  have hz : E = 2 * x + 0 := by
    rw [← HE.out, refF_yes hri HAB.out hx (by omega)]
    rw [if_neg (by omega)]
  obtain ⟨xb, xo, rfl, hcl⟩ := (HS.out.ch HC1.out (by simp)).cells j x hx
  have HZ := Lib.hid hz; clear hz hx hri h1 h2
  go_wp2_with fail
  go_ret
  exact ⟨by rw [HZ.out]; simp, HC1.out⟩
set_option maxRecDepth 100000 in
set_option maxHeartbeats 4000000 in
theorem r27Ref_neg {w : World} {a : Option Addr} {m : List Int} (n c : Nat) (hn : m.length = n) (hnl : n ≤ 1000000) (hS : Sl w a m) (A : Nat) (hA : 0 < A ∧ A ≤ 9223372036854775807) :
    Calls Try.prog 158 #[.slice a n c, .int .i64 (-(A : Int))] w fun e w' => e = .returned (.int .i64 (refF m (-(A : Int)))) ∧ Ch [] w w' := by
  have HRI := Lib.hid (r27Rising_is n c hn hnl hS)
  obtain ⟨E, hE⟩ : ∃ E, refF m (-(A : Int)) = E := ⟨_, rfl⟩
  rw [hE]
  have hab : ((-(A : Int)) : Int).natAbs = A := by omega
  have HAB := Lib.hid hab; clear hab
  have HE := Lib.hid hE; clear hE
  have HS := Lib.hid hS; clear hS
  have HN := Lib.hid hn; clear hn
  have dn : decide ((-(A : Int)) < (0 : Int)) = true := by exact decide_eq_true (by omega)
  go_enter Try.func158, Try.ntmps158
  go_wp2_with fail
  refine HRI.out.mono ?_
  rintro e w1 ⟨rfl, hc1⟩
  have HC1 := Lib.hid hc1; clear hc1 HRI
  cases hri : rising m
  · have hz : E = -1 := by rw [← HE.out]; exact refF_no (.inl hri)
    subst hz
    clear hri
    go_wp2_with fail
    go_ret
    exact ⟨rfl, HC1.out⟩
  by_cases h1 : A < 1
  · have hz : E = -1 := by rw [← HE.out]; exact refF_no (.inr (.inl (by rw [HAB.out]; exact h1)))
    have d1 : decide ((A : Int) < 1) = true := decide_eq_true (by omega)
    subst hz
    clear hri
    go_wp2_with fail
    go_ret
    exact ⟨rfl, HC1.out⟩
  have d1 : decide ((A : Int) < 1) = false := decide_eq_false (by omega)
  by_cases h2 : n < A
  · have hz : E = -1 := by rw [← HE.out]; exact refF_no (.inr (.inr (.inl (by rw [HAB.out, HN.out]; exact h2))))
    have d2 : decide ((n : Int) < (A : Int)) = true := decide_eq_true (by omega)
    subst hz
    clear hri
    go_wp2_with fail
    go_ret
    exact ⟨rfl, HC1.out⟩
  have d2 : decide ((n : Int) < (A : Int)) = false := decide_eq_false (by omega)
  have d3 : decide ((1048576 : Int) < (A : Int)) = false := decide_eq_false (by omega)
  clear d1 d2 d3
  have hjn : A - 1 < n := by omega
  obtain ⟨j, rfl⟩ : ∃ j, A = j + 1 := ⟨A - 1, by omega⟩
  rw [Nat.add_sub_cancel] at hjn
  have d1 : decide ((j : Int) + 1 < 1) = false := decide_eq_false (by omega)
  have d2 : decide ((n : Int) < (j : Int) + 1) = false := decide_eq_false (by omega)
  have d3 : decide ((1048576 : Int) < (j : Int) + 1) = false := decide_eq_false (by omega)
  obtain ⟨x, hx⟩ : ∃ x, m[j]? = some x := ⟨_, List.getElem?_eq_getElem (by have := HN.out; omega)⟩
  have hxb := ((rising_iff m).1 hri).1 x (List.mem_of_getElem? hx)
  have hz : E = 2 * x + 1 := by
    rw [← HE.out, refF_yes hri HAB.out hx (by omega)]
    rw [if_pos (by omega)]
  obtain ⟨xb, xo, rfl, hcl⟩ := (HS.out.ch HC1.out (by simp)).cells j x hx
  have HZ := Lib.hid hz; clear hz hx hri h1 h2
  go_wp2_with fail
  go_ret
  exact ⟨by rw [HZ.out]; rfl, HC1.out⟩
end Go.Proofs.Ytkedpifopclipaa
namespace Go.Proofs.Ytkedpifopclipaa
open Go.RowKit Go.Mem Go.Aig
theorem r27Ref_is {w : World} {a : Option Addr} {m : List Int} (n c : Nat) (hn : m.length = n) (hnl : n ≤ 1000000) (hS : Sl w a m) (l : Int) (hl : -1048576 ≤ l ∧ l ≤ 1048576) :
    Calls Try.prog 158 #[.slice a n c, .int .i64 l] w fun e w' => e = .returned (.int .i64 (refF m l)) ∧ Ch [] w w' := by
  by_cases h : 0 ≤ l
  · obtain ⟨A, rfl⟩ : ∃ A : Nat, l = (A : Int) := ⟨l.toNat, by omega⟩
    exact r27Ref_pos n c hn hnl hS A (by omega)
  · obtain ⟨A, rfl⟩ : ∃ A : Nat, l = -(A : Int) := ⟨(-l).toNat, by omega⟩
    exact r27Ref_neg n c hn hnl hS A (by omega)
theorem refF_low (m : List Int) (l : Int) : 0 ≤ refF m l ∨ refF m l = -1 := by
  unfold refF
  split
  · rename_i h
    have hr := (rising_iff m).1 h.1
    obtain ⟨x, hx⟩ : ∃ x, m[l.natAbs - 1]? = some x := ⟨_, List.getElem?_eq_getElem (by omega)⟩
    have := hr.1 x (List.mem_of_getElem? hx)
    rw [List.getD_eq_getElem?_getD, hx]
    simp only [Option.getD_some]
    left
    split <;> omega
  · exact .inr rfl
theorem refF_high (m : List Int) (l : Int) : refF m l ≤ 200000 := by
  unfold refF
  split
  · rename_i h
    have hr := (rising_iff m).1 h.1
    obtain ⟨x, hx⟩ : ∃ x, m[l.natAbs - 1]? = some x := ⟨_, List.getElem?_eq_getElem (by omega)⟩
    have := hr.1 x (List.mem_of_getElem? hx)
    rw [List.getD_eq_getElem?_getD, hx]
    simp only [Option.getD_some]
    split <;> omega
  · omega
theorem refF_far (m : List Int) {l : Int} (h : l < -1048576 ∨ 1048576 < l) : refF m l = -1 := by
  unfold refF
  rw [if_neg (by omega)]
set_option maxRecDepth 100000 in
set_option maxHeartbeats 4000000 in
theorem refs27_is {w : World} {a : Option Addr} {m : List Int} (n c : Nat) (hn : m.length = n) (hnl : n ≤ 100000) (hS : Sl w a m) (r l : Int) (hr : -9223372036854775808 ≤ r ∧ r ≤ 9223372036854775807) (hl : -9223372036854775808 ≤ l ∧ l ≤ 9223372036854775807) :
    Calls Try.prog 77 #[.slice a n c, .int .i64 r, .int .i64 l] w fun e w' => e = .returned (.bool true) ∧ Ch [] w w' := by
  have hL1 := fun (W : World) (hc : Ch [] w W) (x : Int) (hx : -9223372036854775808 ≤ x ∧ x ≤ 9223372036854775807) => tsLit_is (w := W) n c hn (by omega) (hS.ch hc (by simp)) x hx
  have hL2 := fun (W : World) (hc : Ch [] w W) (x : Int) (hx : -9223372036854775808 ≤ x ∧ x ≤ 9223372036854775807) => r27Lit_is (w := W) n c hn (by omega) (hS.ch hc (by simp)) x hx
  have hR1 := fun (W : World) (hc : Ch [] w W) (x : Int) (hx : -9223372036854775808 ≤ x ∧ x ≤ 9223372036854775807) => tsRef_is (w := W) n c hn (by omega) (hS.ch hc (by simp)) x hx
  have hR2 := fun (W : World) (hc : Ch [] w W) (x : Int) (hx : -1048576 ≤ x ∧ x ≤ 1048576) => r27Ref_is (w := W) n c hn (by omega) (hS.ch hc (by simp)) x hx
  have hlo := refF_low m
  have hhi := refF_high m
  have hfar := fun (x : Int) (h : x < -1048576 ∨ 1048576 < x) => refF_far m h
  have hll := fun x => litF_abs m x
  rw [hn] at hll
  have HL1 := Lib.hid hL1; clear hL1
  have HL2 := Lib.hid hL2; clear hL2
  have HR1 := Lib.hid hR1; clear hR1
  have HR2 := Lib.hid hR2; clear hR2
  have HLO := Lib.hid hlo; clear hlo
  have HHI := Lib.hid hhi; clear hhi
  have HFAR := Lib.hid hfar; clear hfar
  have HLL := Lib.hid hll; clear hll
  clear hS hn
  obtain ⟨xs, hxs⟩ : ∃ xs : List Int, xs = [r, -1, 0, 1, 2, 3, 4, 5, 7, 9] := ⟨_, rfl⟩
  have hxb : ∀ x ∈ xs, -9223372036854775808 ≤ x ∧ x ≤ 9223372036854775807 := by
    rw [hxs]
    intro x hx
    simp only [List.mem_cons, List.not_mem_nil, or_false] at hx
    omega
  obtain ⟨ys, hys⟩ : ∃ ys : List Int, ys = [l, -2, -1, 0, 1, 2, 3] := ⟨_, rfl⟩
  have hyb : ∀ x ∈ ys, -9223372036854775808 ≤ x ∧ x ≤ 9223372036854775807 := by
    rw [hys]
    intro x hx
    simp only [List.mem_cons, List.not_mem_nil, or_false] at hx
    omega
  have hxl : xs.length = 10 := by rw [hxs]; rfl
  have hyl : ys.length = 7 := by rw [hys]; rfl
  have HXB := Lib.hid hxb; clear hxb
  have HYB := Lib.hid hyb; clear hyb
  have HXL := Lib.hid hxl; clear hxl
  have HYL := Lib.hid hyl; clear hyl
  have hxc : intCells xs = [.int .i64 r, .int .i64 (-1), .int .i64 0, .int .i64 1, .int .i64 2, .int .i64 3, .int .i64 4, .int .i64 5, .int .i64 7, .int .i64 9] := by rw [hxs]; rfl
  have hyc : intCells ys = [.int .i64 l, .int .i64 (-2), .int .i64 (-1), .int .i64 0, .int .i64 1, .int .i64 2, .int .i64 3] := by rw [hys]; rfl
  have HXC := Lib.hid hxc; clear hxc
  have HYC := Lib.hid hyc; clear hyc
  clear hxs hys
  go_enter Try.func77, Try.ntmps77
  go_upto_region 2 with fail
  refine wp_named fun W1 hW1 => ?_
  have hb := alw_blk (xs := [.int .i64 r, .int .i64 (-1), .int .i64 0, .int .i64 1, .int .i64 2, .int .i64 3, .int .i64 4, .int .i64 5, .int .i64 7, .int .i64 9]) hW1
  rw [← HXC.out] at hb
  have hc1 := alw_ch hW1
  clear hW1
  obtain ⟨bx, hbx⟩ : ∃ bx, bx = w.heap.size := ⟨_, rfl⟩
  rw [← hbx] at hb ⊢
  clear hbx
  have HB := Lib.hid hb; clear hb
  have HC1 := Lib.hid hc1; clear hc1
  go_wp2_with fail
  go_loopw [22] (fun i wr => ∃ k : Nat, k ≤ 10 ∧ i = .int .i64 k ∧ Ch [] W1 wr) (fun i _ => 10 - (intOf i).toNat)
  case atStart => exact ⟨0, by omega, rfl, Ch.refl _ _⟩
  case round =>
    obtain ⟨k, hk, rfl, hc⟩ := hrel
    by_cases hlt : k < 10
    · obtain ⟨x, hx⟩ : ∃ x, xs[k]? = some x := ⟨_, List.getElem?_eq_getElem (by rw [HXL.out]; exact hlt)⟩
      have hxb := HXB.out x (List.mem_of_getElem? hx)
      have c0 := (HB.out.ch hc (by simp)).cell (i := k) (v := .int .i64 x) (by unfold intCells; rw [List.getElem?_map, hx]; rfl)
      have dk : decide ((k : Int) < 10) = true := decide_eq_true (by omega)
      have h1 := HL1.out wr (HC1.out.trans hc (by simp)) x hxb
      have h2 := HL2.out wr (HC1.out.trans hc (by simp)) x hxb
      have hll := HLL.out x
      generalize litF m x = A at *
      have H1 := Lib.hid h1; clear h1
      have H2 := Lib.hid h2; clear h2
      have HC := Lib.hid hc; clear hc hx
      by_cases hA : A = 0
      · have q1 : (A != 0) = false := by rw [hA]; rfl
        have h1 := H1.out
        rw [q1] at h1
        have H1 := Lib.hid h1; clear h1
        have hA2 := Lib.hid hA; clear hA
        go_wp2_with fail
        refine H1.out.mono ?_
        rintro e w' ⟨rfl, rfl⟩
        go_wp2_with fail
        refine H2.out.mono ?_
        rintro e w2 ⟨rfl, hcs⟩
        have HC2 := Lib.hid (HC.out.trans hcs (by simp)); clear hcs
        go_wp2_with fail
        go_roundw
        case rel => exact ⟨k + 1, by omega, by go_num, HC2.out⟩
        case measure => first | (simp [intOf]; done) | (simp [intOf]; omega)
      · have q1 : (A != 0) = true := by rw [bne_iff_ne]; exact hA
        have h1 := H1.out
        rw [q1] at h1
        have H1 := Lib.hid h1; clear h1
        have hA2 := Lib.hid hA; clear hA
        go_wp2_with fail
        refine H1.out.mono ?_
        rintro e w' ⟨rfl, rfl⟩
        go_wp2_with fail
        refine H2.out.mono ?_
        rintro e w2 ⟨rfl, hcs⟩
        have HC2 := Lib.hid (HC.out.trans hcs (by simp)); clear hcs
        go_wp2_with fail
        go_roundw
        case rel => exact ⟨k + 1, by omega, by go_num, HC2.out⟩
        case measure => first | (simp [intOf]; done) | (simp [intOf]; omega)
    · have HC := Lib.hid (HC1.out.trans hc (by simp)); clear hc HB HC1
      go_upto_region 10 with fail
      refine wp_named fun W2 hW2 => ?_
      have hb := alw_blk (xs := [.int .i64 l, .int .i64 (-2), .int .i64 (-1), .int .i64 0, .int .i64 1, .int .i64 2, .int .i64 3]) hW2
      rw [← HYC.out] at hb
      have hc1 := alw_ch hW2
      clear hW2
      obtain ⟨by2, hby⟩ : ∃ by2, by2 = wr.heap.size := ⟨_, rfl⟩
      rw [← hby] at hb ⊢
      clear hby
      have HB := Lib.hid hb; clear hb
      have HC1 := Lib.hid (HC.out.trans hc1 (by simp)); clear hc1 HC
      go_wp2_with fail
      go_loopw [48] (fun i wr => ∃ k : Nat, k ≤ 7 ∧ i = .int .i64 k ∧ Ch [] W2 wr) (fun i _ => 7 - (intOf i).toNat)
      case atStart => exact ⟨0, by omega, rfl, Ch.refl _ _⟩
      case round =>
        obtain ⟨k, hk, rfl, hc⟩ := hrel
        by_cases hlt : k < 7
        · obtain ⟨x, hx⟩ : ∃ x, ys[k]? = some x := ⟨_, List.getElem?_eq_getElem (by rw [HYL.out]; exact hlt)⟩
          have hxb := HYB.out x (List.mem_of_getElem? hx)
          have c0 := (HB.out.ch hc (by simp)).cell (i := k) (v := .int .i64 x) (by unfold intCells; rw [List.getElem?_map, hx]; rfl)
          have dk : decide ((k : Int) < 7) = true := decide_eq_true (by omega)
          have HC := Lib.hid hc; clear hc hx
          rcases (by omega : x < -1048576 ∨ (-1048576 ≤ x ∧ x ≤ 1048576) ∨ (¬ x < -1048576 ∧ 1048576 < x)) with h | h | h
          · have e1 : decide (x < -1048576) = true := decide_eq_true h
            have h1 := HR1.out wr (HC1.out.trans HC.out (by simp)) (0) (by omega)
            have h2 := HR2.out wr (HC1.out.trans HC.out (by simp)) (0) (by omega)
            have hlo := HLO.out (0)
            have hhi := HHI.out (0)
            generalize refF m (0) = E at *
            rcases hlo with hE | hE
            · have hmax : ∀ ats ty, Builtin.max_ ats ty #[.int .i64 E, .int .i64 0] = pure (.int .i64 E) := fun ats ty => by
                by_cases h9 : E = 0
                · subst h9; simp [Builtin.max_, Builtin.max2]
                · simp [Builtin.max_, Builtin.max2, show ¬ E < 0 by omega]
              have q1 : decide (0 ≤ E) = true := decide_eq_true hE
              rw [if_pos hE, q1] at h1
              have H1 := Lib.hid h1; clear h1
              have H2 := Lib.hid h2; clear h2
              go_wp2_with fail
              refine H1.out.mono ?_
              rintro e w' ⟨rfl, rfl⟩
              go_wp2_with fail
              refine H2.out.mono ?_
              rintro e w2 ⟨rfl, hcs⟩
              have HC2 := Lib.hid (HC.out.trans hcs (by simp)); clear hcs
              go_wp2_with fail
              go_roundw
              case rel => exact ⟨k + 1, by omega, by go_num, HC2.out⟩
              case measure => first | (simp [intOf]; done) | (simp [intOf]; omega)
            · subst hE
              have hmax : ∀ ats ty, Builtin.max_ ats ty #[.int .i64 (-1), .int .i64 0] = pure (.int .i64 0) := fun ats ty => by simp [Builtin.max_, Builtin.max2]
              rw [if_neg (by omega), show decide ((0 : Int) ≤ -1) = false from rfl] at h1
              have H1 := Lib.hid h1; clear h1
              have H2 := Lib.hid h2; clear h2
              go_wp2_with fail
              refine H1.out.mono ?_
              rintro e w' ⟨rfl, rfl⟩
              go_wp2_with fail
              refine H2.out.mono ?_
              rintro e w2 ⟨rfl, hcs⟩
              have HC2 := Lib.hid (HC.out.trans hcs (by simp)); clear hcs
              go_wp2_with fail
              go_roundw
              case rel => exact ⟨k + 1, by omega, by go_num, HC2.out⟩
              case measure => first | (simp [intOf]; done) | (simp [intOf]; omega)
          · have e1 : decide (x < -1048576) = false := decide_eq_false (by omega)
            have e2 : decide (1048576 < x) = false := decide_eq_false (by omega)
            have h1 := HR1.out wr (HC1.out.trans HC.out (by simp)) (x) (by omega)
            have h2 := HR2.out wr (HC1.out.trans HC.out (by simp)) (x) (by omega)
            have hlo := HLO.out (x)
            have hhi := HHI.out (x)
            generalize refF m (x) = E at *
            rcases hlo with hE | hE
            · have hmax : ∀ ats ty, Builtin.max_ ats ty #[.int .i64 E, .int .i64 0] = pure (.int .i64 E) := fun ats ty => by
                by_cases h9 : E = 0
                · subst h9; simp [Builtin.max_, Builtin.max2]
                · simp [Builtin.max_, Builtin.max2, show ¬ E < 0 by omega]
              have q1 : decide (0 ≤ E) = true := decide_eq_true hE
              rw [if_pos hE, q1] at h1
              have H1 := Lib.hid h1; clear h1
              have H2 := Lib.hid h2; clear h2
              go_wp2_with fail
              refine H1.out.mono ?_
              rintro e w' ⟨rfl, rfl⟩
              go_wp2_with fail
              refine H2.out.mono ?_
              rintro e w2 ⟨rfl, hcs⟩
              have HC2 := Lib.hid (HC.out.trans hcs (by simp)); clear hcs
              go_wp2_with fail
              go_roundw
              case rel => exact ⟨k + 1, by omega, by go_num, HC2.out⟩
              case measure => first | (simp [intOf]; done) | (simp [intOf]; omega)
            · subst hE
              have hmax : ∀ ats ty, Builtin.max_ ats ty #[.int .i64 (-1), .int .i64 0] = pure (.int .i64 0) := fun ats ty => by simp [Builtin.max_, Builtin.max2]
              rw [if_neg (by omega), show decide ((0 : Int) ≤ -1) = false from rfl] at h1
              have H1 := Lib.hid h1; clear h1
              have H2 := Lib.hid h2; clear h2
              go_wp2_with fail
              refine H1.out.mono ?_
              rintro e w' ⟨rfl, rfl⟩
              go_wp2_with fail
              refine H2.out.mono ?_
              rintro e w2 ⟨rfl, hcs⟩
              have HC2 := Lib.hid (HC.out.trans hcs (by simp)); clear hcs
              go_wp2_with fail
              go_roundw
              case rel => exact ⟨k + 1, by omega, by go_num, HC2.out⟩
              case measure => first | (simp [intOf]; done) | (simp [intOf]; omega)
          · have e1 : decide (x < -1048576) = false := decide_eq_false h.1
            have e2 : decide (1048576 < x) = true := decide_eq_true h.2
            have h1 := HR1.out wr (HC1.out.trans HC.out (by simp)) (0) (by omega)
            have h2 := HR2.out wr (HC1.out.trans HC.out (by simp)) (0) (by omega)
            have hlo := HLO.out (0)
            have hhi := HHI.out (0)
            generalize refF m (0) = E at *
            rcases hlo with hE | hE
            · have hmax : ∀ ats ty, Builtin.max_ ats ty #[.int .i64 E, .int .i64 0] = pure (.int .i64 E) := fun ats ty => by
                by_cases h9 : E = 0
                · subst h9; simp [Builtin.max_, Builtin.max2]
                · simp [Builtin.max_, Builtin.max2, show ¬ E < 0 by omega]
              have q1 : decide (0 ≤ E) = true := decide_eq_true hE
              rw [if_pos hE, q1] at h1
              have H1 := Lib.hid h1; clear h1
              have H2 := Lib.hid h2; clear h2
              go_wp2_with fail
              refine H1.out.mono ?_
              rintro e w' ⟨rfl, rfl⟩
              go_wp2_with fail
              refine H2.out.mono ?_
              rintro e w2 ⟨rfl, hcs⟩
              have HC2 := Lib.hid (HC.out.trans hcs (by simp)); clear hcs
              go_wp2_with fail
              go_roundw
              case rel => exact ⟨k + 1, by omega, by go_num, HC2.out⟩
              case measure => first | (simp [intOf]; done) | (simp [intOf]; omega)
            · subst hE
              have hmax : ∀ ats ty, Builtin.max_ ats ty #[.int .i64 (-1), .int .i64 0] = pure (.int .i64 0) := fun ats ty => by simp [Builtin.max_, Builtin.max2]
              rw [if_neg (by omega), show decide ((0 : Int) ≤ -1) = false from rfl] at h1
              have H1 := Lib.hid h1; clear h1
              have H2 := Lib.hid h2; clear h2
              go_wp2_with fail
              refine H1.out.mono ?_
              rintro e w' ⟨rfl, rfl⟩
              go_wp2_with fail
              refine H2.out.mono ?_
              rintro e w2 ⟨rfl, hcs⟩
              have HC2 := Lib.hid (HC.out.trans hcs (by simp)); clear hcs
              go_wp2_with fail
              go_roundw
              case rel => exact ⟨k + 1, by omega, by go_num, HC2.out⟩
              case measure => first | (simp [intOf]; done) | (simp [intOf]; omega)
        · have HC := Lib.hid (HC1.out.trans hc (by simp)); clear hc HB HC1
          by_cases hf : l < -1048576 ∨ 1048576 < l
          · have h1 := HR1.out wr HC.out l (by omega)
            rw [HFAR.out l hf, if_neg (by omega), show decide ((0 : Int) ≤ -1) = false from rfl] at h1
            have H1 := Lib.hid h1; clear h1
            by_cases h2 : l < -1048576
            · have e1 : decide (l < -1048576) = true := decide_eq_true h2
              go_wp2_with fail
              refine H1.out.mono ?_
              rintro e w' ⟨rfl, rfl⟩
              go_wp2_with fail
              go_ret
              exact ⟨rfl, HC.out⟩
            · have e1 : decide (l < -1048576) = false := decide_eq_false h2
              have e2 : decide (1048576 < l) = true := decide_eq_true (by omega)
              go_wp2_with fail
              refine H1.out.mono ?_
              rintro e w' ⟨rfl, rfl⟩
              go_wp2_with fail
              go_ret
              exact ⟨rfl, HC.out⟩
          · have e1 : decide (l < -1048576) = false := decide_eq_false (by omega)
            have e2 : decide (1048576 < l) = false := decide_eq_false (by omega)
            go_wp2_with fail
            go_ret
            exact ⟨rfl, HC.out⟩
end Go.Proofs.Ytkedpifopclipaa
namespace Go.Proofs.Ytkedpifopclipaa
open Go.RowKit Go.Mem Go.Aig
theorem eqSliceNil_CLints (w : World) (a : Option Addr) (n c : Nat) : (binOp .eql 23 (.slice a n c) (.slice none 0 0)).run Try.prog w = .ok (.bool a.isNone) w := by
  have h : Try.prog.underlying 23 = some (.slice 3) := Try.underlying23
  simp only [binOp]
  simp [run_equal_slice_nil w _ _ a n c h]
section
attribute [local go_sem] eqSliceNil_CLints
variable {w : World}
end
theorem EQmap_same {w : World} {a b : Option Addr} {n : Nat} {l : List Int} (ca cb : Nat) (hn : l.length = n) (hx : Sl w a l) (hy : Sl w b l) : Calls Try.prog 19 #[.slice a n ca, .slice b n cb] w fun e w' => e = .returned (.bool true) ∧ Ch [] w w' := by
  subst hn
  have := EQmap_is ca cb hx hy
  rw [decide_eq_true rfl] at this
  exact this
section
variable {w : World}
end
end Go.Proofs.Ytkedpifopclipaa
namespace Go.Proofs.Ytkedpifopclipaa
open Go.RowKit Go.Mem Go.Aig
set_option maxRecDepth 100000 in
set_option maxHeartbeats 4000000 in
theorem r27Map_is {w : World} {rb cap : Nat} {G : Gra} (h : RG w rb cap G) {a : Option Addr} {l : List Nat} (n acap : Nat) (hn : l.length = n) (hs : Sl w a (natInts l)) (hr : ∀ r ∈ l, r < 2 * G.nodes.length) (hm : n ≤ 1000000) :
    Calls Try.prog 152 #[.agg #[.int .i64 G.most, .slice (some ⟨rb, 0, none⟩) G.nodes.length cap], .slice a n acap] w fun e w' => ∃ v, e = .returned v ∧ row w' 3 1 v (mapN G.nodes l).length (intCells (natInts (mapN G.nodes l))) ∧ (∀ q ∈ v.ownBlock.toList, w.heap.size ≤ q) ∧ Ch [] w w' := by
  obtain ⟨hl, hp, hmo⟩ := h.len
  have hCO := fun (W : World) (hW : Ch [] w W) => rCone_is (h.ch hW (by simp)) (a := a) (l := l) n acap hn (hs.ch hW (by simp)) hr hm
  have hcb : ∀ d ∈ cone G.nodes l, d < G.nodes.length := fun d hd => ((mem_cone h.ok.wf l d).1 hd).1
  have hcl : (cone G.nodes l).length ≤ 65536 := by
    have : (cone G.nodes l).length ≤ G.nodes.length := by
      unfold cone coneDown
      rw [List.length_reverse]
      exact coneFrom_len _ _ _
    omega
  have hrl := h.lt
  have hmN : mapN G.nodes l = (cone G.nodes l).filter fun n => n != 0 := rfl
  obtain ⟨C, hC⟩ : ∃ C, cone G.nodes l = C := ⟨_, rfl⟩
  obtain ⟨M, hM⟩ : ∃ M, mapN G.nodes l = M := ⟨_, rfl⟩
  rw [hC] at hcl hmN
  rw [hM] at hmN ⊢
  simp only [hC] at hCO hcb
  clear hs hC hM hr
  have HCO := Lib.hid hCO; clear hCO
  have HCB := Lib.hid hcb; clear hcb
  have HMN := Lib.hid hmN; clear hmN
  obtain ⟨N, hNC⟩ : ∃ N, C.length = N := ⟨_, rfl⟩
  go_enter Try.func152, Try.ntmps152
  go_wp2_with fail
  refine calls_named fun W0 hW0 => ?_
  have hc0 : Ch [] w W0 := by rw [hW0]; exact (Ch.refl _ _).alloc _
  clear hW0
  refine (HCO.out W0 hc0).mono ?_
  rintro e w1 ⟨v, rfl, hrow, _, hc1⟩
  obtain ⟨ca, cc, rfl⟩ := row.shape hrow
  have hsv := row.sv hrow rfl (by omega)
  rw [hNC] at hcl ⊢
  have HNC := Lib.hid hNC; clear hNC
  have HSC := Lib.hid hsv; clear hsv
  have HC1 := Lib.hid (hc0.trans hc1 (by simp)); clear hrow hc1 hc0 HCO
  go_wp2_with fail
  go_loopw [6, 7] (fun o i wr => ∃ x j : Nat, x ≤ N ∧ j ≤ x ∧ i = .int .i64 x ∧ Ch [] w1 wr ∧ row wr 3 1 o j (intCells (natInts ((C.take x).filter fun n => n != 0))) ∧ ∀ q ∈ o.ownBlock.toList, w1.heap.size ≤ q) (fun _ i _ => N - (intOf i).toNat)
  case atStart => exact ⟨0, 0, by omega, by omega, rfl, Ch.refl _ _, ⟨rfl, .inl ⟨rfl, rfl⟩⟩, by simp⟩
  case round =>
    obtain ⟨x, j, hx, hjx, rfl, hc, hrow, hlo⟩ := hrel
    have HSW := Lib.hid (HSC.out.ch hc (by simp))
    obtain ⟨oa, oc, rfl⟩ := row.shape hrow
    by_cases hlt : x < N
    · obtain ⟨z, hz⟩ : ∃ z, C[x]? = some z := ⟨_, List.getElem?_eq_getElem (by rw [HNC.out]; exact hlt)⟩
      have hzb := HCB.out z (List.mem_of_getElem? hz)
      have hts : C.take (x + 1) = C.take x ++ [z] := by rw [List.take_add_one, hz]; rfl
      obtain ⟨xb, xo, rfl, hcl⟩ := HSW.out.cells x (.int .i64 z) (by simp [refsCells, hz])
      by_cases h0 : z = 0
      · have d1 : decide (0 < z) = false := decide_eq_false (by omega)
        have hrow2 : row wr 3 1 (.slice oa j oc) j (intCells (natInts ((C.take (x + 1)).filter fun n => n != 0))) := by
          rw [hts, List.filter_append]
          simpa [h0] using hrow
        have HROW := Lib.hid hrow2; clear hrow hrow2
        have HLO := Lib.hid hlo; clear hlo
        have HC := Lib.hid hc; clear hc hz hts h0
        go_wp2_with fail
        go_roundw
        case rel => exact ⟨x + 1, j, by omega, by omega, by go_num, HC.out, HROW.out, HLO.out⟩
        case measure => simp [intOf]; omega
      · have d1 : decide (0 < z) = true := decide_eq_true (by omega)
        have hsu : intCells (natInts ((C.take (x + 1)).filter fun n => n != 0)) = intCells (natInts ((C.take x).filter fun n => n != 0)) ++ [.int .i64 z] := by
          rw [hts, List.filter_append]
          simp [h0, intCells, natInts]
        have hcA : Ch [] wr (wr.alloc (.cells #[.int .i64 z] 3)) := (Ch.refl _ _).alloc _
        have hrA := hrow.ch hcA (by simp)
        have hbA : blk (wr.alloc (.cells #[.int .i64 z] 3)) wr.heap.size [.int .i64 z] := blk.new' _ _ rfl
        have HSU := Lib.hid hsu; clear hsu
        have HRA := Lib.hid hrA; clear hrA hrow
        have HBA := Lib.hid hbA; clear hbA
        have HCA := Lib.hid hcA; clear hcA
        have HLO := Lib.hid hlo; clear hlo hz hts h0
        have HC := Lib.hid hc; clear hc
        go_wp2_with (at_builtin; go_loud (refine wpList_append_row slInts rfl _ _ rfl (v := .slice oa j oc) (n := j) (xs := _) rfl HRA.out (ad := ⟨wr.heap.size, 0, none⟩) (m := 1) (c := 1) (news := [.int .i64 z]) rfl rfl (news_blk HBA.out) (by simp [Value.oneCell']) (by omega) (by omega) ?_; intro v' w4 hown4 hC4 hf4; obtain ⟨gb, gc, rfl⟩ := hown4.parts (by omega); have HO4 := Lib.hid hown4; clear hown4; have HCC4 := Lib.hid hC4; clear hC4; have HF4 := Lib.hid hf4; clear hf4))
        go_roundw
        case rel =>
          obtain ⟨q1, q2⟩ := app_step HC.out HCA.out HLO.out HCC4.out HF4.out
          refine ⟨x + 1, j + 1, by omega, by omega, by go_num, q1, ?_, q2⟩
          rw [HSU.out]; exact HO4.out
        case measure => simp [intOf]; omega
    · have hxN : x = N := by omega
      subst hxN
      rw [List.take_of_length_le (by rw [HNC.out]; omega), ← HMN.out] at hrow
      have hjM : j = M.length := by have := hrow.1; simpa [intCells] using this.symm
      have hz1 := HC1.out.size
      have HROW := Lib.hid hrow; clear hrow
      have HLO := Lib.hid hlo; clear hlo
      have HC := Lib.hid (HC1.out.trans hc (by simp)); clear hc
      go_wp2_with fail
      go_ret
      exact ⟨_, rfl, by rw [← hjM]; exact HROW.out, fun q hq => Nat.le_trans hz1 (HLO.out q hq), HC.out⟩
end Go.Proofs.Ytkedpifopclipaa
namespace Go.Proofs.Ytkedpifopclipaa
open Go.RowKit Go.Mem Go.Aig
theorem ClsIn.more56 {w : World} {O : List Nat} {es es' : List Value} {cls cls' : List (List Int)} (h : ClsIn w O es cls) (h' : ClsIn w O es' cls') : ClsIn w O (es ++ es') (cls ++ cls') :=
  ⟨by simp [h.len, h'.len], fun i c hi => by
    by_cases hlt : i < cls.length
    · rw [List.getElem?_append_left hlt] at hi
      obtain ⟨a, cc, h1, h2⟩ := h.each i c hi
      exact ⟨a, cc, by rw [List.getElem?_append_left (by rw [h.len]; exact hlt)]; exact h1, h2⟩
    · rw [List.getElem?_append_right (by omega)] at hi
      obtain ⟨a, cc, h1, h2⟩ := h'.each _ c hi
      exact ⟨a, cc, by rw [List.getElem?_append_right (by rw [h.len]; omega), h.len]; exact h1, h2⟩⟩
theorem ClsIn.nil56 (w : World) (O : List Nat) : ClsIn w O [] [] := ⟨rfl, by simp⟩
/-- a clause in a block of its own -/
theorem ClsIn.one56 {w : World} {O : List Nat} {b n : Nat} {c : List Int} (h : blk w b (intCells c)) (hn : c.length = n) (hm : n ≤ 1000000) (hO : b ∉ O) : ClsIn w O [.slice (some ⟨b, 0, none⟩) n n] [c] := by
  have := (ClsIn.nil56 w O).snoc (a := some ⟨b, 0, none⟩) (c := c) (cc := n) (by omega) (by omega) (Sl.of_blk h (by omega)) (fun p hp => by cases hp; exact ⟨h.lt, hO⟩)
  rw [hn] at this
  exact this
/-- clauses while they are put together: the box b has the number of variables and the slice v -/
structure CB (w : World) (T : TypeId) (b6 b m : Nat) (cls : List (List Int)) (v : Value) (es : List Value) (W : World) : Prop where
  k6 : blk W b6 [.int .i64 0, .slice none 0 0]
  k : blk W b [.int .i64 m, v]
  r : row W T 1 v cls.length es
  c : ClsIn W (b6 :: b :: v.ownBlock.toList) es cls
  own : ∀ q ∈ v.ownBlock.toList, b < q
  lt : b6 < b
  lo : w.heap.size ≤ b6
  ch : Ch [] w W
theorem CB.same {w : World} {T : TypeId} {b6 b m : Nat} {cls : List (List Int)} {v : Value} {es : List Value} {W W' : World} (h : CB w T b6 b m cls v es W) (hc : Ch [] W W') : CB w T b6 b m cls v es W' :=
  ⟨h.k6.ch hc (by simp), h.k.ch hc (by simp), h.r.ch hc (by simp), h.c.ch hc (by simp) (fun q hq => .inl hq), h.own, h.lt, h.lo, h.ch.trans hc (by simp)⟩
theorem CB.step {w : World} {T : TypeId} {b6 b m n : Nat} {cls : List (List Int)} {va : Option Addr} {vn vc : Nat} {es news : List Value} {ncs : List (List Int)} {W A w4 W' : World} {gb gc : Nat} (h : CB w T b6 b m cls (.slice va vn vc) es W) (hA : Ch [] W A) (hn : ClsIn A (b6 :: b :: (Value.slice va vn vc).ownBlock.toList) news ncs)
    (hl : n = (cls ++ ncs).length) (hr : row w4 T 1 (.slice (some ⟨gb, 0, none⟩) n gc) n (es ++ news)) (h4 : Ch (Value.slice va vn vc).ownBlock.toList A w4) (hf : ∀ q, (Value.slice (some ⟨gb, 0, none⟩) n gc).ownBlock = some q → (Value.slice va vn vc).ownBlock = some q ∨ A.heap.size ≤ q) (hW : W' = w4.setCell ⟨b, 1, none⟩ (.slice (some ⟨gb, 0, none⟩) n gc)) :
    CB w T b6 b m (cls ++ ncs) (.slice (some ⟨gb, 0, none⟩) n gc) (es ++ news) W' := by
  have hbl := h.k.lt
  have hvl : ∀ q ∈ (Value.slice va vn vc).ownBlock.toList, q < W.heap.size := fun q hq => (h.r.lt q (by simpa using hq)).2
  have hz := hA.size
  have hgb : gb ∈ (Value.slice va vn vc).ownBlock.toList ∨ A.heap.size ≤ gb := by
    rcases hf gb rfl with e | e
    · exact .inl (by rw [e]; simp)
    · exact .inr e
  have hgB : b < gb := by rcases hgb with e | e; exact h.own _ e; omega
  have hs : Ch [b] w4 W' := by rw [hW]; exact (Ch.refl _ _).setCell (.inl (by simp)) _
  have hWA := h.ch.size
  have hlt := h.lt
  have hlo := h.lo
  have hno : b ∉ (Value.slice va vn vc).ownBlock.toList := fun hin => by have := h.own _ hin; omega
  have hno6 : b6 ∉ (Value.slice va vn vc).ownBlock.toList := fun hin => by have := h.own _ hin; omega
  have hO' : ∀ q ∈ b6 :: b :: (Value.slice (some ⟨gb, 0, none⟩) n gc).ownBlock.toList, q ∈ b6 :: b :: (Value.slice va vn vc).ownBlock.toList ∨ A.heap.size ≤ q := fun q hq => by
    simp only [List.mem_cons, ownBlock_slice, Option.toList_some, List.not_mem_nil, or_false] at hq
    rcases hq with e | e | e
    · exact .inl (by simp [e])
    · exact .inl (by simp [e])
    · rcases hgb with e2 | e2
      · exact .inl (by rw [e]; exact List.mem_cons_of_mem _ (List.mem_cons_of_mem _ e2))
      · exact .inr (by omega)
  have hF : ∀ q ∈ (Value.slice va vn vc).ownBlock.toList, q ∈ b6 :: b :: (Value.slice va vn vc).ownBlock.toList ∨ A.heap.size ≤ q := fun q hq => .inl (List.mem_cons_of_mem _ (List.mem_cons_of_mem _ hq))
  refine ⟨?_, ?_, ?_, ?_, ?_, h.lt, h.lo, ?_⟩
  · exact ((h.k6.ch hA (by simp)).ch h4 hno6).ch hs (by simp; omega)
  · rw [hW]
    exact ((h.k.ch hA (by simp)).ch h4 hno).set (i := 1) _
  · rw [← hl]
    exact hr.ch hs (fun q hq => by simp at hq; simp; omega)
  · exact (((h.c.ch hA (by simp) (fun q hq => .inl hq)).more56 hn).ch h4 hF hO').ch hs (fun q hq => .inl (by simp at hq; simp [hq])) (fun q hq => .inl hq)
  · intro q hq
    simp at hq
    omega
  · exact ((h.ch.trans hA (by simp)).trans h4 (fun q hq => .inr (by have := h.own q hq; omega))).trans hs (fun q hq => .inr (by simp at hq; omega))
/-- what Encode returns, the program's or the reference's -/
def EncTo (T : TypeId) (w : World) (E : Nat × List (List Int) × List Int × Nat) (e : Ending) (w' : World) : Prop := ∃ cv mv es, e = .returned (.tuple #[.agg #[.int .i64 E.1, cv], mv, .int .i64 E.2.2.2]) ∧ row w' T 1 cv E.2.1.length es ∧ ClsIn w' [] es E.2.1 ∧ row w' 3 1 mv E.2.2.1.length (intCells E.2.2.1) ∧ Ch [] w w'
theorem EncTo.no {T : TypeId} {w w' : World} {err : Nat} (h : Ch [] w w') : EncTo T w (0, [], [], err) (.returned (.tuple #[.agg #[.int .i64 0, .slice none 0 0], .slice none 0 0, .int .i64 err])) w' :=
  ⟨_, _, [], rfl, ⟨rfl, .inl ⟨rfl, rfl⟩⟩, ClsIn.nil56 _ _, ⟨rfl, .inl ⟨rfl, rfl⟩⟩, h⟩
theorem nats_ok {G : Gra} {l : List Int} (h : badIn G l = false) : natInts (nats l) = l ∧ ∀ r ∈ nats l, r < 2 * G.nodes.length := by
  unfold badIn at h
  rw [List.any_eq_false] at h
  have h2 : ∀ r ∈ l, 0 ≤ r ∧ r < 2 * (G.nodes.length : Int) := fun r hr => by
    have := h r hr
    unfold right at this
    simp at this
    omega
  refine ⟨?_, fun r hr => ?_⟩
  · unfold natInts nats
    rw [List.map_map]
    conv => rhs; rw [← List.map_id l]
    exact List.map_congr_left fun r hr => by have := h2 r hr; simp; omega
  · unfold nats at hr
    obtain ⟨x, hx, rfl⟩ := List.mem_map.1 hr
    have := h2 x hx
    omega
section
variable {w : World} {g : Nat} {G : Gra} {F : List Nat}
/-- the program's Encode, whatever comes in -/
theorem tsEncode_is (h : GIn w g G F) {a : Option Addr} {l : List Int} (n c : Nat) (hn : l.length = n) (hn6 : n ≤ 65536) (hl : Sl w a l) (hlb : ∀ x ∈ l, x ≤ 9223372036854775807) (halt : ∀ p, a = some p → p.block < w.heap.size) (most : Int) :
    Calls Try.prog 17 #[.pointer (some ⟨g, 0, none⟩), .slice a n c, .int .i64 most] w (EncTo 137 w (encR G l most)) := by
  unfold encR
  cases hb : badIn G l
  · obtain ⟨h1, h2⟩ := nats_ok hb
    rw [if_neg (by simp)]
    rw [← h1] at hl
    have hnl : (nats l).length = n := by unfold nats; rw [List.length_map, hn]
    by_cases hm : most < 0 ∨ 1048576 < most
    · rw [if_pos hm]
      refine (tsEncode_most h n c hnl hl halt h2 most (e := 2) (.inl ⟨hm, rfl⟩)).mono ?_
      rintro e w' ⟨rfl, hc⟩
      exact EncTo.no hc
    · rw [if_neg hm]
      by_cases hk : most < ((mapN G.nodes (nats l)).length : Int)
      · rw [if_pos hk]
        refine (tsEncode_most h n c hnl hl halt h2 most (e := 270) (.inr ⟨by omega, rfl⟩)).mono ?_
        rintro e w' ⟨rfl, hc⟩
        exact EncTo.no hc
      · rw [if_neg hk]
        refine (tsEncode_yes h n c hnl hn6 hl halt h2 most (by omega) (by omega) (by omega)).mono ?_
        rintro e w' ⟨cv, mv, rfl, hf, hr, _, hc⟩
        obtain ⟨es, e1, e2⟩ := hf.ex
        rw [h1] at e1 e2
        exact ⟨cv, mv, es, rfl, e1, e2, by simp only [natInts_len]; exact hr, hc⟩
  · rw [if_pos (by simp)]
    refine (tsEncode_ref h n c hn hl hlb halt hb most).mono ?_
    rintro e w' ⟨rfl, hc⟩
    exact EncTo.no hc
/-- the program's Size, whatever comes in -/
theorem tsSize_is (h : GIn w g G F) {a : Option Addr} {l : List Int} (n c : Nat) (hn : l.length = n) (hn6 : n ≤ 65536) (hl : Sl w a l) (hlb : ∀ x ∈ l, x ≤ 9223372036854775807) (halt : ∀ p, a = some p → p.block < w.heap.size) :
    Calls Try.prog 16 #[.pointer (some ⟨g, 0, none⟩), .slice a n c] w fun e w' => e = .returned (.tuple #[.int .i64 (sizeR G l).1, .int .i64 (sizeR G l).2.1, .int .i64 (sizeR G l).2.2]) ∧ Ch [] w w' := by
  unfold sizeR
  cases hb : badIn G l
  · obtain ⟨h1, h2⟩ := nats_ok hb
    rw [if_neg (by simp)]
    have hnl : (nats l).length = n := by unfold nats; rw [List.length_map, hn]
    have := tsSize_yes h n c hnl hn6 (by rw [h1]; exact hl) halt h2
    rw [h1] at this
    exact this
  · rw [if_pos (by simp)]
    exact tsSize_no h n c hn hl hlb halt hb
end
end Go.Proofs.Ytkedpifopclipaa
namespace Go.Proofs.Ytkedpifopclipaa
open Go.RowKit Go.Mem Go.Aig
theorem infoInts27 : (Try.prog.info? 23).map (fun i => (i.zero, i.size, i.bytes)) = some (some (.slice none 0 0), 1, 24) := by kernel_rfl
theorem slIntss : SliceTy Try.prog 125 23 1 24 (.slice none 0 0) := ⟨Try.underlying125, infoInts27, rfl, by decide⟩
theorem badIn_snoc {G : Gra} {l : List Int} {k : Nat} {x : Int} (hx : l[k]? = some x) (h : badIn G (l.take k) = false) (hr : right G.nodes x = true) : badIn G (l.take (k + 1)) = false := by
  unfold badIn at h ⊢
  rw [List.take_add_one, hx, List.any_append, h]
  simp [hr]
theorem badIn_yes {G : Gra} {l : List Int} {k : Nat} {x : Int} (hx : l[k]? = some x) (hr : right G.nodes x = false) : badIn G l = true := by
  unfold badIn
  rw [List.any_eq_true]
  exact ⟨x, List.mem_of_getElem? hx, by rw [hr]; rfl⟩
section
variable {w : World}
set_option maxRecDepth 100000 in
set_option maxHeartbeats 8000000 in
theorem r27Encode_is {rb cap : Nat} {G : Gra} (h : RG w rb cap G) {a : Option Addr} {l : List Int} (n c : Nat) (hn : l.length = n) (hn6 : n ≤ 1000) (hS : Sl w a l) (hlb : ∀ x ∈ l, -9223372036854775808 ≤ x ∧ x ≤ 9223372036854775807) (most : Int) (hmb : -9223372036854775808 ≤ most ∧ most ≤ 9223372036854775807) :
    Calls Try.prog 73 #[.agg #[.int .i64 G.most, .slice (some ⟨rb, 0, none⟩) G.nodes.length cap], .slice a n c, .int .i64 most] w (EncTo 23 w (encR G l most)) := by
  obtain ⟨hgl, hp, hmo⟩ := h.len
  have hmx := h.mx
  have hle0 := h.le
  have hrl := h.lt
  have hok := h.ok
  have hrr := fun (W : World) (hc : Ch [] w W) (x : Int) => rRight_is (h.ch hc (by simp)) x
  have HRR := Lib.hid hrr; clear hrr
  have H := Lib.hid h; clear h
  have HS := Lib.hid hS; clear hS
  have HN := Lib.hid hn
  have HLB := Lib.hid hlb; clear hlb
  obtain ⟨E, hE⟩ : ∃ E, encR G l most = E := ⟨_, rfl⟩
  rw [hE]
  have HE := Lib.hid hE; clear hE
  go_enter Try.func73, Try.ntmps73
  go_upto_region 1 with fail
  refine wp_named fun W0 hW0 => ?_
  have k2 : blk W0 w.heap.size [.int .i64 G.most, .slice (some ⟨rb, 0, none⟩) G.nodes.length cap] := by rw [hW0]; exact (blk.new' _ _ rfl).alloc _
  have k6 : blk W0 (w.heap.size + 1) [.int .i64 0, .slice none 0 0] := by rw [hW0]; exact blk.new' _ _ (by simp)
  have hc0 : Ch [] w W0 := by rw [hW0]; exact ((Ch.refl _ _).alloc _).alloc _
  clear hW0
  obtain ⟨b6, hb6⟩ : ∃ b6, b6 = w.heap.size + 1 := ⟨_, rfl⟩
  rw [← hb6] at k6 ⊢
  have hlo6 : w.heap.size ≤ b6 := by omega
  obtain ⟨b3, hb3⟩ : ∃ b3, b3 = w.heap.size := ⟨_, rfl⟩
  rw [← hb3] at k2 ⊢
  have hlo3 : w.heap.size ≤ b3 := by omega
  have hn36 : ¬ b3 = b6 := by omega
  clear hb6 hb3
  have K2 := Lib.hid k2; clear k2
  have K6 := Lib.hid k6; clear k6
  have HC0 := Lib.hid hc0; clear hc0
  have HLO6 := Lib.hid hlo6; clear hlo6
  have HLO3 := Lib.hid hlo3; clear hlo3
  go_wp2_with fail
  go_loopw [9] (fun i wr => ∃ k : Nat, k ≤ n ∧ i = .int .i64 k ∧ Ch [] W0 wr ∧ badIn G (l.take k) = false) (fun i _ => n - (intOf i).toNat)
  case atStart => exact ⟨0, by omega, rfl, Ch.refl _ _, rfl⟩
  case round =>
    obtain ⟨k, hk, rfl, hc, hba⟩ := hrel
    have hcw := HC0.out.trans hc (by simp)
    by_cases hlt : k < n
    · obtain ⟨x, hx⟩ : ∃ x, l[k]? = some x := ⟨_, List.getElem?_eq_getElem (by rw [HN.out]; exact hlt)⟩
      have hxb := HLB.out x (List.mem_of_getElem? hx)
      obtain ⟨xb, xo, rfl, c9⟩ := (HS.out.ch hcw (by simp)).cells k x hx
      have hyes := fun h => badIn_snoc hx hba h
      have hno := fun h => badIn_yes (G := G) hx h
      have k2 := K2.out.ch hc (by simp)
      have y0 := k2.cell (i := 0) rfl
      have y1 := k2.cell (i := 1) rfl
      have hrr := fun (W : World) (h : Ch [] wr W) => HRR.out W (hcw.trans h (by simp)) x
      generalize right G.nodes x = t at *
      have HX := Lib.hid hrr; clear hrr k2
      have HC := Lib.hid hc; clear hc hx hba hcw
      have HYES := Lib.hid hyes; clear hyes
      have HNOX := Lib.hid hno; clear hno
      go_wp2_with fail
      refine Ord.St.door (fun _ => True) [.rd, .fl, .fl, .fl, .rd, .ef, .fl] [0, 0, 0, 6, 14, 31, 63] [0, 1, 2, 3, 4, 5, 6] mixed (by kernel_rfl) rfl ?_
      refine Ord.St.rd2 (T' := ?_) 0 [1, 2, 3, 4, 5, 6] _ _ rfl (by kernel_rfl) rfl rfl rfl rfl (fun K hk => ?_) ?_
      rotate_left
      · go_step; exact hk
      refine Ord.St.fl2 (T' := ?_) 1 [2, 3, 4, 5, 6] _ _ rfl (by kernel_rfl) rfl rfl rfl rfl (fun K w' hk => ?_) ?_
      rotate_left
      · go_step; exact hk
      refine Ord.St.fl2 (T' := ?_) 2 [3, 4, 5, 6] _ _ rfl (by kernel_rfl) rfl rfl rfl rfl (fun K w' hk => ?_) ?_
      rotate_left
      · go_step; exact hk
      refine Ord.St.fl2 (T' := ?_) 3 [4, 5, 6] _ _ rfl (by kernel_rfl) rfl rfl rfl rfl (fun K w' hk => ?_) ?_
      rotate_left
      · go_step; exact hk
      refine Ord.St.rd2 (T' := ?_) 4 [5, 6] _ _ rfl (by kernel_rfl) rfl rfl rfl rfl (fun K hk => ?_) ?_
      rotate_left
      · go_step; exact hk
      refine Ord.St.ef 5 [6] _ rfl (by kernel_rfl) (fun K hK => ?_)
      obtain ⟨Wc, hWc⟩ : ∃ Wc, Wc = wr.drew := ⟨_, rfl⟩
      try rw [← hWc]
      have hcd : Ch [] wr Wc := by rw [hWc]; exact (Ch.refl _ _).drew
      clear hWc
      have hq := HX.out Wc hcd
      have HQ := Lib.hid hq; clear hq
      have HCD := Lib.hid (HC.out.trans hcd (by simp)); clear hcd
      go_wp2_with fail
      refine HQ.out.mono ?_
      rintro e w1 ⟨rfl, hcs⟩
      have HCE := Lib.hid (HCD.out.trans hcs (by simp)); clear hcs
      go_wp2_with fail
      refine ⟨rfl, hK _ _ ?_⟩; clear hK K
      refine Ord.St.fl2 (T' := ?_) 6 [] _ _ rfl (by kernel_rfl) rfl rfl rfl rfl (fun K w' hk => ?_) ?_
      rotate_left
      · go_step; exact hk
      refine Ord.St.nil ?_
      clear y0 y1 c9
      cases t
      · have hb := HNOX.out rfl
        have hE : E = (0, [], [], 200) := by rw [← HE.out]; unfold encR; rw [if_pos hb]
        subst hE
        have k6 := K6.out.ch HCE.out (by simp)
        have z0 := k6.cell (i := 0) rfl
        have z1 := k6.cell (i := 1) rfl
        have f0 := k6.frozen (i := 0)
        have f1 := k6.frozen (i := 1)
        clear k6
        go_wp2_with fail
        refine bodyPost_ret (v := .tuple #[.agg #[.int .i64 0, .slice none 0 0], .slice none 0 0, .int .i64 200]) (by simp [results, Try.results73, go_sem, z0, z1]) rfl ?_
        have hl6 := HLO6.out
        exact EncTo.no ((HC0.out.trans HCE.out (by simp)).trans (((Ch.refl [b6] _).setCell (.inl (by simp)) _).setCell (.inl (by simp)) _) (fun q hq => .inr (by rw [List.mem_singleton.1 hq]; exact hl6)))
      · have hy := HYES.out rfl
        have HYY := Lib.hid hy; clear hy
        go_wp2_with fail
        go_roundw
        case rel => exact ⟨k + 1, by omega, by go_num, HCE.out, HYY.out⟩
        case measure => simp [intOf]; omega
    · rw [List.take_of_length_le (by rw [HN.out]; omega)] at hba
      obtain ⟨hn1, hn2⟩ := nats_ok hba
      have hE0 : E = if most < 0 ∨ 1048576 < most then (0, [], [], 2) else if most < (mapN G.nodes (nats l)).length then (0, [], [], 270) else ((mapN G.nodes (nats l)).length, clsOf G.nodes (natInts (mapN G.nodes (nats l))) l, natInts (mapN G.nodes (nats l)), 0) := by
        rw [← HE.out]; unfold encR; rw [if_neg (by rw [hba]; simp)]
      have hrm := fun (W : World) (hW : Ch [] wr W) => r27Map_is ((H.out.ch hcw (by simp)).ch hW (by simp)) (a := a) (l := nats l) n c (by unfold nats; rw [List.length_map]; exact HN.out) (by rw [hn1]; exact (HS.out.ch hcw (by simp)).ch hW (by simp)) hn2 (by omega)
      have hml := mapN_len hok (nats l)
      have hmk := mapN_ok hok.wf (nats l)
      have hlin := fun r : Nat => lit_in hok.wf (by omega : G.nodes.length ≤ 65536) (l := nats l) r
      have hlits := fun (m : Nat) (hm : (mapN G.nodes (nats l)).length = m) (W : World) (va : Option Addr) (vc : Nat) (hr : row W 3 1 (.slice va m vc) m (intCells (natInts (mapN G.nodes (nats l))))) (r : Int) (hr9 : -9223372036854775808 ≤ r ∧ r ≤ 9223372036854775807) => r27Lit_is (w := W) (a := va) (m := natInts (mapN G.nodes (nats l))) m vc (by rw [natInts_len]; exact hm) (by omega) (Sl.of_ints hr (by omega)) r hr9
      have HRM := Lib.hid hrm; clear hrm
      have HC := Lib.hid hc; clear hc
      have HCW := Lib.hid hcw; clear hcw
      have HN1 := Lib.hid hn1; clear hn1
      have HN2 := Lib.hid hn2; clear hn2
      have HE0 := Lib.hid hE0; clear hE0 hba HE HRR
      have k6 := K6.out.ch HC.out (by simp)
      have K6w := Lib.hid k6
      have z0 := k6.cell (i := 0) rfl
      have z1 := k6.cell (i := 1) rfl
      have f0 := k6.frozen (i := 0)
      have f1 := k6.frozen (i := 1)
      clear k6
      by_cases h0 : most < 0
      · have d1 : decide (most < 0) = true := decide_eq_true h0
        have hE : E = (0, [], [], 2) := by rw [HE0.out, if_pos (.inl h0)]
        subst hE
        go_wp2_with fail
        refine bodyPost_ret (v := .tuple #[.agg #[.int .i64 0, .slice none 0 0], .slice none 0 0, .int .i64 2]) (by simp [results, Try.results73, go_sem, z0, z1]) rfl ?_
        have hl6 := HLO6.out
        exact EncTo.no ((HCW.out).trans (((Ch.refl [b6] _).setCell (.inl (by simp)) _).setCell (.inl (by simp)) _) (fun q hq => .inr (by rw [List.mem_singleton.1 hq]; exact hl6)))
      have d1 : decide (most < 0) = false := decide_eq_false h0
      by_cases h1 : 1048576 < most
      · have d2 : decide (1048576 < most) = true := decide_eq_true h1
        have hE : E = (0, [], [], 2) := by rw [HE0.out, if_pos (.inr h1)]
        subst hE
        go_wp2_with fail
        refine bodyPost_ret (v := .tuple #[.agg #[.int .i64 0, .slice none 0 0], .slice none 0 0, .int .i64 2]) (by simp [results, Try.results73, go_sem, z0, z1]) rfl ?_
        have hl6 := HLO6.out
        exact EncTo.no ((HCW.out).trans (((Ch.refl [b6] _).setCell (.inl (by simp)) _).setCell (.inl (by simp)) _) (fun q hq => .inr (by rw [List.mem_singleton.1 hq]; exact hl6)))
      have d2 : decide (1048576 < most) = false := decide_eq_false h1
      have hE1 := HE0.out
      rw [if_neg (by omega)] at hE1
      have HE1 := Lib.hid hE1; clear hE1 HE0
      clear z0 z1 f0 f1
      have k3 := K2.out.ch HC.out (by simp)
      have y0 := k3.cell (i := 0) rfl
      have y1 := k3.cell (i := 1) rfl
      have K3 := Lib.hid k3; clear k3 K2
      go_wp2_with fail
      clear y0 y1
      refine (HRM.out wr (Ch.refl _ _)).mono ?_
      rintro e w2 ⟨v, rfl, hmr, hmo2, hc2⟩
      have k6 := K6w.out.ch hc2 (by simp)
      have z0 := k6.cell (i := 0) rfl
      have z1 := k6.cell (i := 1) rfl
      have f0 := k6.frozen (i := 0)
      have f1 := k6.frozen (i := 1)
      have hcw2 := HCW.out.trans hc2 (by simp)
      have HCW2 := Lib.hid hcw2; clear hcw2
      have K6x := Lib.hid k6; clear k6
      have K3x := Lib.hid (K3.out.ch hc2 (by simp)); clear K3
      have hmno : ∀ q ∈ v.ownBlock.toList, q ≠ b6 := fun q hq => by have h1 := hmo2 q hq; have h2 := K6w.out.lt; omega
      clear hc2 hmo2 HRM
      obtain ⟨ms, hms⟩ : ∃ ms, mapN G.nodes (nats l) = ms := ⟨_, rfl⟩
      have hE1 := HE1.out
      rw [hms] at hE1 hmr hml hmk
      simp only [hms] at hlin hlits
      obtain ⟨m, hm2⟩ : ∃ m, ms.length = m := ⟨_, rfl⟩
      have hmm := hlits m hm2
      rw [hm2] at hE1 hmr hml
      obtain ⟨va, vc, rfl⟩ := row.shape hmr
      clear hlits
      have HML := Lib.hid hm2; clear hm2
      have HE2 := Lib.hid hE1; clear hE1 HE1
      have HLIN := Lib.hid hlin; clear hlin
      have HLITS := Lib.hid hmm; clear hmm
      have HMR := Lib.hid hmr; clear hmr
      have HMK := Lib.hid hmk; clear hmk
      clear hms
      by_cases hk2 : most < (m : Int)
      · have d3 : decide (most < (m : Int)) = true := decide_eq_true hk2
        have hE : E = (0, [], [], 270) := by rw [HE2.out, if_pos hk2]
        subst hE
        go_wp2_with fail
        refine bodyPost_ret (v := .tuple #[.agg #[.int .i64 0, .slice none 0 0], .slice none 0 0, .int .i64 270]) (by simp [results, Try.results73, go_sem, z0, z1]) rfl ?_
        have hl6 := HLO6.out
        exact EncTo.no ((HCW2.out).trans (((Ch.refl [b6] _).setCell (.inl (by simp)) _).setCell (.inl (by simp)) _) (fun q hq => .inr (by rw [List.mem_singleton.1 hq]; exact hl6)))
      have d3 : decide (most < (m : Int)) = false := decide_eq_false hk2
      have hE : E = (m, clsOf G.nodes (natInts ms) l, natInts ms, 0) := by rw [HE2.out, if_neg hk2]
      subst hE
      clear HE2 hk2 h0 h1 z0 z1 f0 f1 d1 d2
      go_upto_region 12 with fail
      refine wp_alw ?_
      intro W3 hW3
      have kb := alw_blk (xs := [.int .i64 m, .slice none 0 0]) hW3
      have hc3 := alw_ch hW3
      have hW3s : W3.heap.size = w2.heap.size + 1 := by rw [hW3]; simp
      clear hW3
      have hz2 := HCW2.out.size
      have hz6 := K6x.out.lt
      obtain ⟨bo, hbo⟩ : ∃ bo, bo = w2.heap.size := ⟨_, rfl⟩
      rw [← hbo] at kb ⊢
      have hcb : CB w 23 b6 bo m [] (.slice none 0 0) [] W3 := ⟨K6x.out.ch hc3 (by simp), kb, ⟨rfl, .inl ⟨rfl, rfl⟩⟩, ClsIn.nil56 _ _, by simp, by omega, HLO6.out, HCW2.out.trans hc3 (by simp)⟩
      have hmr := HMR.out.ch hc3 (by simp)
      have hval : ∀ p, va = some p → p.block < W3.heap.size := row.alt hmr
      have k3 := K3x.out.ch hc3 (by simp)
      have hg3 := H.out.ch (HCW2.out.trans hc3 (by simp)) (by simp)
      have hs3 := HS.out.ch (HCW2.out.trans hc3 (by simp)) (by simp)
      have hz3 : W3.heap.size ≤ bo + 1 := by rw [hbo]; have := hW3s; omega
      have hvl : ∀ q, (Value.slice va m vc).ownBlock = some q → q < bo := fun q hq => by rw [hbo]; exact (HMR.out.lt q hq).2
      have hvno : ¬ (Value.slice va m vc).ownBlock = some b6 := fun hq => (hmno b6 (by rw [hq]; simp)) rfl
      have hb3l : b3 < bo := by rw [hbo]; exact K3x.out.lt
      clear hbo kb hz2 hz6 hc3 d3 hW3s
      have HVL := Lib.hid hvl; clear hvl
      have HCB := Lib.hid hcb; clear hcb
      have HM3 := Lib.hid hmr; clear hmr HMR
      have HK3 := Lib.hid k3; clear k3 K3x
      have HG3 := Lib.hid hg3; clear hg3
      have HS3 := Lib.hid hs3; clear hs3
      clear hval K6x HCW2 HCW HC K6 HG3 HS3
      go_wp2_with fail
      go_loopw [12] (fun i wr => ∃ (j : Nat) (v : Value) (es : List Value), j ≤ m ∧ i = .int .i64 j ∧ CB w 23 b6 bo m (nodesCls G.nodes (natInts ms) j) v es wr ∧ Ch [bo] W3 wr) (fun i _ => m - (intOf i).toNat)
      case atStart => exact ⟨0, _, [], by omega, rfl, HCB.out, Ch.refl _ _⟩
      case round =>
        clear HCB
        obtain ⟨j, v, es, hj, rfl, hcb, hc⟩ := hrel
        obtain ⟨oa, oc, rfl⟩ := row.shape hcb.r
        have hk3 := HK3.out.ch hc (by simp; omega)
        by_cases hltj : j < m
        · obtain ⟨nd, hnd⟩ : ∃ nd, ms[j]? = some nd := ⟨_, List.getElem?_eq_getElem (by rw [HML.out]; exact hltj)⟩
          have hndb := HMK.out.lt nd (List.mem_of_getElem? hnd)
          have hndZ : (natInts ms)[j]? = some (nd : Int) := by unfold natInts; rw [List.getElem?_map, hnd]; rfl
          have hmr := HM3.out.ch hc (fun q hq hin => by have := HVL.out q hq; simp at hin; omega)
          obtain ⟨zb, zo, rfl, c9⟩ := (Sl.of_ints hmr (by omega)).cells j (nd : Int) hndZ
          have y1 := hk3.cell (i := 1) rfl
          obtain ⟨x, hxn⟩ : ∃ x, G.nodes[nd]? = some x := ⟨_, List.getElem?_eq_getElem hndb.2⟩
          obtain ⟨e0, e1, e2⟩ := (H.out.ch hcb.ch (by simp)).node hxn
          obtain ⟨s1, s2⟩ := side_of hok.wf hxn
          have hsucc : nodesCls G.nodes (natInts ms) (j + 1) = nodesCls G.nodes (natInts ms) j ++ nodeCls G.nodes (natInts ms) j (nd : Int) := by rw [nodesCls_succ, getD_at hndZ]
          have hnl3 := nodesCls_len G.nodes (natInts ms) j
          have HSUC := Lib.hid hsucc; clear hsucc
          have HCB := Lib.hid hcb; clear hcb
          have HC := Lib.hid hc; clear hc
          have HMR := Lib.hid hmr; clear hmr
          have HS1 := Lib.hid s1; clear s1
          have HS2 := Lib.hid s2; clear s2
          clear hnd hndZ hk3
          go_wp2_with fail
          refine Ord.St.door (fun w' => Ch [] wr w') [.fl, .ho, .fl, .fl, .fl, .ho, .fl, .ho, .ef, .ef] [0, 1, 0, 0, 12, 28, 63, 127, 0, 511] [0, 1, 2, 3, 4, 5, 6, 7, 8, 9] mixed (by kernel_rfl) rfl ?_
          refine Ord.St.fl2 (T' := ?_) 0 [1, 2, 3, 4, 5, 6, 7, 8, 9] _ _ rfl (by kernel_rfl) rfl rfl rfl rfl (fun K w' hk => ?_) ?_
          rotate_left
          · go_step; exact hk
          refine Ord.St.ho2 (T' := ?_) 1 [2, 3, 4, 5, 6, 7, 8, 9] _ _ rfl (by kernel_rfl) rfl rfl rfl rfl ?_ (fun K w' hw' hk => ?_) ?_
          rotate_left
          · first | exact (Ch.refl _ _).drew | exact ((Ch.refl _ _).alloc _).drew | exact ((Ch.refl _ _).drew).alloc _
          · have y1' := (hw'.cell (cell_lt y1) (by simp)).trans y1; have c9' := (hw'.cell (cell_lt c9) (by simp)).trans c9; have e0' := (hw'.cell (cell_lt e0) (by simp)).trans e0; have e1' := (hw'.cell (cell_lt e1) (by simp)).trans e1; have e2' := (hw'.cell (cell_lt e2) (by simp)).trans e2; go_step; exact hk
          refine Ord.St.fl2 (T' := ?_) 2 [3, 4, 5, 6, 7, 8, 9] _ _ rfl (by kernel_rfl) rfl rfl rfl rfl (fun K w' hk => ?_) ?_
          rotate_left
          · go_step; exact hk
          refine Ord.St.fl2 (T' := ?_) 3 [4, 5, 6, 7, 8, 9] _ _ rfl (by kernel_rfl) rfl rfl rfl rfl (fun K w' hk => ?_) ?_
          rotate_left
          · go_step; exact hk
          refine Ord.St.fl2 (T' := ?_) 4 [5, 6, 7, 8, 9] _ _ rfl (by kernel_rfl) rfl rfl rfl rfl (fun K w' hk => ?_) ?_
          rotate_left
          · go_step; exact hk
          refine Ord.St.ho2 (T' := ?_) 5 [6, 7, 8, 9] _ _ rfl (by kernel_rfl) rfl rfl rfl rfl ?_ (fun K w' hw' hk => ?_) ?_
          rotate_left
          · first | exact (Ch.refl _ _).drew | exact ((Ch.refl _ _).alloc _).drew | exact ((Ch.refl _ _).drew).alloc _
          · have y1' := (hw'.cell (cell_lt y1) (by simp)).trans y1; have c9' := (hw'.cell (cell_lt c9) (by simp)).trans c9; have e0' := (hw'.cell (cell_lt e0) (by simp)).trans e0; have e1' := (hw'.cell (cell_lt e1) (by simp)).trans e1; have e2' := (hw'.cell (cell_lt e2) (by simp)).trans e2; go_step; exact hk
          refine Ord.St.fl2 (T' := ?_) 6 [7, 8, 9] _ _ rfl (by kernel_rfl) rfl rfl rfl rfl (fun K w' hk => ?_) ?_
          rotate_left
          · go_step; exact hk
          refine Ord.St.ho2 (T' := ?_) 7 [8, 9] _ _ rfl (by kernel_rfl) rfl rfl rfl rfl ?_ (fun K w' hw' hk => ?_) ?_
          rotate_left
          · first | exact (Ch.refl _ _).drew | exact ((Ch.refl _ _).alloc _).drew | exact ((Ch.refl _ _).drew).alloc _
          · have y1' := (hw'.cell (cell_lt y1) (by simp)).trans y1; have c9' := (hw'.cell (cell_lt c9) (by simp)).trans c9; have e0' := (hw'.cell (cell_lt e0) (by simp)).trans e0; have e1' := (hw'.cell (cell_lt e1) (by simp)).trans e1; have e2' := (hw'.cell (cell_lt e2) (by simp)).trans e2; go_step; exact hk
          refine Ord.St.efC 8 [9] _ rfl (by kernel_rfl) (fun K hK => ?_)
          go_wp2_with fail
          refine ⟨rfl, hK _ _ ?_ ?_⟩
          · first | exact (Ch.refl _ _).drew | exact ((Ch.refl _ _).alloc _).drew | exact ((Ch.refl _ _).drew).alloc _
          clear hK K
          refine Ord.St.ef 9 [] _ rfl (by kernel_rfl) (fun K hK => ?_)
          go_wp2_with fail
          refine ⟨rfl, hK _ _ ?_⟩; clear hK K
          refine Ord.St.nil ?_
          obtain ⟨W1, hW1⟩ : ∃ W1, W1 = (wr.alloc (.cells #[.int .i64 x.k, .int .i64 x.l, .int .i64 x.r] 229)).drew := ⟨_, rfl⟩
          rw [← hW1]
          have hc1 : Ch [] wr W1 := by rw [hW1]; exact ((Ch.refl _ _).alloc _).drew
          have hb1 : blk W1 wr.heap.size [.int .i64 x.k, .int .i64 x.l, .int .i64 x.r] := by rw [hW1]; exact (blk.new' _ _ rfl).drew
          clear hW1 c9 y1 e0 e1 e2
          have d0 := hb1.cell (i := 0) rfl
          have d1 := hb1.cell (i := 1) rfl
          have HB1 := Lib.hid hb1; clear hb1
          have HC1 := Lib.hid hc1; clear hc1
          by_cases h3 : x.k = 3
          · have q3 : ((x.k : Int) != 3) = false := by rw [h3]; rfl
            obtain ⟨g1, g2, g3, g4, g5, g6⟩ := HS2.out h3
            have hcls : nodeCls G.nodes (natInts ms) j (nd : Int) = andCls ((j : Int) + 1) (litOf (natInts ms) x.l) (litOf (natInts ms) x.r) := by
              unfold nodeCls
              rw [HS1.out, g1, g2, if_pos (by simp [h3])]
            have hl1 := fun W (h : Ch [] wr W) => HLITS.out W _ _ (HMR.out.ch h (by simp)) x.l (by omega)
            have hl2 := fun W (h : Ch [] wr W) => HLITS.out W _ _ (HMR.out.ch h (by simp)) x.r (by omega)
            simp only [HLIN.out] at hl1 hl2
            have hab := litOf_bd HMK.out.asc (by rw [HML.out]; omega) x.l
            have hbb := litOf_bd HMK.out.asc (by rw [HML.out]; omega) x.r
            have hsu := HSUC.out
            rw [hcls] at hsu
            generalize litOf (natInts ms) x.l = A1 at *
            generalize litOf (natInts ms) x.r = D1 at *
            have HL1 := Lib.hid hl1; clear hl1
            have HL2 := Lib.hid hl2; clear hl2
            have HSU := Lib.hid hsu; clear hsu HSUC
            clear g1 g2 h3 hcls
            go_wp2_with fail
            refine Ord.St.door (fun w' => Ch [] W1 w') [.fl, .fl, .fl, .fl, .rd, .ef, .fl, .fl, .ho, .ef, .fl, .fl, .fl] [0, 1, 0, 0, 8, 28, 0, 0, 128, 508, 1023, 2047, 4095] [0, 1, 2, 3, 4, 5, 6, 7, 8, 9, 10, 11, 12] mixed (by kernel_rfl) rfl ?_
            refine Ord.St.fl2 (T' := ?_) 0 [1, 2, 3, 4, 5, 6, 7, 8, 9, 10, 11, 12] _ _ rfl (by kernel_rfl) rfl rfl rfl rfl (fun K w' hk => ?_) ?_
            rotate_left
            · go_step; exact hk
            refine Ord.St.fl2 (T' := ?_) 1 [2, 3, 4, 5, 6, 7, 8, 9, 10, 11, 12] _ _ rfl (by kernel_rfl) rfl rfl rfl rfl (fun K w' hk => ?_) ?_
            rotate_left
            · go_step; exact hk
            refine Ord.St.fl2 (T' := ?_) 2 [3, 4, 5, 6, 7, 8, 9, 10, 11, 12] _ _ rfl (by kernel_rfl) rfl rfl rfl rfl (fun K w' hk => ?_) ?_
            rotate_left
            · go_step; exact hk
            refine Ord.St.fl2 (T' := ?_) 3 [4, 5, 6, 7, 8, 9, 10, 11, 12] _ _ rfl (by kernel_rfl) rfl rfl rfl rfl (fun K w' hk => ?_) ?_
            rotate_left
            · go_step; exact hk
            refine Ord.St.rd2 (T' := ?_) 4 [5, 6, 7, 8, 9, 10, 11, 12] _ _ rfl (by kernel_rfl) rfl rfl rfl rfl (fun K hk => ?_) ?_
            rotate_left
            · go_step; exact hk
            refine Ord.St.fl2 (T' := ?_) 6 [5, 7, 8, 9, 10, 11, 12] _ _ rfl (by kernel_rfl) rfl rfl rfl rfl (fun K w' hk => ?_) ?_
            rotate_left
            · go_step; exact hk
            refine Ord.St.fl2 (T' := ?_) 7 [5, 8, 9, 10, 11, 12] _ _ rfl (by kernel_rfl) rfl rfl rfl rfl (fun K w' hk => ?_) ?_
            rotate_left
            · go_step; exact hk
            refine Ord.St.ho2 (T' := ?_) 8 [5, 9, 10, 11, 12] _ _ rfl (by kernel_rfl) rfl rfl rfl rfl ?_ (fun K w' hw' hk => ?_) ?_
            rotate_left
            · exact (Ch.refl _ _).drew
            · have d2' := (HB1.out.ch hw' (by simp)).cell (i := 2) rfl; go_step; exact hk
            refine Ord.St.efC 5 [9, 10, 11, 12] _ rfl (by kernel_rfl) (fun K hK => ?_)
            obtain ⟨Wc, hWc⟩ : ∃ Wc, Wc = W1.drew := ⟨_, rfl⟩
            try rw [← hWc]
            have hcd : Ch [] W1 Wc := by rw [hWc]; exact (Ch.refl _ _).drew
            clear hWc
            have hq := HL1.out Wc (HC1.out.trans hcd (by simp))
            have HQ := Lib.hid hq; clear hq HL1
            have HCD := Lib.hid hcd; clear hcd
            go_wp2_with fail
            refine HQ.out.mono ?_
            rintro e w5 ⟨rfl, hcs⟩
            have HCU := Lib.hid (HCD.out.trans hcs (by simp)); clear hcs HQ HCD
            go_wp2_with fail
            refine ⟨rfl, hK _ _ ?_ ?_⟩
            · exact HCU.out
            clear hK K
            refine Ord.St.ef 9 [10, 11, 12] _ rfl (by kernel_rfl) (fun K hK => ?_)
            have hq := HL2.out w5 (HC1.out.trans HCU.out (by simp))
            have HQ := Lib.hid hq; clear hq HL2
            go_wp2_with fail
            refine HQ.out.mono ?_
            rintro e w6 ⟨rfl, hcs⟩
            have HCV := Lib.hid (HC1.out.trans (HCU.out.trans hcs (by simp)) (by simp)); clear hcs HQ HCU
            go_wp2_with fail
            refine ⟨rfl, hK _ _ ?_⟩; clear hK K
            refine Ord.St.fl2 (T' := ?_) 10 [11, 12] _ _ rfl (by kernel_rfl) rfl rfl rfl rfl (fun K w' hk => ?_) ?_
            rotate_left
            · go_step; exact hk
            refine Ord.St.fl2 (T' := ?_) 11 [12] _ _ rfl (by kernel_rfl) rfl rfl rfl rfl (fun K w' hk => ?_) ?_
            rotate_left
            · go_step; exact hk
            refine Ord.St.fl2 (T' := ?_) 12 [] _ _ rfl (by kernel_rfl) rfl rfl rfl rfl (fun K w' hk => ?_) ?_
            rotate_left
            · go_step; exact hk
            refine Ord.St.nil ?_
            clear d0 d1 HB1 HC1
            have hcb := HCB.out.same HCV.out
            have hcA : Ch [] w6 ((((w6.alloc (.cells #[.int .i64 (-((j : Int) + 1)), .int .i64 A1] 3)).alloc (.cells #[.int .i64 (-((j : Int) + 1)), .int .i64 D1] 3)).alloc (.cells #[.int .i64 ((j : Int) + 1), .int .i64 (-A1), .int .i64 (-D1)] 3)).alloc (.cells #[.slice (some ⟨w6.heap.size, 0, none⟩) 2 2, .slice (some ⟨w6.heap.size + 1, 0, none⟩) 2 2, .slice (some ⟨w6.heap.size + 1 + 1, 0, none⟩) 3 3] 23)) := ((((Ch.refl _ _).alloc _).alloc _).alloc _).alloc _
            have q1 : blk ((((w6.alloc (.cells #[.int .i64 (-((j : Int) + 1)), .int .i64 A1] 3)).alloc (.cells #[.int .i64 (-((j : Int) + 1)), .int .i64 D1] 3)).alloc (.cells #[.int .i64 ((j : Int) + 1), .int .i64 (-A1), .int .i64 (-D1)] 3)).alloc (.cells #[.slice (some ⟨w6.heap.size, 0, none⟩) 2 2, .slice (some ⟨w6.heap.size + 1, 0, none⟩) 2 2, .slice (some ⟨w6.heap.size + 1 + 1, 0, none⟩) 3 3] 23)) w6.heap.size (intCells [-((j : Int) + 1), A1]) := (((blk.new' _ _ rfl).alloc _).alloc _).alloc _
            have q2 : blk ((((w6.alloc (.cells #[.int .i64 (-((j : Int) + 1)), .int .i64 A1] 3)).alloc (.cells #[.int .i64 (-((j : Int) + 1)), .int .i64 D1] 3)).alloc (.cells #[.int .i64 ((j : Int) + 1), .int .i64 (-A1), .int .i64 (-D1)] 3)).alloc (.cells #[.slice (some ⟨w6.heap.size, 0, none⟩) 2 2, .slice (some ⟨w6.heap.size + 1, 0, none⟩) 2 2, .slice (some ⟨w6.heap.size + 1 + 1, 0, none⟩) 3 3] 23)) (w6.heap.size + 1) (intCells [-((j : Int) + 1), D1]) := ((blk.new' _ _ (by simp)).alloc _).alloc _
            have q3 : blk ((((w6.alloc (.cells #[.int .i64 (-((j : Int) + 1)), .int .i64 A1] 3)).alloc (.cells #[.int .i64 (-((j : Int) + 1)), .int .i64 D1] 3)).alloc (.cells #[.int .i64 ((j : Int) + 1), .int .i64 (-A1), .int .i64 (-D1)] 3)).alloc (.cells #[.slice (some ⟨w6.heap.size, 0, none⟩) 2 2, .slice (some ⟨w6.heap.size + 1, 0, none⟩) 2 2, .slice (some ⟨w6.heap.size + 1 + 1, 0, none⟩) 3 3] 23)) (w6.heap.size + 1 + 1) (intCells [(j : Int) + 1, -A1, -D1]) := (blk.new' _ _ (by simp)).alloc _
            have q4 : blk ((((w6.alloc (.cells #[.int .i64 (-((j : Int) + 1)), .int .i64 A1] 3)).alloc (.cells #[.int .i64 (-((j : Int) + 1)), .int .i64 D1] 3)).alloc (.cells #[.int .i64 ((j : Int) + 1), .int .i64 (-A1), .int .i64 (-D1)] 3)).alloc (.cells #[.slice (some ⟨w6.heap.size, 0, none⟩) 2 2, .slice (some ⟨w6.heap.size + 1, 0, none⟩) 2 2, .slice (some ⟨w6.heap.size + 1 + 1, 0, none⟩) 3 3] 23)) (w6.heap.size + 1 + 1 + 1) [.slice (some ⟨w6.heap.size, 0, none⟩) 2 2, .slice (some ⟨w6.heap.size + 1, 0, none⟩) 2 2, .slice (some ⟨w6.heap.size + 1 + 1, 0, none⟩) 3 3] := blk.new' _ _ (by simp)
            have hvl := fun z (hz : z ∈ b6 :: bo :: (Value.slice oa (nodesCls G.nodes (natInts ms) j).length oc).ownBlock.toList) => show z < w6.heap.size by
              simp only [List.mem_cons] at hz
              rcases hz with e | e | e
              · rw [e]; exact hcb.k6.lt
              · rw [e]; exact hcb.k.lt
              · exact (hcb.r.lt z (by simpa using e)).2
            have hno : ∀ d, w6.heap.size + d ∉ b6 :: bo :: (Value.slice oa (nodesCls G.nodes (natInts ms) j).length oc).ownBlock.toList := fun d hin => by have := hvl _ hin; omega
            have hcl3 : ClsIn ((((w6.alloc (.cells #[.int .i64 (-((j : Int) + 1)), .int .i64 A1] 3)).alloc (.cells #[.int .i64 (-((j : Int) + 1)), .int .i64 D1] 3)).alloc (.cells #[.int .i64 ((j : Int) + 1), .int .i64 (-A1), .int .i64 (-D1)] 3)).alloc (.cells #[.slice (some ⟨w6.heap.size, 0, none⟩) 2 2, .slice (some ⟨w6.heap.size + 1, 0, none⟩) 2 2, .slice (some ⟨w6.heap.size + 1 + 1, 0, none⟩) 3 3] 23)) (b6 :: bo :: (Value.slice oa (nodesCls G.nodes (natInts ms) j).length oc).ownBlock.toList) [.slice (some ⟨w6.heap.size, 0, none⟩) 2 2, .slice (some ⟨w6.heap.size + 1, 0, none⟩) 2 2, .slice (some ⟨w6.heap.size + 1 + 1, 0, none⟩) 3 3] (andCls ((j : Int) + 1) A1 D1) := ((ClsIn.one56 q1 (n := 2) rfl (by omega) (hno 0)).more56 (ClsIn.one56 q2 (n := 2) rfl (by omega) (hno 1))).more56 (ClsIn.one56 q3 (n := 3) rfl (by omega) (hno 2))
            have hra := hcb.r.ch hcA (by simp)
            have k1 := hcb.k.cell (i := 1) rfl
            have HFIN := Lib.hid (fun (w4 : World) (gb gc : Nat) hr hc4 hf => CB.step (gb := gb) (gc := gc) (w4 := w4) (n := (nodesCls G.nodes (natInts ms) j).length + 3) hcb hcA hcl3 (by rw [List.length_append]; rfl) hr hc4 hf rfl)
            have HCHA := Lib.hid (fun (w4 : World) (hc4 : Ch (Value.slice oa (nodesCls G.nodes (natInts ms) j).length oc).ownBlock.toList ((((w6.alloc (.cells #[.int .i64 (-((j : Int) + 1)), .int .i64 A1] 3)).alloc (.cells #[.int .i64 (-((j : Int) + 1)), .int .i64 D1] 3)).alloc (.cells #[.int .i64 ((j : Int) + 1), .int .i64 (-A1), .int .i64 (-D1)] 3)).alloc (.cells #[.slice (some ⟨w6.heap.size, 0, none⟩) 2 2, .slice (some ⟨w6.heap.size + 1, 0, none⟩) 2 2, .slice (some ⟨w6.heap.size + 1 + 1, 0, none⟩) 3 3] 23)) w4) (v : Value) => show Ch [bo] W3 (w4.setCell ⟨bo, 1, none⟩ v) from (((HC.out.trans HCV.out (by simp)).trans hcA (by simp)).trans hc4 (fun z hz => .inr (by have := hcb.own z hz; omega))).setCell (.inl (by simp)) _)
            have hkb := hcb.k.ch hcA (by simp)
            have hbno : bo ∉ (Value.slice oa (nodesCls G.nodes (natInts ms) j).length oc).ownBlock.toList := fun hin => by have := hcb.own _ hin; omega
            generalize (nodesCls G.nodes (natInts ms) j).length = nl at *
            have HRA := Lib.hid hra; clear hra
            have HQ4 := Lib.hid q4; clear q4
            have HKB := Lib.hid hkb; clear hkb
            have HBNO := Lib.hid hbno; clear hbno
            clear hcb hcA q1 q2 q3 hvl hno hcl3 HCB HC HCV HMR HS1 HS2
            go_wp2_with (at_builtin; go_loud (refine wpList_append_row slIntss rfl _ _ rfl (v := .slice oa nl oc) (n := nl) (xs := es) rfl HRA.out (ad := ⟨w6.heap.size + 1 + 1 + 1, 0, none⟩) (m := 3) (c := 3) (news := [.slice (some ⟨w6.heap.size, 0, none⟩) 2 2, .slice (some ⟨w6.heap.size + 1, 0, none⟩) 2 2, .slice (some ⟨w6.heap.size + 1 + 1, 0, none⟩) 3 3]) rfl rfl (news_blk HQ4.out) (by simp [Value.oneCell']) (by omega) (by omega) ?_; intro v' w4 hown4 hC4 hf4; obtain ⟨gb, gc, rfl⟩ := hown4.parts (by omega); have hb4 := HKB.out.ch hC4 HBNO.out; have k1 := hb4.cell (i := 1) rfl; have k2 := hb4.frozen (i := 1); have HO4 := Lib.hid hown4; clear hown4; have HC4 := Lib.hid hC4; clear hC4; have HF4 := Lib.hid hf4; clear hf4 hb4))
            exact ⟨⟨j + 1, _, _, by omega, by go_num, by rw [HSU.out]; exact HFIN.out w4 gb gc HO4.out HC4.out HF4.out, HCHA.out w4 HC4.out _⟩, by simp [intOf]; omega⟩
          · have q3 : ((x.k : Int) != 3) = true := by rw [bne_iff_ne]; omega
            have hcls : nodeCls G.nodes (natInts ms) j (nd : Int) = [] := by
              unfold nodeCls
              rw [HS1.out, if_neg (by simp [h3])]
            have hsu := HSUC.out
            rw [hcls, List.append_nil] at hsu
            have HSU := Lib.hid hsu; clear hsu hcls HSUC
            have hcb2 := HCB.out.same HC1.out
            rw [← HSU.out] at hcb2
            have HX := Lib.hid hcb2; clear hcb2 h3
            go_wp2_with fail
            go_roundw
            case rel => exact ⟨j + 1, _, _, by omega, by go_num, by rw [HSU.out] at HX ⊢; exact HX.out, HC.out.trans HC1.out (by simp)⟩
            case measure => simp [intOf]; omega
        · have hjm : j = m := by omega
          rw [hjm] at hcb
          clear hjm
          have HCB := Lib.hid hcb; clear hcb hk3
          have HC := Lib.hid hc; clear hc
          have hncl := nodesCls_len G.nodes (natInts ms) m
          have hrcl := fun k : Nat => rootsCls_len (natInts ms) (l.take k)
          have HNCL := Lib.hid hncl; clear hncl
          have HRCL := Lib.hid hrcl; clear hrcl
          go_wp2_with fail
          go_loopw [17] (fun i wr => ∃ (k : Nat) (v : Value) (es : List Value), k ≤ n ∧ i = .int .i64 k ∧ CB w 23 b6 bo m (nodesCls G.nodes (natInts ms) m ++ rootsCls (natInts ms) (l.take k)) v es wr ∧ Ch [bo] W3 wr) (fun i _ => n - (intOf i).toNat)
          case atStart => exact ⟨0, _, _, by omega, rfl, by rw [List.take_zero, show rootsCls (natInts ms) [] = [] from rfl, List.append_nil]; exact HCB.out, HC.out⟩
          case round =>
            clear HCB HC
            obtain ⟨k, v, es, hk, rfl, hcb, hc⟩ := hrel
            obtain ⟨oa, oc, rfl⟩ := row.shape hcb.r
            by_cases hltk : k < n
            · obtain ⟨x, hx⟩ : ∃ x, l[k]? = some x := ⟨_, List.getElem?_eq_getElem (by rw [HN.out]; exact hltk)⟩
              obtain ⟨xb, xo, rfl, c9⟩ := (HS.out.ch hcb.ch (by simp)).cells k x hx
              obtain ⟨r, hxr, hr2⟩ : ∃ r : Nat, x = (r : Int) ∧ r < 2 * G.nodes.length := by
                have hm := List.mem_of_getElem? hx
                rw [← HN1.out] at hm
                obtain ⟨d, hd, e⟩ := List.mem_map.1 hm
                exact ⟨d, e.symm, HN2.out d hd⟩
              subst hxr
              have hsu : nodesCls G.nodes (natInts ms) m ++ rootsCls (natInts ms) (l.take (k + 1)) = nodesCls G.nodes (natInts ms) m ++ rootsCls (natInts ms) (l.take k) ++ rootCls (natInts ms) r := by
                rw [List.take_add_one, hx, List.append_assoc]
                congr 1
                rw [← rootsCls_snoc]
                rfl
              obtain ⟨nl, hnl⟩ : ∃ nl, ((nodesCls G.nodes (natInts ms) m ++ rootsCls (natInts ms) (l.take k)).length) = nl := ⟨_, rfl⟩
              have hnlb : nl ≤ 300000 := by
                have h1 := HNCL.out
                have h2 := HRCL.out k
                rw [← hnl, List.length_append]
                rw [List.length_take] at h2
                omega
              have hcb' := hcb
              rw [hnl] at hcb'
              have HNL := Lib.hid hnl; clear hnl
              have HCB := Lib.hid hcb'; clear hcb' hcb
              have HC := Lib.hid hc; clear hc hx
              by_cases h0 : r = 0
              · have d0 : ((r : Int) == 0) = true := by simp [h0]
                rw [show rootCls (natInts ms) r = [[]] by unfold rootCls; rw [if_neg (by omega), if_pos (by omega)]] at hsu
                have HSU := Lib.hid hsu; clear hsu h0
                have hcb := HCB.out
                have hcA : Ch [] wr ((wr.alloc (.cells #[] 3)).alloc (.cells #[.slice (some ⟨wr.heap.size, 0, none⟩) 0 0] 23)) := ((Ch.refl _ _).alloc _).alloc _
                have q1 : blk ((wr.alloc (.cells #[] 3)).alloc (.cells #[.slice (some ⟨wr.heap.size, 0, none⟩) 0 0] 23)) wr.heap.size (intCells []) := (blk.new' _ _ rfl).alloc _
                have q4 : blk ((wr.alloc (.cells #[] 3)).alloc (.cells #[.slice (some ⟨wr.heap.size, 0, none⟩) 0 0] 23)) (wr.heap.size + 1) [.slice (some ⟨wr.heap.size, 0, none⟩) 0 0] := blk.new' _ _ (by simp)
                have hvl := fun z (hz : z ∈ b6 :: bo :: (Value.slice oa nl oc).ownBlock.toList) => show z < wr.heap.size by
                  simp only [List.mem_cons] at hz
                  rcases hz with e | e | e
                  · rw [e]; exact hcb.k6.lt
                  · rw [e]; exact hcb.k.lt
                  · exact (hcb.r.lt z (by simpa using e)).2
                have hno : wr.heap.size ∉ b6 :: bo :: (Value.slice oa nl oc).ownBlock.toList := fun hin => by have := hvl _ hin; omega
                have hcl1 : ClsIn ((wr.alloc (.cells #[] 3)).alloc (.cells #[.slice (some ⟨wr.heap.size, 0, none⟩) 0 0] 23)) (b6 :: bo :: (Value.slice oa nl oc).ownBlock.toList) [.slice (some ⟨wr.heap.size, 0, none⟩) 0 0] [[]] := ClsIn.one56 q1 (n := 0) rfl (by omega) hno
                have hra := hcb.r.ch hcA (by simp)
                have k1 := hcb.k.cell (i := 1) rfl
                have HFIN := Lib.hid (fun (w4 : World) (gb gc : Nat) hr hc4 hf => CB.step (gb := gb) (gc := gc) (w4 := w4) (n := nl + 1) hcb hcA hcl1 (by rw [List.length_append, HNL.out]; rfl) hr hc4 hf rfl)
                have HCHA := Lib.hid (fun (w4 : World) (hc4 : Ch (Value.slice oa nl oc).ownBlock.toList ((wr.alloc (.cells #[] 3)).alloc (.cells #[.slice (some ⟨wr.heap.size, 0, none⟩) 0 0] 23)) w4) (v : Value) => show Ch [bo] W3 (w4.setCell ⟨bo, 1, none⟩ v) from (((HC.out).trans hcA (by simp)).trans hc4 (fun z hz => .inr (by have := hcb.own z hz; omega))).setCell (.inl (by simp)) _)
                have hkb := hcb.k.ch hcA (by simp)
                have hbno : bo ∉ (Value.slice oa nl oc).ownBlock.toList := fun hin => by have := hcb.own _ hin; omega
                rw [HNL.out] at hra
                have HRA := Lib.hid hra; clear hra
                have HQ4 := Lib.hid q4; clear q4
                have HKB := Lib.hid hkb; clear hkb
                have HBNO := Lib.hid hbno; clear hbno
                clear hcb hcA q1 hvl hno hcl1
                go_wp2_with (at_builtin; go_loud (refine wpList_append_row slIntss rfl _ _ rfl (v := .slice oa nl oc) (n := nl) (xs := es) rfl HRA.out (ad := ⟨wr.heap.size + 1, 0, none⟩) (m := 1) (c := 1) (news := [.slice (some ⟨wr.heap.size, 0, none⟩) 0 0]) rfl rfl (news_blk HQ4.out) (by simp [Value.oneCell']) (by omega) (by omega) ?_; intro v' w4 hown4 hC4 hf4; obtain ⟨gb, gc, rfl⟩ := hown4.parts (by omega); have hb4 := HKB.out.ch hC4 HBNO.out; have k1 := hb4.cell (i := 1) rfl; have k2 := hb4.frozen (i := 1); have HO4 := Lib.hid hown4; clear hown4; have HC4 := Lib.hid hC4; clear hC4; have HF4 := Lib.hid hf4; clear hf4 hb4))
                exact ⟨⟨k + 1, _, _, by omega, by go_num, by rw [HSU.out]; exact HFIN.out w4 gb gc HO4.out HC4.out HF4.out, HCHA.out w4 HC4.out _⟩, by simp [intOf]; omega⟩
              · have d0 : ((r : Int) == 0) = false := by rw [beq_eq_false_iff_ne]; omega
                by_cases h1 : r = 1
                · have d1 : decide (1 < r) = false := decide_eq_false (by omega)
                  have d1b : decide ((1 : Int) < (r : Int)) = false := decide_eq_false (by omega)
                  rw [show rootCls (natInts ms) r = [] by unfold rootCls; rw [if_pos (by omega)], List.append_nil] at hsu
                  have HSU := Lib.hid hsu; clear hsu h0 h1
                  go_wp2_with fail
                  go_roundw
                  case rel => exact ⟨k + 1, _, _, by omega, by go_num, by rw [HSU.out]; exact HCB.out, HC.out⟩
                  case measure => simp [intOf]; omega
                · have d1 : decide (1 < r) = true := decide_eq_true (by omega)
                  have d1b : decide ((1 : Int) < (r : Int)) = true := decide_eq_true (by omega)
                  rw [show rootCls (natInts ms) r = [[litOf (natInts ms) r]] by unfold rootCls; rw [if_neg (by omega), if_neg (by omega)]] at hsu
                  have hmr := HM3.out.ch HC.out (fun q hq hin => by have := HVL.out q hq; simp at hin; omega)
                  have hl1 := fun W (h : Ch [] wr W) => HLITS.out W _ _ (hmr.ch h (by simp)) r (by omega)
                  simp only [HLIN.out] at hl1
                  have hab := litOf_bd HMK.out.asc (by rw [HML.out]; omega) r
                  generalize litOf (natInts ms) r = A1 at *
                  have HL1 := Lib.hid hl1; clear hl1 hmr
                  have HSU := Lib.hid hsu; clear hsu h0 h1
                  have k1 := HCB.out.k.cell (i := 1) rfl
                  go_wp2_with fail
                  refine Ord.St.door (fun w' => Ch [] wr w') [.fl, .ho, .fl, .fl, .fl, .fl, .rd, .ef, .ef, .ef, .ef, .fl, .ef] [0, 1, 0, 0, 0, 24, 56, 124, 252, 508, 1023, 2047, 4095] [0, 1, 2, 3, 4, 5, 6, 7, 8, 9, 10, 11, 12] mixed (by kernel_rfl) rfl ?_
                  refine Ord.St.fl2 (T' := ?_) 0 [1, 2, 3, 4, 5, 6, 7, 8, 9, 10, 11, 12] _ _ rfl (by kernel_rfl) rfl rfl rfl rfl (fun K w' hk => ?_) ?_
                  rotate_left
                  · go_step; exact hk
                  refine Ord.St.ho2 (T' := ?_) 1 [2, 3, 4, 5, 6, 7, 8, 9, 10, 11, 12] _ _ rfl (by kernel_rfl) rfl rfl rfl rfl ?_ (fun K w' hw' hk => ?_) ?_
                  rotate_left
                  · exact (Ch.refl _ _).drew
                  · have k1' := (hw'.cell (cell_lt k1) (by simp)).trans k1; go_step; exact hk
                  refine Ord.St.fl2 (T' := ?_) 2 [3, 4, 5, 6, 7, 8, 9, 10, 11, 12] _ _ rfl (by kernel_rfl) rfl rfl rfl rfl (fun K w' hk => ?_) ?_
                  rotate_left
                  · go_step; exact hk
                  refine Ord.St.fl2 (T' := ?_) 3 [4, 5, 6, 7, 8, 9, 10, 11, 12] _ _ rfl (by kernel_rfl) rfl rfl rfl rfl (fun K w' hk => ?_) ?_
                  rotate_left
                  · go_step; exact hk
                  refine Ord.St.fl2 (T' := ?_) 4 [5, 6, 7, 8, 9, 10, 11, 12] _ _ rfl (by kernel_rfl) rfl rfl rfl rfl (fun K w' hk => ?_) ?_
                  rotate_left
                  · go_step; exact hk
                  refine Ord.St.fl2 (T' := ?_) 5 [6, 7, 8, 9, 10, 11, 12] _ _ rfl (by kernel_rfl) rfl rfl rfl rfl (fun K w' hk => ?_) ?_
                  rotate_left
                  · go_step; exact hk
                  refine Ord.St.rd2 (T' := ?_) 6 [7, 8, 9, 10, 11, 12] _ _ rfl (by kernel_rfl) rfl rfl rfl rfl (fun K hk => ?_) ?_
                  rotate_left
                  · go_step; exact hk
                  refine Ord.St.efC 7 [8, 9, 10, 11, 12] _ rfl (by kernel_rfl) (fun K hK => ?_)
                  obtain ⟨Wc, hWc⟩ : ∃ Wc, Wc = wr.drew := ⟨_, rfl⟩
                  try rw [← hWc]
                  have hcd : Ch [] wr Wc := by rw [hWc]; exact (Ch.refl _ _).drew
                  clear hWc
                  have hq := HL1.out Wc hcd
                  have HQ := Lib.hid hq; clear hq HL1
                  have HCD := Lib.hid hcd; clear hcd
                  go_wp2_with fail
                  refine HQ.out.mono ?_
                  rintro e w5 ⟨rfl, hcs⟩
                  have HCV := Lib.hid (HCD.out.trans hcs (by simp)); clear hcs HQ HCD
                  go_wp2_with fail
                  refine ⟨rfl, hK _ _ ?_ ?_⟩
                  · exact HCV.out
                  clear hK K
                  refine Ord.St.efC 8 [9, 10, 11, 12] _ rfl (by kernel_rfl) (fun K hK => ?_)
                  go_wp2_with fail
                  refine ⟨rfl, hK _ _ ?_ ?_⟩
                  · exact HCV.out.alloc _
                  clear hK K
                  refine Ord.St.efC 9 [10, 11, 12] _ rfl (by kernel_rfl) (fun K hK => ?_)
                  go_wp2_with fail
                  refine ⟨rfl, hK _ _ ?_ ?_⟩
                  · exact (HCV.out.alloc _).alloc _
                  clear hK K
                  refine Ord.St.ef 10 [11, 12] _ rfl (by kernel_rfl) (fun K hK => ?_)
                  have hcb := HCB.out.same HCV.out
                  have hcA : Ch [] w5 ((w5.alloc (.cells #[.int .i64 A1] 3)).alloc (.cells #[.slice (some ⟨w5.heap.size, 0, none⟩) 1 1] 23)) := ((Ch.refl _ _).alloc _).alloc _
                  have q1 : blk ((w5.alloc (.cells #[.int .i64 A1] 3)).alloc (.cells #[.slice (some ⟨w5.heap.size, 0, none⟩) 1 1] 23)) w5.heap.size (intCells [A1]) := (blk.new' _ _ rfl).alloc _
                  have q4 : blk ((w5.alloc (.cells #[.int .i64 A1] 3)).alloc (.cells #[.slice (some ⟨w5.heap.size, 0, none⟩) 1 1] 23)) (w5.heap.size + 1) [.slice (some ⟨w5.heap.size, 0, none⟩) 1 1] := blk.new' _ _ (by simp)
                  have hvl := fun z (hz : z ∈ b6 :: bo :: (Value.slice oa nl oc).ownBlock.toList) => show z < w5.heap.size by
                    simp only [List.mem_cons] at hz
                    rcases hz with e | e | e
                    · rw [e]; exact hcb.k6.lt
                    · rw [e]; exact hcb.k.lt
                    · exact (hcb.r.lt z (by simpa using e)).2
                  have hno : w5.heap.size ∉ b6 :: bo :: (Value.slice oa nl oc).ownBlock.toList := fun hin => by have := hvl _ hin; omega
                  have hcl1 : ClsIn ((w5.alloc (.cells #[.int .i64 A1] 3)).alloc (.cells #[.slice (some ⟨w5.heap.size, 0, none⟩) 1 1] 23)) (b6 :: bo :: (Value.slice oa nl oc).ownBlock.toList) [.slice (some ⟨w5.heap.size, 0, none⟩) 1 1] [[A1]] := ClsIn.one56 q1 (n := 1) rfl (by omega) hno
                  have hra := hcb.r.ch hcA (by simp)
                  have HFIN := Lib.hid (fun (w4 : World) (gb gc : Nat) hr hc4 hf => CB.step (gb := gb) (gc := gc) (w4 := w4) (n := nl + 1) hcb hcA hcl1 (by rw [List.length_append, HNL.out]; rfl) hr hc4 hf rfl)
                  have HCHA := Lib.hid (fun (w4 : World) (hc4 : Ch (Value.slice oa nl oc).ownBlock.toList ((w5.alloc (.cells #[.int .i64 A1] 3)).alloc (.cells #[.slice (some ⟨w5.heap.size, 0, none⟩) 1 1] 23)) w4) (v : Value) => show Ch [bo] W3 (w4.setCell ⟨bo, 1, none⟩ v) from (((HC.out.trans HCV.out (by simp)).trans hcA (by simp)).trans hc4 (fun z hz => .inr (by have := hcb.own z hz; omega))).setCell (.inl (by simp)) _)
                  have hkb := hcb.k.ch hcA (by simp)
                  have hbno : bo ∉ (Value.slice oa nl oc).ownBlock.toList := fun hin => by have := hcb.own _ hin; omega
                  rw [HNL.out] at hra
                  have HRA := Lib.hid hra; clear hra
                  have HQ4 := Lib.hid q4; clear q4
                  have HKB := Lib.hid hkb; clear hkb
                  have HBNO := Lib.hid hbno; clear hbno
                  clear hcb hcA q1 hvl hno hcl1
                  go_wp2_with (at_builtin; go_loud (refine wpList_append_row slIntss rfl _ _ rfl (v := .slice oa nl oc) (n := nl) (xs := es) rfl HRA.out (ad := ⟨w5.heap.size + 1, 0, none⟩) (m := 1) (c := 1) (news := [.slice (some ⟨w5.heap.size, 0, none⟩) 1 1]) rfl rfl (news_blk HQ4.out) (by simp [Value.oneCell']) (by omega) (by omega) ?_; intro v' w4 hown4 hC4 hf4; obtain ⟨gb, gc, rfl⟩ := hown4.parts (by omega); have hb4 := HKB.out.ch hC4 HBNO.out; have k1 := hb4.cell (i := 1) rfl; have k2 := hb4.frozen (i := 1); have HO4 := Lib.hid hown4; clear hown4; have HC4 := Lib.hid hC4; clear hC4; have HF4 := Lib.hid hf4; clear hf4 hb4))
                  refine ⟨rfl, hK _ _ ?_⟩; clear hK K
                  refine Ord.St.fl2 (T' := ?_) 11 [12] _ _ rfl (by kernel_rfl) rfl rfl rfl rfl (fun K w' hk => ?_) ?_
                  rotate_left
                  · go_step; exact hk
                  refine Ord.St.ef 12 [] _ rfl (by kernel_rfl) (fun K hK => ?_)
                  go_wp2_with fail
                  refine ⟨rfl, hK _ _ ?_⟩; clear hK K
                  refine Ord.St.nil ?_
                  go_wp2_with fail
                  exact ⟨⟨k + 1, _, _, by omega, by go_num, by rw [HSU.out]; exact HFIN.out w4 gb gc HO4.out HC4.out HF4.out, HCHA.out w4 HC4.out _⟩, by simp [intOf]; omega⟩
            · have hkn : k = n := by omega
              rw [hkn, List.take_of_length_le (by rw [HN.out]; exact Nat.le_refl _)] at hcb
              have hmr := HM3.out.ch hc (fun q hq hin => by have := HVL.out q hq; simp at hin; omega)
              have hce : nodesCls G.nodes (natInts ms) m ++ rootsCls (natInts ms) l = clsOf G.nodes (natInts ms) l := by unfold clsOf; rw [natInts_len, HML.out]
              rw [hce] at hcb
              have y0 := hcb.k.cell (i := 0) rfl
              have y1 := hcb.k.cell (i := 1) rfl
              have z0 := hcb.k6.cell (i := 0) rfl
              have z1 := hcb.k6.cell (i := 1) rfl
              have f0 := hcb.k6.frozen (i := 0)
              have f1 := hcb.k6.frozen (i := 1)
              have HCB := Lib.hid hcb; clear hcb hce
              have HMR := Lib.hid hmr; clear hmr
              have HC := Lib.hid hc; clear hc
              go_wp2_with fail
              obtain ⟨nl, hnl⟩ : ∃ nl, (clsOf G.nodes (natInts ms) l).length = nl := ⟨_, rfl⟩
              obtain ⟨Wf, hWf⟩ : ∃ Wf, Wf = (wr.setCell ⟨b6, 0, none⟩ (.int .i64 m)).setCell ⟨b6, 1, none⟩ (.slice oa (clsOf G.nodes (natInts ms) l).length oc) := ⟨_, rfl⟩
              rw [← hWf]
              have hcf : Ch [b6] wr Wf := by rw [hWf]; exact ((Ch.refl _ _).setCell (.inl (by simp)) _).setCell (.inl (by simp)) _
              have hbf : blk Wf b6 [.int .i64 m, .slice oa (clsOf G.nodes (natInts ms) l).length oc] := by rw [hWf]; exact (HCB.out.k6.set (i := 0) _).set (i := 1) _
              clear hWf
              have y0 := hbf.cell (i := 0) rfl
              have y1 := hbf.cell (i := 1) rfl
              refine bodyPost_ret (v := .tuple #[.agg #[.int .i64 m, .slice oa (clsOf G.nodes (natInts ms) l).length oc], .slice va m vc, .int .i64 0]) (by simp [results, Try.results73, go_sem, y0, y1]) rfl ?_
              have hl6 := HLO6.out
              have hlt6 := HCB.out.lt
              have hown := HCB.out.own
              refine ⟨.slice oa (clsOf G.nodes (natInts ms) l).length oc, .slice va m vc, es, rfl, HCB.out.r.ch hcf (fun q hq hin => ?_), HCB.out.c.ch hcf (fun q hq => .inl (by simp at hq; simp [hq])) (by simp), ?_, HCB.out.ch.trans hcf (fun q hq => .inr (by simp at hq; omega))⟩
              · have := hown q (by simpa using hq)
                simp at hin
                omega
              · simp only [natInts_len, HML.out]
                refine HMR.out.ch hcf (fun q hq hin => ?_)
                have h1 := HVL.out q hq
                have h2 := (HMR.out.lt q hq)
                simp at hin
                subst hin
                exact hvno hq
end
end Go.Proofs.Ytkedpifopclipaa
namespace Go.Proofs.Ytkedpifopclipaa
open Go.RowKit Go.Mem Go.Aig
section
variable {w : World}
set_option maxRecDepth 100000 in
set_option maxHeartbeats 1000000 in
theorem EFref_yes {a b : Option Addr} {xs ys : List Int} (n ca cb fid : Nat) (hx : xs.length = n) (hy : ys.length = n) (hn : n ≤ 1000000) (h : Sl w a xs) (h2 : Sl w b ys) (hf : ∀ (k : Nat) x y, xs[k]? = some x → ys[k]? = some y → Calls Try.prog fid #[.int .i64 x, .int .i64 y] w fun e w' => e = .returned (.bool true) ∧ w = w') (hfn : Fnv fid) :
    Calls Try.prog 75 #[.slice a n ca, .slice b n cb, .func (.func fid) #[] #[]] w fun e w' => e = .returned (.bool true) ∧ w = w' := by
  have hcf : ∀ (args : Array Value) (w : World), (callFunc fid args).run Try.prog w = .ok (.enter fid args) w := hfn
  have HF := Lib.hid hf; clear hf
  have H := Lib.hid h; clear h
  have H2 := Lib.hid h2; clear h2
  have HX := Lib.hid hx; clear hx
  have HY := Lib.hid hy; clear hy
  go_enter Try.func75, Try.ntmps75
  go_wp2_with fail
  go_loopw [17] (fun i wr => ∃ k : Nat, k ≤ n ∧ i = .int .i64 k ∧ w = wr) (fun i _ => n - (intOf i).toNat)
  case atStart => exact ⟨0, by omega, rfl, rfl⟩
  case round =>
    obtain ⟨k, hk, rfl, rfl⟩ := hrel
    by_cases hlt : k < n
    · obtain ⟨x, hx⟩ : ∃ x, xs[k]? = some x := ⟨_, List.getElem?_eq_getElem (by rw [HX.out]; exact hlt)⟩
      obtain ⟨y, hy⟩ : ∃ y, ys[k]? = some y := ⟨_, List.getElem?_eq_getElem (by rw [HY.out]; exact hlt)⟩
      have HC := Lib.hid (HF.out k x y hx hy)
      obtain ⟨b1, o1, rfl, c1⟩ := H.out.cells k x hx
      obtain ⟨b2, o2, rfl, c2⟩ := H2.out.cells k y hy
      clear hx hy
      go_wp2_with fail
      refine HC.out.mono ?_
      rintro e w' ⟨rfl, rfl⟩
      go_wp2_with fail
      go_roundw
      case rel => exact ⟨k + 1, by omega, by go_num, trivial⟩
      case measure => simp [intOf]; omega
    · go_wp2_with fail
      go_ret
      exact ⟨rfl, rfl⟩
end
end Go.Proofs.Ytkedpifopclipaa
namespace Go.Aig
theorem litOf_in {ns : List Nd} {m : List Nat} (hm : VarOk ns m) {r : Nat} (h : r / 2 ∈ m) : 1 ≤ (litOf (natInts m) r).natAbs ∧ (litOf (natInts m) r).natAbs ≤ m.length := by
  have h1 := lit_ne hm.asc h
  have hp : (natInts m).Pairwise (fun a b => a < b) := by
    unfold natInts
    rw [List.pairwise_map]
    exact hm.asc.imp (fun h => by omega)
  have h2 := varOf_le hp ((r : Int) / 2)
  have h3 : (natInts m).length = m.length := by simp [natInts]
  rw [h3] at h2
  unfold litOf at h1 ⊢
  split at h1 <;> rename_i h4
  · rw [if_pos h4]; omega
  · rw [if_neg h4]; omega
theorem cls_lits {ns : List Nd} (hw : WF ns) {m : List Nat} (hm : VarOk ns m) {l : List Nat} (hl : ∀ r ∈ l, 2 ≤ r → r / 2 ∈ m) : ∀ c ∈ clsOf ns (natInts m) (natInts l), c.length ≤ 3 ∧ ∀ x ∈ c, 1 ≤ x.natAbs ∧ x.natAbs ≤ m.length := by
  intro c hc
  have hml : (natInts m).length = m.length := by simp [natInts]
  unfold clsOf at hc
  rcases List.mem_append.1 hc with h | h
  · unfold nodesCls at h
    obtain ⟨i, hi, h⟩ := List.mem_flatMap.1 h
    rw [List.mem_range, hml] at hi
    have hg : (natInts m).getD i 0 = (m[i] : Int) := by
      rw [List.getD_eq_getElem?_getD]; simp [natInts, hi]
    rw [hg] at h
    have hmem : m[i] ∈ m := List.getElem_mem hi
    have hlt := (hm.lt _ hmem).2
    have hxn := List.getElem?_eq_getElem hlt
    obtain ⟨s1, s2⟩ := side_of hw hxn
    unfold nodeCls at h
    rw [s1] at h
    by_cases h3 : (ns[m[i]]).k = 3
    · obtain ⟨e1, e2, _⟩ := s2 h3
      obtain ⟨c1, c2⟩ := hm.cl _ hmem _ hxn h3
      have q1 := litOf_in hm c1
      have q2 := litOf_in hm c2
      rw [e1, e2] at h
      simp only [h3] at h
      unfold andCls at h
      simp at h
      rcases h with rfl | rfl | rfl
      all_goals
        refine ⟨by simp, fun x hx => ?_⟩
        simp at hx
        rcases hx with rfl | rfl | rfl <;> omega
    · simp [h3] at h
  · unfold rootsCls at h
    obtain ⟨r, hr, h⟩ := List.mem_flatMap.1 h
    obtain ⟨z, hz, rfl⟩ := List.mem_map.1 hr
    unfold rootCls at h
    by_cases h1 : z = 1
    · subst h1; simp at h
    · by_cases h0 : z = 0
      · subst h0; simp at h; subst h; simp
      · rw [if_neg (by omega), if_neg (by omega)] at h
        simp at h
        subst h
        have q1 := litOf_in hm (hl z hz (by omega))
        exact ⟨by simp, fun x hx => by simp at hx; subst hx; exact q1⟩
end Go.Aig
namespace Go.Proofs.Ytkedpifopclipaa
open Go.RowKit Go.Mem Go.Aig
end Go.Proofs.Ytkedpifopclipaa
namespace Go.Aig
open Go.Proofs.Ytkedpifopclipaa
theorem encR_cls {G : Gra} (hw : WF G.nodes) (l : List Int) (most : Int) : ∀ c ∈ (encR G l most).2.1, c.length ≤ 3 := by
  intro c hc
  unfold encR at hc
  split at hc
  · simp at hc
  · rename_i hb
    split at hc
    · simp at hc
    · split at hc
      · simp at hc
      · obtain ⟨h1, h2⟩ := nats_ok (G := G) (l := l) (by simpa using hb)
        have := cls_lits hw (mapN_ok hw (nats l)) (l := nats l) (fun r hr h9 => roots_in hw r hr (h2 r hr) h9) c
        rw [h1] at this
        exact (this hc).1
theorem encR_len {G : Gra} (hok : Ok G) (l : List Int) (most : Int) : (encR G l most).2.1.length ≤ 3 * 65536 + l.length ∧ (encR G l most).2.2.1.length ≤ 65536 ∧ (encR G l most).1 = (encR G l most).2.2.1.length := by
  have hm := mapN_len hok (nats l)
  have hr := hok.room
  have h6 := hok.most
  unfold encR
  split
  · simp
  · split
    · simp
    · split
      · simp
      · have := clsOf_len G.nodes (natInts (mapN G.nodes (nats l))) l
        rw [natInts_len] at this
        refine ⟨by simp only; omega, by simp only [natInts_len]; omega, by simp only [natInts_len]⟩
theorem encR_size {G : Gra} (hok : Ok G) (l : List Int) : sizeR G l = ((encR G l 1048576).2.2.1.length, (encR G l 1048576).2.1.length, (encR G l 1048576).2.2.2) := by
  have hm := mapN_len hok (nats l)
  have hr := hok.room
  have h6 := hok.most
  unfold sizeR encR
  split
  · rfl
  · rw [if_neg (by omega), if_neg (by omega)]
    simp only [natInts_len]
end Go.Aig
namespace Go.Proofs.Ytkedpifopclipaa
open Go.RowKit Go.Mem Go.Aig
theorem fnvwrites271 : Fnv 76 := fnv_of Try.func76 (by simp [Try.f76]) (by simp [Try.f76])
set_option maxRecDepth 100000 in
theorem writes271_is (w : World) (x : Int) : Calls Try.prog 76 #[.int .i64 x, .int .i64 x] w fun e w' => e = .returned (.bool true) ∧ w = w' := by
  have d : (x == x) = true := by simp
  go_enter Try.func76, Try.ntmps76
  go_wp2_with fail
  go_ret
  exact ⟨by simp, rfl⟩
section
variable {w : World}
set_option maxRecDepth 100000 in
set_option maxHeartbeats 8000000 in
theorem writes27_is {a : Option Addr} {n ncap : Nat} {l : List N21} (hS : NodeS w a n ncap l) (hn : n ≤ 60) {ma : Option Addr} {mn mc : Nat} {m : List Int} (hM : IntS w ma mn mc m) (hm : mn ≤ 20) (most r lit : Int) (hmb : -9223372036854775808 ≤ most ∧ most ≤ 9223372036854775807) (hrb : -9223372036854775808 ≤ r ∧ r ≤ 9223372036854775807) (hlb : -9223372036854775808 ≤ lit ∧ lit ≤ 9223372036854775807) :
    Calls Try.prog 13 #[.slice a n ncap, .slice ma mn mc, .int .i64 most, .int .i64 r, .int .i64 lit] w fun e w' => e = .returned (.bool true) ∧ Ch [] w w' := by
  have hBu := build27_is hS (by omega)
  have hMl := hM.len
  have hMb := hM.bd
  have HBU := Lib.hid hBu; clear hBu hS
  have HM := Lib.hid hM.sl; clear hM
  have HML := Lib.hid hMl; clear hMl
  have HMB := Lib.hid hMb; clear hMb
  go_enter Try.func13, Try.ntmps13
  go_wp2_with fail
  refine HBU.out.mono ?_
  rintro e w1 ⟨g, F, rb, cap, G, rfl, hb, hm2, hnl, _⟩
  clear hm2
  have hc1 := hb.ch
  have HM1 := Lib.hid (HM.out.ch hc1 (by simp)); clear HM
  have HBO := Lib.hid hb; clear hb
  have HC1 := Lib.hid hc1; clear hc1 HBU
  go_upto_region 2 with fail
  refine wp_alw ?_
  intro W2 hW2
  have b10 := alw_blk (xs := [.int .i64 G.most, .slice (some ⟨rb, 0, none⟩) G.nodes.length cap]) hW2
  have hc2 := alw_ch hW2
  clear hW2
  obtain ⟨bx, hbx⟩ : ∃ bx, bx = w1.heap.size := ⟨_, rfl⟩
  rw [← hbx] at b10 ⊢
  clear hbx
  have B10 := Lib.hid b10; clear b10
  have HB := Lib.hid (HBO.out.same hc2); clear HBO
  have HM := Lib.hid (HM1.out.ch hc2 (by simp)); clear HM1
  have HC2 := Lib.hid (HC1.out.trans hc2 (by simp)); clear HC1 hc2
  go_wp2_with fail
  go_loopw [14, 37] (fun o i wr => ∃ k : Nat, k ≤ mn ∧ i = .int .i64 k ∧ Ch [] W2 wr ∧ row wr 45 1 o k (intCells (m.take k)) ∧ ∀ q ∈ o.ownBlock.toList, W2.heap.size ≤ q) (fun _ i _ => mn - (intOf i).toNat)
  case atStart => exact ⟨0, by omega, rfl, Ch.refl _ _, ⟨rfl, .inl ⟨rfl, rfl⟩⟩, by simp⟩
  case round =>
    obtain ⟨k, hk, rfl, hc, hrow, hlo⟩ := hrel
    obtain ⟨oa, oc, rfl⟩ := row.shape hrow
    by_cases hlt : k < mn
    · obtain ⟨x, hx⟩ : ∃ x, m[k]? = some x := ⟨_, List.getElem?_eq_getElem (by rw [HML.out]; exact hlt)⟩
      obtain ⟨xb, xo, rfl, c0⟩ := (HM.out.ch hc (by simp)).cells k x hx
      have hxb := HMB.out x (List.mem_of_getElem? hx)
      have hts : m.take (k + 1) = m.take k ++ [x] := by rw [List.take_add_one, hx]; rfl
      have HTS := Lib.hid hts; clear hts
      have HC := Lib.hid hc; clear hc
      have HLO := Lib.hid hlo; clear hlo hx
      have hcA : Ch [] wr (wr.alloc (.cells #[.int .i64 x] 45)) := (Ch.refl _ _).alloc _
      have hrA := hrow.ch hcA (by simp)
      have hbA : blk (wr.alloc (.cells #[.int .i64 x] 45)) wr.heap.size [.int .i64 x] := blk.new' _ _ rfl
      have HRA := Lib.hid hrA; clear hrA hrow
      have HBA := Lib.hid hbA; clear hbA
      have HCA := Lib.hid hcA; clear hcA
      go_wp2_with (at_builtin; go_loud (refine wpList_append_row slRefs rfl _ _ rfl (v := .slice oa k oc) (n := k) (xs := intCells (m.take k)) rfl HRA.out (ad := ⟨wr.heap.size, 0, none⟩) (m := 1) (c := 1) (news := [.int .i64 x]) rfl rfl (news_blk HBA.out) (by simp [Value.oneCell']) (by omega) (by omega) ?_; intro v' w5 hown4 hC4 hf4; have HO4 := Lib.hid hown4; clear hown4; have HCC4 := Lib.hid hC4; clear hC4; have HF4 := Lib.hid hf4; clear hf4))
      go_roundw
      case rel =>
        obtain ⟨q1, q2⟩ := app_step HC.out HCA.out HLO.out HCC4.out HF4.out
        refine ⟨k + 1, by omega, by go_num, q1, ?_, q2⟩
        rw [HTS.out, show intCells (m.take k ++ [x]) = intCells (m.take k) ++ [.int .i64 x] by simp [intCells]]
        exact HO4.out
      case measure => simp [intOf]; omega
    · have hkn : k = mn := by omega
      rw [hkn, List.take_of_length_le (by rw [HML.out]; exact Nat.le_refl _)] at hrow
      rw [hkn]
      clear hkn hlo
      have hsl := Sl.of_ints hrow (by omega)
      have hal := row.alt hrow
      clear hrow
      -- what the calls that follow return, at whatever world behind wr
      have hok := (HB.out.gin).ok
      have hen := fun (W : World) (h : Ch [] wr W) => tsEncode_is ((HB.out.gin.same hc (by simp)).same h (by simp)) (a := oa) (l := m) mn oc HML.out (by omega) (hsl.ch h (by simp)) (fun x hx => (HMB.out x hx).2) (fun p hp => Nat.lt_of_lt_of_le (hal p hp) h.size) most
      have hsz := fun (W : World) (h : Ch [] wr W) => tsSize_is ((HB.out.gin.same hc (by simp)).same h (by simp)) (a := oa) (l := m) mn oc HML.out (by omega) (hsl.ch h (by simp)) (fun x hx => (HMB.out x hx).2) (fun p hp => Nat.lt_of_lt_of_le (hal p hp) h.size)
      have hre := fun (W : World) (h : Ch [] wr W) (mo : Int) (hmo : -9223372036854775808 ≤ mo ∧ mo ≤ 9223372036854775807) => r27Encode_is ((HB.out.rg.ch hc (by simp)).ch h (by simp)) (a := ma) (l := m) mn mc HML.out (by omega) ((HM.out.ch hc (by simp)).ch h (by simp)) HMB.out mo hmo
      have hef := fun (W : World) (h : Ch [] wr W) => EFref_yes (w := W) (a := oa) (b := ma) (xs := m) (ys := m) mn oc mc 76 HML.out HML.out (by omega) (hsl.ch h (by simp)) ((HM.out.ch hc (by simp)).ch h (by simp)) (fun k x y hx hy => by rw [hx] at hy; cases hy; exact writes271_is W x) fnvwrites271
      have hrf := fun (W : World) (za : Option Addr) (zn zc : Nat) (ml : List Int) (hz : ml.length = zn) (hz6 : zn ≤ 65536) (hs : Sl W za ml) => refs27_is (w := W) (a := za) (m := ml) zn zc hz (by omega) hs r lit hrb hlb
      obtain ⟨l1, l2, l3⟩ := encR_len hok m most
      obtain ⟨k1, k2, k3⟩ := encR_len hok m 1048576
      have lc := encR_cls hok.wf m most
      have hsz2 := encR_size hok m
      rw [HML.out] at l1 k1
      obtain ⟨E1, hE1⟩ : ∃ E1, encR G m most = E1 := ⟨_, rfl⟩
      obtain ⟨E2, hE2⟩ : ∃ E2, encR G m 1048576 = E2 := ⟨_, rfl⟩
      have hr1 := fun W h => hre W h most hmb
      have hr2 := fun W h => hre W h 1048576 (by omega)
      simp only [hE1] at hen hr1 l1 l2 l3 lc
      simp only [hE2] at hr2 k1 k2 k3 hsz2
      simp only [hsz2] at hsz
      clear hE1 hE2 hsz2 hre hsl hal
      obtain ⟨v1, cl1, mp1, er1⟩ := E1
      obtain ⟨v2, cl2, mp2, er2⟩ := E2
      simp only at hen hr1 hr2 hsz l1 l2 l3 lc k1 k2 k3
      obtain ⟨n1, hn1⟩ : ∃ n1, cl1.length = n1 := ⟨_, rfl⟩
      obtain ⟨p1, hp1⟩ : ∃ p1, mp1.length = p1 := ⟨_, rfl⟩
      obtain ⟨n2, hn2⟩ : ∃ n2, cl2.length = n2 := ⟨_, rfl⟩
      obtain ⟨p2, hp2⟩ : ∃ p2, mp2.length = p2 := ⟨_, rfl⟩
      rw [hn1] at l1
      rw [hp1] at l2 l3
      rw [hn2] at k1
      rw [hp2] at k2 k3
      simp only [hn2, hp2] at hsz
      subst l3
      subst k3
      have hb1 := B10.out.ch hc (by simp)
      have HEN := Lib.hid hen; clear hen
      have HR1 := Lib.hid hr1; clear hr1
      have HR2 := Lib.hid hr2; clear hr2
      have HSZ := Lib.hid hsz; clear hsz
      have HEF := Lib.hid hef; clear hef
      have HRF := Lib.hid hrf; clear hrf
      have HLC := Lib.hid lc; clear lc
      have HN1 := Lib.hid hn1; clear hn1
      have HP1 := Lib.hid hp1; clear hp1
      have HN2 := Lib.hid hn2; clear hn2
      have HP2 := Lib.hid hp2; clear hp2
      have HBX := Lib.hid hb1; clear hb1
      have HC := Lib.hid (HC2.out.trans hc (by simp)); clear hc HC2 hok
      clear HB HM B10 HMB
      go_wp2_with fail
      refine (HEN.out wr (Ch.refl _ _)).mono ?_
      rintro e w3 ⟨cv, mv, es, rfl, q1, q2, q3, hcs⟩
      simp only at q1 q2 q3 ⊢
      rw [HN1.out] at q1
      rw [HP1.out] at q3
      obtain ⟨ca, cc, rfl⟩ := row.shape q1
      obtain ⟨da, dc, rfl⟩ := row.shape q3
      have SV := Lib.hid (row.sv q1 rfl (by omega)); clear q1
      have CI := Lib.hid q2; clear q2
      have SM := Lib.hid (Sl.of_ints q3 (by omega)); clear q3
      have HX := Lib.hid hcs; clear hcs HEN
      have hx3 := HX.out
      go_upto_region 11 with fail
      refine wp_alw ?_
      intro W4 hW4
      have hb17 := alw_blk (xs := [.int .i64 v1, .slice ca n1 cc]) hW4
      have hcd := alw_ch hW4
      clear hW4
      obtain ⟨bf, hbf⟩ : ∃ bf, bf = w3.heap.size := ⟨_, rfl⟩
      rw [← hbf] at hb17 ⊢
      clear hbf
      have HX4 := Lib.hid (hx3.trans hcd (by simp)); clear hx3 HX
      have SV4 := Lib.hid (SV.out.ch hcd (by simp)); clear SV
      have CI4 := Lib.hid (CI.out.ch (O' := []) hcd (by simp) (by simp)); clear CI
      have SM4 := Lib.hid (SM.out.ch hcd (by simp)); clear SM hcd
      have HB17 := Lib.hid hb17; clear hb17
      have y0 := (HBX.out.ch HX4.out (by simp)).cell (i := 0) rfl
      have y1 := (HBX.out.ch HX4.out (by simp)).cell (i := 1) rfl
      go_wp2_with fail
      clear y0 y1
      refine (HR1.out W4 HX4.out).mono ?_
      rintro e w5 ⟨cv, mv, es2, rfl, q1, q2, q3, hcs⟩
      simp only at q1 q2 q3 ⊢
      rw [HN1.out] at q1
      rw [HP1.out] at q3
      obtain ⟨ca2, cc2, rfl⟩ := row.shape q1
      obtain ⟨da2, dc2, rfl⟩ := row.shape q3
      have SV2 := Lib.hid (row.sv q1 rfl (by omega)); clear q1
      have CI2 := Lib.hid q2; clear q2
      have SM2 := Lib.hid (Sl.of_ints q3 (by omega)); clear q3
      have HX5 := Lib.hid hcs; clear hcs HR1
      go_upto_region 12 with fail
      refine wp_alw ?_
      intro W6 hW6
      have hb20 := alw_blk (xs := [.int .i64 v1, .slice ca2 n1 cc2]) hW6
      have hcd := alw_ch hW6
      clear hW6
      obtain ⟨bg, hbg⟩ : ∃ bg, bg = w5.heap.size := ⟨_, rfl⟩
      rw [← hbg] at hb20 ⊢
      clear hbg
      have hc46 := HX5.out.trans hcd (by simp)
      have SV6 := Lib.hid (SV2.out.ch hcd (by simp)); clear SV2
      have CI6 := Lib.hid (CI2.out.ch (O' := []) hcd (by simp) (by simp)); clear CI2
      have SM6 := Lib.hid (SM2.out.ch hcd (by simp)); clear SM2 hcd HX5
      have SV4b := Lib.hid (SV4.out.ch hc46 (by simp)); clear SV4
      have CI4b := Lib.hid (CI4.out.ch (O' := []) hc46 (by simp) (by simp)); clear CI4
      have SM4b := Lib.hid (SM4.out.ch hc46 (by simp)); clear SM4
      have hb17 := HB17.out.ch hc46 (by simp)
      have HX6 := Lib.hid (HX4.out.trans hc46 (by simp)); clear HX4 hc46 HB17
      have y0 := hb17.cell (i := 0) rfl
      have y1 := hb17.cell (i := 1) rfl
      have z0 := hb20.cell (i := 0) rfl
      have z1 := hb20.cell (i := 1) rfl
      have hsm := same27_yes (w := W6) (v1 : Int) n1 cc cc2 HN1.out (by omega) (fun c hc => by have := HLC.out c hc; omega) SV4b.out SV6.out CI4b.out CI6.out
      have HSM := Lib.hid hsm; clear hsm SV4b SV6 CI4b CI6 HLC
      clear hb17 hb20
      have de : ((er1 : Int) != (er1 : Int)) = false := by simp
      have dv : ((v1 : Int) != (v1 : Int)) = false := by simp
      go_wp2_with fail
      clear y0 y1 z0 z1
      refine HSM.out.mono ?_
      rintro e w7 ⟨rfl, hcs⟩
      have HX7 := Lib.hid (HX6.out.trans hcs (by simp)); clear HSM HX6
      have SM7 := Lib.hid (SM4b.out.ch hcs (by simp)); clear SM4b
      have SM8 := Lib.hid (SM6.out.ch hcs (by simp)); clear SM6 hcs
      have hE := EQmap_same (w := w7) dc dc2 HP1.out SM7.out SM8.out
      have HE := Lib.hid hE; clear hE SM8
      go_wp2_with fail
      refine HE.out.mono ?_
      rintro e w8 ⟨rfl, hcs⟩
      have HX8 := Lib.hid (HX7.out.trans hcs (by simp)); clear HE HX7
      have SM := Lib.hid (SM7.out.ch hcs (by simp)); clear SM7 hcs
      go_wp2_with fail
      refine (HSZ.out w8 HX8.out).mono ?_
      rintro e w9 ⟨rfl, hcs⟩
      have HX9 := Lib.hid (HX8.out.trans hcs (by simp)); clear HSZ HX8
      have SM9 := Lib.hid (SM.out.ch hcs (by simp)); clear SM hcs
      have y0 := (HBX.out.ch HX9.out (by simp)).cell (i := 0) rfl
      have y1 := (HBX.out.ch HX9.out (by simp)).cell (i := 1) rfl
      go_wp2_with fail
      clear y0 y1
      refine (HR2.out w9 HX9.out).mono ?_
      rintro e w10 ⟨cv, mv, es3, rfl, q1, q2, q3, hcs⟩
      simp only at q1 q2 q3 ⊢
      rw [HN2.out] at q1
      rw [HP2.out] at q3
      obtain ⟨ca3, cc3, rfl⟩ := row.shape q1
      obtain ⟨da3, dc3, rfl⟩ := row.shape q3
      have SW := Lib.hid (Sl.of_ints q3 (by omega)); clear q3 q1 q2
      have HX10 := Lib.hid (HX9.out.trans hcs (by simp)); clear HX9 HR2
      have SM10 := Lib.hid (SM9.out.ch hcs (by simp)); clear SM9 hcs
      go_upto_region 16 with fail
      refine wp_alw ?_
      intro W11 hW11
      have hb25 := alw_blk (xs := [.int .i64 v2, .slice ca3 n2 cc3]) hW11
      have hcd := alw_ch hW11
      clear hW11
      obtain ⟨bh, hbh⟩ : ∃ bh, bh = w10.heap.size := ⟨_, rfl⟩
      rw [← hbh] at hb25 ⊢
      clear hbh
      have HX11 := Lib.hid (HX10.out.trans hcd (by simp)); clear HX10
      have SM11 := Lib.hid (SM10.out.ch hcd (by simp)); clear SM10
      have SW11 := Lib.hid (SW.out.ch hcd (by simp)); clear SW hcd
      have z1 := hb25.cell (i := 1) rfl
      clear hb25
      have de2 : ((er2 : Int) != (er2 : Int)) = false := by simp
      have dv2 : ((v2 : Int) != (v2 : Int)) = false := by simp
      have dn2 : ((n2 : Int) != (n2 : Int)) = false := by simp
      go_wp2_with fail
      clear z1
      refine (HEF.out W11 HX11.out).mono ?_
      rintro e w12 ⟨rfl, hcs0⟩
      have hcs : Ch [] W11 w12 := hcs0 ▸ Ch.refl _ _
      clear hcs0
      have SM12 := Lib.hid (SM11.out.ch hcs (by simp)); clear SM11
      have SW12 := Lib.hid (SW11.out.ch hcs (by simp)); clear SW11
      have HX12 := Lib.hid (HX11.out.trans hcs (by simp)); clear HX11 hcs HEF
      go_wp2_with fail
      refine (HRF.out w12 da v1 dc mp1 HP1.out l2 SM12.out).mono ?_
      rintro e w13 ⟨rfl, hcs⟩
      have SW13 := Lib.hid (SW12.out.ch hcs (by simp)); clear SW12
      have HX13 := Lib.hid (HX12.out.trans hcs (by simp)); clear HX12 hcs
      go_wp2_with fail
      refine (HRF.out w13 da3 v2 dc3 mp2 HP2.out k2 SW13.out).mono ?_
      rintro e w14 ⟨rfl, hcs⟩
      have HX14 := Lib.hid (HX13.out.trans hcs (by simp)); clear HX13 hcs
      go_wp2_with fail
      go_ret
      exact ⟨by simp, HC.out.trans HX14.out (by simp)⟩
end
set_option maxRecDepth 100000 in
set_option maxHeartbeats 4000000 in
theorem TseitinWrites_walk {w : World} {a : Option Addr} {n ncap : Nat} {l : List N21} (hS : NodeS w a n ncap l) {ma : Option Addr} {mn mc : Nat} {m : List Int} (hM : IntS w ma mn mc m) (most : Int) (h1 : (Lit.int .i64 most).wf) (r : Int) (h2 : (Lit.int .i64 r).wf) (lit : Int) (h3 : (Lit.int .i64 lit).wf) :
    Calls Try.prog 3 #[.slice a n ncap, .slice ma mn mc, .int .i64 most, .int .i64 r, .int .i64 lit] w fun e w' => e = .returned (.bool true) ∧ Ch [] w w' := by
  have hl1 := hS.max
  have hl1b := hS.le
  have hl2 := hM.max
  have hl2b := hM.le
  have hrd := fun g1 g2 => writes27_is hS g1 hM g2 most r lit (by simpa [Lit.wf, IntKind.min, IntKind.max, IntKind.signed, IntKind.bits] using h1) (by simpa [Lit.wf, IntKind.min, IntKind.max, IntKind.signed, IntKind.bits] using h2) (by simpa [Lit.wf, IntKind.min, IntKind.max, IntKind.signed, IntKind.bits] using h3)
  have HRD := Lib.hid hrd; clear hrd hS hM h1 h2 h3
  by_cases h1 : 60 < n
  · have d1 : decide (60 < n) = true := decide_eq_true h1
    go_enter Try.func3, Try.ntmps3
    go_wp2_with fail
    refine (awake27_is w).mono ?_
    rintro e w1 ⟨rfl, hc1⟩
    have HC1 := Lib.hid hc1; clear hc1
    go_wp2_with fail
    go_ret
    exact ⟨rfl, HC1.out⟩
  have d1 : decide (60 < n) = false := decide_eq_false h1
  by_cases h2 : 20 < mn
  · have d2 : decide (20 < mn) = true := decide_eq_true h2
    go_enter Try.func3, Try.ntmps3
    go_wp2_with fail
    refine (awake27_is w).mono ?_
    rintro e w1 ⟨rfl, hc1⟩
    have HC1 := Lib.hid hc1; clear hc1
    go_wp2_with fail
    go_ret
    exact ⟨rfl, HC1.out⟩
  have d2 : decide (20 < mn) = false := decide_eq_false h2
  have hr := HRD.out (by omega) (by omega)
  have HR := Lib.hid hr; clear hr HRD
  go_enter Try.func3, Try.ntmps3
  go_wp2_with fail
  refine HR.out.mono ?_
  rintro e w1 ⟨rfl, hc1⟩
  have HC1 := Lib.hid hc1; clear hc1 HR
  go_wp2_with fail
  refine (awake27_is w1).mono ?_
  rintro e w2 ⟨rfl, hc2⟩
  have HC2 := Lib.hid (HC1.out.trans hc2 (by simp)); clear hc2
  go_wp2_with fail
  go_ret
  exact ⟨rfl, HC2.out⟩
end Go.Proofs.Ytkedpifopclipaa
